/-
  Part 7 of the proof, shared by claims of this seat: R6Ek.
-/
import Derived.Test.YtlmfkfmgnkjlaaaGreatB2
import Derived.Test.YtlmfkfmgnkjlaaaGreatB5
import Derived.KernelRfl
set_option maxHeartbeats 64000000
set_option linter.unusedVariables false
set_option linter.unusedSimpArgs false
section
namespace Go.Proofs.W
open Go.Vs
set_option maxRecDepth 1000000
theorem VY:isTrue (kCall tab0 1000 zu [] Mem.zero)=true:=by kernel_rfl
end Go.Proofs.W
end
