/-
  Part 7 of the proof, shared by claims of this seat: R8Ek.
-/
import Derived.Test.YtlmfkfmgnkjlaaaGreatM2
import Derived.Test.YtlmfkfmgnkjlaaaGreatM5
import Derived.KernelRfl
set_option maxHeartbeats 64000000
set_option linter.unusedVariables false
set_option linter.unusedSimpArgs false
section
namespace Go.Proofs.W
open Go.Vs
set_option maxRecDepth 1000000
theorem Xy:isTrue (kCall tab0 1000 zR [] Mem.zero)=true:=by kernel_rfl
end Go.Proofs.W
end
