/-
  Part 8 of the proof, shared by claims of this seat: R9Ek.
-/
import Derived.Test.YtlmfkfmgnkjlaaaGreatO2
import Derived.Test.YtlmfkfmgnkjlaaaGreatO6
import Derived.KernelRfl
set_option maxHeartbeats 64000000
set_option linter.unusedVariables false
set_option linter.unusedSimpArgs false
section
namespace Go.Proofs.W
open Go.Vs
set_option maxRecDepth 1000000
theorem V4:isTrue (kCall tab0 1000 zE [] Mem.zero)=true:=by kernel_rfl
end Go.Proofs.W
end
