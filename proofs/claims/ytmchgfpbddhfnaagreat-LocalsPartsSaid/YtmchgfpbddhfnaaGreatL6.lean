/-
  Part 7 of the proof, shared by claims of this seat: L2Pb1.
-/
import Derived.Test.YtmchgfpbddhfnaaGreatL4
import Derived.KernelRfl
import Derived.Test.YtmchgfpbddhfnaaGreatL5
set_option maxHeartbeats 64000000
set_option linter.unusedVariables false
set_option linter.unusedSimpArgs false
section
namespace Go.Proofs.W
open Go.Vs Go.Vs.Sn
set_option maxRecDepth 1000000
theorem zk59:K g0 10000 98 zc47 zr42 zm43=some (1,zr57,zm58):=by kernel_rfl
end Go.Proofs.W
end
