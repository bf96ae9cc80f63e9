/-
  Part 8 of the proof, shared by claims of this seat: A4Pb1.
-/
import Derived.Test.YtmchgfpbddhfnaaGreatE5
import Derived.KernelRfl
import Derived.Test.YtmchgfpbddhfnaaGreatE6
set_option maxHeartbeats 64000000
set_option linter.unusedVariables false
set_option linter.unusedSimpArgs false
section
namespace Go.Proofs.XW
open Go.Vs Go.Vs.Sn
set_option maxRecDepth 1000000
theorem zk366:K g2 10000 47 zc355 zr350 zm351=some (1,zr363,zm365):=by kernel_rfl
end Go.Proofs.XW
end
