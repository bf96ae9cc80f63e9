/-
  Part 6 of the proof, shared by claims of this seat: L2Pb0.
-/
import Derived.Test.YtmchgfpbddhfnaaGreatL4
import Derived.KernelRfl
set_option maxHeartbeats 64000000
set_option linter.unusedVariables false
set_option linter.unusedSimpArgs false
section
namespace Go.Proofs.W
open Go.Vs Go.Vs.Sn
set_option maxRecDepth 1000000
theorem zk32:K g0 10000 98 (spT 4 zc3) zr1 zm2=some (0,zr23,zm31):=by kernel_rfl
theorem zk44:K g0 10000 98 (spT 1 zc35) zr23 zm31=some (0,zr42,zm43):=by kernel_rfl
end Go.Proofs.W
end
