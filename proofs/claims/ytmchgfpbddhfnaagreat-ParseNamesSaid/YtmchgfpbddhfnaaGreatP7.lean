/-
  Part 8 of the proof, shared by claims of this seat: P1Pb2.
-/
import Derived.Test.YtmchgfpbddhfnaaGreatP4
import Derived.KernelRfl
import Derived.Test.YtmchgfpbddhfnaaGreatP6
set_option maxHeartbeats 64000000
set_option linter.unusedVariables false
set_option linter.unusedSimpArgs false
section
namespace Go.Proofs.W
open Go.Vs Go.Vs.Sn
set_option maxRecDepth 1000000
theorem zk454:K g1 10000 154 (sL (sL zc342)) zr443 zm451=some (2,zr453,zm451):=by kernel_rfl
theorem zk482:K g1 10000 154 (spT 4 zc465) zr453 zm451=some (0,zr476,zm481):=by kernel_rfl
theorem zk498:K g1 10000 154 (spT 1 zc485) zr476 zm481=some (0,zr494,zm497):=by kernel_rfl
theorem zk507:K g1 10000 154 zc501 zr494 zm497=some (1,zr505,zm506):=by kernel_rfl
end Go.Proofs.W
end
