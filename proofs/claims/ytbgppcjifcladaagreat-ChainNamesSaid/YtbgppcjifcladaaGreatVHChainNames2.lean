/-
  A further part of the proof: C2Pb6, C2Pb7.
-/
import Derived.Test.YtbgppcjifcladaaGreatVHChainNames0
import Derived.KernelRfl
import Derived.Test.YtbgppcjifcladaaGreatVHChainNames1
set_option maxHeartbeats 64000000
set_option linter.unusedVariables false
set_option linter.unusedSimpArgs false
section
namespace Go.Proofs.W
open Go.Vs Go.Vs.Sn
set_option maxRecDepth 1000000
theorem zk556:KR 9999 49 (sL zc534) false 1 101 zr544 zm545=some (0,zr554,zm555):=by kernel_rfl
theorem zk566:KR 9999 49 (sL zc534) false 1 104 zr554 zm555=some (0,zr564,zm565):=by kernel_rfl
theorem zk575:KR 9999 49 (sL zc534) false 1 102 zr564 zm565=some (0,zr573,zm574):=by kernel_rfl
theorem zk580:K 9999 49 (sL (sL zc534)) zr573 zm574=some (1,zr579,zm574):=by kernel_rfl
theorem zk602:K 10000 251 zc598 zr596 zm593=some (0,zr601,zm593):=by kernel_rfl
theorem zk611:K 10000 251 (sT 1 zc608) zr601 zm593=some (0,zr610,zm593):=by kernel_rfl
theorem zk619:K 10000 251 zc615 zr610 zm593=some (0,zr617,zm618):=by kernel_rfl
theorem zk629:K 10000 251 zc622 zr617 zm618=some (0,zr628,zm618):=by kernel_rfl
theorem zk635:K 10000 251 zc634 zr628 zm618=some (1,zr628,zm618):=by kernel_rfl
end Go.Proofs.W
end
