/-
  Part 8 of the proof, shared by claims of this seat: A2Pb2.
-/
import Derived.Test.YtmchgfpbddhfnaaGreatA4
import Derived.KernelRfl
import Derived.Test.YtmchgfpbddhfnaaGreatA6
set_option maxHeartbeats 64000000
set_option linter.unusedVariables false
set_option linter.unusedSimpArgs false
section
namespace Go.Proofs.W
open Go.Vs Go.Vs.Sn
set_option maxRecDepth 1000000
theorem zk454:K g3 10000 270 (spT 2 zc448) zr443 zm444=some (0,zr452,zm453):=by kernel_rfl
theorem zk461:K g3 10000 270 (sT 2 zc458) zr452 zm453=some (0,zr460,zm453):=by kernel_rfl
theorem zk478:K g3 9999 28 (spT 3 zc470) zr468 zm469=some (0,zr475,zm477):=by kernel_rfl
theorem zk490:K g3 9999 28 zc481 zr475 zm477=some (1,zr487,zm489):=by kernel_rfl
theorem zk503:K g3 10000 270 zc499 zr497 zm494=some (0,zr502,zm494):=by kernel_rfl
theorem zk519:K g3 10000 270 (spT 1 zc508) zr502 zm494=some (0,zr517,zm518):=by kernel_rfl
theorem zk526:K g3 10000 270 (sT 2 zc523) zr517 zm518=some (0,zr525,zm518):=by kernel_rfl
theorem zk542:K g3 9999 28 (spT 3 zc470) zr533 zm534=some (0,zr539,zm541):=by kernel_rfl
theorem zk553:K g3 9999 28 zc481 zr539 zm541=some (1,zr550,zm552):=by kernel_rfl
theorem zk566:K g3 10000 270 zc562 zr560 zm557=some (0,zr565,zm557):=by kernel_rfl
theorem zk579:K g3 10000 270 zc571 zr565 zm557=some (1,zr578,zm557):=by kernel_rfl
end Go.Proofs.W
end
