/-
  Part 6 of the proof, shared by claims of this seat: D1Pb0.
-/
import Derived.Test.YtbgppcjifcladaaGreatD4
import Derived.KernelRfl
set_option maxHeartbeats 64000000
set_option linter.unusedVariables false
set_option linter.unusedSimpArgs false
section
namespace Go.Proofs.W
open Go.Vs Go.Vs.Sn
set_option maxRecDepth 1000000
theorem zk19:K g0 10000 42 zc9 zr7 zm8=some (1,zr16,zm18):=by kernel_rfl
theorem zk36:K g0 10000 42 zc9 zr29 zm8=some (1,zr33,zm35):=by kernel_rfl
theorem zk47:K g0 10000 42 zc9 zr44 zm8=some (1,zr46,zm35):=by kernel_rfl
theorem zk260:K g1 10000 293 (spT 21 zc54) zr53 zm8=some (0,zr94,zm259):=by kernel_rfl
theorem zk267:K g1 10000 293 (spT 1 zc264) zr94 zm259=some (0,zr266,zm259):=by kernel_rfl
theorem zk277:KR g1 10000 293 (sL zc270) false 213 7 zr266 zm259=some (0,zr275,zm276):=by kernel_rfl
theorem zk285:KR g1 10000 293 (sL zc270) false 213 1 zr275 zm276=some (0,zr283,zm284):=by kernel_rfl
theorem zk293:KR g1 10000 293 (sL zc270) false 213 2 zr283 zm284=some (0,zr291,zm292):=by kernel_rfl
end Go.Proofs.W
end
