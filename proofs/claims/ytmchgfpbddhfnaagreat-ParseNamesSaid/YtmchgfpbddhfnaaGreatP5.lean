/-
  Part 6 of the proof, shared by claims of this seat: P1Pb0.
-/
import Derived.Test.YtmchgfpbddhfnaaGreatP4
import Derived.KernelRfl
set_option maxHeartbeats 64000000
set_option linter.unusedVariables false
set_option linter.unusedSimpArgs false
section
namespace Go.Proofs.W
open Go.Vs Go.Vs.Sn
set_option maxRecDepth 1000000
theorem zk278:K g0 10000 19 zc271 zr269 zm270=some (1,zr275,zm277):=by kernel_rfl
theorem zk289:K g0 10000 13 zc286 zr285 zm270=some (1,zr288,zm277):=by kernel_rfl
theorem zk332:K g1 10000 154 (spT 6 zc297) zr296 zm270=some (0,zr327,zm331):=by kernel_rfl
theorem zk339:K g1 10000 154 (spT 1 zc336) zr327 zm331=some (0,zr338,zm331):=by kernel_rfl
theorem zk372:KR g1 10000 154 (sL zc342) false 7 2 zr338 zm331=some (0,zr366,zm371):=by kernel_rfl
end Go.Proofs.W
end
