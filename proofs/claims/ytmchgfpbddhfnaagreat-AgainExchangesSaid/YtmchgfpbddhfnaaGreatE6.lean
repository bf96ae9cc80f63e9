/-
  Part 7 of the proof, shared by claims of this seat: A4Pb0.
-/
import Derived.Test.YtmchgfpbddhfnaaGreatE5
import Derived.KernelRfl
set_option maxHeartbeats 64000000
set_option linter.unusedVariables false
set_option linter.unusedSimpArgs false
section
namespace Go.Proofs.XW
open Go.Vs Go.Vs.Sn
set_option maxRecDepth 1000000
theorem zk278:K g0 10000 19 zc271 zr269 zm270=some (1,zr275,zm277):=by kernel_rfl
theorem zk289:K g0 10000 13 zc286 zr285 zm270=some (1,zr288,zm277):=by kernel_rfl
theorem zk307:K g1 10000 13 zc301 zr300 zm270=some (1,zr304,zm306):=by kernel_rfl
theorem zk325:K g1 10000 53 zc318 zr317 zm270=some (1,zr322,zm324):=by kernel_rfl
theorem zk352:K g2 10000 47 (spT 4 zc334) zr333 zm270=some (0,zr350,zm351):=by kernel_rfl
end Go.Proofs.XW
end
