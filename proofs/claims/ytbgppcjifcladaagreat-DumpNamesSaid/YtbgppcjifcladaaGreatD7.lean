/-
  Part 8 of the proof, shared by claims of this seat: D1Pb2.
-/
import Derived.Test.YtbgppcjifcladaaGreatD4
import Derived.KernelRfl
import Derived.Test.YtbgppcjifcladaaGreatD6
set_option maxHeartbeats 64000000
set_option linter.unusedVariables false
set_option linter.unusedSimpArgs false
section
namespace Go.Proofs.W
open Go.Vs Go.Vs.Sn
set_option maxRecDepth 1000000
theorem zk328:KR g1 10000 293 (sL zc270) false 213 2 zr319 zm320=some (0,zr326,zm327):=by kernel_rfl
theorem zk332:K g1 10000 293 (sL (sL zc270)) zr326 zm327=some (4,zr331,zm327):=by kernel_rfl
theorem zk403:K g1 10000 293 (spT 14 zc347) zr331 zm327=some (0,zr383,zm402):=by kernel_rfl
theorem zk411:K g1 10000 293 zc406 zr383 zm402=some (1,zr409,zm410):=by kernel_rfl
end Go.Proofs.W
end
