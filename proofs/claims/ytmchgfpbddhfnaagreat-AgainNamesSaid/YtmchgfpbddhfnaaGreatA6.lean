/-
  Part 7 of the proof, shared by claims of this seat: A2Pb1.
-/
import Derived.Test.YtmchgfpbddhfnaaGreatA4
import Derived.KernelRfl
import Derived.Test.YtmchgfpbddhfnaaGreatA5
set_option maxHeartbeats 64000000
set_option linter.unusedVariables false
set_option linter.unusedSimpArgs false
section
namespace Go.Proofs.W
open Go.Vs Go.Vs.Sn
set_option maxRecDepth 1000000
theorem zk400:K g3 10000 270 (spT 4 zc390) zr383 zm386=some (0,zr397,zm399):=by kernel_rfl
theorem zk413:K g3 10000 270 zc404 zr397 zm399=some (0,zr409,zm412):=by kernel_rfl
theorem zk425:K g3 10000 270 (spT 5 zc416) zr409 zm412=some (0,zr422,zm424):=by kernel_rfl
theorem zk445:K g3 10000 270 (spT 4 zc428) zr422 zm424=some (0,zr443,zm444):=by kernel_rfl
end Go.Proofs.W
end
