/-
  Part 7 of the proof, shared by claims of this seat: P1Pb1.
-/
import Derived.Test.YtmchgfpbddhfnaaGreatP4
import Derived.KernelRfl
import Derived.Test.YtmchgfpbddhfnaaGreatP5
set_option maxHeartbeats 64000000
set_option linter.unusedVariables false
set_option linter.unusedSimpArgs false
section
namespace Go.Proofs.W
open Go.Vs Go.Vs.Sn
set_option maxRecDepth 1000000
theorem zk398:KR g1 10000 154 (sL zc342) false 7 1 zr366 zm371=some (0,zr392,zm397):=by kernel_rfl
theorem zk425:KR g1 10000 154 (sL zc342) false 7 2 zr392 zm397=some (0,zr419,zm424):=by kernel_rfl
theorem zk449:KR g1 10000 154 (sL zc342) false 7 2 zr419 zm424=some (0,zr443,zm448):=by kernel_rfl
end Go.Proofs.W
end
