/-
  Part 7 of the proof, shared by claims of this seat: D1Pb1.
-/
import Derived.Test.YtbgppcjifcladaaGreatD4
import Derived.KernelRfl
import Derived.Test.YtbgppcjifcladaaGreatD5
set_option maxHeartbeats 64000000
set_option linter.unusedVariables false
set_option linter.unusedSimpArgs false
section
namespace Go.Proofs.W
open Go.Vs Go.Vs.Sn
set_option maxRecDepth 1000000
theorem zk300:KR g1 10000 293 (sL zc270) false 213 1 zr291 zm292=some (0,zr298,zm299):=by kernel_rfl
theorem zk307:KR g1 10000 293 (sL zc270) false 213 1 zr298 zm299=some (0,zr305,zm306):=by kernel_rfl
theorem zk314:KR g1 10000 293 (sL zc270) false 213 1 zr305 zm306=some (0,zr312,zm313):=by kernel_rfl
theorem zk321:KR g1 10000 293 (sL zc270) false 213 1 zr312 zm313=some (0,zr319,zm320):=by kernel_rfl
end Go.Proofs.W
end
