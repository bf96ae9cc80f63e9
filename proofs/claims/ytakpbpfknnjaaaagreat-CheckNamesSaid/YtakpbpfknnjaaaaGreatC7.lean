/-
  Part 8 of the proof, shared by claims of this seat: C1Pb2.
-/
import Derived.Test.YtakpbpfknnjaaaaGreatC4
import Derived.KernelRfl
import Derived.Test.YtakpbpfknnjaaaaGreatC6
set_option maxHeartbeats 64000000
set_option linter.unusedVariables false
set_option linter.unusedSimpArgs false
section
namespace Go.Proofs.W
open Go.Vs Go.Vs.Sn
set_option maxRecDepth 1000000
theorem zk3118:KR g4 10000 328 (sL zc2925) false 0 1 zr3105 zm3106=some (0,zr3116,zm3117):=by kernel_rfl
theorem zk3129:KR g4 10000 328 (sL zc2925) false 0 1 zr3116 zm3117=some (0,zr3127,zm3128):=by kernel_rfl
theorem zk3140:KR g4 10000 328 (sL zc2925) false 0 1 zr3127 zm3128=some (0,zr3138,zm3139):=by kernel_rfl
theorem zk3151:KR g4 10000 328 (sL zc2925) false 0 1 zr3138 zm3139=some (0,zr3149,zm3150):=by kernel_rfl
theorem zk3162:KR g4 10000 328 (sL zc2925) false 0 1 zr3149 zm3150=some (0,zr3160,zm3161):=by kernel_rfl
theorem zk3173:KR g4 10000 328 (sL zc2925) false 0 1 zr3160 zm3161=some (0,zr3171,zm3172):=by kernel_rfl
theorem zk3184:KR g4 10000 328 (sL zc2925) false 0 1 zr3171 zm3172=some (0,zr3182,zm3183):=by kernel_rfl
theorem zk3195:KR g4 10000 328 (sL zc2925) false 0 1 zr3182 zm3183=some (0,zr3193,zm3194):=by kernel_rfl
theorem zk3206:KR g4 10000 328 (sL zc2925) false 0 1 zr3193 zm3194=some (0,zr3204,zm3205):=by kernel_rfl
theorem zk3217:KR g4 10000 328 (sL zc2925) false 0 1 zr3204 zm3205=some (0,zr3215,zm3216):=by kernel_rfl
theorem zk3228:KR g4 10000 328 (sL zc2925) false 0 1 zr3215 zm3216=some (0,zr3226,zm3227):=by kernel_rfl
theorem zk3239:KR g4 10000 328 (sL zc2925) false 0 1 zr3226 zm3227=some (0,zr3237,zm3238):=by kernel_rfl
theorem zk3250:KR g4 10000 328 (sL zc2925) false 0 1 zr3237 zm3238=some (0,zr3248,zm3249):=by kernel_rfl
end Go.Proofs.W
end
