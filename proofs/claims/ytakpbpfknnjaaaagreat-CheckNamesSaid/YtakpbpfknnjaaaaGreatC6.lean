/-
  Part 7 of the proof, shared by claims of this seat: C1Pb1.
-/
import Derived.Test.YtakpbpfknnjaaaaGreatC4
import Derived.KernelRfl
import Derived.Test.YtakpbpfknnjaaaaGreatC5
set_option maxHeartbeats 64000000
set_option linter.unusedVariables false
set_option linter.unusedSimpArgs false
section
namespace Go.Proofs.W
open Go.Vs Go.Vs.Sn
set_option maxRecDepth 1000000
theorem zk2986:KR g4 10000 328 (sL zc2925) false 0 1 zr2973 zm2974=some (0,zr2984,zm2985):=by kernel_rfl
theorem zk2997:KR g4 10000 328 (sL zc2925) false 0 1 zr2984 zm2985=some (0,zr2995,zm2996):=by kernel_rfl
theorem zk3008:KR g4 10000 328 (sL zc2925) false 0 1 zr2995 zm2996=some (0,zr3006,zm3007):=by kernel_rfl
theorem zk3019:KR g4 10000 328 (sL zc2925) false 0 1 zr3006 zm3007=some (0,zr3017,zm3018):=by kernel_rfl
theorem zk3030:KR g4 10000 328 (sL zc2925) false 0 1 zr3017 zm3018=some (0,zr3028,zm3029):=by kernel_rfl
theorem zk3041:KR g4 10000 328 (sL zc2925) false 0 1 zr3028 zm3029=some (0,zr3039,zm3040):=by kernel_rfl
theorem zk3052:KR g4 10000 328 (sL zc2925) false 0 1 zr3039 zm3040=some (0,zr3050,zm3051):=by kernel_rfl
theorem zk3063:KR g4 10000 328 (sL zc2925) false 0 1 zr3050 zm3051=some (0,zr3061,zm3062):=by kernel_rfl
theorem zk3074:KR g4 10000 328 (sL zc2925) false 0 1 zr3061 zm3062=some (0,zr3072,zm3073):=by kernel_rfl
theorem zk3085:KR g4 10000 328 (sL zc2925) false 0 1 zr3072 zm3073=some (0,zr3083,zm3084):=by kernel_rfl
theorem zk3096:KR g4 10000 328 (sL zc2925) false 0 1 zr3083 zm3084=some (0,zr3094,zm3095):=by kernel_rfl
theorem zk3107:KR g4 10000 328 (sL zc2925) false 0 1 zr3094 zm3095=some (0,zr3105,zm3106):=by kernel_rfl
end Go.Proofs.W
end
