/-
  Part 9 of the proof, shared by claims of this seat: C1Pb3.
-/
import Derived.Test.YtakpbpfknnjaaaaGreatC4
import Derived.KernelRfl
import Derived.Test.YtakpbpfknnjaaaaGreatC7
set_option maxHeartbeats 64000000
set_option linter.unusedVariables false
set_option linter.unusedSimpArgs false
section
namespace Go.Proofs.W
open Go.Vs Go.Vs.Sn
set_option maxRecDepth 1000000
theorem zk3261:KR g4 10000 328 (sL zc2925) false 0 1 zr3248 zm3249=some (0,zr3259,zm3260):=by kernel_rfl
theorem zk3272:KR g4 10000 328 (sL zc2925) false 0 1 zr3259 zm3260=some (0,zr3270,zm3271):=by kernel_rfl
theorem zk3283:KR g4 10000 328 (sL zc2925) false 0 1 zr3270 zm3271=some (0,zr3281,zm3282):=by kernel_rfl
theorem zk3294:KR g4 10000 328 (sL zc2925) false 0 1 zr3281 zm3282=some (0,zr3292,zm3293):=by kernel_rfl
theorem zk3299:K g4 10000 328 (sL (sL zc2925)) zr3292 zm3293=some (4,zr3298,zm3293):=by kernel_rfl
theorem zk3352:K g4 10000 328 (sT 6 zc3340) zr3298 zm3293=some (0,zr3350,zm3351):=by kernel_rfl
theorem zk3363:K g4 10000 328 (sT 5 zc3355) zr3350 zm3351=some (0,zr3361,zm3362):=by kernel_rfl
theorem zk3374:K g4 10000 328 (sT 5 zc3366) zr3361 zm3362=some (0,zr3372,zm3373):=by kernel_rfl
theorem zk3382:K g4 10000 328 zc3377 zr3372 zm3373=some (0,zr3380,zm3381):=by kernel_rfl
theorem zk3490:K g4 10000 328 (spT 8 zc3388) zr3380 zm3381=some (0,zr3420,zm3489):=by kernel_rfl
theorem zk3498:K g4 10000 328 (sT 8 zc3494) zr3420 zm3489=some (0,zr3496,zm3497):=by kernel_rfl
theorem zk3506:K g4 10000 328 (sT 8 zc3501) zr3496 zm3497=some (0,zr3504,zm3505):=by kernel_rfl
theorem zk3514:K g4 10000 328 zc3509 zr3504 zm3505=some (0,zr3512,zm3513):=by kernel_rfl
theorem zk3544:K g4 10000 328 (spT 9 zc3519) zr3512 zm3513=some (0,zr3539,zm3543):=by kernel_rfl
theorem zk3553:K g4 10000 328 zc3547 zr3539 zm3543=some (1,zr3551,zm3552):=by kernel_rfl
end Go.Proofs.W
end
