/-
  Part 10 of the proof, shared by claims of this seat: C1Pc, C1Tie, C1Pd.
-/
import Derived.Test.YtakpbpfknnjaaaaGreatC5
import Derived.Test.YtakpbpfknnjaaaaGreatC6
import Derived.Test.YtakpbpfknnjaaaaGreatC7
import Derived.Test.YtakpbpfknnjaaaaGreatC8
import Derived.KernelRfl
import Derived.Test.YtakpbpfknnjaaaaGreatC3
import Derived.Test.YtakpbpfknnjaaaaGreatProg
set_option maxHeartbeats 64000000
set_option linter.unusedVariables false
set_option linter.unusedSimpArgs false
open List renaming forall_mem_cons → w00
section
namespace Go.Proofs.W
open Go.Vs Go.Vs.Sn
set_option maxRecDepth 1000000
theorem zl10:zr2.length=47:=by kernel_rfl
theorem zp11:E g0 10000 47 zc4 zr2 zm3=some (outOf 1,⟨zr7,zm8⟩):=z7 (Nat.le_of_ble_eq_true rfl) zl10 zk9
theorem zf13:C g0 10001 zc [(.str [110])] Mem.zero=some (T,zm12):=z5 (fn:=zn) (n:=10000) 1 (Nat.le_of_ble_eq_true rfl) (by kernel_rfl) (by kernel_rfl) (by kernel_rfl) (by kernel_rfl) (by kernel_rfl) zp11 (by kernel_rfl)
theorem zl22:zr16.length=47:=by kernel_rfl
theorem zp23:E g0 10000 47 zc4 zr16 zm3=some (outOf 1,⟨zr20,zm8⟩):=z7 (Nat.le_of_ble_eq_true rfl) zl22 zk21
theorem zf24:C g0 10001 zc [(.str [111,110])] Mem.zero=some (T,zm12):=z5 (fn:=zn) (n:=10000) 1 (Nat.le_of_ble_eq_true rfl) (by kernel_rfl) (by kernel_rfl) (by kernel_rfl) (by kernel_rfl) (by kernel_rfl) zp23 (by kernel_rfl)
theorem zl34:zr28.length=47:=by kernel_rfl
theorem zp35:E g0 10000 47 zc4 zr28 zm3=some (outOf 1,⟨zr32,zm8⟩):=z7 (Nat.le_of_ble_eq_true rfl) zl34 zk33
theorem zf36:C g0 10001 zc [zv26] Mem.zero=some (T,zm12):=z5 (fn:=zn) (n:=10000) 1 (Nat.le_of_ble_eq_true rfl) (by kernel_rfl) (by kernel_rfl) (by kernel_rfl) (by kernel_rfl) (by kernel_rfl) zp35 (by kernel_rfl)
theorem zl45:zr39.length=47:=by kernel_rfl
theorem zp46:E g0 10000 47 zc4 zr39 zm3=some (outOf 1,⟨zr43,zm8⟩):=z7 (Nat.le_of_ble_eq_true rfl) zl45 zk44
theorem zf47:C g0 10001 zc [(.str [115,48])] Mem.zero=some (T,zm12):=z5 (fn:=zn) (n:=10000) 1 (Nat.le_of_ble_eq_true rfl) (by kernel_rfl) (by kernel_rfl) (by kernel_rfl) (by kernel_rfl) (by kernel_rfl) zp46 (by kernel_rfl)
theorem zl56:zr50.length=47:=by kernel_rfl
theorem zp57:E g0 10000 47 zc4 zr50 zm3=some (outOf 1,⟨zr54,zm8⟩):=z7 (Nat.le_of_ble_eq_true rfl) zl56 zk55
theorem zf58:C g0 10001 zc [(.str [115,49])] Mem.zero=some (T,zm12):=z5 (fn:=zn) (n:=10000) 1 (Nat.le_of_ble_eq_true rfl) (by kernel_rfl) (by kernel_rfl) (by kernel_rfl) (by kernel_rfl) (by kernel_rfl) zp57 (by kernel_rfl)
theorem zl67:zr61.length=47:=by kernel_rfl
theorem zp68:E g0 10000 47 zc4 zr61 zm3=some (outOf 1,⟨zr65,zm8⟩):=z7 (Nat.le_of_ble_eq_true rfl) zl67 zk66
theorem zf69:C g0 10001 zc [(.str [115,50])] Mem.zero=some (T,zm12):=z5 (fn:=zn) (n:=10000) 1 (Nat.le_of_ble_eq_true rfl) (by kernel_rfl) (by kernel_rfl) (by kernel_rfl) (by kernel_rfl) (by kernel_rfl) zp68 (by kernel_rfl)
theorem zl78:zr72.length=47:=by kernel_rfl
theorem zp79:E g0 10000 47 zc4 zr72 zm3=some (outOf 1,⟨zr76,zm8⟩):=z7 (Nat.le_of_ble_eq_true rfl) zl78 zk77
theorem zf80:C g0 10001 zc [(.str [115,51])] Mem.zero=some (T,zm12):=z5 (fn:=zn) (n:=10000) 1 (Nat.le_of_ble_eq_true rfl) (by kernel_rfl) (by kernel_rfl) (by kernel_rfl) (by kernel_rfl) (by kernel_rfl) zp79 (by kernel_rfl)
theorem zl89:zr83.length=47:=by kernel_rfl
theorem zp90:E g0 10000 47 zc4 zr83 zm3=some (outOf 1,⟨zr87,zm8⟩):=z7 (Nat.le_of_ble_eq_true rfl) zl89 zk88
theorem zf91:C g0 10001 zc [(.str [115,52])] Mem.zero=some (T,zm12):=z5 (fn:=zn) (n:=10000) 1 (Nat.le_of_ble_eq_true rfl) (by kernel_rfl) (by kernel_rfl) (by kernel_rfl) (by kernel_rfl) (by kernel_rfl) zp90 (by kernel_rfl)
theorem zl100:zr94.length=47:=by kernel_rfl
theorem zp101:E g0 10000 47 zc4 zr94 zm3=some (outOf 1,⟨zr98,zm8⟩):=z7 (Nat.le_of_ble_eq_true rfl) zl100 zk99
theorem zf102:C g0 10001 zc [(.str [115,53])] Mem.zero=some (T,zm12):=z5 (fn:=zn) (n:=10000) 1 (Nat.le_of_ble_eq_true rfl) (by kernel_rfl) (by kernel_rfl) (by kernel_rfl) (by kernel_rfl) (by kernel_rfl) zp101 (by kernel_rfl)
theorem zl111:zr105.length=47:=by kernel_rfl
theorem zp112:E g0 10000 47 zc4 zr105 zm3=some (outOf 1,⟨zr109,zm8⟩):=z7 (Nat.le_of_ble_eq_true rfl) zl111 zk110
theorem zf113:C g0 10001 zc [(.str [115,54])] Mem.zero=some (T,zm12):=z5 (fn:=zn) (n:=10000) 1 (Nat.le_of_ble_eq_true rfl) (by kernel_rfl) (by kernel_rfl) (by kernel_rfl) (by kernel_rfl) (by kernel_rfl) zp112 (by kernel_rfl)
theorem zl122:zr116.length=47:=by kernel_rfl
theorem zp123:E g0 10000 47 zc4 zr116 zm3=some (outOf 1,⟨zr120,zm8⟩):=z7 (Nat.le_of_ble_eq_true rfl) zl122 zk121
theorem zf124:C g0 10001 zc [(.str [115,55])] Mem.zero=some (T,zm12):=z5 (fn:=zn) (n:=10000) 1 (Nat.le_of_ble_eq_true rfl) (by kernel_rfl) (by kernel_rfl) (by kernel_rfl) (by kernel_rfl) (by kernel_rfl) zp123 (by kernel_rfl)
theorem zl132:zr127.length=47:=by kernel_rfl
theorem zp133:E g0 10000 47 zc4 zr127 zm3=some (outOf 1,⟨zr130,zm8⟩):=z7 (Nat.le_of_ble_eq_true rfl) zl132 zk131
theorem zf134:C g0 10001 zc [(.str [103])] Mem.zero=some (T,zm12):=z5 (fn:=zn) (n:=10000) 1 (Nat.le_of_ble_eq_true rfl) (by kernel_rfl) (by kernel_rfl) (by kernel_rfl) (by kernel_rfl) (by kernel_rfl) zp133 (by kernel_rfl)
theorem zl142:zr137.length=47:=by kernel_rfl
theorem zp143:E g0 10000 47 zc4 zr137 zm3=some (outOf 1,⟨zr140,zm8⟩):=z7 (Nat.le_of_ble_eq_true rfl) zl142 zk141
theorem zf144:C g0 10001 zc [(.str [97])] Mem.zero=some (T,zm12):=z5 (fn:=zn) (n:=10000) 1 (Nat.le_of_ble_eq_true rfl) (by kernel_rfl) (by kernel_rfl) (by kernel_rfl) (by kernel_rfl) (by kernel_rfl) zp143 (by kernel_rfl)
theorem zl152:zr147.length=47:=by kernel_rfl
theorem zp153:E g0 10000 47 zc4 zr147 zm3=some (outOf 1,⟨zr150,zm8⟩):=z7 (Nat.le_of_ble_eq_true rfl) zl152 zk151
theorem zf154:C g0 10001 zc [(.str [104])] Mem.zero=some (T,zm12):=z5 (fn:=zn) (n:=10000) 1 (Nat.le_of_ble_eq_true rfl) (by kernel_rfl) (by kernel_rfl) (by kernel_rfl) (by kernel_rfl) (by kernel_rfl) zp153 (by kernel_rfl)
theorem zl162:zr157.length=47:=by kernel_rfl
theorem zp163:E g0 10000 47 zc4 zr157 zm3=some (outOf 1,⟨zr160,zm8⟩):=z7 (Nat.le_of_ble_eq_true rfl) zl162 zk161
theorem zf164:C g0 10001 zc [(.str [102])] Mem.zero=some (T,zm12):=z5 (fn:=zn) (n:=10000) 1 (Nat.le_of_ble_eq_true rfl) (by kernel_rfl) (by kernel_rfl) (by kernel_rfl) (by kernel_rfl) (by kernel_rfl) zp163 (by kernel_rfl)
theorem zl190:zr180.length=118:=by kernel_rfl
theorem zp191:E g0 10000 118 zc181 zr180 zm3=some (outOf 1,⟨zr186,zm188⟩):=z7 (Nat.le_of_ble_eq_true rfl) zl190 zk189
theorem zf192:C g0 10001 zh [(N 4 zw176),(i 0)] Mem.zero=some (T,zm12):=z5 (fn:=zC) (n:=10000) 1 (Nat.le_of_ble_eq_true rfl) (by kernel_rfl) (by kernel_rfl) (by kernel_rfl) (by kernel_rfl) (by kernel_rfl) zp191 (by kernel_rfl)
theorem zl201:zr195.length=118:=by kernel_rfl
theorem zp202:E g0 10000 118 zc181 zr195 zm3=some (outOf 1,⟨zr197,zm199⟩):=z7 (Nat.le_of_ble_eq_true rfl) zl201 zk200
theorem zf203:C g0 10001 zh [(N 4 zw176),(i 1)] Mem.zero=some (T,zm12):=z5 (fn:=zC) (n:=10000) 1 (Nat.le_of_ble_eq_true rfl) (by kernel_rfl) (by kernel_rfl) (by kernel_rfl) (by kernel_rfl) (by kernel_rfl) zp202 (by kernel_rfl)
theorem zl212:zr206.length=118:=by kernel_rfl
theorem zp213:E g0 10000 118 zc181 zr206 zm3=some (outOf 1,⟨zr208,zm210⟩):=z7 (Nat.le_of_ble_eq_true rfl) zl212 zk211
theorem zf214:C g0 10001 zh [(N 4 zw176),(i 2)] Mem.zero=some (T,zm12):=z5 (fn:=zC) (n:=10000) 1 (Nat.le_of_ble_eq_true rfl) (by kernel_rfl) (by kernel_rfl) (by kernel_rfl) (by kernel_rfl) (by kernel_rfl) zp213 (by kernel_rfl)
theorem zl224:zr217.length=118:=by kernel_rfl
theorem zp225:E g0 10000 118 zc181 zr217 zm3=some (outOf 1,⟨zr220,zm222⟩):=z7 (Nat.le_of_ble_eq_true rfl) zl224 zk223
theorem zf226:C g0 10001 zh [(N 4 zw176),(i 3)] Mem.zero=some (T,zm12):=z5 (fn:=zC) (n:=10000) 1 (Nat.le_of_ble_eq_true rfl) (by kernel_rfl) (by kernel_rfl) (by kernel_rfl) (by kernel_rfl) (by kernel_rfl) zp225 (by kernel_rfl)
theorem zl242:zr229.length=118:=by kernel_rfl
theorem zp243:E g0 10000 118 zc181 zr229 zm3=some (outOf 1,⟨zr235,zm240⟩):=z7 (Nat.le_of_ble_eq_true rfl) zl242 zk241
theorem zf245:C g0 10001 zh [(N 4 zw176),(i 4)] Mem.zero=some (T,zm244):=z5 (fn:=zC) (n:=10000) 1 (Nat.le_of_ble_eq_true rfl) (by kernel_rfl) (by kernel_rfl) (by kernel_rfl) (by kernel_rfl) (by kernel_rfl) zp243 (by kernel_rfl)
theorem zl256:zr248.length=118:=by kernel_rfl
theorem zp257:E g0 10000 118 zc181 zr248 zm3=some (outOf 1,⟨zr252,zm254⟩):=z7 (Nat.le_of_ble_eq_true rfl) zl256 zk255
theorem zf258:C g0 10001 zh [(N 4 zw176),(i 5)] Mem.zero=some (T,zm12):=z5 (fn:=zC) (n:=10000) 1 (Nat.le_of_ble_eq_true rfl) (by kernel_rfl) (by kernel_rfl) (by kernel_rfl) (by kernel_rfl) (by kernel_rfl) zp257 (by kernel_rfl)
theorem zl268:zr261.length=118:=by kernel_rfl
theorem zp269:E g0 10000 118 zc181 zr261 zm3=some (outOf 1,⟨zr264,zm266⟩):=z7 (Nat.le_of_ble_eq_true rfl) zl268 zk267
theorem zf270:C g0 10001 zh [(N 4 zw176),(i 6)] Mem.zero=some (T,zm12):=z5 (fn:=zC) (n:=10000) 1 (Nat.le_of_ble_eq_true rfl) (by kernel_rfl) (by kernel_rfl) (by kernel_rfl) (by kernel_rfl) (by kernel_rfl) zp269 (by kernel_rfl)
theorem zl277:zr273.length=118:=by kernel_rfl
theorem zp278:E g0 10000 118 zc181 zr273 zm3=some (outOf 1,⟨zr275,zm188⟩):=z7 (Nat.le_of_ble_eq_true rfl) zl277 zk276
theorem zf279:C g0 10001 zh [(N 4 zw176),(i 7)] Mem.zero=some (T,zm12):=z5 (fn:=zC) (n:=10000) 1 (Nat.le_of_ble_eq_true rfl) (by kernel_rfl) (by kernel_rfl) (by kernel_rfl) (by kernel_rfl) (by kernel_rfl) zp278 (by kernel_rfl)
theorem zl291:zr284.length=118:=by kernel_rfl
theorem zp292:E g0 10000 118 zc181 zr284 zm3=some (outOf 1,⟨zr287,zm289⟩):=z7 (Nat.le_of_ble_eq_true rfl) zl291 zk290
theorem zf293:C g0 10001 zh zw282 Mem.zero=some (T,zm12):=z5 (fn:=zC) (n:=10000) 1 (Nat.le_of_ble_eq_true rfl) (by kernel_rfl) (by kernel_rfl) (by kernel_rfl) (by kernel_rfl) (by kernel_rfl) zp292 (by kernel_rfl)
theorem zl301:zr297.length=118:=by kernel_rfl
theorem zp302:E g0 10000 118 zc181 zr297 zm3=some (outOf 1,⟨zr299,zm188⟩):=z7 (Nat.le_of_ble_eq_true rfl) zl301 zk300
theorem zf303:C g0 10001 zh zw295 Mem.zero=some (T,zm12):=z5 (fn:=zC) (n:=10000) 1 (Nat.le_of_ble_eq_true rfl) (by kernel_rfl) (by kernel_rfl) (by kernel_rfl) (by kernel_rfl) (by kernel_rfl) zp302 (by kernel_rfl)
theorem zl319:zr308.length=147:=by kernel_rfl
theorem zp320:E g0 10000 147 zc309 zr308 zm3=some (outOf 1,⟨zr315,zm317⟩):=z7 (Nat.le_of_ble_eq_true rfl) zl319 zk318
theorem zf322:C g0 10001 z9 [(u 4)] Mem.zero=some (zv306,zm321):=z5 (fn:=zd) (n:=10000) 1 (Nat.le_of_ble_eq_true rfl) (by kernel_rfl) (by kernel_rfl) (by kernel_rfl) (by kernel_rfl) (by kernel_rfl) zp320 (by kernel_rfl)
theorem zl337:zr329.length=147:=by kernel_rfl
theorem zp338:E g0 10000 147 zc309 zr329 zm3=some (outOf 1,⟨zr333,zm335⟩):=z7 (Nat.le_of_ble_eq_true rfl) zl337 zk336
theorem zf340:C g0 10001 z9 [(u 1)] Mem.zero=some (zv327,zm339):=z5 (fn:=zd) (n:=10000) 1 (Nat.le_of_ble_eq_true rfl) (by kernel_rfl) (by kernel_rfl) (by kernel_rfl) (by kernel_rfl) (by kernel_rfl) zp338 (by kernel_rfl)
theorem zl357:zr346.length=147:=by kernel_rfl
theorem zp358:E g0 10000 147 zc309 zr346 zm3=some (outOf 1,⟨zr353,zm355⟩):=z7 (Nat.le_of_ble_eq_true rfl) zl357 zk356
theorem zf359:C g0 10001 z9 [(u 34)] Mem.zero=some (zv344,zm321):=z5 (fn:=zd) (n:=10000) 1 (Nat.le_of_ble_eq_true rfl) (by kernel_rfl) (by kernel_rfl) (by kernel_rfl) (by kernel_rfl) (by kernel_rfl) zp358 (by kernel_rfl)
theorem zl372:zr364.length=147:=by kernel_rfl
theorem zp373:E g0 10000 147 zc309 zr364 zm3=some (outOf 1,⟨zr368,zm370⟩):=z7 (Nat.le_of_ble_eq_true rfl) zl372 zk371
theorem zf374:C g0 10001 z9 [(u 2)] Mem.zero=some (zv362,zm339):=z5 (fn:=zd) (n:=10000) 1 (Nat.le_of_ble_eq_true rfl) (by kernel_rfl) (by kernel_rfl) (by kernel_rfl) (by kernel_rfl) (by kernel_rfl) zp373 (by kernel_rfl)
theorem zl388:zr379.length=147:=by kernel_rfl
theorem zp389:E g0 10000 147 zc309 zr379 zm3=some (outOf 1,⟨zr384,zm386⟩):=z7 (Nat.le_of_ble_eq_true rfl) zl388 zk387
theorem zf390:C g0 10001 z9 [(u 3)] Mem.zero=some (zv377,zm339):=z5 (fn:=zd) (n:=10000) 1 (Nat.le_of_ble_eq_true rfl) (by kernel_rfl) (by kernel_rfl) (by kernel_rfl) (by kernel_rfl) (by kernel_rfl) zp389 (by kernel_rfl)
theorem zl403:zr395.length=147:=by kernel_rfl
theorem zp404:E g0 10000 147 zc309 zr395 zm3=some (outOf 1,⟨zr399,zm401⟩):=z7 (Nat.le_of_ble_eq_true rfl) zl403 zk402
theorem zf405:C g0 10001 z9 [(u 5)] Mem.zero=some (zv393,zm339):=z5 (fn:=zd) (n:=10000) 1 (Nat.le_of_ble_eq_true rfl) (by kernel_rfl) (by kernel_rfl) (by kernel_rfl) (by kernel_rfl) (by kernel_rfl) zp404 (by kernel_rfl)
theorem zl417:zr410.length=147:=by kernel_rfl
theorem zp418:E g0 10000 147 zc309 zr410 zm3=some (outOf 1,⟨zr413,zm415⟩):=z7 (Nat.le_of_ble_eq_true rfl) zl417 zk416
theorem zf420:C g0 10001 z9 [(u 6)] Mem.zero=some (zv408,zm419):=z5 (fn:=zd) (n:=10000) 1 (Nat.le_of_ble_eq_true rfl) (by kernel_rfl) (by kernel_rfl) (by kernel_rfl) (by kernel_rfl) (by kernel_rfl) zp418 (by kernel_rfl)
theorem zl427:zr423.length=147:=by kernel_rfl
theorem zp428:E g0 10000 147 zc309 zr423 zm3=some (outOf 1,⟨zr425,zm415⟩):=z7 (Nat.le_of_ble_eq_true rfl) zl427 zk426
theorem zf429:C g0 10001 z9 [(u 9)] Mem.zero=some (zv408,zm419):=z5 (fn:=zd) (n:=10000) 1 (Nat.le_of_ble_eq_true rfl) (by kernel_rfl) (by kernel_rfl) (by kernel_rfl) (by kernel_rfl) (by kernel_rfl) zp428 (by kernel_rfl)
theorem zl437:zr432.length=147:=by kernel_rfl
theorem zp438:E g0 10000 147 zc309 zr432 zm3=some (outOf 1,⟨zr435,zm415⟩):=z7 (Nat.le_of_ble_eq_true rfl) zl437 zk436
theorem zf439:C g0 10001 z9 [(u 10)] Mem.zero=some (zv408,zm419):=z5 (fn:=zd) (n:=10000) 1 (Nat.le_of_ble_eq_true rfl) (by kernel_rfl) (by kernel_rfl) (by kernel_rfl) (by kernel_rfl) (by kernel_rfl) zp438 (by kernel_rfl)
theorem zl447:zr442.length=147:=by kernel_rfl
theorem zp448:E g0 10000 147 zc309 zr442 zm3=some (outOf 1,⟨zr445,zm415⟩):=z7 (Nat.le_of_ble_eq_true rfl) zl447 zk446
theorem zf449:C g0 10001 z9 [(u 11)] Mem.zero=some (zv408,zm419):=z5 (fn:=zd) (n:=10000) 1 (Nat.le_of_ble_eq_true rfl) (by kernel_rfl) (by kernel_rfl) (by kernel_rfl) (by kernel_rfl) (by kernel_rfl) zp448 (by kernel_rfl)
theorem zl457:zr452.length=147:=by kernel_rfl
theorem zp458:E g0 10000 147 zc309 zr452 zm3=some (outOf 1,⟨zr455,zm401⟩):=z7 (Nat.le_of_ble_eq_true rfl) zl457 zk456
theorem zf459:C g0 10001 z9 [(u 12)] Mem.zero=some (zv393,zm339):=z5 (fn:=zd) (n:=10000) 1 (Nat.le_of_ble_eq_true rfl) (by kernel_rfl) (by kernel_rfl) (by kernel_rfl) (by kernel_rfl) (by kernel_rfl) zp458 (by kernel_rfl)
theorem zl474:zr464.length=147:=by kernel_rfl
theorem zp475:E g0 10000 147 zc309 zr464 zm3=some (outOf 1,⟨zr470,zm472⟩):=z7 (Nat.le_of_ble_eq_true rfl) zl474 zk473
theorem zf476:C g0 10001 z9 [(u 13)] Mem.zero=some (zv462,zm419):=z5 (fn:=zd) (n:=10000) 1 (Nat.le_of_ble_eq_true rfl) (by kernel_rfl) (by kernel_rfl) (by kernel_rfl) (by kernel_rfl) (by kernel_rfl) zp475 (by kernel_rfl)
theorem zl491:zr481.length=147:=by kernel_rfl
theorem zp492:E g0 10000 147 zc309 zr481 zm3=some (outOf 1,⟨zr487,zm489⟩):=z7 (Nat.le_of_ble_eq_true rfl) zl491 zk490
theorem zf493:C g0 10001 z9 [(u 14)] Mem.zero=some (zv479,zm419):=z5 (fn:=zd) (n:=10000) 1 (Nat.le_of_ble_eq_true rfl) (by kernel_rfl) (by kernel_rfl) (by kernel_rfl) (by kernel_rfl) (by kernel_rfl) zp492 (by kernel_rfl)
theorem zl500:zr496.length=147:=by kernel_rfl
theorem zp501:E g0 10000 147 zc309 zr496 zm3=some (outOf 1,⟨zr498,zm317⟩):=z7 (Nat.le_of_ble_eq_true rfl) zl500 zk499
theorem zf502:C g0 10001 z9 [(u 15)] Mem.zero=some (zv306,zm321):=z5 (fn:=zd) (n:=10000) 1 (Nat.le_of_ble_eq_true rfl) (by kernel_rfl) (by kernel_rfl) (by kernel_rfl) (by kernel_rfl) (by kernel_rfl) zp501 (by kernel_rfl)
theorem zl510:zr505.length=147:=by kernel_rfl
theorem zp511:E g0 10000 147 zc309 zr505 zm3=some (outOf 1,⟨zr508,zm401⟩):=z7 (Nat.le_of_ble_eq_true rfl) zl510 zk509
theorem zf512:C g0 10001 z9 [(u 16)] Mem.zero=some (zv393,zm339):=z5 (fn:=zd) (n:=10000) 1 (Nat.le_of_ble_eq_true rfl) (by kernel_rfl) (by kernel_rfl) (by kernel_rfl) (by kernel_rfl) (by kernel_rfl) zp511 (by kernel_rfl)
theorem zl525:zr517.length=147:=by kernel_rfl
theorem zp526:E g0 10000 147 zc309 zr517 zm3=some (outOf 1,⟨zr521,zm523⟩):=z7 (Nat.le_of_ble_eq_true rfl) zl525 zk524
theorem zf527:C g0 10001 z9 [(u 17)] Mem.zero=some (zv515,zm339):=z5 (fn:=zd) (n:=10000) 1 (Nat.le_of_ble_eq_true rfl) (by kernel_rfl) (by kernel_rfl) (by kernel_rfl) (by kernel_rfl) (by kernel_rfl) zp526 (by kernel_rfl)
theorem zl535:zr530.length=147:=by kernel_rfl
theorem zp536:E g0 10000 147 zc309 zr530 zm3=some (outOf 1,⟨zr533,zm401⟩):=z7 (Nat.le_of_ble_eq_true rfl) zl535 zk534
theorem zf537:C g0 10001 z9 [(u 18)] Mem.zero=some (zv393,zm339):=z5 (fn:=zd) (n:=10000) 1 (Nat.le_of_ble_eq_true rfl) (by kernel_rfl) (by kernel_rfl) (by kernel_rfl) (by kernel_rfl) (by kernel_rfl) zp536 (by kernel_rfl)
theorem zl545:zr540.length=147:=by kernel_rfl
theorem zp546:E g0 10000 147 zc309 zr540 zm3=some (outOf 1,⟨zr543,zm415⟩):=z7 (Nat.le_of_ble_eq_true rfl) zl545 zk544
theorem zf547:C g0 10001 z9 [(u 19)] Mem.zero=some (zv408,zm419):=z5 (fn:=zd) (n:=10000) 1 (Nat.le_of_ble_eq_true rfl) (by kernel_rfl) (by kernel_rfl) (by kernel_rfl) (by kernel_rfl) (by kernel_rfl) zp546 (by kernel_rfl)
theorem zl561:zr552.length=147:=by kernel_rfl
theorem zp562:E g0 10000 147 zc309 zr552 zm3=some (outOf 1,⟨zr557,zm559⟩):=z7 (Nat.le_of_ble_eq_true rfl) zl561 zk560
theorem zf563:C g0 10001 z9 [(u 20)] Mem.zero=some (zv550,zm419):=z5 (fn:=zd) (n:=10000) 1 (Nat.le_of_ble_eq_true rfl) (by kernel_rfl) (by kernel_rfl) (by kernel_rfl) (by kernel_rfl) (by kernel_rfl) zp562 (by kernel_rfl)
theorem zl571:zr566.length=147:=by kernel_rfl
theorem zp572:E g0 10000 147 zc309 zr566 zm3=some (outOf 1,⟨zr569,zm401⟩):=z7 (Nat.le_of_ble_eq_true rfl) zl571 zk570
theorem zf573:C g0 10001 z9 [(u 21)] Mem.zero=some (zv393,zm339):=z5 (fn:=zd) (n:=10000) 1 (Nat.le_of_ble_eq_true rfl) (by kernel_rfl) (by kernel_rfl) (by kernel_rfl) (by kernel_rfl) (by kernel_rfl) zp572 (by kernel_rfl)
theorem zl587:zr578.length=147:=by kernel_rfl
theorem zp588:E g0 10000 147 zc309 zr578 zm3=some (outOf 1,⟨zr583,zm585⟩):=z7 (Nat.le_of_ble_eq_true rfl) zl587 zk586
theorem zf589:C g0 10001 z9 [(u 23)] Mem.zero=some (zv576,zm339):=z5 (fn:=zd) (n:=10000) 1 (Nat.le_of_ble_eq_true rfl) (by kernel_rfl) (by kernel_rfl) (by kernel_rfl) (by kernel_rfl) (by kernel_rfl) zp588 (by kernel_rfl)
theorem zl603:zr594.length=147:=by kernel_rfl
theorem zp604:E g0 10000 147 zc309 zr594 zm3=some (outOf 1,⟨zr599,zm601⟩):=z7 (Nat.le_of_ble_eq_true rfl) zl603 zk602
theorem zf605:C g0 10001 z9 [(u 24)] Mem.zero=some (zv592,zm321):=z5 (fn:=zd) (n:=10000) 1 (Nat.le_of_ble_eq_true rfl) (by kernel_rfl) (by kernel_rfl) (by kernel_rfl) (by kernel_rfl) (by kernel_rfl) zp604 (by kernel_rfl)
theorem zl618:zr610.length=147:=by kernel_rfl
theorem zp619:E g0 10000 147 zc309 zr610 zm3=some (outOf 1,⟨zr614,zm616⟩):=z7 (Nat.le_of_ble_eq_true rfl) zl618 zk617
theorem zf620:C g0 10001 z9 [(u 25)] Mem.zero=some (zv608,zm339):=z5 (fn:=zd) (n:=10000) 1 (Nat.le_of_ble_eq_true rfl) (by kernel_rfl) (by kernel_rfl) (by kernel_rfl) (by kernel_rfl) (by kernel_rfl) zp619 (by kernel_rfl)
theorem zl633:zr625.length=147:=by kernel_rfl
theorem zp634:E g0 10000 147 zc309 zr625 zm3=some (outOf 1,⟨zr629,zm631⟩):=z7 (Nat.le_of_ble_eq_true rfl) zl633 zk632
theorem zf635:C g0 10001 z9 [(u 26)] Mem.zero=some (zv623,zm321):=z5 (fn:=zd) (n:=10000) 1 (Nat.le_of_ble_eq_true rfl) (by kernel_rfl) (by kernel_rfl) (by kernel_rfl) (by kernel_rfl) (by kernel_rfl) zp634 (by kernel_rfl)
theorem zl643:zr638.length=147:=by kernel_rfl
theorem zp644:E g0 10000 147 zc309 zr638 zm3=some (outOf 1,⟨zr641,zm631⟩):=z7 (Nat.le_of_ble_eq_true rfl) zl643 zk642
theorem zf645:C g0 10001 z9 [(u 27)] Mem.zero=some (zv623,zm321):=z5 (fn:=zd) (n:=10000) 1 (Nat.le_of_ble_eq_true rfl) (by kernel_rfl) (by kernel_rfl) (by kernel_rfl) (by kernel_rfl) (by kernel_rfl) zp644 (by kernel_rfl)
theorem zl653:zr648.length=147:=by kernel_rfl
theorem zp654:E g0 10000 147 zc309 zr648 zm3=some (outOf 1,⟨zr651,zm601⟩):=z7 (Nat.le_of_ble_eq_true rfl) zl653 zk652
theorem zf655:C g0 10001 z9 [(u 28)] Mem.zero=some (zv592,zm321):=z5 (fn:=zd) (n:=10000) 1 (Nat.le_of_ble_eq_true rfl) (by kernel_rfl) (by kernel_rfl) (by kernel_rfl) (by kernel_rfl) (by kernel_rfl) zp654 (by kernel_rfl)
theorem zl668:zr660.length=147:=by kernel_rfl
theorem zp669:E g0 10000 147 zc309 zr660 zm3=some (outOf 1,⟨zr664,zm666⟩):=z7 (Nat.le_of_ble_eq_true rfl) zl668 zk667
theorem zf670:C g0 10001 z9 [(u 29)] Mem.zero=some (zv658,zm339):=z5 (fn:=zd) (n:=10000) 1 (Nat.le_of_ble_eq_true rfl) (by kernel_rfl) (by kernel_rfl) (by kernel_rfl) (by kernel_rfl) (by kernel_rfl) zp669 (by kernel_rfl)
theorem zl677:zr673.length=147:=by kernel_rfl
theorem zp678:E g0 10000 147 zc309 zr673 zm3=some (outOf 1,⟨zr675,zm601⟩):=z7 (Nat.le_of_ble_eq_true rfl) zl677 zk676
theorem zf679:C g0 10001 z9 [(u 32)] Mem.zero=some (zv592,zm321):=z5 (fn:=zd) (n:=10000) 1 (Nat.le_of_ble_eq_true rfl) (by kernel_rfl) (by kernel_rfl) (by kernel_rfl) (by kernel_rfl) (by kernel_rfl) zp678 (by kernel_rfl)
theorem zl687:zr682.length=147:=by kernel_rfl
theorem zp688:E g0 10000 147 zc309 zr682 zm3=some (outOf 1,⟨zr685,zm401⟩):=z7 (Nat.le_of_ble_eq_true rfl) zl687 zk686
theorem zf689:C g0 10001 z9 [(u 33)] Mem.zero=some (zv393,zm339):=z5 (fn:=zd) (n:=10000) 1 (Nat.le_of_ble_eq_true rfl) (by kernel_rfl) (by kernel_rfl) (by kernel_rfl) (by kernel_rfl) (by kernel_rfl) zp688 (by kernel_rfl)
theorem zl700:zr694.length=147:=by kernel_rfl
theorem zp701:E g0 10000 147 zc309 zr694 zm3=some (outOf 1,⟨zr696,zm698⟩):=z7 (Nat.le_of_ble_eq_true rfl) zl700 zk699
theorem zf703:C g0 10001 z9 [(u 30)] Mem.zero=some (zv692,zm702):=z5 (fn:=zd) (n:=10000) 1 (Nat.le_of_ble_eq_true rfl) (by kernel_rfl) (by kernel_rfl) (by kernel_rfl) (by kernel_rfl) (by kernel_rfl) zp701 (by kernel_rfl)
theorem zl710:zr706.length=147:=by kernel_rfl
theorem zp711:E g0 10000 147 zc309 zr706 zm3=some (outOf 1,⟨zr708,zm698⟩):=z7 (Nat.le_of_ble_eq_true rfl) zl710 zk709
theorem zf712:C g0 10001 z9 [(u 31)] Mem.zero=some (zv692,zm702):=z5 (fn:=zd) (n:=10000) 1 (Nat.le_of_ble_eq_true rfl) (by kernel_rfl) (by kernel_rfl) (by kernel_rfl) (by kernel_rfl) (by kernel_rfl) zp711 (by kernel_rfl)
theorem zl725:zr717.length=147:=by kernel_rfl
theorem zp726:E g0 10000 147 zc309 zr717 zm3=some (outOf 1,⟨zr721,zm723⟩):=z7 (Nat.le_of_ble_eq_true rfl) zl725 zk724
theorem zf727:C g0 10001 z9 [(u 22)] Mem.zero=some (zv715,zm321):=z5 (fn:=zd) (n:=10000) 1 (Nat.le_of_ble_eq_true rfl) (by kernel_rfl) (by kernel_rfl) (by kernel_rfl) (by kernel_rfl) (by kernel_rfl) zp726 (by kernel_rfl)
theorem zl734:zr730.length=147:=by kernel_rfl
theorem zp735:E g0 10000 147 zc309 zr730 zm3=some (outOf 1,⟨zr732,zm415⟩):=z7 (Nat.le_of_ble_eq_true rfl) zl734 zk733
theorem zf736:C g0 10001 z9 [(u 7)] Mem.zero=some (zv408,zm419):=z5 (fn:=zd) (n:=10000) 1 (Nat.le_of_ble_eq_true rfl) (by kernel_rfl) (by kernel_rfl) (by kernel_rfl) (by kernel_rfl) (by kernel_rfl) zp735 (by kernel_rfl)
theorem zl743:zr739.length=147:=by kernel_rfl
theorem zp744:E g0 10000 147 zc309 zr739 zm3=some (outOf 1,⟨zr741,zm415⟩):=z7 (Nat.le_of_ble_eq_true rfl) zl743 zk742
theorem zf745:C g0 10001 z9 [(u 8)] Mem.zero=some (zv408,zm419):=z5 (fn:=zd) (n:=10000) 1 (Nat.le_of_ble_eq_true rfl) (by kernel_rfl) (by kernel_rfl) (by kernel_rfl) (by kernel_rfl) (by kernel_rfl) zp744 (by kernel_rfl)
theorem zl757:zr749.length=55:=by kernel_rfl
theorem zp758:E g0 10000 55 zc750 zr749 zm3=some (outOf 1,⟨zr753,zm755⟩):=z7 (Nat.le_of_ble_eq_true rfl) zl757 zk756
theorem zf759:C g0 10001 zq [zv747,(i 10)] Mem.zero=some (T,zm12):=z5 (fn:=y5) (n:=10000) 1 (Nat.le_of_ble_eq_true rfl) (by kernel_rfl) (by kernel_rfl) (by kernel_rfl) (by kernel_rfl) (by kernel_rfl) zp758 (by kernel_rfl)
theorem zl767:zr762.length=55:=by kernel_rfl
theorem zp768:E g0 10000 55 zc750 zr762 zm3=some (outOf 1,⟨zr765,zm755⟩):=z7 (Nat.le_of_ble_eq_true rfl) zl767 zk766
theorem zf769:C g0 10001 zq [zv747,(i 1)] Mem.zero=some (T,zm12):=z5 (fn:=y5) (n:=10000) 1 (Nat.le_of_ble_eq_true rfl) (by kernel_rfl) (by kernel_rfl) (by kernel_rfl) (by kernel_rfl) (by kernel_rfl) zp768 (by kernel_rfl)
theorem zl777:zr772.length=55:=by kernel_rfl
theorem zp778:E g0 10000 55 zc750 zr772 zm3=some (outOf 1,⟨zr775,zm755⟩):=z7 (Nat.le_of_ble_eq_true rfl) zl777 zk776
theorem zf779:C g0 10001 zq [zv747,(i 4)] Mem.zero=some (T,zm12):=z5 (fn:=y5) (n:=10000) 1 (Nat.le_of_ble_eq_true rfl) (by kernel_rfl) (by kernel_rfl) (by kernel_rfl) (by kernel_rfl) (by kernel_rfl) zp778 (by kernel_rfl)
theorem zl792:zr783.length=55:=by kernel_rfl
theorem zp793:E g0 10000 55 zc750 zr783 zm3=some (outOf 1,⟨zr788,zm790⟩):=z7 (Nat.le_of_ble_eq_true rfl) zl792 zk791
theorem zf794:C g0 10001 zq [(N 2 zw781),(i 4)] Mem.zero=some (T,zm321):=z5 (fn:=y5) (n:=10000) 1 (Nat.le_of_ble_eq_true rfl) (by kernel_rfl) (by kernel_rfl) (by kernel_rfl) (by kernel_rfl) (by kernel_rfl) zp793 (by kernel_rfl)
theorem zl805:zr798.length=55:=by kernel_rfl
theorem zp806:E g0 10000 55 zc750 zr798 zm3=some (outOf 1,⟨zr803,zm790⟩):=z7 (Nat.le_of_ble_eq_true rfl) zl805 zk804
theorem zf807:C g0 10001 zq [(N 2 zw796),(i 4)] Mem.zero=some (T,zm321):=z5 (fn:=y5) (n:=10000) 1 (Nat.le_of_ble_eq_true rfl) (by kernel_rfl) (by kernel_rfl) (by kernel_rfl) (by kernel_rfl) (by kernel_rfl) zp806 (by kernel_rfl)
theorem zl827:zr819.length=24:=by kernel_rfl
theorem zp828:E g0 10000 24 zc820 zr819 zm3=some (outOf 1,⟨zr824,zm825⟩):=z7 (Nat.le_of_ble_eq_true rfl) zl827 zk826
theorem zf830:C g0 10001 zr [(N 2 zw817)] Mem.zero=some (T,zm829):=z5 (fn:=y6) (n:=10000) 1 (Nat.le_of_ble_eq_true rfl) (by kernel_rfl) (by kernel_rfl) (by kernel_rfl) (by kernel_rfl) (by kernel_rfl) zp828 (by kernel_rfl)
theorem zl841:zr834.length=24:=by kernel_rfl
theorem zp842:E g0 10000 24 zc820 zr834 zm3=some (outOf 1,⟨zr838,zm839⟩):=z7 (Nat.le_of_ble_eq_true rfl) zl841 zk840
theorem zf843:C g0 10001 zr [(N 2 [zv832])] Mem.zero=some (T,zm702):=z5 (fn:=y6) (n:=10000) 1 (Nat.le_of_ble_eq_true rfl) (by kernel_rfl) (by kernel_rfl) (by kernel_rfl) (by kernel_rfl) (by kernel_rfl) zp842 (by kernel_rfl)
theorem zl850:zr846.length=24:=by kernel_rfl
theorem zp851:E g0 10000 24 zc820 zr846 zm3=some (outOf 1,⟨zr848,zm3⟩):=z7 (Nat.le_of_ble_eq_true rfl) zl850 zk849
theorem zf853:C g0 10001 zr [.nils] Mem.zero=some (T,zm852):=z5 (fn:=y6) (n:=10000) 1 (Nat.le_of_ble_eq_true rfl) (by kernel_rfl) (by kernel_rfl) (by kernel_rfl) (by kernel_rfl) (by kernel_rfl) zp851 (by kernel_rfl)
theorem zl861:zr856.length=24:=by kernel_rfl
theorem zp862:E g0 10000 24 zc820 zr856 zm3=some (outOf 1,⟨zr859,zm839⟩):=z7 (Nat.le_of_ble_eq_true rfl) zl861 zk860
theorem zf863:C g0 10001 zr [(N 2 [zv170])] Mem.zero=some (T,zm702):=z5 (fn:=y6) (n:=10000) 1 (Nat.le_of_ble_eq_true rfl) (by kernel_rfl) (by kernel_rfl) (by kernel_rfl) (by kernel_rfl) (by kernel_rfl) zp862 (by kernel_rfl)
theorem zl872:zr867.length=24:=by kernel_rfl
theorem zp873:E g0 10000 24 zc820 zr867 zm3=some (outOf 1,⟨zr870,zm839⟩):=z7 (Nat.le_of_ble_eq_true rfl) zl872 zk871
theorem zf874:C g0 10001 zr [(N 2 [zv865])] Mem.zero=some (T,zm702):=z5 (fn:=y6) (n:=10000) 1 (Nat.le_of_ble_eq_true rfl) (by kernel_rfl) (by kernel_rfl) (by kernel_rfl) (by kernel_rfl) (by kernel_rfl) zp873 (by kernel_rfl)
theorem zl888:zr877.length=29:=by kernel_rfl
theorem zp889:E g1 10000 29 zc878 zr877 zm3=some (outOf 1,⟨zr881,zm886⟩):=z7 (Nat.le_of_ble_eq_true rfl) zl888 zk887
theorem zf891:C g1 10001 zu [(N 4 zw176)] Mem.zero=some ((i 0),zm890):=z5 (fn:=yp) (n:=10000) 1 (Nat.le_of_ble_eq_true rfl) (by kernel_rfl) (by kernel_rfl) (by kernel_rfl) (by kernel_rfl) (by kernel_rfl) zp889 (by kernel_rfl)
theorem zl901:zr894.length=29:=by kernel_rfl
theorem zp902:E g1 10000 29 zc878 zr894 zm3=some (outOf 1,⟨zr897,zm899⟩):=z7 (Nat.le_of_ble_eq_true rfl) zl901 zk900
theorem zf904:C g1 10001 zu [(N 4 [(G zw281)])] Mem.zero=some ((i 0),zm903):=z5 (fn:=yp) (n:=10000) 1 (Nat.le_of_ble_eq_true rfl) (by kernel_rfl) (by kernel_rfl) (by kernel_rfl) (by kernel_rfl) (by kernel_rfl) zp902 (by kernel_rfl)
theorem zl911:zr907.length=29:=by kernel_rfl
theorem zp912:E g1 10000 29 zc878 zr907 zm3=some (outOf 1,⟨zr909,zm899⟩):=z7 (Nat.le_of_ble_eq_true rfl) zl911 zk910
theorem zf913:C g1 10001 zu [(N 4 [(G zw166)])] Mem.zero=some ((i 0),zm903):=z5 (fn:=yp) (n:=10000) 1 (Nat.le_of_ble_eq_true rfl) (by kernel_rfl) (by kernel_rfl) (by kernel_rfl) (by kernel_rfl) (by kernel_rfl) zp912 (by kernel_rfl)
theorem zl921:zr915.length=29:=by kernel_rfl
theorem zp922:E g1 10000 29 zc878 zr915 zm3=some (outOf 1,⟨zr917,zm919⟩):=z7 (Nat.le_of_ble_eq_true rfl) zl921 zk920
theorem zf923:C g1 10001 zu [.nils] Mem.zero=some ((i 0),zm419):=z5 (fn:=yp) (n:=10000) 1 (Nat.le_of_ble_eq_true rfl) (by kernel_rfl) (by kernel_rfl) (by kernel_rfl) (by kernel_rfl) (by kernel_rfl) zp922 (by kernel_rfl)
theorem zl937:zr928.length=36:=by kernel_rfl
theorem zp938:E g1 10000 36 zc929 zr928 zm3=some (outOf 1,⟨zr933,zm935⟩):=z7 (Nat.le_of_ble_eq_true rfl) zl937 zk936
theorem zf939:C g1 10001 z3 [(G zw925)] Mem.zero=some ((i 0),zm339):=z5 (fn:=z8) (n:=10000) 1 (Nat.le_of_ble_eq_true rfl) (by kernel_rfl) (by kernel_rfl) (by kernel_rfl) (by kernel_rfl) (by kernel_rfl) zp938 (by kernel_rfl)
theorem zl950:zr943.length=36:=by kernel_rfl
theorem zp951:E g1 10000 36 zc929 zr943 zm3=some (outOf 1,⟨zr946,zm948⟩):=z7 (Nat.le_of_ble_eq_true rfl) zl950 zk949
theorem zf952:C g1 10001 z3 [(G zw941)] Mem.zero=some ((i 0),zm339):=z5 (fn:=z8) (n:=10000) 1 (Nat.le_of_ble_eq_true rfl) (by kernel_rfl) (by kernel_rfl) (by kernel_rfl) (by kernel_rfl) (by kernel_rfl) zp951 (by kernel_rfl)
theorem zl963:zr956.length=36:=by kernel_rfl
theorem zp964:E g1 10000 36 zc929 zr956 zm3=some (outOf 1,⟨zr959,zm961⟩):=z7 (Nat.le_of_ble_eq_true rfl) zl963 zk962
theorem zf965:C g1 10001 z3 [(G zw954)] Mem.zero=some ((i 0),zm339):=z5 (fn:=z8) (n:=10000) 1 (Nat.le_of_ble_eq_true rfl) (by kernel_rfl) (by kernel_rfl) (by kernel_rfl) (by kernel_rfl) (by kernel_rfl) zp964 (by kernel_rfl)
theorem zl976:zr969.length=36:=by kernel_rfl
theorem zp977:E g1 10000 36 zc929 zr969 zm3=some (outOf 1,⟨zr972,zm974⟩):=z7 (Nat.le_of_ble_eq_true rfl) zl976 zk975
theorem zf978:C g1 10001 z3 [(G zw967)] Mem.zero=some ((i 0),zm339):=z5 (fn:=z8) (n:=10000) 1 (Nat.le_of_ble_eq_true rfl) (by kernel_rfl) (by kernel_rfl) (by kernel_rfl) (by kernel_rfl) (by kernel_rfl) zp977 (by kernel_rfl)
theorem zl989:zr982.length=36:=by kernel_rfl
theorem zp990:E g1 10000 36 zc929 zr982 zm3=some (outOf 1,⟨zr985,zm987⟩):=z7 (Nat.le_of_ble_eq_true rfl) zl989 zk988
theorem zf991:C g1 10001 z3 [(G zw980)] Mem.zero=some ((i 0),zm339):=z5 (fn:=z8) (n:=10000) 1 (Nat.le_of_ble_eq_true rfl) (by kernel_rfl) (by kernel_rfl) (by kernel_rfl) (by kernel_rfl) (by kernel_rfl) zp990 (by kernel_rfl)
theorem zl1002:zr995.length=36:=by kernel_rfl
theorem zp1003:E g1 10000 36 zc929 zr995 zm3=some (outOf 1,⟨zr998,zm1000⟩):=z7 (Nat.le_of_ble_eq_true rfl) zl1002 zk1001
theorem zf1004:C g1 10001 z3 [(G zw993)] Mem.zero=some ((i 0),zm339):=z5 (fn:=z8) (n:=10000) 1 (Nat.le_of_ble_eq_true rfl) (by kernel_rfl) (by kernel_rfl) (by kernel_rfl) (by kernel_rfl) (by kernel_rfl) zp1003 (by kernel_rfl)
theorem zl1015:zr1008.length=36:=by kernel_rfl
theorem zp1016:E g1 10000 36 zc929 zr1008 zm3=some (outOf 1,⟨zr1011,zm1013⟩):=z7 (Nat.le_of_ble_eq_true rfl) zl1015 zk1014
theorem zf1017:C g1 10001 z3 [(G zw1006)] Mem.zero=some ((i 0),zm339):=z5 (fn:=z8) (n:=10000) 1 (Nat.le_of_ble_eq_true rfl) (by kernel_rfl) (by kernel_rfl) (by kernel_rfl) (by kernel_rfl) (by kernel_rfl) zp1016 (by kernel_rfl)
theorem zl1028:zr1021.length=36:=by kernel_rfl
theorem zp1029:E g1 10000 36 zc929 zr1021 zm3=some (outOf 1,⟨zr1024,zm1026⟩):=z7 (Nat.le_of_ble_eq_true rfl) zl1028 zk1027
theorem zf1030:C g1 10001 z3 [(G zw1019)] Mem.zero=some ((i 0),zm339):=z5 (fn:=z8) (n:=10000) 1 (Nat.le_of_ble_eq_true rfl) (by kernel_rfl) (by kernel_rfl) (by kernel_rfl) (by kernel_rfl) (by kernel_rfl) zp1029 (by kernel_rfl)
theorem zl1040:zr1034.length=36:=by kernel_rfl
theorem zp1041:E g1 10000 36 zc929 zr1034 zm3=some (outOf 1,⟨zr1036,zm1038⟩):=z7 (Nat.le_of_ble_eq_true rfl) zl1040 zk1039
theorem zf1042:C g1 10001 z3 [(G zw1032)] Mem.zero=some ((i 0),zm339):=z5 (fn:=z8) (n:=10000) 1 (Nat.le_of_ble_eq_true rfl) (by kernel_rfl) (by kernel_rfl) (by kernel_rfl) (by kernel_rfl) (by kernel_rfl) zp1041 (by kernel_rfl)
theorem zl1053:zr1046.length=36:=by kernel_rfl
theorem zp1054:E g1 10000 36 zc929 zr1046 zm3=some (outOf 1,⟨zr1049,zm1051⟩):=z7 (Nat.le_of_ble_eq_true rfl) zl1053 zk1052
theorem zf1055:C g1 10001 z3 [(G zw1044)] Mem.zero=some ((i 0),zm339):=z5 (fn:=z8) (n:=10000) 1 (Nat.le_of_ble_eq_true rfl) (by kernel_rfl) (by kernel_rfl) (by kernel_rfl) (by kernel_rfl) (by kernel_rfl) zp1054 (by kernel_rfl)
theorem zl1065:zr1059.length=36:=by kernel_rfl
theorem zp1066:E g1 10000 36 zc929 zr1059 zm3=some (outOf 1,⟨zr1061,zm1063⟩):=z7 (Nat.le_of_ble_eq_true rfl) zl1065 zk1064
theorem zf1067:C g1 10001 z3 [(G zw1057)] Mem.zero=some ((i 0),zm339):=z5 (fn:=z8) (n:=10000) 1 (Nat.le_of_ble_eq_true rfl) (by kernel_rfl) (by kernel_rfl) (by kernel_rfl) (by kernel_rfl) (by kernel_rfl) zp1066 (by kernel_rfl)
theorem zl1077:zr1071.length=36:=by kernel_rfl
theorem zp1078:E g1 10000 36 zc929 zr1071 zm3=some (outOf 1,⟨zr1073,zm1075⟩):=z7 (Nat.le_of_ble_eq_true rfl) zl1077 zk1076
theorem zf1079:C g1 10001 z3 [(G zw1069)] Mem.zero=some ((i 0),zm339):=z5 (fn:=z8) (n:=10000) 1 (Nat.le_of_ble_eq_true rfl) (by kernel_rfl) (by kernel_rfl) (by kernel_rfl) (by kernel_rfl) (by kernel_rfl) zp1078 (by kernel_rfl)
theorem zl1090:zr1083.length=36:=by kernel_rfl
theorem zp1091:E g1 10000 36 zc929 zr1083 zm3=some (outOf 1,⟨zr1086,zm1088⟩):=z7 (Nat.le_of_ble_eq_true rfl) zl1090 zk1089
theorem zf1092:C g1 10001 z3 [(G zw1081)] Mem.zero=some ((i 0),zm339):=z5 (fn:=z8) (n:=10000) 1 (Nat.le_of_ble_eq_true rfl) (by kernel_rfl) (by kernel_rfl) (by kernel_rfl) (by kernel_rfl) (by kernel_rfl) zp1091 (by kernel_rfl)
theorem zl1103:zr1096.length=36:=by kernel_rfl
theorem zp1104:E g1 10000 36 zc929 zr1096 zm3=some (outOf 1,⟨zr1099,zm1101⟩):=z7 (Nat.le_of_ble_eq_true rfl) zl1103 zk1102
theorem zf1105:C g1 10001 z3 [(G zw1094)] Mem.zero=some ((i 0),zm339):=z5 (fn:=z8) (n:=10000) 1 (Nat.le_of_ble_eq_true rfl) (by kernel_rfl) (by kernel_rfl) (by kernel_rfl) (by kernel_rfl) (by kernel_rfl) zp1104 (by kernel_rfl)
theorem zl1117:zr1109.length=36:=by kernel_rfl
theorem zp1118:E g1 10000 36 zc929 zr1109 zm3=some (outOf 1,⟨zr1113,zm1115⟩):=z7 (Nat.le_of_ble_eq_true rfl) zl1117 zk1116
theorem zf1119:C g1 10001 z3 [(G zw1107)] Mem.zero=some ((i 0),zm339):=z5 (fn:=z8) (n:=10000) 1 (Nat.le_of_ble_eq_true rfl) (by kernel_rfl) (by kernel_rfl) (by kernel_rfl) (by kernel_rfl) (by kernel_rfl) zp1118 (by kernel_rfl)
theorem zl1130:zr1123.length=36:=by kernel_rfl
theorem zp1131:E g1 10000 36 zc929 zr1123 zm3=some (outOf 1,⟨zr1126,zm1128⟩):=z7 (Nat.le_of_ble_eq_true rfl) zl1130 zk1129
theorem zf1132:C g1 10001 z3 [(G zw1121)] Mem.zero=some ((i 0),zm339):=z5 (fn:=z8) (n:=10000) 1 (Nat.le_of_ble_eq_true rfl) (by kernel_rfl) (by kernel_rfl) (by kernel_rfl) (by kernel_rfl) (by kernel_rfl) zp1131 (by kernel_rfl)
theorem zl1144:zr1136.length=36:=by kernel_rfl
theorem zp1145:E g1 10000 36 zc929 zr1136 zm3=some (outOf 1,⟨zr1140,zm1142⟩):=z7 (Nat.le_of_ble_eq_true rfl) zl1144 zk1143
theorem zf1146:C g1 10001 z3 [(G zw1134)] Mem.zero=some ((i 0),zm339):=z5 (fn:=z8) (n:=10000) 1 (Nat.le_of_ble_eq_true rfl) (by kernel_rfl) (by kernel_rfl) (by kernel_rfl) (by kernel_rfl) (by kernel_rfl) zp1145 (by kernel_rfl)
theorem zl1157:zr1150.length=36:=by kernel_rfl
theorem zp1158:E g1 10000 36 zc929 zr1150 zm3=some (outOf 1,⟨zr1153,zm1155⟩):=z7 (Nat.le_of_ble_eq_true rfl) zl1157 zk1156
theorem zf1159:C g1 10001 z3 [(G zw1148)] Mem.zero=some ((i 0),zm339):=z5 (fn:=z8) (n:=10000) 1 (Nat.le_of_ble_eq_true rfl) (by kernel_rfl) (by kernel_rfl) (by kernel_rfl) (by kernel_rfl) (by kernel_rfl) zp1158 (by kernel_rfl)
theorem zl1171:zr1163.length=36:=by kernel_rfl
theorem zp1172:E g1 10000 36 zc929 zr1163 zm3=some (outOf 1,⟨zr1167,zm1169⟩):=z7 (Nat.le_of_ble_eq_true rfl) zl1171 zk1170
theorem zf1173:C g1 10001 z3 [(G zw1161)] Mem.zero=some ((i 0),zm339):=z5 (fn:=z8) (n:=10000) 1 (Nat.le_of_ble_eq_true rfl) (by kernel_rfl) (by kernel_rfl) (by kernel_rfl) (by kernel_rfl) (by kernel_rfl) zp1172 (by kernel_rfl)
theorem zl1185:zr1177.length=36:=by kernel_rfl
theorem zp1186:E g1 10000 36 zc929 zr1177 zm3=some (outOf 1,⟨zr1181,zm1183⟩):=z7 (Nat.le_of_ble_eq_true rfl) zl1185 zk1184
theorem zf1187:C g1 10001 z3 [(G zw1175)] Mem.zero=some ((i 0),zm339):=z5 (fn:=z8) (n:=10000) 1 (Nat.le_of_ble_eq_true rfl) (by kernel_rfl) (by kernel_rfl) (by kernel_rfl) (by kernel_rfl) (by kernel_rfl) zp1186 (by kernel_rfl)
theorem zl1197:zr1191.length=36:=by kernel_rfl
theorem zp1198:E g1 10000 36 zc929 zr1191 zm3=some (outOf 1,⟨zr1193,zm1195⟩):=z7 (Nat.le_of_ble_eq_true rfl) zl1197 zk1196
theorem zf1199:C g1 10001 z3 [(G zw1189)] Mem.zero=some ((i 0),zm339):=z5 (fn:=z8) (n:=10000) 1 (Nat.le_of_ble_eq_true rfl) (by kernel_rfl) (by kernel_rfl) (by kernel_rfl) (by kernel_rfl) (by kernel_rfl) zp1198 (by kernel_rfl)
theorem zl1210:zr1203.length=36:=by kernel_rfl
theorem zp1211:E g1 10000 36 zc929 zr1203 zm3=some (outOf 1,⟨zr1206,zm1208⟩):=z7 (Nat.le_of_ble_eq_true rfl) zl1210 zk1209
theorem zf1212:C g1 10001 z3 [(G zw1201)] Mem.zero=some ((i 0),zm339):=z5 (fn:=z8) (n:=10000) 1 (Nat.le_of_ble_eq_true rfl) (by kernel_rfl) (by kernel_rfl) (by kernel_rfl) (by kernel_rfl) (by kernel_rfl) zp1211 (by kernel_rfl)
theorem zl1222:zr1216.length=36:=by kernel_rfl
theorem zp1223:E g1 10000 36 zc929 zr1216 zm3=some (outOf 1,⟨zr1218,zm1220⟩):=z7 (Nat.le_of_ble_eq_true rfl) zl1222 zk1221
theorem zf1224:C g1 10001 z3 [(G zw1214)] Mem.zero=some ((i 0),zm339):=z5 (fn:=z8) (n:=10000) 1 (Nat.le_of_ble_eq_true rfl) (by kernel_rfl) (by kernel_rfl) (by kernel_rfl) (by kernel_rfl) (by kernel_rfl) zp1223 (by kernel_rfl)
theorem zl1235:zr1228.length=36:=by kernel_rfl
theorem zp1236:E g1 10000 36 zc929 zr1228 zm3=some (outOf 1,⟨zr1231,zm1233⟩):=z7 (Nat.le_of_ble_eq_true rfl) zl1235 zk1234
theorem zf1237:C g1 10001 z3 [(G zw1226)] Mem.zero=some ((i 0),zm339):=z5 (fn:=z8) (n:=10000) 1 (Nat.le_of_ble_eq_true rfl) (by kernel_rfl) (by kernel_rfl) (by kernel_rfl) (by kernel_rfl) (by kernel_rfl) zp1236 (by kernel_rfl)
theorem zl1248:zr1241.length=36:=by kernel_rfl
theorem zp1249:E g1 10000 36 zc929 zr1241 zm3=some (outOf 1,⟨zr1244,zm1246⟩):=z7 (Nat.le_of_ble_eq_true rfl) zl1248 zk1247
theorem zf1250:C g1 10001 z3 [(G zw1239)] Mem.zero=some ((i 0),zm339):=z5 (fn:=z8) (n:=10000) 1 (Nat.le_of_ble_eq_true rfl) (by kernel_rfl) (by kernel_rfl) (by kernel_rfl) (by kernel_rfl) (by kernel_rfl) zp1249 (by kernel_rfl)
theorem zl1261:zr1254.length=36:=by kernel_rfl
theorem zp1262:E g1 10000 36 zc929 zr1254 zm3=some (outOf 1,⟨zr1257,zm1259⟩):=z7 (Nat.le_of_ble_eq_true rfl) zl1261 zk1260
theorem zf1263:C g1 10001 z3 [(G zw1252)] Mem.zero=some ((i 0),zm339):=z5 (fn:=z8) (n:=10000) 1 (Nat.le_of_ble_eq_true rfl) (by kernel_rfl) (by kernel_rfl) (by kernel_rfl) (by kernel_rfl) (by kernel_rfl) zp1262 (by kernel_rfl)
theorem zl1273:zr1267.length=36:=by kernel_rfl
theorem zp1274:E g1 10000 36 zc929 zr1267 zm3=some (outOf 1,⟨zr1269,zm1271⟩):=z7 (Nat.le_of_ble_eq_true rfl) zl1273 zk1272
theorem zf1275:C g1 10001 z3 [(G zw1265)] Mem.zero=some ((i 0),zm339):=z5 (fn:=z8) (n:=10000) 1 (Nat.le_of_ble_eq_true rfl) (by kernel_rfl) (by kernel_rfl) (by kernel_rfl) (by kernel_rfl) (by kernel_rfl) zp1274 (by kernel_rfl)
theorem zl1286:zr1279.length=36:=by kernel_rfl
theorem zp1287:E g1 10000 36 zc929 zr1279 zm3=some (outOf 1,⟨zr1282,zm1284⟩):=z7 (Nat.le_of_ble_eq_true rfl) zl1286 zk1285
theorem zf1288:C g1 10001 z3 [(G zw1277)] Mem.zero=some ((i 0),zm339):=z5 (fn:=z8) (n:=10000) 1 (Nat.le_of_ble_eq_true rfl) (by kernel_rfl) (by kernel_rfl) (by kernel_rfl) (by kernel_rfl) (by kernel_rfl) zp1287 (by kernel_rfl)
theorem zl1299:zr1292.length=36:=by kernel_rfl
theorem zp1300:E g1 10000 36 zc929 zr1292 zm3=some (outOf 1,⟨zr1295,zm1297⟩):=z7 (Nat.le_of_ble_eq_true rfl) zl1299 zk1298
theorem zf1301:C g1 10001 z3 [(G zw1290)] Mem.zero=some ((i 0),zm339):=z5 (fn:=z8) (n:=10000) 1 (Nat.le_of_ble_eq_true rfl) (by kernel_rfl) (by kernel_rfl) (by kernel_rfl) (by kernel_rfl) (by kernel_rfl) zp1300 (by kernel_rfl)
theorem zl1312:zr1305.length=36:=by kernel_rfl
theorem zp1313:E g1 10000 36 zc929 zr1305 zm3=some (outOf 1,⟨zr1308,zm1310⟩):=z7 (Nat.le_of_ble_eq_true rfl) zl1312 zk1311
theorem zf1314:C g1 10001 z3 [(G zw1303)] Mem.zero=some ((i 0),zm339):=z5 (fn:=z8) (n:=10000) 1 (Nat.le_of_ble_eq_true rfl) (by kernel_rfl) (by kernel_rfl) (by kernel_rfl) (by kernel_rfl) (by kernel_rfl) zp1313 (by kernel_rfl)
theorem zl1324:zr1318.length=36:=by kernel_rfl
theorem zp1325:E g1 10000 36 zc929 zr1318 zm3=some (outOf 1,⟨zr1320,zm1322⟩):=z7 (Nat.le_of_ble_eq_true rfl) zl1324 zk1323
theorem zf1326:C g1 10001 z3 [(G zw1316)] Mem.zero=some ((i 0),zm339):=z5 (fn:=z8) (n:=10000) 1 (Nat.le_of_ble_eq_true rfl) (by kernel_rfl) (by kernel_rfl) (by kernel_rfl) (by kernel_rfl) (by kernel_rfl) zp1325 (by kernel_rfl)
theorem zl1337:zr1330.length=36:=by kernel_rfl
theorem zp1338:E g1 10000 36 zc929 zr1330 zm3=some (outOf 1,⟨zr1333,zm1335⟩):=z7 (Nat.le_of_ble_eq_true rfl) zl1337 zk1336
theorem zf1339:C g1 10001 z3 [(G zw1328)] Mem.zero=some ((i 0),zm339):=z5 (fn:=z8) (n:=10000) 1 (Nat.le_of_ble_eq_true rfl) (by kernel_rfl) (by kernel_rfl) (by kernel_rfl) (by kernel_rfl) (by kernel_rfl) zp1338 (by kernel_rfl)
theorem zl1350:zr1343.length=36:=by kernel_rfl
theorem zp1351:E g1 10000 36 zc929 zr1343 zm3=some (outOf 1,⟨zr1346,zm1348⟩):=z7 (Nat.le_of_ble_eq_true rfl) zl1350 zk1349
theorem zf1352:C g1 10001 z3 [(G zw1341)] Mem.zero=some ((i 0),zm339):=z5 (fn:=z8) (n:=10000) 1 (Nat.le_of_ble_eq_true rfl) (by kernel_rfl) (by kernel_rfl) (by kernel_rfl) (by kernel_rfl) (by kernel_rfl) zp1351 (by kernel_rfl)
theorem zl1362:zr1356.length=36:=by kernel_rfl
theorem zp1363:E g1 10000 36 zc929 zr1356 zm3=some (outOf 1,⟨zr1358,zm1360⟩):=z7 (Nat.le_of_ble_eq_true rfl) zl1362 zk1361
theorem zf1364:C g1 10001 z3 [(G zw1354)] Mem.zero=some ((i 0),zm339):=z5 (fn:=z8) (n:=10000) 1 (Nat.le_of_ble_eq_true rfl) (by kernel_rfl) (by kernel_rfl) (by kernel_rfl) (by kernel_rfl) (by kernel_rfl) zp1363 (by kernel_rfl)
theorem zl1374:zr1368.length=36:=by kernel_rfl
theorem zp1375:E g1 10000 36 zc929 zr1368 zm3=some (outOf 1,⟨zr1370,zm1372⟩):=z7 (Nat.le_of_ble_eq_true rfl) zl1374 zk1373
theorem zf1376:C g1 10001 z3 [(G zw1366)] Mem.zero=some ((i 0),zm339):=z5 (fn:=z8) (n:=10000) 1 (Nat.le_of_ble_eq_true rfl) (by kernel_rfl) (by kernel_rfl) (by kernel_rfl) (by kernel_rfl) (by kernel_rfl) zp1375 (by kernel_rfl)
theorem zl1386:zr1380.length=36:=by kernel_rfl
theorem zp1387:E g1 10000 36 zc929 zr1380 zm3=some (outOf 1,⟨zr1382,zm1384⟩):=z7 (Nat.le_of_ble_eq_true rfl) zl1386 zk1385
theorem zf1388:C g1 10001 z3 [(G zw1378)] Mem.zero=some ((i 0),zm339):=z5 (fn:=z8) (n:=10000) 1 (Nat.le_of_ble_eq_true rfl) (by kernel_rfl) (by kernel_rfl) (by kernel_rfl) (by kernel_rfl) (by kernel_rfl) zp1387 (by kernel_rfl)
theorem zl1398:zr1392.length=36:=by kernel_rfl
theorem zp1399:E g1 10000 36 zc929 zr1392 zm3=some (outOf 1,⟨zr1394,zm1396⟩):=z7 (Nat.le_of_ble_eq_true rfl) zl1398 zk1397
theorem zf1400:C g1 10001 z3 [(G zw1390)] Mem.zero=some ((i 0),zm339):=z5 (fn:=z8) (n:=10000) 1 (Nat.le_of_ble_eq_true rfl) (by kernel_rfl) (by kernel_rfl) (by kernel_rfl) (by kernel_rfl) (by kernel_rfl) zp1399 (by kernel_rfl)
theorem zl1410:zr1404.length=36:=by kernel_rfl
theorem zp1411:E g1 10000 36 zc929 zr1404 zm3=some (outOf 1,⟨zr1406,zm1408⟩):=z7 (Nat.le_of_ble_eq_true rfl) zl1410 zk1409
theorem zf1412:C g1 10001 z3 [(G zw1402)] Mem.zero=some ((i 0),zm339):=z5 (fn:=z8) (n:=10000) 1 (Nat.le_of_ble_eq_true rfl) (by kernel_rfl) (by kernel_rfl) (by kernel_rfl) (by kernel_rfl) (by kernel_rfl) zp1411 (by kernel_rfl)
theorem zl1422:zr1416.length=36:=by kernel_rfl
theorem zp1423:E g1 10000 36 zc929 zr1416 zm3=some (outOf 1,⟨zr1418,zm1420⟩):=z7 (Nat.le_of_ble_eq_true rfl) zl1422 zk1421
theorem zf1424:C g1 10001 z3 [(G zw1414)] Mem.zero=some ((i 0),zm339):=z5 (fn:=z8) (n:=10000) 1 (Nat.le_of_ble_eq_true rfl) (by kernel_rfl) (by kernel_rfl) (by kernel_rfl) (by kernel_rfl) (by kernel_rfl) zp1423 (by kernel_rfl)
theorem zl1434:zr1428.length=36:=by kernel_rfl
theorem zp1435:E g1 10000 36 zc929 zr1428 zm3=some (outOf 1,⟨zr1430,zm1432⟩):=z7 (Nat.le_of_ble_eq_true rfl) zl1434 zk1433
theorem zf1436:C g1 10001 z3 [(G zw1426)] Mem.zero=some ((i 0),zm339):=z5 (fn:=z8) (n:=10000) 1 (Nat.le_of_ble_eq_true rfl) (by kernel_rfl) (by kernel_rfl) (by kernel_rfl) (by kernel_rfl) (by kernel_rfl) zp1435 (by kernel_rfl)
theorem zl1446:zr1440.length=36:=by kernel_rfl
theorem zp1447:E g1 10000 36 zc929 zr1440 zm3=some (outOf 1,⟨zr1442,zm1444⟩):=z7 (Nat.le_of_ble_eq_true rfl) zl1446 zk1445
theorem zf1448:C g1 10001 z3 [(G zw1438)] Mem.zero=some ((i 0),zm339):=z5 (fn:=z8) (n:=10000) 1 (Nat.le_of_ble_eq_true rfl) (by kernel_rfl) (by kernel_rfl) (by kernel_rfl) (by kernel_rfl) (by kernel_rfl) zp1447 (by kernel_rfl)
theorem zl1459:zr1452.length=36:=by kernel_rfl
theorem zp1460:E g1 10000 36 zc929 zr1452 zm3=some (outOf 1,⟨zr1455,zm1457⟩):=z7 (Nat.le_of_ble_eq_true rfl) zl1459 zk1458
theorem zf1461:C g1 10001 z3 [(G zw1450)] Mem.zero=some ((i 0),zm339):=z5 (fn:=z8) (n:=10000) 1 (Nat.le_of_ble_eq_true rfl) (by kernel_rfl) (by kernel_rfl) (by kernel_rfl) (by kernel_rfl) (by kernel_rfl) zp1460 (by kernel_rfl)
theorem zl1471:zr1465.length=36:=by kernel_rfl
theorem zp1472:E g1 10000 36 zc929 zr1465 zm3=some (outOf 1,⟨zr1467,zm1469⟩):=z7 (Nat.le_of_ble_eq_true rfl) zl1471 zk1470
theorem zf1473:C g1 10001 z3 [(G zw1463)] Mem.zero=some ((i 0),zm339):=z5 (fn:=z8) (n:=10000) 1 (Nat.le_of_ble_eq_true rfl) (by kernel_rfl) (by kernel_rfl) (by kernel_rfl) (by kernel_rfl) (by kernel_rfl) zp1472 (by kernel_rfl)
theorem zl1483:zr1477.length=36:=by kernel_rfl
theorem zp1484:E g1 10000 36 zc929 zr1477 zm3=some (outOf 1,⟨zr1479,zm1481⟩):=z7 (Nat.le_of_ble_eq_true rfl) zl1483 zk1482
theorem zf1485:C g1 10001 z3 [(G zw1475)] Mem.zero=some ((i 0),zm339):=z5 (fn:=z8) (n:=10000) 1 (Nat.le_of_ble_eq_true rfl) (by kernel_rfl) (by kernel_rfl) (by kernel_rfl) (by kernel_rfl) (by kernel_rfl) zp1484 (by kernel_rfl)
theorem zl1495:zr1489.length=36:=by kernel_rfl
theorem zp1496:E g1 10000 36 zc929 zr1489 zm3=some (outOf 1,⟨zr1491,zm1493⟩):=z7 (Nat.le_of_ble_eq_true rfl) zl1495 zk1494
theorem zf1497:C g1 10001 z3 [(G zw1487)] Mem.zero=some ((i 0),zm339):=z5 (fn:=z8) (n:=10000) 1 (Nat.le_of_ble_eq_true rfl) (by kernel_rfl) (by kernel_rfl) (by kernel_rfl) (by kernel_rfl) (by kernel_rfl) zp1496 (by kernel_rfl)
theorem zl1508:zr1501.length=36:=by kernel_rfl
theorem zp1509:E g1 10000 36 zc929 zr1501 zm3=some (outOf 1,⟨zr1504,zm1506⟩):=z7 (Nat.le_of_ble_eq_true rfl) zl1508 zk1507
theorem zf1510:C g1 10001 z3 [(G zw1499)] Mem.zero=some ((i 0),zm339):=z5 (fn:=z8) (n:=10000) 1 (Nat.le_of_ble_eq_true rfl) (by kernel_rfl) (by kernel_rfl) (by kernel_rfl) (by kernel_rfl) (by kernel_rfl) zp1509 (by kernel_rfl)
theorem zl1521:zr1514.length=36:=by kernel_rfl
theorem zp1522:E g1 10000 36 zc929 zr1514 zm3=some (outOf 1,⟨zr1517,zm1519⟩):=z7 (Nat.le_of_ble_eq_true rfl) zl1521 zk1520
theorem zf1523:C g1 10001 z3 [(G zw1512)] Mem.zero=some ((i 0),zm339):=z5 (fn:=z8) (n:=10000) 1 (Nat.le_of_ble_eq_true rfl) (by kernel_rfl) (by kernel_rfl) (by kernel_rfl) (by kernel_rfl) (by kernel_rfl) zp1522 (by kernel_rfl)
theorem zl1533:zr1527.length=36:=by kernel_rfl
theorem zp1534:E g1 10000 36 zc929 zr1527 zm3=some (outOf 1,⟨zr1529,zm1531⟩):=z7 (Nat.le_of_ble_eq_true rfl) zl1533 zk1532
theorem zf1535:C g1 10001 z3 [(G zw1525)] Mem.zero=some ((i 0),zm339):=z5 (fn:=z8) (n:=10000) 1 (Nat.le_of_ble_eq_true rfl) (by kernel_rfl) (by kernel_rfl) (by kernel_rfl) (by kernel_rfl) (by kernel_rfl) zp1534 (by kernel_rfl)
theorem zl1545:zr1539.length=36:=by kernel_rfl
theorem zp1546:E g1 10000 36 zc929 zr1539 zm3=some (outOf 1,⟨zr1541,zm1543⟩):=z7 (Nat.le_of_ble_eq_true rfl) zl1545 zk1544
theorem zf1547:C g1 10001 z3 [(G zw1537)] Mem.zero=some ((i 0),zm339):=z5 (fn:=z8) (n:=10000) 1 (Nat.le_of_ble_eq_true rfl) (by kernel_rfl) (by kernel_rfl) (by kernel_rfl) (by kernel_rfl) (by kernel_rfl) zp1546 (by kernel_rfl)
theorem zl1558:zr1551.length=36:=by kernel_rfl
theorem zp1559:E g1 10000 36 zc929 zr1551 zm3=some (outOf 1,⟨zr1554,zm1556⟩):=z7 (Nat.le_of_ble_eq_true rfl) zl1558 zk1557
theorem zf1560:C g1 10001 z3 [(G zw1549)] Mem.zero=some ((i 0),zm339):=z5 (fn:=z8) (n:=10000) 1 (Nat.le_of_ble_eq_true rfl) (by kernel_rfl) (by kernel_rfl) (by kernel_rfl) (by kernel_rfl) (by kernel_rfl) zp1559 (by kernel_rfl)
theorem zl1572:zr1564.length=36:=by kernel_rfl
theorem zp1573:E g1 10000 36 zc929 zr1564 zm3=some (outOf 1,⟨zr1568,zm1570⟩):=z7 (Nat.le_of_ble_eq_true rfl) zl1572 zk1571
theorem zf1574:C g1 10001 z3 [(G zw1562)] Mem.zero=some ((i 0),zm339):=z5 (fn:=z8) (n:=10000) 1 (Nat.le_of_ble_eq_true rfl) (by kernel_rfl) (by kernel_rfl) (by kernel_rfl) (by kernel_rfl) (by kernel_rfl) zp1573 (by kernel_rfl)
theorem zl1584:zr1578.length=36:=by kernel_rfl
theorem zp1585:E g1 10000 36 zc929 zr1578 zm3=some (outOf 1,⟨zr1580,zm1582⟩):=z7 (Nat.le_of_ble_eq_true rfl) zl1584 zk1583
theorem zf1586:C g1 10001 z3 [(G zw1576)] Mem.zero=some ((i 0),zm339):=z5 (fn:=z8) (n:=10000) 1 (Nat.le_of_ble_eq_true rfl) (by kernel_rfl) (by kernel_rfl) (by kernel_rfl) (by kernel_rfl) (by kernel_rfl) zp1585 (by kernel_rfl)
theorem zl1598:zr1590.length=36:=by kernel_rfl
theorem zp1599:E g1 10000 36 zc929 zr1590 zm3=some (outOf 1,⟨zr1594,zm1596⟩):=z7 (Nat.le_of_ble_eq_true rfl) zl1598 zk1597
theorem zf1600:C g1 10001 z3 [(G zw1588)] Mem.zero=some ((i 0),zm339):=z5 (fn:=z8) (n:=10000) 1 (Nat.le_of_ble_eq_true rfl) (by kernel_rfl) (by kernel_rfl) (by kernel_rfl) (by kernel_rfl) (by kernel_rfl) zp1599 (by kernel_rfl)
theorem zl1612:zr1604.length=36:=by kernel_rfl
theorem zp1613:E g1 10000 36 zc929 zr1604 zm3=some (outOf 1,⟨zr1608,zm1610⟩):=z7 (Nat.le_of_ble_eq_true rfl) zl1612 zk1611
theorem zf1614:C g1 10001 z3 [(G zw1602)] Mem.zero=some ((i 0),zm339):=z5 (fn:=z8) (n:=10000) 1 (Nat.le_of_ble_eq_true rfl) (by kernel_rfl) (by kernel_rfl) (by kernel_rfl) (by kernel_rfl) (by kernel_rfl) zp1613 (by kernel_rfl)
theorem zl1624:zr1618.length=36:=by kernel_rfl
theorem zp1625:E g1 10000 36 zc929 zr1618 zm3=some (outOf 1,⟨zr1620,zm1622⟩):=z7 (Nat.le_of_ble_eq_true rfl) zl1624 zk1623
theorem zf1626:C g1 10001 z3 [(G zw1616)] Mem.zero=some ((i 0),zm339):=z5 (fn:=z8) (n:=10000) 1 (Nat.le_of_ble_eq_true rfl) (by kernel_rfl) (by kernel_rfl) (by kernel_rfl) (by kernel_rfl) (by kernel_rfl) zp1625 (by kernel_rfl)
theorem zl1637:zr1630.length=36:=by kernel_rfl
theorem zp1638:E g1 10000 36 zc929 zr1630 zm3=some (outOf 1,⟨zr1633,zm1635⟩):=z7 (Nat.le_of_ble_eq_true rfl) zl1637 zk1636
theorem zf1639:C g1 10001 z3 [(G zw1628)] Mem.zero=some ((i 0),zm339):=z5 (fn:=z8) (n:=10000) 1 (Nat.le_of_ble_eq_true rfl) (by kernel_rfl) (by kernel_rfl) (by kernel_rfl) (by kernel_rfl) (by kernel_rfl) zp1638 (by kernel_rfl)
theorem zl1649:zr1643.length=36:=by kernel_rfl
theorem zp1650:E g1 10000 36 zc929 zr1643 zm3=some (outOf 1,⟨zr1645,zm1647⟩):=z7 (Nat.le_of_ble_eq_true rfl) zl1649 zk1648
theorem zf1651:C g1 10001 z3 [(G zw1641)] Mem.zero=some ((i 0),zm339):=z5 (fn:=z8) (n:=10000) 1 (Nat.le_of_ble_eq_true rfl) (by kernel_rfl) (by kernel_rfl) (by kernel_rfl) (by kernel_rfl) (by kernel_rfl) zp1650 (by kernel_rfl)
theorem zl1662:zr1655.length=36:=by kernel_rfl
theorem zp1663:E g1 10000 36 zc929 zr1655 zm3=some (outOf 1,⟨zr1658,zm1660⟩):=z7 (Nat.le_of_ble_eq_true rfl) zl1662 zk1661
theorem zf1664:C g1 10001 z3 [(G zw1653)] Mem.zero=some ((i 0),zm339):=z5 (fn:=z8) (n:=10000) 1 (Nat.le_of_ble_eq_true rfl) (by kernel_rfl) (by kernel_rfl) (by kernel_rfl) (by kernel_rfl) (by kernel_rfl) zp1663 (by kernel_rfl)
theorem zl1675:zr1668.length=36:=by kernel_rfl
theorem zp1676:E g1 10000 36 zc929 zr1668 zm3=some (outOf 1,⟨zr1671,zm1673⟩):=z7 (Nat.le_of_ble_eq_true rfl) zl1675 zk1674
theorem zf1677:C g1 10001 z3 [(G zw1666)] Mem.zero=some ((i 0),zm339):=z5 (fn:=z8) (n:=10000) 1 (Nat.le_of_ble_eq_true rfl) (by kernel_rfl) (by kernel_rfl) (by kernel_rfl) (by kernel_rfl) (by kernel_rfl) zp1676 (by kernel_rfl)
theorem zl1687:zr1681.length=36:=by kernel_rfl
theorem zp1688:E g1 10000 36 zc929 zr1681 zm3=some (outOf 1,⟨zr1683,zm1685⟩):=z7 (Nat.le_of_ble_eq_true rfl) zl1687 zk1686
theorem zf1689:C g1 10001 z3 [(G zw1679)] Mem.zero=some ((i 0),zm339):=z5 (fn:=z8) (n:=10000) 1 (Nat.le_of_ble_eq_true rfl) (by kernel_rfl) (by kernel_rfl) (by kernel_rfl) (by kernel_rfl) (by kernel_rfl) zp1688 (by kernel_rfl)
theorem zl1700:zr1693.length=36:=by kernel_rfl
theorem zp1701:E g1 10000 36 zc929 zr1693 zm3=some (outOf 1,⟨zr1696,zm1698⟩):=z7 (Nat.le_of_ble_eq_true rfl) zl1700 zk1699
theorem zf1702:C g1 10001 z3 [(G zw1691)] Mem.zero=some ((i 0),zm339):=z5 (fn:=z8) (n:=10000) 1 (Nat.le_of_ble_eq_true rfl) (by kernel_rfl) (by kernel_rfl) (by kernel_rfl) (by kernel_rfl) (by kernel_rfl) zp1701 (by kernel_rfl)
theorem zl1713:zr1706.length=36:=by kernel_rfl
theorem zp1714:E g1 10000 36 zc929 zr1706 zm3=some (outOf 1,⟨zr1709,zm1711⟩):=z7 (Nat.le_of_ble_eq_true rfl) zl1713 zk1712
theorem zf1715:C g1 10001 z3 [(G zw1704)] Mem.zero=some ((i 0),zm339):=z5 (fn:=z8) (n:=10000) 1 (Nat.le_of_ble_eq_true rfl) (by kernel_rfl) (by kernel_rfl) (by kernel_rfl) (by kernel_rfl) (by kernel_rfl) zp1714 (by kernel_rfl)
theorem zl1725:zr1719.length=36:=by kernel_rfl
theorem zp1726:E g1 10000 36 zc929 zr1719 zm3=some (outOf 1,⟨zr1721,zm1723⟩):=z7 (Nat.le_of_ble_eq_true rfl) zl1725 zk1724
theorem zf1727:C g1 10001 z3 [(G zw1717)] Mem.zero=some ((i 0),zm339):=z5 (fn:=z8) (n:=10000) 1 (Nat.le_of_ble_eq_true rfl) (by kernel_rfl) (by kernel_rfl) (by kernel_rfl) (by kernel_rfl) (by kernel_rfl) zp1726 (by kernel_rfl)
theorem zl1737:zr1731.length=36:=by kernel_rfl
theorem zp1738:E g1 10000 36 zc929 zr1731 zm3=some (outOf 1,⟨zr1733,zm1735⟩):=z7 (Nat.le_of_ble_eq_true rfl) zl1737 zk1736
theorem zf1739:C g1 10001 z3 [(G zw1729)] Mem.zero=some ((i 0),zm339):=z5 (fn:=z8) (n:=10000) 1 (Nat.le_of_ble_eq_true rfl) (by kernel_rfl) (by kernel_rfl) (by kernel_rfl) (by kernel_rfl) (by kernel_rfl) zp1738 (by kernel_rfl)
theorem zl1749:zr1743.length=36:=by kernel_rfl
theorem zp1750:E g1 10000 36 zc929 zr1743 zm3=some (outOf 1,⟨zr1745,zm1747⟩):=z7 (Nat.le_of_ble_eq_true rfl) zl1749 zk1748
theorem zf1751:C g1 10001 z3 [(G zw1741)] Mem.zero=some ((i 0),zm339):=z5 (fn:=z8) (n:=10000) 1 (Nat.le_of_ble_eq_true rfl) (by kernel_rfl) (by kernel_rfl) (by kernel_rfl) (by kernel_rfl) (by kernel_rfl) zp1750 (by kernel_rfl)
theorem zl1762:zr1755.length=36:=by kernel_rfl
theorem zp1763:E g1 10000 36 zc929 zr1755 zm3=some (outOf 1,⟨zr1758,zm1760⟩):=z7 (Nat.le_of_ble_eq_true rfl) zl1762 zk1761
theorem zf1764:C g1 10001 z3 [(G zw1753)] Mem.zero=some ((i 0),zm339):=z5 (fn:=z8) (n:=10000) 1 (Nat.le_of_ble_eq_true rfl) (by kernel_rfl) (by kernel_rfl) (by kernel_rfl) (by kernel_rfl) (by kernel_rfl) zp1763 (by kernel_rfl)
theorem zl1775:zr1768.length=36:=by kernel_rfl
theorem zp1776:E g1 10000 36 zc929 zr1768 zm3=some (outOf 1,⟨zr1771,zm1773⟩):=z7 (Nat.le_of_ble_eq_true rfl) zl1775 zk1774
theorem zf1777:C g1 10001 z3 [(G zw1766)] Mem.zero=some ((i 0),zm339):=z5 (fn:=z8) (n:=10000) 1 (Nat.le_of_ble_eq_true rfl) (by kernel_rfl) (by kernel_rfl) (by kernel_rfl) (by kernel_rfl) (by kernel_rfl) zp1776 (by kernel_rfl)
theorem zl1787:zr1781.length=36:=by kernel_rfl
theorem zp1788:E g1 10000 36 zc929 zr1781 zm3=some (outOf 1,⟨zr1783,zm1785⟩):=z7 (Nat.le_of_ble_eq_true rfl) zl1787 zk1786
theorem zf1789:C g1 10001 z3 [(G zw1779)] Mem.zero=some ((i 0),zm339):=z5 (fn:=z8) (n:=10000) 1 (Nat.le_of_ble_eq_true rfl) (by kernel_rfl) (by kernel_rfl) (by kernel_rfl) (by kernel_rfl) (by kernel_rfl) zp1788 (by kernel_rfl)
theorem zl1799:zr1793.length=36:=by kernel_rfl
theorem zp1800:E g1 10000 36 zc929 zr1793 zm3=some (outOf 1,⟨zr1795,zm1797⟩):=z7 (Nat.le_of_ble_eq_true rfl) zl1799 zk1798
theorem zf1801:C g1 10001 z3 [(G zw1791)] Mem.zero=some ((i 0),zm339):=z5 (fn:=z8) (n:=10000) 1 (Nat.le_of_ble_eq_true rfl) (by kernel_rfl) (by kernel_rfl) (by kernel_rfl) (by kernel_rfl) (by kernel_rfl) zp1800 (by kernel_rfl)
theorem zl1811:zr1805.length=36:=by kernel_rfl
theorem zp1812:E g1 10000 36 zc929 zr1805 zm3=some (outOf 1,⟨zr1807,zm1809⟩):=z7 (Nat.le_of_ble_eq_true rfl) zl1811 zk1810
theorem zf1813:C g1 10001 z3 [(G zw1803)] Mem.zero=some ((i 0),zm339):=z5 (fn:=z8) (n:=10000) 1 (Nat.le_of_ble_eq_true rfl) (by kernel_rfl) (by kernel_rfl) (by kernel_rfl) (by kernel_rfl) (by kernel_rfl) zp1812 (by kernel_rfl)
theorem zl1823:zr1817.length=36:=by kernel_rfl
theorem zp1824:E g1 10000 36 zc929 zr1817 zm3=some (outOf 1,⟨zr1819,zm1821⟩):=z7 (Nat.le_of_ble_eq_true rfl) zl1823 zk1822
theorem zf1825:C g1 10001 z3 [(G zw1815)] Mem.zero=some ((i 0),zm339):=z5 (fn:=z8) (n:=10000) 1 (Nat.le_of_ble_eq_true rfl) (by kernel_rfl) (by kernel_rfl) (by kernel_rfl) (by kernel_rfl) (by kernel_rfl) zp1824 (by kernel_rfl)
theorem zl1835:zr1829.length=36:=by kernel_rfl
theorem zp1836:E g1 10000 36 zc929 zr1829 zm3=some (outOf 1,⟨zr1831,zm1833⟩):=z7 (Nat.le_of_ble_eq_true rfl) zl1835 zk1834
theorem zf1837:C g1 10001 z3 [(G zw1827)] Mem.zero=some ((i 0),zm339):=z5 (fn:=z8) (n:=10000) 1 (Nat.le_of_ble_eq_true rfl) (by kernel_rfl) (by kernel_rfl) (by kernel_rfl) (by kernel_rfl) (by kernel_rfl) zp1836 (by kernel_rfl)
theorem zl1847:zr1841.length=36:=by kernel_rfl
theorem zp1848:E g1 10000 36 zc929 zr1841 zm3=some (outOf 1,⟨zr1843,zm1845⟩):=z7 (Nat.le_of_ble_eq_true rfl) zl1847 zk1846
theorem zf1849:C g1 10001 z3 [(G zw1839)] Mem.zero=some ((i 0),zm339):=z5 (fn:=z8) (n:=10000) 1 (Nat.le_of_ble_eq_true rfl) (by kernel_rfl) (by kernel_rfl) (by kernel_rfl) (by kernel_rfl) (by kernel_rfl) zp1848 (by kernel_rfl)
theorem zl1859:zr1853.length=36:=by kernel_rfl
theorem zp1860:E g1 10000 36 zc929 zr1853 zm3=some (outOf 1,⟨zr1855,zm1857⟩):=z7 (Nat.le_of_ble_eq_true rfl) zl1859 zk1858
theorem zf1861:C g1 10001 z3 [(G zw1851)] Mem.zero=some ((i 0),zm339):=z5 (fn:=z8) (n:=10000) 1 (Nat.le_of_ble_eq_true rfl) (by kernel_rfl) (by kernel_rfl) (by kernel_rfl) (by kernel_rfl) (by kernel_rfl) zp1860 (by kernel_rfl)
theorem zl1871:zr1865.length=36:=by kernel_rfl
theorem zp1872:E g1 10000 36 zc929 zr1865 zm3=some (outOf 1,⟨zr1867,zm1869⟩):=z7 (Nat.le_of_ble_eq_true rfl) zl1871 zk1870
theorem zf1873:C g1 10001 z3 [(G zw1863)] Mem.zero=some ((i 0),zm339):=z5 (fn:=z8) (n:=10000) 1 (Nat.le_of_ble_eq_true rfl) (by kernel_rfl) (by kernel_rfl) (by kernel_rfl) (by kernel_rfl) (by kernel_rfl) zp1872 (by kernel_rfl)
theorem zl1884:zr1877.length=36:=by kernel_rfl
theorem zp1885:E g1 10000 36 zc929 zr1877 zm3=some (outOf 1,⟨zr1880,zm1882⟩):=z7 (Nat.le_of_ble_eq_true rfl) zl1884 zk1883
theorem zf1886:C g1 10001 z3 [(G zw1875)] Mem.zero=some ((i 0),zm339):=z5 (fn:=z8) (n:=10000) 1 (Nat.le_of_ble_eq_true rfl) (by kernel_rfl) (by kernel_rfl) (by kernel_rfl) (by kernel_rfl) (by kernel_rfl) zp1885 (by kernel_rfl)
theorem zl1897:zr1890.length=36:=by kernel_rfl
theorem zp1898:E g1 10000 36 zc929 zr1890 zm3=some (outOf 1,⟨zr1893,zm1895⟩):=z7 (Nat.le_of_ble_eq_true rfl) zl1897 zk1896
theorem zf1899:C g1 10001 z3 [(G zw1888)] Mem.zero=some ((i 0),zm339):=z5 (fn:=z8) (n:=10000) 1 (Nat.le_of_ble_eq_true rfl) (by kernel_rfl) (by kernel_rfl) (by kernel_rfl) (by kernel_rfl) (by kernel_rfl) zp1898 (by kernel_rfl)
theorem zl1910:zr1903.length=36:=by kernel_rfl
theorem zp1911:E g1 10000 36 zc929 zr1903 zm3=some (outOf 1,⟨zr1906,zm1908⟩):=z7 (Nat.le_of_ble_eq_true rfl) zl1910 zk1909
theorem zf1912:C g1 10001 z3 [(G zw1901)] Mem.zero=some ((i 0),zm339):=z5 (fn:=z8) (n:=10000) 1 (Nat.le_of_ble_eq_true rfl) (by kernel_rfl) (by kernel_rfl) (by kernel_rfl) (by kernel_rfl) (by kernel_rfl) zp1911 (by kernel_rfl)
theorem zl1922:zr1916.length=36:=by kernel_rfl
theorem zp1923:E g1 10000 36 zc929 zr1916 zm3=some (outOf 1,⟨zr1918,zm1920⟩):=z7 (Nat.le_of_ble_eq_true rfl) zl1922 zk1921
theorem zf1924:C g1 10001 z3 [(G zw1914)] Mem.zero=some ((i 0),zm339):=z5 (fn:=z8) (n:=10000) 1 (Nat.le_of_ble_eq_true rfl) (by kernel_rfl) (by kernel_rfl) (by kernel_rfl) (by kernel_rfl) (by kernel_rfl) zp1923 (by kernel_rfl)
theorem zl1934:zr1928.length=36:=by kernel_rfl
theorem zp1935:E g1 10000 36 zc929 zr1928 zm3=some (outOf 1,⟨zr1930,zm1932⟩):=z7 (Nat.le_of_ble_eq_true rfl) zl1934 zk1933
theorem zf1936:C g1 10001 z3 [(G zw1926)] Mem.zero=some ((i 0),zm339):=z5 (fn:=z8) (n:=10000) 1 (Nat.le_of_ble_eq_true rfl) (by kernel_rfl) (by kernel_rfl) (by kernel_rfl) (by kernel_rfl) (by kernel_rfl) zp1935 (by kernel_rfl)
theorem zl1946:zr1940.length=36:=by kernel_rfl
theorem zp1947:E g1 10000 36 zc929 zr1940 zm3=some (outOf 1,⟨zr1942,zm1944⟩):=z7 (Nat.le_of_ble_eq_true rfl) zl1946 zk1945
theorem zf1948:C g1 10001 z3 [(G zw1938)] Mem.zero=some ((i 0),zm339):=z5 (fn:=z8) (n:=10000) 1 (Nat.le_of_ble_eq_true rfl) (by kernel_rfl) (by kernel_rfl) (by kernel_rfl) (by kernel_rfl) (by kernel_rfl) zp1947 (by kernel_rfl)
theorem zl1959:zr1952.length=36:=by kernel_rfl
theorem zp1960:E g1 10000 36 zc929 zr1952 zm3=some (outOf 1,⟨zr1955,zm1957⟩):=z7 (Nat.le_of_ble_eq_true rfl) zl1959 zk1958
theorem zf1961:C g1 10001 z3 [(G zw1950)] Mem.zero=some ((i 0),zm339):=z5 (fn:=z8) (n:=10000) 1 (Nat.le_of_ble_eq_true rfl) (by kernel_rfl) (by kernel_rfl) (by kernel_rfl) (by kernel_rfl) (by kernel_rfl) zp1960 (by kernel_rfl)
theorem zl1971:zr1965.length=36:=by kernel_rfl
theorem zp1972:E g1 10000 36 zc929 zr1965 zm3=some (outOf 1,⟨zr1967,zm1969⟩):=z7 (Nat.le_of_ble_eq_true rfl) zl1971 zk1970
theorem zf1973:C g1 10001 z3 [(G zw1963)] Mem.zero=some ((i 0),zm339):=z5 (fn:=z8) (n:=10000) 1 (Nat.le_of_ble_eq_true rfl) (by kernel_rfl) (by kernel_rfl) (by kernel_rfl) (by kernel_rfl) (by kernel_rfl) zp1972 (by kernel_rfl)
theorem zl1981:zr1976.length=15:=by kernel_rfl
theorem zp1982:E g1 10000 15 zc1977 zr1976 zm3=some (outOf 1,⟨zr1979,zm3⟩):=z7 (Nat.le_of_ble_eq_true rfl) zl1981 zk1980
theorem zf1983:C g1 10001 zl [zv747,(i 10)] Mem.zero=some ((i 0),zm852):=z5 (fn:=zU) (n:=10000) 1 (Nat.le_of_ble_eq_true rfl) (by kernel_rfl) (by kernel_rfl) (by kernel_rfl) (by kernel_rfl) (by kernel_rfl) zp1982 (by kernel_rfl)
theorem zl1990:zr1986.length=15:=by kernel_rfl
theorem zp1991:E g1 10000 15 zc1977 zr1986 zm3=some (outOf 1,⟨zr1988,zm3⟩):=z7 (Nat.le_of_ble_eq_true rfl) zl1990 zk1989
theorem zf1992:C g1 10001 zl [zv747,(i 1)] Mem.zero=some ((i 0),zm852):=z5 (fn:=zU) (n:=10000) 1 (Nat.le_of_ble_eq_true rfl) (by kernel_rfl) (by kernel_rfl) (by kernel_rfl) (by kernel_rfl) (by kernel_rfl) zp1991 (by kernel_rfl)
theorem zl1999:zr1995.length=15:=by kernel_rfl
theorem zp2000:E g1 10000 15 zc1977 zr1995 zm3=some (outOf 1,⟨zr1997,zm3⟩):=z7 (Nat.le_of_ble_eq_true rfl) zl1999 zk1998
theorem zf2001:C g1 10001 zl [zv747,(i 4)] Mem.zero=some ((i 0),zm852):=z5 (fn:=zU) (n:=10000) 1 (Nat.le_of_ble_eq_true rfl) (by kernel_rfl) (by kernel_rfl) (by kernel_rfl) (by kernel_rfl) (by kernel_rfl) zp2000 (by kernel_rfl)
theorem zl2008:zr2004.length=15:=by kernel_rfl
theorem zp2009:E g1 10000 15 zc1977 zr2004 zm3=some (outOf 1,⟨zr2006,zm3⟩):=z7 (Nat.le_of_ble_eq_true rfl) zl2008 zk2007
theorem zf2010:C g1 10001 zl [(N 2 zw781),(i 4)] Mem.zero=some ((i 0),zm852):=z5 (fn:=zU) (n:=10000) 1 (Nat.le_of_ble_eq_true rfl) (by kernel_rfl) (by kernel_rfl) (by kernel_rfl) (by kernel_rfl) (by kernel_rfl) zp2009 (by kernel_rfl)
theorem zl2017:zr2013.length=15:=by kernel_rfl
theorem zp2018:E g1 10000 15 zc1977 zr2013 zm3=some (outOf 1,⟨zr2015,zm3⟩):=z7 (Nat.le_of_ble_eq_true rfl) zl2017 zk2016
theorem zf2019:C g1 10001 zl [(N 2 zw796),(i 4)] Mem.zero=some ((i 0),zm852):=z5 (fn:=zU) (n:=10000) 1 (Nat.le_of_ble_eq_true rfl) (by kernel_rfl) (by kernel_rfl) (by kernel_rfl) (by kernel_rfl) (by kernel_rfl) zp2018 (by kernel_rfl)
theorem zl2030:zr2022.length=51:=by kernel_rfl
theorem zp2031:E g2 10000 51 zc2023 zr2022 zm3=some (outOf 1,⟨zr2027,zm2028⟩):=z7 (Nat.le_of_ble_eq_true rfl) zl2030 zk2029
theorem zf2034:C g2 10001 z6 [(G zw925)] Mem.zero=some (zv2032,zm2033):=z5 (fn:=zb) (n:=10000) 1 (Nat.le_of_ble_eq_true rfl) (by kernel_rfl) (by kernel_rfl) (by kernel_rfl) (by kernel_rfl) (by kernel_rfl) zp2031 (by kernel_rfl)
theorem zl2044:zr2037.length=51:=by kernel_rfl
theorem zp2045:E g2 10000 51 zc2023 zr2037 zm3=some (outOf 1,⟨zr2041,zm2042⟩):=z7 (Nat.le_of_ble_eq_true rfl) zl2044 zk2043
theorem zf2047:C g2 10001 z6 [(G zw941)] Mem.zero=some (zv2046,zm2033):=z5 (fn:=zb) (n:=10000) 1 (Nat.le_of_ble_eq_true rfl) (by kernel_rfl) (by kernel_rfl) (by kernel_rfl) (by kernel_rfl) (by kernel_rfl) zp2045 (by kernel_rfl)
theorem zl2057:zr2050.length=51:=by kernel_rfl
theorem zp2058:E g2 10000 51 zc2023 zr2050 zm3=some (outOf 1,⟨zr2054,zm2055⟩):=z7 (Nat.le_of_ble_eq_true rfl) zl2057 zk2056
theorem zf2060:C g2 10001 z6 [(G zw954)] Mem.zero=some (zv2059,zm2033):=z5 (fn:=zb) (n:=10000) 1 (Nat.le_of_ble_eq_true rfl) (by kernel_rfl) (by kernel_rfl) (by kernel_rfl) (by kernel_rfl) (by kernel_rfl) zp2058 (by kernel_rfl)
theorem zl2070:zr2063.length=51:=by kernel_rfl
theorem zp2071:E g2 10000 51 zc2023 zr2063 zm3=some (outOf 1,⟨zr2067,zm2068⟩):=z7 (Nat.le_of_ble_eq_true rfl) zl2070 zk2069
theorem zf2073:C g2 10001 z6 [(G zw967)] Mem.zero=some (zv2072,zm2033):=z5 (fn:=zb) (n:=10000) 1 (Nat.le_of_ble_eq_true rfl) (by kernel_rfl) (by kernel_rfl) (by kernel_rfl) (by kernel_rfl) (by kernel_rfl) zp2071 (by kernel_rfl)
theorem zl2083:zr2076.length=51:=by kernel_rfl
theorem zp2084:E g2 10000 51 zc2023 zr2076 zm3=some (outOf 1,⟨zr2080,zm2081⟩):=z7 (Nat.le_of_ble_eq_true rfl) zl2083 zk2082
theorem zf2086:C g2 10001 z6 [(G zw980)] Mem.zero=some (zv2085,zm2033):=z5 (fn:=zb) (n:=10000) 1 (Nat.le_of_ble_eq_true rfl) (by kernel_rfl) (by kernel_rfl) (by kernel_rfl) (by kernel_rfl) (by kernel_rfl) zp2084 (by kernel_rfl)
theorem zl2096:zr2089.length=51:=by kernel_rfl
theorem zp2097:E g2 10000 51 zc2023 zr2089 zm3=some (outOf 1,⟨zr2093,zm2094⟩):=z7 (Nat.le_of_ble_eq_true rfl) zl2096 zk2095
theorem zf2099:C g2 10001 z6 [(G zw993)] Mem.zero=some (zv2098,zm2033):=z5 (fn:=zb) (n:=10000) 1 (Nat.le_of_ble_eq_true rfl) (by kernel_rfl) (by kernel_rfl) (by kernel_rfl) (by kernel_rfl) (by kernel_rfl) zp2097 (by kernel_rfl)
theorem zl2109:zr2102.length=51:=by kernel_rfl
theorem zp2110:E g2 10000 51 zc2023 zr2102 zm3=some (outOf 1,⟨zr2106,zm2107⟩):=z7 (Nat.le_of_ble_eq_true rfl) zl2109 zk2108
theorem zf2112:C g2 10001 z6 [(G zw1006)] Mem.zero=some (zv2111,zm2033):=z5 (fn:=zb) (n:=10000) 1 (Nat.le_of_ble_eq_true rfl) (by kernel_rfl) (by kernel_rfl) (by kernel_rfl) (by kernel_rfl) (by kernel_rfl) zp2110 (by kernel_rfl)
theorem zl2122:zr2115.length=51:=by kernel_rfl
theorem zp2123:E g2 10000 51 zc2023 zr2115 zm3=some (outOf 1,⟨zr2119,zm2120⟩):=z7 (Nat.le_of_ble_eq_true rfl) zl2122 zk2121
theorem zf2125:C g2 10001 z6 [(G zw1019)] Mem.zero=some (zv2124,zm2033):=z5 (fn:=zb) (n:=10000) 1 (Nat.le_of_ble_eq_true rfl) (by kernel_rfl) (by kernel_rfl) (by kernel_rfl) (by kernel_rfl) (by kernel_rfl) zp2123 (by kernel_rfl)
theorem zl2136:zr2128.length=51:=by kernel_rfl
theorem zp2137:E g2 10000 51 zc2023 zr2128 zm3=some (outOf 1,⟨zr2133,zm2134⟩):=z7 (Nat.le_of_ble_eq_true rfl) zl2136 zk2135
theorem zf2139:C g2 10001 z6 [(G zw1044)] Mem.zero=some (zv2138,zm2033):=z5 (fn:=zb) (n:=10000) 1 (Nat.le_of_ble_eq_true rfl) (by kernel_rfl) (by kernel_rfl) (by kernel_rfl) (by kernel_rfl) (by kernel_rfl) zp2137 (by kernel_rfl)
theorem zl2152:zr2143.length=51:=by kernel_rfl
theorem zp2153:E g2 10000 51 zc2023 zr2143 zm3=some (outOf 1,⟨zr2149,zm2150⟩):=z7 (Nat.le_of_ble_eq_true rfl) zl2152 zk2151
theorem zf2156:C g2 10001 z6 [(G zw1463)] Mem.zero=some (zv2154,zm2155):=z5 (fn:=zb) (n:=10000) 1 (Nat.le_of_ble_eq_true rfl) (by kernel_rfl) (by kernel_rfl) (by kernel_rfl) (by kernel_rfl) (by kernel_rfl) zp2153 (by kernel_rfl)
theorem zl2168:zr2160.length=51:=by kernel_rfl
theorem zp2169:E g2 10000 51 zc2023 zr2160 zm3=some (outOf 1,⟨zr2165,zm2166⟩):=z7 (Nat.le_of_ble_eq_true rfl) zl2168 zk2167
theorem zf2171:C g2 10001 z6 [(G zw1475)] Mem.zero=some (zv2170,zm2155):=z5 (fn:=zb) (n:=10000) 1 (Nat.le_of_ble_eq_true rfl) (by kernel_rfl) (by kernel_rfl) (by kernel_rfl) (by kernel_rfl) (by kernel_rfl) zp2169 (by kernel_rfl)
theorem zl2183:zr2175.length=51:=by kernel_rfl
theorem zp2184:E g2 10000 51 zc2023 zr2175 zm3=some (outOf 1,⟨zr2180,zm2181⟩):=z7 (Nat.le_of_ble_eq_true rfl) zl2183 zk2182
theorem zf2186:C g2 10001 z6 [(G zw1487)] Mem.zero=some (zv2185,zm2155):=z5 (fn:=zb) (n:=10000) 1 (Nat.le_of_ble_eq_true rfl) (by kernel_rfl) (by kernel_rfl) (by kernel_rfl) (by kernel_rfl) (by kernel_rfl) zp2184 (by kernel_rfl)
theorem zl2198:zr2190.length=51:=by kernel_rfl
theorem zp2199:E g2 10000 51 zc2023 zr2190 zm3=some (outOf 1,⟨zr2195,zm2196⟩):=z7 (Nat.le_of_ble_eq_true rfl) zl2198 zk2197
theorem zf2201:C g2 10001 z6 [(G zw1499)] Mem.zero=some (zv2200,zm2155):=z5 (fn:=zb) (n:=10000) 1 (Nat.le_of_ble_eq_true rfl) (by kernel_rfl) (by kernel_rfl) (by kernel_rfl) (by kernel_rfl) (by kernel_rfl) zp2199 (by kernel_rfl)
theorem zl2213:zr2205.length=51:=by kernel_rfl
theorem zp2214:E g2 10000 51 zc2023 zr2205 zm3=some (outOf 1,⟨zr2210,zm2211⟩):=z7 (Nat.le_of_ble_eq_true rfl) zl2213 zk2212
theorem zf2217:C g2 10001 z6 [(G zw1512)] Mem.zero=some ((.tup zw2215),zm2216):=z5 (fn:=zb) (n:=10000) 1 (Nat.le_of_ble_eq_true rfl) (by kernel_rfl) (by kernel_rfl) (by kernel_rfl) (by kernel_rfl) (by kernel_rfl) zp2214 (by kernel_rfl)
theorem zl2229:zr2221.length=51:=by kernel_rfl
theorem zp2230:E g2 10000 51 zc2023 zr2221 zm3=some (outOf 1,⟨zr2226,zm2227⟩):=z7 (Nat.le_of_ble_eq_true rfl) zl2229 zk2228
theorem zf2232:C g2 10001 z6 [(G zw1525)] Mem.zero=some ((.tup zw2231),zm2216):=z5 (fn:=zb) (n:=10000) 1 (Nat.le_of_ble_eq_true rfl) (by kernel_rfl) (by kernel_rfl) (by kernel_rfl) (by kernel_rfl) (by kernel_rfl) zp2230 (by kernel_rfl)
theorem zl2244:zr2236.length=51:=by kernel_rfl
theorem zp2245:E g2 10000 51 zc2023 zr2236 zm3=some (outOf 1,⟨zr2241,zm2242⟩):=z7 (Nat.le_of_ble_eq_true rfl) zl2244 zk2243
theorem zf2247:C g2 10001 z6 [(G zw1537)] Mem.zero=some ((.tup zw2246),zm2216):=z5 (fn:=zb) (n:=10000) 1 (Nat.le_of_ble_eq_true rfl) (by kernel_rfl) (by kernel_rfl) (by kernel_rfl) (by kernel_rfl) (by kernel_rfl) zp2245 (by kernel_rfl)
theorem zl2259:zr2251.length=51:=by kernel_rfl
theorem zp2260:E g2 10000 51 zc2023 zr2251 zm3=some (outOf 1,⟨zr2256,zm2257⟩):=z7 (Nat.le_of_ble_eq_true rfl) zl2259 zk2258
theorem zf2262:C g2 10001 z6 [(G zw1549)] Mem.zero=some ((.tup zw2261),zm2216):=z5 (fn:=zb) (n:=10000) 1 (Nat.le_of_ble_eq_true rfl) (by kernel_rfl) (by kernel_rfl) (by kernel_rfl) (by kernel_rfl) (by kernel_rfl) zp2260 (by kernel_rfl)
theorem zl2274:zr2266.length=51:=by kernel_rfl
theorem zp2275:E g2 10000 51 zc2023 zr2266 zm3=some (outOf 1,⟨zr2271,zm2272⟩):=z7 (Nat.le_of_ble_eq_true rfl) zl2274 zk2273
theorem zf2277:C g2 10001 z6 [(G zw1562)] Mem.zero=some ((.tup zw2276),zm2216):=z5 (fn:=zb) (n:=10000) 1 (Nat.le_of_ble_eq_true rfl) (by kernel_rfl) (by kernel_rfl) (by kernel_rfl) (by kernel_rfl) (by kernel_rfl) zp2275 (by kernel_rfl)
theorem zl2289:zr2281.length=51:=by kernel_rfl
theorem zp2290:E g2 10000 51 zc2023 zr2281 zm3=some (outOf 1,⟨zr2286,zm2287⟩):=z7 (Nat.le_of_ble_eq_true rfl) zl2289 zk2288
theorem zf2292:C g2 10001 z6 [(G zw1576)] Mem.zero=some (zv2291,zm2155):=z5 (fn:=zb) (n:=10000) 1 (Nat.le_of_ble_eq_true rfl) (by kernel_rfl) (by kernel_rfl) (by kernel_rfl) (by kernel_rfl) (by kernel_rfl) zp2290 (by kernel_rfl)
theorem zl2304:zr2296.length=51:=by kernel_rfl
theorem zp2305:E g2 10000 51 zc2023 zr2296 zm3=some (outOf 1,⟨zr2301,zm2302⟩):=z7 (Nat.le_of_ble_eq_true rfl) zl2304 zk2303
theorem zf2307:C g2 10001 z6 [(G zw1588)] Mem.zero=some ((.tup zw2306),zm2216):=z5 (fn:=zb) (n:=10000) 1 (Nat.le_of_ble_eq_true rfl) (by kernel_rfl) (by kernel_rfl) (by kernel_rfl) (by kernel_rfl) (by kernel_rfl) zp2305 (by kernel_rfl)
theorem zl2319:zr2311.length=51:=by kernel_rfl
theorem zp2320:E g2 10000 51 zc2023 zr2311 zm3=some (outOf 1,⟨zr2316,zm2317⟩):=z7 (Nat.le_of_ble_eq_true rfl) zl2319 zk2318
theorem zf2322:C g2 10001 z6 [(G zw1602)] Mem.zero=some ((.tup zw2321),zm2216):=z5 (fn:=zb) (n:=10000) 1 (Nat.le_of_ble_eq_true rfl) (by kernel_rfl) (by kernel_rfl) (by kernel_rfl) (by kernel_rfl) (by kernel_rfl) zp2320 (by kernel_rfl)
theorem zl2334:zr2326.length=51:=by kernel_rfl
theorem zp2335:E g2 10000 51 zc2023 zr2326 zm3=some (outOf 1,⟨zr2331,zm2332⟩):=z7 (Nat.le_of_ble_eq_true rfl) zl2334 zk2333
theorem zf2337:C g2 10001 z6 [(G zw1616)] Mem.zero=some ((.tup zw2336),zm2216):=z5 (fn:=zb) (n:=10000) 1 (Nat.le_of_ble_eq_true rfl) (by kernel_rfl) (by kernel_rfl) (by kernel_rfl) (by kernel_rfl) (by kernel_rfl) zp2335 (by kernel_rfl)
theorem zl2349:zr2341.length=51:=by kernel_rfl
theorem zp2350:E g2 10000 51 zc2023 zr2341 zm3=some (outOf 1,⟨zr2346,zm2347⟩):=z7 (Nat.le_of_ble_eq_true rfl) zl2349 zk2348
theorem zf2352:C g2 10001 z6 [(G zw1628)] Mem.zero=some ((.tup zw2351),zm2216):=z5 (fn:=zb) (n:=10000) 1 (Nat.le_of_ble_eq_true rfl) (by kernel_rfl) (by kernel_rfl) (by kernel_rfl) (by kernel_rfl) (by kernel_rfl) zp2350 (by kernel_rfl)
theorem zl2362:zr2355.length=51:=by kernel_rfl
theorem zp2363:E g2 10000 51 zc2023 zr2355 zm3=some (outOf 1,⟨zr2359,zm2360⟩):=z7 (Nat.le_of_ble_eq_true rfl) zl2362 zk2361
theorem zf2365:C g2 10001 z6 [(G zw1641)] Mem.zero=some (zv2364,zm2033):=z5 (fn:=zb) (n:=10000) 1 (Nat.le_of_ble_eq_true rfl) (by kernel_rfl) (by kernel_rfl) (by kernel_rfl) (by kernel_rfl) (by kernel_rfl) zp2363 (by kernel_rfl)
theorem zl2377:zr2369.length=51:=by kernel_rfl
theorem zp2378:E g2 10000 51 zc2023 zr2369 zm3=some (outOf 1,⟨zr2374,zm2375⟩):=z7 (Nat.le_of_ble_eq_true rfl) zl2377 zk2376
theorem zf2380:C g2 10001 z6 [(G zw1653)] Mem.zero=some (zv2379,zm2155):=z5 (fn:=zb) (n:=10000) 1 (Nat.le_of_ble_eq_true rfl) (by kernel_rfl) (by kernel_rfl) (by kernel_rfl) (by kernel_rfl) (by kernel_rfl) zp2378 (by kernel_rfl)
theorem zl2392:zr2384.length=51:=by kernel_rfl
theorem zp2393:E g2 10000 51 zc2023 zr2384 zm3=some (outOf 1,⟨zr2389,zm2390⟩):=z7 (Nat.le_of_ble_eq_true rfl) zl2392 zk2391
theorem zf2395:C g2 10001 z6 [(G zw1666)] Mem.zero=some (zv2394,zm2155):=z5 (fn:=zb) (n:=10000) 1 (Nat.le_of_ble_eq_true rfl) (by kernel_rfl) (by kernel_rfl) (by kernel_rfl) (by kernel_rfl) (by kernel_rfl) zp2393 (by kernel_rfl)
theorem zl2407:zr2399.length=51:=by kernel_rfl
theorem zp2408:E g2 10000 51 zc2023 zr2399 zm3=some (outOf 1,⟨zr2404,zm2405⟩):=z7 (Nat.le_of_ble_eq_true rfl) zl2407 zk2406
theorem zf2410:C g2 10001 z6 [(G zw1679)] Mem.zero=some (zv2409,zm2155):=z5 (fn:=zb) (n:=10000) 1 (Nat.le_of_ble_eq_true rfl) (by kernel_rfl) (by kernel_rfl) (by kernel_rfl) (by kernel_rfl) (by kernel_rfl) zp2408 (by kernel_rfl)
theorem zl2422:zr2414.length=51:=by kernel_rfl
theorem zp2423:E g2 10000 51 zc2023 zr2414 zm3=some (outOf 1,⟨zr2419,zm2420⟩):=z7 (Nat.le_of_ble_eq_true rfl) zl2422 zk2421
theorem zf2425:C g2 10001 z6 [(G zw1691)] Mem.zero=some (zv2424,zm2155):=z5 (fn:=zb) (n:=10000) 1 (Nat.le_of_ble_eq_true rfl) (by kernel_rfl) (by kernel_rfl) (by kernel_rfl) (by kernel_rfl) (by kernel_rfl) zp2423 (by kernel_rfl)
theorem zl2437:zr2429.length=51:=by kernel_rfl
theorem zp2438:E g2 10000 51 zc2023 zr2429 zm3=some (outOf 1,⟨zr2434,zm2435⟩):=z7 (Nat.le_of_ble_eq_true rfl) zl2437 zk2436
theorem zf2440:C g2 10001 z6 [(G zw1704)] Mem.zero=some ((.tup zw2439),zm2216):=z5 (fn:=zb) (n:=10000) 1 (Nat.le_of_ble_eq_true rfl) (by kernel_rfl) (by kernel_rfl) (by kernel_rfl) (by kernel_rfl) (by kernel_rfl) zp2438 (by kernel_rfl)
theorem zl2452:zr2444.length=51:=by kernel_rfl
theorem zp2453:E g2 10000 51 zc2023 zr2444 zm3=some (outOf 1,⟨zr2449,zm2450⟩):=z7 (Nat.le_of_ble_eq_true rfl) zl2452 zk2451
theorem zf2455:C g2 10001 z6 [(G zw1717)] Mem.zero=some ((.tup zw2454),zm2216):=z5 (fn:=zb) (n:=10000) 1 (Nat.le_of_ble_eq_true rfl) (by kernel_rfl) (by kernel_rfl) (by kernel_rfl) (by kernel_rfl) (by kernel_rfl) zp2453 (by kernel_rfl)
theorem zl2467:zr2459.length=51:=by kernel_rfl
theorem zp2468:E g2 10000 51 zc2023 zr2459 zm3=some (outOf 1,⟨zr2464,zm2465⟩):=z7 (Nat.le_of_ble_eq_true rfl) zl2467 zk2466
theorem zf2470:C g2 10001 z6 [(G zw1729)] Mem.zero=some ((.tup zw2469),zm2216):=z5 (fn:=zb) (n:=10000) 1 (Nat.le_of_ble_eq_true rfl) (by kernel_rfl) (by kernel_rfl) (by kernel_rfl) (by kernel_rfl) (by kernel_rfl) zp2468 (by kernel_rfl)
theorem zl2482:zr2474.length=51:=by kernel_rfl
theorem zp2483:E g2 10000 51 zc2023 zr2474 zm3=some (outOf 1,⟨zr2479,zm2480⟩):=z7 (Nat.le_of_ble_eq_true rfl) zl2482 zk2481
theorem zf2485:C g2 10001 z6 [(G zw1741)] Mem.zero=some (zv2484,zm2155):=z5 (fn:=zb) (n:=10000) 1 (Nat.le_of_ble_eq_true rfl) (by kernel_rfl) (by kernel_rfl) (by kernel_rfl) (by kernel_rfl) (by kernel_rfl) zp2483 (by kernel_rfl)
theorem zl2497:zr2489.length=51:=by kernel_rfl
theorem zp2498:E g2 10000 51 zc2023 zr2489 zm3=some (outOf 1,⟨zr2494,zm2495⟩):=z7 (Nat.le_of_ble_eq_true rfl) zl2497 zk2496
theorem zf2500:C g2 10001 z6 [(G zw1753)] Mem.zero=some (zv2499,zm2155):=z5 (fn:=zb) (n:=10000) 1 (Nat.le_of_ble_eq_true rfl) (by kernel_rfl) (by kernel_rfl) (by kernel_rfl) (by kernel_rfl) (by kernel_rfl) zp2498 (by kernel_rfl)
theorem zl2512:zr2504.length=51:=by kernel_rfl
theorem zp2513:E g2 10000 51 zc2023 zr2504 zm3=some (outOf 1,⟨zr2509,zm2510⟩):=z7 (Nat.le_of_ble_eq_true rfl) zl2512 zk2511
theorem zf2515:C g2 10001 z6 [(G zw1766)] Mem.zero=some ((.tup zw2514),zm2155):=z5 (fn:=zb) (n:=10000) 1 (Nat.le_of_ble_eq_true rfl) (by kernel_rfl) (by kernel_rfl) (by kernel_rfl) (by kernel_rfl) (by kernel_rfl) zp2513 (by kernel_rfl)
theorem zl2528:zr2519.length=51:=by kernel_rfl
theorem zp2529:E g2 10000 51 zc2023 zr2519 zm3=some (outOf 1,⟨zr2525,zm2526⟩):=z7 (Nat.le_of_ble_eq_true rfl) zl2528 zk2527
theorem zf2531:C g2 10001 z6 [(G zw1779)] Mem.zero=some (zv2530,zm2155):=z5 (fn:=zb) (n:=10000) 1 (Nat.le_of_ble_eq_true rfl) (by kernel_rfl) (by kernel_rfl) (by kernel_rfl) (by kernel_rfl) (by kernel_rfl) zp2529 (by kernel_rfl)
theorem zl2541:zr2534.length=51:=by kernel_rfl
theorem zp2542:E g2 10000 51 zc2023 zr2534 zm3=some (outOf 1,⟨zr2538,zm2539⟩):=z7 (Nat.le_of_ble_eq_true rfl) zl2541 zk2540
theorem zf2544:C g2 10001 z6 [(G zw1791)] Mem.zero=some (zv2543,zm2033):=z5 (fn:=zb) (n:=10000) 1 (Nat.le_of_ble_eq_true rfl) (by kernel_rfl) (by kernel_rfl) (by kernel_rfl) (by kernel_rfl) (by kernel_rfl) zp2542 (by kernel_rfl)
theorem zl2554:zr2547.length=51:=by kernel_rfl
theorem zp2555:E g2 10000 51 zc2023 zr2547 zm3=some (outOf 1,⟨zr2551,zm2552⟩):=z7 (Nat.le_of_ble_eq_true rfl) zl2554 zk2553
theorem zf2557:C g2 10001 z6 [(G zw1803)] Mem.zero=some (zv2556,zm2033):=z5 (fn:=zb) (n:=10000) 1 (Nat.le_of_ble_eq_true rfl) (by kernel_rfl) (by kernel_rfl) (by kernel_rfl) (by kernel_rfl) (by kernel_rfl) zp2555 (by kernel_rfl)
theorem zl2567:zr2560.length=51:=by kernel_rfl
theorem zp2568:E g2 10000 51 zc2023 zr2560 zm3=some (outOf 1,⟨zr2564,zm2565⟩):=z7 (Nat.le_of_ble_eq_true rfl) zl2567 zk2566
theorem zf2570:C g2 10001 z6 [(G zw1815)] Mem.zero=some (zv2569,zm2033):=z5 (fn:=zb) (n:=10000) 1 (Nat.le_of_ble_eq_true rfl) (by kernel_rfl) (by kernel_rfl) (by kernel_rfl) (by kernel_rfl) (by kernel_rfl) zp2568 (by kernel_rfl)
theorem zl2582:zr2574.length=51:=by kernel_rfl
theorem zp2583:E g2 10000 51 zc2023 zr2574 zm3=some (outOf 1,⟨zr2579,zm2580⟩):=z7 (Nat.le_of_ble_eq_true rfl) zl2582 zk2581
theorem zf2585:C g2 10001 z6 [(G zw1827)] Mem.zero=some (zv2584,zm2155):=z5 (fn:=zb) (n:=10000) 1 (Nat.le_of_ble_eq_true rfl) (by kernel_rfl) (by kernel_rfl) (by kernel_rfl) (by kernel_rfl) (by kernel_rfl) zp2583 (by kernel_rfl)
theorem zl2595:zr2588.length=51:=by kernel_rfl
theorem zp2596:E g2 10000 51 zc2023 zr2588 zm3=some (outOf 1,⟨zr2592,zm2593⟩):=z7 (Nat.le_of_ble_eq_true rfl) zl2595 zk2594
theorem zf2598:C g2 10001 z6 [(G zw1839)] Mem.zero=some (zv2597,zm2033):=z5 (fn:=zb) (n:=10000) 1 (Nat.le_of_ble_eq_true rfl) (by kernel_rfl) (by kernel_rfl) (by kernel_rfl) (by kernel_rfl) (by kernel_rfl) zp2596 (by kernel_rfl)
theorem zl2610:zr2602.length=51:=by kernel_rfl
theorem zp2611:E g2 10000 51 zc2023 zr2602 zm3=some (outOf 1,⟨zr2607,zm2608⟩):=z7 (Nat.le_of_ble_eq_true rfl) zl2610 zk2609
theorem zf2613:C g2 10001 z6 [(G zw1851)] Mem.zero=some (zv2612,zm2155):=z5 (fn:=zb) (n:=10000) 1 (Nat.le_of_ble_eq_true rfl) (by kernel_rfl) (by kernel_rfl) (by kernel_rfl) (by kernel_rfl) (by kernel_rfl) zp2611 (by kernel_rfl)
theorem zl2624:zr2616.length=51:=by kernel_rfl
theorem zp2625:E g2 10000 51 zc2023 zr2616 zm3=some (outOf 1,⟨zr2621,zm2622⟩):=z7 (Nat.le_of_ble_eq_true rfl) zl2624 zk2623
theorem zf2627:C g2 10001 z6 [(G zw1863)] Mem.zero=some (zv2626,zm2033):=z5 (fn:=zb) (n:=10000) 1 (Nat.le_of_ble_eq_true rfl) (by kernel_rfl) (by kernel_rfl) (by kernel_rfl) (by kernel_rfl) (by kernel_rfl) zp2625 (by kernel_rfl)
theorem zl2637:zr2630.length=51:=by kernel_rfl
theorem zp2638:E g2 10000 51 zc2023 zr2630 zm3=some (outOf 1,⟨zr2634,zm2635⟩):=z7 (Nat.le_of_ble_eq_true rfl) zl2637 zk2636
theorem zf2640:C g2 10001 z6 [(G zw1875)] Mem.zero=some (zv2639,zm2033):=z5 (fn:=zb) (n:=10000) 1 (Nat.le_of_ble_eq_true rfl) (by kernel_rfl) (by kernel_rfl) (by kernel_rfl) (by kernel_rfl) (by kernel_rfl) zp2638 (by kernel_rfl)
theorem zl2653:zr2644.length=51:=by kernel_rfl
theorem zp2654:E g2 10000 51 zc2023 zr2644 zm3=some (outOf 1,⟨zr2650,zm2651⟩):=z7 (Nat.le_of_ble_eq_true rfl) zl2653 zk2652
theorem zf2656:C g2 10001 z6 [(G zw1926)] Mem.zero=some (zv2655,zm2155):=z5 (fn:=zb) (n:=10000) 1 (Nat.le_of_ble_eq_true rfl) (by kernel_rfl) (by kernel_rfl) (by kernel_rfl) (by kernel_rfl) (by kernel_rfl) zp2654 (by kernel_rfl)
theorem zl2666:zr2659.length=51:=by kernel_rfl
theorem zp2667:E g2 10000 51 zc2023 zr2659 zm3=some (outOf 1,⟨zr2663,zm2664⟩):=z7 (Nat.le_of_ble_eq_true rfl) zl2666 zk2665
theorem zf2669:C g2 10001 z6 [(G zw1938)] Mem.zero=some (zv2668,zm2033):=z5 (fn:=zb) (n:=10000) 1 (Nat.le_of_ble_eq_true rfl) (by kernel_rfl) (by kernel_rfl) (by kernel_rfl) (by kernel_rfl) (by kernel_rfl) zp2667 (by kernel_rfl)
theorem zl2682:zr2673.length=51:=by kernel_rfl
theorem zp2683:E g2 10000 51 zc2023 zr2673 zm3=some (outOf 1,⟨zr2679,zm2680⟩):=z7 (Nat.le_of_ble_eq_true rfl) zl2682 zk2681
theorem zf2685:C g2 10001 z6 [(G zw1950)] Mem.zero=some (zv2684,zm2155):=z5 (fn:=zb) (n:=10000) 1 (Nat.le_of_ble_eq_true rfl) (by kernel_rfl) (by kernel_rfl) (by kernel_rfl) (by kernel_rfl) (by kernel_rfl) zp2683 (by kernel_rfl)
theorem zl2698:zr2688.length=27:=by kernel_rfl
theorem zp2699:E g2 10000 27 zc2689 zr2688 zm3=some (outOf 1,⟨zr2693,zm2696⟩):=z7 (Nat.le_of_ble_eq_true rfl) zl2698 zk2697
theorem zf2701:C g2 10001 zg [(N 4 zw176),(i 0)] Mem.zero=some (zv2687,zm2700):=z5 (fn:=zy) (n:=10000) 1 (Nat.le_of_ble_eq_true rfl) (by kernel_rfl) (by kernel_rfl) (by kernel_rfl) (by kernel_rfl) (by kernel_rfl) zp2699 (by kernel_rfl)
theorem zl2709:zr2704.length=27:=by kernel_rfl
theorem zp2710:E g2 10000 27 zc2689 zr2704 zm3=some (outOf 1,⟨zr2707,zm2696⟩):=z7 (Nat.le_of_ble_eq_true rfl) zl2709 zk2708
theorem zf2711:C g2 10001 zg [(N 4 zw176),(i 1)] Mem.zero=some (zv2703,zm2700):=z5 (fn:=zy) (n:=10000) 1 (Nat.le_of_ble_eq_true rfl) (by kernel_rfl) (by kernel_rfl) (by kernel_rfl) (by kernel_rfl) (by kernel_rfl) zp2710 (by kernel_rfl)
theorem zl2719:zr2714.length=27:=by kernel_rfl
theorem zp2720:E g2 10000 27 zc2689 zr2714 zm3=some (outOf 1,⟨zr2717,zm2696⟩):=z7 (Nat.le_of_ble_eq_true rfl) zl2719 zk2718
theorem zf2721:C g2 10001 zg [(N 4 zw176),(i 2)] Mem.zero=some (zv2713,zm2700):=z5 (fn:=zy) (n:=10000) 1 (Nat.le_of_ble_eq_true rfl) (by kernel_rfl) (by kernel_rfl) (by kernel_rfl) (by kernel_rfl) (by kernel_rfl) zp2720 (by kernel_rfl)
theorem zl2728:zr2723.length=27:=by kernel_rfl
theorem zp2729:E g2 10000 27 zc2689 zr2723 zm3=some (outOf 1,⟨zr2726,zm2696⟩):=z7 (Nat.le_of_ble_eq_true rfl) zl2728 zk2727
theorem zf2730:C g2 10001 zg [(N 4 zw176),(i 3)] Mem.zero=some (zv2687,zm2700):=z5 (fn:=zy) (n:=10000) 1 (Nat.le_of_ble_eq_true rfl) (by kernel_rfl) (by kernel_rfl) (by kernel_rfl) (by kernel_rfl) (by kernel_rfl) zp2729 (by kernel_rfl)
theorem zl2737:zr2732.length=27:=by kernel_rfl
theorem zp2738:E g2 10000 27 zc2689 zr2732 zm3=some (outOf 1,⟨zr2735,zm2696⟩):=z7 (Nat.le_of_ble_eq_true rfl) zl2737 zk2736
theorem zf2739:C g2 10001 zg [(N 4 zw176),(i 4)] Mem.zero=some (zv2713,zm2700):=z5 (fn:=zy) (n:=10000) 1 (Nat.le_of_ble_eq_true rfl) (by kernel_rfl) (by kernel_rfl) (by kernel_rfl) (by kernel_rfl) (by kernel_rfl) zp2738 (by kernel_rfl)
theorem zl2747:zr2742.length=27:=by kernel_rfl
theorem zp2748:E g2 10000 27 zc2689 zr2742 zm3=some (outOf 1,⟨zr2745,zm2696⟩):=z7 (Nat.le_of_ble_eq_true rfl) zl2747 zk2746
theorem zf2749:C g2 10001 zg [(N 4 zw176),(i 5)] Mem.zero=some (zv2741,zm2700):=z5 (fn:=zy) (n:=10000) 1 (Nat.le_of_ble_eq_true rfl) (by kernel_rfl) (by kernel_rfl) (by kernel_rfl) (by kernel_rfl) (by kernel_rfl) zp2748 (by kernel_rfl)
theorem zl2756:zr2751.length=27:=by kernel_rfl
theorem zp2757:E g2 10000 27 zc2689 zr2751 zm3=some (outOf 1,⟨zr2754,zm2696⟩):=z7 (Nat.le_of_ble_eq_true rfl) zl2756 zk2755
theorem zf2758:C g2 10001 zg [(N 4 zw176),(i 6)] Mem.zero=some (zv2741,zm2700):=z5 (fn:=zy) (n:=10000) 1 (Nat.le_of_ble_eq_true rfl) (by kernel_rfl) (by kernel_rfl) (by kernel_rfl) (by kernel_rfl) (by kernel_rfl) zp2757 (by kernel_rfl)
theorem zl2765:zr2760.length=27:=by kernel_rfl
theorem zp2766:E g2 10000 27 zc2689 zr2760 zm3=some (outOf 1,⟨zr2763,zm2696⟩):=z7 (Nat.le_of_ble_eq_true rfl) zl2765 zk2764
theorem zf2767:C g2 10001 zg [(N 4 zw176),(i 7)] Mem.zero=some (zv2687,zm2700):=z5 (fn:=zy) (n:=10000) 1 (Nat.le_of_ble_eq_true rfl) (by kernel_rfl) (by kernel_rfl) (by kernel_rfl) (by kernel_rfl) (by kernel_rfl) zp2766 (by kernel_rfl)
theorem zl2776:zr2769.length=27:=by kernel_rfl
theorem zp2777:E g2 10000 27 zc2689 zr2769 zm3=some (outOf 1,⟨zr2772,zm2774⟩):=z7 (Nat.le_of_ble_eq_true rfl) zl2776 zk2775
theorem zf2778:C g2 10001 zg zw282 Mem.zero=some (zv2687,zm702):=z5 (fn:=zy) (n:=10000) 1 (Nat.le_of_ble_eq_true rfl) (by kernel_rfl) (by kernel_rfl) (by kernel_rfl) (by kernel_rfl) (by kernel_rfl) zp2777 (by kernel_rfl)
theorem zl2784:zr2780.length=27:=by kernel_rfl
theorem zp2785:E g2 10000 27 zc2689 zr2780 zm3=some (outOf 1,⟨zr2782,zm2774⟩):=z7 (Nat.le_of_ble_eq_true rfl) zl2784 zk2783
theorem zf2786:C g2 10001 zg zw295 Mem.zero=some (zv2687,zm702):=z5 (fn:=zy) (n:=10000) 1 (Nat.le_of_ble_eq_true rfl) (by kernel_rfl) (by kernel_rfl) (by kernel_rfl) (by kernel_rfl) (by kernel_rfl) zp2785 (by kernel_rfl)
theorem zl2801:zr2791.length=95:=by kernel_rfl
theorem zp2802:E g3 10000 95 zc2792 zr2791 zm3=some (outOf 1,⟨zr2797,zm2799⟩):=z7 (Nat.le_of_ble_eq_true rfl) zl2801 zk2800
theorem zf2803:C g3 10001 zQ zw2789 Mem.zero=some (T,zm321):=z5 (fn:=yK) (n:=10000) 1 (Nat.le_of_ble_eq_true rfl) (by kernel_rfl) (by kernel_rfl) (by kernel_rfl) (by kernel_rfl) (by kernel_rfl) zp2802 (by kernel_rfl)
theorem zl2816:zr2808.length=95:=by kernel_rfl
theorem zp2817:E g3 10000 95 zc2792 zr2808 zm3=some (outOf 1,⟨zr2812,zm2814⟩):=z7 (Nat.le_of_ble_eq_true rfl) zl2816 zk2815
theorem zf2818:C g3 10001 zQ zw2806 Mem.zero=some (T,zm702):=z5 (fn:=yK) (n:=10000) 1 (Nat.le_of_ble_eq_true rfl) (by kernel_rfl) (by kernel_rfl) (by kernel_rfl) (by kernel_rfl) (by kernel_rfl) zp2817 (by kernel_rfl)
theorem zl2831:zr2821.length=328:=by kernel_rfl
theorem zp2832:E g4 10000 328 (spT 2 zc2822) zr2821 zm3=some (outOf 0,⟨zr2829,zm3⟩):=z7 (Nat.le_of_ble_eq_true rfl) zl2831 zk2830
theorem zl2838:zr2829.length=328:=by kernel_rfl
theorem zp2839:E g4 10000 328 (spT 1 zc2834) zr2829 zm3=some (outOf 0,⟨zr2836,zm3⟩):=z7 (Nat.le_of_ble_eq_true rfl) zl2838 zk2837
theorem zl2847:zr2836.length=328:=by kernel_rfl
theorem zl2854:zr2844.length=328:=by kernel_rfl
theorem zl2861:zr2851.length=328:=by kernel_rfl
theorem zl2868:zr2858.length=328:=by kernel_rfl
theorem zl2875:zr2865.length=328:=by kernel_rfl
theorem zl2882:zr2872.length=328:=by kernel_rfl
theorem zl2889:zr2879.length=328:=by kernel_rfl
theorem zl2894:zr2886.length=328:=by kernel_rfl
theorem zp2895:E g4 10000 328 (sL (sL zc2840)) zr2886 zm2887=some (outOf 2,⟨zr2892,zm2887⟩):=z7 (Nat.le_of_ble_eq_true rfl) zl2894 zk2893
theorem zp2896:LI g4 10000 328 0 (sL zc2840) [1,2] 9965 zr2886 zm2887=some (outOf 2,⟨zr2892,zm2887⟩):=Um (k:=9964) (outOf 2) rfl rfl (Nat.le_of_ble_eq_true rfl) zl2894 (by kernel_rfl) zp2895
theorem zp2897:LI g4 10000 328 0 (sL zc2840) [1,2] 9970 zr2879 zm2880=some (outOf 2,⟨zr2892,zm2887⟩):=zk (k:=9965) 5 false (Nat.le_of_ble_eq_true rfl) zl2889 rfl rfl zk2888 zp2896
theorem zp2898:LI g4 10000 328 0 (sL zc2840) [1,2] 9975 zr2872 zm2873=some (outOf 2,⟨zr2892,zm2887⟩):=zk (k:=9970) 5 false (Nat.le_of_ble_eq_true rfl) zl2882 rfl rfl zk2881 zp2897
theorem zp2899:LI g4 10000 328 0 (sL zc2840) [1,2] 9980 zr2865 zm2866=some (outOf 2,⟨zr2892,zm2887⟩):=zk (k:=9975) 5 false (Nat.le_of_ble_eq_true rfl) zl2875 rfl rfl zk2874 zp2898
theorem zp2900:LI g4 10000 328 0 (sL zc2840) [1,2] 9985 zr2858 zm2859=some (outOf 2,⟨zr2892,zm2887⟩):=zk (k:=9980) 5 false (Nat.le_of_ble_eq_true rfl) zl2868 rfl rfl zk2867 zp2899
theorem zp2901:LI g4 10000 328 0 (sL zc2840) [1,2] 9990 zr2851 zm2852=some (outOf 2,⟨zr2892,zm2887⟩):=zk (k:=9985) 5 false (Nat.le_of_ble_eq_true rfl) zl2861 rfl rfl zk2860 zp2900
theorem zp2902:LI g4 10000 328 0 (sL zc2840) [1,2] 9995 zr2844 zm2845=some (outOf 2,⟨zr2892,zm2887⟩):=zk (k:=9990) 5 false (Nat.le_of_ble_eq_true rfl) zl2854 rfl rfl zk2853 zp2901
theorem zp2903:LI g4 10000 328 0 (sL zc2840) [1,2] 10000 zr2836 zm3=some (outOf 2,⟨zr2892,zm2887⟩):=zk (k:=9995) 5 false (Nat.le_of_ble_eq_true rfl) zl2847 rfl rfl zk2846 zp2902
theorem zp2904:E g4 10000 328 (sL zc2840) zr2836 zm3=some (outOf 2,⟨zr2892,zm2887⟩):=Uq (nb:=0) (live:=[1,2]) (by kernel_rfl) (by kernel_rfl) zp2903
theorem zp2905:E g4 10000 328 zc2840 zr2836 zm3=some (outOf 0,⟨zr2892,zm2887⟩):=Va (i:=0) (by kernel_rfl) zp2904
theorem zp2906:E g4 10000 328 zc2834 zr2829 zm3=some (outOf 0,⟨zr2892,zm2887⟩):=kJ 1 _ zp2839 zp2905
theorem zl2916:zr2892.length=328:=by kernel_rfl
theorem zp2917:E g4 10000 328 (spT 1 zc2907) zr2892 zm2887=some (outOf 0,⟨zr2914,zm2887⟩):=z7 (Nat.le_of_ble_eq_true rfl) zl2916 zk2915
theorem zl2923:zr2914.length=328:=by kernel_rfl
theorem zp2924:E g4 10000 328 (spT 1 zc2919) zr2914 zm2887=some (outOf 0,⟨zr2921,zm2887⟩):=z7 (Nat.le_of_ble_eq_true rfl) zl2923 zk2922
theorem zl2943:zr2921.length=328:=by kernel_rfl
theorem zl2954:zr2940.length=328:=by kernel_rfl
theorem zl2965:zr2951.length=328:=by kernel_rfl
theorem zl2976:zr2962.length=328:=by kernel_rfl
theorem zl2987:zr2973.length=328:=by kernel_rfl
theorem zl2998:zr2984.length=328:=by kernel_rfl
theorem zl3009:zr2995.length=328:=by kernel_rfl
theorem zl3020:zr3006.length=328:=by kernel_rfl
theorem zl3031:zr3017.length=328:=by kernel_rfl
theorem zl3042:zr3028.length=328:=by kernel_rfl
theorem zl3053:zr3039.length=328:=by kernel_rfl
theorem zl3064:zr3050.length=328:=by kernel_rfl
theorem zl3075:zr3061.length=328:=by kernel_rfl
theorem zl3086:zr3072.length=328:=by kernel_rfl
theorem zl3097:zr3083.length=328:=by kernel_rfl
theorem zl3108:zr3094.length=328:=by kernel_rfl
theorem zl3119:zr3105.length=328:=by kernel_rfl
theorem zl3130:zr3116.length=328:=by kernel_rfl
theorem zl3141:zr3127.length=328:=by kernel_rfl
theorem zl3152:zr3138.length=328:=by kernel_rfl
theorem zl3163:zr3149.length=328:=by kernel_rfl
theorem zl3174:zr3160.length=328:=by kernel_rfl
theorem zl3185:zr3171.length=328:=by kernel_rfl
theorem zl3196:zr3182.length=328:=by kernel_rfl
theorem zl3207:zr3193.length=328:=by kernel_rfl
theorem zl3218:zr3204.length=328:=by kernel_rfl
theorem zl3229:zr3215.length=328:=by kernel_rfl
theorem zl3240:zr3226.length=328:=by kernel_rfl
theorem zl3251:zr3237.length=328:=by kernel_rfl
theorem zl3262:zr3248.length=328:=by kernel_rfl
theorem zl3273:zr3259.length=328:=by kernel_rfl
theorem zl3284:zr3270.length=328:=by kernel_rfl
theorem zl3295:zr3281.length=328:=by kernel_rfl
theorem zl3300:zr3292.length=328:=by kernel_rfl
theorem zp3301:E g4 10000 328 (sL (sL zc2925)) zr3292 zm3293=some (outOf 4,⟨zr3298,zm3293⟩):=z7 (Nat.le_of_ble_eq_true rfl) zl3300 zk3299
theorem zp3302:LI g4 10000 328 0 (sL zc2925) [3,4] 9967 zr3292 zm3293=some (outOf 4,⟨zr3298,zm3293⟩):=Um (k:=9966) (outOf 4) rfl rfl (Nat.le_of_ble_eq_true rfl) zl3300 (by kernel_rfl) zp3301
theorem zp3303:LI g4 10000 328 0 (sL zc2925) [3,4] 9968 zr3281 zm3282=some (outOf 4,⟨zr3298,zm3293⟩):=zk (k:=9967) 1 false (Nat.le_of_ble_eq_true rfl) zl3295 rfl rfl zk3294 zp3302
theorem zp3304:LI g4 10000 328 0 (sL zc2925) [3,4] 9969 zr3270 zm3271=some (outOf 4,⟨zr3298,zm3293⟩):=zk (k:=9968) 1 false (Nat.le_of_ble_eq_true rfl) zl3284 rfl rfl zk3283 zp3303
theorem zp3305:LI g4 10000 328 0 (sL zc2925) [3,4] 9970 zr3259 zm3260=some (outOf 4,⟨zr3298,zm3293⟩):=zk (k:=9969) 1 false (Nat.le_of_ble_eq_true rfl) zl3273 rfl rfl zk3272 zp3304
theorem zp3306:LI g4 10000 328 0 (sL zc2925) [3,4] 9971 zr3248 zm3249=some (outOf 4,⟨zr3298,zm3293⟩):=zk (k:=9970) 1 false (Nat.le_of_ble_eq_true rfl) zl3262 rfl rfl zk3261 zp3305
theorem zp3307:LI g4 10000 328 0 (sL zc2925) [3,4] 9972 zr3237 zm3238=some (outOf 4,⟨zr3298,zm3293⟩):=zk (k:=9971) 1 false (Nat.le_of_ble_eq_true rfl) zl3251 rfl rfl zk3250 zp3306
theorem zp3308:LI g4 10000 328 0 (sL zc2925) [3,4] 9973 zr3226 zm3227=some (outOf 4,⟨zr3298,zm3293⟩):=zk (k:=9972) 1 false (Nat.le_of_ble_eq_true rfl) zl3240 rfl rfl zk3239 zp3307
theorem zp3309:LI g4 10000 328 0 (sL zc2925) [3,4] 9974 zr3215 zm3216=some (outOf 4,⟨zr3298,zm3293⟩):=zk (k:=9973) 1 false (Nat.le_of_ble_eq_true rfl) zl3229 rfl rfl zk3228 zp3308
theorem zp3310:LI g4 10000 328 0 (sL zc2925) [3,4] 9975 zr3204 zm3205=some (outOf 4,⟨zr3298,zm3293⟩):=zk (k:=9974) 1 false (Nat.le_of_ble_eq_true rfl) zl3218 rfl rfl zk3217 zp3309
theorem zp3311:LI g4 10000 328 0 (sL zc2925) [3,4] 9976 zr3193 zm3194=some (outOf 4,⟨zr3298,zm3293⟩):=zk (k:=9975) 1 false (Nat.le_of_ble_eq_true rfl) zl3207 rfl rfl zk3206 zp3310
theorem zp3312:LI g4 10000 328 0 (sL zc2925) [3,4] 9977 zr3182 zm3183=some (outOf 4,⟨zr3298,zm3293⟩):=zk (k:=9976) 1 false (Nat.le_of_ble_eq_true rfl) zl3196 rfl rfl zk3195 zp3311
theorem zp3313:LI g4 10000 328 0 (sL zc2925) [3,4] 9978 zr3171 zm3172=some (outOf 4,⟨zr3298,zm3293⟩):=zk (k:=9977) 1 false (Nat.le_of_ble_eq_true rfl) zl3185 rfl rfl zk3184 zp3312
theorem zp3314:LI g4 10000 328 0 (sL zc2925) [3,4] 9979 zr3160 zm3161=some (outOf 4,⟨zr3298,zm3293⟩):=zk (k:=9978) 1 false (Nat.le_of_ble_eq_true rfl) zl3174 rfl rfl zk3173 zp3313
theorem zp3315:LI g4 10000 328 0 (sL zc2925) [3,4] 9980 zr3149 zm3150=some (outOf 4,⟨zr3298,zm3293⟩):=zk (k:=9979) 1 false (Nat.le_of_ble_eq_true rfl) zl3163 rfl rfl zk3162 zp3314
theorem zp3316:LI g4 10000 328 0 (sL zc2925) [3,4] 9981 zr3138 zm3139=some (outOf 4,⟨zr3298,zm3293⟩):=zk (k:=9980) 1 false (Nat.le_of_ble_eq_true rfl) zl3152 rfl rfl zk3151 zp3315
theorem zp3317:LI g4 10000 328 0 (sL zc2925) [3,4] 9982 zr3127 zm3128=some (outOf 4,⟨zr3298,zm3293⟩):=zk (k:=9981) 1 false (Nat.le_of_ble_eq_true rfl) zl3141 rfl rfl zk3140 zp3316
theorem zp3318:LI g4 10000 328 0 (sL zc2925) [3,4] 9983 zr3116 zm3117=some (outOf 4,⟨zr3298,zm3293⟩):=zk (k:=9982) 1 false (Nat.le_of_ble_eq_true rfl) zl3130 rfl rfl zk3129 zp3317
theorem zp3319:LI g4 10000 328 0 (sL zc2925) [3,4] 9984 zr3105 zm3106=some (outOf 4,⟨zr3298,zm3293⟩):=zk (k:=9983) 1 false (Nat.le_of_ble_eq_true rfl) zl3119 rfl rfl zk3118 zp3318
theorem zp3320:LI g4 10000 328 0 (sL zc2925) [3,4] 9985 zr3094 zm3095=some (outOf 4,⟨zr3298,zm3293⟩):=zk (k:=9984) 1 false (Nat.le_of_ble_eq_true rfl) zl3108 rfl rfl zk3107 zp3319
theorem zp3321:LI g4 10000 328 0 (sL zc2925) [3,4] 9986 zr3083 zm3084=some (outOf 4,⟨zr3298,zm3293⟩):=zk (k:=9985) 1 false (Nat.le_of_ble_eq_true rfl) zl3097 rfl rfl zk3096 zp3320
theorem zp3322:LI g4 10000 328 0 (sL zc2925) [3,4] 9987 zr3072 zm3073=some (outOf 4,⟨zr3298,zm3293⟩):=zk (k:=9986) 1 false (Nat.le_of_ble_eq_true rfl) zl3086 rfl rfl zk3085 zp3321
theorem zp3323:LI g4 10000 328 0 (sL zc2925) [3,4] 9988 zr3061 zm3062=some (outOf 4,⟨zr3298,zm3293⟩):=zk (k:=9987) 1 false (Nat.le_of_ble_eq_true rfl) zl3075 rfl rfl zk3074 zp3322
theorem zp3324:LI g4 10000 328 0 (sL zc2925) [3,4] 9989 zr3050 zm3051=some (outOf 4,⟨zr3298,zm3293⟩):=zk (k:=9988) 1 false (Nat.le_of_ble_eq_true rfl) zl3064 rfl rfl zk3063 zp3323
theorem zp3325:LI g4 10000 328 0 (sL zc2925) [3,4] 9990 zr3039 zm3040=some (outOf 4,⟨zr3298,zm3293⟩):=zk (k:=9989) 1 false (Nat.le_of_ble_eq_true rfl) zl3053 rfl rfl zk3052 zp3324
theorem zp3326:LI g4 10000 328 0 (sL zc2925) [3,4] 9991 zr3028 zm3029=some (outOf 4,⟨zr3298,zm3293⟩):=zk (k:=9990) 1 false (Nat.le_of_ble_eq_true rfl) zl3042 rfl rfl zk3041 zp3325
theorem zp3327:LI g4 10000 328 0 (sL zc2925) [3,4] 9992 zr3017 zm3018=some (outOf 4,⟨zr3298,zm3293⟩):=zk (k:=9991) 1 false (Nat.le_of_ble_eq_true rfl) zl3031 rfl rfl zk3030 zp3326
theorem zp3328:LI g4 10000 328 0 (sL zc2925) [3,4] 9993 zr3006 zm3007=some (outOf 4,⟨zr3298,zm3293⟩):=zk (k:=9992) 1 false (Nat.le_of_ble_eq_true rfl) zl3020 rfl rfl zk3019 zp3327
theorem zp3329:LI g4 10000 328 0 (sL zc2925) [3,4] 9994 zr2995 zm2996=some (outOf 4,⟨zr3298,zm3293⟩):=zk (k:=9993) 1 false (Nat.le_of_ble_eq_true rfl) zl3009 rfl rfl zk3008 zp3328
theorem zp3330:LI g4 10000 328 0 (sL zc2925) [3,4] 9995 zr2984 zm2985=some (outOf 4,⟨zr3298,zm3293⟩):=zk (k:=9994) 1 false (Nat.le_of_ble_eq_true rfl) zl2998 rfl rfl zk2997 zp3329
theorem zp3331:LI g4 10000 328 0 (sL zc2925) [3,4] 9996 zr2973 zm2974=some (outOf 4,⟨zr3298,zm3293⟩):=zk (k:=9995) 1 false (Nat.le_of_ble_eq_true rfl) zl2987 rfl rfl zk2986 zp3330
theorem zp3332:LI g4 10000 328 0 (sL zc2925) [3,4] 9997 zr2962 zm2963=some (outOf 4,⟨zr3298,zm3293⟩):=zk (k:=9996) 1 false (Nat.le_of_ble_eq_true rfl) zl2976 rfl rfl zk2975 zp3331
theorem zp3333:LI g4 10000 328 0 (sL zc2925) [3,4] 9998 zr2951 zm2952=some (outOf 4,⟨zr3298,zm3293⟩):=zk (k:=9997) 1 false (Nat.le_of_ble_eq_true rfl) zl2965 rfl rfl zk2964 zp3332
theorem zp3334:LI g4 10000 328 0 (sL zc2925) [3,4] 9999 zr2940 zm2941=some (outOf 4,⟨zr3298,zm3293⟩):=zk (k:=9998) 1 false (Nat.le_of_ble_eq_true rfl) zl2954 rfl rfl zk2953 zp3333
theorem zp3335:LI g4 10000 328 0 (sL zc2925) [3,4] 10000 zr2921 zm2887=some (outOf 4,⟨zr3298,zm3293⟩):=zk (k:=9999) 1 false (Nat.le_of_ble_eq_true rfl) zl2943 rfl rfl zk2942 zp3334
theorem zp3336:E g4 10000 328 (sL zc2925) zr2921 zm2887=some (outOf 4,⟨zr3298,zm3293⟩):=Uq (nb:=0) (live:=[3,4]) (by kernel_rfl) (by kernel_rfl) zp3335
theorem zp3337:E g4 10000 328 zc2925 zr2921 zm2887=some (outOf 0,⟨zr3298,zm3293⟩):=Va (i:=2) (by kernel_rfl) zp3336
theorem zp3338:E g4 10000 328 zc2919 zr2914 zm2887=some (outOf 0,⟨zr3298,zm3293⟩):=kJ 1 _ zp2924 zp3337
theorem zl3353:zr3298.length=328:=by kernel_rfl
theorem zp3354:E g4 10000 328 (sT 6 zc3340) zr3298 zm3293=some (outOf 0,⟨zr3350,zm3351⟩):=z7 (Nat.le_of_ble_eq_true rfl) zl3353 zk3352
theorem zl3364:zr3350.length=328:=by kernel_rfl
theorem zp3365:E g4 10000 328 (sT 5 zc3355) zr3350 zm3351=some (outOf 0,⟨zr3361,zm3362⟩):=z7 (Nat.le_of_ble_eq_true rfl) zl3364 zk3363
theorem zl3375:zr3361.length=328:=by kernel_rfl
theorem zp3376:E g4 10000 328 (sT 5 zc3366) zr3361 zm3362=some (outOf 0,⟨zr3372,zm3373⟩):=z7 (Nat.le_of_ble_eq_true rfl) zl3375 zk3374
theorem zl3383:zr3372.length=328:=by kernel_rfl
theorem zp3384:E g4 10000 328 zc3377 zr3372 zm3373=some (outOf 0,⟨zr3380,zm3381⟩):=z7 (Nat.le_of_ble_eq_true rfl) zl3383 zk3382
theorem zp3385:E g4 10000 328 zc3366 zr3361 zm3362=some (outOf 0,⟨zr3380,zm3381⟩):=u7 5 zp3376 zp3384
theorem zp3386:E g4 10000 328 zc3355 zr3350 zm3351=some (outOf 0,⟨zr3380,zm3381⟩):=u7 5 zp3365 zp3385
theorem zp3387:E g4 10000 328 zc3340 zr3298 zm3293=some (outOf 0,⟨zr3380,zm3381⟩):=u7 6 zp3354 zp3386
theorem zl3491:zr3380.length=328:=by kernel_rfl
theorem zp3492:E g4 10000 328 (spT 8 zc3388) zr3380 zm3381=some (outOf 0,⟨zr3420,zm3489⟩):=z7 (Nat.le_of_ble_eq_true rfl) zl3491 zk3490
theorem zl3499:zr3420.length=328:=by kernel_rfl
theorem zp3500:E g4 10000 328 (sT 8 zc3494) zr3420 zm3489=some (outOf 0,⟨zr3496,zm3497⟩):=z7 (Nat.le_of_ble_eq_true rfl) zl3499 zk3498
theorem zl3507:zr3496.length=328:=by kernel_rfl
theorem zp3508:E g4 10000 328 (sT 8 zc3501) zr3496 zm3497=some (outOf 0,⟨zr3504,zm3505⟩):=z7 (Nat.le_of_ble_eq_true rfl) zl3507 zk3506
theorem zl3515:zr3504.length=328:=by kernel_rfl
theorem zp3516:E g4 10000 328 zc3509 zr3504 zm3505=some (outOf 0,⟨zr3512,zm3513⟩):=z7 (Nat.le_of_ble_eq_true rfl) zl3515 zk3514
theorem zp3517:E g4 10000 328 zc3501 zr3496 zm3497=some (outOf 0,⟨zr3512,zm3513⟩):=u7 8 zp3508 zp3516
theorem zp3518:E g4 10000 328 zc3494 zr3420 zm3489=some (outOf 0,⟨zr3512,zm3513⟩):=u7 8 zp3500 zp3517
theorem zl3545:zr3512.length=328:=by kernel_rfl
theorem zp3546:E g4 10000 328 (spT 9 zc3519) zr3512 zm3513=some (outOf 0,⟨zr3539,zm3543⟩):=z7 (Nat.le_of_ble_eq_true rfl) zl3545 zk3544
theorem zl3554:zr3539.length=328:=by kernel_rfl
theorem zp3555:E g4 10000 328 zc3547 zr3539 zm3543=some (outOf 1,⟨zr3551,zm3552⟩):=z7 (Nat.le_of_ble_eq_true rfl) zl3554 zk3553
theorem zp3556:E g4 10000 328 zc3519 zr3512 zm3513=some (outOf 1,⟨zr3551,zm3552⟩):=kJ 9 _ zp3546 zp3555
theorem zp3557:E g4 10000 328 zc3493 zr3420 zm3489=some (outOf 1,⟨zr3551,zm3552⟩):=ks (by kernel_rfl) zp3518 zp3556
theorem zp3558:E g4 10000 328 zc3388 zr3380 zm3381=some (outOf 1,⟨zr3551,zm3552⟩):=kJ 8 _ zp3492 zp3557
theorem zp3559:E g4 10000 328 zc3339 zr3298 zm3293=some (outOf 1,⟨zr3551,zm3552⟩):=ks (by kernel_rfl) zp3387 zp3558
theorem zp3560:E g4 10000 328 zc2918 zr2914 zm2887=some (outOf 1,⟨zr3551,zm3552⟩):=ks (by kernel_rfl) zp3338 zp3559
theorem zp3561:E g4 10000 328 zc2907 zr2892 zm2887=some (outOf 1,⟨zr3551,zm3552⟩):=kJ 1 _ zp2917 zp3560
theorem zp3562:E g4 10000 328 zc2833 zr2829 zm3=some (outOf 1,⟨zr3551,zm3552⟩):=ks (by kernel_rfl) zp2906 zp3561
theorem zp3563:E g4 10000 328 zc2822 zr2821 zm3=some (outOf 1,⟨zr3551,zm3552⟩):=kJ 2 _ zp2832 zp3562
theorem zf3565:C g4 10001 zV [] Mem.zero=some (T,zm3564):=z5 (fn:=zT) (n:=10000) 1 (Nat.le_of_ble_eq_true rfl) (by kernel_rfl) (by kernel_rfl) (by kernel_rfl) (by kernel_rfl) (by kernel_rfl) zp3563 (by kernel_rfl)
theorem top:C g4 10001 zV [] Mem.zero=some (.bool true,zm3564):=zf3565
end Go.Proofs.W
end
section
namespace Go.Proofs.W
open Go.Vs Go.Vs.U
set_option maxRecDepth 100000
theorem tabOk:TabOk Tryz.prog tab:=by
 intro f afn h
 unfold tab at h
 split at h
 ·exact tab1 (n:=vb) Tryz.func3 (by kernel_rfl) h
 ·exact tab1 (n:=uT) Tryz.func5 (by kernel_rfl) h
 ·exact tab1 (n:=uW) Tryz.func6 (by kernel_rfl) h
 ·exact tab1 (n:=uU) Tryz.func7 (by kernel_rfl) h
 ·exact tab1 (n:=uV) Tryz.func8 (by kernel_rfl) h
 ·exact tab1 (n:=tA) Tryz.func9 (by kernel_rfl) h
 ·exact tab1 (n:=Z4) Tryz.func10 (by kernel_rfl) h
 ·exact tab1 (n:=Yn) Tryz.func11 (by kernel_rfl) h
 ·exact tab1 (n:=vG) Tryz.func12 (by kernel_rfl) h
 ·exact tab1 (n:=uX) Tryz.func13 (by kernel_rfl) h
 ·exact tab1 (n:=Yo) Tryz.func25 (by kernel_rfl) h
 ·exact tab1 (n:=Yp) Tryz.func26 (by kernel_rfl) h
 ·exact tab1 (n:=qj) Tryz.func27 (by kernel_rfl) h
 ·exact tab1 (n:=tD) Tryz.func28 (by kernel_rfl) h
 ·exact tab1 (n:=Yk) Tryz.func29 (by kernel_rfl) h
 ·exact tab1 (n:=ub) Tryz.func30 (by kernel_rfl) h
 ·exact tab1 (n:=XN) Tryz.func31 (by kernel_rfl) h
 ·exact tab1 (n:=yV) Tryz.func32 (by kernel_rfl) h
 ·exact tab1 (n:=yU) Tryz.func33 (by kernel_rfl) h
 ·exact tab1 (n:=vI) Tryz.func34 (by kernel_rfl) h
 ·exact tab1 (n:=t5) Tryz.func35 (by kernel_rfl) h
 ·exact tab1 (n:=uv) Tryz.func36 (by kernel_rfl) h
 ·exact tab1 (n:=Ww) Tryz.func37 (by kernel_rfl) h
 ·exact tab1 (n:=t4) Tryz.func38 (by kernel_rfl) h
 ·exact tab1 (n:=va) Tryz.func39 (by kernel_rfl) h
 ·exact tab1 (n:=tC) Tryz.func40 (by kernel_rfl) h
 ·exact tab1 (n:=tB) Tryz.func41 (by kernel_rfl) h
 ·exact tab1 (n:=xC) Tryz.func63 (by kernel_rfl) h
 ·exact tab1 (n:=kZ) Tryz.func64 (by kernel_rfl) h
 ·exact tab1 (n:=Z0) Tryz.func65 (by kernel_rfl) h
 ·exact tab1 (n:=vM) Tryz.func66 (by kernel_rfl) h
 ·exact tab1 (n:=XK) Tryz.func67 (by kernel_rfl) h
 ·exact tab1 (n:=Ye) Tryz.func68 (by kernel_rfl) h
 ·exact tab1 (n:=vJ) Tryz.func69 (by kernel_rfl) h
 ·exact tab1 (n:=Z3) Tryz.func70 (by kernel_rfl) h
 ·exact tab1 (n:=t2) Tryz.func71 (by kernel_rfl) h
 ·exact tab1 (n:=vL) Tryz.func72 (by kernel_rfl) h
 ·exact tab1 (n:=xN) Tryz.func73 (by kernel_rfl) h
 ·exact tab1 (n:=vg) Tryz.func74 (by kernel_rfl) h
 ·exact tab1 (n:=ql) Tryz.func75 (by kernel_rfl) h
 ·exact tab1 (n:=vK) Tryz.func76 (by kernel_rfl) h
 ·exact tab1 (n:=uc) Tryz.func77 (by kernel_rfl) h
 ·exact tab1 (n:=t6) Tryz.func78 (by kernel_rfl) h
 ·exact tab1 (n:=uw) Tryz.func79 (by kernel_rfl) h
 ·exact tab1 (n:=Wx) Tryz.func80 (by kernel_rfl) h
 ·exact tab1 (n:=Wu) Tryz.func81 (by kernel_rfl) h
 ·exact tab1 (n:=kS) Tryz.func82 (by kernel_rfl) h
 ·exact tab1 (n:=XJ) Tryz.func119 (by kernel_rfl) h
 ·exact tab1 (n:=tE) Tryz.func120 (by kernel_rfl) h
 ·exact tab1 (n:=t0) Tryz.func121 (by kernel_rfl) h
 ·exact tab1 (n:=qk) Tryz.func122 (by kernel_rfl) h
 ·exact tab1 (n:=ua) Tryz.func123 (by kernel_rfl) h
 ·exact tab1 (n:=XM) Tryz.func124 (by kernel_rfl) h
 ·exact tab1 (n:=Yl) Tryz.func125 (by kernel_rfl) h
 ·exact tab1 (n:=jp) Tryz.func126 (by kernel_rfl) h
 ·exact tab1 (n:=t3) Tryz.func127 (by kernel_rfl) h
 ·exact tab1 (n:=Wz) Tryz.func128 (by kernel_rfl) h
 ·exact tab1 (n:=uu) Tryz.func129 (by kernel_rfl) h
 ·exact tab1 (n:=ux) Tryz.func130 (by kernel_rfl) h
 ·exact tab1 (n:=Wy) Tryz.func131 (by kernel_rfl) h
 ·exact tab1 (n:=Z1) Tryz.func132 (by kernel_rfl) h
 ·exact tab1 (n:=jm) Tryz.func133 (by kernel_rfl) h
 ·exact tab1 (n:=vf) Tryz.func134 (by kernel_rfl) h
 ·exact tab1 (n:=xM) Tryz.func135 (by kernel_rfl) h
 ·exact tab1 (n:=vN) Tryz.func136 (by kernel_rfl) h
 ·exact tab1 (n:=Yf) Tryz.func137 (by kernel_rfl) h
 ·exact tab1 (n:=Ws) Tryz.func138 (by kernel_rfl) h
 ·exact tab1 (n:=Wt) Tryz.func139 (by kernel_rfl) h
 ·exact tab1 (n:=Wv) Tryz.func140 (by kernel_rfl) h
 ·exact tab1 (n:=VB) Tryz.func141 (by kernel_rfl) h
 ·exact tab1 (n:=Yg) Tryz.func152 (by kernel_rfl) h
 ·exact tab1 (n:=Yi) Tryz.func200 (by kernel_rfl) h
 ·exact tab1 (n:=jo) Tryz.func201 (by kernel_rfl) h
 ·exact tab1 (n:=t1) Tryz.func202 (by kernel_rfl) h
 ·exact tab1 (n:=Wr) Tryz.func203 (by kernel_rfl) h
 ·exact tab1 (n:=Yc) Tryz.func204 (by kernel_rfl) h
 ·exact tab1 (n:=XF) Tryz.func205 (by kernel_rfl) h
 ·exact tab1 (n:=kc) Tryz.func206 (by kernel_rfl) h
 ·exact tab1 (n:=Ym) Tryz.func207 (by kernel_rfl) h
 ·exact tab1 (n:=uZ) Tryz.func208 (by kernel_rfl) h
 ·exact tab1 (n:=kU) Tryz.func209 (by kernel_rfl) h
 ·exact tab1 (n:=ve) Tryz.func210 (by kernel_rfl) h
 ·exact tab1 (n:=kT) Tryz.func231 (by kernel_rfl) h
 ·exact tab1 (n:=jn) Tryz.func232 (by kernel_rfl) h
 ·exact tab1 (n:=XG) Tryz.func233 (by kernel_rfl) h
 ·exact tab1 (n:=kR) Tryz.func234 (by kernel_rfl) h
 ·exact tab1 (n:=XI) Tryz.func265 (by kernel_rfl) h
 ·exact tab1 (n:=kW) Tryz.func266 (by kernel_rfl) h
 ·exact tab1 (n:=Yh) Tryz.func267 (by kernel_rfl) h
 ·exact tab1 (n:=Yj) Tryz.func268 (by kernel_rfl) h
 ·exact tab1 (n:=Yb) Tryz.func269 (by kernel_rfl) h
 ·exact tab1 (n:=uY) Tryz.func270 (by kernel_rfl) h
 ·exact tab1 (n:=vH) Tryz.func271 (by kernel_rfl) h
 ·exact tab1 (n:=Yd) Tryz.func287 (by kernel_rfl) h
 ·exact tab1 (n:=kY) Tryz.func293 (by kernel_rfl) h
 ·exact tab1 (n:=XH) Tryz.func294 (by kernel_rfl) h
 ·exact tab1 (n:=yj) Tryz.func295 (by kernel_rfl) h
 ·exact tab1 (n:=kg) Tryz.func296 (by kernel_rfl) h
 ·exact tab1 (n:=v4) Tryz.func297 (by kernel_rfl) h
 ·exact tab1 (n:=ke) Tryz.func298 (by kernel_rfl) h
 ·exact tab1 (n:=kV) Tryz.func303 (by kernel_rfl) h
 ·exact tab1 (n:=yx) Tryz.func304 (by kernel_rfl) h
 ·exact tab1 (n:=xg) Tryz.func305 (by kernel_rfl) h
 ·exact tab1 (n:=xW) Tryz.func306 (by kernel_rfl) h
 ·exact tab1 (n:=xh) Tryz.func307 (by kernel_rfl) h
 ·exact tab1 (n:=xw) Tryz.func308 (by kernel_rfl) h
 ·exact tab1 (n:=xm) Tryz.func309 (by kernel_rfl) h
 ·exact tab1 (n:=yq) Tryz.func310 (by kernel_rfl) h
 ·exact tab1 (n:=Z2) Tryz.func311 (by kernel_rfl) h
 ·exact tab1 (n:=yS) Tryz.func312 (by kernel_rfl) h
 ·exact tab1 (n:=xL) Tryz.func313 (by kernel_rfl) h
 ·exact tab1 (n:=qS) Tryz.func314 (by kernel_rfl) h
 ·exact tab1 (n:=qR) Tryz.func315 (by kernel_rfl) h
 ·exact tab1 (n:=xV) Tryz.func316 (by kernel_rfl) h
 ·exact tab1 (n:=u9) Tryz.func317 (by kernel_rfl) h
 ·exact tab1 (n:=ut) Tryz.func318 (by kernel_rfl) h
 ·exact tab1 (n:=yT) Tryz.func319 (by kernel_rfl) h
 ·exact tab1 (n:=vd) Tryz.func320 (by kernel_rfl) h
 ·exact tab1 (n:=kh) Tryz.func321 (by kernel_rfl) h
 ·exact tab1 (n:=vc) Tryz.func322 (by kernel_rfl) h
 ·cases h
end Go.Proofs.W
end
section
namespace Go.Proofs.W
open Go.Vs Go.Vs.Sn
set_option maxRecDepth 1000000
theorem mok0:MemoOk Tryz.prog g0.memo:=vh _
theorem zy14:MemoFact Tryz.prog zc [(.str [110])] T:=z4 g0 (by kernel_rfl) tabOk mok0 10001 zf13 (by kernel_rfl)
theorem zy25:MemoFact Tryz.prog zc [(.str [111,110])] T:=z4 g0 (by kernel_rfl) tabOk mok0 10001 zf24 (by kernel_rfl)
theorem zy37:MemoFact Tryz.prog zc [zv26] T:=z4 g0 (by kernel_rfl) tabOk mok0 10001 zf36 (by kernel_rfl)
theorem zy48:MemoFact Tryz.prog zc [(.str [115,48])] T:=z4 g0 (by kernel_rfl) tabOk mok0 10001 zf47 (by kernel_rfl)
theorem zy59:MemoFact Tryz.prog zc [(.str [115,49])] T:=z4 g0 (by kernel_rfl) tabOk mok0 10001 zf58 (by kernel_rfl)
theorem zy70:MemoFact Tryz.prog zc [(.str [115,50])] T:=z4 g0 (by kernel_rfl) tabOk mok0 10001 zf69 (by kernel_rfl)
theorem zy81:MemoFact Tryz.prog zc [(.str [115,51])] T:=z4 g0 (by kernel_rfl) tabOk mok0 10001 zf80 (by kernel_rfl)
theorem zy92:MemoFact Tryz.prog zc [(.str [115,52])] T:=z4 g0 (by kernel_rfl) tabOk mok0 10001 zf91 (by kernel_rfl)
theorem zy103:MemoFact Tryz.prog zc [(.str [115,53])] T:=z4 g0 (by kernel_rfl) tabOk mok0 10001 zf102 (by kernel_rfl)
theorem zy114:MemoFact Tryz.prog zc [(.str [115,54])] T:=z4 g0 (by kernel_rfl) tabOk mok0 10001 zf113 (by kernel_rfl)
theorem zy125:MemoFact Tryz.prog zc [(.str [115,55])] T:=z4 g0 (by kernel_rfl) tabOk mok0 10001 zf124 (by kernel_rfl)
theorem zy135:MemoFact Tryz.prog zc [(.str [103])] T:=z4 g0 (by kernel_rfl) tabOk mok0 10001 zf134 (by kernel_rfl)
theorem zy145:MemoFact Tryz.prog zc [(.str [97])] T:=z4 g0 (by kernel_rfl) tabOk mok0 10001 zf144 (by kernel_rfl)
theorem zy155:MemoFact Tryz.prog zc [(.str [104])] T:=z4 g0 (by kernel_rfl) tabOk mok0 10001 zf154 (by kernel_rfl)
theorem zy165:MemoFact Tryz.prog zc [(.str [102])] T:=z4 g0 (by kernel_rfl) tabOk mok0 10001 zf164 (by kernel_rfl)
theorem zy193:MemoFact Tryz.prog zh [(N 4 zw176),(i 0)] T:=z4 g0 (by kernel_rfl) tabOk mok0 10001 zf192 (by kernel_rfl)
theorem zy204:MemoFact Tryz.prog zh [(N 4 zw176),(i 1)] T:=z4 g0 (by kernel_rfl) tabOk mok0 10001 zf203 (by kernel_rfl)
theorem zy215:MemoFact Tryz.prog zh [(N 4 zw176),(i 2)] T:=z4 g0 (by kernel_rfl) tabOk mok0 10001 zf214 (by kernel_rfl)
theorem zy227:MemoFact Tryz.prog zh [(N 4 zw176),(i 3)] T:=z4 g0 (by kernel_rfl) tabOk mok0 10001 zf226 (by kernel_rfl)
theorem zy246:MemoFact Tryz.prog zh [(N 4 zw176),(i 4)] T:=z4 g0 (by kernel_rfl) tabOk mok0 10001 zf245 (by kernel_rfl)
theorem zy259:MemoFact Tryz.prog zh [(N 4 zw176),(i 5)] T:=z4 g0 (by kernel_rfl) tabOk mok0 10001 zf258 (by kernel_rfl)
theorem zy271:MemoFact Tryz.prog zh [(N 4 zw176),(i 6)] T:=z4 g0 (by kernel_rfl) tabOk mok0 10001 zf270 (by kernel_rfl)
theorem zy280:MemoFact Tryz.prog zh [(N 4 zw176),(i 7)] T:=z4 g0 (by kernel_rfl) tabOk mok0 10001 zf279 (by kernel_rfl)
theorem zy294:MemoFact Tryz.prog zh zw282 T:=z4 g0 (by kernel_rfl) tabOk mok0 10001 zf293 (by kernel_rfl)
theorem zy304:MemoFact Tryz.prog zh zw295 T:=z4 g0 (by kernel_rfl) tabOk mok0 10001 zf303 (by kernel_rfl)
theorem zy323:MemoFact Tryz.prog z9 [(u 4)] zv306:=z4 g0 (by kernel_rfl) tabOk mok0 10001 zf322 (by kernel_rfl)
theorem zy341:MemoFact Tryz.prog z9 [(u 1)] zv327:=z4 g0 (by kernel_rfl) tabOk mok0 10001 zf340 (by kernel_rfl)
theorem zy360:MemoFact Tryz.prog z9 [(u 34)] zv344:=z4 g0 (by kernel_rfl) tabOk mok0 10001 zf359 (by kernel_rfl)
theorem zy375:MemoFact Tryz.prog z9 [(u 2)] zv362:=z4 g0 (by kernel_rfl) tabOk mok0 10001 zf374 (by kernel_rfl)
theorem zy391:MemoFact Tryz.prog z9 [(u 3)] zv377:=z4 g0 (by kernel_rfl) tabOk mok0 10001 zf390 (by kernel_rfl)
theorem zy406:MemoFact Tryz.prog z9 [(u 5)] zv393:=z4 g0 (by kernel_rfl) tabOk mok0 10001 zf405 (by kernel_rfl)
theorem zy421:MemoFact Tryz.prog z9 [(u 6)] zv408:=z4 g0 (by kernel_rfl) tabOk mok0 10001 zf420 (by kernel_rfl)
theorem zy430:MemoFact Tryz.prog z9 [(u 9)] zv408:=z4 g0 (by kernel_rfl) tabOk mok0 10001 zf429 (by kernel_rfl)
theorem zy440:MemoFact Tryz.prog z9 [(u 10)] zv408:=z4 g0 (by kernel_rfl) tabOk mok0 10001 zf439 (by kernel_rfl)
theorem zy450:MemoFact Tryz.prog z9 [(u 11)] zv408:=z4 g0 (by kernel_rfl) tabOk mok0 10001 zf449 (by kernel_rfl)
theorem zy460:MemoFact Tryz.prog z9 [(u 12)] zv393:=z4 g0 (by kernel_rfl) tabOk mok0 10001 zf459 (by kernel_rfl)
theorem zy477:MemoFact Tryz.prog z9 [(u 13)] zv462:=z4 g0 (by kernel_rfl) tabOk mok0 10001 zf476 (by kernel_rfl)
theorem zy494:MemoFact Tryz.prog z9 [(u 14)] zv479:=z4 g0 (by kernel_rfl) tabOk mok0 10001 zf493 (by kernel_rfl)
theorem zy503:MemoFact Tryz.prog z9 [(u 15)] zv306:=z4 g0 (by kernel_rfl) tabOk mok0 10001 zf502 (by kernel_rfl)
theorem zy513:MemoFact Tryz.prog z9 [(u 16)] zv393:=z4 g0 (by kernel_rfl) tabOk mok0 10001 zf512 (by kernel_rfl)
theorem zy528:MemoFact Tryz.prog z9 [(u 17)] zv515:=z4 g0 (by kernel_rfl) tabOk mok0 10001 zf527 (by kernel_rfl)
theorem zy538:MemoFact Tryz.prog z9 [(u 18)] zv393:=z4 g0 (by kernel_rfl) tabOk mok0 10001 zf537 (by kernel_rfl)
theorem zy548:MemoFact Tryz.prog z9 [(u 19)] zv408:=z4 g0 (by kernel_rfl) tabOk mok0 10001 zf547 (by kernel_rfl)
theorem zy564:MemoFact Tryz.prog z9 [(u 20)] zv550:=z4 g0 (by kernel_rfl) tabOk mok0 10001 zf563 (by kernel_rfl)
theorem zy574:MemoFact Tryz.prog z9 [(u 21)] zv393:=z4 g0 (by kernel_rfl) tabOk mok0 10001 zf573 (by kernel_rfl)
theorem zy590:MemoFact Tryz.prog z9 [(u 23)] zv576:=z4 g0 (by kernel_rfl) tabOk mok0 10001 zf589 (by kernel_rfl)
theorem zy606:MemoFact Tryz.prog z9 [(u 24)] zv592:=z4 g0 (by kernel_rfl) tabOk mok0 10001 zf605 (by kernel_rfl)
theorem zy621:MemoFact Tryz.prog z9 [(u 25)] zv608:=z4 g0 (by kernel_rfl) tabOk mok0 10001 zf620 (by kernel_rfl)
theorem zy636:MemoFact Tryz.prog z9 [(u 26)] zv623:=z4 g0 (by kernel_rfl) tabOk mok0 10001 zf635 (by kernel_rfl)
theorem zy646:MemoFact Tryz.prog z9 [(u 27)] zv623:=z4 g0 (by kernel_rfl) tabOk mok0 10001 zf645 (by kernel_rfl)
theorem zy656:MemoFact Tryz.prog z9 [(u 28)] zv592:=z4 g0 (by kernel_rfl) tabOk mok0 10001 zf655 (by kernel_rfl)
theorem zy671:MemoFact Tryz.prog z9 [(u 29)] zv658:=z4 g0 (by kernel_rfl) tabOk mok0 10001 zf670 (by kernel_rfl)
theorem zy680:MemoFact Tryz.prog z9 [(u 32)] zv592:=z4 g0 (by kernel_rfl) tabOk mok0 10001 zf679 (by kernel_rfl)
theorem zy690:MemoFact Tryz.prog z9 [(u 33)] zv393:=z4 g0 (by kernel_rfl) tabOk mok0 10001 zf689 (by kernel_rfl)
theorem zy704:MemoFact Tryz.prog z9 [(u 30)] zv692:=z4 g0 (by kernel_rfl) tabOk mok0 10001 zf703 (by kernel_rfl)
theorem zy713:MemoFact Tryz.prog z9 [(u 31)] zv692:=z4 g0 (by kernel_rfl) tabOk mok0 10001 zf712 (by kernel_rfl)
theorem zy728:MemoFact Tryz.prog z9 [(u 22)] zv715:=z4 g0 (by kernel_rfl) tabOk mok0 10001 zf727 (by kernel_rfl)
theorem zy737:MemoFact Tryz.prog z9 [(u 7)] zv408:=z4 g0 (by kernel_rfl) tabOk mok0 10001 zf736 (by kernel_rfl)
theorem zy746:MemoFact Tryz.prog z9 [(u 8)] zv408:=z4 g0 (by kernel_rfl) tabOk mok0 10001 zf745 (by kernel_rfl)
theorem zy760:MemoFact Tryz.prog zq [zv747,(i 10)] T:=z4 g0 (by kernel_rfl) tabOk mok0 10001 zf759 (by kernel_rfl)
theorem zy770:MemoFact Tryz.prog zq [zv747,(i 1)] T:=z4 g0 (by kernel_rfl) tabOk mok0 10001 zf769 (by kernel_rfl)
theorem zy780:MemoFact Tryz.prog zq [zv747,(i 4)] T:=z4 g0 (by kernel_rfl) tabOk mok0 10001 zf779 (by kernel_rfl)
theorem zy795:MemoFact Tryz.prog zq [(N 2 zw781),(i 4)] T:=z4 g0 (by kernel_rfl) tabOk mok0 10001 zf794 (by kernel_rfl)
theorem zy808:MemoFact Tryz.prog zq [(N 2 zw796),(i 4)] T:=z4 g0 (by kernel_rfl) tabOk mok0 10001 zf807 (by kernel_rfl)
theorem zy831:MemoFact Tryz.prog zr [(N 2 zw817)] T:=z4 g0 (by kernel_rfl) tabOk mok0 10001 zf830 (by kernel_rfl)
theorem zy844:MemoFact Tryz.prog zr [(N 2 [zv832])] T:=z4 g0 (by kernel_rfl) tabOk mok0 10001 zf843 (by kernel_rfl)
theorem zy854:MemoFact Tryz.prog zr [.nils] T:=z4 g0 (by kernel_rfl) tabOk mok0 10001 zf853 (by kernel_rfl)
theorem zy864:MemoFact Tryz.prog zr [(N 2 [zv170])] T:=z4 g0 (by kernel_rfl) tabOk mok0 10001 zf863 (by kernel_rfl)
theorem zy875:MemoFact Tryz.prog zr [(N 2 [zv865])] T:=z4 g0 (by kernel_rfl) tabOk mok0 10001 zf874 (by kernel_rfl)
theorem mok1:MemoOk Tryz.prog g1.memo:=ze (l:=zJ) (w00.2 ⟨zy831,w00.2 ⟨zy844,w00.2 ⟨zy854,w00.2 ⟨zy864,w00.2 ⟨zy875,fun _ h=>by cases h⟩⟩⟩⟩⟩) (ze (l:=zH) (w00.2 ⟨zy760,w00.2 ⟨zy770,w00.2 ⟨zy780,w00.2 ⟨zy795,w00.2 ⟨zy808,fun _ h=>by cases h⟩⟩⟩⟩⟩) (ze (l:=y3) (w00.2 ⟨zy323,w00.2 ⟨zy341,w00.2 ⟨zy360,w00.2 ⟨zy375,w00.2 ⟨zy391,w00.2 ⟨zy406,w00.2 ⟨zy421,w00.2 ⟨zy430,w00.2 ⟨zy440,w00.2 ⟨zy450,w00.2 ⟨zy460,w00.2 ⟨zy477,w00.2 ⟨zy494,w00.2 ⟨zy503,w00.2 ⟨zy513,w00.2 ⟨zy528,w00.2 ⟨zy538,w00.2 ⟨zy548,w00.2 ⟨zy564,w00.2 ⟨zy574,w00.2 ⟨zy590,w00.2 ⟨zy606,w00.2 ⟨zy621,w00.2 ⟨zy636,w00.2 ⟨zy646,w00.2 ⟨zy656,w00.2 ⟨zy671,w00.2 ⟨zy680,w00.2 ⟨zy690,w00.2 ⟨zy704,w00.2 ⟨zy713,w00.2 ⟨zy728,w00.2 ⟨zy737,w00.2 ⟨zy746,fun _ h=>by cases h⟩⟩⟩⟩⟩⟩⟩⟩⟩⟩⟩⟩⟩⟩⟩⟩⟩⟩⟩⟩⟩⟩⟩⟩⟩⟩⟩⟩⟩⟩⟩⟩⟩⟩) (ze (l:=zO) (w00.2 ⟨zy193,w00.2 ⟨zy204,w00.2 ⟨zy215,w00.2 ⟨zy227,w00.2 ⟨zy246,w00.2 ⟨zy259,w00.2 ⟨zy271,w00.2 ⟨zy280,w00.2 ⟨zy294,w00.2 ⟨zy304,fun _ h=>by cases h⟩⟩⟩⟩⟩⟩⟩⟩⟩⟩) (ze (l:=zI) (w00.2 ⟨zy14,w00.2 ⟨zy25,w00.2 ⟨zy37,w00.2 ⟨zy48,w00.2 ⟨zy59,w00.2 ⟨zy70,w00.2 ⟨zy81,w00.2 ⟨zy92,w00.2 ⟨zy103,w00.2 ⟨zy114,w00.2 ⟨zy125,w00.2 ⟨zy135,w00.2 ⟨zy145,w00.2 ⟨zy155,w00.2 ⟨zy165,fun _ h=>by cases h⟩⟩⟩⟩⟩⟩⟩⟩⟩⟩⟩⟩⟩⟩⟩) (vh _)))))
theorem zy892:MemoFact Tryz.prog zu [(N 4 zw176)] (i 0):=z4 g1 (by kernel_rfl) tabOk mok1 10001 zf891 (by kernel_rfl)
theorem zy905:MemoFact Tryz.prog zu [(N 4 [(G zw281)])] (i 0):=z4 g1 (by kernel_rfl) tabOk mok1 10001 zf904 (by kernel_rfl)
theorem zy914:MemoFact Tryz.prog zu [(N 4 [(G zw166)])] (i 0):=z4 g1 (by kernel_rfl) tabOk mok1 10001 zf913 (by kernel_rfl)
theorem zy924:MemoFact Tryz.prog zu [.nils] (i 0):=z4 g1 (by kernel_rfl) tabOk mok1 10001 zf923 (by kernel_rfl)
theorem zy940:MemoFact Tryz.prog z3 [(G zw925)] (i 0):=z4 g1 (by kernel_rfl) tabOk mok1 10001 zf939 (by kernel_rfl)
theorem zy953:MemoFact Tryz.prog z3 [(G zw941)] (i 0):=z4 g1 (by kernel_rfl) tabOk mok1 10001 zf952 (by kernel_rfl)
theorem zy966:MemoFact Tryz.prog z3 [(G zw954)] (i 0):=z4 g1 (by kernel_rfl) tabOk mok1 10001 zf965 (by kernel_rfl)
theorem zy979:MemoFact Tryz.prog z3 [(G zw967)] (i 0):=z4 g1 (by kernel_rfl) tabOk mok1 10001 zf978 (by kernel_rfl)
theorem zy992:MemoFact Tryz.prog z3 [(G zw980)] (i 0):=z4 g1 (by kernel_rfl) tabOk mok1 10001 zf991 (by kernel_rfl)
theorem zy1005:MemoFact Tryz.prog z3 [(G zw993)] (i 0):=z4 g1 (by kernel_rfl) tabOk mok1 10001 zf1004 (by kernel_rfl)
theorem zy1018:MemoFact Tryz.prog z3 [(G zw1006)] (i 0):=z4 g1 (by kernel_rfl) tabOk mok1 10001 zf1017 (by kernel_rfl)
theorem zy1031:MemoFact Tryz.prog z3 [(G zw1019)] (i 0):=z4 g1 (by kernel_rfl) tabOk mok1 10001 zf1030 (by kernel_rfl)
theorem zy1043:MemoFact Tryz.prog z3 [(G zw1032)] (i 0):=z4 g1 (by kernel_rfl) tabOk mok1 10001 zf1042 (by kernel_rfl)
theorem zy1056:MemoFact Tryz.prog z3 [(G zw1044)] (i 0):=z4 g1 (by kernel_rfl) tabOk mok1 10001 zf1055 (by kernel_rfl)
theorem zy1068:MemoFact Tryz.prog z3 [(G zw1057)] (i 0):=z4 g1 (by kernel_rfl) tabOk mok1 10001 zf1067 (by kernel_rfl)
theorem zy1080:MemoFact Tryz.prog z3 [(G zw1069)] (i 0):=z4 g1 (by kernel_rfl) tabOk mok1 10001 zf1079 (by kernel_rfl)
theorem zy1093:MemoFact Tryz.prog z3 [(G zw1081)] (i 0):=z4 g1 (by kernel_rfl) tabOk mok1 10001 zf1092 (by kernel_rfl)
theorem zy1106:MemoFact Tryz.prog z3 [(G zw1094)] (i 0):=z4 g1 (by kernel_rfl) tabOk mok1 10001 zf1105 (by kernel_rfl)
theorem zy1120:MemoFact Tryz.prog z3 [(G zw1107)] (i 0):=z4 g1 (by kernel_rfl) tabOk mok1 10001 zf1119 (by kernel_rfl)
theorem zy1133:MemoFact Tryz.prog z3 [(G zw1121)] (i 0):=z4 g1 (by kernel_rfl) tabOk mok1 10001 zf1132 (by kernel_rfl)
theorem zy1147:MemoFact Tryz.prog z3 [(G zw1134)] (i 0):=z4 g1 (by kernel_rfl) tabOk mok1 10001 zf1146 (by kernel_rfl)
theorem zy1160:MemoFact Tryz.prog z3 [(G zw1148)] (i 0):=z4 g1 (by kernel_rfl) tabOk mok1 10001 zf1159 (by kernel_rfl)
theorem zy1174:MemoFact Tryz.prog z3 [(G zw1161)] (i 0):=z4 g1 (by kernel_rfl) tabOk mok1 10001 zf1173 (by kernel_rfl)
theorem zy1188:MemoFact Tryz.prog z3 [(G zw1175)] (i 0):=z4 g1 (by kernel_rfl) tabOk mok1 10001 zf1187 (by kernel_rfl)
theorem zy1200:MemoFact Tryz.prog z3 [(G zw1189)] (i 0):=z4 g1 (by kernel_rfl) tabOk mok1 10001 zf1199 (by kernel_rfl)
theorem zy1213:MemoFact Tryz.prog z3 [(G zw1201)] (i 0):=z4 g1 (by kernel_rfl) tabOk mok1 10001 zf1212 (by kernel_rfl)
theorem zy1225:MemoFact Tryz.prog z3 [(G zw1214)] (i 0):=z4 g1 (by kernel_rfl) tabOk mok1 10001 zf1224 (by kernel_rfl)
theorem zy1238:MemoFact Tryz.prog z3 [(G zw1226)] (i 0):=z4 g1 (by kernel_rfl) tabOk mok1 10001 zf1237 (by kernel_rfl)
theorem zy1251:MemoFact Tryz.prog z3 [(G zw1239)] (i 0):=z4 g1 (by kernel_rfl) tabOk mok1 10001 zf1250 (by kernel_rfl)
theorem zy1264:MemoFact Tryz.prog z3 [(G zw1252)] (i 0):=z4 g1 (by kernel_rfl) tabOk mok1 10001 zf1263 (by kernel_rfl)
theorem zy1276:MemoFact Tryz.prog z3 [(G zw1265)] (i 0):=z4 g1 (by kernel_rfl) tabOk mok1 10001 zf1275 (by kernel_rfl)
theorem zy1289:MemoFact Tryz.prog z3 [(G zw1277)] (i 0):=z4 g1 (by kernel_rfl) tabOk mok1 10001 zf1288 (by kernel_rfl)
theorem zy1302:MemoFact Tryz.prog z3 [(G zw1290)] (i 0):=z4 g1 (by kernel_rfl) tabOk mok1 10001 zf1301 (by kernel_rfl)
theorem zy1315:MemoFact Tryz.prog z3 [(G zw1303)] (i 0):=z4 g1 (by kernel_rfl) tabOk mok1 10001 zf1314 (by kernel_rfl)
theorem zy1327:MemoFact Tryz.prog z3 [(G zw1316)] (i 0):=z4 g1 (by kernel_rfl) tabOk mok1 10001 zf1326 (by kernel_rfl)
theorem zy1340:MemoFact Tryz.prog z3 [(G zw1328)] (i 0):=z4 g1 (by kernel_rfl) tabOk mok1 10001 zf1339 (by kernel_rfl)
theorem zy1353:MemoFact Tryz.prog z3 [(G zw1341)] (i 0):=z4 g1 (by kernel_rfl) tabOk mok1 10001 zf1352 (by kernel_rfl)
theorem zy1365:MemoFact Tryz.prog z3 [(G zw1354)] (i 0):=z4 g1 (by kernel_rfl) tabOk mok1 10001 zf1364 (by kernel_rfl)
theorem zy1377:MemoFact Tryz.prog z3 [(G zw1366)] (i 0):=z4 g1 (by kernel_rfl) tabOk mok1 10001 zf1376 (by kernel_rfl)
theorem zy1389:MemoFact Tryz.prog z3 [(G zw1378)] (i 0):=z4 g1 (by kernel_rfl) tabOk mok1 10001 zf1388 (by kernel_rfl)
theorem zy1401:MemoFact Tryz.prog z3 [(G zw1390)] (i 0):=z4 g1 (by kernel_rfl) tabOk mok1 10001 zf1400 (by kernel_rfl)
theorem zy1413:MemoFact Tryz.prog z3 [(G zw1402)] (i 0):=z4 g1 (by kernel_rfl) tabOk mok1 10001 zf1412 (by kernel_rfl)
theorem zy1425:MemoFact Tryz.prog z3 [(G zw1414)] (i 0):=z4 g1 (by kernel_rfl) tabOk mok1 10001 zf1424 (by kernel_rfl)
theorem zy1437:MemoFact Tryz.prog z3 [(G zw1426)] (i 0):=z4 g1 (by kernel_rfl) tabOk mok1 10001 zf1436 (by kernel_rfl)
theorem zy1449:MemoFact Tryz.prog z3 [(G zw1438)] (i 0):=z4 g1 (by kernel_rfl) tabOk mok1 10001 zf1448 (by kernel_rfl)
theorem zy1462:MemoFact Tryz.prog z3 [(G zw1450)] (i 0):=z4 g1 (by kernel_rfl) tabOk mok1 10001 zf1461 (by kernel_rfl)
theorem zy1474:MemoFact Tryz.prog z3 [(G zw1463)] (i 0):=z4 g1 (by kernel_rfl) tabOk mok1 10001 zf1473 (by kernel_rfl)
theorem zy1486:MemoFact Tryz.prog z3 [(G zw1475)] (i 0):=z4 g1 (by kernel_rfl) tabOk mok1 10001 zf1485 (by kernel_rfl)
theorem zy1498:MemoFact Tryz.prog z3 [(G zw1487)] (i 0):=z4 g1 (by kernel_rfl) tabOk mok1 10001 zf1497 (by kernel_rfl)
theorem zy1511:MemoFact Tryz.prog z3 [(G zw1499)] (i 0):=z4 g1 (by kernel_rfl) tabOk mok1 10001 zf1510 (by kernel_rfl)
theorem zy1524:MemoFact Tryz.prog z3 [(G zw1512)] (i 0):=z4 g1 (by kernel_rfl) tabOk mok1 10001 zf1523 (by kernel_rfl)
theorem zy1536:MemoFact Tryz.prog z3 [(G zw1525)] (i 0):=z4 g1 (by kernel_rfl) tabOk mok1 10001 zf1535 (by kernel_rfl)
theorem zy1548:MemoFact Tryz.prog z3 [(G zw1537)] (i 0):=z4 g1 (by kernel_rfl) tabOk mok1 10001 zf1547 (by kernel_rfl)
theorem zy1561:MemoFact Tryz.prog z3 [(G zw1549)] (i 0):=z4 g1 (by kernel_rfl) tabOk mok1 10001 zf1560 (by kernel_rfl)
theorem zy1575:MemoFact Tryz.prog z3 [(G zw1562)] (i 0):=z4 g1 (by kernel_rfl) tabOk mok1 10001 zf1574 (by kernel_rfl)
theorem zy1587:MemoFact Tryz.prog z3 [(G zw1576)] (i 0):=z4 g1 (by kernel_rfl) tabOk mok1 10001 zf1586 (by kernel_rfl)
theorem zy1601:MemoFact Tryz.prog z3 [(G zw1588)] (i 0):=z4 g1 (by kernel_rfl) tabOk mok1 10001 zf1600 (by kernel_rfl)
theorem zy1615:MemoFact Tryz.prog z3 [(G zw1602)] (i 0):=z4 g1 (by kernel_rfl) tabOk mok1 10001 zf1614 (by kernel_rfl)
theorem zy1627:MemoFact Tryz.prog z3 [(G zw1616)] (i 0):=z4 g1 (by kernel_rfl) tabOk mok1 10001 zf1626 (by kernel_rfl)
theorem zy1640:MemoFact Tryz.prog z3 [(G zw1628)] (i 0):=z4 g1 (by kernel_rfl) tabOk mok1 10001 zf1639 (by kernel_rfl)
theorem zy1652:MemoFact Tryz.prog z3 [(G zw1641)] (i 0):=z4 g1 (by kernel_rfl) tabOk mok1 10001 zf1651 (by kernel_rfl)
theorem zy1665:MemoFact Tryz.prog z3 [(G zw1653)] (i 0):=z4 g1 (by kernel_rfl) tabOk mok1 10001 zf1664 (by kernel_rfl)
theorem zy1678:MemoFact Tryz.prog z3 [(G zw1666)] (i 0):=z4 g1 (by kernel_rfl) tabOk mok1 10001 zf1677 (by kernel_rfl)
theorem zy1690:MemoFact Tryz.prog z3 [(G zw1679)] (i 0):=z4 g1 (by kernel_rfl) tabOk mok1 10001 zf1689 (by kernel_rfl)
theorem zy1703:MemoFact Tryz.prog z3 [(G zw1691)] (i 0):=z4 g1 (by kernel_rfl) tabOk mok1 10001 zf1702 (by kernel_rfl)
theorem zy1716:MemoFact Tryz.prog z3 [(G zw1704)] (i 0):=z4 g1 (by kernel_rfl) tabOk mok1 10001 zf1715 (by kernel_rfl)
theorem zy1728:MemoFact Tryz.prog z3 [(G zw1717)] (i 0):=z4 g1 (by kernel_rfl) tabOk mok1 10001 zf1727 (by kernel_rfl)
theorem zy1740:MemoFact Tryz.prog z3 [(G zw1729)] (i 0):=z4 g1 (by kernel_rfl) tabOk mok1 10001 zf1739 (by kernel_rfl)
theorem zy1752:MemoFact Tryz.prog z3 [(G zw1741)] (i 0):=z4 g1 (by kernel_rfl) tabOk mok1 10001 zf1751 (by kernel_rfl)
theorem zy1765:MemoFact Tryz.prog z3 [(G zw1753)] (i 0):=z4 g1 (by kernel_rfl) tabOk mok1 10001 zf1764 (by kernel_rfl)
theorem zy1778:MemoFact Tryz.prog z3 [(G zw1766)] (i 0):=z4 g1 (by kernel_rfl) tabOk mok1 10001 zf1777 (by kernel_rfl)
theorem zy1790:MemoFact Tryz.prog z3 [(G zw1779)] (i 0):=z4 g1 (by kernel_rfl) tabOk mok1 10001 zf1789 (by kernel_rfl)
theorem zy1802:MemoFact Tryz.prog z3 [(G zw1791)] (i 0):=z4 g1 (by kernel_rfl) tabOk mok1 10001 zf1801 (by kernel_rfl)
theorem zy1814:MemoFact Tryz.prog z3 [(G zw1803)] (i 0):=z4 g1 (by kernel_rfl) tabOk mok1 10001 zf1813 (by kernel_rfl)
theorem zy1826:MemoFact Tryz.prog z3 [(G zw1815)] (i 0):=z4 g1 (by kernel_rfl) tabOk mok1 10001 zf1825 (by kernel_rfl)
theorem zy1838:MemoFact Tryz.prog z3 [(G zw1827)] (i 0):=z4 g1 (by kernel_rfl) tabOk mok1 10001 zf1837 (by kernel_rfl)
theorem zy1850:MemoFact Tryz.prog z3 [(G zw1839)] (i 0):=z4 g1 (by kernel_rfl) tabOk mok1 10001 zf1849 (by kernel_rfl)
theorem zy1862:MemoFact Tryz.prog z3 [(G zw1851)] (i 0):=z4 g1 (by kernel_rfl) tabOk mok1 10001 zf1861 (by kernel_rfl)
theorem zy1874:MemoFact Tryz.prog z3 [(G zw1863)] (i 0):=z4 g1 (by kernel_rfl) tabOk mok1 10001 zf1873 (by kernel_rfl)
theorem zy1887:MemoFact Tryz.prog z3 [(G zw1875)] (i 0):=z4 g1 (by kernel_rfl) tabOk mok1 10001 zf1886 (by kernel_rfl)
theorem zy1900:MemoFact Tryz.prog z3 [(G zw1888)] (i 0):=z4 g1 (by kernel_rfl) tabOk mok1 10001 zf1899 (by kernel_rfl)
theorem zy1913:MemoFact Tryz.prog z3 [(G zw1901)] (i 0):=z4 g1 (by kernel_rfl) tabOk mok1 10001 zf1912 (by kernel_rfl)
theorem zy1925:MemoFact Tryz.prog z3 [(G zw1914)] (i 0):=z4 g1 (by kernel_rfl) tabOk mok1 10001 zf1924 (by kernel_rfl)
theorem zy1937:MemoFact Tryz.prog z3 [(G zw1926)] (i 0):=z4 g1 (by kernel_rfl) tabOk mok1 10001 zf1936 (by kernel_rfl)
theorem zy1949:MemoFact Tryz.prog z3 [(G zw1938)] (i 0):=z4 g1 (by kernel_rfl) tabOk mok1 10001 zf1948 (by kernel_rfl)
theorem zy1962:MemoFact Tryz.prog z3 [(G zw1950)] (i 0):=z4 g1 (by kernel_rfl) tabOk mok1 10001 zf1961 (by kernel_rfl)
theorem zy1974:MemoFact Tryz.prog z3 [(G zw1963)] (i 0):=z4 g1 (by kernel_rfl) tabOk mok1 10001 zf1973 (by kernel_rfl)
theorem zy1984:MemoFact Tryz.prog zl [zv747,(i 10)] (i 0):=z4 g1 (by kernel_rfl) tabOk mok1 10001 zf1983 (by kernel_rfl)
theorem zy1993:MemoFact Tryz.prog zl [zv747,(i 1)] (i 0):=z4 g1 (by kernel_rfl) tabOk mok1 10001 zf1992 (by kernel_rfl)
theorem zy2002:MemoFact Tryz.prog zl [zv747,(i 4)] (i 0):=z4 g1 (by kernel_rfl) tabOk mok1 10001 zf2001 (by kernel_rfl)
theorem zy2011:MemoFact Tryz.prog zl [(N 2 zw781),(i 4)] (i 0):=z4 g1 (by kernel_rfl) tabOk mok1 10001 zf2010 (by kernel_rfl)
theorem zy2020:MemoFact Tryz.prog zl [(N 2 zw796),(i 4)] (i 0):=z4 g1 (by kernel_rfl) tabOk mok1 10001 zf2019 (by kernel_rfl)
theorem mok2:MemoOk Tryz.prog g2.memo:=ze (l:=y2) (w00.2 ⟨zy1984,w00.2 ⟨zy1993,w00.2 ⟨zy2002,w00.2 ⟨zy2011,w00.2 ⟨zy2020,fun _ h=>by cases h⟩⟩⟩⟩⟩) (ze (l:=yG) (w00.2 ⟨zy940,w00.2 ⟨zy953,w00.2 ⟨zy966,w00.2 ⟨zy979,w00.2 ⟨zy992,w00.2 ⟨zy1005,w00.2 ⟨zy1018,w00.2 ⟨zy1031,w00.2 ⟨zy1043,w00.2 ⟨zy1056,w00.2 ⟨zy1068,w00.2 ⟨zy1080,w00.2 ⟨zy1093,w00.2 ⟨zy1106,w00.2 ⟨zy1120,w00.2 ⟨zy1133,w00.2 ⟨zy1147,w00.2 ⟨zy1160,w00.2 ⟨zy1174,w00.2 ⟨zy1188,w00.2 ⟨zy1200,w00.2 ⟨zy1213,w00.2 ⟨zy1225,w00.2 ⟨zy1238,w00.2 ⟨zy1251,w00.2 ⟨zy1264,w00.2 ⟨zy1276,w00.2 ⟨zy1289,w00.2 ⟨zy1302,w00.2 ⟨zy1315,w00.2 ⟨zy1327,w00.2 ⟨zy1340,w00.2 ⟨zy1353,w00.2 ⟨zy1365,w00.2 ⟨zy1377,w00.2 ⟨zy1389,w00.2 ⟨zy1401,w00.2 ⟨zy1413,w00.2 ⟨zy1425,w00.2 ⟨zy1437,w00.2 ⟨zy1449,w00.2 ⟨zy1462,w00.2 ⟨zy1474,w00.2 ⟨zy1486,w00.2 ⟨zy1498,w00.2 ⟨zy1511,w00.2 ⟨zy1524,w00.2 ⟨zy1536,w00.2 ⟨zy1548,w00.2 ⟨zy1561,w00.2 ⟨zy1575,w00.2 ⟨zy1587,w00.2 ⟨zy1601,w00.2 ⟨zy1615,w00.2 ⟨zy1627,w00.2 ⟨zy1640,w00.2 ⟨zy1652,w00.2 ⟨zy1665,w00.2 ⟨zy1678,w00.2 ⟨zy1690,w00.2 ⟨zy1703,w00.2 ⟨zy1716,w00.2 ⟨zy1728,w00.2 ⟨zy1740,w00.2 ⟨zy1752,w00.2 ⟨zy1765,w00.2 ⟨zy1778,w00.2 ⟨zy1790,w00.2 ⟨zy1802,w00.2 ⟨zy1814,w00.2 ⟨zy1826,w00.2 ⟨zy1838,w00.2 ⟨zy1850,w00.2 ⟨zy1862,w00.2 ⟨zy1874,w00.2 ⟨zy1887,w00.2 ⟨zy1900,w00.2 ⟨zy1913,w00.2 ⟨zy1925,w00.2 ⟨zy1937,w00.2 ⟨zy1949,w00.2 ⟨zy1962,w00.2 ⟨zy1974,fun _ h=>by cases h⟩⟩⟩⟩⟩⟩⟩⟩⟩⟩⟩⟩⟩⟩⟩⟩⟩⟩⟩⟩⟩⟩⟩⟩⟩⟩⟩⟩⟩⟩⟩⟩⟩⟩⟩⟩⟩⟩⟩⟩⟩⟩⟩⟩⟩⟩⟩⟩⟩⟩⟩⟩⟩⟩⟩⟩⟩⟩⟩⟩⟩⟩⟩⟩⟩⟩⟩⟩⟩⟩⟩⟩⟩⟩⟩⟩⟩⟩⟩⟩⟩⟩⟩) (ze (l:=yb) (w00.2 ⟨zy892,w00.2 ⟨zy905,w00.2 ⟨zy914,w00.2 ⟨zy924,fun _ h=>by cases h⟩⟩⟩⟩) (ze (l:=zJ) (w00.2 ⟨zy831,w00.2 ⟨zy844,w00.2 ⟨zy854,w00.2 ⟨zy864,w00.2 ⟨zy875,fun _ h=>by cases h⟩⟩⟩⟩⟩) (ze (l:=zH) (w00.2 ⟨zy760,w00.2 ⟨zy770,w00.2 ⟨zy780,w00.2 ⟨zy795,w00.2 ⟨zy808,fun _ h=>by cases h⟩⟩⟩⟩⟩) (ze (l:=y3) (w00.2 ⟨zy323,w00.2 ⟨zy341,w00.2 ⟨zy360,w00.2 ⟨zy375,w00.2 ⟨zy391,w00.2 ⟨zy406,w00.2 ⟨zy421,w00.2 ⟨zy430,w00.2 ⟨zy440,w00.2 ⟨zy450,w00.2 ⟨zy460,w00.2 ⟨zy477,w00.2 ⟨zy494,w00.2 ⟨zy503,w00.2 ⟨zy513,w00.2 ⟨zy528,w00.2 ⟨zy538,w00.2 ⟨zy548,w00.2 ⟨zy564,w00.2 ⟨zy574,w00.2 ⟨zy590,w00.2 ⟨zy606,w00.2 ⟨zy621,w00.2 ⟨zy636,w00.2 ⟨zy646,w00.2 ⟨zy656,w00.2 ⟨zy671,w00.2 ⟨zy680,w00.2 ⟨zy690,w00.2 ⟨zy704,w00.2 ⟨zy713,w00.2 ⟨zy728,w00.2 ⟨zy737,w00.2 ⟨zy746,fun _ h=>by cases h⟩⟩⟩⟩⟩⟩⟩⟩⟩⟩⟩⟩⟩⟩⟩⟩⟩⟩⟩⟩⟩⟩⟩⟩⟩⟩⟩⟩⟩⟩⟩⟩⟩⟩) (ze (l:=zO) (w00.2 ⟨zy193,w00.2 ⟨zy204,w00.2 ⟨zy215,w00.2 ⟨zy227,w00.2 ⟨zy246,w00.2 ⟨zy259,w00.2 ⟨zy271,w00.2 ⟨zy280,w00.2 ⟨zy294,w00.2 ⟨zy304,fun _ h=>by cases h⟩⟩⟩⟩⟩⟩⟩⟩⟩⟩) (ze (l:=zI) (w00.2 ⟨zy14,w00.2 ⟨zy25,w00.2 ⟨zy37,w00.2 ⟨zy48,w00.2 ⟨zy59,w00.2 ⟨zy70,w00.2 ⟨zy81,w00.2 ⟨zy92,w00.2 ⟨zy103,w00.2 ⟨zy114,w00.2 ⟨zy125,w00.2 ⟨zy135,w00.2 ⟨zy145,w00.2 ⟨zy155,w00.2 ⟨zy165,fun _ h=>by cases h⟩⟩⟩⟩⟩⟩⟩⟩⟩⟩⟩⟩⟩⟩⟩) (vh _))))))))
theorem zy2035:MemoFact Tryz.prog z6 [(G zw925)] (.tup zw2021):=z4 g2 (by kernel_rfl) tabOk mok2 10001 zf2034 (by kernel_rfl)
theorem zy2048:MemoFact Tryz.prog z6 [(G zw941)] (.tup zw2036):=z4 g2 (by kernel_rfl) tabOk mok2 10001 zf2047 (by kernel_rfl)
theorem zy2061:MemoFact Tryz.prog z6 [(G zw954)] (.tup zw2049):=z4 g2 (by kernel_rfl) tabOk mok2 10001 zf2060 (by kernel_rfl)
theorem zy2074:MemoFact Tryz.prog z6 [(G zw967)] (.tup zw2062):=z4 g2 (by kernel_rfl) tabOk mok2 10001 zf2073 (by kernel_rfl)
theorem zy2087:MemoFact Tryz.prog z6 [(G zw980)] (.tup zw2075):=z4 g2 (by kernel_rfl) tabOk mok2 10001 zf2086 (by kernel_rfl)
theorem zy2100:MemoFact Tryz.prog z6 [(G zw993)] (.tup zw2088):=z4 g2 (by kernel_rfl) tabOk mok2 10001 zf2099 (by kernel_rfl)
theorem zy2113:MemoFact Tryz.prog z6 [(G zw1006)] (.tup zw2101):=z4 g2 (by kernel_rfl) tabOk mok2 10001 zf2112 (by kernel_rfl)
theorem zy2126:MemoFact Tryz.prog z6 [(G zw1019)] (.tup zw2114):=z4 g2 (by kernel_rfl) tabOk mok2 10001 zf2125 (by kernel_rfl)
theorem zy2140:MemoFact Tryz.prog z6 [(G zw1044)] (.tup zw2127):=z4 g2 (by kernel_rfl) tabOk mok2 10001 zf2139 (by kernel_rfl)
theorem zy2157:MemoFact Tryz.prog z6 [(G zw1463)] zv2142:=z4 g2 (by kernel_rfl) tabOk mok2 10001 zf2156 (by kernel_rfl)
theorem zy2172:MemoFact Tryz.prog z6 [(G zw1475)] zv2159:=z4 g2 (by kernel_rfl) tabOk mok2 10001 zf2171 (by kernel_rfl)
theorem zy2187:MemoFact Tryz.prog z6 [(G zw1487)] zv2174:=z4 g2 (by kernel_rfl) tabOk mok2 10001 zf2186 (by kernel_rfl)
theorem zy2202:MemoFact Tryz.prog z6 [(G zw1499)] zv2189:=z4 g2 (by kernel_rfl) tabOk mok2 10001 zf2201 (by kernel_rfl)
theorem zy2218:MemoFact Tryz.prog z6 [(G zw1512)] zv2204:=z4 g2 (by kernel_rfl) tabOk mok2 10001 zf2217 (by kernel_rfl)
theorem zy2233:MemoFact Tryz.prog z6 [(G zw1525)] zv2220:=z4 g2 (by kernel_rfl) tabOk mok2 10001 zf2232 (by kernel_rfl)
theorem zy2248:MemoFact Tryz.prog z6 [(G zw1537)] zv2235:=z4 g2 (by kernel_rfl) tabOk mok2 10001 zf2247 (by kernel_rfl)
theorem zy2263:MemoFact Tryz.prog z6 [(G zw1549)] zv2250:=z4 g2 (by kernel_rfl) tabOk mok2 10001 zf2262 (by kernel_rfl)
theorem zy2278:MemoFact Tryz.prog z6 [(G zw1562)] zv2265:=z4 g2 (by kernel_rfl) tabOk mok2 10001 zf2277 (by kernel_rfl)
theorem zy2293:MemoFact Tryz.prog z6 [(G zw1576)] zv2280:=z4 g2 (by kernel_rfl) tabOk mok2 10001 zf2292 (by kernel_rfl)
theorem zy2308:MemoFact Tryz.prog z6 [(G zw1588)] zv2295:=z4 g2 (by kernel_rfl) tabOk mok2 10001 zf2307 (by kernel_rfl)
theorem zy2323:MemoFact Tryz.prog z6 [(G zw1602)] zv2310:=z4 g2 (by kernel_rfl) tabOk mok2 10001 zf2322 (by kernel_rfl)
theorem zy2338:MemoFact Tryz.prog z6 [(G zw1616)] zv2325:=z4 g2 (by kernel_rfl) tabOk mok2 10001 zf2337 (by kernel_rfl)
theorem zy2353:MemoFact Tryz.prog z6 [(G zw1628)] zv2340:=z4 g2 (by kernel_rfl) tabOk mok2 10001 zf2352 (by kernel_rfl)
theorem zy2366:MemoFact Tryz.prog z6 [(G zw1641)] (.tup zw2354):=z4 g2 (by kernel_rfl) tabOk mok2 10001 zf2365 (by kernel_rfl)
theorem zy2381:MemoFact Tryz.prog z6 [(G zw1653)] zv2368:=z4 g2 (by kernel_rfl) tabOk mok2 10001 zf2380 (by kernel_rfl)
theorem zy2396:MemoFact Tryz.prog z6 [(G zw1666)] zv2383:=z4 g2 (by kernel_rfl) tabOk mok2 10001 zf2395 (by kernel_rfl)
theorem zy2411:MemoFact Tryz.prog z6 [(G zw1679)] zv2398:=z4 g2 (by kernel_rfl) tabOk mok2 10001 zf2410 (by kernel_rfl)
theorem zy2426:MemoFact Tryz.prog z6 [(G zw1691)] zv2413:=z4 g2 (by kernel_rfl) tabOk mok2 10001 zf2425 (by kernel_rfl)
theorem zy2441:MemoFact Tryz.prog z6 [(G zw1704)] zv2428:=z4 g2 (by kernel_rfl) tabOk mok2 10001 zf2440 (by kernel_rfl)
theorem zy2456:MemoFact Tryz.prog z6 [(G zw1717)] zv2443:=z4 g2 (by kernel_rfl) tabOk mok2 10001 zf2455 (by kernel_rfl)
theorem zy2471:MemoFact Tryz.prog z6 [(G zw1729)] zv2458:=z4 g2 (by kernel_rfl) tabOk mok2 10001 zf2470 (by kernel_rfl)
theorem zy2486:MemoFact Tryz.prog z6 [(G zw1741)] zv2473:=z4 g2 (by kernel_rfl) tabOk mok2 10001 zf2485 (by kernel_rfl)
theorem zy2501:MemoFact Tryz.prog z6 [(G zw1753)] zv2488:=z4 g2 (by kernel_rfl) tabOk mok2 10001 zf2500 (by kernel_rfl)
theorem zy2516:MemoFact Tryz.prog z6 [(G zw1766)] zv2503:=z4 g2 (by kernel_rfl) tabOk mok2 10001 zf2515 (by kernel_rfl)
theorem zy2532:MemoFact Tryz.prog z6 [(G zw1779)] zv2518:=z4 g2 (by kernel_rfl) tabOk mok2 10001 zf2531 (by kernel_rfl)
theorem zy2545:MemoFact Tryz.prog z6 [(G zw1791)] (.tup zw2533):=z4 g2 (by kernel_rfl) tabOk mok2 10001 zf2544 (by kernel_rfl)
theorem zy2558:MemoFact Tryz.prog z6 [(G zw1803)] (.tup zw2546):=z4 g2 (by kernel_rfl) tabOk mok2 10001 zf2557 (by kernel_rfl)
theorem zy2571:MemoFact Tryz.prog z6 [(G zw1815)] (.tup zw2559):=z4 g2 (by kernel_rfl) tabOk mok2 10001 zf2570 (by kernel_rfl)
theorem zy2586:MemoFact Tryz.prog z6 [(G zw1827)] zv2573:=z4 g2 (by kernel_rfl) tabOk mok2 10001 zf2585 (by kernel_rfl)
theorem zy2599:MemoFact Tryz.prog z6 [(G zw1839)] (.tup zw2587):=z4 g2 (by kernel_rfl) tabOk mok2 10001 zf2598 (by kernel_rfl)
theorem zy2614:MemoFact Tryz.prog z6 [(G zw1851)] zv2601:=z4 g2 (by kernel_rfl) tabOk mok2 10001 zf2613 (by kernel_rfl)
theorem zy2628:MemoFact Tryz.prog z6 [(G zw1863)] (.tup zw2615):=z4 g2 (by kernel_rfl) tabOk mok2 10001 zf2627 (by kernel_rfl)
theorem zy2641:MemoFact Tryz.prog z6 [(G zw1875)] (.tup zw2629):=z4 g2 (by kernel_rfl) tabOk mok2 10001 zf2640 (by kernel_rfl)
theorem zy2657:MemoFact Tryz.prog z6 [(G zw1926)] zv2643:=z4 g2 (by kernel_rfl) tabOk mok2 10001 zf2656 (by kernel_rfl)
theorem zy2670:MemoFact Tryz.prog z6 [(G zw1938)] (.tup zw2658):=z4 g2 (by kernel_rfl) tabOk mok2 10001 zf2669 (by kernel_rfl)
theorem zy2686:MemoFact Tryz.prog z6 [(G zw1950)] zv2672:=z4 g2 (by kernel_rfl) tabOk mok2 10001 zf2685 (by kernel_rfl)
theorem zy2702:MemoFact Tryz.prog zg [(N 4 zw176),(i 0)] zv2687:=z4 g2 (by kernel_rfl) tabOk mok2 10001 zf2701 (by kernel_rfl)
theorem zy2712:MemoFact Tryz.prog zg [(N 4 zw176),(i 1)] zv2703:=z4 g2 (by kernel_rfl) tabOk mok2 10001 zf2711 (by kernel_rfl)
theorem zy2722:MemoFact Tryz.prog zg [(N 4 zw176),(i 2)] zv2713:=z4 g2 (by kernel_rfl) tabOk mok2 10001 zf2721 (by kernel_rfl)
theorem zy2731:MemoFact Tryz.prog zg [(N 4 zw176),(i 3)] zv2687:=z4 g2 (by kernel_rfl) tabOk mok2 10001 zf2730 (by kernel_rfl)
theorem zy2740:MemoFact Tryz.prog zg [(N 4 zw176),(i 4)] zv2713:=z4 g2 (by kernel_rfl) tabOk mok2 10001 zf2739 (by kernel_rfl)
theorem zy2750:MemoFact Tryz.prog zg [(N 4 zw176),(i 5)] zv2741:=z4 g2 (by kernel_rfl) tabOk mok2 10001 zf2749 (by kernel_rfl)
theorem zy2759:MemoFact Tryz.prog zg [(N 4 zw176),(i 6)] zv2741:=z4 g2 (by kernel_rfl) tabOk mok2 10001 zf2758 (by kernel_rfl)
theorem zy2768:MemoFact Tryz.prog zg [(N 4 zw176),(i 7)] zv2687:=z4 g2 (by kernel_rfl) tabOk mok2 10001 zf2767 (by kernel_rfl)
theorem zy2779:MemoFact Tryz.prog zg zw282 zv2687:=z4 g2 (by kernel_rfl) tabOk mok2 10001 zf2778 (by kernel_rfl)
theorem zy2787:MemoFact Tryz.prog zg zw295 zv2687:=z4 g2 (by kernel_rfl) tabOk mok2 10001 zf2786 (by kernel_rfl)
theorem mok3:MemoOk Tryz.prog g3.memo:=ze (l:=xn) (w00.2 ⟨zy2702,w00.2 ⟨zy2712,w00.2 ⟨zy2722,w00.2 ⟨zy2731,w00.2 ⟨zy2740,w00.2 ⟨zy2750,w00.2 ⟨zy2759,w00.2 ⟨zy2768,w00.2 ⟨zy2779,w00.2 ⟨zy2787,fun _ h=>by cases h⟩⟩⟩⟩⟩⟩⟩⟩⟩⟩) (ze (l:=xG) (w00.2 ⟨zy2035,w00.2 ⟨zy2048,w00.2 ⟨zy2061,w00.2 ⟨zy2074,w00.2 ⟨zy2087,w00.2 ⟨zy2100,w00.2 ⟨zy2113,w00.2 ⟨zy2126,w00.2 ⟨zy2140,w00.2 ⟨zy2157,w00.2 ⟨zy2172,w00.2 ⟨zy2187,w00.2 ⟨zy2202,w00.2 ⟨zy2218,w00.2 ⟨zy2233,w00.2 ⟨zy2248,w00.2 ⟨zy2263,w00.2 ⟨zy2278,w00.2 ⟨zy2293,w00.2 ⟨zy2308,w00.2 ⟨zy2323,w00.2 ⟨zy2338,w00.2 ⟨zy2353,w00.2 ⟨zy2366,w00.2 ⟨zy2381,w00.2 ⟨zy2396,w00.2 ⟨zy2411,w00.2 ⟨zy2426,w00.2 ⟨zy2441,w00.2 ⟨zy2456,w00.2 ⟨zy2471,w00.2 ⟨zy2486,w00.2 ⟨zy2501,w00.2 ⟨zy2516,w00.2 ⟨zy2532,w00.2 ⟨zy2545,w00.2 ⟨zy2558,w00.2 ⟨zy2571,w00.2 ⟨zy2586,w00.2 ⟨zy2599,w00.2 ⟨zy2614,w00.2 ⟨zy2628,w00.2 ⟨zy2641,w00.2 ⟨zy2657,w00.2 ⟨zy2670,w00.2 ⟨zy2686,fun _ h=>by cases h⟩⟩⟩⟩⟩⟩⟩⟩⟩⟩⟩⟩⟩⟩⟩⟩⟩⟩⟩⟩⟩⟩⟩⟩⟩⟩⟩⟩⟩⟩⟩⟩⟩⟩⟩⟩⟩⟩⟩⟩⟩⟩⟩⟩⟩⟩) (ze (l:=y2) (w00.2 ⟨zy1984,w00.2 ⟨zy1993,w00.2 ⟨zy2002,w00.2 ⟨zy2011,w00.2 ⟨zy2020,fun _ h=>by cases h⟩⟩⟩⟩⟩) (ze (l:=yG) (w00.2 ⟨zy940,w00.2 ⟨zy953,w00.2 ⟨zy966,w00.2 ⟨zy979,w00.2 ⟨zy992,w00.2 ⟨zy1005,w00.2 ⟨zy1018,w00.2 ⟨zy1031,w00.2 ⟨zy1043,w00.2 ⟨zy1056,w00.2 ⟨zy1068,w00.2 ⟨zy1080,w00.2 ⟨zy1093,w00.2 ⟨zy1106,w00.2 ⟨zy1120,w00.2 ⟨zy1133,w00.2 ⟨zy1147,w00.2 ⟨zy1160,w00.2 ⟨zy1174,w00.2 ⟨zy1188,w00.2 ⟨zy1200,w00.2 ⟨zy1213,w00.2 ⟨zy1225,w00.2 ⟨zy1238,w00.2 ⟨zy1251,w00.2 ⟨zy1264,w00.2 ⟨zy1276,w00.2 ⟨zy1289,w00.2 ⟨zy1302,w00.2 ⟨zy1315,w00.2 ⟨zy1327,w00.2 ⟨zy1340,w00.2 ⟨zy1353,w00.2 ⟨zy1365,w00.2 ⟨zy1377,w00.2 ⟨zy1389,w00.2 ⟨zy1401,w00.2 ⟨zy1413,w00.2 ⟨zy1425,w00.2 ⟨zy1437,w00.2 ⟨zy1449,w00.2 ⟨zy1462,w00.2 ⟨zy1474,w00.2 ⟨zy1486,w00.2 ⟨zy1498,w00.2 ⟨zy1511,w00.2 ⟨zy1524,w00.2 ⟨zy1536,w00.2 ⟨zy1548,w00.2 ⟨zy1561,w00.2 ⟨zy1575,w00.2 ⟨zy1587,w00.2 ⟨zy1601,w00.2 ⟨zy1615,w00.2 ⟨zy1627,w00.2 ⟨zy1640,w00.2 ⟨zy1652,w00.2 ⟨zy1665,w00.2 ⟨zy1678,w00.2 ⟨zy1690,w00.2 ⟨zy1703,w00.2 ⟨zy1716,w00.2 ⟨zy1728,w00.2 ⟨zy1740,w00.2 ⟨zy1752,w00.2 ⟨zy1765,w00.2 ⟨zy1778,w00.2 ⟨zy1790,w00.2 ⟨zy1802,w00.2 ⟨zy1814,w00.2 ⟨zy1826,w00.2 ⟨zy1838,w00.2 ⟨zy1850,w00.2 ⟨zy1862,w00.2 ⟨zy1874,w00.2 ⟨zy1887,w00.2 ⟨zy1900,w00.2 ⟨zy1913,w00.2 ⟨zy1925,w00.2 ⟨zy1937,w00.2 ⟨zy1949,w00.2 ⟨zy1962,w00.2 ⟨zy1974,fun _ h=>by cases h⟩⟩⟩⟩⟩⟩⟩⟩⟩⟩⟩⟩⟩⟩⟩⟩⟩⟩⟩⟩⟩⟩⟩⟩⟩⟩⟩⟩⟩⟩⟩⟩⟩⟩⟩⟩⟩⟩⟩⟩⟩⟩⟩⟩⟩⟩⟩⟩⟩⟩⟩⟩⟩⟩⟩⟩⟩⟩⟩⟩⟩⟩⟩⟩⟩⟩⟩⟩⟩⟩⟩⟩⟩⟩⟩⟩⟩⟩⟩⟩⟩⟩⟩) (ze (l:=yb) (w00.2 ⟨zy892,w00.2 ⟨zy905,w00.2 ⟨zy914,w00.2 ⟨zy924,fun _ h=>by cases h⟩⟩⟩⟩) (ze (l:=zJ) (w00.2 ⟨zy831,w00.2 ⟨zy844,w00.2 ⟨zy854,w00.2 ⟨zy864,w00.2 ⟨zy875,fun _ h=>by cases h⟩⟩⟩⟩⟩) (ze (l:=zH) (w00.2 ⟨zy760,w00.2 ⟨zy770,w00.2 ⟨zy780,w00.2 ⟨zy795,w00.2 ⟨zy808,fun _ h=>by cases h⟩⟩⟩⟩⟩) (ze (l:=y3) (w00.2 ⟨zy323,w00.2 ⟨zy341,w00.2 ⟨zy360,w00.2 ⟨zy375,w00.2 ⟨zy391,w00.2 ⟨zy406,w00.2 ⟨zy421,w00.2 ⟨zy430,w00.2 ⟨zy440,w00.2 ⟨zy450,w00.2 ⟨zy460,w00.2 ⟨zy477,w00.2 ⟨zy494,w00.2 ⟨zy503,w00.2 ⟨zy513,w00.2 ⟨zy528,w00.2 ⟨zy538,w00.2 ⟨zy548,w00.2 ⟨zy564,w00.2 ⟨zy574,w00.2 ⟨zy590,w00.2 ⟨zy606,w00.2 ⟨zy621,w00.2 ⟨zy636,w00.2 ⟨zy646,w00.2 ⟨zy656,w00.2 ⟨zy671,w00.2 ⟨zy680,w00.2 ⟨zy690,w00.2 ⟨zy704,w00.2 ⟨zy713,w00.2 ⟨zy728,w00.2 ⟨zy737,w00.2 ⟨zy746,fun _ h=>by cases h⟩⟩⟩⟩⟩⟩⟩⟩⟩⟩⟩⟩⟩⟩⟩⟩⟩⟩⟩⟩⟩⟩⟩⟩⟩⟩⟩⟩⟩⟩⟩⟩⟩⟩) (ze (l:=zO) (w00.2 ⟨zy193,w00.2 ⟨zy204,w00.2 ⟨zy215,w00.2 ⟨zy227,w00.2 ⟨zy246,w00.2 ⟨zy259,w00.2 ⟨zy271,w00.2 ⟨zy280,w00.2 ⟨zy294,w00.2 ⟨zy304,fun _ h=>by cases h⟩⟩⟩⟩⟩⟩⟩⟩⟩⟩) (ze (l:=zI) (w00.2 ⟨zy14,w00.2 ⟨zy25,w00.2 ⟨zy37,w00.2 ⟨zy48,w00.2 ⟨zy59,w00.2 ⟨zy70,w00.2 ⟨zy81,w00.2 ⟨zy92,w00.2 ⟨zy103,w00.2 ⟨zy114,w00.2 ⟨zy125,w00.2 ⟨zy135,w00.2 ⟨zy145,w00.2 ⟨zy155,w00.2 ⟨zy165,fun _ h=>by cases h⟩⟩⟩⟩⟩⟩⟩⟩⟩⟩⟩⟩⟩⟩⟩) (vh _))))))))))
theorem zy2804:MemoFact Tryz.prog zQ zw2789 T:=z4 g3 (by kernel_rfl) tabOk mok3 10001 zf2803 (by kernel_rfl)
theorem zy2819:MemoFact Tryz.prog zQ zw2806 T:=z4 g3 (by kernel_rfl) tabOk mok3 10001 zf2818 (by kernel_rfl)
theorem mok4:MemoOk Tryz.prog g4.memo:=ze (l:=vC) (w00.2 ⟨zy2804,w00.2 ⟨zy2819,fun _ h=>by cases h⟩⟩) (ze (l:=xn) (w00.2 ⟨zy2702,w00.2 ⟨zy2712,w00.2 ⟨zy2722,w00.2 ⟨zy2731,w00.2 ⟨zy2740,w00.2 ⟨zy2750,w00.2 ⟨zy2759,w00.2 ⟨zy2768,w00.2 ⟨zy2779,w00.2 ⟨zy2787,fun _ h=>by cases h⟩⟩⟩⟩⟩⟩⟩⟩⟩⟩) (ze (l:=xG) (w00.2 ⟨zy2035,w00.2 ⟨zy2048,w00.2 ⟨zy2061,w00.2 ⟨zy2074,w00.2 ⟨zy2087,w00.2 ⟨zy2100,w00.2 ⟨zy2113,w00.2 ⟨zy2126,w00.2 ⟨zy2140,w00.2 ⟨zy2157,w00.2 ⟨zy2172,w00.2 ⟨zy2187,w00.2 ⟨zy2202,w00.2 ⟨zy2218,w00.2 ⟨zy2233,w00.2 ⟨zy2248,w00.2 ⟨zy2263,w00.2 ⟨zy2278,w00.2 ⟨zy2293,w00.2 ⟨zy2308,w00.2 ⟨zy2323,w00.2 ⟨zy2338,w00.2 ⟨zy2353,w00.2 ⟨zy2366,w00.2 ⟨zy2381,w00.2 ⟨zy2396,w00.2 ⟨zy2411,w00.2 ⟨zy2426,w00.2 ⟨zy2441,w00.2 ⟨zy2456,w00.2 ⟨zy2471,w00.2 ⟨zy2486,w00.2 ⟨zy2501,w00.2 ⟨zy2516,w00.2 ⟨zy2532,w00.2 ⟨zy2545,w00.2 ⟨zy2558,w00.2 ⟨zy2571,w00.2 ⟨zy2586,w00.2 ⟨zy2599,w00.2 ⟨zy2614,w00.2 ⟨zy2628,w00.2 ⟨zy2641,w00.2 ⟨zy2657,w00.2 ⟨zy2670,w00.2 ⟨zy2686,fun _ h=>by cases h⟩⟩⟩⟩⟩⟩⟩⟩⟩⟩⟩⟩⟩⟩⟩⟩⟩⟩⟩⟩⟩⟩⟩⟩⟩⟩⟩⟩⟩⟩⟩⟩⟩⟩⟩⟩⟩⟩⟩⟩⟩⟩⟩⟩⟩⟩) (ze (l:=y2) (w00.2 ⟨zy1984,w00.2 ⟨zy1993,w00.2 ⟨zy2002,w00.2 ⟨zy2011,w00.2 ⟨zy2020,fun _ h=>by cases h⟩⟩⟩⟩⟩) (ze (l:=yG) (w00.2 ⟨zy940,w00.2 ⟨zy953,w00.2 ⟨zy966,w00.2 ⟨zy979,w00.2 ⟨zy992,w00.2 ⟨zy1005,w00.2 ⟨zy1018,w00.2 ⟨zy1031,w00.2 ⟨zy1043,w00.2 ⟨zy1056,w00.2 ⟨zy1068,w00.2 ⟨zy1080,w00.2 ⟨zy1093,w00.2 ⟨zy1106,w00.2 ⟨zy1120,w00.2 ⟨zy1133,w00.2 ⟨zy1147,w00.2 ⟨zy1160,w00.2 ⟨zy1174,w00.2 ⟨zy1188,w00.2 ⟨zy1200,w00.2 ⟨zy1213,w00.2 ⟨zy1225,w00.2 ⟨zy1238,w00.2 ⟨zy1251,w00.2 ⟨zy1264,w00.2 ⟨zy1276,w00.2 ⟨zy1289,w00.2 ⟨zy1302,w00.2 ⟨zy1315,w00.2 ⟨zy1327,w00.2 ⟨zy1340,w00.2 ⟨zy1353,w00.2 ⟨zy1365,w00.2 ⟨zy1377,w00.2 ⟨zy1389,w00.2 ⟨zy1401,w00.2 ⟨zy1413,w00.2 ⟨zy1425,w00.2 ⟨zy1437,w00.2 ⟨zy1449,w00.2 ⟨zy1462,w00.2 ⟨zy1474,w00.2 ⟨zy1486,w00.2 ⟨zy1498,w00.2 ⟨zy1511,w00.2 ⟨zy1524,w00.2 ⟨zy1536,w00.2 ⟨zy1548,w00.2 ⟨zy1561,w00.2 ⟨zy1575,w00.2 ⟨zy1587,w00.2 ⟨zy1601,w00.2 ⟨zy1615,w00.2 ⟨zy1627,w00.2 ⟨zy1640,w00.2 ⟨zy1652,w00.2 ⟨zy1665,w00.2 ⟨zy1678,w00.2 ⟨zy1690,w00.2 ⟨zy1703,w00.2 ⟨zy1716,w00.2 ⟨zy1728,w00.2 ⟨zy1740,w00.2 ⟨zy1752,w00.2 ⟨zy1765,w00.2 ⟨zy1778,w00.2 ⟨zy1790,w00.2 ⟨zy1802,w00.2 ⟨zy1814,w00.2 ⟨zy1826,w00.2 ⟨zy1838,w00.2 ⟨zy1850,w00.2 ⟨zy1862,w00.2 ⟨zy1874,w00.2 ⟨zy1887,w00.2 ⟨zy1900,w00.2 ⟨zy1913,w00.2 ⟨zy1925,w00.2 ⟨zy1937,w00.2 ⟨zy1949,w00.2 ⟨zy1962,w00.2 ⟨zy1974,fun _ h=>by cases h⟩⟩⟩⟩⟩⟩⟩⟩⟩⟩⟩⟩⟩⟩⟩⟩⟩⟩⟩⟩⟩⟩⟩⟩⟩⟩⟩⟩⟩⟩⟩⟩⟩⟩⟩⟩⟩⟩⟩⟩⟩⟩⟩⟩⟩⟩⟩⟩⟩⟩⟩⟩⟩⟩⟩⟩⟩⟩⟩⟩⟩⟩⟩⟩⟩⟩⟩⟩⟩⟩⟩⟩⟩⟩⟩⟩⟩⟩⟩⟩⟩⟩⟩) (ze (l:=yb) (w00.2 ⟨zy892,w00.2 ⟨zy905,w00.2 ⟨zy914,w00.2 ⟨zy924,fun _ h=>by cases h⟩⟩⟩⟩) (ze (l:=zJ) (w00.2 ⟨zy831,w00.2 ⟨zy844,w00.2 ⟨zy854,w00.2 ⟨zy864,w00.2 ⟨zy875,fun _ h=>by cases h⟩⟩⟩⟩⟩) (ze (l:=zH) (w00.2 ⟨zy760,w00.2 ⟨zy770,w00.2 ⟨zy780,w00.2 ⟨zy795,w00.2 ⟨zy808,fun _ h=>by cases h⟩⟩⟩⟩⟩) (ze (l:=y3) (w00.2 ⟨zy323,w00.2 ⟨zy341,w00.2 ⟨zy360,w00.2 ⟨zy375,w00.2 ⟨zy391,w00.2 ⟨zy406,w00.2 ⟨zy421,w00.2 ⟨zy430,w00.2 ⟨zy440,w00.2 ⟨zy450,w00.2 ⟨zy460,w00.2 ⟨zy477,w00.2 ⟨zy494,w00.2 ⟨zy503,w00.2 ⟨zy513,w00.2 ⟨zy528,w00.2 ⟨zy538,w00.2 ⟨zy548,w00.2 ⟨zy564,w00.2 ⟨zy574,w00.2 ⟨zy590,w00.2 ⟨zy606,w00.2 ⟨zy621,w00.2 ⟨zy636,w00.2 ⟨zy646,w00.2 ⟨zy656,w00.2 ⟨zy671,w00.2 ⟨zy680,w00.2 ⟨zy690,w00.2 ⟨zy704,w00.2 ⟨zy713,w00.2 ⟨zy728,w00.2 ⟨zy737,w00.2 ⟨zy746,fun _ h=>by cases h⟩⟩⟩⟩⟩⟩⟩⟩⟩⟩⟩⟩⟩⟩⟩⟩⟩⟩⟩⟩⟩⟩⟩⟩⟩⟩⟩⟩⟩⟩⟩⟩⟩⟩) (ze (l:=zO) (w00.2 ⟨zy193,w00.2 ⟨zy204,w00.2 ⟨zy215,w00.2 ⟨zy227,w00.2 ⟨zy246,w00.2 ⟨zy259,w00.2 ⟨zy271,w00.2 ⟨zy280,w00.2 ⟨zy294,w00.2 ⟨zy304,fun _ h=>by cases h⟩⟩⟩⟩⟩⟩⟩⟩⟩⟩) (ze (l:=zI) (w00.2 ⟨zy14,w00.2 ⟨zy25,w00.2 ⟨zy37,w00.2 ⟨zy48,w00.2 ⟨zy59,w00.2 ⟨zy70,w00.2 ⟨zy81,w00.2 ⟨zy92,w00.2 ⟨zy103,w00.2 ⟨zy114,w00.2 ⟨zy125,w00.2 ⟨zy135,w00.2 ⟨zy145,w00.2 ⟨zy155,w00.2 ⟨zy165,fun _ h=>by cases h⟩⟩⟩⟩⟩⟩⟩⟩⟩⟩⟩⟩⟩⟩⟩) (vh _)))))))))))
theorem vj:Known Tryz.prog zV true:=VL g4 (by kernel_rfl) tabOk mok4 10001 top
end Go.Proofs.W
end
