/-
  Part 9 of the proof, shared by claims of this seat: A2Pc, A2Tie, A2AG, A2Pd.
-/
import Derived.Test.YtmchgfpbddhfnaaGreatA5
import Derived.Test.YtmchgfpbddhfnaaGreatA6
import Derived.Test.YtmchgfpbddhfnaaGreatA7
import Derived.KernelRfl
import Derived.Test.YtmchgfpbddhfnaaGreatA3
import Derived.Test.YtmchgfpbddhfnaaGreatProg
import Derived.Test.YtmchgfpbddhfnaaGreatA4
set_option maxHeartbeats 64000000
set_option linter.unusedVariables false
set_option linter.unusedSimpArgs false
open List renaming forall_mem_cons → w26
section
namespace Go.Proofs.W
open Go.Vs Go.Vs.Sn
set_option maxRecDepth 1000000
theorem zl279:zr269.length=19:=by kernel_rfl
theorem zp280:E g0 10000 19 zc271 zr269 zm270=some (outOf 1,⟨zr275,zm277⟩):=y4 (Nat.le_of_ble_eq_true rfl) zl279 zk278
theorem zf282:C g0 10001 yo [] Mem.zero=some ((G zw267),zm281):=tf (fn:=Y0) (n:=10000) 1 (Nat.le_of_ble_eq_true rfl) (by kernel_rfl) (by kernel_rfl) (by kernel_rfl) (by kernel_rfl) (by kernel_rfl) zp280 (by kernel_rfl)
theorem zl290:zr285.length=13:=by kernel_rfl
theorem zp291:E g0 10000 13 zc286 zr285 zm270=some (outOf 1,⟨zr288,zm277⟩):=y4 (Nat.le_of_ble_eq_true rfl) zl290 zk289
theorem zf292:C g0 10001 zh [] Mem.zero=some ((G zw267),zm281):=tf (fn:=yG) (n:=10000) 1 (Nat.le_of_ble_eq_true rfl) (by kernel_rfl) (by kernel_rfl) (by kernel_rfl) (by kernel_rfl) (by kernel_rfl) zp291 (by kernel_rfl)
theorem zl308:zr300.length=13:=by kernel_rfl
theorem zp309:E g1 10000 13 zc301 zr300 zm270=some (outOf 1,⟨zr304,zm306⟩):=y4 (Nat.le_of_ble_eq_true rfl) zl308 zk307
theorem zf311:C g1 10001 xp [(G zw298)] Mem.zero=some ((i 0),zm310):=tf (fn:=tM) (n:=10000) 1 (Nat.le_of_ble_eq_true rfl) (by kernel_rfl) (by kernel_rfl) (by kernel_rfl) (by kernel_rfl) (by kernel_rfl) zp309 (by kernel_rfl)
theorem zl326:zr317.length=53:=by kernel_rfl
theorem zp327:E g1 10000 53 zc318 zr317 zm270=some (outOf 1,⟨zr322,zm324⟩):=y4 (Nat.le_of_ble_eq_true rfl) zl326 zk325
theorem zf330:C g1 10001 yf [(G zw298)] Mem.zero=some ((.tup zw328),zm329):=tf (fn:=uP) (n:=10000) 1 (Nat.le_of_ble_eq_true rfl) (by kernel_rfl) (by kernel_rfl) (by kernel_rfl) (by kernel_rfl) (by kernel_rfl) zp327 (by kernel_rfl)
theorem zl353:zr333.length=47:=by kernel_rfl
theorem zp354:E g2 10000 47 (spT 4 zc334) zr333 zm270=some (outOf 0,⟨zr350,zm351⟩):=y4 (Nat.le_of_ble_eq_true rfl) zl353 zk352
theorem zl367:zr350.length=47:=by kernel_rfl
theorem zp368:E g2 10000 47 zc355 zr350 zm351=some (outOf 1,⟨zr363,zm365⟩):=y4 (Nat.le_of_ble_eq_true rfl) zl367 zk366
theorem zp369:E g2 10000 47 zc334 zr333 zm270=some (outOf 1,⟨zr363,zm365⟩):=XC 4 _ zp354 zp368
theorem zf371:C g2 10001 zZ [] Mem.zero=some (T,zm370):=tf (fn:=yH) (n:=10000) 1 (Nat.le_of_ble_eq_true rfl) (by kernel_rfl) (by kernel_rfl) (by kernel_rfl) (by kernel_rfl) (by kernel_rfl) zp369 (by kernel_rfl)
theorem zl388:zr373.length=270:=by kernel_rfl
theorem zp389:E g3 10000 270 (spT 5 zc374) zr373 zm270=some (outOf 0,⟨zr383,zm386⟩):=y4 (Nat.le_of_ble_eq_true rfl) zl388 zk387
theorem zl401:zr383.length=270:=by kernel_rfl
theorem zp402:E g3 10000 270 (spT 4 zc390) zr383 zm386=some (outOf 0,⟨zr397,zm399⟩):=y4 (Nat.le_of_ble_eq_true rfl) zl401 zk400
theorem zl414:zr397.length=270:=by kernel_rfl
theorem zp415:E g3 10000 270 zc404 zr397 zm399=some (outOf 0,⟨zr409,zm412⟩):=y4 (Nat.le_of_ble_eq_true rfl) zl414 zk413
theorem zl426:zr409.length=270:=by kernel_rfl
theorem zp427:E g3 10000 270 (spT 5 zc416) zr409 zm412=some (outOf 0,⟨zr422,zm424⟩):=y4 (Nat.le_of_ble_eq_true rfl) zl426 zk425
theorem zl446:zr422.length=270:=by kernel_rfl
theorem zp447:E g3 10000 270 (spT 4 zc428) zr422 zm424=some (outOf 0,⟨zr443,zm444⟩):=y4 (Nat.le_of_ble_eq_true rfl) zl446 zk445
theorem zl455:zr443.length=270:=by kernel_rfl
theorem zp456:E g3 10000 270 (spT 2 zc448) zr443 zm444=some (outOf 0,⟨zr452,zm453⟩):=y4 (Nat.le_of_ble_eq_true rfl) zl455 zk454
theorem zl462:zr452.length=270:=by kernel_rfl
theorem zp463:E g3 10000 270 (sT 2 zc458) zr452 zm453=some (outOf 0,⟨zr460,zm453⟩):=y4 (Nat.le_of_ble_eq_true rfl) zl462 zk461
theorem zl479:zr468.length=28:=by kernel_rfl
theorem zp480:E g3 9999 28 (spT 3 zc470) zr468 zm469=some (outOf 0,⟨zr475,zm477⟩):=y4 (Nat.le_of_ble_eq_true rfl) zl479 zk478
theorem zl491:zr475.length=28:=by kernel_rfl
theorem zp492:E g3 9999 28 zc481 zr475 zm477=some (outOf 1,⟨zr487,zm489⟩):=y4 (Nat.le_of_ble_eq_true rfl) zl491 zk490
theorem zp493:E g3 9999 28 zc470 zr468 zm469=some (outOf 1,⟨zr487,zm489⟩):=XC 3 _ zp480 zp492
theorem zf495:C g3 10000 zS zw466 zm453=some ((.tup [T,(i 0)]),zm494):=tf (fn:=vK) (n:=9999) 1 (Nat.le_of_ble_eq_true rfl) (by kernel_rfl) (by kernel_rfl) (by kernel_rfl) (by kernel_rfl) (by kernel_rfl) zp493 (by kernel_rfl)
theorem zp498:E g3 10000 270 zc465 zr460 zm453=some (outOf 0,⟨zr497,zm494⟩):=z84 (d:=149) (f:=zS) (fl:=false) (xs:=[.t 147,.t 148]) (av:=zw466) (r:=(.tup [T,(i 0)])) (by kernel_rfl) (by kernel_rfl) zf495 (by kernel_rfl)
theorem zl504:zr497.length=270:=by kernel_rfl
theorem zp505:E g3 10000 270 zc499 zr497 zm494=some (outOf 0,⟨zr502,zm494⟩):=y4 (Nat.le_of_ble_eq_true rfl) zl504 zk503
theorem zp506:E g3 10000 270 zc464 zr460 zm453=some (outOf 0,⟨zr502,zm494⟩):=Yk 1 zp498 zp505
theorem zp507:E g3 10000 270 zc458 zr452 zm453=some (outOf 0,⟨zr502,zm494⟩):=Yk 2 zp463 zp506
theorem zl520:zr502.length=270:=by kernel_rfl
theorem zp521:E g3 10000 270 (spT 1 zc508) zr502 zm494=some (outOf 0,⟨zr517,zm518⟩):=y4 (Nat.le_of_ble_eq_true rfl) zl520 zk519
theorem zl527:zr517.length=270:=by kernel_rfl
theorem zp528:E g3 10000 270 (sT 2 zc523) zr517 zm518=some (outOf 0,⟨zr525,zm518⟩):=y4 (Nat.le_of_ble_eq_true rfl) zl527 zk526
theorem zl543:zr533.length=28:=by kernel_rfl
theorem zp544:E g3 9999 28 (spT 3 zc470) zr533 zm534=some (outOf 0,⟨zr539,zm541⟩):=y4 (Nat.le_of_ble_eq_true rfl) zl543 zk542
theorem zl554:zr539.length=28:=by kernel_rfl
theorem zp555:E g3 9999 28 zc481 zr539 zm541=some (outOf 1,⟨zr550,zm552⟩):=y4 (Nat.le_of_ble_eq_true rfl) zl554 zk553
theorem zp556:E g3 9999 28 zc470 zr533 zm534=some (outOf 1,⟨zr550,zm552⟩):=XC 3 _ zp544 zp555
theorem zf558:C g3 10000 zS zw531 zm518=some ((.tup [F,(i 0)]),zm557):=tf (fn:=vK) (n:=9999) 1 (Nat.le_of_ble_eq_true rfl) (by kernel_rfl) (by kernel_rfl) (by kernel_rfl) (by kernel_rfl) (by kernel_rfl) zp556 (by kernel_rfl)
theorem zp561:E g3 10000 270 zc530 zr525 zm518=some (outOf 0,⟨zr560,zm557⟩):=z84 (d:=161) (f:=zS) (fl:=false) (xs:=[.t 159,.t 160]) (av:=zw531) (r:=(.tup [F,(i 0)])) (by kernel_rfl) (by kernel_rfl) zf558 (by kernel_rfl)
theorem zl567:zr560.length=270:=by kernel_rfl
theorem zp568:E g3 10000 270 zc562 zr560 zm557=some (outOf 0,⟨zr565,zm557⟩):=y4 (Nat.le_of_ble_eq_true rfl) zl567 zk566
theorem zp569:E g3 10000 270 zc529 zr525 zm518=some (outOf 0,⟨zr565,zm557⟩):=Yk 1 zp561 zp568
theorem zp570:E g3 10000 270 zc523 zr517 zm518=some (outOf 0,⟨zr565,zm557⟩):=Yk 2 zp528 zp569
theorem zl580:zr565.length=270:=by kernel_rfl
theorem zp581:E g3 10000 270 zc571 zr565 zm557=some (outOf 1,⟨zr578,zm557⟩):=y4 (Nat.le_of_ble_eq_true rfl) zl580 zk579
theorem zp582:E g3 10000 270 zc522 zr517 zm518=some (outOf 1,⟨zr578,zm557⟩):=z3D (by kernel_rfl) zp570 zp581
theorem zp583:E g3 10000 270 zc508 zr502 zm494=some (outOf 1,⟨zr578,zm557⟩):=XC 1 _ zp521 zp582
theorem zp584:E g3 10000 270 zc457 zr452 zm453=some (outOf 1,⟨zr578,zm557⟩):=z3D (by kernel_rfl) zp507 zp583
theorem zp585:E g3 10000 270 zc448 zr443 zm444=some (outOf 1,⟨zr578,zm557⟩):=XC 2 _ zp456 zp584
theorem zp586:E g3 10000 270 zc428 zr422 zm424=some (outOf 1,⟨zr578,zm557⟩):=XC 4 _ zp447 zp585
theorem zp587:E g3 10000 270 zc416 zr409 zm412=some (outOf 1,⟨zr578,zm557⟩):=XC 5 _ zp427 zp586
theorem zp588:E g3 10000 270 zc403 zr397 zm399=some (outOf 1,⟨zr578,zm557⟩):=z3D (by kernel_rfl) zp415 zp587
theorem zp589:E g3 10000 270 zc390 zr383 zm386=some (outOf 1,⟨zr578,zm557⟩):=XC 4 _ zp402 zp588
theorem zp590:E g3 10000 270 zc374 zr373 zm270=some (outOf 1,⟨zr578,zm557⟩):=XC 5 _ zp389 zp589
theorem zf592:C g3 10001 zX [] Mem.zero=some (T,zm591):=tf (fn:=zW) (n:=10000) 1 (Nat.le_of_ble_eq_true rfl) (by kernel_rfl) (by kernel_rfl) (by kernel_rfl) (by kernel_rfl) (by kernel_rfl) zp590 (by kernel_rfl)
theorem top:C g3 10001 zX [] Mem.zero=some (.bool true,zm591):=zf592
end Go.Proofs.W
end
section
namespace Go.Proofs.W
open Go.Vs Go.Vs.U
set_option maxRecDepth 100000
theorem tabp0Ok:TabOk Tryz.prog tabp0:=by
 intro f afn h
 unfold tabp0 at h
 split at h
 ·exact tab1 (n:=uw) Tryz.func4 (by kernel_rfl) h
 ·exact tab1 (n:=z3V) Tryz.func9 (by kernel_rfl) h
 ·exact tab1 (n:=z5v) Tryz.func10 (by kernel_rfl) h
 ·exact tab1 (n:=WQ) Tryz.func11 (by kernel_rfl) h
 ·exact tab1 (n:=qf) Tryz.func15 (by kernel_rfl) h
 ·exact tab1 (n:=z1K) Tryz.func16 (by kernel_rfl) h
 ·exact tab1 (n:=z1I) Tryz.func17 (by kernel_rfl) h
 ·exact tab1 (n:=VP) Tryz.func18 (by kernel_rfl) h
 ·exact tab1 (n:=T5) Tryz.func19 (by kernel_rfl) h
 ·exact tab1 (n:=z1J) Tryz.func20 (by kernel_rfl) h
 ·exact tab1 (n:=kc) Tryz.func21 (by kernel_rfl) h
 ·exact tab1 (n:=jU) Tryz.func24 (by kernel_rfl) h
 ·exact tab1 (n:=z3X) Tryz.func26 (by kernel_rfl) h
 ·exact tab1 (n:=TV) Tryz.func27 (by kernel_rfl) h
 ·exact tab1 (n:=t2) Tryz.func33 (by kernel_rfl) h
 ·exact tab1 (n:=z4c) Tryz.func37 (by kernel_rfl) h
 ·exact tab1 (n:=Qm) Tryz.func38 (by kernel_rfl) h
 ·exact tab1 (n:=Ql) Tryz.func39 (by kernel_rfl) h
 ·exact tab1 (n:=YC) Tryz.func40 (by kernel_rfl) h
 ·exact tab1 (n:=YD) Tryz.func41 (by kernel_rfl) h
 ·exact tab1 (n:=YA) Tryz.func42 (by kernel_rfl) h
 ·exact tab1 (n:=YB) Tryz.func43 (by kernel_rfl) h
 ·exact tab1 (n:=WP) Tryz.func44 (by kernel_rfl) h
 ·exact tab1 (n:=W3) Tryz.func45 (by kernel_rfl) h
 ·exact tab1 (n:=jT) Tryz.func46 (by kernel_rfl) h
 ·exact tab1 (n:=z4b) Tryz.func47 (by kernel_rfl) h
 ·exact tab1 (n:=z4e) Tryz.func48 (by kernel_rfl) h
 ·exact tab1 (n:=UP) Tryz.func49 (by kernel_rfl) h
 ·exact tab1 (n:=yM) Tryz.func50 (by kernel_rfl) h
 ·exact tab1 (n:=z1c) Tryz.func51 (by kernel_rfl) h
 ·exact tab1 (n:=z1b) Tryz.func52 (by kernel_rfl) h
 ·exact tab1 (n:=Zm) Tryz.func56 (by kernel_rfl) h
 ·exact tab1 (n:=W1) Tryz.func57 (by kernel_rfl) h
 ·exact tab1 (n:=UQ) Tryz.func58 (by kernel_rfl) h
 ·exact tab1 (n:=z1H) Tryz.func59 (by kernel_rfl) h
 ·exact tab1 (n:=Qd) Tryz.func60 (by kernel_rfl) h
 ·exact tab1 (n:=WY) Tryz.func61 (by kernel_rfl) h
 ·exact tab1 (n:=WT) Tryz.func62 (by kernel_rfl) h
 ·exact tab1 (n:=YE) Tryz.func63 (by kernel_rfl) h
 ·exact tab1 (n:=WX) Tryz.func64 (by kernel_rfl) h
 ·exact tab1 (n:=Wc) Tryz.func65 (by kernel_rfl) h
 ·exact tab1 (n:=WZ) Tryz.func66 (by kernel_rfl) h
 ·exact tab1 (n:=z5J) Tryz.func67 (by kernel_rfl) h
 ·exact tab1 (n:=z8l) Tryz.func68 (by kernel_rfl) h
 ·exact tab1 (n:=VG) Tryz.func69 (by kernel_rfl) h
 ·exact tab1 (n:=WS) Tryz.func70 (by kernel_rfl) h
 ·exact tab1 (n:=z11) Tryz.func72 (by kernel_rfl) h
 ·exact tab1 (n:=UW) Tryz.func73 (by kernel_rfl) h
 ·exact tab1 (n:=qK) Tryz.func82 (by kernel_rfl) h
 ·exact tab1 (n:=ut) Tryz.func83 (by kernel_rfl) h
 ·exact tab1 (n:=t4) Tryz.func84 (by kernel_rfl) h
 ·exact tab1 (n:=uv) Tryz.func85 (by kernel_rfl) h
 ·exact tab1 (n:=t3) Tryz.func86 (by kernel_rfl) h
 ·exact tab1 (n:=uu) Tryz.func87 (by kernel_rfl) h
 ·exact tab1 (n:=T0) Tryz.func89 (by kernel_rfl) h
 ·exact tab1 (n:=z1D) Tryz.func90 (by kernel_rfl) h
 ·exact tab1 (n:=z1B) Tryz.func91 (by kernel_rfl) h
 ·exact tab1 (n:=z44) Tryz.func92 (by kernel_rfl) h
 ·exact tab1 (n:=T3) Tryz.func93 (by kernel_rfl) h
 ·exact tab1 (n:=Qk) Tryz.func94 (by kernel_rfl) h
 ·exact tab1 (n:=z1E) Tryz.func95 (by kernel_rfl) h
 ·exact tab1 (n:=Qj) Tryz.func96 (by kernel_rfl) h
 ·exact tab1 (n:=z1F) Tryz.func97 (by kernel_rfl) h
 ·exact tab1 (n:=z3U) Tryz.func98 (by kernel_rfl) h
 ·exact tab1 (n:=UL) Tryz.func99 (by kernel_rfl) h
 ·exact tab1 (n:=T1) Tryz.func100 (by kernel_rfl) h
 ·exact tab1 (n:=yp) Tryz.func101 (by kernel_rfl) h
 ·exact tab1 (n:=Qn) Tryz.func102 (by kernel_rfl) h
 ·exact tab1 (n:=UO) Tryz.func103 (by kernel_rfl) h
 ·exact tab1 (n:=Q1) Tryz.func104 (by kernel_rfl) h
 ·exact tab1 (n:=zt) Tryz.func105 (by kernel_rfl) h
 ·exact tab1 (n:=UT) Tryz.func106 (by kernel_rfl) h
 ·exact tab1 (n:=zw) Tryz.func107 (by kernel_rfl) h
 ·exact tab1 (n:=W5) Tryz.func108 (by kernel_rfl) h
 ·exact tab1 (n:=zx) Tryz.func109 (by kernel_rfl) h
 ·exact tab1 (n:=W6) Tryz.func110 (by kernel_rfl) h
 ·exact tab1 (n:=zu) Tryz.func111 (by kernel_rfl) h
 ·exact tab1 (n:=W4) Tryz.func112 (by kernel_rfl) h
 ·exact tab1 (n:=qP) Tryz.func113 (by kernel_rfl) h
 ·exact tab1 (n:=kb) Tryz.func114 (by kernel_rfl) h
 ·exact tab1 (n:=VH) Tryz.func115 (by kernel_rfl) h
 ·exact tab1 (n:=km) Tryz.func116 (by kernel_rfl) h
 ·exact tab1 (n:=YJ) Tryz.func117 (by kernel_rfl) h
 ·exact tab1 (n:=YG) Tryz.func118 (by kernel_rfl) h
 ·exact tab1 (n:=qi) Tryz.func119 (by kernel_rfl) h
 ·exact tab1 (n:=z43) Tryz.func120 (by kernel_rfl) h
 ·exact tab1 (n:=qU) Tryz.func121 (by kernel_rfl) h
 ·exact tab1 (n:=YQ) Tryz.func122 (by kernel_rfl) h
 ·exact tab1 (n:=YL) Tryz.func123 (by kernel_rfl) h
 ·exact tab1 (n:=kp) Tryz.func124 (by kernel_rfl) h
 ·exact tab1 (n:=kq) Tryz.func125 (by kernel_rfl) h
 ·exact tab1 (n:=UZ) Tryz.func126 (by kernel_rfl) h
 ·exact tab1 (n:=z72) Tryz.func127 (by kernel_rfl) h
 ·exact tab1 (n:=z1e) Tryz.func128 (by kernel_rfl) h
 ·exact tab1 (n:=Q4) Tryz.func129 (by kernel_rfl) h
 ·exact tab1 (n:=UU) Tryz.func130 (by kernel_rfl) h
 ·exact tab1 (n:=z0Y) Tryz.func131 (by kernel_rfl) h
 ·exact tab1 (n:=z1h) Tryz.func132 (by kernel_rfl) h
 ·exact tab1 (n:=W8) Tryz.func133 (by kernel_rfl) h
 ·exact tab1 (n:=tt) Tryz.func134 (by kernel_rfl) h
 ·cases h
theorem tabp1Ok:TabOk Tryz.prog tabp1:=by
 intro f afn h
 unfold tabp1 at h
 split at h
 ·exact tab1 (n:=YP) Tryz.func135 (by kernel_rfl) h
 ·exact tab1 (n:=z45) Tryz.func136 (by kernel_rfl) h
 ·exact tab1 (n:=Zx) Tryz.func137 (by kernel_rfl) h
 ·exact tab1 (n:=VN) Tryz.func138 (by kernel_rfl) h
 ·exact tab1 (n:=YM) Tryz.func139 (by kernel_rfl) h
 ·exact tab1 (n:=Zy) Tryz.func140 (by kernel_rfl) h
 ·exact tab1 (n:=WW) Tryz.func141 (by kernel_rfl) h
 ·exact tab1 (n:=z1G) Tryz.func142 (by kernel_rfl) h
 ·exact tab1 (n:=z74) Tryz.func143 (by kernel_rfl) h
 ·exact tab1 (n:=z75) Tryz.func144 (by kernel_rfl) h
 ·exact tab1 (n:=WO) Tryz.func145 (by kernel_rfl) h
 ·exact tab1 (n:=Q6) Tryz.func146 (by kernel_rfl) h
 ·exact tab1 (n:=z5u) Tryz.func147 (by kernel_rfl) h
 ·exact tab1 (n:=z47) Tryz.func148 (by kernel_rfl) h
 ·exact tab1 (n:=z1j) Tryz.func149 (by kernel_rfl) h
 ·exact tab1 (n:=jW) Tryz.func151 (by kernel_rfl) h
 ·exact tab1 (n:=jV) Tryz.func152 (by kernel_rfl) h
 ·exact tab1 (n:=qH) Tryz.func153 (by kernel_rfl) h
 ·exact tab1 (n:=qd) Tryz.func154 (by kernel_rfl) h
 ·exact tab1 (n:=qc) Tryz.func155 (by kernel_rfl) h
 ·exact tab1 (n:=Zl) Tryz.func156 (by kernel_rfl) h
 ·exact tab1 (n:=z5G) Tryz.func162 (by kernel_rfl) h
 ·exact tab1 (n:=z1C) Tryz.func163 (by kernel_rfl) h
 ·exact tab1 (n:=z1r) Tryz.func164 (by kernel_rfl) h
 ·exact tab1 (n:=z1i) Tryz.func165 (by kernel_rfl) h
 ·exact tab1 (n:=yP) Tryz.func166 (by kernel_rfl) h
 ·exact tab1 (n:=T4) Tryz.func167 (by kernel_rfl) h
 ·exact tab1 (n:=z14) Tryz.func168 (by kernel_rfl) h
 ·exact tab1 (n:=z19) Tryz.func169 (by kernel_rfl) h
 ·exact tab1 (n:=z1k) Tryz.func170 (by kernel_rfl) h
 ·exact tab1 (n:=TZ) Tryz.func171 (by kernel_rfl) h
 ·exact tab1 (n:=Yx) Tryz.func172 (by kernel_rfl) h
 ·exact tab1 (n:=z3Q) Tryz.func173 (by kernel_rfl) h
 ·exact tab1 (n:=z1a) Tryz.func174 (by kernel_rfl) h
 ·exact tab1 (n:=zl) Tryz.func175 (by kernel_rfl) h
 ·exact tab1 (n:=Zu) Tryz.func176 (by kernel_rfl) h
 ·exact tab1 (n:=z3T) Tryz.func177 (by kernel_rfl) h
 ·exact tab1 (n:=qe) Tryz.func178 (by kernel_rfl) h
 ·exact tab1 (n:=TT) Tryz.func179 (by kernel_rfl) h
 ·exact tab1 (n:=ko) Tryz.func180 (by kernel_rfl) h
 ·exact tab1 (n:=z0Z) Tryz.func181 (by kernel_rfl) h
 ·exact tab1 (n:=UJ) Tryz.func182 (by kernel_rfl) h
 ·exact tab1 (n:=z3Z) Tryz.func183 (by kernel_rfl) h
 ·exact tab1 (n:=YI) Tryz.func184 (by kernel_rfl) h
 ·exact tab1 (n:=z1p) Tryz.func185 (by kernel_rfl) h
 ·exact tab1 (n:=VM) Tryz.func186 (by kernel_rfl) h
 ·exact tab1 (n:=z5s) Tryz.func187 (by kernel_rfl) h
 ·exact tab1 (n:=YK) Tryz.func188 (by kernel_rfl) h
 ·exact tab1 (n:=z1f) Tryz.func189 (by kernel_rfl) h
 ·exact tab1 (n:=z3P) Tryz.func190 (by kernel_rfl) h
 ·exact tab1 (n:=Qe) Tryz.func191 (by kernel_rfl) h
 ·exact tab1 (n:=xj) Tryz.func192 (by kernel_rfl) h
 ·exact tab1 (n:=YN) Tryz.func193 (by kernel_rfl) h
 ·exact tab1 (n:=z5I) Tryz.func194 (by kernel_rfl) h
 ·exact tab1 (n:=z5H) Tryz.func195 (by kernel_rfl) h
 ·exact tab1 (n:=Yv) Tryz.func196 (by kernel_rfl) h
 ·exact tab1 (n:=Yu) Tryz.func197 (by kernel_rfl) h
 ·exact tab1 (n:=z5t) Tryz.func198 (by kernel_rfl) h
 ·exact tab1 (n:=z5w) Tryz.func199 (by kernel_rfl) h
 ·exact tab1 (n:=z46) Tryz.func200 (by kernel_rfl) h
 ·exact tab1 (n:=Zn) Tryz.func201 (by kernel_rfl) h
 ·exact tab1 (n:=qI) Tryz.func202 (by kernel_rfl) h
 ·exact tab1 (n:=qJ) Tryz.func203 (by kernel_rfl) h
 ·exact tab1 (n:=Zr) Tryz.func204 (by kernel_rfl) h
 ·exact tab1 (n:=qQ) Tryz.func205 (by kernel_rfl) h
 ·exact tab1 (n:=jZ) Tryz.func206 (by kernel_rfl) h
 ·exact tab1 (n:=jX) Tryz.func207 (by kernel_rfl) h
 ·exact tab1 (n:=z1A) Tryz.func211 (by kernel_rfl) h
 ·exact tab1 (n:=Qc) Tryz.func212 (by kernel_rfl) h
 ·exact tab1 (n:=z1z) Tryz.func213 (by kernel_rfl) h
 ·exact tab1 (n:=Wb) Tryz.func214 (by kernel_rfl) h
 ·exact tab1 (n:=z1y) Tryz.func215 (by kernel_rfl) h
 ·exact tab1 (n:=W9) Tryz.func216 (by kernel_rfl) h
 ·exact tab1 (n:=z1x) Tryz.func217 (by kernel_rfl) h
 ·exact tab1 (n:=Zv) Tryz.func218 (by kernel_rfl) h
 ·exact tab1 (n:=z1w) Tryz.func219 (by kernel_rfl) h
 ·exact tab1 (n:=Wa) Tryz.func220 (by kernel_rfl) h
 ·exact tab1 (n:=z1v) Tryz.func221 (by kernel_rfl) h
 ·exact tab1 (n:=YO) Tryz.func222 (by kernel_rfl) h
 ·exact tab1 (n:=z1u) Tryz.func223 (by kernel_rfl) h
 ·exact tab1 (n:=z4d) Tryz.func224 (by kernel_rfl) h
 ·exact tab1 (n:=vy) Tryz.func225 (by kernel_rfl) h
 ·exact tab1 (n:=Q5) Tryz.func226 (by kernel_rfl) h
 ·exact tab1 (n:=z1n) Tryz.func227 (by kernel_rfl) h
 ·exact tab1 (n:=yg) Tryz.func228 (by kernel_rfl) h
 ·exact tab1 (n:=UR) Tryz.func229 (by kernel_rfl) h
 ·exact tab1 (n:=TY) Tryz.func230 (by kernel_rfl) h
 ·exact tab1 (n:=VI) Tryz.func231 (by kernel_rfl) h
 ·exact tab1 (n:=TW) Tryz.func232 (by kernel_rfl) h
 ·exact tab1 (n:=Q7) Tryz.func233 (by kernel_rfl) h
 ·exact tab1 (n:=z3W) Tryz.func234 (by kernel_rfl) h
 ·exact tab1 (n:=tr) Tryz.func235 (by kernel_rfl) h
 ·exact tab1 (n:=z3R) Tryz.func236 (by kernel_rfl) h
 ·exact tab1 (n:=Yw) Tryz.func237 (by kernel_rfl) h
 ·exact tab1 (n:=ke) Tryz.func238 (by kernel_rfl) h
 ·exact tab1 (n:=Yy) Tryz.func239 (by kernel_rfl) h
 ·exact tab1 (n:=z13) Tryz.func240 (by kernel_rfl) h
 ·exact tab1 (n:=UK) Tryz.func241 (by kernel_rfl) h
 ·exact tab1 (n:=z5p) Tryz.func242 (by kernel_rfl) h
 ·exact tab1 (n:=z8k) Tryz.func243 (by kernel_rfl) h
 ·cases h
theorem tabp2Ok:TabOk Tryz.prog tabp2:=by
 intro f afn h
 unfold tabp2 at h
 split at h
 ·exact tab1 (n:=US) Tryz.func244 (by kernel_rfl) h
 ·exact tab1 (n:=Q0) Tryz.func245 (by kernel_rfl) h
 ·exact tab1 (n:=zk) Tryz.func246 (by kernel_rfl) h
 ·exact tab1 (n:=z5q) Tryz.func247 (by kernel_rfl) h
 ·exact tab1 (n:=Q3) Tryz.func248 (by kernel_rfl) h
 ·exact tab1 (n:=z5z) Tryz.func249 (by kernel_rfl) h
 ·exact tab1 (n:=z5C) Tryz.func250 (by kernel_rfl) h
 ·exact tab1 (n:=UN) Tryz.func251 (by kernel_rfl) h
 ·exact tab1 (n:=z42) Tryz.func252 (by kernel_rfl) h
 ·exact tab1 (n:=Qa) Tryz.func253 (by kernel_rfl) h
 ·exact tab1 (n:=z1o) Tryz.func254 (by kernel_rfl) h
 ·exact tab1 (n:=z1q) Tryz.func255 (by kernel_rfl) h
 ·exact tab1 (n:=TU) Tryz.func256 (by kernel_rfl) h
 ·exact tab1 (n:=xT) Tryz.func257 (by kernel_rfl) h
 ·exact tab1 (n:=z48) Tryz.func258 (by kernel_rfl) h
 ·exact tab1 (n:=W2) Tryz.func259 (by kernel_rfl) h
 ·exact tab1 (n:=z18) Tryz.func260 (by kernel_rfl) h
 ·exact tab1 (n:=z17) Tryz.func261 (by kernel_rfl) h
 ·exact tab1 (n:=VL) Tryz.func262 (by kernel_rfl) h
 ·exact tab1 (n:=Q8) Tryz.func263 (by kernel_rfl) h
 ·exact tab1 (n:=ka) Tryz.func264 (by kernel_rfl) h
 ·exact tab1 (n:=k7) Tryz.func265 (by kernel_rfl) h
 ·exact tab1 (n:=tn) Tryz.func266 (by kernel_rfl) h
 ·exact tab1 (n:=jY) Tryz.func267 (by kernel_rfl) h
 ·exact tab1 (n:=to) Tryz.func268 (by kernel_rfl) h
 ·exact tab1 (n:=qL) Tryz.func269 (by kernel_rfl) h
 ·exact tab1 (n:=Zw) Tryz.func273 (by kernel_rfl) h
 ·exact tab1 (n:=kj) Tryz.func274 (by kernel_rfl) h
 ·exact tab1 (n:=YF) Tryz.func275 (by kernel_rfl) h
 ·exact tab1 (n:=qh) Tryz.func276 (by kernel_rfl) h
 ·exact tab1 (n:=z10) Tryz.func277 (by kernel_rfl) h
 ·exact tab1 (n:=z5D) Tryz.func278 (by kernel_rfl) h
 ·exact tab1 (n:=z5r) Tryz.func279 (by kernel_rfl) h
 ·exact tab1 (n:=qT) Tryz.func280 (by kernel_rfl) h
 ·exact tab1 (n:=Qf) Tryz.func281 (by kernel_rfl) h
 ·exact tab1 (n:=kz) Tryz.func282 (by kernel_rfl) h
 ·exact tab1 (n:=qV) Tryz.func283 (by kernel_rfl) h
 ·exact tab1 (n:=tz) Tryz.func284 (by kernel_rfl) h
 ·exact tab1 (n:=z49) Tryz.func285 (by kernel_rfl) h
 ·exact tab1 (n:=z5B) Tryz.func286 (by kernel_rfl) h
 ·exact tab1 (n:=z16) Tryz.func287 (by kernel_rfl) h
 ·exact tab1 (n:=z1g) Tryz.func288 (by kernel_rfl) h
 ·exact tab1 (n:=z1m) Tryz.func289 (by kernel_rfl) h
 ·exact tab1 (n:=UX) Tryz.func290 (by kernel_rfl) h
 ·exact tab1 (n:=yF) Tryz.func291 (by kernel_rfl) h
 ·exact tab1 (n:=TX) Tryz.func292 (by kernel_rfl) h
 ·exact tab1 (n:=VK) Tryz.func293 (by kernel_rfl) h
 ·exact tab1 (n:=Yz) Tryz.func294 (by kernel_rfl) h
 ·exact tab1 (n:=z3S) Tryz.func295 (by kernel_rfl) h
 ·exact tab1 (n:=z1d) Tryz.func296 (by kernel_rfl) h
 ·exact tab1 (n:=z5x) Tryz.func297 (by kernel_rfl) h
 ·exact tab1 (n:=z5y) Tryz.func298 (by kernel_rfl) h
 ·exact tab1 (n:=z5A) Tryz.func299 (by kernel_rfl) h
 ·exact tab1 (n:=z73) Tryz.func300 (by kernel_rfl) h
 ·exact tab1 (n:=Q2) Tryz.func301 (by kernel_rfl) h
 ·exact tab1 (n:=WR) Tryz.func302 (by kernel_rfl) h
 ·exact tab1 (n:=VF) Tryz.func303 (by kernel_rfl) h
 ·exact tab1 (n:=z15) Tryz.func304 (by kernel_rfl) h
 ·exact tab1 (n:=Qb) Tryz.func305 (by kernel_rfl) h
 ·exact tab1 (n:=z41) Tryz.func306 (by kernel_rfl) h
 ·exact tab1 (n:=yz) Tryz.func307 (by kernel_rfl) h
 ·exact tab1 (n:=UY) Tryz.func308 (by kernel_rfl) h
 ·exact tab1 (n:=z40) Tryz.func309 (by kernel_rfl) h
 ·exact tab1 (n:=Zq) Tryz.func310 (by kernel_rfl) h
 ·exact tab1 (n:=qM) Tryz.func311 (by kernel_rfl) h
 ·exact tab1 (n:=tp) Tryz.func312 (by kernel_rfl) h
 ·exact tab1 (n:=k9) Tryz.func313 (by kernel_rfl) h
 ·exact tab1 (n:=qO) Tryz.func314 (by kernel_rfl) h
 ·exact tab1 (n:=k6) Tryz.func315 (by kernel_rfl) h
 ·exact tab1 (n:=Zo) Tryz.func316 (by kernel_rfl) h
 ·exact tab1 (n:=kl) Tryz.func317 (by kernel_rfl) h
 ·exact tab1 (n:=z3Y) Tryz.func318 (by kernel_rfl) h
 ·exact tab1 (n:=UM) Tryz.func319 (by kernel_rfl) h
 ·exact tab1 (n:=z0X) Tryz.func320 (by kernel_rfl) h
 ·exact tab1 (n:=z4a) Tryz.func321 (by kernel_rfl) h
 ·exact tab1 (n:=z1s) Tryz.func322 (by kernel_rfl) h
 ·exact tab1 (n:=VO) Tryz.func323 (by kernel_rfl) h
 ·exact tab1 (n:=tu) Tryz.func324 (by kernel_rfl) h
 ·exact tab1 (n:=Qi) Tryz.func325 (by kernel_rfl) h
 ·exact tab1 (n:=kr) Tryz.func326 (by kernel_rfl) h
 ·exact tab1 (n:=ky) Tryz.func327 (by kernel_rfl) h
 ·exact tab1 (n:=tw) Tryz.func328 (by kernel_rfl) h
 ·exact tab1 (n:=vR) Tryz.func329 (by kernel_rfl) h
 ·exact tab1 (n:=uB) Tryz.func330 (by kernel_rfl) h
 ·exact tab1 (n:=YR) Tryz.func331 (by kernel_rfl) h
 ·exact tab1 (n:=tv) Tryz.func332 (by kernel_rfl) h
 ·exact tab1 (n:=qj) Tryz.func333 (by kernel_rfl) h
 ·exact tab1 (n:=kD) Tryz.func334 (by kernel_rfl) h
 ·exact tab1 (n:=qW) Tryz.func335 (by kernel_rfl) h
 ·exact tab1 (n:=kw) Tryz.func336 (by kernel_rfl) h
 ·exact tab1 (n:=z5F) Tryz.func337 (by kernel_rfl) h
 ·exact tab1 (n:=qS) Tryz.func338 (by kernel_rfl) h
 ·exact tab1 (n:=qX) Tryz.func339 (by kernel_rfl) h
 ·exact tab1 (n:=z5E) Tryz.func340 (by kernel_rfl) h
 ·exact tab1 (n:=Qg) Tryz.func341 (by kernel_rfl) h
 ·exact tab1 (n:=VJ) Tryz.func342 (by kernel_rfl) h
 ·exact tab1 (n:=Zs) Tryz.func343 (by kernel_rfl) h
 ·exact tab1 (n:=Zt) Tryz.func344 (by kernel_rfl) h
 ·exact tab1 (n:=z1l) Tryz.func345 (by kernel_rfl) h
 ·exact tab1 (n:=Q9) Tryz.func346 (by kernel_rfl) h
 ·cases h
theorem tabp3Ok:TabOk Tryz.prog tabp3:=by
 intro f afn h
 unfold tabp3 at h
 split at h
 ·exact tab1 (n:=yQ) Tryz.func347 (by kernel_rfl) h
 ·exact tab1 (n:=k8) Tryz.func348 (by kernel_rfl) h
 ·exact tab1 (n:=W0) Tryz.func349 (by kernel_rfl) h
 ·exact tab1 (n:=qN) Tryz.func350 (by kernel_rfl) h
 ·exact tab1 (n:=Zp) Tryz.func351 (by kernel_rfl) h
 ·exact tab1 (n:=z1t) Tryz.func352 (by kernel_rfl) h
 ·exact tab1 (n:=uA) Tryz.func353 (by kernel_rfl) h
 ·exact tab1 (n:=vQ) Tryz.func354 (by kernel_rfl) h
 ·exact tab1 (n:=tA) Tryz.func355 (by kernel_rfl) h
 ·exact tab1 (n:=kh) Tryz.func356 (by kernel_rfl) h
 ·exact tab1 (n:=W7) Tryz.func357 (by kernel_rfl) h
 ·exact tab1 (n:=kg) Tryz.func358 (by kernel_rfl) h
 ·exact tab1 (n:=tq) Tryz.func359 (by kernel_rfl) h
 ·exact tab1 (n:=uz) Tryz.func360 (by kernel_rfl) h
 ·exact tab1 (n:=uh) Tryz.func361 (by kernel_rfl) h
 ·exact tab1 (n:=UV) Tryz.func362 (by kernel_rfl) h
 ·exact tab1 (n:=xM) Tryz.func363 (by kernel_rfl) h
 ·exact tab1 (n:=u3) Tryz.func364 (by kernel_rfl) h
 ·exact tab1 (n:=xN) Tryz.func365 (by kernel_rfl) h
 ·exact tab1 (n:=vk) Tryz.func366 (by kernel_rfl) h
 ·exact tab1 (n:=xS) Tryz.func367 (by kernel_rfl) h
 ·exact tab1 (n:=yE) Tryz.func368 (by kernel_rfl) h
 ·exact tab1 (n:=Qh) Tryz.func369 (by kernel_rfl) h
 ·exact tab1 (n:=xv) Tryz.func370 (by kernel_rfl) h
 ·exact tab1 (n:=vP) Tryz.func371 (by kernel_rfl) h
 ·exact tab1 (n:=WV) Tryz.func372 (by kernel_rfl) h
 ·exact tab1 (n:=WU) Tryz.func373 (by kernel_rfl) h
 ·exact tab1 (n:=u0) Tryz.func374 (by kernel_rfl) h
 ·exact tab1 (n:=qg) Tryz.func375 (by kernel_rfl) h
 ·exact tab1 (n:=qR) Tryz.func376 (by kernel_rfl) h
 ·exact tab1 (n:=xw) Tryz.func377 (by kernel_rfl) h
 ·exact tab1 (n:=uy) Tryz.func378 (by kernel_rfl) h
 ·exact tab1 (n:=T2) Tryz.func379 (by kernel_rfl) h
 ·exact tab1 (n:=ux) Tryz.func380 (by kernel_rfl) h
 ·cases h
theorem tabOk:TabOk Tryz.prog tab:=by
 intro f afn h
 unfold tab at h
 cases h0:tabp0 f with
 |some a=>rw[h0] at h;exact tabp0Ok f afn (h0.trans h)
 |none=>
 rw[h0] at h
 cases h1:tabp1 f with
 |some a=>rw[h1] at h;exact tabp1Ok f afn (h1.trans h)
 |none=>
 rw[h1] at h
 cases h2:tabp2 f with
 |some a=>rw[h2] at h;exact tabp2Ok f afn (h2.trans h)
 |none=>
 rw[h2] at h
 exact tabp3Ok f afn h
end Go.Proofs.W
end
section
namespace Go.Proofs.W
open Go.Vs Go.Proofs
theorem ui: ∀a m r m',firstM a m=some (r,m')→m.floor≤m.stk.length+1→Above m m':=by
 intro a m r m' h _
 rw[(z3i h).1];exact Above.refl m
theorem Yn: ∀a m r m',firstM a m=some (r,m')→m.floor≤m.stk.length+1→ ∀C,CallOk Tryz.prog C zc a m r m':=by
 intro a m r m' h hf C
 exact zb4 (by kernel_rfl) tabOk (z3i h).2 hf
end Go.Proofs.W
end
section
namespace Go.Proofs.W
open Go.Vs Go.Vs.Sn
set_option maxRecDepth 1000000
theorem mok0:MemoOk Tryz.prog g0.memo:=Zz ui Yn (qY _)
theorem zy283:MemoFact Tryz.prog yo [] (G zw267):=qk g0 (by kernel_rfl) tabOk mok0 10001 zf282 (by kernel_rfl)
theorem zy293:MemoFact Tryz.prog zh [] (G zw267):=qk g0 (by kernel_rfl) tabOk mok0 10001 zf292 (by kernel_rfl)
theorem mok1:MemoOk Tryz.prog g1.memo:=zK (l:=zg) (w26.2 ⟨zy293,fun _ h=>by cases h⟩) (zK (l:=x8) (w26.2 ⟨zy283,fun _ h=>by cases h⟩) (Zz ui Yn (qY _)))
theorem zy312:MemoFact Tryz.prog xp [(G zw298)] (i 0):=qk g1 (by kernel_rfl) tabOk mok1 10001 zf311 (by kernel_rfl)
theorem zy331:MemoFact Tryz.prog yf [(G zw298)] zv314:=qk g1 (by kernel_rfl) tabOk mok1 10001 zf330 (by kernel_rfl)
theorem mok2:MemoOk Tryz.prog g2.memo:=zK (l:=xq) (w26.2 ⟨zy331,fun _ h=>by cases h⟩) (zK (l:=xV) (w26.2 ⟨zy312,fun _ h=>by cases h⟩) (zK (l:=zg) (w26.2 ⟨zy293,fun _ h=>by cases h⟩) (zK (l:=x8) (w26.2 ⟨zy283,fun _ h=>by cases h⟩) (Zz ui Yn (qY _)))))
theorem zy372:MemoFact Tryz.prog zZ [] T:=qk g2 (by kernel_rfl) tabOk mok2 10001 zf371 (by kernel_rfl)
theorem mok3:MemoOk Tryz.prog g3.memo:=zK (l:=xU) (w26.2 ⟨zy372,fun _ h=>by cases h⟩) (zK (l:=xq) (w26.2 ⟨zy331,fun _ h=>by cases h⟩) (zK (l:=xV) (w26.2 ⟨zy312,fun _ h=>by cases h⟩) (zK (l:=zg) (w26.2 ⟨zy293,fun _ h=>by cases h⟩) (zK (l:=x8) (w26.2 ⟨zy283,fun _ h=>by cases h⟩) (Zz ui Yn (qY _))))))
theorem uD:Known Tryz.prog zX true:=z7f g3 (by kernel_rfl) tabOk mok3 10001 top
end Go.Proofs.W
end
