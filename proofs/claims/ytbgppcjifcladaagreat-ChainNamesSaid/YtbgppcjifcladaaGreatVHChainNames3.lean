/-
  ChainNames holds: its law function, which has no arguments, returns true. The kernel reckons it.
-/
import Derived.Test.YtbgppcjifcladaaGreatVHChainNames0
import Derived.Test.YtbgppcjifcladaaGreatVHChainNames1
import Derived.Test.YtbgppcjifcladaaGreatVHChainNames2
import Derived.KernelRfl
import Derived.Test.YtbgppcjifcladaaGreatV4
import Derived.Test.YtbgppcjifcladaaGreatRows
set_option maxHeartbeats 64000000
set_option linter.unusedVariables false
set_option linter.unusedSimpArgs false
section
namespace Go.Proofs.W
open Go.Vs Go.Vs.Sn
set_option maxRecDepth 1000000
theorem zl27:zr2.length=251:=by kernel_rfl
theorem zp28:E 10000 251 (spT 4 zc4) zr2 zm3=some (outOf 0,⟨zr18,zm25⟩):=zh (Nat.le_of_ble_eq_true rfl) zl27 zk26
theorem zl34:zr18.length=251:=by kernel_rfl
theorem zp35:E 10000 251 (spT 1 zc30) zr18 zm25=some (outOf 0,⟨zr32,zm25⟩):=zh (Nat.le_of_ble_eq_true rfl) zl34 zk33
theorem zl60:zr32.length=251:=by kernel_rfl
theorem zl84:zr50.length=251:=by kernel_rfl
theorem zl109:zr76.length=251:=by kernel_rfl
theorem zl134:zr100.length=251:=by kernel_rfl
theorem zl159:zr125.length=251:=by kernel_rfl
theorem zl185:zr150.length=251:=by kernel_rfl
theorem zl211:zr176.length=251:=by kernel_rfl
theorem zl237:zr202.length=251:=by kernel_rfl
theorem zl263:zr228.length=251:=by kernel_rfl
theorem zl288:zr254.length=251:=by kernel_rfl
theorem zl314:zr280.length=251:=by kernel_rfl
theorem zl340:zr305.length=251:=by kernel_rfl
theorem zl365:zr331.length=251:=by kernel_rfl
theorem zl391:zr357.length=251:=by kernel_rfl
theorem zl396:zr382.length=251:=by kernel_rfl
theorem zp397:E 10000 251 (sL (sL zc36)) zr382 zm392=some (outOf 2,⟨zr394,zm392⟩):=zh (Nat.le_of_ble_eq_true rfl) zl396 zk395
theorem zp398:LI 10000 251 7 (sL zc36) [1,2,3,4] 9986 zr382 zm389=some (outOf 2,⟨zr394,zm392⟩):=z1t (k:=9985) (outOf 2) rfl rfl (Nat.le_of_ble_eq_true rfl) zl396 (by kernel_rfl) zp397
theorem zp399:LI 10000 251 7 (sL zc36) [1,2,3,4] 9987 zr357 zm363=some (outOf 2,⟨zr394,zm392⟩):=zx (k:=9986) 1 false (Nat.le_of_ble_eq_true rfl) zl391 rfl rfl zk390 zp398
theorem zp400:LI 10000 251 7 (sL zc36) [1,2,3,4] 9988 zr331 zm338=some (outOf 2,⟨zr394,zm392⟩):=zx (k:=9987) 1 false (Nat.le_of_ble_eq_true rfl) zl365 rfl rfl zk364 zp399
theorem zp401:LI 10000 251 7 (sL zc36) [1,2,3,4] 9989 zr305 zm312=some (outOf 2,⟨zr394,zm392⟩):=zx (k:=9988) 1 false (Nat.le_of_ble_eq_true rfl) zl340 rfl rfl zk339 zp400
theorem zp402:LI 10000 251 7 (sL zc36) [1,2,3,4] 9990 zr280 zm286=some (outOf 2,⟨zr394,zm392⟩):=zx (k:=9989) 1 false (Nat.le_of_ble_eq_true rfl) zl314 rfl rfl zk313 zp401
theorem zp403:LI 10000 251 7 (sL zc36) [1,2,3,4] 9991 zr254 zm261=some (outOf 2,⟨zr394,zm392⟩):=zx (k:=9990) 1 false (Nat.le_of_ble_eq_true rfl) zl288 rfl rfl zk287 zp402
theorem zp404:LI 10000 251 7 (sL zc36) [1,2,3,4] 9992 zr228 zm235=some (outOf 2,⟨zr394,zm392⟩):=zx (k:=9991) 1 false (Nat.le_of_ble_eq_true rfl) zl263 rfl rfl zk262 zp403
theorem zp405:LI 10000 251 7 (sL zc36) [1,2,3,4] 9993 zr202 zm209=some (outOf 2,⟨zr394,zm392⟩):=zx (k:=9992) 1 false (Nat.le_of_ble_eq_true rfl) zl237 rfl rfl zk236 zp404
theorem zp406:LI 10000 251 7 (sL zc36) [1,2,3,4] 9994 zr176 zm183=some (outOf 2,⟨zr394,zm392⟩):=zx (k:=9993) 1 false (Nat.le_of_ble_eq_true rfl) zl211 rfl rfl zk210 zp405
theorem zp407:LI 10000 251 7 (sL zc36) [1,2,3,4] 9995 zr150 zm157=some (outOf 2,⟨zr394,zm392⟩):=zx (k:=9994) 1 false (Nat.le_of_ble_eq_true rfl) zl185 rfl rfl zk184 zp406
theorem zp408:LI 10000 251 7 (sL zc36) [1,2,3,4] 9996 zr125 zm132=some (outOf 2,⟨zr394,zm392⟩):=zx (k:=9995) 1 false (Nat.le_of_ble_eq_true rfl) zl159 rfl rfl zk158 zp407
theorem zp409:LI 10000 251 7 (sL zc36) [1,2,3,4] 9997 zr100 zm107=some (outOf 2,⟨zr394,zm392⟩):=zx (k:=9996) 1 false (Nat.le_of_ble_eq_true rfl) zl134 rfl rfl zk133 zp408
theorem zp410:LI 10000 251 7 (sL zc36) [1,2,3,4] 9998 zr76 zm82=some (outOf 2,⟨zr394,zm392⟩):=zx (k:=9997) 1 false (Nat.le_of_ble_eq_true rfl) zl109 rfl rfl zk108 zp409
theorem zp411:LI 10000 251 7 (sL zc36) [1,2,3,4] 9999 zr50 zm58=some (outOf 2,⟨zr394,zm392⟩):=zx (k:=9998) 1 false (Nat.le_of_ble_eq_true rfl) zl84 rfl rfl zk83 zp410
theorem zp412:LI 10000 251 7 (sL zc36) [1,2,3,4] 10000 zr32 zm25=some (outOf 2,⟨zr394,zm392⟩):=zx (k:=9999) 1 false (Nat.le_of_ble_eq_true rfl) zl60 rfl rfl zk59 zp411
theorem zp413:E 10000 251 (sL zc36) zr32 zm25=some (outOf 2,⟨zr394,zm392⟩):=z1x (nb:=7) (live:=[1,2,3,4]) (by kernel_rfl) (by kernel_rfl) zp412
theorem zp414:E 10000 251 zc36 zr32 zm25=some (outOf 0,⟨zr394,zm392⟩):=z3e (i:=0) (by kernel_rfl) zp413
theorem zp415:E 10000 251 zc30 zr18 zm25=some (outOf 0,⟨zr394,zm392⟩):=yF 1 _ zp35 zp414
theorem zl456:zr394.length=251:=by kernel_rfl
theorem zp457:E 10000 251 (spT 6 zc416) zr394 zm392=some (outOf 0,⟨zr448,zm454⟩):=zh (Nat.le_of_ble_eq_true rfl) zl456 zk455
theorem zl467:zr448.length=251:=by kernel_rfl
theorem zp468:E 10000 251 (spT 5 zc458) zr448 zm454=some (outOf 0,⟨zr464,zm465⟩):=zh (Nat.le_of_ble_eq_true rfl) zl467 zk466
theorem zl477:zr464.length=251:=by kernel_rfl
theorem zp478:E 10000 251 (spT 4 zc469) zr464 zm465=some (outOf 0,⟨zr474,zm475⟩):=zh (Nat.le_of_ble_eq_true rfl) zl477 zk476
theorem zl503:zr474.length=251:=by kernel_rfl
theorem zp504:E 10000 251 (spT 4 zc479) zr474 zm475=some (outOf 0,⟨zr494,zm501⟩):=zh (Nat.le_of_ble_eq_true rfl) zl503 zk502
theorem zl510:zr494.length=251:=by kernel_rfl
theorem zp511:E 10000 251 (sT 1 zc506) zr494 zm501=some (outOf 0,⟨zr508,zm501⟩):=zh (Nat.le_of_ble_eq_true rfl) zl510 zk509
theorem zl524:zr516.length=49:=by kernel_rfl
theorem zp525:E 9999 49 (spT 4 zc518) zr516 zm517=some (outOf 0,⟨zr520,zm522⟩):=zh (Nat.le_of_ble_eq_true rfl) zl524 zk523
theorem zl532:zr520.length=49:=by kernel_rfl
theorem zp533:E 9999 49 (spT 1 zc527) zr520 zm522=some (outOf 0,⟨zr530,zm522⟩):=zh (Nat.le_of_ble_eq_true rfl) zl532 zk531
theorem zl547:zr530.length=49:=by kernel_rfl
theorem zl557:zr544.length=49:=by kernel_rfl
theorem zl567:zr554.length=49:=by kernel_rfl
theorem zl576:zr564.length=49:=by kernel_rfl
theorem zl581:zr573.length=49:=by kernel_rfl
theorem zp582:E 9999 49 (sL (sL zc534)) zr573 zm574=some (outOf 1,⟨zr579,zm574⟩):=zh (Nat.le_of_ble_eq_true rfl) zl581 zk580
theorem zp583:LI 9999 49 1 (sL zc534) [2,3,9,10] 9589 zr573 zm574=some (outOf 1,⟨zr579,zm574⟩):=z1t (k:=9588) (outOf 1) rfl rfl (Nat.le_of_ble_eq_true rfl) zl581 (by kernel_rfl) zp582
theorem zp584:LI 9999 49 1 (sL zc534) [2,3,9,10] 9691 zr564 zm565=some (outOf 1,⟨zr579,zm574⟩):=zx (k:=9589) 102 false (Nat.le_of_ble_eq_true rfl) zl576 rfl rfl zk575 zp583
theorem zp585:LI 9999 49 1 (sL zc534) [2,3,9,10] 9795 zr554 zm555=some (outOf 1,⟨zr579,zm574⟩):=zx (k:=9691) 104 false (Nat.le_of_ble_eq_true rfl) zl567 rfl rfl zk566 zp584
theorem zp586:LI 9999 49 1 (sL zc534) [2,3,9,10] 9896 zr544 zm545=some (outOf 1,⟨zr579,zm574⟩):=zx (k:=9795) 101 false (Nat.le_of_ble_eq_true rfl) zl557 rfl rfl zk556 zp585
theorem zp587:LI 9999 49 1 (sL zc534) [2,3,9,10] 9999 zr530 zm522=some (outOf 1,⟨zr579,zm574⟩):=zx (k:=9896) 103 false (Nat.le_of_ble_eq_true rfl) zl547 rfl rfl zk546 zp586
theorem zp588:E 9999 49 (sL zc534) zr530 zm522=some (outOf 1,⟨zr579,zm574⟩):=z1x (nb:=1) (live:=[2,3,9,10]) (by kernel_rfl) (by kernel_rfl) zp587
theorem zp589:E 9999 49 zc534 zr530 zm522=some (outOf 1,⟨zr579,zm574⟩):=z48 (i:=0) (by kernel_rfl) zp588
theorem zp590:E 9999 49 zc527 zr520 zm522=some (outOf 1,⟨zr579,zm574⟩):=yF 1 _ zp533 zp589
theorem zp591:E 9999 49 zc526 zr520 zm522=some (outOf 1,⟨zr579,zm574⟩):=z3w (outOf 1) rfl (by kernel_rfl) zp590 rfl
theorem zp592:E 9999 49 zc518 zr516 zm517=some (outOf 1,⟨zr579,zm574⟩):=yF 4 _ zp525 zp591
theorem zf594:C 10000 za zw514 zm501=some (zv472,zm593):=Tf (n:=9999) 1 (Nat.le_of_ble_eq_true rfl) Yk (by kernel_rfl) (by kernel_rfl) (by kernel_rfl) zp592 (by kernel_rfl)
theorem zp597:E 10000 251 zc513 zr508 zm501=some (outOf 0,⟨zr596,zm593⟩):=z47 (d:=184) (f:=za) (fl:=false) (xs:=[.t 183,.c (q 65536),.c (i 410)]) (av:=zw514) (r:=zv472) (by kernel_rfl) (by kernel_rfl) zf594 (by kernel_rfl)
theorem zl603:zr596.length=251:=by kernel_rfl
theorem zp604:E 10000 251 zc598 zr596 zm593=some (outOf 0,⟨zr601,zm593⟩):=zh (Nat.le_of_ble_eq_true rfl) zl603 zk602
theorem zp605:E 10000 251 zc512 zr508 zm501=some (outOf 0,⟨zr601,zm593⟩):=qC 1 zp597 zp604
theorem zp606:E 10000 251 zc506 zr494 zm501=some (outOf 0,⟨zr601,zm593⟩):=qC 1 zp511 zp605
theorem zl612:zr601.length=251:=by kernel_rfl
theorem zp613:E 10000 251 (sT 1 zc608) zr601 zm593=some (outOf 0,⟨zr610,zm593⟩):=zh (Nat.le_of_ble_eq_true rfl) zl612 zk611
theorem zl620:zr610.length=251:=by kernel_rfl
theorem zp621:E 10000 251 zc615 zr610 zm593=some (outOf 0,⟨zr617,zm618⟩):=zh (Nat.le_of_ble_eq_true rfl) zl620 zk619
theorem zl630:zr617.length=251:=by kernel_rfl
theorem zp631:E 10000 251 zc622 zr617 zm618=some (outOf 0,⟨zr628,zm618⟩):=zh (Nat.le_of_ble_eq_true rfl) zl630 zk629
theorem zp632:E 10000 251 zc614 zr610 zm593=some (outOf 0,⟨zr628,zm618⟩):=qC 1 zp621 zp631
theorem zp633:E 10000 251 zc608 zr601 zm593=some (outOf 0,⟨zr628,zm618⟩):=qC 1 zp613 zp632
theorem zl636:zr628.length=251:=by kernel_rfl
theorem zp637:E 10000 251 zc634 zr628 zm618=some (outOf 1,⟨zr628,zm618⟩):=zh (Nat.le_of_ble_eq_true rfl) zl636 zk635
theorem zp638:E 10000 251 zc607 zr601 zm593=some (outOf 1,⟨zr628,zm618⟩):=Yc (by kernel_rfl) zp633 zp637
theorem zp639:E 10000 251 zc505 zr494 zm501=some (outOf 1,⟨zr628,zm618⟩):=Yc (by kernel_rfl) zp606 zp638
theorem zp640:E 10000 251 zc479 zr474 zm475=some (outOf 1,⟨zr628,zm618⟩):=yF 4 _ zp504 zp639
theorem zp641:E 10000 251 zc469 zr464 zm465=some (outOf 1,⟨zr628,zm618⟩):=yF 4 _ zp478 zp640
theorem zp642:E 10000 251 zc458 zr448 zm454=some (outOf 1,⟨zr628,zm618⟩):=yF 5 _ zp468 zp641
theorem zp643:E 10000 251 zc416 zr394 zm392=some (outOf 1,⟨zr628,zm618⟩):=yF 6 _ zp457 zp642
theorem zp644:E 10000 251 zc29 zr18 zm25=some (outOf 1,⟨zr628,zm618⟩):=Yc (by kernel_rfl) zp415 zp643
theorem zp645:E 10000 251 zc4 zr2 zm3=some (outOf 1,⟨zr628,zm618⟩):=yF 4 _ zp28 zp644
theorem zf647:C 10001 zi [] Mem.zero=some (T,zm646):=Tf (n:=10000) 1 (Nat.le_of_ble_eq_true rfl) xX (by kernel_rfl) (by kernel_rfl) (by kernel_rfl) zp645 (by kernel_rfl)
theorem top:C 10001 zi [] Mem.zero=some (.bool true,zm646):=zf647
end Go.Proofs.W
end
section
namespace Go.Proofs.YtbgppcjifcladaaGreat
set_option maxRecDepth 100000
open Go.Vs Go.ChangeShapes Go.WideShapes Go.ChangeAt Go.RowKit Go.Proofs.W
theorem k_law:Known Tryz.prog 4 true:=YW gmask (f:=zi) (by kernel_rfl) tabOk 10001 top
theorem Tryz.own:ownKnob Tryz.prog.godebug=none:=by kernel_rfl
theorem Tryz.laidOut:laidOutB Tryz.prog=true:=by kernel_rfl
theorem f_lifted (os:Os) (started:os.Started) (H:Type) (enc:TypeId×Value→H):
  ReturnsInHanded {} Tryz.checked os 4 .any (Rows.chainNamesSpec.pre6 enc Tryz.prog Tryz.f4 Rows.chainNamesRow.domain false) (Rows.chainNamesSpec.post enc Tryz.prog Tryz.f4 false true false false):=by
 refine returnsInHanded_of_change (C:=Tryz.checked) Tryz.own started (by kernel_rfl) Tryz.func4
  (ChangeSpec.witness6 (enc:=enc) (C:=Tryz.checked) false ⟨#[],#[],[]⟩ 12 (by kernel_rfl) (by kernel_rfl) (by kernel_rfl) (by kernel_rfl)) ?_
 intro W base args ds gs before hval hW _ _
 exact Uj (P:=Tryz.prog) Tryz.laidOut rfl rfl rfl (by kernel_rfl) rfl k_law hW
theorem chainNames_holds:Rows.ChainNamesSaid:=
 OpenClaim.holds_of_wide 4 Tryz.f4 rfl rfl rfl rfl rfl rfl rfl ⟨rfl,rfl,rfl,rfl,rfl⟩ rfl rfl rfl rfl rfl (by kernel_rfl) Tryz.func4 (by kernel_rfl)
  (of_decide_eq_true (by kernel_rfl)) (by unfold Func.isWrapper;first|(rw[if_pos (by decide+kernel)];kernel_rfl)|(rw[if_neg (by decide+kernel)];exact⟨rfl,rfl⟩))
  (fun os started H enc _=>f_lifted os started H enc)
end Go.Proofs.YtbgppcjifcladaaGreat
end
