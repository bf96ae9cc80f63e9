/-
  Part 9 of the proof, shared by claims of this seat: V1Pc, V1Tie, V1Pd.
-/
import Derived.Test.YtmpokodceiaopaaGreatV5
import Derived.Test.YtmpokodceiaopaaGreatV6
import Derived.Test.YtmpokodceiaopaaGreatV7
import Derived.KernelRfl
import Derived.Test.YtmpokodceiaopaaGreatV3
import Derived.Test.YtmpokodceiaopaaGreatProg
import Derived.Test.YtmpokodceiaopaaGreatV4
set_option maxHeartbeats 64000000
set_option linter.unusedVariables false
set_option linter.unusedSimpArgs false
open List renaming forall_mem_cons → w18
section
namespace Go.Proofs.W
open Go.Vs Go.Vs.Sn
set_option maxRecDepth 1000000
theorem zl279:zr269.length=19:=by kernel_rfl
theorem zp280:E g0 10000 19 zc271 zr269 zm270=some (outOf 1,⟨zr275,zm277⟩):=z5 (Nat.le_of_ble_eq_true rfl) zl279 zk278
theorem zf282:C g0 10001 yF [] Mem.zero=some ((G zw267),zm281):=yL (fn:=Zl) (n:=10000) 1 (Nat.le_of_ble_eq_true rfl) (by kernel_rfl) (by kernel_rfl) (by kernel_rfl) (by kernel_rfl) (by kernel_rfl) zp280 (by kernel_rfl)
theorem zl290:zr285.length=13:=by kernel_rfl
theorem zp291:E g0 10000 13 zc286 zr285 zm270=some (outOf 1,⟨zr288,zm277⟩):=z5 (Nat.le_of_ble_eq_true rfl) zl290 zk289
theorem zf292:C g0 10001 zj [] Mem.zero=some ((G zw267),zm281):=yL (fn:=ye) (n:=10000) 1 (Nat.le_of_ble_eq_true rfl) (by kernel_rfl) (by kernel_rfl) (by kernel_rfl) (by kernel_rfl) (by kernel_rfl) zp291 (by kernel_rfl)
theorem zl312:zr303.length=53:=by kernel_rfl
theorem zp313:E g1 10000 53 zc304 zr303 zm270=some (outOf 1,⟨zr308,zm310⟩):=z5 (Nat.le_of_ble_eq_true rfl) zl312 zk311
theorem zf316:C g1 10001 zq [(G zw298)] Mem.zero=some ((.tup zw314),zm315):=yL (fn:=xC) (n:=10000) 1 (Nat.le_of_ble_eq_true rfl) (by kernel_rfl) (by kernel_rfl) (by kernel_rfl) (by kernel_rfl) (by kernel_rfl) zp313 (by kernel_rfl)
theorem zl326:zr320.length=53:=by kernel_rfl
theorem zp327:E g1 10000 53 zc304 zr320 zm270=some (outOf 1,⟨zr322,zm324⟩):=z5 (Nat.le_of_ble_eq_true rfl) zl326 zk325
theorem zf329:C g1 10001 zq [zv318] Mem.zero=some ((.tup [.nils,(i 8)]),zm328):=yL (fn:=xC) (n:=10000) 1 (Nat.le_of_ble_eq_true rfl) (by kernel_rfl) (by kernel_rfl) (by kernel_rfl) (by kernel_rfl) (by kernel_rfl) zp327 (by kernel_rfl)
theorem zl340:zr332.length=11:=by kernel_rfl
theorem zp341:E g1 10000 11 zc333 zr332 zm270=some (outOf 1,⟨zr336,zm338⟩):=z5 (Nat.le_of_ble_eq_true rfl) zl340 zk339
theorem zf343:C g1 10001 zA [(G zw298)] Mem.zero=some ((i 0),zm342):=yL (fn:=uZ) (n:=10000) 1 (Nat.le_of_ble_eq_true rfl) (by kernel_rfl) (by kernel_rfl) (by kernel_rfl) (by kernel_rfl) (by kernel_rfl) zp341 (by kernel_rfl)
theorem zl353:zr346.length=13:=by kernel_rfl
theorem zp354:E g2 10000 13 zc347 zr346 zm270=some (outOf 1,⟨zr350,zm351⟩):=z5 (Nat.le_of_ble_eq_true rfl) zl353 zk352
theorem zf356:C g2 10001 vf [(G zw298)] Mem.zero=some ((i 0),zm355):=yL (fn:=t6) (n:=10000) 1 (Nat.le_of_ble_eq_true rfl) (by kernel_rfl) (by kernel_rfl) (by kernel_rfl) (by kernel_rfl) (by kernel_rfl) zp354 (by kernel_rfl)
theorem zl368:zr361.length=45:=by kernel_rfl
theorem zp369:E g2 10000 45 zc362 zr361 zm270=some (outOf 1,⟨zr365,zm366⟩):=z5 (Nat.le_of_ble_eq_true rfl) zl368 zk367
theorem zf371:C g2 10001 zN [(G zw298),(q 0)] Mem.zero=some (zv358,zm370):=yL (fn:=vM) (n:=10000) 1 (Nat.le_of_ble_eq_true rfl) (by kernel_rfl) (by kernel_rfl) (by kernel_rfl) (by kernel_rfl) (by kernel_rfl) zp369 (by kernel_rfl)
theorem zl380:zr374.length=45:=by kernel_rfl
theorem zp381:E g2 10000 45 zc362 zr374 zm270=some (outOf 1,⟨zr378,zm366⟩):=z5 (Nat.le_of_ble_eq_true rfl) zl380 zk379
theorem zf382:C g2 10001 zN [(G zw298),(q 256)] Mem.zero=some (zv348,zm370):=yL (fn:=vM) (n:=10000) 1 (Nat.le_of_ble_eq_true rfl) (by kernel_rfl) (by kernel_rfl) (by kernel_rfl) (by kernel_rfl) (by kernel_rfl) zp381 (by kernel_rfl)
theorem zl389:zr384.length=253:=by kernel_rfl
theorem zp390:E g3 10000 253 (spT 1 zc385) zr384 zm270=some (outOf 0,⟨zr387,zm270⟩):=z5 (Nat.le_of_ble_eq_true rfl) zl389 zk388
theorem zl396:zr387.length=253:=by kernel_rfl
theorem zp397:E g3 10000 253 (spT 1 zc392) zr387 zm270=some (outOf 0,⟨zr394,zm270⟩):=z5 (Nat.le_of_ble_eq_true rfl) zl396 zk395
theorem zl403:zr394.length=253:=by kernel_rfl
theorem zp404:E g3 10000 253 (spT 1 (sL (sL zc398))) zr394 zm270=some (outOf 0,⟨zr401,zm270⟩):=z5 (Nat.le_of_ble_eq_true rfl) zl403 zk402
theorem zl427:zr401.length=253:=by kernel_rfl
theorem zp428:E g3 10000 253 (spT 3 (sL zc406)) zr401 zm270=some (outOf 0,⟨zr412,zm425⟩):=z5 (Nat.le_of_ble_eq_true rfl) zl427 zk426
theorem zl436:zr412.length=253:=by kernel_rfl
theorem zp437:E g3 10000 253 (sT 6 zc430) zr412 zm425=some (outOf 0,⟨zr433,zm434⟩):=z5 (Nat.le_of_ble_eq_true rfl) zl436 zk435
theorem zl443:zr433.length=253:=by kernel_rfl
theorem zp444:E g3 10000 253 zc438 zr433 zm434=some (outOf 0,⟨zr440,zm441⟩):=z5 (Nat.le_of_ble_eq_true rfl) zl443 zk442
theorem zp445:E g3 10000 253 zc430 zr412 zm425=some (outOf 0,⟨zr440,zm441⟩):=zr 6 zp437 zp444
theorem zl448:zr440.length=253:=by kernel_rfl
theorem zp449:E g3 10000 253 zc446 zr440 zm441=some (outOf 0,⟨zr440,zm441⟩):=z5 (Nat.le_of_ble_eq_true rfl) zl448 zk447
theorem zp450:E g3 10000 253 zc429 zr412 zm425=some (outOf 0,⟨zr440,zm441⟩):=zQ (by kernel_rfl) zp445 zp449
theorem zp451:E g3 10000 253 (sL zc406) zr401 zm270=some (outOf 0,⟨zr440,zm441⟩):=yn 3 _ zp428 zp450
theorem zp452:E g3 10000 253 zc406 zr401 zm270=some (outOf 0,⟨zr440,zm441⟩):=Z4 (i:=1) (by kernel_rfl) zp451
theorem zp458:E g3 10000 253 zc453 zr440 zm441=some (outOf 0,⟨zr456,zm441⟩):=z5 (Nat.le_of_ble_eq_true rfl) zl448 zk457
theorem zp459:E g3 10000 253 zc405 zr401 zm270=some (outOf 0,⟨zr456,zm441⟩):=zQ (by kernel_rfl) zp452 zp458
theorem zp460:E g3 10000 253 (sL (sL zc398)) zr394 zm270=some (outOf 0,⟨zr456,zm441⟩):=yn 1 _ zp404 zp459
theorem zl465:zr456.length=253:=by kernel_rfl
theorem zp466:E g3 10000 253 (spT 1 (sL (sL zc398))) zr456 zm461=some (outOf 0,⟨zr463,zm461⟩):=z5 (Nat.le_of_ble_eq_true rfl) zl465 zk464
theorem zl481:zr463.length=253:=by kernel_rfl
theorem zp482:E g3 10000 253 (spT 3 (sL zc406)) zr463 zm461=some (outOf 0,⟨zr471,zm479⟩):=z5 (Nat.le_of_ble_eq_true rfl) zl481 zk480
theorem zl488:zr471.length=253:=by kernel_rfl
theorem zp489:E g3 10000 253 (sT 6 zc430) zr471 zm479=some (outOf 0,⟨zr485,zm486⟩):=z5 (Nat.le_of_ble_eq_true rfl) zl488 zk487
theorem zl494:zr485.length=253:=by kernel_rfl
theorem zp495:E g3 10000 253 zc438 zr485 zm486=some (outOf 0,⟨zr491,zm492⟩):=z5 (Nat.le_of_ble_eq_true rfl) zl494 zk493
theorem zp496:E g3 10000 253 zc430 zr471 zm479=some (outOf 0,⟨zr491,zm492⟩):=zr 6 zp489 zp495
theorem zl498:zr491.length=253:=by kernel_rfl
theorem zp499:E g3 10000 253 zc446 zr491 zm492=some (outOf 0,⟨zr491,zm492⟩):=z5 (Nat.le_of_ble_eq_true rfl) zl498 zk497
theorem zp500:E g3 10000 253 zc429 zr471 zm479=some (outOf 0,⟨zr491,zm492⟩):=zQ (by kernel_rfl) zp496 zp499
theorem zp501:E g3 10000 253 (sL zc406) zr463 zm461=some (outOf 0,⟨zr491,zm492⟩):=yn 3 _ zp482 zp500
theorem zp502:E g3 10000 253 zc406 zr463 zm461=some (outOf 0,⟨zr491,zm492⟩):=Z4 (i:=1) (by kernel_rfl) zp501
theorem zp507:E g3 10000 253 zc453 zr491 zm492=some (outOf 0,⟨zr505,zm492⟩):=z5 (Nat.le_of_ble_eq_true rfl) zl498 zk506
theorem zp508:E g3 10000 253 zc405 zr463 zm461=some (outOf 0,⟨zr505,zm492⟩):=zQ (by kernel_rfl) zp502 zp507
theorem zp509:E g3 10000 253 (sL (sL zc398)) zr456 zm461=some (outOf 0,⟨zr505,zm492⟩):=yn 1 _ zp466 zp508
theorem zl514:zr505.length=253:=by kernel_rfl
theorem zp515:E g3 10000 253 (spT 1 (sL (sL zc398))) zr505 zm510=some (outOf 0,⟨zr512,zm510⟩):=z5 (Nat.le_of_ble_eq_true rfl) zl514 zk513
theorem zl531:zr512.length=253:=by kernel_rfl
theorem zp532:E g3 10000 253 (spT 3 (sL zc406)) zr512 zm510=some (outOf 0,⟨zr521,zm529⟩):=z5 (Nat.le_of_ble_eq_true rfl) zl531 zk530
theorem zl538:zr521.length=253:=by kernel_rfl
theorem zp539:E g3 10000 253 (sT 12 zc430) zr521 zm529=some (outOf 0,⟨zr535,zm536⟩):=z5 (Nat.le_of_ble_eq_true rfl) zl538 zk537
theorem zl543:zr535.length=253:=by kernel_rfl
theorem zp544:E g3 10000 253 zc540 zr535 zm536=some (outOf 0,⟨zr535,zm541⟩):=z5 (Nat.le_of_ble_eq_true rfl) zl543 zk542
theorem zp545:E g3 10000 253 zc430 zr521 zm529=some (outOf 0,⟨zr535,zm541⟩):=zr 12 zp539 zp544
theorem zp547:E g3 10000 253 zc446 zr535 zm541=some (outOf 0,⟨zr535,zm541⟩):=z5 (Nat.le_of_ble_eq_true rfl) zl543 zk546
theorem zp548:E g3 10000 253 zc429 zr521 zm529=some (outOf 0,⟨zr535,zm541⟩):=zQ (by kernel_rfl) zp545 zp547
theorem zp549:E g3 10000 253 (sL zc406) zr512 zm510=some (outOf 0,⟨zr535,zm541⟩):=yn 3 _ zp532 zp548
theorem zp550:E g3 10000 253 zc406 zr512 zm510=some (outOf 0,⟨zr535,zm541⟩):=Z4 (i:=1) (by kernel_rfl) zp549
theorem zp555:E g3 10000 253 zc453 zr535 zm541=some (outOf 0,⟨zr553,zm541⟩):=z5 (Nat.le_of_ble_eq_true rfl) zl543 zk554
theorem zp556:E g3 10000 253 zc405 zr512 zm510=some (outOf 0,⟨zr553,zm541⟩):=zQ (by kernel_rfl) zp550 zp555
theorem zp557:E g3 10000 253 (sL (sL zc398)) zr505 zm510=some (outOf 0,⟨zr553,zm541⟩):=yn 1 _ zp515 zp556
theorem zl562:zr553.length=253:=by kernel_rfl
theorem zp563:E g3 10000 253 (spT 1 (sL (sL zc398))) zr553 zm558=some (outOf 0,⟨zr560,zm558⟩):=z5 (Nat.le_of_ble_eq_true rfl) zl562 zk561
theorem zl581:zr560.length=253:=by kernel_rfl
theorem zp582:E g3 10000 253 (spT 3 (sL zc406)) zr560 zm558=some (outOf 0,⟨zr571,zm579⟩):=z5 (Nat.le_of_ble_eq_true rfl) zl581 zk580
theorem zl588:zr571.length=253:=by kernel_rfl
theorem zp589:E g3 10000 253 (sT 6 zc430) zr571 zm579=some (outOf 0,⟨zr585,zm586⟩):=z5 (Nat.le_of_ble_eq_true rfl) zl588 zk587
theorem zl594:zr585.length=253:=by kernel_rfl
theorem zp595:E g3 10000 253 zc438 zr585 zm586=some (outOf 0,⟨zr591,zm592⟩):=z5 (Nat.le_of_ble_eq_true rfl) zl594 zk593
theorem zp596:E g3 10000 253 zc430 zr571 zm579=some (outOf 0,⟨zr591,zm592⟩):=zr 6 zp589 zp595
theorem zl598:zr591.length=253:=by kernel_rfl
theorem zp599:E g3 10000 253 zc446 zr591 zm592=some (outOf 0,⟨zr591,zm592⟩):=z5 (Nat.le_of_ble_eq_true rfl) zl598 zk597
theorem zp600:E g3 10000 253 zc429 zr571 zm579=some (outOf 0,⟨zr591,zm592⟩):=zQ (by kernel_rfl) zp596 zp599
theorem zp601:E g3 10000 253 (sL zc406) zr560 zm558=some (outOf 0,⟨zr591,zm592⟩):=yn 3 _ zp582 zp600
theorem zp602:E g3 10000 253 zc406 zr560 zm558=some (outOf 0,⟨zr591,zm592⟩):=Z4 (i:=1) (by kernel_rfl) zp601
theorem zp607:E g3 10000 253 zc453 zr591 zm592=some (outOf 0,⟨zr605,zm592⟩):=z5 (Nat.le_of_ble_eq_true rfl) zl598 zk606
theorem zp608:E g3 10000 253 zc405 zr560 zm558=some (outOf 0,⟨zr605,zm592⟩):=zQ (by kernel_rfl) zp602 zp607
theorem zp609:E g3 10000 253 (sL (sL zc398)) zr553 zm558=some (outOf 0,⟨zr605,zm592⟩):=yn 1 _ zp563 zp608
theorem zl614:zr605.length=253:=by kernel_rfl
theorem zp615:E g3 10000 253 (spT 1 (sL (sL zc398))) zr605 zm610=some (outOf 0,⟨zr612,zm610⟩):=z5 (Nat.le_of_ble_eq_true rfl) zl614 zk613
theorem zl632:zr612.length=253:=by kernel_rfl
theorem zp633:E g3 10000 253 (spT 3 (sL zc406)) zr612 zm610=some (outOf 0,⟨zr623,zm630⟩):=z5 (Nat.le_of_ble_eq_true rfl) zl632 zk631
theorem zl639:zr623.length=253:=by kernel_rfl
theorem zp640:E g3 10000 253 (sT 6 zc430) zr623 zm630=some (outOf 0,⟨zr636,zm637⟩):=z5 (Nat.le_of_ble_eq_true rfl) zl639 zk638
theorem zl645:zr636.length=253:=by kernel_rfl
theorem zp646:E g3 10000 253 zc438 zr636 zm637=some (outOf 0,⟨zr642,zm643⟩):=z5 (Nat.le_of_ble_eq_true rfl) zl645 zk644
theorem zp647:E g3 10000 253 zc430 zr623 zm630=some (outOf 0,⟨zr642,zm643⟩):=zr 6 zp640 zp646
theorem zl649:zr642.length=253:=by kernel_rfl
theorem zp650:E g3 10000 253 zc446 zr642 zm643=some (outOf 0,⟨zr642,zm643⟩):=z5 (Nat.le_of_ble_eq_true rfl) zl649 zk648
theorem zp651:E g3 10000 253 zc429 zr623 zm630=some (outOf 0,⟨zr642,zm643⟩):=zQ (by kernel_rfl) zp647 zp650
theorem zp652:E g3 10000 253 (sL zc406) zr612 zm610=some (outOf 0,⟨zr642,zm643⟩):=yn 3 _ zp633 zp651
theorem zp653:E g3 10000 253 zc406 zr612 zm610=some (outOf 0,⟨zr642,zm643⟩):=Z4 (i:=1) (by kernel_rfl) zp652
theorem zp658:E g3 10000 253 zc453 zr642 zm643=some (outOf 0,⟨zr656,zm643⟩):=z5 (Nat.le_of_ble_eq_true rfl) zl649 zk657
theorem zp659:E g3 10000 253 zc405 zr612 zm610=some (outOf 0,⟨zr656,zm643⟩):=zQ (by kernel_rfl) zp653 zp658
theorem zp660:E g3 10000 253 (sL (sL zc398)) zr605 zm610=some (outOf 0,⟨zr656,zm643⟩):=yn 1 _ zp615 zp659
theorem zl666:zr656.length=253:=by kernel_rfl
theorem zp667:E g3 10000 253 (sL (sL zc398)) zr656 zm661=some (outOf 2,⟨zr664,zm661⟩):=z5 (Nat.le_of_ble_eq_true rfl) zl666 zk665
theorem zp668:LI g3 10000 253 0 (sL zc398) [1] 9995 zr656 zm643=some (outOf 2,⟨zr664,zm661⟩):=z8e (k:=9994) (outOf 2) rfl rfl (Nat.le_of_ble_eq_true rfl) zl666 (by kernel_rfl) zp667
theorem zp669:LI g3 10000 253 0 (sL zc398) [1] 9996 zr605 zm592=some (outOf 2,⟨zr664,zm661⟩):=kD (k:=9995) rfl (Nat.le_of_ble_eq_true rfl) zl614 (by kernel_rfl) zp660 zp668
theorem zp670:LI g3 10000 253 0 (sL zc398) [1] 9997 zr553 zm541=some (outOf 2,⟨zr664,zm661⟩):=kD (k:=9996) rfl (Nat.le_of_ble_eq_true rfl) zl562 (by kernel_rfl) zp609 zp669
theorem zp671:LI g3 10000 253 0 (sL zc398) [1] 9998 zr505 zm492=some (outOf 2,⟨zr664,zm661⟩):=kD (k:=9997) rfl (Nat.le_of_ble_eq_true rfl) zl514 (by kernel_rfl) zp557 zp670
theorem zp672:LI g3 10000 253 0 (sL zc398) [1] 9999 zr456 zm441=some (outOf 2,⟨zr664,zm661⟩):=kD (k:=9998) rfl (Nat.le_of_ble_eq_true rfl) zl465 (by kernel_rfl) zp509 zp671
theorem zp673:LI g3 10000 253 0 (sL zc398) [1] 10000 zr394 zm270=some (outOf 2,⟨zr664,zm661⟩):=kD (k:=9999) rfl (Nat.le_of_ble_eq_true rfl) zl403 (by kernel_rfl) zp460 zp672
theorem zp674:E g3 10000 253 (sL zc398) zr394 zm270=some (outOf 2,⟨zr664,zm661⟩):=z8p (nb:=0) (live:=[1]) (by kernel_rfl) (by kernel_rfl) zp673
theorem zp675:E g3 10000 253 zc398 zr394 zm270=some (outOf 0,⟨zr664,zm661⟩):=z7V (i:=0) (by kernel_rfl) zp674
theorem zp676:E g3 10000 253 zc392 zr387 zm270=some (outOf 0,⟨zr664,zm661⟩):=yn 1 _ zp397 zp675
theorem zl694:zr664.length=253:=by kernel_rfl
theorem zp695:E g3 10000 253 (spT 3 zc677) zr664 zm661=some (outOf 0,⟨zr684,zm692⟩):=z5 (Nat.le_of_ble_eq_true rfl) zl694 zk693
theorem zl701:zr684.length=253:=by kernel_rfl
theorem zp702:E g3 10000 253 (sT 1 zc697) zr684 zm692=some (outOf 0,⟨zr699,zm692⟩):=z5 (Nat.le_of_ble_eq_true rfl) zl701 zk700
theorem zl714:zr706.length=26:=by kernel_rfl
theorem zp715:E g3 9999 26 (spT 3 zc708) zr706 zm707=some (outOf 0,⟨zr710,zm712⟩):=z5 (Nat.le_of_ble_eq_true rfl) zl714 zk713
theorem zl720:zr710.length=26:=by kernel_rfl
theorem zp721:E g3 9999 26 zc716 zr710 zm712=some (outOf 1,⟨zr717,zm718⟩):=z5 (Nat.le_of_ble_eq_true rfl) zl720 zk719
theorem zp722:E g3 9999 26 zc708 zr706 zm707=some (outOf 1,⟨zr717,zm718⟩):=yn 3 _ zp715 zp721
theorem zf724:C g3 10000 z6 [(G zw682)] zm692=some ((i 0),zm723):=yL (fn:=xz) (n:=9999) 1 (Nat.le_of_ble_eq_true rfl) (by kernel_rfl) (by kernel_rfl) (by kernel_rfl) (by kernel_rfl) (by kernel_rfl) zp722 (by kernel_rfl)
theorem zp727:E g3 10000 253 zc704 zr699 zm692=some (outOf 0,⟨zr726,zm723⟩):=Us (d:=93) (f:=z6) (fl:=false) (xs:=[.t 92]) (av:=[(G zw682)]) (r:=(i 0)) (by kernel_rfl) (by kernel_rfl) zf724 (by kernel_rfl)
theorem zl732:zr726.length=253:=by kernel_rfl
theorem zp733:E g3 10000 253 zc728 zr726 zm723=some (outOf 0,⟨zr730,zm723⟩):=z5 (Nat.le_of_ble_eq_true rfl) zl732 zk731
theorem zp734:E g3 10000 253 zc703 zr699 zm692=some (outOf 0,⟨zr730,zm723⟩):=zr 1 zp727 zp733
theorem zp735:E g3 10000 253 zc697 zr684 zm692=some (outOf 0,⟨zr730,zm723⟩):=zr 1 zp702 zp734
theorem zl748:zr730.length=253:=by kernel_rfl
theorem zp749:E g3 10000 253 (spT 3 zc736) zr730 zm723=some (outOf 0,⟨zr740,zm746⟩):=z5 (Nat.le_of_ble_eq_true rfl) zl748 zk747
theorem zl755:zr740.length=253:=by kernel_rfl
theorem zp756:E g3 10000 253 (sT 1 zc751) zr740 zm746=some (outOf 0,⟨zr753,zm746⟩):=z5 (Nat.le_of_ble_eq_true rfl) zl755 zk754
theorem zp765:E g3 9999 26 (spT 3 zc708) zr706 zm759=some (outOf 0,⟨zr761,zm763⟩):=z5 (Nat.le_of_ble_eq_true rfl) zl714 zk764
theorem zl769:zr761.length=26:=by kernel_rfl
theorem zp770:E g3 9999 26 zc716 zr761 zm763=some (outOf 1,⟨zr766,zm767⟩):=z5 (Nat.le_of_ble_eq_true rfl) zl769 zk768
theorem zp771:E g3 9999 26 zc708 zr706 zm759=some (outOf 1,⟨zr766,zm767⟩):=yn 3 _ zp765 zp770
theorem zf773:C g3 10000 z6 [(G zw682)] zm746=some ((i 0),zm772):=yL (fn:=xz) (n:=9999) 1 (Nat.le_of_ble_eq_true rfl) (by kernel_rfl) (by kernel_rfl) (by kernel_rfl) (by kernel_rfl) (by kernel_rfl) zp771 (by kernel_rfl)
theorem zp776:E g3 10000 253 zc758 zr753 zm746=some (outOf 0,⟨zr775,zm772⟩):=Us (d:=105) (f:=z6) (fl:=false) (xs:=[.t 104]) (av:=[(G zw682)]) (r:=(i 0)) (by kernel_rfl) (by kernel_rfl) zf773 (by kernel_rfl)
theorem zl781:zr775.length=253:=by kernel_rfl
theorem zp782:E g3 10000 253 zc777 zr775 zm772=some (outOf 0,⟨zr779,zm772⟩):=z5 (Nat.le_of_ble_eq_true rfl) zl781 zk780
theorem zp783:E g3 10000 253 zc757 zr753 zm746=some (outOf 0,⟨zr779,zm772⟩):=zr 1 zp776 zp782
theorem zp784:E g3 10000 253 zc751 zr740 zm746=some (outOf 0,⟨zr779,zm772⟩):=zr 1 zp756 zp783
theorem zl795:zr779.length=253:=by kernel_rfl
theorem zp796:E g3 10000 253 (spT 3 zc785) zr779 zm772=some (outOf 0,⟨zr788,zm793⟩):=z5 (Nat.le_of_ble_eq_true rfl) zl795 zk794
theorem zl820:zr788.length=253:=by kernel_rfl
theorem zp821:E g3 10000 253 (spT 6 zc797) zr788 zm793=some (outOf 0,⟨zr808,zm818⟩):=z5 (Nat.le_of_ble_eq_true rfl) zl820 zk819
theorem zl827:zr808.length=253:=by kernel_rfl
theorem zp828:E g3 10000 253 (sT 1 zc823) zr808 zm818=some (outOf 0,⟨zr825,zm818⟩):=z5 (Nat.le_of_ble_eq_true rfl) zl827 zk826
theorem zl839:zr832.length=26:=by kernel_rfl
theorem zp840:E g3 9999 26 (spT 3 zc708) zr832 zm833=some (outOf 0,⟨zr835,zm837⟩):=z5 (Nat.le_of_ble_eq_true rfl) zl839 zk838
theorem zl844:zr835.length=26:=by kernel_rfl
theorem zp845:E g3 9999 26 zc716 zr835 zm837=some (outOf 1,⟨zr841,zm842⟩):=z5 (Nat.le_of_ble_eq_true rfl) zl844 zk843
theorem zp846:E g3 9999 26 zc708 zr832 zm833=some (outOf 1,⟨zr841,zm842⟩):=yn 3 _ zp840 zp845
theorem zf848:C g3 10000 z6 [(G zw815)] zm818=some ((i 0),zm847):=yL (fn:=xz) (n:=9999) 1 (Nat.le_of_ble_eq_true rfl) (by kernel_rfl) (by kernel_rfl) (by kernel_rfl) (by kernel_rfl) (by kernel_rfl) zp846 (by kernel_rfl)
theorem zp851:E g3 10000 253 zc830 zr825 zm818=some (outOf 0,⟨zr850,zm847⟩):=Us (d:=144) (f:=z6) (fl:=false) (xs:=[.t 143]) (av:=[(G zw815)]) (r:=(i 0)) (by kernel_rfl) (by kernel_rfl) zf848 (by kernel_rfl)
theorem zl856:zr850.length=253:=by kernel_rfl
theorem zp857:E g3 10000 253 zc852 zr850 zm847=some (outOf 0,⟨zr854,zm847⟩):=z5 (Nat.le_of_ble_eq_true rfl) zl856 zk855
theorem zp858:E g3 10000 253 zc829 zr825 zm818=some (outOf 0,⟨zr854,zm847⟩):=zr 1 zp851 zp857
theorem zp859:E g3 10000 253 zc823 zr808 zm818=some (outOf 0,⟨zr854,zm847⟩):=zr 1 zp828 zp858
theorem zl885:zr854.length=253:=by kernel_rfl
theorem zp886:E g3 10000 253 (spT 10 zc860) zr854 zm847=some (outOf 0,⟨zr876,zm883⟩):=z5 (Nat.le_of_ble_eq_true rfl) zl885 zk884
theorem zl896:zr876.length=253:=by kernel_rfl
theorem zp897:E g3 10000 253 (spT 2 zc887) zr876 zm883=some (outOf 0,⟨zr890,zm894⟩):=z5 (Nat.le_of_ble_eq_true rfl) zl896 zk895
theorem zl906:zr890.length=253:=by kernel_rfl
theorem zp907:E g3 10000 253 (spT 4 zc898) zr890 zm894=some (outOf 0,⟨zr901,zm904⟩):=z5 (Nat.le_of_ble_eq_true rfl) zl906 zk905
theorem zl924:zr911.length=24:=by kernel_rfl
theorem zp925:E g3 9999 24 (spT 3 zc913) zr911 zm912=some (outOf 0,⟨zr919,zm922⟩):=z5 (Nat.le_of_ble_eq_true rfl) zl924 zk923
theorem zl953:zr919.length=24:=by kernel_rfl
theorem zp954:E g3 9999 24 (sT 11 zc927) zr919 zm922=some (outOf 0,⟨zr946,zm951⟩):=z5 (Nat.le_of_ble_eq_true rfl) zl953 zk952
theorem zl971:zr946.length=24:=by kernel_rfl
theorem zp972:E g3 9999 24 (sT 5 zc955) zr946 zm951=some (outOf 0,⟨zr963,zm969⟩):=z5 (Nat.le_of_ble_eq_true rfl) zl971 zk970
theorem zl978:zr963.length=24:=by kernel_rfl
theorem zp979:E g3 9999 24 zc973 zr963 zm969=some (outOf 0,⟨zr975,zm976⟩):=z5 (Nat.le_of_ble_eq_true rfl) zl978 zk977
theorem zp980:E g3 9999 24 zc955 zr946 zm951=some (outOf 0,⟨zr975,zm976⟩):=zr 5 zp972 zp979
theorem zp981:E g3 9999 24 zc927 zr919 zm922=some (outOf 0,⟨zr975,zm976⟩):=zr 11 zp954 zp980
theorem zl984:zr975.length=24:=by kernel_rfl
theorem zp985:E g3 9999 24 zc982 zr975 zm976=some (outOf 1,⟨zr975,zm976⟩):=z5 (Nat.le_of_ble_eq_true rfl) zl984 zk983
theorem zp986:E g3 9999 24 zc926 zr919 zm922=some (outOf 1,⟨zr975,zm976⟩):=zQ (by kernel_rfl) zp981 zp985
theorem zp987:E g3 9999 24 zc913 zr911 zm912=some (outOf 1,⟨zr975,zm976⟩):=yn 3 _ zp925 zp986
theorem zf989:C g3 10000 yi [] zm904=some (T,zm988):=yL (fn:=yf) (n:=9999) 1 (Nat.le_of_ble_eq_true rfl) (by kernel_rfl) (by kernel_rfl) (by kernel_rfl) (by kernel_rfl) (by kernel_rfl) zp987 (by kernel_rfl)
theorem zp992:E g3 10000 253 zc910 zr901 zm904=some (outOf 0,⟨zr991,zm988⟩):=Us (d:=188) (f:=yi) (fl:=false) (xs:=[]) (av:=[]) (r:=T) (by kernel_rfl) (by kernel_rfl) zf989 (by kernel_rfl)
theorem zl1001:zr991.length=253:=by kernel_rfl
theorem zp1002:E g3 10000 253 zc993 zr991 zm988=some (outOf 0,⟨zr999,zm988⟩):=z5 (Nat.le_of_ble_eq_true rfl) zl1001 zk1000
theorem zp1003:E g3 10000 253 zc909 zr901 zm904=some (outOf 0,⟨zr999,zm988⟩):=zr 1 zp992 zp1002
theorem zl1006:zr999.length=253:=by kernel_rfl
theorem zp1007:E g3 10000 253 zc1004 zr999 zm988=some (outOf 1,⟨zr999,zm988⟩):=z5 (Nat.le_of_ble_eq_true rfl) zl1006 zk1005
theorem zp1008:E g3 10000 253 zc908 zr901 zm904=some (outOf 1,⟨zr999,zm988⟩):=zQ (by kernel_rfl) zp1003 zp1007
theorem zp1009:E g3 10000 253 zc898 zr890 zm894=some (outOf 1,⟨zr999,zm988⟩):=yn 4 _ zp907 zp1008
theorem zp1010:E g3 10000 253 zc887 zr876 zm883=some (outOf 1,⟨zr999,zm988⟩):=yn 2 _ zp897 zp1009
theorem zp1011:E g3 10000 253 zc860 zr854 zm847=some (outOf 1,⟨zr999,zm988⟩):=yn 10 _ zp886 zp1010
theorem zp1012:E g3 10000 253 zc822 zr808 zm818=some (outOf 1,⟨zr999,zm988⟩):=zQ (by kernel_rfl) zp859 zp1011
theorem zp1013:E g3 10000 253 zc797 zr788 zm793=some (outOf 1,⟨zr999,zm988⟩):=yn 6 _ zp821 zp1012
theorem zp1014:E g3 10000 253 zc785 zr779 zm772=some (outOf 1,⟨zr999,zm988⟩):=yn 3 _ zp796 zp1013
theorem zp1015:E g3 10000 253 zc750 zr740 zm746=some (outOf 1,⟨zr999,zm988⟩):=zQ (by kernel_rfl) zp784 zp1014
theorem zp1016:E g3 10000 253 zc736 zr730 zm723=some (outOf 1,⟨zr999,zm988⟩):=yn 3 _ zp749 zp1015
theorem zp1017:E g3 10000 253 zc696 zr684 zm692=some (outOf 1,⟨zr999,zm988⟩):=zQ (by kernel_rfl) zp735 zp1016
theorem zp1018:E g3 10000 253 zc677 zr664 zm661=some (outOf 1,⟨zr999,zm988⟩):=yn 3 _ zp695 zp1017
theorem zp1019:E g3 10000 253 zc391 zr387 zm270=some (outOf 1,⟨zr999,zm988⟩):=zQ (by kernel_rfl) zp676 zp1018
theorem zp1020:E g3 10000 253 zc385 zr384 zm270=some (outOf 1,⟨zr999,zm988⟩):=yn 1 _ zp390 zp1019
theorem zf1022:C g3 10001 zE [] Mem.zero=some (T,zm1021):=yL (fn:=zD) (n:=10000) 1 (Nat.le_of_ble_eq_true rfl) (by kernel_rfl) (by kernel_rfl) (by kernel_rfl) (by kernel_rfl) (by kernel_rfl) zp1020 (by kernel_rfl)
theorem top:C g3 10001 zE [] Mem.zero=some (.bool true,zm1021):=zf1022
end Go.Proofs.W
end
section
namespace Go.Proofs.W
open Go.Vs Go.Vs.U
set_option maxRecDepth 100000
theorem tabp0Ok:TabOk Tryz.prog tabp0:=by
 intro f afn h
 unfold tabp0 at h
 split at h
 ·exact tab1 (n:=vT) Tryz.func3 (by kernel_rfl) h
 ·exact tab1 (n:=kL) Tryz.func4 (by kernel_rfl) h
 ·exact tab1 (n:=z2f) Tryz.func5 (by kernel_rfl) h
 ·exact tab1 (n:=z3A) Tryz.func6 (by kernel_rfl) h
 ·exact tab1 (n:=XV) Tryz.func7 (by kernel_rfl) h
 ·exact tab1 (n:=tt) Tryz.func8 (by kernel_rfl) h
 ·exact tab1 (n:=QD) Tryz.func9 (by kernel_rfl) h
 ·exact tab1 (n:=jr) Tryz.func10 (by kernel_rfl) h
 ·exact tab1 (n:=z2v) Tryz.func11 (by kernel_rfl) h
 ·exact tab1 (n:=T3) Tryz.func12 (by kernel_rfl) h
 ·exact tab1 (n:=T2) Tryz.func13 (by kernel_rfl) h
 ·exact tab1 (n:=ZU) Tryz.func14 (by kernel_rfl) h
 ·exact tab1 (n:=ZV) Tryz.func15 (by kernel_rfl) h
 ·exact tab1 (n:=ZS) Tryz.func16 (by kernel_rfl) h
 ·exact tab1 (n:=ZT) Tryz.func17 (by kernel_rfl) h
 ·exact tab1 (n:=XU) Tryz.func18 (by kernel_rfl) h
 ·exact tab1 (n:=X9) Tryz.func19 (by kernel_rfl) h
 ·exact tab1 (n:=z2h) Tryz.func20 (by kernel_rfl) h
 ·exact tab1 (n:=je) Tryz.func21 (by kernel_rfl) h
 ·exact tab1 (n:=VT) Tryz.func22 (by kernel_rfl) h
 ·exact tab1 (n:=z0a) Tryz.func23 (by kernel_rfl) h
 ·exact tab1 (n:=z08) Tryz.func24 (by kernel_rfl) h
 ·exact tab1 (n:=z2o) Tryz.func25 (by kernel_rfl) h
 ·exact tab1 (n:=QA) Tryz.func26 (by kernel_rfl) h
 ·exact tab1 (n:=VV) Tryz.func27 (by kernel_rfl) h
 ·exact tab1 (n:=T1) Tryz.func28 (by kernel_rfl) h
 ·exact tab1 (n:=z0b) Tryz.func29 (by kernel_rfl) h
 ·exact tab1 (n:=T0) Tryz.func30 (by kernel_rfl) h
 ·exact tab1 (n:=z0c) Tryz.func31 (by kernel_rfl) h
 ·exact tab1 (n:=VP) Tryz.func32 (by kernel_rfl) h
 ·exact tab1 (n:=z2e) Tryz.func33 (by kernel_rfl) h
 ·exact tab1 (n:=VJ) Tryz.func34 (by kernel_rfl) h
 ·exact tab1 (n:=UE) Tryz.func35 (by kernel_rfl) h
 ·exact tab1 (n:=UU) Tryz.func36 (by kernel_rfl) h
 ·exact tab1 (n:=W3) Tryz.func37 (by kernel_rfl) h
 ·exact tab1 (n:=XY) Tryz.func38 (by kernel_rfl) h
 ·exact tab1 (n:=ZW) Tryz.func39 (by kernel_rfl) h
 ·exact tab1 (n:=W2) Tryz.func40 (by kernel_rfl) h
 ·exact tab1 (n:=Xj) Tryz.func41 (by kernel_rfl) h
 ·exact tab1 (n:=jf) Tryz.func42 (by kernel_rfl) h
 ·exact tab1 (n:=uv) Tryz.func43 (by kernel_rfl) h
 ·exact tab1 (n:=z3L) Tryz.func44 (by kernel_rfl) h
 ·exact tab1 (n:=z09) Tryz.func45 (by kernel_rfl) h
 ·exact tab1 (n:=QX) Tryz.func46 (by kernel_rfl) h
 ·exact tab1 (n:=XT) Tryz.func47 (by kernel_rfl) h
 ·exact tab1 (n:=QO) Tryz.func48 (by kernel_rfl) h
 ·exact tab1 (n:=yp) Tryz.func49 (by kernel_rfl) h
 ·exact tab1 (n:=VW) Tryz.func50 (by kernel_rfl) h
 ·exact tab1 (n:=UN) Tryz.func51 (by kernel_rfl) h
 ·exact tab1 (n:=z3z) Tryz.func52 (by kernel_rfl) h
 ·exact tab1 (n:=z2r) Tryz.func53 (by kernel_rfl) h
 ·exact tab1 (n:=QP) Tryz.func54 (by kernel_rfl) h
 ·exact tab1 (n:=QC) Tryz.func55 (by kernel_rfl) h
 ·exact tab1 (n:=QI) Tryz.func56 (by kernel_rfl) h
 ·exact tab1 (n:=QQ) Tryz.func57 (by kernel_rfl) h
 ·exact tab1 (n:=UI) Tryz.func58 (by kernel_rfl) h
 ·exact tab1 (n:=ZP) Tryz.func59 (by kernel_rfl) h
 ·exact tab1 (n:=W4) Tryz.func60 (by kernel_rfl) h
 ·exact tab1 (n:=z3O) Tryz.func61 (by kernel_rfl) h
 ·exact tab1 (n:=z6n) Tryz.func62 (by kernel_rfl) h
 ·exact tab1 (n:=WJ) Tryz.func63 (by kernel_rfl) h
 ·exact tab1 (n:=z0e) Tryz.func64 (by kernel_rfl) h
 ·exact tab1 (n:=XX) Tryz.func65 (by kernel_rfl) h
 ·exact tab1 (n:=jx) Tryz.func66 (by kernel_rfl) h
 ·exact tab1 (n:=Y0) Tryz.func67 (by kernel_rfl) h
 ·exact tab1 (n:=ZY) Tryz.func68 (by kernel_rfl) h
 ·exact tab1 (n:=tw) Tryz.func69 (by kernel_rfl) h
 ·exact tab1 (n:=z2n) Tryz.func70 (by kernel_rfl) h
 ·exact tab1 (n:=qi) Tryz.func71 (by kernel_rfl) h
 ·exact tab1 (n:=Y7) Tryz.func72 (by kernel_rfl) h
 ·exact tab1 (n:=Y2) Tryz.func73 (by kernel_rfl) h
 ·exact tab1 (n:=jz) Tryz.func74 (by kernel_rfl) h
 ·exact tab1 (n:=jA) Tryz.func75 (by kernel_rfl) h
 ·exact tab1 (n:=VS) Tryz.func76 (by kernel_rfl) h
 ·exact tab1 (n:=z58) Tryz.func77 (by kernel_rfl) h
 ·exact tab1 (n:=QK) Tryz.func78 (by kernel_rfl) h
 ·exact tab1 (n:=UL) Tryz.func79 (by kernel_rfl) h
 ·exact tab1 (n:=VN) Tryz.func80 (by kernel_rfl) h
 ·exact tab1 (n:=Qx) Tryz.func81 (by kernel_rfl) h
 ·exact tab1 (n:=QN) Tryz.func82 (by kernel_rfl) h
 ·exact tab1 (n:=Xb) Tryz.func83 (by kernel_rfl) h
 ·exact tab1 (n:=uO) Tryz.func84 (by kernel_rfl) h
 ·exact tab1 (n:=Y6) Tryz.func85 (by kernel_rfl) h
 ·exact tab1 (n:=z2p) Tryz.func86 (by kernel_rfl) h
 ·exact tab1 (n:=kR) Tryz.func87 (by kernel_rfl) h
 ·exact tab1 (n:=WP) Tryz.func88 (by kernel_rfl) h
 ·exact tab1 (n:=Y3) Tryz.func89 (by kernel_rfl) h
 ·exact tab1 (n:=kS) Tryz.func90 (by kernel_rfl) h
 ·exact tab1 (n:=W1) Tryz.func91 (by kernel_rfl) h
 ·exact tab1 (n:=kF) Tryz.func92 (by kernel_rfl) h
 ·exact tab1 (n:=X7) Tryz.func93 (by kernel_rfl) h
 ·exact tab1 (n:=tY) Tryz.func94 (by kernel_rfl) h
 ·exact tab1 (n:=vQ) Tryz.func95 (by kernel_rfl) h
 ·exact tab1 (n:=ux) Tryz.func96 (by kernel_rfl) h
 ·exact tab1 (n:=vS) Tryz.func97 (by kernel_rfl) h
 ·exact tab1 (n:=uw) Tryz.func98 (by kernel_rfl) h
 ·exact tab1 (n:=vR) Tryz.func99 (by kernel_rfl) h
 ·exact tab1 (n:=z07) Tryz.func100 (by kernel_rfl) h
 ·exact tab1 (n:=UT) Tryz.func101 (by kernel_rfl) h
 ·exact tab1 (n:=z06) Tryz.func102 (by kernel_rfl) h
 ·cases h
theorem tabp1Ok:TabOk Tryz.prog tabp1:=by
 intro f afn h
 unfold tabp1 at h
 split at h
 ·exact tab1 (n:=Xh) Tryz.func103 (by kernel_rfl) h
 ·exact tab1 (n:=z05) Tryz.func104 (by kernel_rfl) h
 ·exact tab1 (n:=Xe) Tryz.func105 (by kernel_rfl) h
 ·exact tab1 (n:=z04) Tryz.func106 (by kernel_rfl) h
 ·exact tab1 (n:=kP) Tryz.func107 (by kernel_rfl) h
 ·exact tab1 (n:=z03) Tryz.func108 (by kernel_rfl) h
 ·exact tab1 (n:=Xf) Tryz.func109 (by kernel_rfl) h
 ·exact tab1 (n:=z01) Tryz.func110 (by kernel_rfl) h
 ·exact tab1 (n:=Y5) Tryz.func111 (by kernel_rfl) h
 ·exact tab1 (n:=z00) Tryz.func112 (by kernel_rfl) h
 ·exact tab1 (n:=z2w) Tryz.func113 (by kernel_rfl) h
 ·exact tab1 (n:=xZ) Tryz.func114 (by kernel_rfl) h
 ·exact tab1 (n:=ZN) Tryz.func115 (by kernel_rfl) h
 ·exact tab1 (n:=ZM) Tryz.func116 (by kernel_rfl) h
 ·exact tab1 (n:=z3y) Tryz.func117 (by kernel_rfl) h
 ·exact tab1 (n:=UM) Tryz.func118 (by kernel_rfl) h
 ·exact tab1 (n:=UC) Tryz.func119 (by kernel_rfl) h
 ·exact tab1 (n:=z3B) Tryz.func120 (by kernel_rfl) h
 ·exact tab1 (n:=z2q) Tryz.func121 (by kernel_rfl) h
 ·exact tab1 (n:=QT) Tryz.func122 (by kernel_rfl) h
 ·exact tab1 (n:=zW) Tryz.func123 (by kernel_rfl) h
 ·exact tab1 (n:=VM) Tryz.func124 (by kernel_rfl) h
 ·exact tab1 (n:=UH) Tryz.func125 (by kernel_rfl) h
 ·exact tab1 (n:=WK) Tryz.func126 (by kernel_rfl) h
 ·exact tab1 (n:=UF) Tryz.func127 (by kernel_rfl) h
 ·exact tab1 (n:=UO) Tryz.func128 (by kernel_rfl) h
 ·exact tab1 (n:=z2g) Tryz.func129 (by kernel_rfl) h
 ·exact tab1 (n:=uN) Tryz.func130 (by kernel_rfl) h
 ·exact tab1 (n:=z2c) Tryz.func131 (by kernel_rfl) h
 ·exact tab1 (n:=ZO) Tryz.func132 (by kernel_rfl) h
 ·exact tab1 (n:=js) Tryz.func133 (by kernel_rfl) h
 ·exact tab1 (n:=ZQ) Tryz.func134 (by kernel_rfl) h
 ·exact tab1 (n:=QB) Tryz.func135 (by kernel_rfl) h
 ·exact tab1 (n:=VI) Tryz.func136 (by kernel_rfl) h
 ·exact tab1 (n:=z0d) Tryz.func137 (by kernel_rfl) h
 ·exact tab1 (n:=z5a) Tryz.func138 (by kernel_rfl) h
 ·exact tab1 (n:=z5b) Tryz.func139 (by kernel_rfl) h
 ·exact tab1 (n:=jy) Tryz.func140 (by kernel_rfl) h
 ·exact tab1 (n:=Qy) Tryz.func141 (by kernel_rfl) h
 ·exact tab1 (n:=VH) Tryz.func142 (by kernel_rfl) h
 ·exact tab1 (n:=z2j) Tryz.func143 (by kernel_rfl) h
 ·exact tab1 (n:=ZZ) Tryz.func144 (by kernel_rfl) h
 ·exact tab1 (n:=QV) Tryz.func145 (by kernel_rfl) h
 ·exact tab1 (n:=WO) Tryz.func146 (by kernel_rfl) h
 ·exact tab1 (n:=z3x) Tryz.func147 (by kernel_rfl) h
 ·exact tab1 (n:=Y1) Tryz.func148 (by kernel_rfl) h
 ·exact tab1 (n:=QL) Tryz.func149 (by kernel_rfl) h
 ·exact tab1 (n:=z2b) Tryz.func150 (by kernel_rfl) h
 ·exact tab1 (n:=UV) Tryz.func151 (by kernel_rfl) h
 ·exact tab1 (n:=yT) Tryz.func152 (by kernel_rfl) h
 ·exact tab1 (n:=Y4) Tryz.func153 (by kernel_rfl) h
 ·exact tab1 (n:=qd) Tryz.func154 (by kernel_rfl) h
 ·exact tab1 (n:=jq) Tryz.func155 (by kernel_rfl) h
 ·exact tab1 (n:=jh) Tryz.func156 (by kernel_rfl) h
 ·exact tab1 (n:=jg) Tryz.func157 (by kernel_rfl) h
 ·exact tab1 (n:=tV) Tryz.func158 (by kernel_rfl) h
 ·exact tab1 (n:=tq) Tryz.func159 (by kernel_rfl) h
 ·exact tab1 (n:=tp) Tryz.func160 (by kernel_rfl) h
 ·exact tab1 (n:=kE) Tryz.func161 (by kernel_rfl) h
 ·exact tab1 (n:=kQ) Tryz.func162 (by kernel_rfl) h
 ·exact tab1 (n:=jv) Tryz.func163 (by kernel_rfl) h
 ·exact tab1 (n:=ZX) Tryz.func164 (by kernel_rfl) h
 ·exact tab1 (n:=tv) Tryz.func165 (by kernel_rfl) h
 ·exact tab1 (n:=Qz) Tryz.func166 (by kernel_rfl) h
 ·exact tab1 (n:=z3I) Tryz.func167 (by kernel_rfl) h
 ·exact tab1 (n:=z3w) Tryz.func168 (by kernel_rfl) h
 ·exact tab1 (n:=qh) Tryz.func169 (by kernel_rfl) h
 ·exact tab1 (n:=UW) Tryz.func170 (by kernel_rfl) h
 ·exact tab1 (n:=jE) Tryz.func171 (by kernel_rfl) h
 ·exact tab1 (n:=qj) Tryz.func172 (by kernel_rfl) h
 ·exact tab1 (n:=uS) Tryz.func173 (by kernel_rfl) h
 ·exact tab1 (n:=z2t) Tryz.func174 (by kernel_rfl) h
 ·exact tab1 (n:=z3G) Tryz.func175 (by kernel_rfl) h
 ·exact tab1 (n:=QF) Tryz.func176 (by kernel_rfl) h
 ·exact tab1 (n:=z2s) Tryz.func177 (by kernel_rfl) h
 ·exact tab1 (n:=X8) Tryz.func178 (by kernel_rfl) h
 ·exact tab1 (n:=QM) Tryz.func179 (by kernel_rfl) h
 ·exact tab1 (n:=z3v) Tryz.func180 (by kernel_rfl) h
 ·exact tab1 (n:=z3u) Tryz.func181 (by kernel_rfl) h
 ·exact tab1 (n:=UD) Tryz.func182 (by kernel_rfl) h
 ·exact tab1 (n:=QH) Tryz.func183 (by kernel_rfl) h
 ·exact tab1 (n:=QG) Tryz.func184 (by kernel_rfl) h
 ·exact tab1 (n:=WN) Tryz.func185 (by kernel_rfl) h
 ·exact tab1 (n:=UP) Tryz.func186 (by kernel_rfl) h
 ·exact tab1 (n:=QS) Tryz.func187 (by kernel_rfl) h
 ·exact tab1 (n:=VQ) Tryz.func188 (by kernel_rfl) h
 ·exact tab1 (n:=yd) Tryz.func189 (by kernel_rfl) h
 ·exact tab1 (n:=UG) Tryz.func190 (by kernel_rfl) h
 ·exact tab1 (n:=WM) Tryz.func191 (by kernel_rfl) h
 ·exact tab1 (n:=ZR) Tryz.func192 (by kernel_rfl) h
 ·exact tab1 (n:=z2d) Tryz.func193 (by kernel_rfl) h
 ·exact tab1 (n:=z3N) Tryz.func194 (by kernel_rfl) h
 ·exact tab1 (n:=z3M) Tryz.func195 (by kernel_rfl) h
 ·exact tab1 (n:=UK) Tryz.func196 (by kernel_rfl) h
 ·exact tab1 (n:=z3E) Tryz.func197 (by kernel_rfl) h
 ·exact tab1 (n:=z3H) Tryz.func198 (by kernel_rfl) h
 ·exact tab1 (n:=VL) Tryz.func199 (by kernel_rfl) h
 ·exact tab1 (n:=z2m) Tryz.func200 (by kernel_rfl) h
 ·exact tab1 (n:=UR) Tryz.func201 (by kernel_rfl) h
 ·exact tab1 (n:=QU) Tryz.func202 (by kernel_rfl) h
 ·cases h
theorem tabp2Ok:TabOk Tryz.prog tabp2:=by
 intro f afn h
 unfold tabp2 at h
 split at h
 ·exact tab1 (n:=QW) Tryz.func203 (by kernel_rfl) h
 ·exact tab1 (n:=xw) Tryz.func204 (by kernel_rfl) h
 ·exact tab1 (n:=tr) Tryz.func205 (by kernel_rfl) h
 ·exact tab1 (n:=kG) Tryz.func206 (by kernel_rfl) h
 ·exact tab1 (n:=tW) Tryz.func207 (by kernel_rfl) h
 ·exact tab1 (n:=tX) Tryz.func208 (by kernel_rfl) h
 ·exact tab1 (n:=kK) Tryz.func209 (by kernel_rfl) h
 ·exact tab1 (n:=qe) Tryz.func210 (by kernel_rfl) h
 ·exact tab1 (n:=jk) Tryz.func211 (by kernel_rfl) h
 ·exact tab1 (n:=ji) Tryz.func212 (by kernel_rfl) h
 ·exact tab1 (n:=jw) Tryz.func213 (by kernel_rfl) h
 ·exact tab1 (n:=z2i) Tryz.func214 (by kernel_rfl) h
 ·exact tab1 (n:=VK) Tryz.func215 (by kernel_rfl) h
 ·exact tab1 (n:=Qw) Tryz.func216 (by kernel_rfl) h
 ·exact tab1 (n:=z2u) Tryz.func217 (by kernel_rfl) h
 ·exact tab1 (n:=QY) Tryz.func218 (by kernel_rfl) h
 ·exact tab1 (n:=WQ) Tryz.func219 (by kernel_rfl) h
 ·exact tab1 (n:=uP) Tryz.func220 (by kernel_rfl) h
 ·exact tab1 (n:=UZ) Tryz.func221 (by kernel_rfl) h
 ·exact tab1 (n:=jB) Tryz.func222 (by kernel_rfl) h
 ·exact tab1 (n:=jD) Tryz.func223 (by kernel_rfl) h
 ·exact tab1 (n:=uR) Tryz.func224 (by kernel_rfl) h
 ·exact tab1 (n:=vi) Tryz.func225 (by kernel_rfl) h
 ·exact tab1 (n:=vY) Tryz.func226 (by kernel_rfl) h
 ·exact tab1 (n:=Y8) Tryz.func227 (by kernel_rfl) h
 ·exact tab1 (n:=uQ) Tryz.func228 (by kernel_rfl) h
 ·exact tab1 (n:=tz) Tryz.func229 (by kernel_rfl) h
 ·exact tab1 (n:=jF) Tryz.func230 (by kernel_rfl) h
 ·exact tab1 (n:=qk) Tryz.func231 (by kernel_rfl) h
 ·exact tab1 (n:=jC) Tryz.func232 (by kernel_rfl) h
 ·exact tab1 (n:=z3K) Tryz.func233 (by kernel_rfl) h
 ·exact tab1 (n:=qg) Tryz.func234 (by kernel_rfl) h
 ·exact tab1 (n:=ql) Tryz.func235 (by kernel_rfl) h
 ·exact tab1 (n:=z3J) Tryz.func236 (by kernel_rfl) h
 ·exact tab1 (n:=UX) Tryz.func237 (by kernel_rfl) h
 ·exact tab1 (n:=UJ) Tryz.func238 (by kernel_rfl) h
 ·exact tab1 (n:=WI) Tryz.func239 (by kernel_rfl) h
 ·exact tab1 (n:=WL) Tryz.func240 (by kernel_rfl) h
 ·exact tab1 (n:=QE) Tryz.func241 (by kernel_rfl) h
 ·exact tab1 (n:=z2k) Tryz.func242 (by kernel_rfl) h
 ·exact tab1 (n:=kM) Tryz.func243 (by kernel_rfl) h
 ·exact tab1 (n:=kN) Tryz.func244 (by kernel_rfl) h
 ·exact tab1 (n:=QR) Tryz.func245 (by kernel_rfl) h
 ·exact tab1 (n:=QJ) Tryz.func246 (by kernel_rfl) h
 ·exact tab1 (n:=z3C) Tryz.func247 (by kernel_rfl) h
 ·exact tab1 (n:=z3D) Tryz.func248 (by kernel_rfl) h
 ·exact tab1 (n:=z3F) Tryz.func249 (by kernel_rfl) h
 ·exact tab1 (n:=z59) Tryz.func250 (by kernel_rfl) h
 ·exact tab1 (n:=XW) Tryz.func251 (by kernel_rfl) h
 ·exact tab1 (n:=US) Tryz.func252 (by kernel_rfl) h
 ·exact tab1 (n:=z2l) Tryz.func253 (by kernel_rfl) h
 ·exact tab1 (n:=y7) Tryz.func254 (by kernel_rfl) h
 ·exact tab1 (n:=VR) Tryz.func255 (by kernel_rfl) h
 ·exact tab1 (n:=jp) Tryz.func256 (by kernel_rfl) h
 ·exact tab1 (n:=jm) Tryz.func257 (by kernel_rfl) h
 ·exact tab1 (n:=uJ) Tryz.func258 (by kernel_rfl) h
 ·exact tab1 (n:=jj) Tryz.func259 (by kernel_rfl) h
 ·exact tab1 (n:=uK) Tryz.func260 (by kernel_rfl) h
 ·exact tab1 (n:=tZ) Tryz.func261 (by kernel_rfl) h
 ·exact tab1 (n:=QZ) Tryz.func262 (by kernel_rfl) h
 ·exact tab1 (n:=vX) Tryz.func263 (by kernel_rfl) h
 ·exact tab1 (n:=vh) Tryz.func264 (by kernel_rfl) h
 ·exact tab1 (n:=uT) Tryz.func265 (by kernel_rfl) h
 ·exact tab1 (n:=ju) Tryz.func266 (by kernel_rfl) h
 ·exact tab1 (n:=Xa) Tryz.func267 (by kernel_rfl) h
 ·exact tab1 (n:=UQ) Tryz.func268 (by kernel_rfl) h
 ·exact tab1 (n:=yq) Tryz.func269 (by kernel_rfl) h
 ·exact tab1 (n:=kJ) Tryz.func270 (by kernel_rfl) h
 ·exact tab1 (n:=qa) Tryz.func271 (by kernel_rfl) h
 ·exact tab1 (n:=uL) Tryz.func272 (by kernel_rfl) h
 ·exact tab1 (n:=jo) Tryz.func273 (by kernel_rfl) h
 ·exact tab1 (n:=qc) Tryz.func274 (by kernel_rfl) h
 ·exact tab1 (n:=jl) Tryz.func275 (by kernel_rfl) h
 ·exact tab1 (n:=kH) Tryz.func276 (by kernel_rfl) h
 ·exact tab1 (n:=jt) Tryz.func277 (by kernel_rfl) h
 ·exact tab1 (n:=uM) Tryz.func278 (by kernel_rfl) h
 ·exact tab1 (n:=vW) Tryz.func279 (by kernel_rfl) h
 ·exact tab1 (n:=jn) Tryz.func280 (by kernel_rfl) h
 ·exact tab1 (n:=X6) Tryz.func281 (by kernel_rfl) h
 ·exact tab1 (n:=qb) Tryz.func282 (by kernel_rfl) h
 ·exact tab1 (n:=kI) Tryz.func283 (by kernel_rfl) h
 ·exact tab1 (n:=vI) Tryz.func284 (by kernel_rfl) h
 ·exact tab1 (n:=VO) Tryz.func285 (by kernel_rfl) h
 ·exact tab1 (n:=xn) Tryz.func286 (by kernel_rfl) h
 ·exact tab1 (n:=vu) Tryz.func287 (by kernel_rfl) h
 ·exact tab1 (n:=xo) Tryz.func288 (by kernel_rfl) h
 ·exact tab1 (n:=xO) Tryz.func289 (by kernel_rfl) h
 ·exact tab1 (n:=xv) Tryz.func290 (by kernel_rfl) h
 ·exact tab1 (n:=yc) Tryz.func291 (by kernel_rfl) h
 ·exact tab1 (n:=UY) Tryz.func292 (by kernel_rfl) h
 ·exact tab1 (n:=x5) Tryz.func293 (by kernel_rfl) h
 ·exact tab1 (n:=vg) Tryz.func294 (by kernel_rfl) h
 ·exact tab1 (n:=W0) Tryz.func295 (by kernel_rfl) h
 ·exact tab1 (n:=XZ) Tryz.func296 (by kernel_rfl) h
 ·exact tab1 (n:=vt) Tryz.func297 (by kernel_rfl) h
 ·exact tab1 (n:=tu) Tryz.func298 (by kernel_rfl) h
 ·exact tab1 (n:=qf) Tryz.func299 (by kernel_rfl) h
 ·exact tab1 (n:=x6) Tryz.func300 (by kernel_rfl) h
 ·exact tab1 (n:=vV) Tryz.func301 (by kernel_rfl) h
 ·exact tab1 (n:=VU) Tryz.func302 (by kernel_rfl) h
 ·cases h
theorem tabp3Ok:TabOk Tryz.prog tabp3:=by
 intro f afn h
 unfold tabp3 at h
 split at h
 ·exact tab1 (n:=vU) Tryz.func303 (by kernel_rfl) h
 ·cases h
theorem tabOk:TabOk Tryz.prog tab:=by
 intro f afn h
 unfold tab at h
 cases h0:tabp0 f with
 |some a=>rw[h0] at h;exact tabp0Ok f afn (h0.trans h)
 |none=>
 rw[h0] at h
 cases h1:tabp1 f with
 |some a=>rw[h1] at h;exact tabp1Ok f afn (h1.trans h)
 |none=>
 rw[h1] at h
 cases h2:tabp2 f with
 |some a=>rw[h2] at h;exact tabp2Ok f afn (h2.trans h)
 |none=>
 rw[h2] at h
 exact tabp3Ok f afn h
end Go.Proofs.W
end
section
namespace Go.Proofs.W
open Go.Vs Go.Vs.Sn
set_option maxRecDepth 1000000
theorem mok0:MemoOk Tryz.prog g0.memo:=qm _
theorem zy283:MemoFact Tryz.prog yF [] (G zw267):=xe g0 (by kernel_rfl) tabOk mok0 10001 zf282 (by kernel_rfl)
theorem zy293:MemoFact Tryz.prog zj [] (G zw267):=xe g0 (by kernel_rfl) tabOk mok0 10001 zf292 (by kernel_rfl)
theorem mok1:MemoOk Tryz.prog g1.memo:=zm (l:=zi) (w18.2 ⟨zy293,fun _ h=>by cases h⟩) (zm (l:=yI) (w18.2 ⟨zy283,fun _ h=>by cases h⟩) (qm _))
theorem zy317:MemoFact Tryz.prog zq [(G zw298)] zv300:=xe g1 (by kernel_rfl) tabOk mok1 10001 zf316 (by kernel_rfl)
theorem zy330:MemoFact Tryz.prog zq [zv318] (.tup [.nils,(i 8)]):=xe g1 (by kernel_rfl) tabOk mok1 10001 zf329 (by kernel_rfl)
theorem zy344:MemoFact Tryz.prog zA [(G zw298)] (i 0):=xe g1 (by kernel_rfl) tabOk mok1 10001 zf343 (by kernel_rfl)
theorem mok2:MemoOk Tryz.prog g2.memo:=zm (l:=xx) (w18.2 ⟨zy344,fun _ h=>by cases h⟩) (zm (l:=yZ) (w18.2 ⟨zy317,w18.2 ⟨zy330,fun _ h=>by cases h⟩⟩) (zm (l:=zi) (w18.2 ⟨zy293,fun _ h=>by cases h⟩) (zm (l:=yI) (w18.2 ⟨zy283,fun _ h=>by cases h⟩) (qm _))))
theorem zy357:MemoFact Tryz.prog vf [(G zw298)] (i 0):=xe g2 (by kernel_rfl) tabOk mok2 10001 zf356 (by kernel_rfl)
theorem zy372:MemoFact Tryz.prog zN [(G zw298),(q 0)] zv358:=xe g2 (by kernel_rfl) tabOk mok2 10001 zf371 (by kernel_rfl)
theorem zy383:MemoFact Tryz.prog zN [(G zw298),(q 256)] zv348:=xe g2 (by kernel_rfl) tabOk mok2 10001 zf382 (by kernel_rfl)
theorem mok3:MemoOk Tryz.prog g3.memo:=zm (l:=YM) (w18.2 ⟨zy372,w18.2 ⟨zy383,fun _ h=>by cases h⟩⟩) (zm (l:=kT) (w18.2 ⟨zy357,fun _ h=>by cases h⟩) (zm (l:=xx) (w18.2 ⟨zy344,fun _ h=>by cases h⟩) (zm (l:=yZ) (w18.2 ⟨zy317,w18.2 ⟨zy330,fun _ h=>by cases h⟩⟩) (zm (l:=zi) (w18.2 ⟨zy293,fun _ h=>by cases h⟩) (zm (l:=yI) (w18.2 ⟨zy283,fun _ h=>by cases h⟩) (qm _))))))
theorem u0:Known Tryz.prog zE true:=z5l g3 (by kernel_rfl) tabOk mok3 10001 top
end Go.Proofs.W
end
