/-
  Part 7 of the proof, shared by claims of this seat: V1Pb1.
-/
import Derived.Test.YtmpokodceiaopaaGreatV4
import Derived.KernelRfl
import Derived.Test.YtmpokodceiaopaaGreatV5
set_option maxHeartbeats 64000000
set_option linter.unusedVariables false
set_option linter.unusedSimpArgs false
section
namespace Go.Proofs.W
open Go.Vs Go.Vs.Sn
set_option maxRecDepth 1000000
theorem zk593:K g3 10000 253 zc438 zr585 zm586=some (0,zr591,zm592):=by kernel_rfl
theorem zk597:K g3 10000 253 zc446 zr591 zm592=some (0,zr591,zm592):=by kernel_rfl
theorem zk606:K g3 10000 253 zc453 zr591 zm592=some (0,zr605,zm592):=by kernel_rfl
theorem zk613:K g3 10000 253 (spT 1 (sL (sL zc398))) zr605 zm610=some (0,zr612,zm610):=by kernel_rfl
theorem zk631:K g3 10000 253 (spT 3 (sL zc406)) zr612 zm610=some (0,zr623,zm630):=by kernel_rfl
theorem zk638:K g3 10000 253 (sT 6 zc430) zr623 zm630=some (0,zr636,zm637):=by kernel_rfl
theorem zk644:K g3 10000 253 zc438 zr636 zm637=some (0,zr642,zm643):=by kernel_rfl
theorem zk648:K g3 10000 253 zc446 zr642 zm643=some (0,zr642,zm643):=by kernel_rfl
theorem zk657:K g3 10000 253 zc453 zr642 zm643=some (0,zr656,zm643):=by kernel_rfl
theorem zk665:K g3 10000 253 (sL (sL zc398)) zr656 zm661=some (2,zr664,zm661):=by kernel_rfl
theorem zk693:K g3 10000 253 (spT 3 zc677) zr664 zm661=some (0,zr684,zm692):=by kernel_rfl
theorem zk700:K g3 10000 253 (sT 1 zc697) zr684 zm692=some (0,zr699,zm692):=by kernel_rfl
theorem zk713:K g3 9999 26 (spT 3 zc708) zr706 zm707=some (0,zr710,zm712):=by kernel_rfl
theorem zk719:K g3 9999 26 zc716 zr710 zm712=some (1,zr717,zm718):=by kernel_rfl
theorem zk731:K g3 10000 253 zc728 zr726 zm723=some (0,zr730,zm723):=by kernel_rfl
theorem zk747:K g3 10000 253 (spT 3 zc736) zr730 zm723=some (0,zr740,zm746):=by kernel_rfl
theorem zk754:K g3 10000 253 (sT 1 zc751) zr740 zm746=some (0,zr753,zm746):=by kernel_rfl
theorem zk764:K g3 9999 26 (spT 3 zc708) zr706 zm759=some (0,zr761,zm763):=by kernel_rfl
theorem zk768:K g3 9999 26 zc716 zr761 zm763=some (1,zr766,zm767):=by kernel_rfl
theorem zk780:K g3 10000 253 zc777 zr775 zm772=some (0,zr779,zm772):=by kernel_rfl
theorem zk794:K g3 10000 253 (spT 3 zc785) zr779 zm772=some (0,zr788,zm793):=by kernel_rfl
end Go.Proofs.W
end
