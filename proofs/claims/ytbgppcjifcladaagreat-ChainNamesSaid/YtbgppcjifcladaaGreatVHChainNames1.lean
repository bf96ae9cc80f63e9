/-
  A further part of the proof: C2Pb3, C2Pb4, C2Pb5.
-/
import Derived.Test.YtbgppcjifcladaaGreatVHChainNames0
import Derived.KernelRfl
set_option maxHeartbeats 64000000
set_option linter.unusedVariables false
set_option linter.unusedSimpArgs false
section
namespace Go.Proofs.W
open Go.Vs Go.Vs.Sn
set_option maxRecDepth 1000000
theorem zk313:KR 10000 251 (sL zc36) false 7 1 zr280 zm286=some (0,zr305,zm312):=by kernel_rfl
theorem zk339:KR 10000 251 (sL zc36) false 7 1 zr305 zm312=some (0,zr331,zm338):=by kernel_rfl
theorem zk364:KR 10000 251 (sL zc36) false 7 1 zr331 zm338=some (0,zr357,zm363):=by kernel_rfl
theorem zk390:KR 10000 251 (sL zc36) false 7 1 zr357 zm363=some (0,zr382,zm389):=by kernel_rfl
theorem zk395:K 10000 251 (sL (sL zc36)) zr382 zm392=some (2,zr394,zm392):=by kernel_rfl
theorem zk455:K 10000 251 (spT 6 zc416) zr394 zm392=some (0,zr448,zm454):=by kernel_rfl
theorem zk466:K 10000 251 (spT 5 zc458) zr448 zm454=some (0,zr464,zm465):=by kernel_rfl
theorem zk476:K 10000 251 (spT 4 zc469) zr464 zm465=some (0,zr474,zm475):=by kernel_rfl
theorem zk502:K 10000 251 (spT 4 zc479) zr474 zm475=some (0,zr494,zm501):=by kernel_rfl
theorem zk509:K 10000 251 (sT 1 zc506) zr494 zm501=some (0,zr508,zm501):=by kernel_rfl
theorem zk523:K 9999 49 (spT 4 zc518) zr516 zm517=some (0,zr520,zm522):=by kernel_rfl
theorem zk531:K 9999 49 (spT 1 zc527) zr520 zm522=some (0,zr530,zm522):=by kernel_rfl
theorem zk546:KR 9999 49 (sL zc534) false 1 103 zr530 zm522=some (0,zr544,zm545):=by kernel_rfl
end Go.Proofs.W
end
