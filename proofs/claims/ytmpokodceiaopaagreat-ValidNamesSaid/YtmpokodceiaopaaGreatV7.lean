/-
  Part 8 of the proof, shared by claims of this seat: V1Pb2.
-/
import Derived.Test.YtmpokodceiaopaaGreatV4
import Derived.KernelRfl
import Derived.Test.YtmpokodceiaopaaGreatV6
set_option maxHeartbeats 64000000
set_option linter.unusedVariables false
set_option linter.unusedSimpArgs false
section
namespace Go.Proofs.W
open Go.Vs Go.Vs.Sn
set_option maxRecDepth 1000000
theorem zk819:K g3 10000 253 (spT 6 zc797) zr788 zm793=some (0,zr808,zm818):=by kernel_rfl
theorem zk826:K g3 10000 253 (sT 1 zc823) zr808 zm818=some (0,zr825,zm818):=by kernel_rfl
theorem zk838:K g3 9999 26 (spT 3 zc708) zr832 zm833=some (0,zr835,zm837):=by kernel_rfl
theorem zk843:K g3 9999 26 zc716 zr835 zm837=some (1,zr841,zm842):=by kernel_rfl
theorem zk855:K g3 10000 253 zc852 zr850 zm847=some (0,zr854,zm847):=by kernel_rfl
theorem zk884:K g3 10000 253 (spT 10 zc860) zr854 zm847=some (0,zr876,zm883):=by kernel_rfl
theorem zk895:K g3 10000 253 (spT 2 zc887) zr876 zm883=some (0,zr890,zm894):=by kernel_rfl
theorem zk905:K g3 10000 253 (spT 4 zc898) zr890 zm894=some (0,zr901,zm904):=by kernel_rfl
theorem zk923:K g3 9999 24 (spT 3 zc913) zr911 zm912=some (0,zr919,zm922):=by kernel_rfl
theorem zk952:K g3 9999 24 (sT 11 zc927) zr919 zm922=some (0,zr946,zm951):=by kernel_rfl
theorem zk970:K g3 9999 24 (sT 5 zc955) zr946 zm951=some (0,zr963,zm969):=by kernel_rfl
theorem zk977:K g3 9999 24 zc973 zr963 zm969=some (0,zr975,zm976):=by kernel_rfl
theorem zk983:K g3 9999 24 zc982 zr975 zm976=some (1,zr975,zm976):=by kernel_rfl
theorem zk1000:K g3 10000 253 zc993 zr991 zm988=some (0,zr999,zm988):=by kernel_rfl
theorem zk1005:K g3 10000 253 zc1004 zr999 zm988=some (1,zr999,zm988):=by kernel_rfl
end Go.Proofs.W
end
