/-
  Part 6 of the proof, shared by claims of this seat: V1Pb0.
-/
import Derived.Test.YtmpokodceiaopaaGreatV4
import Derived.KernelRfl
set_option maxHeartbeats 64000000
set_option linter.unusedVariables false
set_option linter.unusedSimpArgs false
section
namespace Go.Proofs.W
open Go.Vs Go.Vs.Sn
set_option maxRecDepth 1000000
theorem zk278:K g0 10000 19 zc271 zr269 zm270=some (1,zr275,zm277):=by kernel_rfl
theorem zk289:K g0 10000 13 zc286 zr285 zm270=some (1,zr288,zm277):=by kernel_rfl
theorem zk311:K g1 10000 53 zc304 zr303 zm270=some (1,zr308,zm310):=by kernel_rfl
theorem zk325:K g1 10000 53 zc304 zr320 zm270=some (1,zr322,zm324):=by kernel_rfl
theorem zk339:K g1 10000 11 zc333 zr332 zm270=some (1,zr336,zm338):=by kernel_rfl
theorem zk352:K g2 10000 13 zc347 zr346 zm270=some (1,zr350,zm351):=by kernel_rfl
theorem zk367:K g2 10000 45 zc362 zr361 zm270=some (1,zr365,zm366):=by kernel_rfl
theorem zk379:K g2 10000 45 zc362 zr374 zm270=some (1,zr378,zm366):=by kernel_rfl
theorem zk388:K g3 10000 253 (spT 1 zc385) zr384 zm270=some (0,zr387,zm270):=by kernel_rfl
theorem zk395:K g3 10000 253 (spT 1 zc392) zr387 zm270=some (0,zr394,zm270):=by kernel_rfl
theorem zk402:K g3 10000 253 (spT 1 (sL (sL zc398))) zr394 zm270=some (0,zr401,zm270):=by kernel_rfl
theorem zk426:K g3 10000 253 (spT 3 (sL zc406)) zr401 zm270=some (0,zr412,zm425):=by kernel_rfl
theorem zk435:K g3 10000 253 (sT 6 zc430) zr412 zm425=some (0,zr433,zm434):=by kernel_rfl
theorem zk442:K g3 10000 253 zc438 zr433 zm434=some (0,zr440,zm441):=by kernel_rfl
theorem zk447:K g3 10000 253 zc446 zr440 zm441=some (0,zr440,zm441):=by kernel_rfl
theorem zk457:K g3 10000 253 zc453 zr440 zm441=some (0,zr456,zm441):=by kernel_rfl
theorem zk464:K g3 10000 253 (spT 1 (sL (sL zc398))) zr456 zm461=some (0,zr463,zm461):=by kernel_rfl
theorem zk480:K g3 10000 253 (spT 3 (sL zc406)) zr463 zm461=some (0,zr471,zm479):=by kernel_rfl
theorem zk487:K g3 10000 253 (sT 6 zc430) zr471 zm479=some (0,zr485,zm486):=by kernel_rfl
theorem zk493:K g3 10000 253 zc438 zr485 zm486=some (0,zr491,zm492):=by kernel_rfl
theorem zk497:K g3 10000 253 zc446 zr491 zm492=some (0,zr491,zm492):=by kernel_rfl
theorem zk506:K g3 10000 253 zc453 zr491 zm492=some (0,zr505,zm492):=by kernel_rfl
theorem zk513:K g3 10000 253 (spT 1 (sL (sL zc398))) zr505 zm510=some (0,zr512,zm510):=by kernel_rfl
theorem zk530:K g3 10000 253 (spT 3 (sL zc406)) zr512 zm510=some (0,zr521,zm529):=by kernel_rfl
theorem zk537:K g3 10000 253 (sT 12 zc430) zr521 zm529=some (0,zr535,zm536):=by kernel_rfl
theorem zk542:K g3 10000 253 zc540 zr535 zm536=some (0,zr535,zm541):=by kernel_rfl
theorem zk546:K g3 10000 253 zc446 zr535 zm541=some (0,zr535,zm541):=by kernel_rfl
theorem zk554:K g3 10000 253 zc453 zr535 zm541=some (0,zr553,zm541):=by kernel_rfl
theorem zk561:K g3 10000 253 (spT 1 (sL (sL zc398))) zr553 zm558=some (0,zr560,zm558):=by kernel_rfl
theorem zk580:K g3 10000 253 (spT 3 (sL zc406)) zr560 zm558=some (0,zr571,zm579):=by kernel_rfl
theorem zk587:K g3 10000 253 (sT 6 zc430) zr571 zm579=some (0,zr585,zm586):=by kernel_rfl
end Go.Proofs.W
end
