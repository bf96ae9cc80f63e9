/-
  Part 9 of the proof, shared by claims of this seat: P1Pc, P1Tie, P1Pd.
-/
import Derived.Test.YtmchgfpbddhfnaaGreatP5
import Derived.Test.YtmchgfpbddhfnaaGreatP6
import Derived.Test.YtmchgfpbddhfnaaGreatP7
import Derived.KernelRfl
import Derived.Test.YtmchgfpbddhfnaaGreatP3
import Derived.Test.YtmchgfpbddhfnaaGreatProg
import Derived.Test.YtmchgfpbddhfnaaGreatP4
set_option maxHeartbeats 64000000
set_option linter.unusedVariables false
set_option linter.unusedSimpArgs false
section
namespace Go.Proofs.W
open Go.Vs Go.Vs.Sn
set_option maxRecDepth 1000000
theorem zl279:zr269.length=19:=by kernel_rfl
theorem zp280:E g0 10000 19 zc271 zr269 zm270=some (outOf 1,⟨zr275,zm277⟩):=jN (Nat.le_of_ble_eq_true rfl) zl279 zk278
theorem zf282:C g0 10001 yP [] Mem.zero=some ((G zw267),zm281):=QL (n:=10000) 1 (Nat.le_of_ble_eq_true rfl) z0l (by kernel_rfl) (by kernel_rfl) (by kernel_rfl) (by kernel_rfl) zp280 (by kernel_rfl)
theorem zl290:zr285.length=13:=by kernel_rfl
theorem zp291:E g0 10000 13 zc286 zr285 zm270=some (outOf 1,⟨zr288,zm277⟩):=jN (Nat.le_of_ble_eq_true rfl) zl290 zk289
theorem zf292:C g0 10001 zk [] Mem.zero=some ((G zw267),zm281):=QL (n:=10000) 1 (Nat.le_of_ble_eq_true rfl) qy (by kernel_rfl) (by kernel_rfl) (by kernel_rfl) (by kernel_rfl) zp291 (by kernel_rfl)
theorem zl333:zr296.length=154:=by kernel_rfl
theorem zp334:E g1 10000 154 (spT 6 zc297) zr296 zm270=some (outOf 0,⟨zr327,zm331⟩):=jN (Nat.le_of_ble_eq_true rfl) zl333 zk332
theorem zl340:zr327.length=154:=by kernel_rfl
theorem zp341:E g1 10000 154 (spT 1 zc336) zr327 zm331=some (outOf 0,⟨zr338,zm331⟩):=jN (Nat.le_of_ble_eq_true rfl) zl340 zk339
theorem zl373:zr338.length=154:=by kernel_rfl
theorem zl399:zr366.length=154:=by kernel_rfl
theorem zl426:zr392.length=154:=by kernel_rfl
theorem zl450:zr419.length=154:=by kernel_rfl
theorem zl455:zr443.length=154:=by kernel_rfl
theorem zp456:E g1 10000 154 (sL (sL zc342)) zr443 zm451=some (outOf 2,⟨zr453,zm451⟩):=jN (Nat.le_of_ble_eq_true rfl) zl455 zk454
theorem zp457:LI g1 10000 154 7 (sL zc342) [1,3,5,7,8,9,10] 9993 zr443 zm448=some (outOf 2,⟨zr453,zm451⟩):=z5d (k:=9992) (outOf 2) rfl rfl (Nat.le_of_ble_eq_true rfl) zl455 (by kernel_rfl) zp456
theorem zp458:LI g1 10000 154 7 (sL zc342) [1,3,5,7,8,9,10] 9995 zr419 zm424=some (outOf 2,⟨zr453,zm451⟩):=WD (k:=9993) 2 false (Nat.le_of_ble_eq_true rfl) zl450 rfl rfl zk449 zp457
theorem zp459:LI g1 10000 154 7 (sL zc342) [1,3,5,7,8,9,10] 9997 zr392 zm397=some (outOf 2,⟨zr453,zm451⟩):=WD (k:=9995) 2 false (Nat.le_of_ble_eq_true rfl) zl426 rfl rfl zk425 zp458
theorem zp460:LI g1 10000 154 7 (sL zc342) [1,3,5,7,8,9,10] 9998 zr366 zm371=some (outOf 2,⟨zr453,zm451⟩):=WD (k:=9997) 1 false (Nat.le_of_ble_eq_true rfl) zl399 rfl rfl zk398 zp459
theorem zp461:LI g1 10000 154 7 (sL zc342) [1,3,5,7,8,9,10] 10000 zr338 zm331=some (outOf 2,⟨zr453,zm451⟩):=WD (k:=9998) 2 false (Nat.le_of_ble_eq_true rfl) zl373 rfl rfl zk372 zp460
theorem zp462:E g1 10000 154 (sL zc342) zr338 zm331=some (outOf 2,⟨zr453,zm451⟩):=z5o (nb:=7) (live:=[1,3,5,7,8,9,10]) (by kernel_rfl) (by kernel_rfl) zp461
theorem zp463:E g1 10000 154 zc342 zr338 zm331=some (outOf 0,⟨zr453,zm451⟩):=z4T (i:=0) (by kernel_rfl) zp462
theorem zp464:E g1 10000 154 zc336 zr327 zm331=some (outOf 0,⟨zr453,zm451⟩):=z0o 1 _ zp341 zp463
theorem zl483:zr453.length=154:=by kernel_rfl
theorem zp484:E g1 10000 154 (spT 4 zc465) zr453 zm451=some (outOf 0,⟨zr476,zm481⟩):=jN (Nat.le_of_ble_eq_true rfl) zl483 zk482
theorem zl499:zr476.length=154:=by kernel_rfl
theorem zp500:E g1 10000 154 (spT 1 zc485) zr476 zm481=some (outOf 0,⟨zr494,zm497⟩):=jN (Nat.le_of_ble_eq_true rfl) zl499 zk498
theorem zl508:zr494.length=154:=by kernel_rfl
theorem zp509:E g1 10000 154 zc501 zr494 zm497=some (outOf 1,⟨zr505,zm506⟩):=jN (Nat.le_of_ble_eq_true rfl) zl508 zk507
theorem zp510:E g1 10000 154 zc485 zr476 zm481=some (outOf 1,⟨zr505,zm506⟩):=z0o 1 _ zp500 zp509
theorem zp511:E g1 10000 154 zc465 zr453 zm451=some (outOf 1,⟨zr505,zm506⟩):=z0o 4 _ zp484 zp510
theorem zp512:E g1 10000 154 zc335 zr327 zm331=some (outOf 1,⟨zr505,zm506⟩):=z5c (by kernel_rfl) zp464 zp511
theorem zp513:E g1 10000 154 zc297 zr296 zm270=some (outOf 1,⟨zr505,zm506⟩):=z0o 6 _ zp334 zp512
theorem zf515:C g1 10001 zi [] Mem.zero=some (T,zm514):=QL (n:=10000) 1 (Nat.le_of_ble_eq_true rfl) vd (by kernel_rfl) (by kernel_rfl) (by kernel_rfl) (by kernel_rfl) zp513 (by kernel_rfl)
theorem top:C g1 10001 zi [] Mem.zero=some (.bool true,zm514):=zf515
end Go.Proofs.W
end
section
namespace Go.Proofs.W
open Go.Vs Go.Vs.U
set_option maxRecDepth 100000
theorem tabp0Ok:TabOk Tryz.prog tabp0:=by
 intro f afn h
 unfold tabp0 at h
 split at h
 ·exact tab1 (n:=vk) Tryz.func7 (by kernel_rfl) h
 ·exact tab1 (n:=qA) Tryz.func24 (by kernel_rfl) h
 ·exact tab1 (n:=Qu) Tryz.func26 (by kernel_rfl) h
 ·exact tab1 (n:=WV) Tryz.func27 (by kernel_rfl) h
 ·exact tab1 (n:=vW) Tryz.func33 (by kernel_rfl) h
 ·exact tab1 (n:=uX) Tryz.func34 (by kernel_rfl) h
 ·exact tab1 (n:=Uv) Tryz.func35 (by kernel_rfl) h
 ·exact tab1 (n:=qM) Tryz.func36 (by kernel_rfl) h
 ·exact tab1 (n:=QF) Tryz.func37 (by kernel_rfl) h
 ·exact tab1 (n:=qz) Tryz.func46 (by kernel_rfl) h
 ·exact tab1 (n:=jS) Tryz.func56 (by kernel_rfl) h
 ·exact tab1 (n:=Y6) Tryz.func57 (by kernel_rfl) h
 ·exact tab1 (n:=US) Tryz.func59 (by kernel_rfl) h
 ·exact tab1 (n:=V5) Tryz.func60 (by kernel_rfl) h
 ·exact tab1 (n:=YI) Tryz.func61 (by kernel_rfl) h
 ·exact tab1 (n:=YC) Tryz.func62 (by kernel_rfl) h
 ·exact tab1 (n:=Ze) Tryz.func63 (by kernel_rfl) h
 ·exact tab1 (n:=YG) Tryz.func64 (by kernel_rfl) h
 ·exact tab1 (n:=Yb) Tryz.func65 (by kernel_rfl) h
 ·exact tab1 (n:=YJ) Tryz.func66 (by kernel_rfl) h
 ·exact tab1 (n:=z0S) Tryz.func67 (by kernel_rfl) h
 ·exact tab1 (n:=z3m) Tryz.func68 (by kernel_rfl) h
 ·exact tab1 (n:=Xl) Tryz.func69 (by kernel_rfl) h
 ·exact tab1 (n:=YB) Tryz.func70 (by kernel_rfl) h
 ·exact tab1 (n:=tu) Tryz.func82 (by kernel_rfl) h
 ·exact tab1 (n:=vf) Tryz.func83 (by kernel_rfl) h
 ·exact tab1 (n:=vZ) Tryz.func84 (by kernel_rfl) h
 ·exact tab1 (n:=vh) Tryz.func85 (by kernel_rfl) h
 ·exact tab1 (n:=vY) Tryz.func86 (by kernel_rfl) h
 ·exact tab1 (n:=vg) Tryz.func87 (by kernel_rfl) h
 ·exact tab1 (n:=jQ) Tryz.func88 (by kernel_rfl) h
 ·exact tab1 (n:=Wn) Tryz.func89 (by kernel_rfl) h
 ·exact tab1 (n:=UQ) Tryz.func90 (by kernel_rfl) h
 ·exact tab1 (n:=UO) Tryz.func91 (by kernel_rfl) h
 ·exact tab1 (n:=QB) Tryz.func92 (by kernel_rfl) h
 ·exact tab1 (n:=tB) Tryz.func113 (by kernel_rfl) h
 ·exact tab1 (n:=qL) Tryz.func114 (by kernel_rfl) h
 ·exact tab1 (n:=qR) Tryz.func116 (by kernel_rfl) h
 ·exact tab1 (n:=Zi) Tryz.func117 (by kernel_rfl) h
 ·exact tab1 (n:=Zg) Tryz.func118 (by kernel_rfl) h
 ·exact tab1 (n:=t0) Tryz.func119 (by kernel_rfl) h
 ·exact tab1 (n:=QA) Tryz.func120 (by kernel_rfl) h
 ·exact tab1 (n:=tG) Tryz.func121 (by kernel_rfl) h
 ·exact tab1 (n:=Zp) Tryz.func122 (by kernel_rfl) h
 ·exact tab1 (n:=Zk) Tryz.func123 (by kernel_rfl) h
 ·exact tab1 (n:=qT) Tryz.func124 (by kernel_rfl) h
 ·exact tab1 (n:=qU) Tryz.func125 (by kernel_rfl) h
 ·exact tab1 (n:=Wm) Tryz.func126 (by kernel_rfl) h
 ·exact tab1 (n:=z24) Tryz.func127 (by kernel_rfl) h
 ·exact tab1 (n:=Ux) Tryz.func128 (by kernel_rfl) h
 ·exact tab1 (n:=WY) Tryz.func129 (by kernel_rfl) h
 ·exact tab1 (n:=Wj) Tryz.func130 (by kernel_rfl) h
 ·exact tab1 (n:=Uq) Tryz.func131 (by kernel_rfl) h
 ·exact tab1 (n:=Uz) Tryz.func132 (by kernel_rfl) h
 ·exact tab1 (n:=Y7) Tryz.func133 (by kernel_rfl) h
 ·exact tab1 (n:=uo) Tryz.func134 (by kernel_rfl) h
 ·exact tab1 (n:=Zo) Tryz.func135 (by kernel_rfl) h
 ·exact tab1 (n:=QC) Tryz.func136 (by kernel_rfl) h
 ·exact tab1 (n:=k9) Tryz.func137 (by kernel_rfl) h
 ·exact tab1 (n:=Xp) Tryz.func138 (by kernel_rfl) h
 ·exact tab1 (n:=Zl) Tryz.func139 (by kernel_rfl) h
 ·exact tab1 (n:=ka) Tryz.func140 (by kernel_rfl) h
 ·exact tab1 (n:=YF) Tryz.func141 (by kernel_rfl) h
 ·exact tab1 (n:=UR) Tryz.func142 (by kernel_rfl) h
 ·exact tab1 (n:=z26) Tryz.func143 (by kernel_rfl) h
 ·exact tab1 (n:=z27) Tryz.func144 (by kernel_rfl) h
 ·exact tab1 (n:=qC) Tryz.func151 (by kernel_rfl) h
 ·exact tab1 (n:=qB) Tryz.func152 (by kernel_rfl) h
 ·exact tab1 (n:=tq) Tryz.func153 (by kernel_rfl) h
 ·exact tab1 (n:=uV) Tryz.func154 (by kernel_rfl) h
 ·exact tab1 (n:=uU) Tryz.func155 (by kernel_rfl) h
 ·exact tab1 (n:=jR) Tryz.func156 (by kernel_rfl) h
 ·exact tab1 (n:=jT) Tryz.func157 (by kernel_rfl) h
 ·exact tab1 (n:=vi) Tryz.func158 (by kernel_rfl) h
 ·exact tab1 (n:=v3) Tryz.func159 (by kernel_rfl) h
 ·exact tab1 (n:=vX) Tryz.func160 (by kernel_rfl) h
 ·exact tab1 (n:=ve) Tryz.func161 (by kernel_rfl) h
 ·exact tab1 (n:=z0P) Tryz.func162 (by kernel_rfl) h
 ·exact tab1 (n:=UP) Tryz.func163 (by kernel_rfl) h
 ·exact tab1 (n:=UE) Tryz.func164 (by kernel_rfl) h
 ·exact tab1 (n:=UA) Tryz.func170 (by kernel_rfl) h
 ·exact tab1 (n:=uW) Tryz.func178 (by kernel_rfl) h
 ·exact tab1 (n:=WT) Tryz.func179 (by kernel_rfl) h
 ·exact tab1 (n:=qS) Tryz.func180 (by kernel_rfl) h
 ·exact tab1 (n:=Ur) Tryz.func181 (by kernel_rfl) h
 ·exact tab1 (n:=Wg) Tryz.func182 (by kernel_rfl) h
 ·exact tab1 (n:=Qw) Tryz.func183 (by kernel_rfl) h
 ·exact tab1 (n:=Zh) Tryz.func184 (by kernel_rfl) h
 ·exact tab1 (n:=UC) Tryz.func185 (by kernel_rfl) h
 ·exact tab1 (n:=Xn) Tryz.func186 (by kernel_rfl) h
 ·exact tab1 (n:=z0F) Tryz.func187 (by kernel_rfl) h
 ·exact tab1 (n:=Zj) Tryz.func188 (by kernel_rfl) h
 ·exact tab1 (n:=Uy) Tryz.func189 (by kernel_rfl) h
 ·exact tab1 (n:=Qt) Tryz.func190 (by kernel_rfl) h
 ·exact tab1 (n:=V6) Tryz.func191 (by kernel_rfl) h
 ·exact tab1 (n:=yw) Tryz.func192 (by kernel_rfl) h
 ·exact tab1 (n:=Zm) Tryz.func193 (by kernel_rfl) h
 ·exact tab1 (n:=z0R) Tryz.func194 (by kernel_rfl) h
 ·exact tab1 (n:=z0Q) Tryz.func195 (by kernel_rfl) h
 ·exact tab1 (n:=jU) Tryz.func201 (by kernel_rfl) h
 ·cases h
theorem tabp1Ok:TabOk Tryz.prog tabp1:=by
 intro f afn h
 unfold tabp1 at h
 split at h
 ·exact tab1 (n:=tr) Tryz.func202 (by kernel_rfl) h
 ·exact tab1 (n:=tt) Tryz.func203 (by kernel_rfl) h
 ·exact tab1 (n:=k6) Tryz.func204 (by kernel_rfl) h
 ·exact tab1 (n:=tC) Tryz.func205 (by kernel_rfl) h
 ·exact tab1 (n:=qF) Tryz.func206 (by kernel_rfl) h
 ·exact tab1 (n:=qD) Tryz.func207 (by kernel_rfl) h
 ·exact tab1 (n:=u0) Tryz.func208 (by kernel_rfl) h
 ·exact tab1 (n:=uj) Tryz.func209 (by kernel_rfl) h
 ·exact tab1 (n:=uh) Tryz.func210 (by kernel_rfl) h
 ·exact tab1 (n:=UN) Tryz.func211 (by kernel_rfl) h
 ·exact tab1 (n:=V4) Tryz.func212 (by kernel_rfl) h
 ·exact tab1 (n:=UM) Tryz.func213 (by kernel_rfl) h
 ·exact tab1 (n:=Ya) Tryz.func214 (by kernel_rfl) h
 ·exact tab1 (n:=UL) Tryz.func215 (by kernel_rfl) h
 ·exact tab1 (n:=Y8) Tryz.func216 (by kernel_rfl) h
 ·exact tab1 (n:=UK) Tryz.func217 (by kernel_rfl) h
 ·exact tab1 (n:=k7) Tryz.func218 (by kernel_rfl) h
 ·exact tab1 (n:=UJ) Tryz.func219 (by kernel_rfl) h
 ·exact tab1 (n:=Y9) Tryz.func220 (by kernel_rfl) h
 ·exact tab1 (n:=UI) Tryz.func221 (by kernel_rfl) h
 ·exact tab1 (n:=Zn) Tryz.func222 (by kernel_rfl) h
 ·exact tab1 (n:=UH) Tryz.func223 (by kernel_rfl) h
 ·exact tab1 (n:=QG) Tryz.func224 (by kernel_rfl) h
 ·exact tab1 (n:=xu) Tryz.func225 (by kernel_rfl) h
 ·exact tab1 (n:=WZ) Tryz.func233 (by kernel_rfl) h
 ·exact tab1 (n:=z0C) Tryz.func242 (by kernel_rfl) h
 ·exact tab1 (n:=z0D) Tryz.func247 (by kernel_rfl) h
 ·exact tab1 (n:=WX) Tryz.func248 (by kernel_rfl) h
 ·exact tab1 (n:=z0I) Tryz.func249 (by kernel_rfl) h
 ·exact tab1 (n:=z0L) Tryz.func250 (by kernel_rfl) h
 ·exact tab1 (n:=Wi) Tryz.func251 (by kernel_rfl) h
 ·exact tab1 (n:=Qz) Tryz.func252 (by kernel_rfl) h
 ·exact tab1 (n:=V2) Tryz.func253 (by kernel_rfl) h
 ·exact tab1 (n:=UB) Tryz.func254 (by kernel_rfl) h
 ·exact tab1 (n:=UD) Tryz.func255 (by kernel_rfl) h
 ·exact tab1 (n:=WU) Tryz.func256 (by kernel_rfl) h
 ·exact tab1 (n:=yY) Tryz.func257 (by kernel_rfl) h
 ·exact tab1 (n:=V0) Tryz.func263 (by kernel_rfl) h
 ·exact tab1 (n:=qK) Tryz.func264 (by kernel_rfl) h
 ·exact tab1 (n:=qH) Tryz.func265 (by kernel_rfl) h
 ·exact tab1 (n:=ui) Tryz.func266 (by kernel_rfl) h
 ·exact tab1 (n:=qE) Tryz.func267 (by kernel_rfl) h
 ·exact tab1 (n:=uk) Tryz.func268 (by kernel_rfl) h
 ·exact tab1 (n:=tv) Tryz.func269 (by kernel_rfl) h
 ·exact tab1 (n:=vj) Tryz.func270 (by kernel_rfl) h
 ·exact tab1 (n:=jX) Tryz.func271 (by kernel_rfl) h
 ·exact tab1 (n:=jV) Tryz.func272 (by kernel_rfl) h
 ·exact tab1 (n:=k8) Tryz.func273 (by kernel_rfl) h
 ·exact tab1 (n:=qP) Tryz.func274 (by kernel_rfl) h
 ·exact tab1 (n:=Zf) Tryz.func275 (by kernel_rfl) h
 ·exact tab1 (n:=uZ) Tryz.func276 (by kernel_rfl) h
 ·exact tab1 (n:=Us) Tryz.func277 (by kernel_rfl) h
 ·exact tab1 (n:=z0M) Tryz.func278 (by kernel_rfl) h
 ·exact tab1 (n:=z0E) Tryz.func279 (by kernel_rfl) h
 ·exact tab1 (n:=tF) Tryz.func280 (by kernel_rfl) h
 ·exact tab1 (n:=V7) Tryz.func281 (by kernel_rfl) h
 ·exact tab1 (n:=qY) Tryz.func282 (by kernel_rfl) h
 ·exact tab1 (n:=tH) Tryz.func283 (by kernel_rfl) h
 ·exact tab1 (n:=ut) Tryz.func284 (by kernel_rfl) h
 ·exact tab1 (n:=QD) Tryz.func285 (by kernel_rfl) h
 ·exact tab1 (n:=z0K) Tryz.func286 (by kernel_rfl) h
 ·exact tab1 (n:=Uu) Tryz.func287 (by kernel_rfl) h
 ·exact tab1 (n:=Xm) Tryz.func293 (by kernel_rfl) h
 ·exact tab1 (n:=Uw) Tryz.func296 (by kernel_rfl) h
 ·exact tab1 (n:=z0G) Tryz.func297 (by kernel_rfl) h
 ·exact tab1 (n:=z0H) Tryz.func298 (by kernel_rfl) h
 ·exact tab1 (n:=z0J) Tryz.func299 (by kernel_rfl) h
 ·exact tab1 (n:=z25) Tryz.func300 (by kernel_rfl) h
 ·exact tab1 (n:=WW) Tryz.func301 (by kernel_rfl) h
 ·exact tab1 (n:=YA) Tryz.func302 (by kernel_rfl) h
 ·exact tab1 (n:=Xk) Tryz.func303 (by kernel_rfl) h
 ·exact tab1 (n:=Ut) Tryz.func304 (by kernel_rfl) h
 ·exact tab1 (n:=V3) Tryz.func305 (by kernel_rfl) h
 ·exact tab1 (n:=Qy) Tryz.func306 (by kernel_rfl) h
 ·exact tab1 (n:=zT) Tryz.func307 (by kernel_rfl) h
 ·exact tab1 (n:=Wl) Tryz.func308 (by kernel_rfl) h
 ·exact tab1 (n:=Qx) Tryz.func309 (by kernel_rfl) h
 ·exact tab1 (n:=jZ) Tryz.func310 (by kernel_rfl) h
 ·exact tab1 (n:=tw) Tryz.func311 (by kernel_rfl) h
 ·exact tab1 (n:=ul) Tryz.func312 (by kernel_rfl) h
 ·exact tab1 (n:=qJ) Tryz.func313 (by kernel_rfl) h
 ·exact tab1 (n:=tA) Tryz.func314 (by kernel_rfl) h
 ·exact tab1 (n:=qG) Tryz.func315 (by kernel_rfl) h
 ·exact tab1 (n:=jW) Tryz.func316 (by kernel_rfl) h
 ·exact tab1 (n:=qQ) Tryz.func317 (by kernel_rfl) h
 ·exact tab1 (n:=Qv) Tryz.func318 (by kernel_rfl) h
 ·exact tab1 (n:=Wh) Tryz.func319 (by kernel_rfl) h
 ·exact tab1 (n:=Up) Tryz.func320 (by kernel_rfl) h
 ·exact tab1 (n:=QE) Tryz.func321 (by kernel_rfl) h
 ·exact tab1 (n:=UF) Tryz.func322 (by kernel_rfl) h
 ·exact tab1 (n:=Xq) Tryz.func323 (by kernel_rfl) h
 ·exact tab1 (n:=up) Tryz.func324 (by kernel_rfl) h
 ·exact tab1 (n:=Va) Tryz.func325 (by kernel_rfl) h
 ·exact tab1 (n:=qV) Tryz.func326 (by kernel_rfl) h
 ·exact tab1 (n:=qX) Tryz.func327 (by kernel_rfl) h
 ·exact tab1 (n:=ur) Tryz.func328 (by kernel_rfl) h
 ·exact tab1 (n:=xH) Tryz.func329 (by kernel_rfl) h
 ·exact tab1 (n:=vp) Tryz.func330 (by kernel_rfl) h
 ·exact tab1 (n:=Zq) Tryz.func331 (by kernel_rfl) h
 ·exact tab1 (n:=uq) Tryz.func332 (by kernel_rfl) h
 ·cases h
theorem tabp2Ok:TabOk Tryz.prog tabp2:=by
 intro f afn h
 unfold tabp2 at h
 split at h
 ·exact tab1 (n:=t1) Tryz.func333 (by kernel_rfl) h
 ·exact tab1 (n:=qZ) Tryz.func334 (by kernel_rfl) h
 ·exact tab1 (n:=tI) Tryz.func335 (by kernel_rfl) h
 ·exact tab1 (n:=qW) Tryz.func336 (by kernel_rfl) h
 ·exact tab1 (n:=z0O) Tryz.func337 (by kernel_rfl) h
 ·exact tab1 (n:=tE) Tryz.func338 (by kernel_rfl) h
 ·exact tab1 (n:=tJ) Tryz.func339 (by kernel_rfl) h
 ·exact tab1 (n:=z0N) Tryz.func340 (by kernel_rfl) h
 ·exact tab1 (n:=V8) Tryz.func341 (by kernel_rfl) h
 ·exact tab1 (n:=V1) Tryz.func346 (by kernel_rfl) h
 ·exact tab1 (n:=y3) Tryz.func347 (by kernel_rfl) h
 ·exact tab1 (n:=qI) Tryz.func348 (by kernel_rfl) h
 ·exact tab1 (n:=Y5) Tryz.func349 (by kernel_rfl) h
 ·exact tab1 (n:=tz) Tryz.func350 (by kernel_rfl) h
 ·exact tab1 (n:=jY) Tryz.func351 (by kernel_rfl) h
 ·exact tab1 (n:=UG) Tryz.func352 (by kernel_rfl) h
 ·exact tab1 (n:=vo) Tryz.func353 (by kernel_rfl) h
 ·exact tab1 (n:=xG) Tryz.func354 (by kernel_rfl) h
 ·exact tab1 (n:=uu) Tryz.func355 (by kernel_rfl) h
 ·exact tab1 (n:=qO) Tryz.func356 (by kernel_rfl) h
 ·exact tab1 (n:=qN) Tryz.func358 (by kernel_rfl) h
 ·exact tab1 (n:=um) Tryz.func359 (by kernel_rfl) h
 ·exact tab1 (n:=vn) Tryz.func360 (by kernel_rfl) h
 ·exact tab1 (n:=v4) Tryz.func361 (by kernel_rfl) h
 ·exact tab1 (n:=Wk) Tryz.func362 (by kernel_rfl) h
 ·exact tab1 (n:=yR) Tryz.func363 (by kernel_rfl) h
 ·exact tab1 (n:=xS) Tryz.func364 (by kernel_rfl) h
 ·exact tab1 (n:=yS) Tryz.func365 (by kernel_rfl) h
 ·exact tab1 (n:=xi) Tryz.func366 (by kernel_rfl) h
 ·exact tab1 (n:=yX) Tryz.func367 (by kernel_rfl) h
 ·exact tab1 (n:=zX) Tryz.func368 (by kernel_rfl) h
 ·exact tab1 (n:=V9) Tryz.func369 (by kernel_rfl) h
 ·exact tab1 (n:=yC) Tryz.func370 (by kernel_rfl) h
 ·exact tab1 (n:=xF) Tryz.func371 (by kernel_rfl) h
 ·exact tab1 (n:=YE) Tryz.func372 (by kernel_rfl) h
 ·exact tab1 (n:=YD) Tryz.func373 (by kernel_rfl) h
 ·exact tab1 (n:=xR) Tryz.func374 (by kernel_rfl) h
 ·exact tab1 (n:=uY) Tryz.func375 (by kernel_rfl) h
 ·exact tab1 (n:=tD) Tryz.func376 (by kernel_rfl) h
 ·exact tab1 (n:=yD) Tryz.func377 (by kernel_rfl) h
 ·exact tab1 (n:=vm) Tryz.func378 (by kernel_rfl) h
 ·exact tab1 (n:=Wo) Tryz.func379 (by kernel_rfl) h
 ·exact tab1 (n:=vl) Tryz.func380 (by kernel_rfl) h
 ·cases h
theorem tabOk:TabOk Tryz.prog tab:=by
 intro f afn h
 unfold tab at h
 cases h0:tabp0 f with
 |some a=>rw[h0] at h;exact tabp0Ok f afn (h0.trans h)
 |none=>
 rw[h0] at h
 cases h1:tabp1 f with
 |some a=>rw[h1] at h;exact tabp1Ok f afn (h1.trans h)
 |none=>
 rw[h1] at h
 exact tabp2Ok f afn h
end Go.Proofs.W
end
section
namespace Go.Proofs.W
open Go.Vs Go.Vs.Sn
set_option maxRecDepth 1000000
theorem mok0:MemoOk Tryz.prog g0.memo:=Vc _
theorem zy283:MemoFact Tryz.prog yP [] (G zw267):=TR g0 (by kernel_rfl) tabOk mok0 10001 zf282 (by kernel_rfl)
theorem zy293:MemoFact Tryz.prog zk [] (G zw267):=TR g0 (by kernel_rfl) tabOk mok0 10001 zf292 (by kernel_rfl)
theorem mok1:MemoOk Tryz.prog g1.memo:=XV (l:=yZ) (List.forall_mem_cons.2 ⟨zy293,fun _ h=>by cases h⟩) (XV (l:=YK) (List.forall_mem_cons.2 ⟨zy283,fun _ h=>by cases h⟩) (Vc _))
theorem vt:Known Tryz.prog zi true:=z2h g1 (by kernel_rfl) tabOk mok1 10001 top
end Go.Proofs.W
end
