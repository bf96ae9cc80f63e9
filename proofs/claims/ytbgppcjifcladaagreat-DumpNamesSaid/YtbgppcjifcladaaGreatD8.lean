/-
  Part 9 of the proof, shared by claims of this seat: D1Pc, D1Tie, D1Pd.
-/
import Derived.Test.YtbgppcjifcladaaGreatD5
import Derived.Test.YtbgppcjifcladaaGreatD6
import Derived.Test.YtbgppcjifcladaaGreatD7
import Derived.KernelRfl
import Derived.Test.YtbgppcjifcladaaGreatD3
import Derived.Test.YtbgppcjifcladaaGreatProg
import Derived.Test.YtbgppcjifcladaaGreatD4
set_option maxHeartbeats 64000000
set_option linter.unusedVariables false
set_option linter.unusedSimpArgs false
section
namespace Go.Proofs.W
open Go.Vs Go.Vs.Sn
set_option maxRecDepth 1000000
theorem zl20:zr7.length=42:=by kernel_rfl
theorem zp21:E g0 10000 42 zc9 zr7 zm8=some (outOf 1,⟨zr16,zm18⟩):=t6 (Nat.le_of_ble_eq_true rfl) zl20 zk19
theorem zf23:C g0 10001 zh zw3 Mem.zero=some (zv4,zm22):=Zy (n:=10000) 1 (Nat.le_of_ble_eq_true rfl) vc (by kernel_rfl) (by kernel_rfl) (by kernel_rfl) (by kernel_rfl) zp21 (by kernel_rfl)
theorem zl37:zr29.length=42:=by kernel_rfl
theorem zp38:E g0 10000 42 zc9 zr29 zm8=some (outOf 1,⟨zr33,zm35⟩):=t6 (Nat.le_of_ble_eq_true rfl) zl37 zk36
theorem zf40:C g0 10001 zh zw26 Mem.zero=some (zv27,zm39):=Zy (n:=10000) 1 (Nat.le_of_ble_eq_true rfl) vc (by kernel_rfl) (by kernel_rfl) (by kernel_rfl) (by kernel_rfl) zp38 (by kernel_rfl)
theorem zl48:zr44.length=42:=by kernel_rfl
theorem zp49:E g0 10000 42 zc9 zr44 zm8=some (outOf 1,⟨zr46,zm35⟩):=t6 (Nat.le_of_ble_eq_true rfl) zl48 zk47
theorem zf50:C g0 10001 zh zw42 Mem.zero=some (zv27,zm39):=Zy (n:=10000) 1 (Nat.le_of_ble_eq_true rfl) vc (by kernel_rfl) (by kernel_rfl) (by kernel_rfl) (by kernel_rfl) zp49 (by kernel_rfl)
theorem zl261:zr53.length=293:=by kernel_rfl
theorem zp262:E g1 10000 293 (spT 21 zc54) zr53 zm8=some (outOf 0,⟨zr94,zm259⟩):=t6 (Nat.le_of_ble_eq_true rfl) zl261 zk260
theorem zl268:zr94.length=293:=by kernel_rfl
theorem zp269:E g1 10000 293 (spT 1 zc264) zr94 zm259=some (outOf 0,⟨zr266,zm259⟩):=t6 (Nat.le_of_ble_eq_true rfl) zl268 zk267
theorem zl278:zr266.length=293:=by kernel_rfl
theorem zl286:zr275.length=293:=by kernel_rfl
theorem zl294:zr283.length=293:=by kernel_rfl
theorem zl301:zr291.length=293:=by kernel_rfl
theorem zl308:zr298.length=293:=by kernel_rfl
theorem zl315:zr305.length=293:=by kernel_rfl
theorem zl322:zr312.length=293:=by kernel_rfl
theorem zl329:zr319.length=293:=by kernel_rfl
theorem zl333:zr326.length=293:=by kernel_rfl
theorem zp334:E g1 10000 293 (sL (sL zc270)) zr326 zm327=some (outOf 4,⟨zr331,zm327⟩):=t6 (Nat.le_of_ble_eq_true rfl) zl333 zk332
theorem zp335:LI g1 10000 293 213 (sL zc270) [1,3,5] 9984 zr326 zm327=some (outOf 4,⟨zr331,zm327⟩):=z2j (k:=9983) (outOf 4) rfl rfl (Nat.le_of_ble_eq_true rfl) zl333 (by kernel_rfl) zp334
theorem zp336:LI g1 10000 293 213 (sL zc270) [1,3,5] 9986 zr319 zm320=some (outOf 4,⟨zr331,zm327⟩):=v9 (k:=9984) 2 false (Nat.le_of_ble_eq_true rfl) zl329 rfl rfl zk328 zp335
theorem zp337:LI g1 10000 293 213 (sL zc270) [1,3,5] 9987 zr312 zm313=some (outOf 4,⟨zr331,zm327⟩):=v9 (k:=9986) 1 false (Nat.le_of_ble_eq_true rfl) zl322 rfl rfl zk321 zp336
theorem zp338:LI g1 10000 293 213 (sL zc270) [1,3,5] 9988 zr305 zm306=some (outOf 4,⟨zr331,zm327⟩):=v9 (k:=9987) 1 false (Nat.le_of_ble_eq_true rfl) zl315 rfl rfl zk314 zp337
theorem zp339:LI g1 10000 293 213 (sL zc270) [1,3,5] 9989 zr298 zm299=some (outOf 4,⟨zr331,zm327⟩):=v9 (k:=9988) 1 false (Nat.le_of_ble_eq_true rfl) zl308 rfl rfl zk307 zp338
theorem zp340:LI g1 10000 293 213 (sL zc270) [1,3,5] 9990 zr291 zm292=some (outOf 4,⟨zr331,zm327⟩):=v9 (k:=9989) 1 false (Nat.le_of_ble_eq_true rfl) zl301 rfl rfl zk300 zp339
theorem zp341:LI g1 10000 293 213 (sL zc270) [1,3,5] 9992 zr283 zm284=some (outOf 4,⟨zr331,zm327⟩):=v9 (k:=9990) 2 false (Nat.le_of_ble_eq_true rfl) zl294 rfl rfl zk293 zp340
theorem zp342:LI g1 10000 293 213 (sL zc270) [1,3,5] 9993 zr275 zm276=some (outOf 4,⟨zr331,zm327⟩):=v9 (k:=9992) 1 false (Nat.le_of_ble_eq_true rfl) zl286 rfl rfl zk285 zp341
theorem zp343:LI g1 10000 293 213 (sL zc270) [1,3,5] 10000 zr266 zm259=some (outOf 4,⟨zr331,zm327⟩):=v9 (k:=9993) 7 false (Nat.le_of_ble_eq_true rfl) zl278 rfl rfl zk277 zp342
theorem zp344:E g1 10000 293 (sL zc270) zr266 zm259=some (outOf 4,⟨zr331,zm327⟩):=z2u (nb:=213) (live:=[1,3,5]) (by kernel_rfl) (by kernel_rfl) zp343
theorem zp345:E g1 10000 293 zc270 zr266 zm259=some (outOf 0,⟨zr331,zm327⟩):=z1Z (i:=2) (by kernel_rfl) zp344
theorem zp346:E g1 10000 293 zc264 zr94 zm259=some (outOf 0,⟨zr331,zm327⟩):=QW 1 _ zp269 zp345
theorem zl404:zr331.length=293:=by kernel_rfl
theorem zp405:E g1 10000 293 (spT 14 zc347) zr331 zm327=some (outOf 0,⟨zr383,zm402⟩):=t6 (Nat.le_of_ble_eq_true rfl) zl404 zk403
theorem zl412:zr383.length=293:=by kernel_rfl
theorem zp413:E g1 10000 293 zc406 zr383 zm402=some (outOf 1,⟨zr409,zm410⟩):=t6 (Nat.le_of_ble_eq_true rfl) zl412 zk411
theorem zp414:E g1 10000 293 zc347 zr331 zm327=some (outOf 1,⟨zr409,zm410⟩):=QW 14 _ zp405 zp413
theorem zp415:E g1 10000 293 zc263 zr94 zm259=some (outOf 1,⟨zr409,zm410⟩):=z2i (by kernel_rfl) zp346 zp414
theorem zp416:E g1 10000 293 zc54 zr53 zm8=some (outOf 1,⟨zr409,zm410⟩):=QW 21 _ zp262 zp415
theorem zf418:C g1 10001 zf [] Mem.zero=some (T,zm417):=Zy (n:=10000) 1 (Nat.le_of_ble_eq_true rfl) v5 (by kernel_rfl) (by kernel_rfl) (by kernel_rfl) (by kernel_rfl) zp416 (by kernel_rfl)
theorem top:C g1 10001 zf [] Mem.zero=some (.bool true,zm417):=zf418
end Go.Proofs.W
end
section
namespace Go.Proofs.W
open Go.Vs Go.Vs.U
set_option maxRecDepth 100000
theorem tabp0Ok:TabOk Tryz.prog tabp0:=by
 intro f afn h
 unfold tabp0 at h
 split at h
 ·exact tab1 (n:=v6) Tryz.func5 (by kernel_rfl) h
 ·exact tab1 (n:=t9) Tryz.func9 (by kernel_rfl) h
 ·exact tab1 (n:=z0p) Tryz.func19 (by kernel_rfl) h
 ·exact tab1 (n:=vA) Tryz.func20 (by kernel_rfl) h
 ·exact tab1 (n:=tU) Tryz.func21 (by kernel_rfl) h
 ·exact tab1 (n:=Z6) Tryz.func22 (by kernel_rfl) h
 ·exact tab1 (n:=VG) Tryz.func23 (by kernel_rfl) h
 ·exact tab1 (n:=VH) Tryz.func24 (by kernel_rfl) h
 ·exact tab1 (n:=ZX) Tryz.func25 (by kernel_rfl) h
 ·exact tab1 (n:=uz) Tryz.func26 (by kernel_rfl) h
 ·exact tab1 (n:=tc) Tryz.func36 (by kernel_rfl) h
 ·exact tab1 (n:=ta) Tryz.func37 (by kernel_rfl) h
 ·exact tab1 (n:=ux) Tryz.func38 (by kernel_rfl) h
 ·exact tab1 (n:=VC) Tryz.func39 (by kernel_rfl) h
 ·exact tab1 (n:=XD) Tryz.func40 (by kernel_rfl) h
 ·exact tab1 (n:=Xy) Tryz.func48 (by kernel_rfl) h
 ·exact tab1 (n:=ZM) Tryz.func51 (by kernel_rfl) h
 ·exact tab1 (n:=XQ) Tryz.func52 (by kernel_rfl) h
 ·exact tab1 (n:=zV) Tryz.func53 (by kernel_rfl) h
 ·exact tab1 (n:=XP) Tryz.func54 (by kernel_rfl) h
 ·exact tab1 (n:=ZS) Tryz.func55 (by kernel_rfl) h
 ·exact tab1 (n:=ZT) Tryz.func56 (by kernel_rfl) h
 ·exact tab1 (n:=uy) Tryz.func57 (by kernel_rfl) h
 ·exact tab1 (n:=Z5) Tryz.func58 (by kernel_rfl) h
 ·exact tab1 (n:=kZ) Tryz.func59 (by kernel_rfl) h
 ·exact tab1 (n:=XS) Tryz.func60 (by kernel_rfl) h
 ·exact tab1 (n:=XO) Tryz.func61 (by kernel_rfl) h
 ·exact tab1 (n:=td) Tryz.func73 (by kernel_rfl) h
 ·exact tab1 (n:=ZJ) Tryz.func74 (by kernel_rfl) h
 ·exact tab1 (n:=Q4) Tryz.func79 (by kernel_rfl) h
 ·exact tab1 (n:=ZI) Tryz.func80 (by kernel_rfl) h
 ·exact tab1 (n:=Z1) Tryz.func81 (by kernel_rfl) h
 ·exact tab1 (n:=qI) Tryz.func82 (by kernel_rfl) h
 ·exact tab1 (n:=Xt) Tryz.func83 (by kernel_rfl) h
 ·exact tab1 (n:=XT) Tryz.func84 (by kernel_rfl) h
 ·exact tab1 (n:=VB) Tryz.func85 (by kernel_rfl) h
 ·exact tab1 (n:=tf) Tryz.func86 (by kernel_rfl) h
 ·exact tab1 (n:=uC) Tryz.func87 (by kernel_rfl) h
 ·exact tab1 (n:=tV) Tryz.func88 (by kernel_rfl) h
 ·exact tab1 (n:=vC) Tryz.func89 (by kernel_rfl) h
 ·exact tab1 (n:=uE) Tryz.func90 (by kernel_rfl) h
 ·exact tab1 (n:=tY) Tryz.func91 (by kernel_rfl) h
 ·exact tab1 (n:=tW) Tryz.func92 (by kernel_rfl) h
 ·exact tab1 (n:=vD) Tryz.func93 (by kernel_rfl) h
 ·exact tab1 (n:=UO) Tryz.func94 (by kernel_rfl) h
 ·exact tab1 (n:=Z0) Tryz.func95 (by kernel_rfl) h
 ·exact tab1 (n:=UR) Tryz.func96 (by kernel_rfl) h
 ·exact tab1 (n:=z0q) Tryz.func97 (by kernel_rfl) h
 ·exact tab1 (n:=kY) Tryz.func98 (by kernel_rfl) h
 ·exact tab1 (n:=XR) Tryz.func99 (by kernel_rfl) h
 ·exact tab1 (n:=jD) Tryz.func105 (by kernel_rfl) h
 ·exact tab1 (n:=Xn) Tryz.func106 (by kernel_rfl) h
 ·exact tab1 (n:=UC) Tryz.func107 (by kernel_rfl) h
 ·exact tab1 (n:=Vu) Tryz.func108 (by kernel_rfl) h
 ·exact tab1 (n:=UB) Tryz.func109 (by kernel_rfl) h
 ·exact tab1 (n:=Xr) Tryz.func110 (by kernel_rfl) h
 ·exact tab1 (n:=Xx) Tryz.func111 (by kernel_rfl) h
 ·exact tab1 (n:=jF) Tryz.func112 (by kernel_rfl) h
 ·exact tab1 (n:=XB) Tryz.func113 (by kernel_rfl) h
 ·exact tab1 (n:=Xz) Tryz.func114 (by kernel_rfl) h
 ·exact tab1 (n:=jH) Tryz.func115 (by kernel_rfl) h
 ·exact tab1 (n:=uD) Tryz.func116 (by kernel_rfl) h
 ·exact tab1 (n:=UD) Tryz.func117 (by kernel_rfl) h
 ·exact tab1 (n:=Xm) Tryz.func118 (by kernel_rfl) h
 ·exact tab1 (n:=Vw) Tryz.func119 (by kernel_rfl) h
 ·exact tab1 (n:=kV) Tryz.func120 (by kernel_rfl) h
 ·exact tab1 (n:=Xk) Tryz.func121 (by kernel_rfl) h
 ·exact tab1 (n:=uF) Tryz.func122 (by kernel_rfl) h
 ·exact tab1 (n:=Xl) Tryz.func123 (by kernel_rfl) h
 ·exact tab1 (n:=kU) Tryz.func124 (by kernel_rfl) h
 ·exact tab1 (n:=Vx) Tryz.func125 (by kernel_rfl) h
 ·exact tab1 (n:=tX) Tryz.func126 (by kernel_rfl) h
 ·exact tab1 (n:=XN) Tryz.func127 (by kernel_rfl) h
 ·exact tab1 (n:=XM) Tryz.func128 (by kernel_rfl) h
 ·exact tab1 (n:=qL) Tryz.func129 (by kernel_rfl) h
 ·exact tab1 (n:=XK) Tryz.func130 (by kernel_rfl) h
 ·exact tab1 (n:=qJ) Tryz.func131 (by kernel_rfl) h
 ·exact tab1 (n:=XJ) Tryz.func132 (by kernel_rfl) h
 ·exact tab1 (n:=te) Tryz.func133 (by kernel_rfl) h
 ·exact tab1 (n:=XI) Tryz.func134 (by kernel_rfl) h
 ·exact tab1 (n:=qK) Tryz.func135 (by kernel_rfl) h
 ·exact tab1 (n:=XH) Tryz.func136 (by kernel_rfl) h
 ·exact tab1 (n:=qa) Tryz.func137 (by kernel_rfl) h
 ·exact tab1 (n:=XG) Tryz.func138 (by kernel_rfl) h
 ·exact tab1 (n:=ja) Tryz.func139 (by kernel_rfl) h
 ·exact tab1 (n:=jE) Tryz.func140 (by kernel_rfl) h
 ·exact tab1 (n:=Q6) Tryz.func141 (by kernel_rfl) h
 ·exact tab1 (n:=Q7) Tryz.func142 (by kernel_rfl) h
 ·exact tab1 (n:=Vv) Tryz.func143 (by kernel_rfl) h
 ·exact tab1 (n:=VI) Tryz.func144 (by kernel_rfl) h
 ·exact tab1 (n:=yV) Tryz.func145 (by kernel_rfl) h
 ·exact tab1 (n:=ZO) Tryz.func151 (by kernel_rfl) h
 ·exact tab1 (n:=qH) Tryz.func152 (by kernel_rfl) h
 ·exact tab1 (n:=VA) Tryz.func153 (by kernel_rfl) h
 ·exact tab1 (n:=ZQ) Tryz.func154 (by kernel_rfl) h
 ·exact tab1 (n:=ZN) Tryz.func155 (by kernel_rfl) h
 ·exact tab1 (n:=XA) Tryz.func156 (by kernel_rfl) h
 ·exact tab1 (n:=XC) Tryz.func157 (by kernel_rfl) h
 ·exact tab1 (n:=UK) Tryz.func158 (by kernel_rfl) h
 ·exact tab1 (n:=Xj) Tryz.func159 (by kernel_rfl) h
 ·cases h
theorem tabp1Ok:TabOk Tryz.prog tabp1:=by
 intro f afn h
 unfold tabp1 at h
 split at h
 ·exact tab1 (n:=UH) Tryz.func160 (by kernel_rfl) h
 ·exact tab1 (n:=ZK) Tryz.func161 (by kernel_rfl) h
 ·exact tab1 (n:=ZL) Tryz.func162 (by kernel_rfl) h
 ·exact tab1 (n:=UE) Tryz.func163 (by kernel_rfl) h
 ·exact tab1 (n:=kW) Tryz.func164 (by kernel_rfl) h
 ·exact tab1 (n:=Z4) Tryz.func165 (by kernel_rfl) h
 ·exact tab1 (n:=UL) Tryz.func166 (by kernel_rfl) h
 ·exact tab1 (n:=vX) Tryz.func167 (by kernel_rfl) h
 ·exact tab1 (n:=jI) Tryz.func168 (by kernel_rfl) h
 ·exact tab1 (n:=VD) Tryz.func169 (by kernel_rfl) h
 ·exact tab1 (n:=jd) Tryz.func170 (by kernel_rfl) h
 ·exact tab1 (n:=UQ) Tryz.func171 (by kernel_rfl) h
 ·exact tab1 (n:=UP) Tryz.func172 (by kernel_rfl) h
 ·exact tab1 (n:=ZV) Tryz.func173 (by kernel_rfl) h
 ·exact tab1 (n:=uJ) Tryz.func174 (by kernel_rfl) h
 ·exact tab1 (n:=vY) Tryz.func175 (by kernel_rfl) h
 ·exact tab1 (n:=vh) Tryz.func176 (by kernel_rfl) h
 ·exact tab1 (n:=VE) Tryz.func177 (by kernel_rfl) h
 ·exact tab1 (n:=UJ) Tryz.func178 (by kernel_rfl) h
 ·exact tab1 (n:=Xp) Tryz.func179 (by kernel_rfl) h
 ·exact tab1 (n:=jG) Tryz.func194 (by kernel_rfl) h
 ·exact tab1 (n:=Vy) Tryz.func195 (by kernel_rfl) h
 ·exact tab1 (n:=ZR) Tryz.func196 (by kernel_rfl) h
 ·exact tab1 (n:=Vz) Tryz.func197 (by kernel_rfl) h
 ·exact tab1 (n:=zN) Tryz.func198 (by kernel_rfl) h
 ·exact tab1 (n:=Z3) Tryz.func199 (by kernel_rfl) h
 ·exact tab1 (n:=Xq) Tryz.func200 (by kernel_rfl) h
 ·exact tab1 (n:=UF) Tryz.func201 (by kernel_rfl) h
 ·exact tab1 (n:=UG) Tryz.func202 (by kernel_rfl) h
 ·exact tab1 (n:=UI) Tryz.func203 (by kernel_rfl) h
 ·exact tab1 (n:=Q5) Tryz.func204 (by kernel_rfl) h
 ·exact tab1 (n:=j9) Tryz.func205 (by kernel_rfl) h
 ·exact tab1 (n:=ZU) Tryz.func206 (by kernel_rfl) h
 ·exact tab1 (n:=ye) Tryz.func207 (by kernel_rfl) h
 ·exact tab1 (n:=tZ) Tryz.func208 (by kernel_rfl) h
 ·exact tab1 (n:=VF) Tryz.func209 (by kernel_rfl) h
 ·exact tab1 (n:=XE) Tryz.func210 (by kernel_rfl) h
 ·exact tab1 (n:=jJ) Tryz.func211 (by kernel_rfl) h
 ·exact tab1 (n:=ve) Tryz.func212 (by kernel_rfl) h
 ·exact tab1 (n:=ZZ) Tryz.func213 (by kernel_rfl) h
 ·exact tab1 (n:=uG) Tryz.func214 (by kernel_rfl) h
 ·exact tab1 (n:=uI) Tryz.func215 (by kernel_rfl) h
 ·exact tab1 (n:=vg) Tryz.func216 (by kernel_rfl) h
 ·exact tab1 (n:=xd) Tryz.func217 (by kernel_rfl) h
 ·exact tab1 (n:=xK) Tryz.func218 (by kernel_rfl) h
 ·exact tab1 (n:=qb) Tryz.func219 (by kernel_rfl) h
 ·exact tab1 (n:=vf) Tryz.func220 (by kernel_rfl) h
 ·exact tab1 (n:=vE) Tryz.func221 (by kernel_rfl) h
 ·exact tab1 (n:=uK) Tryz.func222 (by kernel_rfl) h
 ·exact tab1 (n:=vZ) Tryz.func223 (by kernel_rfl) h
 ·exact tab1 (n:=uH) Tryz.func224 (by kernel_rfl) h
 ·exact tab1 (n:=UN) Tryz.func225 (by kernel_rfl) h
 ·exact tab1 (n:=vW) Tryz.func226 (by kernel_rfl) h
 ·exact tab1 (n:=u0) Tryz.func227 (by kernel_rfl) h
 ·exact tab1 (n:=UM) Tryz.func228 (by kernel_rfl) h
 ·exact tab1 (n:=ZW) Tryz.func229 (by kernel_rfl) h
 ·exact tab1 (n:=ZP) Tryz.func236 (by kernel_rfl) h
 ·exact tab1 (n:=zU) Tryz.func237 (by kernel_rfl) h
 ·exact tab1 (n:=yH) Tryz.func238 (by kernel_rfl) h
 ·exact tab1 (n:=XF) Tryz.func239 (by kernel_rfl) h
 ·exact tab1 (n:=xJ) Tryz.func240 (by kernel_rfl) h
 ·exact tab1 (n:=xb) Tryz.func241 (by kernel_rfl) h
 ·exact tab1 (n:=vi) Tryz.func242 (by kernel_rfl) h
 ·exact tab1 (n:=uB) Tryz.func243 (by kernel_rfl) h
 ·exact tab1 (n:=uA) Tryz.func247 (by kernel_rfl) h
 ·exact tab1 (n:=vd) Tryz.func248 (by kernel_rfl) h
 ·exact tab1 (n:=xI) Tryz.func249 (by kernel_rfl) h
 ·exact tab1 (n:=xx) Tryz.func250 (by kernel_rfl) h
 ·exact tab1 (n:=Z2) Tryz.func251 (by kernel_rfl) h
 ·exact tab1 (n:=yA) Tryz.func252 (by kernel_rfl) h
 ·exact tab1 (n:=xo) Tryz.func253 (by kernel_rfl) h
 ·exact tab1 (n:=yB) Tryz.func254 (by kernel_rfl) h
 ·exact tab1 (n:=yP) Tryz.func255 (by kernel_rfl) h
 ·exact tab1 (n:=yG) Tryz.func256 (by kernel_rfl) h
 ·exact tab1 (n:=zR) Tryz.func257 (by kernel_rfl) h
 ·exact tab1 (n:=ZY) Tryz.func258 (by kernel_rfl) h
 ·exact tab1 (n:=yj) Tryz.func259 (by kernel_rfl) h
 ·exact tab1 (n:=xa) Tryz.func260 (by kernel_rfl) h
 ·exact tab1 (n:=jc) Tryz.func261 (by kernel_rfl) h
 ·exact tab1 (n:=jb) Tryz.func262 (by kernel_rfl) h
 ·exact tab1 (n:=xn) Tryz.func263 (by kernel_rfl) h
 ·exact tab1 (n:=vB) Tryz.func264 (by kernel_rfl) h
 ·exact tab1 (n:=vV) Tryz.func265 (by kernel_rfl) h
 ·exact tab1 (n:=ym) Tryz.func266 (by kernel_rfl) h
 ·exact tab1 (n:=xH) Tryz.func267 (by kernel_rfl) h
 ·exact tab1 (n:=Z7) Tryz.func268 (by kernel_rfl) h
 ·exact tab1 (n:=xG) Tryz.func269 (by kernel_rfl) h
 ·cases h
theorem tabOk:TabOk Tryz.prog tab:=by
 intro f afn h
 unfold tab at h
 cases h0:tabp0 f with
 |some a=>rw[h0] at h;exact tabp0Ok f afn (h0.trans h)
 |none=>
 rw[h0] at h
 exact tabp1Ok f afn h
end Go.Proofs.W
end
section
namespace Go.Proofs.W
open Go.Vs Go.Vs.Sn
set_option maxRecDepth 1000000
theorem mok0:MemoOk Tryz.prog g0.memo:=Y1 _
theorem zy24:MemoFact Tryz.prog zh zw3 zv4:=jK g0 (by kernel_rfl) tabOk mok0 10001 zf23 (by kernel_rfl)
theorem zy41:MemoFact Tryz.prog zh zw26 zv27:=jK g0 (by kernel_rfl) tabOk mok0 10001 zf40 (by kernel_rfl)
theorem zy51:MemoFact Tryz.prog zh zw42 zv27:=jK g0 (by kernel_rfl) tabOk mok0 10001 zf50 (by kernel_rfl)
theorem mok1:MemoOk Tryz.prog g1.memo:=UT (l:=tg) (List.forall_mem_cons.2 ⟨zy24,List.forall_mem_cons.2 ⟨zy41,List.forall_mem_cons.2 ⟨zy51,fun _ h=>by cases h⟩⟩⟩) (Y1 _)
theorem v7:Known Tryz.prog zf true:=Qh g1 (by kernel_rfl) tabOk mok1 10001 top
end Go.Proofs.W
end
