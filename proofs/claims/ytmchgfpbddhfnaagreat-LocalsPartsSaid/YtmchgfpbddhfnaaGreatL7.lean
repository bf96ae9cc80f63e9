/-
  Part 8 of the proof, shared by claims of this seat: L2Pc, L2Tie, L2Pd, L2Tie2.
-/
import Derived.Test.YtmchgfpbddhfnaaGreatL5
import Derived.Test.YtmchgfpbddhfnaaGreatL6
import Derived.KernelRfl
import Derived.Test.YtmchgfpbddhfnaaGreatL3
import Derived.Test.YtmchgfpbddhfnaaGreatProg
import Derived.Test.YtmchgfpbddhfnaaGreatL4
set_option maxHeartbeats 64000000
set_option linter.unusedVariables false
set_option linter.unusedSimpArgs false
section
namespace Go.Proofs.W
open Go.Vs Go.Vs.Sn
set_option maxRecDepth 1000000
theorem zl33:zr1.length=98:=by kernel_rfl
theorem zp34:E g0 10000 98 (spT 4 zc3) zr1 zm2=some (outOf 0,⟨zr23,zm31⟩):=z0U (Nat.le_of_ble_eq_true rfl) zl33 zk32
theorem zl45:zr23.length=98:=by kernel_rfl
theorem zp46:E g0 10000 98 (spT 1 zc35) zr23 zm31=some (outOf 0,⟨zr42,zm43⟩):=z0U (Nat.le_of_ble_eq_true rfl) zl45 zk44
theorem zl60:zr42.length=98:=by kernel_rfl
theorem zp61:E g0 10000 98 zc47 zr42 zm43=some (outOf 1,⟨zr57,zm58⟩):=z0U (Nat.le_of_ble_eq_true rfl) zl60 zk59
theorem zp62:E g0 10000 98 zc35 zr23 zm31=some (outOf 1,⟨zr57,zm58⟩):=z37 1 _ zp46 zp61
theorem zp63:E g0 10000 98 zc3 zr1 zm2=some (outOf 1,⟨zr57,zm58⟩):=z37 4 _ zp34 zp62
theorem zf65:C g0 10001 zj [] Mem.zero=some (T,zm64):=z4O (fn:=y7) (n:=10000) 1 (Nat.le_of_ble_eq_true rfl) (by kernel_rfl) (by kernel_rfl) (by kernel_rfl) (by kernel_rfl) (by kernel_rfl) zp63 (by kernel_rfl)
theorem top:C g0 10001 zj [] Mem.zero=some (.bool true,zm64):=zf65
end Go.Proofs.W
end
section
namespace Go.Proofs.W
open Go.Vs Go.Vs.U
set_option maxRecDepth 100000
theorem tab0p0Ok:TabOk Tryz.prog tab0p0:=by
 intro f afn h
 unfold tab0p0 at h
 split at h
 ·exact tab1 (n:=xZ) Tryz.func6 (by kernel_rfl) h
 ·exact tab1 (n:=td) Tryz.func28 (by kernel_rfl) h
 ·exact tab1 (n:=ta) Tryz.func29 (by kernel_rfl) h
 ·exact tab1 (n:=ZW) Tryz.func30 (by kernel_rfl) h
 ·exact tab1 (n:=Ti) Tryz.func31 (by kernel_rfl) h
 ·exact tab1 (n:=YP) Tryz.func32 (by kernel_rfl) h
 ·exact tab1 (n:=Tv) Tryz.func37 (by kernel_rfl) h
 ·exact tab1 (n:=V9) Tryz.func59 (by kernel_rfl) h
 ·exact tab1 (n:=ue) Tryz.func71 (by kernel_rfl) h
 ·exact tab1 (n:=WA) Tryz.func72 (by kernel_rfl) h
 ·exact tab1 (n:=ZX) Tryz.func73 (by kernel_rfl) h
 ·exact tab1 (n:=tO) Tryz.func74 (by kernel_rfl) h
 ·exact tab1 (n:=tP) Tryz.func75 (by kernel_rfl) h
 ·exact tab1 (n:=tN) Tryz.func76 (by kernel_rfl) h
 ·exact tab1 (n:=tc) Tryz.func77 (by kernel_rfl) h
 ·exact tab1 (n:=WO) Tryz.func78 (by kernel_rfl) h
 ·exact tab1 (n:=k9) Tryz.func79 (by kernel_rfl) h
 ·exact tab1 (n:=YQ) Tryz.func80 (by kernel_rfl) h
 ·exact tab1 (n:=kQ) Tryz.func81 (by kernel_rfl) h
 ·exact tab1 (n:=Y1) Tryz.func89 (by kernel_rfl) h
 ·exact tab1 (n:=V8) Tryz.func90 (by kernel_rfl) h
 ·exact tab1 (n:=V6) Tryz.func91 (by kernel_rfl) h
 ·exact tab1 (n:=Tn) Tryz.func92 (by kernel_rfl) h
 ·exact tab1 (n:=Tf) Tryz.func98 (by kernel_rfl) h
 ·exact tab1 (n:=Tm) Tryz.func120 (by kernel_rfl) h
 ·exact tab1 (n:=Y0) Tryz.func126 (by kernel_rfl) h
 ·exact tab1 (n:=z16) Tryz.func127 (by kernel_rfl) h
 ·exact tab1 (n:=ZT) Tryz.func130 (by kernel_rfl) h
 ·exact tab1 (n:=WL) Tryz.func132 (by kernel_rfl) h
 ·exact tab1 (n:=jw) Tryz.func133 (by kernel_rfl) h
 ·exact tab1 (n:=To) Tryz.func136 (by kernel_rfl) h
 ·exact tab1 (n:=kU) Tryz.func138 (by kernel_rfl) h
 ·exact tab1 (n:=ka) Tryz.func141 (by kernel_rfl) h
 ·exact tab1 (n:=jZ) Tryz.func145 (by kernel_rfl) h
 ·exact tab1 (n:=YO) Tryz.func146 (by kernel_rfl) h
 ·exact tab1 (n:=QC) Tryz.func147 (by kernel_rfl) h
 ·exact tab1 (n:=Tq) Tryz.func148 (by kernel_rfl) h
 ·exact tab1 (n:=WN) Tryz.func149 (by kernel_rfl) h
 ·exact tab1 (n:=ZV) Tryz.func150 (by kernel_rfl) h
 ·exact tab1 (n:=QN) Tryz.func162 (by kernel_rfl) h
 ·exact tab1 (n:=V7) Tryz.func163 (by kernel_rfl) h
 ·exact tab1 (n:=WW) Tryz.func164 (by kernel_rfl) h
 ·exact tab1 (n:=WM) Tryz.func165 (by kernel_rfl) h
 ·exact tab1 (n:=WC) Tryz.func168 (by kernel_rfl) h
 ·exact tab1 (n:=WH) Tryz.func169 (by kernel_rfl) h
 ·exact tab1 (n:=WP) Tryz.func170 (by kernel_rfl) h
 ·exact tab1 (n:=YL) Tryz.func171 (by kernel_rfl) h
 ·exact tab1 (n:=qI) Tryz.func172 (by kernel_rfl) h
 ·exact tab1 (n:=YF) Tryz.func179 (by kernel_rfl) h
 ·exact tab1 (n:=WU) Tryz.func185 (by kernel_rfl) h
 ·exact tab1 (n:=kT) Tryz.func186 (by kernel_rfl) h
 ·exact tab1 (n:=WJ) Tryz.func189 (by kernel_rfl) h
 ·exact tab1 (n:=Tc) Tryz.func190 (by kernel_rfl) h
 ·exact tab1 (n:=YX) Tryz.func191 (by kernel_rfl) h
 ·exact tab1 (n:=yA) Tryz.func192 (by kernel_rfl) h
 ·exact tab1 (n:=qM) Tryz.func193 (by kernel_rfl) h
 ·exact tab1 (n:=qG) Tryz.func196 (by kernel_rfl) h
 ·exact tab1 (n:=qF) Tryz.func197 (by kernel_rfl) h
 ·exact tab1 (n:=QB) Tryz.func198 (by kernel_rfl) h
 ·exact tab1 (n:=QD) Tryz.func199 (by kernel_rfl) h
 ·exact tab1 (n:=Tp) Tryz.func200 (by kernel_rfl) h
 ·exact tab1 (n:=V5) Tryz.func211 (by kernel_rfl) h
 ·exact tab1 (n:=YW) Tryz.func212 (by kernel_rfl) h
 ·exact tab1 (n:=V4) Tryz.func213 (by kernel_rfl) h
 ·exact tab1 (n:=jz) Tryz.func214 (by kernel_rfl) h
 ·exact tab1 (n:=V3) Tryz.func215 (by kernel_rfl) h
 ·exact tab1 (n:=jx) Tryz.func216 (by kernel_rfl) h
 ·exact tab1 (n:=V2) Tryz.func217 (by kernel_rfl) h
 ·exact tab1 (n:=tS) Tryz.func218 (by kernel_rfl) h
 ·exact tab1 (n:=V1) Tryz.func219 (by kernel_rfl) h
 ·exact tab1 (n:=jy) Tryz.func220 (by kernel_rfl) h
 ·exact tab1 (n:=V0) Tryz.func221 (by kernel_rfl) h
 ·exact tab1 (n:=qN) Tryz.func222 (by kernel_rfl) h
 ·exact tab1 (n:=WZ) Tryz.func223 (by kernel_rfl) h
 ·exact tab1 (n:=Tw) Tryz.func224 (by kernel_rfl) h
 ·exact tab1 (n:=xo) Tryz.func225 (by kernel_rfl) h
 ·exact tab1 (n:=YN) Tryz.func226 (by kernel_rfl) h
 ·exact tab1 (n:=WS) Tryz.func227 (by kernel_rfl) h
 ·exact tab1 (n:=zL) Tryz.func228 (by kernel_rfl) h
 ·exact tab1 (n:=ZS) Tryz.func229 (by kernel_rfl) h
 ·exact tab1 (n:=YK) Tryz.func230 (by kernel_rfl) h
 ·exact tab1 (n:=kN) Tryz.func231 (by kernel_rfl) h
 ·exact tab1 (n:=YI) Tryz.func232 (by kernel_rfl) h
 ·exact tab1 (n:=YR) Tryz.func233 (by kernel_rfl) h
 ·exact tab1 (n:=Tg) Tryz.func234 (by kernel_rfl) h
 ·exact tab1 (n:=vN) Tryz.func235 (by kernel_rfl) h
 ·exact tab1 (n:=Td) Tryz.func236 (by kernel_rfl) h
 ·exact tab1 (n:=qH) Tryz.func237 (by kernel_rfl) h
 ·exact tab1 (n:=te) Tryz.func238 (by kernel_rfl) h
 ·exact tab1 (n:=qJ) Tryz.func239 (by kernel_rfl) h
 ·exact tab1 (n:=WB) Tryz.func240 (by kernel_rfl) h
 ·exact tab1 (n:=ZQ) Tryz.func241 (by kernel_rfl) h
 ·exact tab1 (n:=Qy) Tryz.func242 (by kernel_rfl) h
 ·exact tab1 (n:=Qz) Tryz.func247 (by kernel_rfl) h
 ·exact tab1 (n:=QG) Tryz.func249 (by kernel_rfl) h
 ·exact tab1 (n:=QJ) Tryz.func250 (by kernel_rfl) h
 ·exact tab1 (n:=Tl) Tryz.func252 (by kernel_rfl) h
 ·exact tab1 (n:=YU) Tryz.func253 (by kernel_rfl) h
 ·exact tab1 (n:=WT) Tryz.func254 (by kernel_rfl) h
 ·exact tab1 (n:=WV) Tryz.func255 (by kernel_rfl) h
 ·cases h
theorem tab0p1Ok:TabOk Tryz.prog tab0p1:=by
 intro f afn h
 unfold tab0p1 at h
 split at h
 ·exact tab1 (n:=YG) Tryz.func256 (by kernel_rfl) h
 ·exact tab1 (n:=x4) Tryz.func257 (by kernel_rfl) h
 ·exact tab1 (n:=Ts) Tryz.func258 (by kernel_rfl) h
 ·exact tab1 (n:=ju) Tryz.func259 (by kernel_rfl) h
 ·exact tab1 (n:=WG) Tryz.func260 (by kernel_rfl) h
 ·exact tab1 (n:=WF) Tryz.func261 (by kernel_rfl) h
 ·exact tab1 (n:=kS) Tryz.func262 (by kernel_rfl) h
 ·exact tab1 (n:=YS) Tryz.func263 (by kernel_rfl) h
 ·exact tab1 (n:=tT) Tryz.func273 (by kernel_rfl) h
 ·exact tab1 (n:=th) Tryz.func274 (by kernel_rfl) h
 ·exact tab1 (n:=qL) Tryz.func275 (by kernel_rfl) h
 ·exact tab1 (n:=ug) Tryz.func276 (by kernel_rfl) h
 ·exact tab1 (n:=Wz) Tryz.func277 (by kernel_rfl) h
 ·exact tab1 (n:=QK) Tryz.func278 (by kernel_rfl) h
 ·exact tab1 (n:=QA) Tryz.func279 (by kernel_rfl) h
 ·exact tab1 (n:=uC) Tryz.func280 (by kernel_rfl) h
 ·exact tab1 (n:=YY) Tryz.func281 (by kernel_rfl) h
 ·exact tab1 (n:=tp) Tryz.func282 (by kernel_rfl) h
 ·exact tab1 (n:=uD) Tryz.func283 (by kernel_rfl) h
 ·exact tab1 (n:=vR) Tryz.func284 (by kernel_rfl) h
 ·exact tab1 (n:=Tt) Tryz.func285 (by kernel_rfl) h
 ·exact tab1 (n:=QI) Tryz.func286 (by kernel_rfl) h
 ·exact tab1 (n:=WE) Tryz.func287 (by kernel_rfl) h
 ·exact tab1 (n:=WK) Tryz.func288 (by kernel_rfl) h
 ·exact tab1 (n:=WR) Tryz.func289 (by kernel_rfl) h
 ·exact tab1 (n:=ZY) Tryz.func290 (by kernel_rfl) h
 ·exact tab1 (n:=y4) Tryz.func291 (by kernel_rfl) h
 ·exact tab1 (n:=YJ) Tryz.func292 (by kernel_rfl) h
 ·exact tab1 (n:=kR) Tryz.func293 (by kernel_rfl) h
 ·exact tab1 (n:=qK) Tryz.func294 (by kernel_rfl) h
 ·exact tab1 (n:=Te) Tryz.func295 (by kernel_rfl) h
 ·exact tab1 (n:=WI) Tryz.func296 (by kernel_rfl) h
 ·exact tab1 (n:=QE) Tryz.func297 (by kernel_rfl) h
 ·exact tab1 (n:=QF) Tryz.func298 (by kernel_rfl) h
 ·exact tab1 (n:=QH) Tryz.func299 (by kernel_rfl) h
 ·exact tab1 (n:=z17) Tryz.func300 (by kernel_rfl) h
 ·exact tab1 (n:=YM) Tryz.func301 (by kernel_rfl) h
 ·exact tab1 (n:=kM) Tryz.func303 (by kernel_rfl) h
 ·exact tab1 (n:=WD) Tryz.func304 (by kernel_rfl) h
 ·exact tab1 (n:=YV) Tryz.func305 (by kernel_rfl) h
 ·exact tab1 (n:=Tk) Tryz.func306 (by kernel_rfl) h
 ·exact tab1 (n:=zV) Tryz.func307 (by kernel_rfl) h
 ·exact tab1 (n:=ZZ) Tryz.func308 (by kernel_rfl) h
 ·exact tab1 (n:=Tj) Tryz.func309 (by kernel_rfl) h
 ·exact tab1 (n:=tj) Tryz.func317 (by kernel_rfl) h
 ·exact tab1 (n:=Th) Tryz.func318 (by kernel_rfl) h
 ·exact tab1 (n:=ZR) Tryz.func319 (by kernel_rfl) h
 ·exact tab1 (n:=Wy) Tryz.func320 (by kernel_rfl) h
 ·exact tab1 (n:=Tu) Tryz.func321 (by kernel_rfl) h
 ·exact tab1 (n:=WX) Tryz.func322 (by kernel_rfl) h
 ·exact tab1 (n:=kV) Tryz.func323 (by kernel_rfl) h
 ·exact tab1 (n:=vO) Tryz.func324 (by kernel_rfl) h
 ·exact tab1 (n:=X1) Tryz.func325 (by kernel_rfl) h
 ·exact tab1 (n:=tl) Tryz.func326 (by kernel_rfl) h
 ·exact tab1 (n:=to) Tryz.func327 (by kernel_rfl) h
 ·exact tab1 (n:=vQ) Tryz.func328 (by kernel_rfl) h
 ·exact tab1 (n:=xF) Tryz.func329 (by kernel_rfl) h
 ·exact tab1 (n:=vl) Tryz.func330 (by kernel_rfl) h
 ·exact tab1 (n:=qO) Tryz.func331 (by kernel_rfl) h
 ·exact tab1 (n:=vP) Tryz.func332 (by kernel_rfl) h
 ·exact tab1 (n:=uh) Tryz.func333 (by kernel_rfl) h
 ·exact tab1 (n:=tq) Tryz.func334 (by kernel_rfl) h
 ·exact tab1 (n:=uE) Tryz.func335 (by kernel_rfl) h
 ·exact tab1 (n:=tn) Tryz.func336 (by kernel_rfl) h
 ·exact tab1 (n:=QM) Tryz.func337 (by kernel_rfl) h
 ·exact tab1 (n:=uB) Tryz.func338 (by kernel_rfl) h
 ·exact tab1 (n:=uF) Tryz.func339 (by kernel_rfl) h
 ·exact tab1 (n:=QL) Tryz.func340 (by kernel_rfl) h
 ·exact tab1 (n:=YZ) Tryz.func341 (by kernel_rfl) h
 ·exact tab1 (n:=kP) Tryz.func342 (by kernel_rfl) h
 ·exact tab1 (n:=tQ) Tryz.func343 (by kernel_rfl) h
 ·exact tab1 (n:=tR) Tryz.func344 (by kernel_rfl) h
 ·exact tab1 (n:=WQ) Tryz.func345 (by kernel_rfl) h
 ·exact tab1 (n:=YT) Tryz.func346 (by kernel_rfl) h
 ·exact tab1 (n:=yd) Tryz.func347 (by kernel_rfl) h
 ·exact tab1 (n:=WY) Tryz.func352 (by kernel_rfl) h
 ·exact tab1 (n:=vk) Tryz.func353 (by kernel_rfl) h
 ·exact tab1 (n:=xE) Tryz.func354 (by kernel_rfl) h
 ·exact tab1 (n:=vS) Tryz.func355 (by kernel_rfl) h
 ·exact tab1 (n:=tg) Tryz.func356 (by kernel_rfl) h
 ·exact tab1 (n:=jv) Tryz.func357 (by kernel_rfl) h
 ·exact tab1 (n:=tf) Tryz.func358 (by kernel_rfl) h
 ·exact tab1 (n:=vM) Tryz.func359 (by kernel_rfl) h
 ·exact tab1 (n:=vj) Tryz.func360 (by kernel_rfl) h
 ·exact tab1 (n:=v8) Tryz.func361 (by kernel_rfl) h
 ·exact tab1 (n:=ZU) Tryz.func362 (by kernel_rfl) h
 ·exact tab1 (n:=yS) Tryz.func363 (by kernel_rfl) h
 ·exact tab1 (n:=xO) Tryz.func364 (by kernel_rfl) h
 ·exact tab1 (n:=yT) Tryz.func365 (by kernel_rfl) h
 ·exact tab1 (n:=xj) Tryz.func366 (by kernel_rfl) h
 ·exact tab1 (n:=yZ) Tryz.func367 (by kernel_rfl) h
 ·exact tab1 (n:=y3) Tryz.func368 (by kernel_rfl) h
 ·exact tab1 (n:=X0) Tryz.func369 (by kernel_rfl) h
 ·exact tab1 (n:=yF) Tryz.func370 (by kernel_rfl) h
 ·exact tab1 (n:=xD) Tryz.func371 (by kernel_rfl) h
 ·exact tab1 (n:=k8) Tryz.func372 (by kernel_rfl) h
 ·exact tab1 (n:=k7) Tryz.func373 (by kernel_rfl) h
 ·exact tab1 (n:=xN) Tryz.func374 (by kernel_rfl) h
 ·exact tab1 (n:=uf) Tryz.func375 (by kernel_rfl) h
 ·exact tab1 (n:=uA) Tryz.func376 (by kernel_rfl) h
 ·cases h
theorem tab0p2Ok:TabOk Tryz.prog tab0p2:=by
 intro f afn h
 unfold tab0p2 at h
 split at h
 ·exact tab1 (n:=yG) Tryz.func377 (by kernel_rfl) h
 ·exact tab1 (n:=vi) Tryz.func378 (by kernel_rfl) h
 ·exact tab1 (n:=Y2) Tryz.func379 (by kernel_rfl) h
 ·exact tab1 (n:=vh) Tryz.func380 (by kernel_rfl) h
 ·cases h
theorem tab0Ok:TabOk Tryz.prog tab0:=by
 intro f afn h
 unfold tab0 at h
 cases h0:tab0p0 f with
 |some a=>rw[h0] at h;exact tab0p0Ok f afn (h0.trans h)
 |none=>
 rw[h0] at h
 cases h1:tab0p1 f with
 |some a=>rw[h1] at h;exact tab0p1Ok f afn (h1.trans h)
 |none=>
 rw[h1] at h
 exact tab0p2Ok f afn h
end Go.Proofs.W
end
section
namespace Go.Proofs.W
open Go.Vs Go.Vs.Sn
set_option maxRecDepth 1000000
theorem mok0:MemoOk Tryz.prog g0.memo:=z1b _
theorem tr:Known Tryz.prog zj true:=z1i g0 (by kernel_rfl) tab0Ok mok0 10001 top
end Go.Proofs.W
end
section
namespace Go.Proofs.W
open Go.Vs Go.Vs.U
set_option maxRecDepth 100000
theorem tabOk:TabOk Tryz.prog tab:=by
 intro f afn h
 unfold tab at h
 split at h
 ·rename_i e;subst e;exact tab2 tr h
 exact tab0Ok f afn h
end Go.Proofs.W
end
