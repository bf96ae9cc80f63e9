/-
  Part 8 of the proof, shared by claims of this seat: R6Tie, R6Read.
-/
import Derived.Test.YtlmfkfmgnkjlaaaGreatB2
import Derived.Test.YtlmfkfmgnkjlaaaGreatB6
import Derived.Test.YtlmfkfmgnkjlaaaGreatProg
import Derived.Test.YtlmfkfmgnkjlaaaGreatB5
import Derived.KernelRfl
import Derived.Test.YtlmfkfmgnkjlaaaGreatB3
set_option maxHeartbeats 64000000
set_option linter.unusedVariables false
set_option linter.unusedSimpArgs false
open List renaming take_succ_cons → w20, take_zero → w21, drop_succ_cons → w22, drop_zero → w25
section
namespace Go.Proofs.W
open Go.Vs Go.Vs.Z
set_option maxRecDepth 100000
theorem tab0Ok:TabOk Tryz.prog tab0:=by
 intro f afn h
 unfold tab0 at h
 split at h
 ·exact tab1 (n:=Y0) Tryz.func4 (by kernel_rfl) h
 ·exact tab1 (n:=ZB) Tryz.func6 (by kernel_rfl) h
 ·exact tab1 (n:=ZA) Tryz.func8 (by kernel_rfl) h
 ·exact tab1 (n:=Vu) Tryz.func10 (by kernel_rfl) h
 ·exact tab1 (n:=VN) Tryz.func11 (by kernel_rfl) h
 ·exact tab1 (n:=UN) Tryz.func12 (by kernel_rfl) h
 ·exact tab1 (n:=TS) Tryz.func13 (by kernel_rfl) h
 ·exact tab1 (n:=z41) Tryz.func14 (by kernel_rfl) h
 ·exact tab1 (n:=z40) Tryz.func15 (by kernel_rfl) h
 ·exact tab1 (n:=Vt) Tryz.func16 (by kernel_rfl) h
 ·exact tab1 (n:=Vv) Tryz.func17 (by kernel_rfl) h
 ·exact tab1 (n:=Vz) Tryz.func18 (by kernel_rfl) h
 ·exact tab1 (n:=Vy) Tryz.func19 (by kernel_rfl) h
 ·exact tab1 (n:=UM) Tryz.func20 (by kernel_rfl) h
 ·exact tab1 (n:=z3Z) Tryz.func21 (by kernel_rfl) h
 ·exact tab1 (n:=Xh) Tryz.func22 (by kernel_rfl) h
 ·exact tab1 (n:=VJ) Tryz.func23 (by kernel_rfl) h
 ·exact tab1 (n:=Vw) Tryz.func24 (by kernel_rfl) h
 ·exact tab1 (n:=Vr) Tryz.func25 (by kernel_rfl) h
 ·exact tab1 (n:=W9) Tryz.func26 (by kernel_rfl) h
 ·exact tab1 (n:=Yy) Tryz.func27 (by kernel_rfl) h
 ·exact tab1 (n:=Wd) Tryz.func28 (by kernel_rfl) h
 ·exact tab1 (n:=Xf) Tryz.func29 (by kernel_rfl) h
 ·exact tab1 (n:=z2D) Tryz.func30 (by kernel_rfl) h
 ·exact tab1 (n:=Yv) Tryz.func31 (by kernel_rfl) h
 ·exact tab1 (n:=UO) Tryz.func32 (by kernel_rfl) h
 ·exact tab1 (n:=VM) Tryz.func34 (by kernel_rfl) h
 ·exact tab1 (n:=VL) Tryz.func36 (by kernel_rfl) h
 ·exact tab1 (n:=Vp) Tryz.func37 (by kernel_rfl) h
 ·exact tab1 (n:=Vm) Tryz.func38 (by kernel_rfl) h
 ·exact tab1 (n:=W7) Tryz.func39 (by kernel_rfl) h
 ·exact tab1 (n:=Vq) Tryz.func40 (by kernel_rfl) h
 ·exact tab1 (n:=Wb) Tryz.func41 (by kernel_rfl) h
 ·exact tab1 (n:=Wc) Tryz.func42 (by kernel_rfl) h
 ·exact tab1 (n:=UY) Tryz.func43 (by kernel_rfl) h
 ·exact tab1 (n:=Xk) Tryz.func44 (by kernel_rfl) h
 ·exact tab1 (n:=Wi) Tryz.func45 (by kernel_rfl) h
 ·exact tab1 (n:=VB) Tryz.func46 (by kernel_rfl) h
 ·exact tab1 (n:=Vx) Tryz.func47 (by kernel_rfl) h
 ·exact tab1 (n:=UX) Tryz.func48 (by kernel_rfl) h
 ·exact tab1 (n:=z3W) Tryz.func49 (by kernel_rfl) h
 ·exact tab1 (n:=z5N) Tryz.func50 (by kernel_rfl) h
 ·exact tab1 (n:=jU) Tryz.func51 (by kernel_rfl) h
 ·exact tab1 (n:=VG) Tryz.func52 (by kernel_rfl) h
 ·exact tab1 (n:=UP) Tryz.func53 (by kernel_rfl) h
 ·exact tab1 (n:=VC) Tryz.func54 (by kernel_rfl) h
 ·exact tab1 (n:=Wa) Tryz.func55 (by kernel_rfl) h
 ·exact tab1 (n:=Xm) Tryz.func56 (by kernel_rfl) h
 ·exact tab1 (n:=YA) Tryz.func57 (by kernel_rfl) h
 ·exact tab1 (n:=VV) Tryz.func58 (by kernel_rfl) h
 ·exact tab1 (n:=Wk) Tryz.func59 (by kernel_rfl) h
 ·exact tab1 (n:=z76) Tryz.func60 (by kernel_rfl) h
 ·exact tab1 (n:=VU) Tryz.func61 (by kernel_rfl) h
 ·exact tab1 (n:=VA) Tryz.func62 (by kernel_rfl) h
 ·exact tab1 (n:=Yw) Tryz.func63 (by kernel_rfl) h
 ·exact tab1 (n:=VD) Tryz.func64 (by kernel_rfl) h
 ·exact tab1 (n:=Xj) Tryz.func65 (by kernel_rfl) h
 ·exact tab1 (n:=UJ) Tryz.func66 (by kernel_rfl) h
 ·exact tab1 (n:=j6) Tryz.func67 (by kernel_rfl) h
 ·exact tab1 (n:=j5) Tryz.func68 (by kernel_rfl) h
 ·exact tab1 (n:=Zz) Tryz.func69 (by kernel_rfl) h
 ·exact tab1 (n:=UT) Tryz.func70 (by kernel_rfl) h
 ·exact tab1 (n:=UQ) Tryz.func71 (by kernel_rfl) h
 ·exact tab1 (n:=ZZ) Tryz.func72 (by kernel_rfl) h
 ·exact tab1 (n:=Vl) Tryz.func73 (by kernel_rfl) h
 ·exact tab1 (n:=Vn) Tryz.func74 (by kernel_rfl) h
 ·exact tab1 (n:=Yt) Tryz.func75 (by kernel_rfl) h
 ·exact tab1 (n:=W8) Tryz.func76 (by kernel_rfl) h
 ·exact tab1 (n:=We) Tryz.func77 (by kernel_rfl) h
 ·exact tab1 (n:=z2y) Tryz.func78 (by kernel_rfl) h
 ·exact tab1 (n:=z2z) Tryz.func79 (by kernel_rfl) h
 ·exact tab1 (n:=YE) Tryz.func80 (by kernel_rfl) h
 ·exact tab1 (n:=z5L) Tryz.func81 (by kernel_rfl) h
 ·exact tab1 (n:=z3Q) Tryz.func82 (by kernel_rfl) h
 ·exact tab1 (n:=VH) Tryz.func83 (by kernel_rfl) h
 ·exact tab1 (n:=Yu) Tryz.func84 (by kernel_rfl) h
 ·exact tab1 (n:=UV) Tryz.func85 (by kernel_rfl) h
 ·exact tab1 (n:=YB) Tryz.func86 (by kernel_rfl) h
 ·exact tab1 (n:=z2C) Tryz.func87 (by kernel_rfl) h
 ·exact tab1 (n:=VS) Tryz.func88 (by kernel_rfl) h
 ·exact tab1 (n:=YD) Tryz.func89 (by kernel_rfl) h
 ·exact tab1 (n:=kF) Tryz.func90 (by kernel_rfl) h
 ·exact tab1 (n:=ZE) Tryz.func91 (by kernel_rfl) h
 ·exact tab1 (n:=TU) Tryz.func92 (by kernel_rfl) h
 ·exact tab1 (n:=YC) Tryz.func93 (by kernel_rfl) h
 ·exact tab1 (n:=Xn) Tryz.func94 (by kernel_rfl) h
 ·exact tab1 (n:=VW) Tryz.func95 (by kernel_rfl) h
 ·exact tab1 (n:=Wl) Tryz.func96 (by kernel_rfl) h
 ·exact tab1 (n:=z77) Tryz.func97 (by kernel_rfl) h
 ·exact tab1 (n:=z74) Tryz.func98 (by kernel_rfl) h
 ·exact tab1 (n:=z2s) Tryz.func99 (by kernel_rfl) h
 ·exact tab1 (n:=Yx) Tryz.func100 (by kernel_rfl) h
 ·exact tab1 (n:=Qn) Tryz.func101 (by kernel_rfl) h
 ·exact tab1 (n:=UK) Tryz.func102 (by kernel_rfl) h
 ·exact tab1 (n:=UL) Tryz.func103 (by kernel_rfl) h
 ·exact tab1 (n:=W6) Tryz.func104 (by kernel_rfl) h
 ·exact tab1 (n:=Qm) Tryz.func105 (by kernel_rfl) h
 ·exact tab1 (n:=Vo) Tryz.func106 (by kernel_rfl) h
 ·exact tab1 (n:=TR) Tryz.func107 (by kernel_rfl) h
 ·exact tab1 (n:=Z4) Tryz.func108 (by kernel_rfl) h
 ·exact tab1 (n:=Xe) Tryz.func109 (by kernel_rfl) h
 ·exact tab1 (n:=UU) Tryz.func110 (by kernel_rfl) h
 ·exact tab1 (n:=UR) Tryz.func111 (by kernel_rfl) h
 ·exact tab1 (n:=z5K) Tryz.func112 (by kernel_rfl) h
 ·exact tab1 (n:=UZ) Tryz.func113 (by kernel_rfl) h
 ·exact tab1 (n:=VQ) Tryz.func114 (by kernel_rfl) h
 ·exact tab1 (n:=TT) Tryz.func115 (by kernel_rfl) h
 ·exact tab1 (n:=Xl) Tryz.func116 (by kernel_rfl) h
 ·exact tab1 (n:=z5M) Tryz.func117 (by kernel_rfl) h
 ·exact tab1 (n:=z3X) Tryz.func118 (by kernel_rfl) h
 ·exact tab1 (n:=z0D) Tryz.func119 (by kernel_rfl) h
 ·exact tab1 (n:=VT) Tryz.func120 (by kernel_rfl) h
 ·exact tab1 (n:=z79) Tryz.func121 (by kernel_rfl) h
 ·exact tab1 (n:=Wj) Tryz.func122 (by kernel_rfl) h
 ·exact tab1 (n:=Wn) Tryz.func123 (by kernel_rfl) h
 ·exact tab1 (n:=z78) Tryz.func124 (by kernel_rfl) h
 ·exact tab1 (n:=z2A) Tryz.func125 (by kernel_rfl) h
 ·exact tab1 (n:=z0A) Tryz.func126 (by kernel_rfl) h
 ·exact tab1 (n:=UW) Tryz.func127 (by kernel_rfl) h
 ·exact tab1 (n:=Wf) Tryz.func128 (by kernel_rfl) h
 ·exact tab1 (n:=VF) Tryz.func129 (by kernel_rfl) h
 ·exact tab1 (n:=Wh) Tryz.func130 (by kernel_rfl) h
 ·exact tab1 (n:=US) Tryz.func131 (by kernel_rfl) h
 ·exact tab1 (n:=ZD) Tryz.func132 (by kernel_rfl) h
 ·exact tab1 (n:=kE) Tryz.func133 (by kernel_rfl) h
 ·exact tab1 (n:=YF) Tryz.func134 (by kernel_rfl) h
 ·exact tab1 (n:=z3R) Tryz.func135 (by kernel_rfl) h
 ·exact tab1 (n:=z72) Tryz.func136 (by kernel_rfl) h
 ·exact tab1 (n:=z73) Tryz.func137 (by kernel_rfl) h
 ·exact tab1 (n:=z75) Tryz.func138 (by kernel_rfl) h
 ·exact tab1 (n:=z8m) Tryz.func139 (by kernel_rfl) h
 ·exact tab1 (n:=Vk) Tryz.func140 (by kernel_rfl) h
 ·exact tab1 (n:=z3U) Tryz.func141 (by kernel_rfl) h
 ·exact tab1 (n:=z3S) Tryz.func142 (by kernel_rfl) h
 ·exact tab1 (n:=z0C) Tryz.func143 (by kernel_rfl) h
 ·exact tab1 (n:=VR) Tryz.func144 (by kernel_rfl) h
 ·exact tab1 (n:=z71) Tryz.func145 (by kernel_rfl) h
 ·exact tab1 (n:=z3O) Tryz.func146 (by kernel_rfl) h
 ·exact tab1 (n:=z5G) Tryz.func147 (by kernel_rfl) h
 ·exact tab1 (n:=z1n) Tryz.func148 (by kernel_rfl) h
 ·exact tab1 (n:=z3Y) Tryz.func149 (by kernel_rfl) h
 ·exact tab1 (n:=VP) Tryz.func150 (by kernel_rfl) h
 ·exact tab1 (n:=z2u) Tryz.func151 (by kernel_rfl) h
 ·exact tab1 (n:=VE) Tryz.func152 (by kernel_rfl) h
 ·exact tab1 (n:=Wg) Tryz.func153 (by kernel_rfl) h
 ·exact tab1 (n:=ZC) Tryz.func154 (by kernel_rfl) h
 ·exact tab1 (n:=z5J) Tryz.func155 (by kernel_rfl) h
 ·exact tab1 (n:=z2w) Tryz.func156 (by kernel_rfl) h
 ·exact tab1 (n:=z2t) Tryz.func157 (by kernel_rfl) h
 ·exact tab1 (n:=z3T) Tryz.func158 (by kernel_rfl) h
 ·exact tab1 (n:=z3V) Tryz.func159 (by kernel_rfl) h
 ·exact tab1 (n:=z2r) Tryz.func160 (by kernel_rfl) h
 ·exact tab1 (n:=z3N) Tryz.func161 (by kernel_rfl) h
 ·exact tab1 (n:=VO) Tryz.func162 (by kernel_rfl) h
 ·exact tab1 (n:=Yz) Tryz.func163 (by kernel_rfl) h
 ·exact tab1 (n:=z2x) Tryz.func164 (by kernel_rfl) h
 ·exact tab1 (n:=z5I) Tryz.func165 (by kernel_rfl) h
 ·exact tab1 (n:=z0B) Tryz.func166 (by kernel_rfl) h
 ·exact tab1 (n:=uF) Tryz.func167 (by kernel_rfl) h
 ·exact tab1 (n:=z1p) Tryz.func168 (by kernel_rfl) h
 ·exact tab1 (n:=z3P) Tryz.func169 (by kernel_rfl) h
 ·exact tab1 (n:=Z5) Tryz.func170 (by kernel_rfl) h
 ·exact tab1 (n:=z1o) Tryz.func171 (by kernel_rfl) h
 ·exact tab1 (n:=z2v) Tryz.func172 (by kernel_rfl) h
 ·exact tab1 (n:=z5H) Tryz.func173 (by kernel_rfl) h
 ·exact tab1 (n:=tP) Tryz.func174 (by kernel_rfl) h
 ·exact tab1 (n:=jk) Tryz.func175 (by kernel_rfl) h
 ·exact tab1 (n:=z2B) Tryz.func181 (by kernel_rfl) h
 ·exact tab1 (n:=QT) Tryz.func184 (by kernel_rfl) h
 ·exact tab1 (n:=QS) Tryz.func185 (by kernel_rfl) h
 ·exact tab1 (n:=z1q) Tryz.func191 (by kernel_rfl) h
 ·cases h
theorem VX:Known Tryz.prog zu true:=z5T (by kernel_rfl) tab0Ok 1000 VY
theorem tabOk:TabOk Tryz.prog tab:=by
 intro f afn h
 unfold tab at h
 split at h
 ·rename_i e;subst e;exact tab2 VX h
 exact tab0Ok f afn h
end Go.Proofs.W
end
section
namespace Go.Proofs.W
open Go.Vs
set_option maxRecDepth 100000
set_option linter.unusedVariables false
set_option linter.unusedSimpArgs false
theorem rd5 (n:Nat) (xs:List AV) (h:Typed Tryz.prog n 5 xs): ∃d y,xs=[y]∧IsK .u8 d y∧inU8 d:=by
 cases n with
 |zero=>exact absurd h yh
 |succ n=>obtain⟨i,rfl,hw⟩:=z0s h Tryz.underlying5;exact⟨i,_,rfl,rfl,zdK hw⟩
theorem rd3 (n:Nat) (xs:List AV) (h:Typed Tryz.prog n 3 xs): ∃d y,xs=[y]∧IsK .i64 d y∧in64 d:=by
 cases n with
 |zero=>exact absurd h yh
 |succ n=>obtain⟨i,rfl,hw⟩:=z0s h Tryz.underlying3;exact⟨i,_,rfl,rfl,zdL hw⟩
theorem rd9 (n:Nat) (xs:List AV) (h:Typed Tryz.prog n 9 xs): ∃d y,xs=[y]∧IsStr d y∧strOk d:=by
 cases n with
 |zero=>exact absurd h yh
 |succ n=>obtain⟨i,rfl,hw⟩:=za4 h Tryz.underlying9;exact⟨i,_,rfl,rfl,hw⟩
theorem cells95:Tryz.prog.cellsOf 95=2:=by kernel_rfl
theorem rd95 (n:Nat) (xs:List AV) (h:Typed Tryz.prog n 95 xs): ∃d,IsField d (.agg xs)∧WfField d:=by
 cases n with
 |zero=>exact absurd h yh
 |succ n=>
  have hl:=Zg h (by kernel_rfl) cells95
  match xs,hl with
  | [c0,c1],_=>
   have k0:=rd9 n _ (zE h (i:=0) (ft:=9) (off:=0) (c:=1) (by kernel_rfl) (by kernel_rfl))
   simp only[w22,w25,w20,w21] at k0
   obtain⟨d0,y0,e0,p0,w0⟩:=k0
   injection e0 with e0 _
   subst e0
   cases p0
   have k1:=rd3 n _ (zE h (i:=1) (ft:=3) (off:=1) (c:=1) (by kernel_rfl) (by kernel_rfl))
   simp only[w22,w25,w20,w21] at k1
   obtain⟨d1,y1,e1,p1,w1⟩:=k1
   injection e1 with e1 _
   subst e1
   cases p1
   exact⟨⟨d0,d1⟩,rfl,⟨w0,w1⟩⟩
theorem z91:Tryz.prog.cellsOf 95=2:=by kernel_rfl
theorem rd40 (n:Nat) (xs:List AV) (h:Typed Tryz.prog n 40 xs): ∃d y,xs=[y]∧IsSl IsField 2 d y∧ ∀x∈d,WfField x:=by
 cases n with
 |zero=>exact absurd h yh
 |succ n=>
  obtain⟨d,y,h1,h2⟩:=tL (R:=fun d y=>IsField d y∧WfField d) h Tryz.underlying40 z91 (fun y h1 h2=>by
   obtain⟨cs,rfl⟩:=XD h1 (by kernel_rfl)
   exact rd95 n cs h2)
  exact⟨d,y,h1,jV h2⟩
theorem cells81:Tryz.prog.cellsOf 81=4:=by kernel_rfl
theorem rd81 (n:Nat) (xs:List AV) (h:Typed Tryz.prog n 81 xs): ∃d,IsTyp d (.agg xs)∧WfTyp d:=by
 cases n with
 |zero=>exact absurd h yh
 |succ n=>
  have hl:=Zg h (by kernel_rfl) cells81
  match xs,hl with
  | [c0,c1,c2,c3],_=>
   have k0:=rd5 n _ (zE h (i:=0) (ft:=5) (off:=0) (c:=1) (by kernel_rfl) (by kernel_rfl))
   simp only[w22,w25,w20,w21] at k0
   obtain⟨d0,y0,e0,p0,w0⟩:=k0
   injection e0 with e0 _
   subst e0
   cases p0
   have k1:=rd3 n _ (zE h (i:=1) (ft:=3) (off:=1) (c:=1) (by kernel_rfl) (by kernel_rfl))
   simp only[w22,w25,w20,w21] at k1
   obtain⟨d1,y1,e1,p1,w1⟩:=k1
   injection e1 with e1 _
   subst e1
   cases p1
   have k2:=rd3 n _ (zE h (i:=2) (ft:=3) (off:=2) (c:=1) (by kernel_rfl) (by kernel_rfl))
   simp only[w22,w25,w20,w21] at k2
   obtain⟨d2,y2,e2,p2,w2⟩:=k2
   injection e2 with e2 _
   subst e2
   cases p2
   have k3:=rd40 n _ (zE h (i:=3) (ft:=40) (off:=3) (c:=1) (by kernel_rfl) (by kernel_rfl))
   simp only[w22,w25,w20,w21] at k3
   obtain⟨d3,y3,e3,p3,w3⟩:=k3
   injection e3 with e3 _
   subst e3
   exact⟨⟨d0,d1,d2,d3⟩,⟨_,rfl,p3⟩,⟨w0,w1,w2,w3⟩⟩
theorem z95:Tryz.prog.cellsOf 81=4:=by kernel_rfl
theorem rd22 (n:Nat) (xs:List AV) (h:Typed Tryz.prog n 22 xs): ∃d y,xs=[y]∧IsSl IsTyp 4 d y∧ ∀x∈d,WfTyp x:=by
 cases n with
 |zero=>exact absurd h yh
 |succ n=>
  obtain⟨d,y,h1,h2⟩:=tL (R:=fun d y=>IsTyp d y∧WfTyp d) h Tryz.underlying22 z95 (fun y h1 h2=>by
   obtain⟨cs,rfl⟩:=XD h1 (by kernel_rfl)
   exact rd81 n cs h2)
  exact⟨d,y,h1,jV h2⟩
theorem zb0:Tryz.prog.cellsOf 9=1:=by kernel_rfl
theorem rd23 (n:Nat) (xs:List AV) (h:Typed Tryz.prog n 23 xs): ∃d y,xs=[y]∧IsSl IsStr 1 d y∧ ∀x∈d,strOk x:=by
 cases n with
 |zero=>exact absurd h yh
 |succ n=>
  obtain⟨d,y,h1,h2⟩:=tL (R:=fun d y=>IsStr d y∧strOk d) h Tryz.underlying23 zb0 (fun y h1 h2=>by
   have hc:=XC h1 (by kernel_rfl)
   rw[hc] at h2
   obtain⟨d,z,e,hd⟩:=rd9 n _ h2
   injection e with e _
   subst e
   exact⟨d,hd⟩)
  exact⟨d,y,h1,jV h2⟩
theorem cells33:Tryz.prog.cellsOf 33=4:=by kernel_rfl
theorem rd33 (n:Nat) (xs:List AV) (h:Typed Tryz.prog n 33 xs): ∃d,IsInstr d (.agg xs)∧WfInstr d:=by
 cases n with
 |zero=>exact absurd h yh
 |succ n=>
  have hl:=Zg h (by kernel_rfl) cells33
  match xs,hl with
  | [c0,c1,c2,c3],_=>
   have k0:=rd5 n _ (zE h (i:=0) (ft:=5) (off:=0) (c:=1) (by kernel_rfl) (by kernel_rfl))
   simp only[w22,w25,w20,w21] at k0
   obtain⟨d0,y0,e0,p0,w0⟩:=k0
   injection e0 with e0 _
   subst e0
   cases p0
   have k1:=rd3 n _ (zE h (i:=1) (ft:=3) (off:=1) (c:=1) (by kernel_rfl) (by kernel_rfl))
   simp only[w22,w25,w20,w21] at k1
   obtain⟨d1,y1,e1,p1,w1⟩:=k1
   injection e1 with e1 _
   subst e1
   cases p1
   have k2:=rd3 n _ (zE h (i:=2) (ft:=3) (off:=2) (c:=1) (by kernel_rfl) (by kernel_rfl))
   simp only[w22,w25,w20,w21] at k2
   obtain⟨d2,y2,e2,p2,w2⟩:=k2
   injection e2 with e2 _
   subst e2
   cases p2
   have k3:=rd3 n _ (zE h (i:=3) (ft:=3) (off:=3) (c:=1) (by kernel_rfl) (by kernel_rfl))
   simp only[w22,w25,w20,w21] at k3
   obtain⟨d3,y3,e3,p3,w3⟩:=k3
   injection e3 with e3 _
   subst e3
   cases p3
   exact⟨⟨d0,d1,d2,d3⟩,rfl,⟨w0,w1,w2,w3⟩⟩
theorem z93:Tryz.prog.cellsOf 33=4:=by kernel_rfl
theorem rd35 (n:Nat) (xs:List AV) (h:Typed Tryz.prog n 35 xs): ∃d y,xs=[y]∧IsSl IsInstr 4 d y∧ ∀x∈d,WfInstr x:=by
 cases n with
 |zero=>exact absurd h yh
 |succ n=>
  obtain⟨d,y,h1,h2⟩:=tL (R:=fun d y=>IsInstr d y∧WfInstr d) h Tryz.underlying35 z93 (fun y h1 h2=>by
   obtain⟨cs,rfl⟩:=XD h1 (by kernel_rfl)
   exact rd33 n cs h2)
  exact⟨d,y,h1,jV h2⟩
theorem rd36 (n:Nat) (xs:List AV) (h:Typed Tryz.prog n 36 xs): ∃d y,xs=[y]∧IsK .u64 d y∧inU64 d:=by
 cases n with
 |zero=>exact absurd h yh
 |succ n=>obtain⟨i,rfl,hw⟩:=z0s h Tryz.underlying36;exact⟨i,_,rfl,rfl,zcj hw⟩
theorem cells38:Tryz.prog.cellsOf 38=2:=by kernel_rfl
theorem rd38 (n:Nat) (xs:List AV) (h:Typed Tryz.prog n 38 xs): ∃d,IsRun d (.agg xs)∧WfRun d:=by
 cases n with
 |zero=>exact absurd h yh
 |succ n=>
  have hl:=Zg h (by kernel_rfl) cells38
  match xs,hl with
  | [c0,c1],_=>
   have k0:=rd3 n _ (zE h (i:=0) (ft:=3) (off:=0) (c:=1) (by kernel_rfl) (by kernel_rfl))
   simp only[w22,w25,w20,w21] at k0
   obtain⟨d0,y0,e0,p0,w0⟩:=k0
   injection e0 with e0 _
   subst e0
   cases p0
   have k1:=rd36 n _ (zE h (i:=1) (ft:=36) (off:=1) (c:=1) (by kernel_rfl) (by kernel_rfl))
   simp only[w22,w25,w20,w21] at k1
   obtain⟨d1,y1,e1,p1,w1⟩:=k1
   injection e1 with e1 _
   subst e1
   cases p1
   exact⟨⟨d0,d1⟩,rfl,⟨w0,w1⟩⟩
theorem z92:Tryz.prog.cellsOf 38=2:=by kernel_rfl
theorem rd39 (n:Nat) (xs:List AV) (h:Typed Tryz.prog n 39 xs): ∃d y,xs=[y]∧IsSl IsRun 2 d y∧ ∀x∈d,WfRun x:=by
 cases n with
 |zero=>exact absurd h yh
 |succ n=>
  obtain⟨d,y,h1,h2⟩:=tL (R:=fun d y=>IsRun d y∧WfRun d) h Tryz.underlying39 z92 (fun y h1 h2=>by
   obtain⟨cs,rfl⟩:=XD h1 (by kernel_rfl)
   exact rd38 n cs h2)
  exact⟨d,y,h1,jV h2⟩
theorem cells42:Tryz.prog.cellsOf 42=7:=by kernel_rfl
theorem rd42 (n:Nat) (xs:List AV) (h:Typed Tryz.prog n 42 xs): ∃d,IsFunc d (.agg xs)∧WfFunc d:=by
 cases n with
 |zero=>exact absurd h yh
 |succ n=>
  have hl:=Zg h (by kernel_rfl) cells42
  match xs,hl with
  | [c0,c1,c2,c3,c4,c5,c6],_=>
   have k0:=rd9 n _ (zE h (i:=0) (ft:=9) (off:=0) (c:=1) (by kernel_rfl) (by kernel_rfl))
   simp only[w22,w25,w20,w21] at k0
   obtain⟨d0,y0,e0,p0,w0⟩:=k0
   injection e0 with e0 _
   subst e0
   cases p0
   have k1:=rd3 n _ (zE h (i:=1) (ft:=3) (off:=1) (c:=1) (by kernel_rfl) (by kernel_rfl))
   simp only[w22,w25,w20,w21] at k1
   obtain⟨d1,y1,e1,p1,w1⟩:=k1
   injection e1 with e1 _
   subst e1
   cases p1
   have k2:=rd3 n _ (zE h (i:=2) (ft:=3) (off:=2) (c:=1) (by kernel_rfl) (by kernel_rfl))
   simp only[w22,w25,w20,w21] at k2
   obtain⟨d2,y2,e2,p2,w2⟩:=k2
   injection e2 with e2 _
   subst e2
   cases p2
   have k3:=rd40 n _ (zE h (i:=3) (ft:=40) (off:=3) (c:=1) (by kernel_rfl) (by kernel_rfl))
   simp only[w22,w25,w20,w21] at k3
   obtain⟨d3,y3,e3,p3,w3⟩:=k3
   injection e3 with e3 _
   subst e3
   have k4:=rd35 n _ (zE h (i:=4) (ft:=35) (off:=4) (c:=1) (by kernel_rfl) (by kernel_rfl))
   simp only[w22,w25,w20,w21] at k4
   obtain⟨d4,y4,e4,p4,w4⟩:=k4
   injection e4 with e4 _
   subst e4
   have k5:=rd39 n _ (zE h (i:=5) (ft:=39) (off:=5) (c:=1) (by kernel_rfl) (by kernel_rfl))
   simp only[w22,w25,w20,w21] at k5
   obtain⟨d5,y5,e5,p5,w5⟩:=k5
   injection e5 with e5 _
   subst e5
   have k6:=rd39 n _ (zE h (i:=6) (ft:=39) (off:=6) (c:=1) (by kernel_rfl) (by kernel_rfl))
   simp only[w22,w25,w20,w21] at k6
   obtain⟨d6,y6,e6,p6,w6⟩:=k6
   injection e6 with e6 _
   subst e6
   exact⟨⟨d0,d1,d2,d3,d4,d5,d6⟩,⟨_,_,_,_,rfl,p3,p4,p5,p6⟩,⟨w0,w1,w2,w3,w4,w5,w6⟩⟩
theorem z94:Tryz.prog.cellsOf 42=7:=by kernel_rfl
theorem rd24 (n:Nat) (xs:List AV) (h:Typed Tryz.prog n 24 xs): ∃d y,xs=[y]∧IsSl IsFunc 7 d y∧ ∀x∈d,WfFunc x:=by
 cases n with
 |zero=>exact absurd h yh
 |succ n=>
  obtain⟨d,y,h1,h2⟩:=tL (R:=fun d y=>IsFunc d y∧WfFunc d) h Tryz.underlying24 z94 (fun y h1 h2=>by
   obtain⟨cs,rfl⟩:=XD h1 (by kernel_rfl)
   exact rd42 n cs h2)
  exact⟨d,y,h1,jV h2⟩
theorem cells26:Tryz.prog.cellsOf 26=3:=by kernel_rfl
theorem rd26 (n:Nat) (xs:List AV) (h:Typed Tryz.prog n 26 xs): ∃d,IsImage d (.agg xs)∧WfImage d:=by
 cases n with
 |zero=>exact absurd h yh
 |succ n=>
  have hl:=Zg h (by kernel_rfl) cells26
  match xs,hl with
  | [c0,c1,c2],_=>
   have k0:=rd22 n _ (zE h (i:=0) (ft:=22) (off:=0) (c:=1) (by kernel_rfl) (by kernel_rfl))
   simp only[w22,w25,w20,w21] at k0
   obtain⟨d0,y0,e0,p0,w0⟩:=k0
   injection e0 with e0 _
   subst e0
   have k1:=rd23 n _ (zE h (i:=1) (ft:=23) (off:=1) (c:=1) (by kernel_rfl) (by kernel_rfl))
   simp only[w22,w25,w20,w21] at k1
   obtain⟨d1,y1,e1,p1,w1⟩:=k1
   injection e1 with e1 _
   subst e1
   have k2:=rd24 n _ (zE h (i:=2) (ft:=24) (off:=2) (c:=1) (by kernel_rfl) (by kernel_rfl))
   simp only[w22,w25,w20,w21] at k2
   obtain⟨d2,y2,e2,p2,w2⟩:=k2
   injection e2 with e2 _
   subst e2
   exact⟨⟨d0,d1,d2⟩,⟨_,_,_,rfl,p0,p1,p2⟩,⟨w0,w1,w2⟩⟩
theorem arg26 (y:AV) (h:ArgT Tryz.prog 26 y): ∃d,IsImage d y∧WfImage d:=by
 obtain⟨h1,n,h2⟩:=h
 obtain⟨cs,rfl⟩:=XD h1 (by kernel_rfl)
 exact rd26 n cs h2
theorem zaZ:Tryz.prog.cellsOf 3=1:=by kernel_rfl
theorem rd47 (n:Nat) (xs:List AV) (h:Typed Tryz.prog n 47 xs): ∃d y,xs=[y]∧IsSl (IsK .i64) 1 d y∧ ∀x∈d,in64 x:=by
 cases n with
 |zero=>exact absurd h yh
 |succ n=>
  obtain⟨d,y,h1,h2⟩:=tL (R:=fun d y=>(IsK .i64) d y∧in64 d) h Tryz.underlying47 zaZ (fun y h1 h2=>by
   have hc:=XC h1 (by kernel_rfl)
   rw[hc] at h2
   obtain⟨d,z,e,hd⟩:=rd3 n _ h2
   injection e with e _
   subst e
   exact⟨d,hd⟩)
  exact⟨d,y,h1,jV h2⟩
theorem Ug:plainAll Tryz.prog [47,36,38,39,33,35,42,24,23,9,95,40,3,5,81,22,26]=true:=by kernel_rfl
end Go.Proofs.W
end
