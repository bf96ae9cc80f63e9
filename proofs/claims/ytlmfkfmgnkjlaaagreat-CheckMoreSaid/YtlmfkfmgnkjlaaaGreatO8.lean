/-
  Part 9 of the proof, shared by claims of this seat: R9Tie, R9Read.
-/
import Derived.Test.YtlmfkfmgnkjlaaaGreatO2
import Derived.Test.YtlmfkfmgnkjlaaaGreatO7
import Derived.Test.YtlmfkfmgnkjlaaaGreatProg
import Derived.Test.YtlmfkfmgnkjlaaaGreatO6
import Derived.KernelRfl
import Derived.Test.YtlmfkfmgnkjlaaaGreatO3
set_option maxHeartbeats 64000000
set_option linter.unusedVariables false
set_option linter.unusedSimpArgs false
open List renaming take_succ_cons → w22, take_zero → w24, drop_succ_cons → w25, drop_zero → w27
section
namespace Go.Proofs.W
open Go.Vs Go.Vs.Z
set_option maxRecDepth 100000
theorem c12v:compFn Tryz.prog Tryz.f12 Xb=some xd:=by kernel_rfl
theorem tab0Ok:TabOk Tryz.prog tab0:=by
 intro f afn h
 unfold tab0 at h
 split at h
 ·exact tab1 (n:=Zg) Tryz.func3 (by kernel_rfl) h
 ·exact tab1 (n:=US) Tryz.func9 (by kernel_rfl) h
 ·exact tab1 (n:=WE) Tryz.func10 (by kernel_rfl) h
 ·exact tab1 (n:=WT) Tryz.func11 (by kernel_rfl) h
 ·exact tab1 (n:=VS) Tryz.func12 (by kernel_rfl) h
 ·exact tab1 (n:=UT) Tryz.func13 (by kernel_rfl) h
 ·exact tab1 (n:=z39) Tryz.func14 (by kernel_rfl) h
 ·exact tab1 (n:=z38) Tryz.func15 (by kernel_rfl) h
 ·exact tab1 (n:=WD) Tryz.func16 (by kernel_rfl) h
 ·exact tab1 (n:=WF) Tryz.func17 (by kernel_rfl) h
 ·exact tab1 (n:=WI) Tryz.func18 (by kernel_rfl) h
 ·exact tab1 (n:=WH) Tryz.func19 (by kernel_rfl) h
 ·exact tab1 (n:=VR) Tryz.func20 (by kernel_rfl) h
 ·exact tab1 (n:=Yp) Tryz.func22 (by kernel_rfl) h
 ·exact tab1 (n:=WC) Tryz.func25 (by kernel_rfl) h
 ·exact tab1 (n:=X7) Tryz.func26 (by kernel_rfl) h
 ·exact tab1 (n:=ZN) Tryz.func27 (by kernel_rfl) h
 ·exact tab1 (n:=Xe) Tryz.func28 (by kernel_rfl) h
 ·exact tab1 (n:=Yo) Tryz.func29 (by kernel_rfl) h
 ·exact tab1 (n:=ZK) Tryz.func31 (by kernel_rfl) h
 ·exact tab1 (n:=WS) Tryz.func34 (by kernel_rfl) h
 ·exact tab1 (n:=WR) Tryz.func36 (by kernel_rfl) h
 ·exact tab1 (n:=WA) Tryz.func37 (by kernel_rfl) h
 ·exact tab1 (n:=WB) Tryz.func40 (by kernel_rfl) h
 ·exact tab1 (n:=X9) Tryz.func41 (by kernel_rfl) h
 ·exact tab1 (n:=Xa) Tryz.func42 (by kernel_rfl) h
 ·exact tab1 (n:=U2) Tryz.func43 (by kernel_rfl) h
 ·exact tab1 (n:=Yr) Tryz.func44 (by kernel_rfl) h
 ·exact tab1 (n:=Xl) Tryz.func45 (by kernel_rfl) h
 ·exact tab1 (n:=WK) Tryz.func46 (by kernel_rfl) h
 ·exact tab1 (n:=WG) Tryz.func47 (by kernel_rfl) h
 ·exact tab1 (n:=U1) Tryz.func48 (by kernel_rfl) h
 ·exact tab1 (n:=z35) Tryz.func49 (by kernel_rfl) h
 ·exact tab1 (n:=z4R) Tryz.func50 (by kernel_rfl) h
 ·exact tab1 (n:=jm) Tryz.func51 (by kernel_rfl) h
 ·exact tab1 (n:=WP) Tryz.func52 (by kernel_rfl) h
 ·exact tab1 (n:=VT) Tryz.func53 (by kernel_rfl) h
 ·exact tab1 (n:=WL) Tryz.func54 (by kernel_rfl) h
 ·exact tab1 (n:=X8) Tryz.func55 (by kernel_rfl) h
 ·exact tab1 (n:=V1) Tryz.func58 (by kernel_rfl) h
 ·exact tab1 (n:=Xn) Tryz.func59 (by kernel_rfl) h
 ·exact tab1 (n:=z67) Tryz.func60 (by kernel_rfl) h
 ·exact tab1 (n:=V0) Tryz.func61 (by kernel_rfl) h
 ·exact tab1 (n:=WJ) Tryz.func62 (by kernel_rfl) h
 ·exact tab1 (n:=ZL) Tryz.func63 (by kernel_rfl) h
 ·exact tab1 (n:=WM) Tryz.func64 (by kernel_rfl) h
 ·exact tab1 (n:=Yq) Tryz.func65 (by kernel_rfl) h
 ·exact tab1 (n:=VO) Tryz.func66 (by kernel_rfl) h
 ·exact tab1 (n:=kV) Tryz.func69 (by kernel_rfl) h
 ·exact tab1 (n:=VX) Tryz.func70 (by kernel_rfl) h
 ·exact tab1 (n:=VU) Tryz.func71 (by kernel_rfl) h
 ·exact tab1 (n:=Wx) Tryz.func73 (by kernel_rfl) h
 ·exact tab1 (n:=Wy) Tryz.func74 (by kernel_rfl) h
 ·exact tab1 (n:=ZI) Tryz.func75 (by kernel_rfl) h
 ·exact tab1 (n:=X6) Tryz.func76 (by kernel_rfl) h
 ·exact tab1 (n:=Xf) Tryz.func77 (by kernel_rfl) h
 ·exact tab1 (n:=z1G) Tryz.func78 (by kernel_rfl) h
 ·exact tab1 (n:=z1H) Tryz.func79 (by kernel_rfl) h
 ·exact tab1 (n:=ZS) Tryz.func80 (by kernel_rfl) h
 ·exact tab1 (n:=z4P) Tryz.func81 (by kernel_rfl) h
 ·exact tab1 (n:=z2Z) Tryz.func82 (by kernel_rfl) h
 ·exact tab1 (n:=WQ) Tryz.func83 (by kernel_rfl) h
 ·exact tab1 (n:=ZJ) Tryz.func84 (by kernel_rfl) h
 ·exact tab1 (n:=VZ) Tryz.func85 (by kernel_rfl) h
 ·exact tab1 (n:=ZP) Tryz.func86 (by kernel_rfl) h
 ·exact tab1 (n:=z1K) Tryz.func87 (by kernel_rfl) h
 ·exact tab1 (n:=WY) Tryz.func88 (by kernel_rfl) h
 ·exact tab1 (n:=ZR) Tryz.func89 (by kernel_rfl) h
 ·exact tab1 (n:=jL) Tryz.func90 (by kernel_rfl) h
 ·exact tab1 (n:=kZ) Tryz.func91 (by kernel_rfl) h
 ·exact tab1 (n:=UV) Tryz.func92 (by kernel_rfl) h
 ·exact tab1 (n:=ZQ) Tryz.func93 (by kernel_rfl) h
 ·exact tab1 (n:=Yt) Tryz.func94 (by kernel_rfl) h
 ·exact tab1 (n:=V2) Tryz.func95 (by kernel_rfl) h
 ·exact tab1 (n:=Xp) Tryz.func96 (by kernel_rfl) h
 ·exact tab1 (n:=z68) Tryz.func97 (by kernel_rfl) h
 ·exact tab1 (n:=z65) Tryz.func98 (by kernel_rfl) h
 ·exact tab1 (n:=z1A) Tryz.func99 (by kernel_rfl) h
 ·exact tab1 (n:=ZM) Tryz.func100 (by kernel_rfl) h
 ·exact tab1 (n:=Tk) Tryz.func101 (by kernel_rfl) h
 ·exact tab1 (n:=VP) Tryz.func102 (by kernel_rfl) h
 ·exact tab1 (n:=VQ) Tryz.func103 (by kernel_rfl) h
 ·exact tab1 (n:=X5) Tryz.func104 (by kernel_rfl) h
 ·exact tab1 (n:=Tj) Tryz.func105 (by kernel_rfl) h
 ·exact tab1 (n:=Wz) Tryz.func106 (by kernel_rfl) h
 ·exact tab1 (n:=UR) Tryz.func107 (by kernel_rfl) h
 ·exact tab1 (n:=kl) Tryz.func108 (by kernel_rfl) h
 ·exact tab1 (n:=Yn) Tryz.func109 (by kernel_rfl) h
 ·exact tab1 (n:=VY) Tryz.func110 (by kernel_rfl) h
 ·exact tab1 (n:=VV) Tryz.func111 (by kernel_rfl) h
 ·exact tab1 (n:=z4O) Tryz.func112 (by kernel_rfl) h
 ·exact tab1 (n:=U3) Tryz.func113 (by kernel_rfl) h
 ·exact tab1 (n:=WW) Tryz.func114 (by kernel_rfl) h
 ·exact tab1 (n:=UU) Tryz.func115 (by kernel_rfl) h
 ·exact tab1 (n:=Ys) Tryz.func116 (by kernel_rfl) h
 ·exact tab1 (n:=z4Q) Tryz.func117 (by kernel_rfl) h
 ·exact tab1 (n:=z36) Tryz.func118 (by kernel_rfl) h
 ·exact tab1 (n:=QJ) Tryz.func119 (by kernel_rfl) h
 ·exact tab1 (n:=WZ) Tryz.func120 (by kernel_rfl) h
 ·exact tab1 (n:=z6a) Tryz.func121 (by kernel_rfl) h
 ·exact tab1 (n:=Xm) Tryz.func122 (by kernel_rfl) h
 ·exact tab1 (n:=Xq) Tryz.func123 (by kernel_rfl) h
 ·exact tab1 (n:=z69) Tryz.func124 (by kernel_rfl) h
 ·exact tab1 (n:=z1I) Tryz.func125 (by kernel_rfl) h
 ·exact tab1 (n:=QG) Tryz.func126 (by kernel_rfl) h
 ·exact tab1 (n:=U0) Tryz.func127 (by kernel_rfl) h
 ·exact tab1 (n:=Xh) Tryz.func128 (by kernel_rfl) h
 ·exact tab1 (n:=WO) Tryz.func129 (by kernel_rfl) h
 ·exact tab1 (n:=Xk) Tryz.func130 (by kernel_rfl) h
 ·exact tab1 (n:=VW) Tryz.func131 (by kernel_rfl) h
 ·exact tab1 (n:=kY) Tryz.func132 (by kernel_rfl) h
 ·exact tab1 (n:=jK) Tryz.func133 (by kernel_rfl) h
 ·exact tab1 (n:=ZT) Tryz.func134 (by kernel_rfl) h
 ·exact tab1 (n:=z30) Tryz.func135 (by kernel_rfl) h
 ·exact tab1 (n:=z63) Tryz.func136 (by kernel_rfl) h
 ·exact tab1 (n:=z64) Tryz.func137 (by kernel_rfl) h
 ·exact tab1 (n:=z66) Tryz.func138 (by kernel_rfl) h
 ·exact tab1 (n:=z7v) Tryz.func139 (by kernel_rfl) h
 ·exact tab1 (n:=Ww) Tryz.func140 (by kernel_rfl) h
 ·exact tab1 (n:=z33) Tryz.func141 (by kernel_rfl) h
 ·exact tab1 (n:=z31) Tryz.func142 (by kernel_rfl) h
 ·exact tab1 (n:=QI) Tryz.func143 (by kernel_rfl) h
 ·exact tab1 (n:=WX) Tryz.func144 (by kernel_rfl) h
 ·exact tab1 (n:=z62) Tryz.func145 (by kernel_rfl) h
 ·exact tab1 (n:=z2X) Tryz.func146 (by kernel_rfl) h
 ·exact tab1 (n:=z4K) Tryz.func147 (by kernel_rfl) h
 ·exact tab1 (n:=z0x) Tryz.func148 (by kernel_rfl) h
 ·exact tab1 (n:=z37) Tryz.func149 (by kernel_rfl) h
 ·exact tab1 (n:=WV) Tryz.func150 (by kernel_rfl) h
 ·exact tab1 (n:=z1C) Tryz.func151 (by kernel_rfl) h
 ·exact tab1 (n:=WN) Tryz.func152 (by kernel_rfl) h
 ·exact tab1 (n:=Xj) Tryz.func153 (by kernel_rfl) h
 ·exact tab1 (n:=kW) Tryz.func154 (by kernel_rfl) h
 ·exact tab1 (n:=z4N) Tryz.func155 (by kernel_rfl) h
 ·exact tab1 (n:=z1E) Tryz.func156 (by kernel_rfl) h
 ·exact tab1 (n:=z1B) Tryz.func157 (by kernel_rfl) h
 ·exact tab1 (n:=z32) Tryz.func158 (by kernel_rfl) h
 ·exact tab1 (n:=z34) Tryz.func159 (by kernel_rfl) h
 ·exact tab1 (n:=z1z) Tryz.func160 (by kernel_rfl) h
 ·exact tab1 (n:=z2W) Tryz.func161 (by kernel_rfl) h
 ·exact tab1 (n:=WU) Tryz.func162 (by kernel_rfl) h
 ·exact tab1 (n:=ZO) Tryz.func163 (by kernel_rfl) h
 ·exact tab1 (n:=z1F) Tryz.func164 (by kernel_rfl) h
 ·exact tab1 (n:=z4M) Tryz.func165 (by kernel_rfl) h
 ·exact tab1 (n:=QH) Tryz.func166 (by kernel_rfl) h
 ·exact tab1 (n:=uj) Tryz.func167 (by kernel_rfl) h
 ·exact tab1 (n:=z0z) Tryz.func168 (by kernel_rfl) h
 ·exact tab1 (n:=z2Y) Tryz.func169 (by kernel_rfl) h
 ·exact tab1 (n:=km) Tryz.func170 (by kernel_rfl) h
 ·exact tab1 (n:=z0y) Tryz.func171 (by kernel_rfl) h
 ·exact tab1 (n:=z1D) Tryz.func172 (by kernel_rfl) h
 ·exact tab1 (n:=z4L) Tryz.func173 (by kernel_rfl) h
 ·exact tab1 (n:=tm) Tryz.func174 (by kernel_rfl) h
 ·exact tab1 (n:=qM) Tryz.func175 (by kernel_rfl) h
 ·exact tab1 (n:=z1J) Tryz.func181 (by kernel_rfl) h
 ·exact tab1 (n:=TV) Tryz.func184 (by kernel_rfl) h
 ·exact tab1 (n:=TU) Tryz.func185 (by kernel_rfl) h
 ·exact tab1 (n:=z0A) Tryz.func191 (by kernel_rfl) h
 ·exact tab1 Tryz.func12 c12v h
 ·cases h
theorem V3:Known Tryz.prog zE true:=z4W (f:=zE) (by kernel_rfl) tab0Ok 1000 V4
theorem tabOk:TabOk Tryz.prog tab:=by
 intro f afn h
 unfold tab at h
 split at h
 ·rename_i e;subst e;exact tab2 V3 h
 exact tab0Ok f afn h
end Go.Proofs.W
end
section
namespace Go.Proofs.W
open Go.Vs
set_option maxRecDepth 100000
set_option linter.unusedVariables false
set_option linter.unusedSimpArgs false
theorem rd5 (n:Nat) (xs:List AV) (h:Typed Tryz.prog n 5 xs): ∃d y,xs=[y]∧IsK .u8 d y∧inU8 d:=by
 cases n with
 |zero=>exact absurd h yd
 |succ n=>obtain⟨i,rfl,hw⟩:=Qu h Tryz.underlying5;exact⟨i,_,rfl,rfl,zdq hw⟩
theorem rd3 (n:Nat) (xs:List AV) (h:Typed Tryz.prog n 3 xs): ∃d y,xs=[y]∧IsK .i64 d y∧in64 d:=by
 cases n with
 |zero=>exact absurd h yd
 |succ n=>obtain⟨i,rfl,hw⟩:=Qu h Tryz.underlying3;exact⟨i,_,rfl,rfl,zdr hw⟩
theorem rd9 (n:Nat) (xs:List AV) (h:Typed Tryz.prog n 9 xs): ∃d y,xs=[y]∧IsStr d y∧strOk d:=by
 cases n with
 |zero=>exact absurd h yd
 |succ n=>obtain⟨i,rfl,hw⟩:=z9r h Tryz.underlying9;exact⟨i,_,rfl,rfl,hw⟩
theorem cells95:Tryz.prog.cellsOf 95=2:=by kernel_rfl
theorem rd95 (n:Nat) (xs:List AV) (h:Typed Tryz.prog n 95 xs): ∃d,IsField d (.agg xs)∧WfField d:=by
 cases n with
 |zero=>exact absurd h yd
 |succ n=>
  have hl:=kB h (by kernel_rfl) cells95
  match xs,hl with
  | [c0,c1],_=>
   have k0:=rd9 n _ (zA h (i:=0) (ft:=9) (off:=0) (c:=1) (by kernel_rfl) (by kernel_rfl))
   simp only[w25,w27,w22,w24] at k0
   obtain⟨d0,y0,e0,p0,w0⟩:=k0
   injection e0 with e0 _
   subst e0
   cases p0
   have k1:=rd3 n _ (zA h (i:=1) (ft:=3) (off:=1) (c:=1) (by kernel_rfl) (by kernel_rfl))
   simp only[w25,w27,w22,w24] at k1
   obtain⟨d1,y1,e1,p1,w1⟩:=k1
   injection e1 with e1 _
   subst e1
   cases p1
   exact⟨⟨d0,d1⟩,rfl,⟨w0,w1⟩⟩
theorem z8e:Tryz.prog.cellsOf 95=2:=by kernel_rfl
theorem rd40 (n:Nat) (xs:List AV) (h:Typed Tryz.prog n 40 xs): ∃d y,xs=[y]∧IsSl IsField 2 d y∧ ∀x∈d,WfField x:=by
 cases n with
 |zero=>exact absurd h yd
 |succ n=>
  obtain⟨d,y,h1,h2⟩:=qF (R:=fun d y=>IsField d y∧WfField d) h Tryz.underlying40 z8e (fun y h1 h2=>by
   obtain⟨cs,rfl⟩:=YG h1 (by kernel_rfl)
   exact rd95 n cs h2)
  exact⟨d,y,h1,kG h2⟩
theorem cells81:Tryz.prog.cellsOf 81=4:=by kernel_rfl
theorem rd81 (n:Nat) (xs:List AV) (h:Typed Tryz.prog n 81 xs): ∃d,IsTyp d (.agg xs)∧WfTyp d:=by
 cases n with
 |zero=>exact absurd h yd
 |succ n=>
  have hl:=kB h (by kernel_rfl) cells81
  match xs,hl with
  | [c0,c1,c2,c3],_=>
   have k0:=rd5 n _ (zA h (i:=0) (ft:=5) (off:=0) (c:=1) (by kernel_rfl) (by kernel_rfl))
   simp only[w25,w27,w22,w24] at k0
   obtain⟨d0,y0,e0,p0,w0⟩:=k0
   injection e0 with e0 _
   subst e0
   cases p0
   have k1:=rd3 n _ (zA h (i:=1) (ft:=3) (off:=1) (c:=1) (by kernel_rfl) (by kernel_rfl))
   simp only[w25,w27,w22,w24] at k1
   obtain⟨d1,y1,e1,p1,w1⟩:=k1
   injection e1 with e1 _
   subst e1
   cases p1
   have k2:=rd3 n _ (zA h (i:=2) (ft:=3) (off:=2) (c:=1) (by kernel_rfl) (by kernel_rfl))
   simp only[w25,w27,w22,w24] at k2
   obtain⟨d2,y2,e2,p2,w2⟩:=k2
   injection e2 with e2 _
   subst e2
   cases p2
   have k3:=rd40 n _ (zA h (i:=3) (ft:=40) (off:=3) (c:=1) (by kernel_rfl) (by kernel_rfl))
   simp only[w25,w27,w22,w24] at k3
   obtain⟨d3,y3,e3,p3,w3⟩:=k3
   injection e3 with e3 _
   subst e3
   exact⟨⟨d0,d1,d2,d3⟩,⟨_,rfl,p3⟩,⟨w0,w1,w2,w3⟩⟩
theorem z8i:Tryz.prog.cellsOf 81=4:=by kernel_rfl
theorem rd22 (n:Nat) (xs:List AV) (h:Typed Tryz.prog n 22 xs): ∃d y,xs=[y]∧IsSl IsTyp 4 d y∧ ∀x∈d,WfTyp x:=by
 cases n with
 |zero=>exact absurd h yd
 |succ n=>
  obtain⟨d,y,h1,h2⟩:=qF (R:=fun d y=>IsTyp d y∧WfTyp d) h Tryz.underlying22 z8i (fun y h1 h2=>by
   obtain⟨cs,rfl⟩:=YG h1 (by kernel_rfl)
   exact rd81 n cs h2)
  exact⟨d,y,h1,kG h2⟩
theorem zao:Tryz.prog.cellsOf 9=1:=by kernel_rfl
theorem rd23 (n:Nat) (xs:List AV) (h:Typed Tryz.prog n 23 xs): ∃d y,xs=[y]∧IsSl IsStr 1 d y∧ ∀x∈d,strOk x:=by
 cases n with
 |zero=>exact absurd h yd
 |succ n=>
  obtain⟨d,y,h1,h2⟩:=qF (R:=fun d y=>IsStr d y∧strOk d) h Tryz.underlying23 zao (fun y h1 h2=>by
   have hc:=zbS h1 (by kernel_rfl)
   rw[hc] at h2
   obtain⟨d,z,e,hd⟩:=rd9 n _ h2
   injection e with e _
   subst e
   exact⟨d,hd⟩)
  exact⟨d,y,h1,kG h2⟩
theorem cells33:Tryz.prog.cellsOf 33=4:=by kernel_rfl
theorem rd33 (n:Nat) (xs:List AV) (h:Typed Tryz.prog n 33 xs): ∃d,IsInstr d (.agg xs)∧WfInstr d:=by
 cases n with
 |zero=>exact absurd h yd
 |succ n=>
  have hl:=kB h (by kernel_rfl) cells33
  match xs,hl with
  | [c0,c1,c2,c3],_=>
   have k0:=rd5 n _ (zA h (i:=0) (ft:=5) (off:=0) (c:=1) (by kernel_rfl) (by kernel_rfl))
   simp only[w25,w27,w22,w24] at k0
   obtain⟨d0,y0,e0,p0,w0⟩:=k0
   injection e0 with e0 _
   subst e0
   cases p0
   have k1:=rd3 n _ (zA h (i:=1) (ft:=3) (off:=1) (c:=1) (by kernel_rfl) (by kernel_rfl))
   simp only[w25,w27,w22,w24] at k1
   obtain⟨d1,y1,e1,p1,w1⟩:=k1
   injection e1 with e1 _
   subst e1
   cases p1
   have k2:=rd3 n _ (zA h (i:=2) (ft:=3) (off:=2) (c:=1) (by kernel_rfl) (by kernel_rfl))
   simp only[w25,w27,w22,w24] at k2
   obtain⟨d2,y2,e2,p2,w2⟩:=k2
   injection e2 with e2 _
   subst e2
   cases p2
   have k3:=rd3 n _ (zA h (i:=3) (ft:=3) (off:=3) (c:=1) (by kernel_rfl) (by kernel_rfl))
   simp only[w25,w27,w22,w24] at k3
   obtain⟨d3,y3,e3,p3,w3⟩:=k3
   injection e3 with e3 _
   subst e3
   cases p3
   exact⟨⟨d0,d1,d2,d3⟩,rfl,⟨w0,w1,w2,w3⟩⟩
theorem z8g:Tryz.prog.cellsOf 33=4:=by kernel_rfl
theorem rd35 (n:Nat) (xs:List AV) (h:Typed Tryz.prog n 35 xs): ∃d y,xs=[y]∧IsSl IsInstr 4 d y∧ ∀x∈d,WfInstr x:=by
 cases n with
 |zero=>exact absurd h yd
 |succ n=>
  obtain⟨d,y,h1,h2⟩:=qF (R:=fun d y=>IsInstr d y∧WfInstr d) h Tryz.underlying35 z8g (fun y h1 h2=>by
   obtain⟨cs,rfl⟩:=YG h1 (by kernel_rfl)
   exact rd33 n cs h2)
  exact⟨d,y,h1,kG h2⟩
theorem rd36 (n:Nat) (xs:List AV) (h:Typed Tryz.prog n 36 xs): ∃d y,xs=[y]∧IsK .u64 d y∧inU64 d:=by
 cases n with
 |zero=>exact absurd h yd
 |succ n=>obtain⟨i,rfl,hw⟩:=Qu h Tryz.underlying36;exact⟨i,_,rfl,rfl,zbI hw⟩
theorem cells38:Tryz.prog.cellsOf 38=2:=by kernel_rfl
theorem rd38 (n:Nat) (xs:List AV) (h:Typed Tryz.prog n 38 xs): ∃d,IsRun d (.agg xs)∧WfRun d:=by
 cases n with
 |zero=>exact absurd h yd
 |succ n=>
  have hl:=kB h (by kernel_rfl) cells38
  match xs,hl with
  | [c0,c1],_=>
   have k0:=rd3 n _ (zA h (i:=0) (ft:=3) (off:=0) (c:=1) (by kernel_rfl) (by kernel_rfl))
   simp only[w25,w27,w22,w24] at k0
   obtain⟨d0,y0,e0,p0,w0⟩:=k0
   injection e0 with e0 _
   subst e0
   cases p0
   have k1:=rd36 n _ (zA h (i:=1) (ft:=36) (off:=1) (c:=1) (by kernel_rfl) (by kernel_rfl))
   simp only[w25,w27,w22,w24] at k1
   obtain⟨d1,y1,e1,p1,w1⟩:=k1
   injection e1 with e1 _
   subst e1
   cases p1
   exact⟨⟨d0,d1⟩,rfl,⟨w0,w1⟩⟩
theorem z8f:Tryz.prog.cellsOf 38=2:=by kernel_rfl
theorem rd39 (n:Nat) (xs:List AV) (h:Typed Tryz.prog n 39 xs): ∃d y,xs=[y]∧IsSl IsRun 2 d y∧ ∀x∈d,WfRun x:=by
 cases n with
 |zero=>exact absurd h yd
 |succ n=>
  obtain⟨d,y,h1,h2⟩:=qF (R:=fun d y=>IsRun d y∧WfRun d) h Tryz.underlying39 z8f (fun y h1 h2=>by
   obtain⟨cs,rfl⟩:=YG h1 (by kernel_rfl)
   exact rd38 n cs h2)
  exact⟨d,y,h1,kG h2⟩
theorem cells42:Tryz.prog.cellsOf 42=7:=by kernel_rfl
theorem rd42 (n:Nat) (xs:List AV) (h:Typed Tryz.prog n 42 xs): ∃d,IsFunc d (.agg xs)∧WfFunc d:=by
 cases n with
 |zero=>exact absurd h yd
 |succ n=>
  have hl:=kB h (by kernel_rfl) cells42
  match xs,hl with
  | [c0,c1,c2,c3,c4,c5,c6],_=>
   have k0:=rd9 n _ (zA h (i:=0) (ft:=9) (off:=0) (c:=1) (by kernel_rfl) (by kernel_rfl))
   simp only[w25,w27,w22,w24] at k0
   obtain⟨d0,y0,e0,p0,w0⟩:=k0
   injection e0 with e0 _
   subst e0
   cases p0
   have k1:=rd3 n _ (zA h (i:=1) (ft:=3) (off:=1) (c:=1) (by kernel_rfl) (by kernel_rfl))
   simp only[w25,w27,w22,w24] at k1
   obtain⟨d1,y1,e1,p1,w1⟩:=k1
   injection e1 with e1 _
   subst e1
   cases p1
   have k2:=rd3 n _ (zA h (i:=2) (ft:=3) (off:=2) (c:=1) (by kernel_rfl) (by kernel_rfl))
   simp only[w25,w27,w22,w24] at k2
   obtain⟨d2,y2,e2,p2,w2⟩:=k2
   injection e2 with e2 _
   subst e2
   cases p2
   have k3:=rd40 n _ (zA h (i:=3) (ft:=40) (off:=3) (c:=1) (by kernel_rfl) (by kernel_rfl))
   simp only[w25,w27,w22,w24] at k3
   obtain⟨d3,y3,e3,p3,w3⟩:=k3
   injection e3 with e3 _
   subst e3
   have k4:=rd35 n _ (zA h (i:=4) (ft:=35) (off:=4) (c:=1) (by kernel_rfl) (by kernel_rfl))
   simp only[w25,w27,w22,w24] at k4
   obtain⟨d4,y4,e4,p4,w4⟩:=k4
   injection e4 with e4 _
   subst e4
   have k5:=rd39 n _ (zA h (i:=5) (ft:=39) (off:=5) (c:=1) (by kernel_rfl) (by kernel_rfl))
   simp only[w25,w27,w22,w24] at k5
   obtain⟨d5,y5,e5,p5,w5⟩:=k5
   injection e5 with e5 _
   subst e5
   have k6:=rd39 n _ (zA h (i:=6) (ft:=39) (off:=6) (c:=1) (by kernel_rfl) (by kernel_rfl))
   simp only[w25,w27,w22,w24] at k6
   obtain⟨d6,y6,e6,p6,w6⟩:=k6
   injection e6 with e6 _
   subst e6
   exact⟨⟨d0,d1,d2,d3,d4,d5,d6⟩,⟨_,_,_,_,rfl,p3,p4,p5,p6⟩,⟨w0,w1,w2,w3,w4,w5,w6⟩⟩
theorem z8h:Tryz.prog.cellsOf 42=7:=by kernel_rfl
theorem rd24 (n:Nat) (xs:List AV) (h:Typed Tryz.prog n 24 xs): ∃d y,xs=[y]∧IsSl IsFunc 7 d y∧ ∀x∈d,WfFunc x:=by
 cases n with
 |zero=>exact absurd h yd
 |succ n=>
  obtain⟨d,y,h1,h2⟩:=qF (R:=fun d y=>IsFunc d y∧WfFunc d) h Tryz.underlying24 z8h (fun y h1 h2=>by
   obtain⟨cs,rfl⟩:=YG h1 (by kernel_rfl)
   exact rd42 n cs h2)
  exact⟨d,y,h1,kG h2⟩
theorem cells26:Tryz.prog.cellsOf 26=3:=by kernel_rfl
theorem rd26 (n:Nat) (xs:List AV) (h:Typed Tryz.prog n 26 xs): ∃d,IsImage d (.agg xs)∧WfImage d:=by
 cases n with
 |zero=>exact absurd h yd
 |succ n=>
  have hl:=kB h (by kernel_rfl) cells26
  match xs,hl with
  | [c0,c1,c2],_=>
   have k0:=rd22 n _ (zA h (i:=0) (ft:=22) (off:=0) (c:=1) (by kernel_rfl) (by kernel_rfl))
   simp only[w25,w27,w22,w24] at k0
   obtain⟨d0,y0,e0,p0,w0⟩:=k0
   injection e0 with e0 _
   subst e0
   have k1:=rd23 n _ (zA h (i:=1) (ft:=23) (off:=1) (c:=1) (by kernel_rfl) (by kernel_rfl))
   simp only[w25,w27,w22,w24] at k1
   obtain⟨d1,y1,e1,p1,w1⟩:=k1
   injection e1 with e1 _
   subst e1
   have k2:=rd24 n _ (zA h (i:=2) (ft:=24) (off:=2) (c:=1) (by kernel_rfl) (by kernel_rfl))
   simp only[w25,w27,w22,w24] at k2
   obtain⟨d2,y2,e2,p2,w2⟩:=k2
   injection e2 with e2 _
   subst e2
   exact⟨⟨d0,d1,d2⟩,⟨_,_,_,rfl,p0,p1,p2⟩,⟨w0,w1,w2⟩⟩
theorem arg26 (y:AV) (h:ArgT Tryz.prog 26 y): ∃d,IsImage d y∧WfImage d:=by
 obtain⟨h1,n,h2⟩:=h
 obtain⟨cs,rfl⟩:=YG h1 (by kernel_rfl)
 exact rd26 n cs h2
theorem z5u:plainAll Tryz.prog [47,36,38,39,33,35,42,24,23,9,95,40,3,5,81,22,26]=true:=by kernel_rfl
end Go.Proofs.W
end
