/-
  Part 8 of the proof, shared by claims of this seat: R8Tie, R8Read, R8HMends.
-/
import Derived.Test.YtlmfkfmgnkjlaaaGreatM2
import Derived.Test.YtlmfkfmgnkjlaaaGreatM6
import Derived.Test.YtlmfkfmgnkjlaaaGreatProg
import Derived.Test.YtlmfkfmgnkjlaaaGreatM5
import Derived.KernelRfl
import Derived.Test.YtlmfkfmgnkjlaaaGreatM3
import Derived.Test.YtlmfkfmgnkjlaaaGreatRows
set_option maxHeartbeats 64000000
set_option linter.unusedVariables false
set_option linter.unusedSimpArgs false
open Nat renaming zero_le → w0c
open List renaming take_succ_cons → w1d, drop_succ_cons → w1e, take_zero → w22, drop_zero → w24
section
namespace Go.Proofs.W
open Go.Vs Go.Vs.V
set_option maxRecDepth 100000
theorem tab0Ok:TabOk Tryz.prog tab0:=by
 intro f afn h
 unfold tab0 at h
 split at h
 ·exact tab1 (n:=jF) Tryz.func5 (by kernel_rfl) h
 ·exact tab1 (n:=X1) Tryz.func10 (by kernel_rfl) h
 ·exact tab1 (n:=Xh) Tryz.func11 (by kernel_rfl) h
 ·exact tab1 (n:=Wa) Tryz.func12 (by kernel_rfl) h
 ·exact tab1 (n:=V6) Tryz.func13 (by kernel_rfl) h
 ·exact tab1 (n:=z1i) Tryz.func14 (by kernel_rfl) h
 ·exact tab1 (n:=z1h) Tryz.func15 (by kernel_rfl) h
 ·exact tab1 (n:=X0) Tryz.func16 (by kernel_rfl) h
 ·exact tab1 (n:=X2) Tryz.func17 (by kernel_rfl) h
 ·exact tab1 (n:=QH) Tryz.func30 (by kernel_rfl) h
 ·exact tab1 (n:=kV) Tryz.func31 (by kernel_rfl) h
 ·exact tab1 (n:=Wb) Tryz.func32 (by kernel_rfl) h
 ·exact tab1 (n:=Xf) Tryz.func34 (by kernel_rfl) h
 ·exact tab1 (n:=Xe) Tryz.func36 (by kernel_rfl) h
 ·exact tab1 (n:=Y1) Tryz.func41 (by kernel_rfl) h
 ·exact tab1 (n:=Y2) Tryz.func42 (by kernel_rfl) h
 ·exact tab1 (n:=Wj) Tryz.func43 (by kernel_rfl) h
 ·exact tab1 (n:=Zv) Tryz.func44 (by kernel_rfl) h
 ·exact tab1 (n:=Y7) Tryz.func45 (by kernel_rfl) h
 ·exact tab1 (n:=X5) Tryz.func46 (by kernel_rfl) h
 ·exact tab1 (n:=X3) Tryz.func47 (by kernel_rfl) h
 ·exact tab1 (n:=Wi) Tryz.func48 (by kernel_rfl) h
 ·exact tab1 (n:=z1e) Tryz.func49 (by kernel_rfl) h
 ·exact tab1 (n:=z33) Tryz.func50 (by kernel_rfl) h
 ·exact tab1 (n:=qu) Tryz.func51 (by kernel_rfl) h
 ·exact tab1 (n:=Xa) Tryz.func52 (by kernel_rfl) h
 ·exact tab1 (n:=Wc) Tryz.func53 (by kernel_rfl) h
 ·exact tab1 (n:=X6) Tryz.func54 (by kernel_rfl) h
 ·exact tab1 (n:=Zx) Tryz.func56 (by kernel_rfl) h
 ·exact tab1 (n:=Xr) Tryz.func58 (by kernel_rfl) h
 ·exact tab1 (n:=Y9) Tryz.func59 (by kernel_rfl) h
 ·exact tab1 (n:=z4m) Tryz.func60 (by kernel_rfl) h
 ·exact tab1 (n:=Xq) Tryz.func61 (by kernel_rfl) h
 ·exact tab1 (n:=X4) Tryz.func62 (by kernel_rfl) h
 ·exact tab1 (n:=kW) Tryz.func63 (by kernel_rfl) h
 ·exact tab1 (n:=X7) Tryz.func64 (by kernel_rfl) h
 ·exact tab1 (n:=tB) Tryz.func67 (by kernel_rfl) h
 ·exact tab1 (n:=tA) Tryz.func68 (by kernel_rfl) h
 ·exact tab1 (n:=jE) Tryz.func69 (by kernel_rfl) h
 ·exact tab1 (n:=Wf) Tryz.func70 (by kernel_rfl) h
 ·exact tab1 (n:=Wd) Tryz.func71 (by kernel_rfl) h
 ·exact tab1 (n:=kg) Tryz.func72 (by kernel_rfl) h
 ·exact tab1 (n:=Y3) Tryz.func77 (by kernel_rfl) h
 ·exact tab1 (n:=QC) Tryz.func78 (by kernel_rfl) h
 ·exact tab1 (n:=QD) Tryz.func79 (by kernel_rfl) h
 ·exact tab1 (n:=Z3) Tryz.func80 (by kernel_rfl) h
 ·exact tab1 (n:=z31) Tryz.func81 (by kernel_rfl) h
 ·exact tab1 (n:=z18) Tryz.func82 (by kernel_rfl) h
 ·exact tab1 (n:=Xb) Tryz.func83 (by kernel_rfl) h
 ·exact tab1 (n:=kU) Tryz.func84 (by kernel_rfl) h
 ·exact tab1 (n:=Wg) Tryz.func85 (by kernel_rfl) h
 ·exact tab1 (n:=Z0) Tryz.func86 (by kernel_rfl) h
 ·exact tab1 (n:=QG) Tryz.func87 (by kernel_rfl) h
 ·exact tab1 (n:=Xn) Tryz.func88 (by kernel_rfl) h
 ·exact tab1 (n:=Z2) Tryz.func89 (by kernel_rfl) h
 ·exact tab1 (n:=qR) Tryz.func90 (by kernel_rfl) h
 ·exact tab1 (n:=jI) Tryz.func91 (by kernel_rfl) h
 ·exact tab1 (n:=V8) Tryz.func92 (by kernel_rfl) h
 ·exact tab1 (n:=Z1) Tryz.func93 (by kernel_rfl) h
 ·exact tab1 (n:=Zy) Tryz.func94 (by kernel_rfl) h
 ·exact tab1 (n:=Xt) Tryz.func95 (by kernel_rfl) h
 ·exact tab1 (n:=Ya) Tryz.func96 (by kernel_rfl) h
 ·exact tab1 (n:=z4n) Tryz.func97 (by kernel_rfl) h
 ·exact tab1 (n:=z4k) Tryz.func98 (by kernel_rfl) h
 ·exact tab1 (n:=Qw) Tryz.func99 (by kernel_rfl) h
 ·exact tab1 (n:=kY) Tryz.func100 (by kernel_rfl) h
 ·exact tab1 (n:=Vy) Tryz.func101 (by kernel_rfl) h
 ·exact tab1 (n:=z30) Tryz.func112 (by kernel_rfl) h
 ·exact tab1 (n:=Wk) Tryz.func113 (by kernel_rfl) h
 ·exact tab1 (n:=Xl) Tryz.func114 (by kernel_rfl) h
 ·exact tab1 (n:=V7) Tryz.func115 (by kernel_rfl) h
 ·exact tab1 (n:=Zw) Tryz.func116 (by kernel_rfl) h
 ·exact tab1 (n:=z32) Tryz.func117 (by kernel_rfl) h
 ·exact tab1 (n:=z1f) Tryz.func118 (by kernel_rfl) h
 ·exact tab1 (n:=UJ) Tryz.func119 (by kernel_rfl) h
 ·exact tab1 (n:=Xp) Tryz.func120 (by kernel_rfl) h
 ·exact tab1 (n:=z4p) Tryz.func121 (by kernel_rfl) h
 ·exact tab1 (n:=Y8) Tryz.func122 (by kernel_rfl) h
 ·exact tab1 (n:=Yb) Tryz.func123 (by kernel_rfl) h
 ·exact tab1 (n:=z4o) Tryz.func124 (by kernel_rfl) h
 ·exact tab1 (n:=QE) Tryz.func125 (by kernel_rfl) h
 ·exact tab1 (n:=UG) Tryz.func126 (by kernel_rfl) h
 ·exact tab1 (n:=Wh) Tryz.func127 (by kernel_rfl) h
 ·exact tab1 (n:=Y4) Tryz.func128 (by kernel_rfl) h
 ·exact tab1 (n:=X9) Tryz.func129 (by kernel_rfl) h
 ·exact tab1 (n:=Y6) Tryz.func130 (by kernel_rfl) h
 ·exact tab1 (n:=We) Tryz.func131 (by kernel_rfl) h
 ·exact tab1 (n:=jH) Tryz.func132 (by kernel_rfl) h
 ·exact tab1 (n:=qQ) Tryz.func133 (by kernel_rfl) h
 ·exact tab1 (n:=Z4) Tryz.func134 (by kernel_rfl) h
 ·exact tab1 (n:=z19) Tryz.func135 (by kernel_rfl) h
 ·exact tab1 (n:=z4i) Tryz.func136 (by kernel_rfl) h
 ·exact tab1 (n:=z4j) Tryz.func137 (by kernel_rfl) h
 ·exact tab1 (n:=z4l) Tryz.func138 (by kernel_rfl) h
 ·exact tab1 (n:=z5I) Tryz.func139 (by kernel_rfl) h
 ·exact tab1 (n:=z1c) Tryz.func141 (by kernel_rfl) h
 ·exact tab1 (n:=z1a) Tryz.func142 (by kernel_rfl) h
 ·exact tab1 (n:=UI) Tryz.func143 (by kernel_rfl) h
 ·exact tab1 (n:=Xm) Tryz.func144 (by kernel_rfl) h
 ·exact tab1 (n:=z4h) Tryz.func145 (by kernel_rfl) h
 ·exact tab1 (n:=z16) Tryz.func146 (by kernel_rfl) h
 ·exact tab1 (n:=z2W) Tryz.func147 (by kernel_rfl) h
 ·exact tab1 (n:=TE) Tryz.func148 (by kernel_rfl) h
 ·exact tab1 (n:=z1g) Tryz.func149 (by kernel_rfl) h
 ·exact tab1 (n:=Xk) Tryz.func150 (by kernel_rfl) h
 ·exact tab1 (n:=Qy) Tryz.func151 (by kernel_rfl) h
 ·exact tab1 (n:=X8) Tryz.func152 (by kernel_rfl) h
 ·exact tab1 (n:=Y5) Tryz.func153 (by kernel_rfl) h
 ·exact tab1 (n:=jG) Tryz.func154 (by kernel_rfl) h
 ·exact tab1 (n:=z2Z) Tryz.func155 (by kernel_rfl) h
 ·exact tab1 (n:=QA) Tryz.func156 (by kernel_rfl) h
 ·exact tab1 (n:=Qx) Tryz.func157 (by kernel_rfl) h
 ·exact tab1 (n:=z1b) Tryz.func158 (by kernel_rfl) h
 ·exact tab1 (n:=z1d) Tryz.func159 (by kernel_rfl) h
 ·exact tab1 (n:=Qv) Tryz.func160 (by kernel_rfl) h
 ·exact tab1 (n:=z15) Tryz.func161 (by kernel_rfl) h
 ·exact tab1 (n:=Xj) Tryz.func162 (by kernel_rfl) h
 ·exact tab1 (n:=kZ) Tryz.func163 (by kernel_rfl) h
 ·exact tab1 (n:=QB) Tryz.func164 (by kernel_rfl) h
 ·exact tab1 (n:=z2Y) Tryz.func165 (by kernel_rfl) h
 ·exact tab1 (n:=UH) Tryz.func166 (by kernel_rfl) h
 ·exact tab1 (n:=vC) Tryz.func167 (by kernel_rfl) h
 ·exact tab1 (n:=TG) Tryz.func168 (by kernel_rfl) h
 ·exact tab1 (n:=z17) Tryz.func169 (by kernel_rfl) h
 ·exact tab1 (n:=je) Tryz.func170 (by kernel_rfl) h
 ·exact tab1 (n:=TF) Tryz.func171 (by kernel_rfl) h
 ·exact tab1 (n:=Qz) Tryz.func172 (by kernel_rfl) h
 ·exact tab1 (n:=z2X) Tryz.func173 (by kernel_rfl) h
 ·exact tab1 (n:=uk) Tryz.func174 (by kernel_rfl) h
 ·exact tab1 (n:=tP) Tryz.func175 (by kernel_rfl) h
 ·exact tab1 (n:=QF) Tryz.func181 (by kernel_rfl) h
 ·exact tab1 (n:=U3) Tryz.func184 (by kernel_rfl) h
 ·exact tab1 (n:=U2) Tryz.func185 (by kernel_rfl) h
 ·exact tab1 (n:=TH) Tryz.func191 (by kernel_rfl) h
 ·cases h
theorem Xx:Known Tryz.prog zR true:=z39 (by kernel_rfl) tab0Ok 1000 Xy
theorem tabOk:TabOk Tryz.prog tab:=by
 intro f afn h
 unfold tab at h
 split at h
 ·rename_i e;subst e;exact tab2 Xx h
 exact tab0Ok f afn h
end Go.Proofs.W
end
section
namespace Go.Proofs.W
open Go.Vs
set_option maxRecDepth 100000
set_option linter.unusedVariables false
set_option linter.unusedSimpArgs false
theorem rd5 (n:Nat) (xs:List AV) (h:Typed Tryz.prog n 5 xs): ∃d y,xs=[y]∧IsK .u8 d y∧inU8 d:=by
 cases n with
 |zero=>exact absurd h ya
 |succ n=>obtain⟨i,rfl,hw⟩:=Uw h Tryz.underlying5;exact⟨i,_,rfl,rfl,zby hw⟩
theorem rd3 (n:Nat) (xs:List AV) (h:Typed Tryz.prog n 3 xs): ∃d y,xs=[y]∧IsK .i64 d y∧in64 d:=by
 cases n with
 |zero=>exact absurd h ya
 |succ n=>obtain⟨i,rfl,hw⟩:=Uw h Tryz.underlying3;exact⟨i,_,rfl,rfl,zbz hw⟩
theorem rd9 (n:Nat) (xs:List AV) (h:Typed Tryz.prog n 9 xs): ∃d y,xs=[y]∧IsStr d y∧strOk d:=by
 cases n with
 |zero=>exact absurd h ya
 |succ n=>obtain⟨i,rfl,hw⟩:=z7o h Tryz.underlying9;exact⟨i,_,rfl,rfl,hw⟩
theorem cells95:Tryz.prog.cellsOf 95=2:=by kernel_rfl
theorem rd95 (n:Nat) (xs:List AV) (h:Typed Tryz.prog n 95 xs): ∃d,IsField d (.agg xs)∧WfField d:=by
 cases n with
 |zero=>exact absurd h ya
 |succ n=>
  have hl:=jo h (by kernel_rfl) cells95
  match xs,hl with
  | [c0,c1],_=>
   have k0:=rd9 n _ (zw h (i:=0) (ft:=9) (off:=0) (c:=1) (by kernel_rfl) (by kernel_rfl))
   simp only[w1e,w24,w1d,w22] at k0
   obtain⟨d0,y0,e0,p0,w0⟩:=k0
   injection e0 with e0 _
   subst e0
   cases p0
   have k1:=rd3 n _ (zw h (i:=1) (ft:=3) (off:=1) (c:=1) (by kernel_rfl) (by kernel_rfl))
   simp only[w1e,w24,w1d,w22] at k1
   obtain⟨d1,y1,e1,p1,w1⟩:=k1
   injection e1 with e1 _
   subst e1
   cases p1
   exact⟨⟨d0,d1⟩,rfl,⟨w0,w1⟩⟩
theorem z6m:Tryz.prog.cellsOf 95=2:=by kernel_rfl
theorem rd40 (n:Nat) (xs:List AV) (h:Typed Tryz.prog n 40 xs): ∃d y,xs=[y]∧IsSl IsField 2 d y∧ ∀x∈d,WfField x:=by
 cases n with
 |zero=>exact absurd h ya
 |succ n=>
  obtain⟨d,y,h1,h2⟩:=tH (R:=fun d y=>IsField d y∧WfField d) h Tryz.underlying40 z6m (fun y h1 h2=>by
   obtain⟨cs,rfl⟩:=ZJ h1 (by kernel_rfl)
   exact rd95 n cs h2)
  exact⟨d,y,h1,jq h2⟩
theorem cells81:Tryz.prog.cellsOf 81=4:=by kernel_rfl
theorem rd81 (n:Nat) (xs:List AV) (h:Typed Tryz.prog n 81 xs): ∃d,IsTyp d (.agg xs)∧WfTyp d:=by
 cases n with
 |zero=>exact absurd h ya
 |succ n=>
  have hl:=jo h (by kernel_rfl) cells81
  match xs,hl with
  | [c0,c1,c2,c3],_=>
   have k0:=rd5 n _ (zw h (i:=0) (ft:=5) (off:=0) (c:=1) (by kernel_rfl) (by kernel_rfl))
   simp only[w1e,w24,w1d,w22] at k0
   obtain⟨d0,y0,e0,p0,w0⟩:=k0
   injection e0 with e0 _
   subst e0
   cases p0
   have k1:=rd3 n _ (zw h (i:=1) (ft:=3) (off:=1) (c:=1) (by kernel_rfl) (by kernel_rfl))
   simp only[w1e,w24,w1d,w22] at k1
   obtain⟨d1,y1,e1,p1,w1⟩:=k1
   injection e1 with e1 _
   subst e1
   cases p1
   have k2:=rd3 n _ (zw h (i:=2) (ft:=3) (off:=2) (c:=1) (by kernel_rfl) (by kernel_rfl))
   simp only[w1e,w24,w1d,w22] at k2
   obtain⟨d2,y2,e2,p2,w2⟩:=k2
   injection e2 with e2 _
   subst e2
   cases p2
   have k3:=rd40 n _ (zw h (i:=3) (ft:=40) (off:=3) (c:=1) (by kernel_rfl) (by kernel_rfl))
   simp only[w1e,w24,w1d,w22] at k3
   obtain⟨d3,y3,e3,p3,w3⟩:=k3
   injection e3 with e3 _
   subst e3
   exact⟨⟨d0,d1,d2,d3⟩,⟨_,rfl,p3⟩,⟨w0,w1,w2,w3⟩⟩
theorem z6q:Tryz.prog.cellsOf 81=4:=by kernel_rfl
theorem rd22 (n:Nat) (xs:List AV) (h:Typed Tryz.prog n 22 xs): ∃d y,xs=[y]∧IsSl IsTyp 4 d y∧ ∀x∈d,WfTyp x:=by
 cases n with
 |zero=>exact absurd h ya
 |succ n=>
  obtain⟨d,y,h1,h2⟩:=tH (R:=fun d y=>IsTyp d y∧WfTyp d) h Tryz.underlying22 z6q (fun y h1 h2=>by
   obtain⟨cs,rfl⟩:=ZJ h1 (by kernel_rfl)
   exact rd81 n cs h2)
  exact⟨d,y,h1,jq h2⟩
theorem z8m:Tryz.prog.cellsOf 9=1:=by kernel_rfl
theorem rd23 (n:Nat) (xs:List AV) (h:Typed Tryz.prog n 23 xs): ∃d y,xs=[y]∧IsSl IsStr 1 d y∧ ∀x∈d,strOk x:=by
 cases n with
 |zero=>exact absurd h ya
 |succ n=>
  obtain⟨d,y,h1,h2⟩:=tH (R:=fun d y=>IsStr d y∧strOk d) h Tryz.underlying23 z8m (fun y h1 h2=>by
   have hc:=za2 h1 (by kernel_rfl)
   rw[hc] at h2
   obtain⟨d,z,e,hd⟩:=rd9 n _ h2
   injection e with e _
   subst e
   exact⟨d,hd⟩)
  exact⟨d,y,h1,jq h2⟩
theorem cells33:Tryz.prog.cellsOf 33=4:=by kernel_rfl
theorem rd33 (n:Nat) (xs:List AV) (h:Typed Tryz.prog n 33 xs): ∃d,IsInstr d (.agg xs)∧WfInstr d:=by
 cases n with
 |zero=>exact absurd h ya
 |succ n=>
  have hl:=jo h (by kernel_rfl) cells33
  match xs,hl with
  | [c0,c1,c2,c3],_=>
   have k0:=rd5 n _ (zw h (i:=0) (ft:=5) (off:=0) (c:=1) (by kernel_rfl) (by kernel_rfl))
   simp only[w1e,w24,w1d,w22] at k0
   obtain⟨d0,y0,e0,p0,w0⟩:=k0
   injection e0 with e0 _
   subst e0
   cases p0
   have k1:=rd3 n _ (zw h (i:=1) (ft:=3) (off:=1) (c:=1) (by kernel_rfl) (by kernel_rfl))
   simp only[w1e,w24,w1d,w22] at k1
   obtain⟨d1,y1,e1,p1,w1⟩:=k1
   injection e1 with e1 _
   subst e1
   cases p1
   have k2:=rd3 n _ (zw h (i:=2) (ft:=3) (off:=2) (c:=1) (by kernel_rfl) (by kernel_rfl))
   simp only[w1e,w24,w1d,w22] at k2
   obtain⟨d2,y2,e2,p2,w2⟩:=k2
   injection e2 with e2 _
   subst e2
   cases p2
   have k3:=rd3 n _ (zw h (i:=3) (ft:=3) (off:=3) (c:=1) (by kernel_rfl) (by kernel_rfl))
   simp only[w1e,w24,w1d,w22] at k3
   obtain⟨d3,y3,e3,p3,w3⟩:=k3
   injection e3 with e3 _
   subst e3
   cases p3
   exact⟨⟨d0,d1,d2,d3⟩,rfl,⟨w0,w1,w2,w3⟩⟩
theorem z6o:Tryz.prog.cellsOf 33=4:=by kernel_rfl
theorem rd35 (n:Nat) (xs:List AV) (h:Typed Tryz.prog n 35 xs): ∃d y,xs=[y]∧IsSl IsInstr 4 d y∧ ∀x∈d,WfInstr x:=by
 cases n with
 |zero=>exact absurd h ya
 |succ n=>
  obtain⟨d,y,h1,h2⟩:=tH (R:=fun d y=>IsInstr d y∧WfInstr d) h Tryz.underlying35 z6o (fun y h1 h2=>by
   obtain⟨cs,rfl⟩:=ZJ h1 (by kernel_rfl)
   exact rd33 n cs h2)
  exact⟨d,y,h1,jq h2⟩
theorem rd36 (n:Nat) (xs:List AV) (h:Typed Tryz.prog n 36 xs): ∃d y,xs=[y]∧IsK .u64 d y∧inU64 d:=by
 cases n with
 |zero=>exact absurd h ya
 |succ n=>obtain⟨i,rfl,hw⟩:=Uw h Tryz.underlying36;exact⟨i,_,rfl,rfl,z9O hw⟩
theorem cells38:Tryz.prog.cellsOf 38=2:=by kernel_rfl
theorem rd38 (n:Nat) (xs:List AV) (h:Typed Tryz.prog n 38 xs): ∃d,IsRun d (.agg xs)∧WfRun d:=by
 cases n with
 |zero=>exact absurd h ya
 |succ n=>
  have hl:=jo h (by kernel_rfl) cells38
  match xs,hl with
  | [c0,c1],_=>
   have k0:=rd3 n _ (zw h (i:=0) (ft:=3) (off:=0) (c:=1) (by kernel_rfl) (by kernel_rfl))
   simp only[w1e,w24,w1d,w22] at k0
   obtain⟨d0,y0,e0,p0,w0⟩:=k0
   injection e0 with e0 _
   subst e0
   cases p0
   have k1:=rd36 n _ (zw h (i:=1) (ft:=36) (off:=1) (c:=1) (by kernel_rfl) (by kernel_rfl))
   simp only[w1e,w24,w1d,w22] at k1
   obtain⟨d1,y1,e1,p1,w1⟩:=k1
   injection e1 with e1 _
   subst e1
   cases p1
   exact⟨⟨d0,d1⟩,rfl,⟨w0,w1⟩⟩
theorem z6n:Tryz.prog.cellsOf 38=2:=by kernel_rfl
theorem rd39 (n:Nat) (xs:List AV) (h:Typed Tryz.prog n 39 xs): ∃d y,xs=[y]∧IsSl IsRun 2 d y∧ ∀x∈d,WfRun x:=by
 cases n with
 |zero=>exact absurd h ya
 |succ n=>
  obtain⟨d,y,h1,h2⟩:=tH (R:=fun d y=>IsRun d y∧WfRun d) h Tryz.underlying39 z6n (fun y h1 h2=>by
   obtain⟨cs,rfl⟩:=ZJ h1 (by kernel_rfl)
   exact rd38 n cs h2)
  exact⟨d,y,h1,jq h2⟩
theorem cells42:Tryz.prog.cellsOf 42=7:=by kernel_rfl
theorem rd42 (n:Nat) (xs:List AV) (h:Typed Tryz.prog n 42 xs): ∃d,IsFunc d (.agg xs)∧WfFunc d:=by
 cases n with
 |zero=>exact absurd h ya
 |succ n=>
  have hl:=jo h (by kernel_rfl) cells42
  match xs,hl with
  | [c0,c1,c2,c3,c4,c5,c6],_=>
   have k0:=rd9 n _ (zw h (i:=0) (ft:=9) (off:=0) (c:=1) (by kernel_rfl) (by kernel_rfl))
   simp only[w1e,w24,w1d,w22] at k0
   obtain⟨d0,y0,e0,p0,w0⟩:=k0
   injection e0 with e0 _
   subst e0
   cases p0
   have k1:=rd3 n _ (zw h (i:=1) (ft:=3) (off:=1) (c:=1) (by kernel_rfl) (by kernel_rfl))
   simp only[w1e,w24,w1d,w22] at k1
   obtain⟨d1,y1,e1,p1,w1⟩:=k1
   injection e1 with e1 _
   subst e1
   cases p1
   have k2:=rd3 n _ (zw h (i:=2) (ft:=3) (off:=2) (c:=1) (by kernel_rfl) (by kernel_rfl))
   simp only[w1e,w24,w1d,w22] at k2
   obtain⟨d2,y2,e2,p2,w2⟩:=k2
   injection e2 with e2 _
   subst e2
   cases p2
   have k3:=rd40 n _ (zw h (i:=3) (ft:=40) (off:=3) (c:=1) (by kernel_rfl) (by kernel_rfl))
   simp only[w1e,w24,w1d,w22] at k3
   obtain⟨d3,y3,e3,p3,w3⟩:=k3
   injection e3 with e3 _
   subst e3
   have k4:=rd35 n _ (zw h (i:=4) (ft:=35) (off:=4) (c:=1) (by kernel_rfl) (by kernel_rfl))
   simp only[w1e,w24,w1d,w22] at k4
   obtain⟨d4,y4,e4,p4,w4⟩:=k4
   injection e4 with e4 _
   subst e4
   have k5:=rd39 n _ (zw h (i:=5) (ft:=39) (off:=5) (c:=1) (by kernel_rfl) (by kernel_rfl))
   simp only[w1e,w24,w1d,w22] at k5
   obtain⟨d5,y5,e5,p5,w5⟩:=k5
   injection e5 with e5 _
   subst e5
   have k6:=rd39 n _ (zw h (i:=6) (ft:=39) (off:=6) (c:=1) (by kernel_rfl) (by kernel_rfl))
   simp only[w1e,w24,w1d,w22] at k6
   obtain⟨d6,y6,e6,p6,w6⟩:=k6
   injection e6 with e6 _
   subst e6
   exact⟨⟨d0,d1,d2,d3,d4,d5,d6⟩,⟨_,_,_,_,rfl,p3,p4,p5,p6⟩,⟨w0,w1,w2,w3,w4,w5,w6⟩⟩
theorem z6p:Tryz.prog.cellsOf 42=7:=by kernel_rfl
theorem rd24 (n:Nat) (xs:List AV) (h:Typed Tryz.prog n 24 xs): ∃d y,xs=[y]∧IsSl IsFunc 7 d y∧ ∀x∈d,WfFunc x:=by
 cases n with
 |zero=>exact absurd h ya
 |succ n=>
  obtain⟨d,y,h1,h2⟩:=tH (R:=fun d y=>IsFunc d y∧WfFunc d) h Tryz.underlying24 z6p (fun y h1 h2=>by
   obtain⟨cs,rfl⟩:=ZJ h1 (by kernel_rfl)
   exact rd42 n cs h2)
  exact⟨d,y,h1,jq h2⟩
theorem cells26:Tryz.prog.cellsOf 26=3:=by kernel_rfl
theorem rd26 (n:Nat) (xs:List AV) (h:Typed Tryz.prog n 26 xs): ∃d,IsImage d (.agg xs)∧WfImage d:=by
 cases n with
 |zero=>exact absurd h ya
 |succ n=>
  have hl:=jo h (by kernel_rfl) cells26
  match xs,hl with
  | [c0,c1,c2],_=>
   have k0:=rd22 n _ (zw h (i:=0) (ft:=22) (off:=0) (c:=1) (by kernel_rfl) (by kernel_rfl))
   simp only[w1e,w24,w1d,w22] at k0
   obtain⟨d0,y0,e0,p0,w0⟩:=k0
   injection e0 with e0 _
   subst e0
   have k1:=rd23 n _ (zw h (i:=1) (ft:=23) (off:=1) (c:=1) (by kernel_rfl) (by kernel_rfl))
   simp only[w1e,w24,w1d,w22] at k1
   obtain⟨d1,y1,e1,p1,w1⟩:=k1
   injection e1 with e1 _
   subst e1
   have k2:=rd24 n _ (zw h (i:=2) (ft:=24) (off:=2) (c:=1) (by kernel_rfl) (by kernel_rfl))
   simp only[w1e,w24,w1d,w22] at k2
   obtain⟨d2,y2,e2,p2,w2⟩:=k2
   injection e2 with e2 _
   subst e2
   exact⟨⟨d0,d1,d2⟩,⟨_,_,_,rfl,p0,p1,p2⟩,⟨w0,w1,w2⟩⟩
theorem arg26 (y:AV) (h:ArgT Tryz.prog 26 y): ∃d,IsImage d y∧WfImage d:=by
 obtain⟨h1,n,h2⟩:=h
 obtain⟨cs,rfl⟩:=ZJ h1 (by kernel_rfl)
 exact rd26 n cs h2
theorem z3G:plainAll Tryz.prog [47,36,38,39,33,35,42,24,23,9,95,40,3,5,81,22,26]=true:=by kernel_rfl
end Go.Proofs.W
end
