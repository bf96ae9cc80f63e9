/-
  Part 5 of the proof, shared by claims of this seat: US29, US19, US20, US23, US24, US30, US14, US15, US25, US31, US26, US32, UZF1, MVbc, UC4, UC14, UC17, UC15, UC18, UC19, UC5, MPla, MPlb, UC6, UC7, UC8, MPld, UC21, UC9.
-/
import Derived.Test.YtdmigejeekchiaaGreatJ3
import Derived.Test.YtdmigejeekchiaaGreatJ2
set_option maxHeartbeats 64000000
set_option maxRecDepth 1000000
set_option linter.unusedVariables false
set_option linter.unusedSimpArgs false
open Nat renaming reduceMul → G2, reduceAdd → G3, reduceSub → G4, reduceEqDiff → G6, reduceBEq → G7, reduceLT → G8, reduceLeDiff → G9, le_refl → w08, zero_le → w0b, mul_one → w0d, min_eq_left → w18, zero_add → w26, not_lt_zero → w34, lt_or_ge → w43
open Int renaming reduceEq → H0, reduceLT → H1, reduceLE → H2, reduceAdd → H3, reduceSub → H4, reduceMul → H5, reducePow → H6, reduceToNat → H7, ofNat_lt → w02, toNat_natCast → w10, toNat_zero → w2b
open Option renaming bind_eq_some_iff → w03, map_some → w07, map_none → w19, getD_some → w33, bind_some → w39
open List renaming getElem_mem → w04, getD_eq_getElem?_getD → w05, take_length → w06, mem_append → w0a, take_succ_eq_append_getElem → w0c, length_append → w0e, take_succ_cons → w0f, getElem?_eq_some_iff → w13, drop_zero → w14, take_zero → w15, append_assoc → w16, getElem?_eq_getElem → w17, mem_singleton → w1a, append_nil → w1b, mem_cons_self → w1d, getElem?_map → w1e, length_take → w1f, ext_getElem? → w20, cons_append → w22, flatMap_cons → w27, map_append → w28, mem_cons_of_mem → w2a, length_singleton → w2c, eq_nil_of_length_eq_zero → w2d, map_cons → w2e, nil_append → w2f, take_of_length_le → w32, modify_eq_take_cons_drop → w37, flatten_cons → w3a, getElem?_eq_none → w3c, mem_map → w3d, all_eq_true → w3e, mem_of_mem_take → w40, getElem?_take → w41, replicate_succ → w44, length_nil → w45, length_cons → w46, set_cons_succ → w48, mem_range → w49, getLast?_singleton → w4a, forall_mem_iff_forall_getElem → w4d, mem_append_left → w4f, set_eq_take_append_cons_drop → w51, set_cons_zero → w52, length_map → w53, length_drop → w54, mem_append_right → w56, getLast?_append → w59, dropLast_concat → w5a
open Bool renaming and_eq_true → w09, false_and → w24, and_false → w25, or_eq_true → w31
section
namespace Go.Proofs.W
open Go.Vs
def t0:DTyp:=⟨0,0,0,[]⟩
def typAt (l:List DTyp) (k:Nat):DTyp:=l.getD k t0
theorem VM {l:List DTyp} {j:Nat} (h:j<l.length):l[j]=typAt l j:=by simp[typAt,w05,h]
def typB (t:DTyp):List UInt8:=
 if t.kind=4∨t.kind=7 then minimal t.elem.toNat else if t.kind=6 then minimal t.elem.toNat++minimal t.len.toNat else if t.kind=5 then flds t.fields t.fields.length else []
def typs (l:List DTyp):Nat→List UInt8
 |0=>minimal l.length
 |k+1=>typs l k++([UInt8.ofNat (typAt l k).kind.toNat]++typB (typAt l k))
theorem Zb {s:List UInt8} (h:named s=true):s.length≤16:=by
 unfold named at h;simp only[w09,decide_eq_true_eq] at h;exact h.1.1.2
theorem Q6 {n i:Nat} {t:DTyp} (h:FineT n i t) (hn:i≤32) (h5:t.kind=5):FOk t.fields:=by
 have hs:=(uQ h5).1 h
 have h8:=hs.2.2.2.2.1
 refine⟨by omega,fun f hf=> ?_⟩
 have h1:=hs.1 f hf
 have h2:=Zb (hs.2.2.2.2.2.1 f hf)
 omega
theorem z7k {n i:Nat} {t:DTyp} (h:FineT n i t) (hn:n≤32) (hi:i≤32):(typB t).length≤600:=by
 have hl:=tR h
 unfold typB
 split
 ·rename_i h4
  have:=hl.2.2.1 h4
  have:=z9 (n:=t.elem.toNat) (by omega)
  omega
 ·split
  ·rename_i h6
   have e1:=hl.2.2.2.1 h6
   have e2:=hl.2.1 h6
   have:=z9 (n:=t.elem.toNat) (by omega)
   have:=z9 (n:=t.len.toNat) (by omega)
   grind
  ·split
   ·rename_i h5
    have hfo:=Q6 h hi h5
    have:=qU hfo t.fields.length (w08 _)
    omega
   ·simp
theorem WP {l:List DTyp} (hv:ValidT l) (hl:l.length≤32): ∀k,k≤l.length→(typs l k).length≤10+601*k
 |0,_=>z9 (by omega)
 |k+1,hk=>by
  have ih:=WP hv hl k (by omega)
  have hf:=hv k (by omega)
  rw[VM (by omega)] at hf
  have:=z7k hf hl (by omega)
  simp only[typs,w0e,w46,w45];omega
attribute [local go_sem high] zw y9
attribute [local go_sem ↓] w07 w19
attribute [local go_sem low] Yc Yt Yf Yut Yuf xA xB xy xz
attribute [local go_sem 2000] zP
attribute [local go_sem] ql qj qm qk ye zU yB zY yd zA xr xp xo hd kep xm w02 AV.bool.injEq AV.int.injEq not_true_eq_false not_false_eq_true true_implies false_implies and_true true_and implies_true zu zN zM zt zO zC zm zi zr zG zF zq zH zE zl zj w10 zI zJ yz w2b evShift IntKind.bits zQ zK zL z7 zf zV wrap_u32 w18 xx xu allLen zn AV.tup.injEq List.cons.injEq AV.agg.injEq yc ya evBuild xq zS zx zR eqC0 eqC1 eqC2 zT w25 w24
attribute [go_sem] tw
theorem Tn {n:Int} (h0:0≤n) (hn:n<4611686018427387904) (m:Mem) {lv k sp i:Nat} {y:AV} {b:List UInt8} {post:List (List Nat)} (ha:At m lv k sp i y b post) (hb:b.length≤1000000):
  Writes 225 [.ptr lv k sp 0,.int .i64 n] lv k sp i y b (minimal n.toNat) post (.tup []) m:=by
 obtain⟨k,rfl⟩:=Int.eq_ofNat_of_zero_le h0
 exact qR k (by omega) m ha hb
theorem z8P (l:List DTyp) (v:AV) (hv:IsSl IsTyp 4 l v) (hw:WfTypes l) (hval:ValidT l) (hl:l.length≤32) (m:Mem) {lv k sp i:Nat} {y:AV} {b:List UInt8} {post:List (List Nat)} (ha:At m lv k sp i y b post) (hb:b.length≤100000):
  Writes 224 [.ptr lv k sp 0,v] lv k sp i y b (typs l l.length) post (.tup []) m:=by
 obtain⟨z,ht⟩:=typV hv
 have f0:=nd hv.z<|nd hv.co fun j hj=>nd (ht j hj).1 (ht j hj).2.co
 have m0:=hv.max
 have f:=f0
 refine wz (tT tw) ha fun S C n e g fw hlv hk hW=> ?_
 have f:=nd f0 fw
 unfold Wf at f
 refine st ?_
 refine oW hlv (qR l.length (by omega) _ (fw.at hlv hk hW) (by omega)) fun y n L hW=> ?_
 refine xs [12] (fun(z:Nat×AV) v S' e c=>S'=rw' S C lv k sp z.2∧z.1≤l.length∧v 12= .int .i64 (z.1:Int)∧c=[]∧WrL (i+1) z.2 (b++typs l z.1) e post) (fun z=>l.length-z.1) (0,y) ?_ ?_
 ·simpa [typs] using hW
 rintro⟨j,y⟩ v S' e nz c ⟨rfl,hj,h12,rfl,hW⟩
 dsimp only at*
 have hL:=WP hval hl j hj
 refine ifs (fun h=> ?_) fun h=> ?_
 ·have hj:j<l.length:=by omega
  have hF:=hval j hj
  have hkd:=(hw _ (w04 hj)).kind
  have hn:=tR hF
  have hfo:=Q6 hF (by omega)
  have hT: ∀B,typB l[j]=B→b++typs l (j+1)=b++typs l j++[UInt8.ofNat l[j].kind.toNat]++B:=fun B h=>by
   rw[typs,←VM hj,h];simp
  refine aW hW (byI (by unfold inU8 at hkd;omega)) (by simp;omega) fun y n o L hW=> ?_
  have hx: ∀(y:AV) (n:Nat) (L:List (List Nat)),WrL (i+1) y (b++typs l (j+1)) L post→ ∃q:Nat×AV,l.length-q.1<l.length-j∧rw' S C lv k sp y=rw' S C lv k sp q.2∧q.1≤l.length∧(j:Int)+1=(q.1:Int)∧WrL (i+1) q.2 (b++typs l q.1) L post:=fun y n L h=>
   ⟨(j+1,y),by dsimp only;omega,rfl,by dsimp only;omega,by dsimp only;omega,h⟩
  refine ifs (fun k4=> ?_) fun k4=> ?_
  ·obtain⟨q1,q2,_⟩:=hn.2.2.1 (.inl k4)
   refine oW hlv (Tn q1 (by omega) _ (fw.at hlv hk hW) (by simp;omega)) fun y n L hW=> ?_
   exact hx _ 0 _ (by rw[hT (minimal l[j].elem.toNat) (by unfold typB;rw[if_pos (.inl k4)])];exact hW)
  refine ifs (fun k7=> ?_) fun k7=> ?_
  ·obtain⟨q1,q2,_⟩:=hn.2.2.1 (.inr k7)
   refine oW hlv (Tn q1 (by omega) _ (fw.at hlv hk hW) (by simp;omega)) fun y n L hW=> ?_
   exact hx _ 0 _ (by rw[hT (minimal l[j].elem.toNat) (by unfold typB;rw[if_pos (.inr k7)])];exact hW)
  have k47: ¬(l[j].kind=4∨l[j].kind=7):=by omega
  refine ifs (fun k6=> ?_) fun k6=> ?_
  ·obtain⟨q1,q2,_⟩:=hn.2.2.2.1 k6
   have q3:=hn.2.1 k6
   have m1:= @z9 l[j].elem.toNat (by omega)
   refine oW hlv (Tn q1 (by omega) _ (fw.at hlv hk hW) (by simp;omega)) fun y n L hW=> ?_
   refine oW hlv (Tn (by omega) (by omega) _ (fw.at hlv hk hW) (by simp;omega)) fun y n L hW=> ?_
   exact hx _ 0 _ (by rw[hT _ (by unfold typB;rw[if_neg k47,if_pos k6]),←w16];exact hW)
  refine ifs (fun k5=> ?_) fun k5=> ?_
  ·refine oW hlv (z22 l[j].fields _ (ht j hj).2 (hfo k5) _ (fw.at hlv hk hW) (by simp;omega)) fun y n L hW=> ?_
   exact hx _ 0 _ (by rw[hT _ (by unfold typB;rw[if_neg k47,if_neg k6,if_pos k5])];exact hW)
  exact hx _ 0 _ (by rw[hT [] (by unfold typB;rw[if_neg k47,if_neg k6,if_neg k5]),w1b];exact hW)
 ·obtain rfl:j=l.length:=by omega
  exact eW hlv hW rfl
end Go.Proofs.W
end
section
namespace Go.Proofs.W
open Go.Vs
def r0:DRun:=⟨0,0⟩
def runAt (l:List DRun) (j:Nat):DRun:=l.getD j r0
theorem z0g {l:List DRun} {j:Nat} (h:j<l.length):l[j]=runAt l j:=by simp[runAt,w05,h]
def stepOk (l:List DRun) (n:Int) (j:Nat):Prop:=(runAt l j).frm<n∧(0<j→(runAt l (j-1)).frm<(runAt l j).frm∧(runAt l (j-1)).value≠(runAt l j).value)
def FineR (l:List DRun) (n:Int):Prop:=0<l.length∧(runAt l 0).frm=0∧ ∀j,j<l.length→stepOk l n j
theorem IsSl.run {l:List DRun} {x:AV} (hx:IsSl IsRun 2 l x) {j:Nat} (h:j<l.length):nth x j= .agg [.int .i64 (runAt l j).frm,.int .u64 (runAt l j).value]:=by
 have:=hx.nth h
 rw[z0g h] at this
 exact this
theorem at0 {α:Type} {R:α→AV→Prop} {s:Nat} {xs:List α} {y:AV} (h:IsSl R s xs y) (hi:0<xs.length):evIaddr s y (.int .i64 0)=some (.ro (nth y 0).cells):=h.at .i64 hi
theorem z5C {α:Type} {R:α→AV→Prop} {s:Nat} {xs:List α} {y:AV} (h:IsSl R s xs y) {i:Nat} (h0:0<i) (hi:i-1<xs.length):evIaddr s y (.int .i64 ((i:Int)-1))=some (.ro (nth y (i-1)).cells):=by
 have:=h.at .i64 hi
 grind
theorem WI (l:List DRun) (x:AV) (hx:IsSl IsRun 2 l x) (n:Int) (m:Mem):Okv tab 156 [x,.int .i64 n] m (.bool (pb (FineR l n))):=by
 refine ze (tT tj) ?_
 obtain⟨stk,cur,nx,live,fl⟩:=m
 simp only[tj,go_sem,G3,G6,G8,hx.len]
 by_cases h0:0<l.length
 case neg=>
  have h0':(l.length:Int)<1:=by omega
  simp only[go_sem,G6,G8,h0']
  rw[z5 rfl rfl,z6]
  exact⟨⟨_,rfl⟩,by rw[zk fun h=>h0 h.1]⟩
 have h0': ¬(l.length:Int)<1:=by omega
 by_cases hz:(runAt l 0).frm=0
 case neg=>
  have hz':((runAt l 0).frm !=0)=true:=by simpa using hz
  simp only[go_sem,G6,G8,h0',at0 hx h0,IsSl.run hx h0,hz']
  rw[z5 rfl rfl,z6]
  exact⟨⟨_,rfl⟩,by rw[zk fun h=>hz h.2.1]⟩
 have hz':((runAt l 0).frm !=0)=false:=by simpa using hz
 simp only[go_sem,G6,G8,h0',at0 hx h0,IsSl.run hx h0,hz']
 refine za (α:=Nat) (fun i σ=>(i≤l.length∧ ∀j,j<i→stepOk l n j)∧ ∃nz,heads [0,1,5] 0 σ=⟨tmps 61 [(0,x),(1,.int .i64 n),(5,.int .i64 i)],⟨stk++[cur],[],nz,[]::live,fl⟩⟩) (fun i=>l.length-i) 0 ?_ ?_
 ·refine⟨⟨w0b _,fun j h=>absurd h (w34 _)⟩,?_⟩
  simp only[go_sem,G6,G7]
  simp
 ·rintro i σ ⟨⟨hi,ht⟩,nz,hσ⟩
  rw[hσ]
  clear hσ σ
  dsimp only at hi ht⊢
  by_cases h:i<l.length
  ·have e1:=IsSl.run hx h
   have hat:=hx.at .i64 h
   have bad: ¬stepOk l n i→pb (FineR l n)=false:=fun hb=>zk fun h'=>hb (h'.2.2 i h)
   have hsucc:=zc h hx.max
   have hmx:=hx.max
   have next:stepOk l n i→ ∀j,j<i+1→stepOk l n j:=fun hs j hj=>by
    grind
   simp only[go_sem,G6,G7,G8,w02,h,hx.len,hat,e1]
   by_cases hn:(runAt l i).frm<n
   case neg=>
    have hn':(runAt l i).frm≥n:=by omega
    simp only[go_sem,G6,G8,hn']
    rw[z5 rfl rfl,z6]
    exact⟨⟨_,rfl⟩,by rw[bad fun h'=>hn h'.1]⟩
   have hn': ¬(runAt l i).frm≥n:=by omega
   by_cases hp:0<i
   case neg=>
    have hp': ¬((i:Int)>0):=by omega
    simp only[go_sem,G6,G8,hn',hp',hsucc]
    exact⟨i+1,by omega,⟨h,next ⟨hn,fun h'=>absurd h' hp⟩⟩,_,rfl⟩
   have hp':(i:Int)>0:=by omega
   have hsub:IntKind.i64.wrap ((i:Int)-1)=(i:Int)-1:=z7 (by omega) (by omega)
   have e2:=IsSl.run hx (show i-1<l.length by omega)
   have hat2:=z5C hx hp (show i-1<l.length by omega)
   by_cases hq:(runAt l (i-1)).frm≥(runAt l i).frm
   ·simp only[go_sem,G6,G8,hn',hp',hsub,hat,e1,hat2,e2,hq]
    rw[z5 rfl rfl,z6]
    exact⟨⟨_,rfl⟩,by rw[bad fun h'=>by have:=(h'.2 hp).1;omega]⟩
   ·by_cases hv:(runAt l (i-1)).value=(runAt l i).value
    ·have hv':((runAt l (i-1)).value==(runAt l i).value)=true:=by simpa using hv
     simp only[go_sem,G6,G8,hn',hp',hsub,hat,e1,hat2,e2,hq,hv']
     rw[z5 rfl rfl,z6]
     exact⟨⟨_,rfl⟩,by rw[bad fun h'=>(h'.2 hp).2 hv]⟩
    ·have hv':((runAt l (i-1)).value==(runAt l i).value)=false:=by simpa using hv
     simp only[go_sem,G6,G8,hn',hp',hsub,hat,e1,hat2,e2,hq,hv',hsucc]
     exact⟨i+1,by omega,⟨h,next ⟨hn,fun _=>⟨by omega,hv⟩⟩⟩,_,rfl⟩
  ·have:i=l.length:=by omega
   subst this
   simp only[go_sem,G6,G7,G8,w02,h,hx.len]
   rw[z5 rfl rfl,z6]
   exact⟨⟨_,rfl⟩,by rw[yn ⟨h0,hz,ht⟩]⟩
noncomputable def err08 (l:List DRun) (n:Int):Int:=if n<1∨n>200 then 2 else if pb (FineR l n) then 0 else 8
theorem z08 (n:Int) (m:Mem):Okv tab 207 [.int .i64 n] m (.int .i64 (if n<1∨n>200 then 2 else 0)):=by
 refine ze (tT qB) ?_
 obtain⟨stk,cur,nx,live,fl⟩:=m
 simp only[qB,go_sem,G6,G8]
 repeat' (((first|refine uN ?_ ?_|refine yY ?_ ?_|refine yZ ?_ ?_|refine yW ?_ ?_|refine yX ?_ ?_)<;>intro hq)<;>simp only[go_sem,G6,G8,hq])
 all_goals
  rw[z5 rfl rfl,z6]
  refine⟨⟨_,rfl⟩,?_⟩
  simp only[decide_eq_true_eq,decide_eq_false_iff_not] at*
  simp[*]
theorem IsSl.from1 {α:Type} {R:α→AV→Prop} {s:Nat} {xs:List α} {y:AV} (h:IsSl R s xs y) (h0:0<xs.length): ∃y',evSlice s y (some (.int .i64 1)) none none=some y'∧IsSl R s (xs.drop 1) y':=by
 rcases h with⟨hm,⟨rfl,rfl⟩|⟨tk,ys,rfl,h⟩⟩
 ·simp at h0
 ·have hl:=h.len
  have hb:bound (some (.int .i64 1)) ys.length 0=some 1:=by
   unfold bound;simp only;rw[if_pos (by omega)];rfl
  have e:evSlice s (.list s tk ys) (some (.int .i64 1)) none none=some (.list s (if ys.length==ys.length&&(1==0||decide (1<ys.length)) then tk else .none) ((ys.take ys.length).drop 1)):=by
   unfold evSlice
   simp only[beq_self_eq_true,if_true]
   rw[show bound none ys.length ys.length=some ys.length from rfl,w39,hb]
   simp
  refine⟨_,e,?_⟩
  rw[w06]
  exact .mk (h.drop 1) (by rw[w54];omega)
theorem z0w {l:List DRun} {n:Int} (h0:0<l.length) (hl:(runAt l (l.length-1)).frm<n) (hs: ∀j,0<j→j<l.length→(runAt l (j-1)).frm<(runAt l j).frm): ∀k,k<l.length→(runAt l (l.length-1-k)).frm<n
 |0,_=>by simpa using hl
 |k+1,hk=>by
  have ih:=z0w h0 hl hs k (by omega)
  grind
theorem QD (l:List DRun) (x:AV) (hx:IsSl IsRun 2 l x) (n:Int) (m:Mem):Okv tab 208 [x,.int .i64 n] m (.bool (pb (FineR l n))):=by
 refine ze (tT kH) ?_
 obtain⟨stk,cur,nx,live,fl⟩:=m
 have hmx:=hx.max
 simp only[kH,go_sem,G3,G6,G8,hx.len]
 by_cases h0:0<l.length
 case neg=>
  have h0':((l.length:Int)==0)=true:=beq_iff_eq.2 (by omega)
  simp only[go_sem,G6,G8,h0']
  rw[z5 rfl rfl,z6]
  exact⟨⟨_,rfl⟩,by rw[zk fun h=>h0 h.1]⟩
 have h0':((l.length:Int)==0)=false:=beq_eq_false_iff_ne.2 (by omega)
 by_cases hz:(runAt l 0).frm=0
 case neg=>
  have hz':((runAt l 0).frm !=0)=true:=by simpa using hz
  simp only[go_sem,G6,G8,h0',at0 hx h0,IsSl.run hx h0,hz']
  rw[z5 rfl rfl,z6]
  exact⟨⟨_,rfl⟩,by rw[zk fun h=>hz h.2.1]⟩
 have hz':((runAt l 0).frm !=0)=false:=by simpa using hz
 have hsub:IntKind.i64.wrap ((l.length:Int)-1)=(l.length:Int)-1:=z7 (by omega) (by omega)
 have hlast:=z5C hx h0 (show l.length-1<l.length by omega)
 have elast:=IsSl.run hx (show l.length-1<l.length by omega)
 by_cases hn:(runAt l (l.length-1)).frm<n
 case neg=>
  have hn':(runAt l (l.length-1)).frm≥n:=by omega
  simp only[go_sem,G6,G8,h0',at0 hx h0,IsSl.run hx h0,hz',hx.len,hsub,hlast,elast,hn']
  rw[z5 rfl rfl,z6]
  exact⟨⟨_,rfl⟩,by rw[zk fun h=>hn (h.2.2 _ (by omega)).1]⟩
 have hn': ¬(runAt l (l.length-1)).frm≥n:=by omega
 obtain⟨y,hy,hys⟩:=IsSl.from1 hx h0
 have hyl:=hys.len
 rw[w54] at hyl
 simp only[go_sem,G3,G6,G8,h0',at0 hx h0,IsSl.run hx h0,hz',hx.len,hsub,hlast,elast,hn',hy,hyl]
 refine za (α:=Nat) (fun i σ=>(i+1≤l.length∧ ∀j,0<j→j≤i→(runAt l (j-1)).frm<(runAt l j).frm∧(runAt l (j-1)).value≠(runAt l j).value)∧ ∃nz,heads [5,33,34,35] 1 σ=⟨tmps 55 [(5,.ptr (stk++[cur]).length 0 nx 0),(33,y),(34,.int .i64 (l.length-1:Nat)),(35,.int .i64 i)],⟨stk++[cur],[⟨nx,[.int .i64 (runAt l i).frm,.int .u64 (runAt l i).value]⟩],nz,[]::live,fl⟩⟩) (fun i=>l.length-i) 0 ?_ ?_
 ·refine⟨⟨h0,fun j h h'=>absurd h (by omega)⟩,?_⟩
  simp only[go_sem,G6,G7]
  simp
 ·rintro i σ ⟨⟨hi,ht⟩,nz,hσ⟩
  rw[hσ]
  clear hσ σ
  dsimp only at hi ht⊢
  by_cases h:i<l.length-1
  ·have hd:i<(l.drop 1).length:=by rw[w54];exact h
   have e1:nth y i= .agg [.int .i64 (runAt l (i+1)).frm,.int .u64 (runAt l (i+1)).value]:=by
    have:=IsSl.run hys hd
    rw[this]
    have:runAt (l.drop 1) i=runAt l (i+1):=by simp[runAt,w05]
    rw[this]
   have hat:=hys.at .i64 hd
   have hsucc:=zc hd hys.max
   have bad: ¬((runAt l i).frm<(runAt l (i+1)).frm∧(runAt l i).value≠(runAt l (i+1)).value)→pb (FineR l n)=false:=fun hb=>zk fun h'=>hb (by have:=(h'.2.2 (i+1) (by omega)).2 (by omega);simpa using this)
   simp only[go_sem,G3,G6,G7,G8,w02,h,hat,e1]
   by_cases hq:(runAt l (i+1)).frm≤(runAt l i).frm
   ·simp only[go_sem,G6,G8,hq]
    rw[z5 rfl rfl,z6]
    grind
   ·by_cases hv:(runAt l (i+1)).value=(runAt l i).value
    ·have hv':((runAt l (i+1)).value==(runAt l i).value)=true:=by simpa using hv
     simp only[go_sem,G3,G6,G9,G8,hq,evBuild,eqAt,eqCell,hv']
     rw[z5 rfl rfl,z6]
     grind
    ·have hv':((runAt l (i+1)).value==(runAt l i).value)=false:=by simpa using hv
     simp only[go_sem,G3,G6,G9,G8,hq,evBuild,eqAt,eqCell,hv',hsucc]
     refine⟨i+1,by omega,⟨by omega,fun j hj hji=> ?_⟩,_,rfl⟩
     grind
  ·have hil:i=l.length-1:=by omega
   simp only[go_sem,G6,G7,G8,w02,h]
   rw[z5 rfl rfl,z6]
   refine⟨⟨_,rfl⟩,by rw[yn ⟨h0,hz,fun j hj=>⟨?_,fun hp=>ht j hp (by omega)⟩⟩]⟩
   have:=z0w h0 hn (fun j hp hj=>(ht j hp (by omega)).1) (l.length-1-j) (by omega)
   rwa [show l.length-1-(l.length-1-j)=j by omega] at this
theorem jF (l:List DRun) (x:AV) (hx:IsSl IsRun 2 l x) (n:Int) (m:Mem):Okv tab 144 [x,.int .i64 n] m (.int .i64 (err08 l n)):=by
 refine ze (tT jS) ?_
 obtain⟨stk,cur,nx,live,fl⟩:=m
 have hF:=fun m=>(QD l x hx n m).eq
 have hC:=fun m=>(z08 n m).eq
 simp only[jS,go_sem,G3,G6,G8,hC]
 by_cases hn:n<1∨n>200
 ·simp only[go_sem,G6,G8,hn,show((2:Int) !=0)=true from rfl]
  rw[z5 rfl rfl,z6]
  exact⟨⟨_,rfl⟩,by unfold err08;rw[if_pos hn]⟩
 ·simp only[go_sem,G6,G8,hn,show((0:Int) !=0)=false from rfl,hF]
  cases hp:pb (FineR l n)
  ·simp only[go_sem,G6,G8]
   rw[z5 rfl rfl,z6]
   exact⟨⟨_,rfl⟩,by unfold err08;rw[if_neg hn,hp];rfl⟩
  ·simp only[go_sem,G6,G8]
   rw[z5 rfl rfl,z6]
   exact⟨⟨_,rfl⟩,by unfold err08;rw[if_neg hn,hp];rfl⟩
def wasAt (l:List DRun) (k:Nat):Int:=if k=0 then 0 else(runAt l (k-1)).frm
def cod8 (l:List DRun):Nat→List UInt8
 |0=>minimal l.length
 |k+1=>cod8 l k++minimal ((runAt l k).frm-wasAt l k).toNat++minimal (runAt l k).value.toNat
def WfRuns (l:List DRun):Prop:= ∀r∈l,WfRun r
theorem WfRuns.at {l:List DRun} (h:WfRuns l) {k:Nat} (hk:k<l.length):WfRun (runAt l k):=by rw[←z0g hk];exact h _ (w04 hk)
theorem YO {l:List DRun} {n:Int} (h:FineR l n): ∀k,k<l.length→0≤(runAt l k).frm
 |0,_=>by rw[h.2.1];omega
 |k+1,hk=>by
  have ih:=YO h k (by omega)
  have:=((h.2.2 (k+1) hk).2 (by omega)).1
  grind
theorem Q5 {l:List DRun} {n:Int} (h:FineR l n) {k:Nat} (hk:k<l.length):0≤(runAt l k).frm-wasAt l k∧(runAt l k).frm-wasAt l k≤n∧ -1≤wasAt l k:=by
 have h1:=YO h k hk
 have h2:=(h.2.2 k hk).1
 unfold wasAt
 split
 ·omega
 ·rename_i h0
  have h3:=YO h (k-1) (by omega)
  have:=((h.2.2 k hk).2 (by omega)).1
  omega
theorem tU {l:List DRun} {n:Int} (h:FineR l n) (hn:n≤200) (hw:WfRuns l) (hl:l.length≤1000): ∀k,k≤l.length→(cod8 l k).length≤10+20*k
 |0,_=>z9 (by omega)
 |k+1,hk=>by
  have ih:=tU h hn hw hl k (by omega)
  have h1:=Q5 h (show k<l.length by omega)
  have h2:=(hw.at (show k<l.length by omega)).value
  unfold inU64 at h2
  have m1:=z9 (n:=((runAt l k).frm-wasAt l k).toNat) (by omega)
  have m2:=z9 (n:=(runAt l k).value.toNat) (by omega)
  simp only[cod8,w0e];omega
theorem XP (l:List DRun) (x:AV) (hx:IsSl IsRun 2 l x) (n:Int) (hfine:FineR l n) (hn:n≤200) (hw:WfRuns l) (hl:l.length≤1000) (m:Mem):Okl IsByte 1 tab 222 [x] m (cod8 l l.length):=by
 refine tF (tT ut) ?_
 obtain⟨stk,cur,nx,live,fl⟩:=m
 have e0:IntKind.u64.wrap (l.length:Int)=l.length:=zf (by omega) (by omega)
 simp only[ut,go_sem,G6,G8,hx.len,e0]
 refine(zh l.length (by omega) _).xv fun y ts k ho=> ?_
 simp only[go_sem,G6,G8]
 refine za (α:=Nat) (fun i σ=>i≤l.length∧ ∃nz y e,Own IsByte 1 y (cod8 l i) e∧heads [0,3,4,5] 0 σ=⟨tmps 41 [(0,x),(3,y),(4,.int .i64 (wasAt l i)),(5,.int .i64 i)],⟨stk++[cur],[],nz,e::live,fl⟩⟩) (fun i=>l.length-i) 0 ?_ ?_
 ·refine⟨w0b _,k,y,_,ho,?_⟩
  rfl
 ·rintro i σ ⟨hi,nz,y,e,ho,hσ⟩
  rw[hσ]
  clear hσ σ
  dsimp only at hi⊢
  by_cases h:i<l.length
  ·skip
   have h1:=Q5 hfine h
   have h2:=(hw.at h).value
   unfold inU64 at h2
   have hpos:=YO hfine i h
   have hfr:=(hfine.2.2 i h).1
   have e1:=IsSl.run hx h
   have hat:=hx.at .i64 h
   have m1:=z9 (n:=((runAt l i).frm-wasAt l i).toNat) (by omega)
   have m2:=z9 (n:=(runAt l i).value.toNat) (by omega)
   have hcl:=tU hfine hn hw hl i (by omega)
   have ew:IntKind.u64.wrap (IntKind.i64.wrap ((runAt l i).frm-wasAt l i))=((((runAt l i).frm-wasAt l i).toNat:Nat):Int):=by
    rw[z7 (by omega) (by omega),zf (by omega) (by omega)];omega
   have ev:(runAt l i).value=(((runAt l i).value.toNat:Nat):Int):=by omega
   have hsucc:=zc h hx.max
   have hwn:wasAt l (i+1)=(runAt l i).frm:=by unfold wasAt;rw[if_neg (by omega)];simp
   simp only[go_sem,G6,G7,G8,w02,h,hx.len,hat,e1,ew]
   refine(zh _ (by omega) _).xv fun y1 t1 k1 ho1=> ?_
   simp only[go_sem,G6,G8]
   obtain⟨z1,hz1,hc1⟩:=ho1.elems
   refine(ho.push t1).xv hz1 hc1 (by omega) fun y2 k2 e2 ho2=> ?_
   simp only[go_sem,G6,G8,hat,e1]
   rw[ev]
   refine(zh _ (by omega) _).xv fun y3 t3 k3 ho3=> ?_
   simp only[go_sem,G6,G8]
   obtain⟨z3,hz3,hc3⟩:=ho3.elems
   refine(ho2.push t3).xv hz3 hc3 (by simp only[w0e];omega) fun y4 k4 e4 ho4=> ?_
   simp only[go_sem,G6,G8,hat,e1,hsucc]
   exact⟨i+1,by omega,h,k4,y4,e4,ho4,by rw[hwn]⟩
  ·have:i=l.length:=by omega
   subst this
   simp only[go_sem,G6,G7,G8,w02,h,hx.len]
   exact xN ho
theorem Y4 (l:List DRun) (x:AV) (hx:IsSl IsRun 2 l x) (n:Int) (hfine:FineR l n) (hn1:1≤n) (hn:n≤200) (hw:WfRuns l) (hl:l.length≤1000) (m:Mem) (hf:m.floor≤m.stk.length+1):Okp IsByte 1 tab 287 [x,.int .i64 n] m (cod8 l l.length) 0:=by
 refine We (tT qZ) ?_
 obtain⟨stk,cur,nx,live,fl⟩:=m
 dsimp only at hf
 have hf':fl≤(stk++[cur]).length+1:=by simp;omega
 have e0:IntKind.u64.wrap (l.length:Int)=l.length:=zf (by omega) (by omega)
 have hC:=jF l x hx n
 rw[show err08 l n=0 by unfold err08;rw[if_neg (by omega),yn hfine];rfl] at hC
 simp only[qZ,go_sem,G3,G6,G8,(hC _).eq,show((0:Int) !=0)=false from rfl,hx.len,e0]
 refine(vq l.length (by omega) _ _ _ _ _ hf').xv fun y ts k ho=> ?_
 simp only[go_sem,G6,G8,hx.len]
 refine za (α:=Nat) (fun i σ=>i≤l.length∧ ∃nz y e,Own IsByte 1 y (cod8 l i) e∧heads [7,8,21,22,23] 0 σ=⟨tmps 44 [(7,y),(8,.int .i64 (wasAt l i)),(21,x),(22,.int .i64 l.length),(23,.int .i64 i)],⟨stk++[cur],[],nz,e::live,fl⟩⟩) (fun i=>l.length-i) 0 ?_ ?_
 ·refine⟨w0b _,k,y,_,ho,?_⟩
  rfl
 ·rintro i σ ⟨hi,nz,y,e,ho,hσ⟩
  rw[hσ]
  clear hσ σ
  dsimp only at hi⊢
  by_cases h:i<l.length
  ·skip
   have h1:=Q5 hfine h
   have h2:=(hw.at h).value
   unfold inU64 at h2
   have hpos:=YO hfine i h
   have hfr:=(hfine.2.2 i h).1
   have e1:=IsSl.run hx h
   have hat:=hx.at .i64 h
   have m1:=z9 (n:=((runAt l i).frm-wasAt l i).toNat) (by omega)
   have m2:=z9 (n:=(runAt l i).value.toNat) (by omega)
   have hcl:=tU hfine hn hw hl i (by omega)
   have ew:IntKind.u64.wrap (IntKind.i64.wrap ((runAt l i).frm-wasAt l i))=((((runAt l i).frm-wasAt l i).toNat:Nat):Int):=by
    rw[z7 (by omega) (by omega),zf (by omega) (by omega)];omega
   have ev:(runAt l i).value=(((runAt l i).value.toNat:Nat):Int):=by omega
   have hsucc:=zc h hx.max
   have hwn:wasAt l (i+1)=(runAt l i).frm:=by unfold wasAt;rw[if_neg (by omega)];simp
   simp only[go_sem,G3,G6,G7,G8,w02,h,hat,e1,ew]
   refine(vq _ (by omega) _ _ _ _ _ hf').xv fun y1 t1 k1 ho1=> ?_
   simp only[go_sem,G6,G8]
   obtain⟨z1,hz1,hc1⟩:=ho1.elems
   refine(ho.push t1).xv hz1 hc1 (by omega) fun y2 k2 e2 ho2=> ?_
   simp only[go_sem,G6,G8]
   rw[ev]
   refine(vq _ (by omega) _ _ _ _ _ hf').xv fun y3 t3 k3 ho3=> ?_
   simp only[go_sem,G6,G8]
   obtain⟨z3,hz3,hc3⟩:=ho3.elems
   refine(ho2.push t3).xv hz3 hc3 (by simp only[w0e];omega) fun y4 k4 e4 ho4=> ?_
   simp only[go_sem,G6,G8,hsucc]
   exact⟨i+1,by omega,h,k4,y4,e4,ho4,by rw[hwn]⟩
  ·have:i=l.length:=by omega
   subst this
   simp only[go_sem,G6,G7,G8,w02,h]
   exact tS ho
theorem z3Y {m:Mem} {l k st:Nat} {cs:List AV} (h:m.blk l k st=some cs):(m.row l)[k]? =some ⟨st,cs⟩:=by
 unfold Mem.blk at h
 split at h
 ·rename_i b hb
  split at h
  ·rename_i e
   injection h with h
   rw[hb,←h,←eq_of_beq e]
  ·cases h
 ·cases h
theorem z5B {stk:List (List Blk)} {cur c:List Blk} {nx nx' fl fl':Nat} {live live':List (List Nat)} {lv k s:Nat} (hlv:lv≤stk.length):(Mem.blk ⟨stk++[cur],c,nx',live',fl'⟩ lv k s)=Mem.blk ⟨stk,cur,nx,live,fl⟩ lv k s:=by
 unfold Mem.blk Mem.row
 grind
theorem z99 {stk:List (List Blk)} {cur:List Blk} {nx fl:Nat} {live:List (List Nat)} {lv k st:Nat} {cs:List AV} (hlv:lv≤stk.length) (h:Mem.blk ⟨stk,cur,nx,live,fl⟩ lv k st=some cs):((stk++[cur]).getD lv [])[k]? =some ⟨st,cs⟩:=by
 have:=z3Y h
 unfold Mem.row at this
 grind
theorem z5M (g:DField) (y:AV) (hy:IsField g y) (s:List UInt8) (t:Int) (m:Mem) (lv st:Nat) (hlv:lv≤m.stk.length) (h1:m.blk lv 0 st=some [.str s,.int .i64 t]):Okv tab 368 [y,.ptr lv 0 st 0] m (.bool (g.name==s)):=by
 refine ze (tT jf) ?_
 obtain⟨stk,cur,nx,live,fl⟩:=m
 dsimp only at hlv
 obtain rfl:=hy
 have hne:(lv==(stk++[cur]).length)=false:=by simp;omega
 have b1:=z99 hlv h1
 simp only[jf,go_sem,G3,G6,G8,hne,b1,evStr]
 rw[z5 rfl rfl,z6]
 simp
theorem WN (xs:List DField) (x:AV) (hx:IsSl IsField 2 xs x) (s:List UInt8) (t:Int) (m:Mem) (lv st:Nat) (hlv:lv≤m.stk.length) (h1:m.blk lv 0 st=some [.str s,.int .i64 t]):
  Ok tab 387 [x,.fn (.func 368) [] [.ptr lv 0 st 0]] m (fun r=> ∃n:Int,r= .int .i64 n∧decide (n≥0)=xs.any (·.name==s)):=by
 refine z2x (tT yj) ?_
 obtain⟨stk,cur,nx,live,fl⟩:=m
 dsimp only at hlv
 simp only[yj,go_sem,G3,G6,G8,hx.len]
 refine za (α:=Nat) (fun i σ=>(i≤xs.length∧ ∀c∈xs.take i,(c.name==s)=false)∧ ∃nz,heads [0,1,7,8] 0 σ=⟨tmps 19 [(0,x),(1,.fn (.func 368) [] [.ptr lv 0 st 0]),(7,.int .i64 xs.length),(8,.int .i64 i)],⟨stk++[cur],[],nz,[]::live,fl⟩⟩) (fun i=>xs.length-i) 0 ?_ ?_
 ·refine⟨⟨w0b _,by simp⟩,?_⟩
  simp only[go_sem,G6,G7]
  simp
 ·rintro i σ ⟨⟨hi,ht⟩,nz,hσ⟩
  rw[hσ]
  clear hσ σ
  dsimp only at hi ht⊢
  by_cases h:i<xs.length
  ·have hfl:IsField xs[i] (nth x i):=hx.nth h
   have hag:=hfl.agg.1
   have hcall:=fun nz=>(z5M xs[i] (nth x i) hfl s t ⟨stk++[cur],[],nz,[]::live,fl⟩ lv st (by simp;omega) (by rw[z5B hlv];exact h1)).eq
   simp only[go_sem,G6,G7,G8,w02,h,hx.at _ h,hag,hcall]
   cases hc:(xs[i].name==s)
   ·simp only[go_sem,G6,G8,zc h hx.max]
    exact⟨i+1,by omega,⟨h,zB (P:=fun c=>(c.name==s)=false) h ht hc⟩,_,rfl⟩
   ·simp only[go_sem,G6,G8]
    rw[z5 rfl rfl,z6]
    grind
  ·have:i=xs.length:=by omega
   subst this
   rw[w06] at ht
   simp only[go_sem,G6,G7,G8,w02,h]
   rw[z5 rfl rfl,z6]
   grind
theorem Yw (xs:List DField) (x:AV) (hx:IsSl IsField 2 xs x) (s:List UInt8) (t:Int) (m:Mem) (lv st:Nat) (hlv:lv≤m.stk.length) (h1:m.blk lv 0 st=some [.str s,.int .i64 t]):
  Okv tab 367 [x,.fn (.func 368) [] [.ptr lv 0 st 0]] m (.bool (xs.any (·.name==s))):=by
 refine ze (tT y8) ?_
 obtain⟨stk,cur,nx,live,fl⟩:=m
 dsimp only at hlv
 simp only[y8,go_sem,G3,G6,G8]
 obtain⟨r,k,e1,n,rfl,e2⟩:=WN xs x hx s t ⟨stk++[cur],[],nx,[]::live,fl⟩ lv st (by simp;omega) (by rw[z5B hlv];exact h1)
 simp only[go_sem,G6,G8,e1,e2]
 rw[z5 rfl rfl,z6]
 simp
theorem IsSl.upto {α:Type} {R:α→AV→Prop} {s:Nat} {xs:List α} {y:AV} (h:IsSl R s xs y) {i:Nat} (hi:i<xs.length): ∃y',evSlice s y none (some (.int .i64 i)) none=some y'∧IsSl R s (xs.take i) y':=by
 rcases h with⟨hm,⟨rfl,rfl⟩|⟨tk,ys,rfl,h⟩⟩
 ·simp at hi
 ·have hl:=h.len
  have hb:bound (some (.int .i64 (i:Int))) ys.length ys.length=some i:=by
   unfold bound;simp only;rw[if_pos (by omega)];rfl
  have e:evSlice s (.list s tk ys) none (some (.int .i64 i)) none=some (.list s (if i==ys.length&&(0==0||decide (0<ys.length)) then tk else .none) ((ys.take i).drop 0)):=by
   unfold evSlice
   simp only[beq_self_eq_true,if_true]
   rw[hb,w39,show bound none i 0=some 0 from rfl]
   simp
  refine⟨_,e,?_⟩
  rw[w14]
  exact .mk (h.take i) (by rw[w1f];omega)
def NamesP (l:List DField):Prop:=(∀f∈l,named f.name=true)∧(l.map DField.name).Nodup
theorem QR (xs:List DField) (x:AV) (hx:IsSl IsField 2 xs x) (m:Mem):Okv tab 326 [x] m (.bool (pb (NamesP xs))):=by
 refine ze (tT kO) ?_
 obtain⟨stk,cur,nx,live,fl⟩:=m
 simp only[kO,go_sem,G6,G8,hx.len]
 have hml:(xs.map DField.name).length=xs.length:=by simp
 refine za (α:=Nat) (fun i σ=>(i≤xs.length∧(∀c∈xs.take i,named c.name=true)∧((xs.map DField.name).take i).Nodup)∧ ∃nz,heads [0,5,6,7] 0 σ=⟨tmps 24 [(0,x),(5,x),(6,.int .i64 xs.length),(7,.int .i64 i)],⟨stk++[cur],[],nz,[]::live,fl⟩⟩) (fun i=>xs.length-i) 0 ?_ ?_
 ·refine⟨⟨w0b _,by simp,by simp⟩,?_⟩
  simp only[go_sem,G6,G7]
  simp
 ·rintro i σ ⟨⟨hi,ht,hd⟩,nz,hσ⟩
  rw[hσ]
  clear hσ σ
  dsimp only at hi ht hd⊢
  by_cases h:i<xs.length
  ·have e1:nth x i= .agg [.str xs[i].name,.int .i64 xs[i].typ]:=hx.nth h
   obtain⟨y,hy,hys⟩:=IsSl.upto hx h
   simp only[go_sem,G3,G6,G7,G8,w02,h,hx.at _ h,e1,(kz _ _).eq]
   cases hc:named xs[i].name
   ·simp only[go_sem,G6,G8]
    rw[z5 rfl rfl,z6]
    exact⟨⟨_,rfl⟩,by rw[zk fun h'=>by have:=h'.1 _ (w04 h);rw[hc] at this;cases this]⟩
   ·have hcall:=fun nz'=>(Yw (xs.take i) y hys xs[i].name xs[i].typ ⟨stk++[cur],[⟨nz,[.str xs[i].name,.int .i64 xs[i].typ]⟩],nz',[]::live,fl⟩ (stk++[cur]).length nz (w08 _) (by simp[Mem.blk,Mem.row])).eq
    simp only[go_sem,G6,G8,hy,hcall]
    cases ha:(xs.take i).any (·.name==xs[i].name)
    ·simp only[go_sem,G6,G8,zc h hx.max]
     refine⟨i+1,by omega,⟨h,zB (P:=fun c=>named c.name=true) h ht hc,?_⟩,_,rfl⟩
     refine TN (by rw[hml];exact h) hd fun z hz=> ?_
     rw[←List.map_take,w3d] at hz
     grind
    ·simp only[go_sem,G6,G8]
     rw[z5 rfl rfl,z6]
     refine⟨⟨_,rfl⟩,congrArg AV.bool (zk fun h'=> ?_).symm⟩
     obtain⟨f,hf,he⟩:=List.any_eq_true.1 ha
     obtain⟨j,hj,rfl⟩:=List.mem_take_iff_getElem.1 hf
     exact VT (l:=xs.map DField.name) (i:=i) (k:=j) (by omega) (by rw[hml];exact h) (by simpa using he) h'.2
  ·have:i=xs.length:=by omega
   subst this
   rw[w06] at ht
   rw[←hml,w06] at hd
   simp only[go_sem,G6,G7,G8,w02,h]
   rw[z5 rfl rfl,z6]
   exact⟨⟨_,rfl⟩,by rw[yn ⟨ht,hd⟩]⟩
end Go.Proofs.W
end
section
namespace Go.Proofs.W
open Go.Vs
attribute [local go_sem high] zw y9
attribute [local go_sem ↓] w07 w19
attribute [local go_sem low] Yc Yt Yf Yut Yuf xA xB xy xz
attribute [local go_sem 2000] zP
attribute [local go_sem] ql qj qm qk ye zU yB zY yd zA xr xp xo hd kep xm w02 AV.bool.injEq AV.int.injEq not_true_eq_false not_false_eq_true true_implies false_implies and_true true_and implies_true zu zN zM zt zO zC zm zi zr zG zF zq zH zE zl zj w10 zI zJ yz w2b evShift IntKind.bits zQ zK zL z7 zf zV wrap_u32 w18 xx xu allLen zn AV.tup.injEq List.cons.injEq AV.agg.injEq yc ya evBuild xq zS zx zR eqC0 eqC1 eqC2 zT w25 w24
attribute [go_sem] qE xS
def HeadP (n:Nat) (f:DFunc):Prop:=named f.name=true∧(f.slots.length:Int)≤16∧NamesP f.slots∧0≤f.params∧f.params≤f.slots.length∧ -1≤f.result∧f.result<n
def FuncP (n:Nat) (f:DFunc):Prop:=HeadP n f∧(∀s∈f.slots,0≤s.typ∧s.typ<n)∧(∀x∈f.code,InstrP x)∧1≤f.code.length∧f.code.length≤200∧FineR f.sizes f.code.length∧FineR f.lives f.code.length
theorem z1N {l:List DField} {k:Int}:FieldsP l k↔(l.length:Int)≤k∧NamesP l:=Iff.rfl
theorem z8c {l:List DRun} {n:Int}:(err08 l n==0)=pb (1≤n∧n≤200∧FineR l n):=by
 unfold err08
 refine Za ?_
 by_cases h:n<1∨n>200
 ·grind
 ·rw[if_neg h]
  cases hp:pb (FineR l n)
  ·have:=uM.1 hp
   simp[this]
  ·have:=u4.1 hp
   grind
theorem z9H {l:List DRun} {n:Int}:err08 l n=0↔1≤n∧n≤200∧FineR l n:=by
 have:=z8c (l:=l) (n:=n)
 rw[Bool.eq_iff_iff,u4] at this
 simpa using this
theorem z5z {x:DInstr}:err06 x=0↔InstrP x:=by
 by_cases h:InstrP x
 ·simp[jP h,h]
 ·simp[xJ h,h]
theorem z0Y {x:DInstr} (h:WfInstr x):WfI x:=⟨h.a,h.b,h.c⟩
theorem VF (l:List DTyp) (x:AV) (hx:IsSl IsTyp 4 l x) (F:DFunc) (y:AV) (hy:IsFunc F y) (hw:WfFunc F) (m:Mem) (hfl:m.floor≤m.stk.length+1):Okv tab 282 [x,y] m (.bool (pb (FuncP l.length F))):=by
 obtain⟨w0,w1,w2,w3,rfl,q0,q1,q2,q3⟩:=hy
 have f:=nd hx.z<|nd hx.co<|nd q0.z<|nd q1.z<|nd q0.co<|nd q1.co<|nd q2.co<|nd q3.co<|nd (fieldV q0)<|nd (instrV q1)<|nd (fun m=>(kz F.name m).eq)<|nd (fun m=>(QR F.slots w0 q0 m).eq)<|nd (fun m=>(jF F.sizes w2 q2 F.code.length m).eq) fun m=>(jF F.lives w3 q3 F.code.length m).eq
 have m0:=q0.max
 have m1:=q1.max
 refine okz (tT qE) fun s c x v g e=> ?_
 subst e
 simp at hfl
 repeat' first|refine ifs ?_ ?_|intro
 any_goals refine xn 53 F.slots.length [] (fun i _ _=> ∀j (hj:j<F.slots.length),j<i→0≤F.slots[j].typ∧F.slots[j].typ<l.length) 0 ?_ fun i v e nz hi hp=> ?_
 repeat' first|refine ifs ?_ ?_|intro
 any_goals refine xn 71 F.code.length [] (fun i _ _=> ∀j (hj:j<F.code.length),j<i→InstrP F.code[j]) 0 ?_ fun i v e nz hi hp=> ?_
 repeat' first|refine ow (kh _ _ (by simp;omega)) ?_|refine ifs ?_ ?_|intro
 all_goals
  clear f
  simp only[u4,uM,FuncP,HeadP,z9H,z5z,w4d] at*
  grind
theorem VD (l:List DTyp) (x:AV) (hx:IsSl IsTyp 4 l x) (F:DFunc) (y:AV) (hy:IsFunc F y) (hw:WfFunc F) (m:Mem):Okv tab 215 [x,y] m (.bool (pb (FuncP l.length F))):=by
 obtain⟨w0,w1,w2,w3,rfl,q0,q1,q2,q3⟩:=hy
 have f:=nd hx.z<|nd hx.co<|nd q0.z<|nd q1.z<|nd q0.co<|nd q1.co<|nd q2.co<|nd q3.co<|nd (fieldV q0)<|nd (instrV q1)<|nd (fun m=>(qy F.name hw.name m).eq)<|nd (fun m=>(qq F.slots 16 w0 q0 (fun f hf=>(hw.slots f hf).name) m).eq)<|nd (fun j (hj:j<F.code.length) m=>(XQ F.code[j] (z0Y (hw.code _ (w04 hj))) m).eq)<|nd (fun m=>(WI F.sizes w2 q2 F.code.length m).eq) fun m=>(WI F.lives w3 q3 F.code.length m).eq
 have m0:=q0.max
 have m1:=q1.max
 refine okz (tT xS) fun s c x v g e=> ?_
 repeat' first|refine ifs ?_ ?_|intro
 any_goals refine xn 5 F.slots.length [] (fun i _ _=> ∀j (hj:j<F.slots.length),j<i→0≤F.slots[j].typ∧F.slots[j].typ<l.length) 0 ?_ fun i v e nz hi hp=> ?_
 repeat' first|refine ifs ?_ ?_|intro
 any_goals refine xn 6 F.code.length [] (fun i _ _=> ∀j (hj:j<F.code.length),j<i→InstrP F.code[j]) 0 ?_ fun i v e nz hi hp=> ?_
 repeat' first|refine ifs ?_ ?_|intro
 all_goals
  clear f
  simp only[u4,uM,FuncP,HeadP,z1N,z5z,w4d] at*
  grind
end Go.Proofs.W
end
section
namespace Go.Proofs.W
open Go.Vs
def in0:DInstr:=⟨0,0,0,0⟩
def insAt (l:List DInstr) (k:Nat):DInstr:=l.getD k in0
theorem VZ {l:List DInstr} {j:Nat} (h:j<l.length):l[j]=insAt l j:=by simp[insAt,w05,h]
def codes (l:List DInstr):Nat→List UInt8
 |0=>[]
 |k+1=>codes l k++cod6 (insAt l k)
theorem Qk {x:DInstr} (h:InstrP x) (hw:WfI x):(cod6 x).length≤31:=by
 have hx:=h
 obtain⟨a,b,c,hs,_⟩:=hx
 exact XC hs h hw 3 (w08 _)
theorem XB {l:List DInstr} (h: ∀x∈l,InstrP x) (hw: ∀x∈l,WfInstr x): ∀k,k≤l.length→(codes l k).length≤31*k
 |0,_=>by simp[codes]
 |k+1,hk=>by
  have ih:=XB h hw k (by omega)
  have hm:=w04 (show k<l.length by omega)
  have:=Qk (h _ hm) (z0Y (hw _ hm))
  rw[VZ (by omega)] at this
  simp only[codes,w0e];omega
def funB (f:DFunc):List UInt8:=said f.name++(minimal f.params.toNat++(minimal (zigzag f.result)++(flds f.slots f.slots.length++(minimal f.code.length++(codes f.code f.code.length++(cod8 f.sizes f.sizes.length++cod8 f.lives f.lives.length))))))
theorem Q2 {n:Nat} {f:DFunc} (h:FuncP n f) (hn:n≤32):FOk f.slots:=by
 obtain⟨⟨h1,h2,h3,h4,h5,h6,h7⟩,h8,_⟩:=h
 refine⟨by omega,fun s hs=> ?_⟩
 have:=Zb (h3.1 s hs)
 grind
theorem Q7 {l:List DRun} {n:Int} (h:FineR l n): ∀k,k<l.length→(k:Int)≤(runAt l k).frm
 |0,_=>by rw[h.2.1];omega
 |k+1,hk=>by
  have ih:=Q7 h k (by omega)
  have:=((h.2.2 (k+1) hk).2 (by omega)).1
  grind
theorem yC {l:List DRun} {n:Int} (h:FineR l n) (hn:n≤200):l.length≤200:=by
 have h0:=h.1
 have h1:=Q7 h (l.length-1) (by omega)
 have h2:=(h.2.2 (l.length-1) (by omega)).1
 omega
attribute [local go_sem high] zw y9
attribute [local go_sem ↓] w07 w19
attribute [local go_sem low] Yc Yt Yf Yut Yuf xA xB xy xz
attribute [local go_sem 2000] zP
attribute [local go_sem] ql qj qm qk ye zU yB zY yd zA xr xp xo hd kep xm w02 AV.bool.injEq AV.int.injEq not_true_eq_false not_false_eq_true true_implies false_implies and_true true_and implies_true zu zN zM zt zO zC zm zi zr zG zF zq zH zE zl zj w10 zI zJ yz w2b evShift IntKind.bits zQ zK zL z7 zf zV wrap_u32 w18 xx xu allLen zn AV.tup.injEq List.cons.injEq AV.agg.injEq yc ya evBuild xq zS zx zR eqC0 eqC1 eqC2 zT w25 w24
attribute [go_sem] vo
theorem z3G (F:DFunc) (x:AV) (hx:IsFunc F x) (hwf:WfFunc F) (nt:Nat) (hnt:nt≤32) (hf:FuncP nt F) (m:Mem) {lv k sp i:Nat} {y:AV} {b:List UInt8} {post:List (List Nat)} (ha:At m lv k sp i y b post) (hb:b.length≤700000):
  Writes 227 [.ptr lv k sp 0,x] lv k sp i y b (funB F) post (.int .i64 0) m:=by
 have hfo:=Q2 hf hnt
 obtain⟨w0,w1,w2,w3,rfl,q0,q1,q2,q3⟩:=hx
 obtain⟨⟨g1,g2,g3,g4,g5,g6,g7⟩,g8,g9,g10,g11,g12,g13⟩:=hf
 have hnl:=Zb g1
 have m1:=qS (s:=F.name) (by omega)
 have m2:= @z9 F.params.toNat (by omega)
 have m3:=z9 (x4 hwf.result)
 have m4:=qU hfo _ (w08 _)
 have m5:= @z9 F.code.length (by omega)
 have f0:=nd q0.co<|nd q1.co<|nd q2.co<|nd q3.co<|nd q1.z (instrV q1)
 have f:=f0
 have h16:=hfo.1
 refine wz (tT vo) ha fun S C nb e g fw hlv hk hW=> ?_
 have f:=nd f0 fw
 unfold Wf at f
 refine st ?_
 refine oW hlv (z3A F.name (by omega) _ (fw.at hlv hk hW) (by omega)) fun y n L hW=> ?_
 refine oW hlv (Tn g4 (by omega) _ (fw.at hlv hk hW) (by simp;omega)) fun y n L hW=> ?_
 have hg:g≤lv:=fw.2.2.2.2.2
 refine oc (ku F.result hwf.result _ _ _ _ _ (by rw[kB];simp;omega)) fun z t n h1=> ?_
 obtain⟨zs,hz,hc⟩:=h1.elems
 refine aW (hW.push t) hc (by simp;omega) (fun y n o L hW=> ?_) hz
 refine oW hlv (z22 F.slots _ q0 hfo _ (fw.at hlv hk hW) (by simp;omega)) fun y n L hW=> ?_
 refine oW hlv (qR F.code.length (by omega) _ (fw.at hlv hk hW) (by simp;omega)) fun y n L hW=> ?_
 obtain⟨B,hB,hW⟩: ∃B,b++said F.name++minimal F.params.toNat++minimal (zigzag F.result)++flds F.slots F.slots.length++minimal F.code.length=B∧WrL (i+1) y B L post:=⟨_,rfl,hW⟩
 have hbl:B.length≤800000:=by rw[←hB];simp;omega
 have mc:=q1.max
 refine xs [44] (fun(z:Nat×AV) v S' e c=>S'=rw' S C lv k sp z.2∧z.1≤F.code.length∧v 44= .int .i64 (z.1:Int)∧c=[⟨nb,[.str F.name,.int .i64 F.params,.int .i64 F.result,w0,w1,w2,w3]⟩]∧WrL (i+1) z.2 (B++codes F.code z.1) e post) (fun z=>F.code.length-z.1) (0,y) ?_ ?_
 ·simpa [codes] using hW
 rintro⟨j,y⟩ v S' e nz c ⟨rfl,hj,h12,rfl,hW⟩
 dsimp only at*
 have m6:=XB g9 hwf.code j hj
 refine ifs (fun h=> ?_) fun h=> ?_
 ·have hj:j<F.code.length:=by omega
  have hm:=w04 hj
  have hwi:=z0Y (hwf.code _ hm)
  have hc6:=Qk (g9 _ hm) hwi
  refine op (z17 F.code[j] (hwf.code _ hm).op hwi (g9 _ hm) _ (by simp[kB];omega)) fun z t n h1=> ?_
  obtain⟨zs,hz,hc⟩:=h1.elems
  refine aW (hW.push t) hc (by simp;omega) (fun y n o L hW=> ?_) hz
  refine⟨(j+1,y),by dsimp only;omega,rfl,by dsimp only;omega,by dsimp only;omega,?_⟩
  rw[codes,←VZ hj,←w16]
  exact hW
 ·obtain rfl:j=F.code.length:=by omega
  have f:=nd f<|nd (show evLen (.list 1 .full [w2,w3])=some (.int .i64 2) from rfl)<|nd (show evIaddr 1 (.list 1 .full [w2,w3]) (.int .i64 ((0:Nat):Int))=some (.ro w2.cells) from rfl) (show evIaddr 1 (.list 1 .full [w2,w3]) (.int .i64 (((0:Nat):Int)+1))=some (.ro w3.cells) from rfl)
  refine st ?_
  refine xs [72] (fun(z:Nat×AV) v S' e c=>S'=rw' S C lv k sp z.2∧z.1≤2∧v 72= .int .i64 (z.1:Int)∧c=[⟨nb,[.str F.name,.int .i64 F.params,.int .i64 F.result,w0,w1,w2,w3]⟩]∧WrL (i+1) z.2 (B++codes F.code F.code.length++(if z.1=0 then [] else if z.1=1 then cod8 F.sizes F.sizes.length else cod8 F.sizes F.sizes.length++cod8 F.lives F.lives.length)) e post) (fun z=>2-z.1) (0,y) ?_ ?_
  ·simpa using hW
  rintro⟨q,y⟩ v S' e nz c ⟨rfl,hq,h12,rfl,hW⟩
  dsimp only at*
  refine ifs (fun h=> ?_) fun h=> ?_
  ·have hj:q=0∨q=1:=by omega
   rcases hj with rfl|rfl
   all_goals refine st ?_
   ·refine op (Y4 F.sizes w2 q2 F.code.length g12 (by omega) (by omega) hwf.sizes (by have:=yC g12 (by omega);omega) _ (by simp[kB];omega)) fun z t n h1=> ?_
    have m7:=tU g12 (by omega) hwf.sizes (by have:=yC g12 (by omega);omega) _ (w08 _)
    have r1:=yC g12 (by omega)
    obtain⟨zs,hz,hc⟩:=h1.elems
    refine aW (hW.push t) hc (by simp;omega) (fun y n o L hW=> ?_) hz
    exact⟨(1,y),by dsimp only;omega,rfl,by dsimp only;omega,rfl,by simpa using hW⟩
   ·refine op (Y4 F.lives w3 q3 F.code.length g13 (by omega) (by omega) hwf.lives (by have:=yC g13 (by omega);omega) _ (by simp[kB];omega)) fun z t n h1=> ?_
    have m7:=tU g12 (by omega) hwf.sizes (by have:=yC g12 (by omega);omega) _ (w08 _)
    have m8:=tU g13 (by omega) hwf.lives (by have:=yC g13 (by omega);omega) _ (w08 _)
    have r1:=yC g12 (by omega)
    have r2:=yC g13 (by omega)
    obtain⟨zs,hz,hc⟩:=h1.elems
    refine aW (hW.push t) hc (by simp;omega) (fun y n o L hW=> ?_) hz
    exact⟨(2,y),by dsimp only;omega,rfl,by dsimp only;omega,rfl,by simpa using hW⟩
  ·obtain rfl:q=2:=by omega
   exact eW hlv hW (by rw[←hB];simp[funB])
end Go.Proofs.W
end
section
namespace Go.Proofs.W
open Go.Vs
theorem z51 (l:List DTyp) (x:AV) (hx:IsSl IsTyp 4 l x) (hv:ValidT l) (hl:l.length≤100) (m:Mem) (hf:m.floor≤m.stk.length+1):
  ∃y1 y2 ts k,CALL tab 214 [x] m=some (.tup [y1,y2],{m with nx:=k,live:=pushToks ts m.live})∧Own IsN 1 y1 (szs (exts 1000000 l)) ts∧Own IsN 1 y2 (als (exts 1000000 l)) ts:=by
 suffices h:Does tab 214 [x] m fun r m'=> ∃y1 y2 ts k,r= .tup [y1,y2]∧m'={m with nx:=k,live:=pushToks ts m.live}∧Own IsN 1 y1 (szs (exts 1000000 l)) ts∧Own IsN 1 y2 (als (exts 1000000 l)) ts by
  obtain⟨z,e1,y1,y2,ts,k,e2,e3,e4⟩:=h
  grind
 refine yq (tT uz) ?_ (Nat.le_of_ble_eq_true rfl)
 obtain⟨stk,cur,nx,live,fl⟩:=m
 dsimp only at hf
 dsimp only[uz,fnOf];simp only[go_sem]
 refine za (α:=Nat) (fun i σ=>i≤l.length∧ ∃nz y1 y2 e,Own2 IsN 1 y1 (szs (exts 1000000 (l.take i))) IsN 1 y2 (als (exts 1000000 (l.take i))) e nz∧heads [0,4,5,6] 0 σ=⟨tmps 75 [(0,x),(4,y1),(5,y2),(6,.int .i64 i)],⟨stk++[cur],[],nz,e::live,fl⟩⟩) (fun i=>l.length-i) 0 ?_ ?_
 ·refine⟨w0b _,nx,.nils,.nils,[],.nil _ _,?_⟩
  rfl
 ·rintro i σ ⟨hi,nz,y1,y2,e,hO,hσ⟩
  rw[hσ]
  clear hσ σ
  dsimp only at hi⊢
  by_cases h:i<l.length
  ·have hfine:=hv i h
   obtain⟨v,e1,q1⟩:=hx.nth h
   have hat:=hx.at .i64 h
   have hsucc:=zc h hx.max
   have hAl:=vg 1000000 l i hi
   have hrs:=jz 1000000 h
   have hgood:=Xz (far:=1000000) (by omega) hv i hi
   have hflen:=tR hfine
   have hlx:=hx.len
   generalize hout:exts 1000000 (l.take i)=A at*
   generalize ht:l[i]=t at*
   clear ht
   obtain⟨kind,elem,len,fields⟩:=t
   dsimp only at e1 q1 hflen
   simp only[go_sem,G6,G7,G8,w02,h,hlx,hat,e1]
   by_cases k1:kind=1
   ·subst k1
    have hV:((1:Nat),(1:Nat))=ext1 1000000 A ⟨1,elem,len,fields⟩:=rfl
    simp only[go_sem,G6,G8]
    refine hO.xv1 (zd · _ _ _) (zZ (R:=IsN) (x:=1) rfl) (by simp[szs];omega) fun y1' n1 e1' hO1=> ?_
    simp only[go_sem,G6,G8]
    refine hO1.xv2 (zd · _ _ _) (zZ (R:=IsN) (x:=1) rfl) (by simp[als];omega) fun y2' n2 e2' hO2=> ?_
    simp only[go_sem,G6,G8,hsucc]
    refine⟨i+1,by omega,h,n2,y1',y2',e2',?_,rfl⟩
    rw[hrs,←hV]
    simpa [szs,als] using hO2
   have k1':(kind==1)=false:=by simpa using k1
   by_cases k3:kind=3
   ·subst k3
    have hV:((16:Nat),(8:Nat))=ext1 1000000 A ⟨3,elem,len,fields⟩:=rfl
    simp only[go_sem,G6,G8,k1']
    refine hO.xv1 (zd · _ _ _) (zZ (R:=IsN) (x:=16) rfl) (by simp[szs];omega) fun y1' n1 e1' hO1=> ?_
    simp only[go_sem,G6,G8]
    refine hO1.xv2 (zd · _ _ _) (zZ (R:=IsN) (x:=8) rfl) (by simp[als];omega) fun y2' n2 e2' hO2=> ?_
    simp only[go_sem,G6,G8,hsucc]
    refine⟨i+1,by omega,h,n2,y1',y2',e2',?_,rfl⟩
    rw[hrs,←hV]
    simpa [szs,als] using hO2
   have k3':(kind==3)=false:=by simpa using k3
   by_cases k7:kind=7
   ·subst k7
    have hV:((24:Nat),(8:Nat))=ext1 1000000 A ⟨7,elem,len,fields⟩:=rfl
    simp only[go_sem,G6,G8,k1',k3']
    refine hO.xv1 (zd · _ _ _) (zZ (R:=IsN) (x:=24) rfl) (by simp[szs];omega) fun y1' n1 e1' hO1=> ?_
    simp only[go_sem,G6,G8]
    refine hO1.xv2 (zd · _ _ _) (zZ (R:=IsN) (x:=8) rfl) (by simp[als];omega) fun y2' n2 e2' hO2=> ?_
    simp only[go_sem,G6,G8,hsucc]
    refine⟨i+1,by omega,h,n2,y1',y2',e2',?_,rfl⟩
    rw[hrs,←hV]
    simpa [szs,als] using hO2
   have k7':(kind==7)=false:=by simpa using k7
   by_cases k6:kind=6
   ·subst k6
    have hel:=hflen.2.2.2.1 rfl
    have hle:=hflen.2.1 rfl
    have hj:elem.toNat<A.length:=by omega
    have hge:=hgood.get hj
    have hV:(min 1000000 (len.toNat*(A.getD elem.toNat (0,0)).1),(A.getD elem.toNat (0,0)).2)=ext1 1000000 A ⟨6,elem,len,fields⟩:=rfl
    have ht1:elem.toNat<(szs A).length:=by simpa [szs] using hj
    have ht2:elem.toNat<(als A).length:=by simpa [als] using hj
    have s1:nth y1 elem.toNat= .int .i64 ((szs A)[elem.toNat]:Nat):=hO.l.nth ht1
    have s2:nth y2 elem.toNat= .int .i64 ((als A)[elem.toNat]:Nat):=hO.r.nth ht2
    have a1:=hO.l.at .i64 ht1
    have a2:=hO.r.at .i64 ht2
    rw[Int.toNat_of_nonneg hel.1] at a1 a2
    rw[z1l hj] at s1
    rw[z5D hj] at s2
    generalize A.getD elem.toNat (0,0)=pr at*
    have hmul:len.toNat*pr.1≤16*1048576:=Nat.mul_le_mul (by omega) hge.1
    have ew:IntKind.i64.wrap (len*(pr.1:Int))=((len.toNat*pr.1:Nat):Int):=by
     have:len*(pr.1:Int)=((len.toNat*pr.1:Nat):Int):=by rw[Int.natCast_mul,Int.toNat_of_nonneg (by omega)]
     rw[this,z7 (by omega) (by omega)]
    simp only[go_sem,G6,G8,k1',k3',k7',hat,e1,a1,s1,a2,s2,ew,z1G]
    refine hO.xv1 (zd · _ _ _) (zZ (R:=IsN) (x:=min 1000000 (len.toNat*pr.1)) rfl) (by simp[szs];omega) fun y1' n1 e1' hO1=> ?_
    simp only[go_sem,G6,G8]
    refine hO1.xv2 (zd · _ _ _) (zZ (R:=IsN) (x:=pr.2) rfl) (by simp[als];omega) fun y2' n2 e2' hO2=> ?_
    simp only[go_sem,G6,G8,hsucc]
    refine⟨i+1,by omega,h,n2,y1',y2',e2',?_,rfl⟩
    rw[hrs,←hV]
    simpa [szs,als] using hO2
   have k6':(kind==6)=false:=by simpa using k6
   by_cases k5:kind=5
   ·subst k5
    have hV:togEnd 1000000 A fields=ext1 1000000 A ⟨5,elem,len,fields⟩:=rfl
    obtain⟨yt,ts,kk,hcall,_⟩:=z3z A hgood y1 y2 (hO.l.sl (by simp[szs];omega)) (hO.r.sl (by simp[als];omega)) fields v q1 (by rw[hAl];exact hflen.2.2.2.2.2) (by omega) ⟨stk++[cur],[],nz,e::live,fl⟩
    have hnx:=z9K hcall (by simp;omega)
    simp only[go_sem,G6,G8,k1',k3',k7',k6',hat,e1,hcall]
    have hO:=hO.mono (e':=ts++e) (fun t ht=>w56 _ ht) hnx
    generalize togEnd 1000000 A fields=pr at*
    refine hO.xv1 (zd · _ _ _) (zZ (R:=IsN) (x:=pr.1) rfl) (by simp[szs];omega) fun y1' n1 e1' hO1=> ?_
    simp only[go_sem,G6,G8]
    refine hO1.xv2 (zd · _ _ _) (zZ (R:=IsN) (x:=pr.2) rfl) (by simp[als];omega) fun y2' n2 e2' hO2=> ?_
    simp only[go_sem,G6,G8,hsucc]
    refine⟨i+1,by omega,h,n2,y1',y2',e2',?_,rfl⟩
    rw[hrs,←hV]
    simpa [szs,als] using hO2
   have k5':(kind==5)=false:=by simpa using k5
   have hV:((8:Nat),(8:Nat))=ext1 1000000 A ⟨kind,elem,len,fields⟩:=by unfold ext1;simp only[k1,k3,k7,k6,k5,if_false]
   simp only[go_sem,G6,G8,k1',k3',k7',k6',k5']
   refine hO.xv1 (zd · _ _ _) (zZ (R:=IsN) (x:=8) rfl) (by simp[szs];omega) fun y1' n1 e1' hO1=> ?_
   simp only[go_sem,G6,G8]
   refine hO1.xv2 (zd · _ _ _) (zZ (R:=IsN) (x:=8) rfl) (by simp[als];omega) fun y2' n2 e2' hO2=> ?_
   simp only[go_sem,G6,G8,hsucc]
   refine⟨i+1,by omega,h,n2,y1',y2',e2',?_,rfl⟩
   rw[hrs,←hV]
   simpa [szs,als] using hO2
  ·have:i=l.length:=by omega
   subst this
   rw[w06] at hO
   simp only[go_sem,G6,G7,G8,w02,h,hx.len]
   rw[jw (by simp only[AV.refs,refsAny,hO.l.refs,hO.r.refs];rfl),z6]
   refine⟨y1,y2,_,_,rfl,rfl,hO.l.filter.mono ?_,hO.r.filter.mono ?_⟩
   ·intro t ht
    simp only[List.mem_filter,AV.toks,toksAll,w1b,List.contains_iff_mem,w0a] at ht⊢
    grind
   ·intro t ht
    simp only[List.mem_filter,AV.toks,toksAll,w1b,List.contains_iff_mem,w0a] at ht⊢
    grind
def agree (a b:Nat):Prop:=a=b∨(256<a∧256<b)
def AgL (A B:List (Nat×Nat)):Prop:=A.length=B.length∧ ∀j,agree (A.getD j (0,0)).1 (B.getD j (0,0)).1∧(A.getD j (0,0)).2=(B.getD j (0,0)).2
theorem Uc {f1 f2 x y:Nat} (h1:256<f1) (h2:256<f2) (h:agree x y):agree (min f1 x) (min f2 y):=by unfold agree at*;omega
theorem z3s {x y a:Nat} (ha:is18 a) (h:agree x y):agree (up x a) (up y a):=by
 rcases h with rfl|⟨h1,h2⟩
 ·exact .inl rfl
 ·have:=Tw (n:=x) ha;have:=Tw (n:=y) ha;exact .inr (by omega)
theorem z6Q {a b c d:Nat} (h:agree a b) (k:agree c d):agree (a+c) (b+d):=by unfold agree at*;omega
theorem z0a {f1 f2:Nat} (h1:256<f1) (h1':f1≤1048576) (h2:256<f2) {A B:List (Nat×Nat)} (hg:GoodP A) (h:AgL A B) {fs:List DField} (hf: ∀f∈fs,0≤f.typ∧f.typ<A.length): ∀k,k≤fs.length→
  agree (tog f1 A (fs.take k)).2.1 (tog f2 B (fs.take k)).2.1∧(tog f1 A (fs.take k)).2.2=(tog f2 B (fs.take k)).2.2
 |0,_=>by simp[tog,agree]
 |k+1,hk=>by
  obtain⟨e1,e2⟩:=z0a h1 h1' h2 hg h hf k (by omega)
  obtain⟨_,_,g3⟩:=Z8 h1' hg hf k (by omega)
  have hfk:=hf _ (w04 (show k<fs.length by omega))
  have hgk:=hg.get (j:=fs[k].typ.toNat) (by omega)
  have hj:=h.2 fs[k].typ.toNat
  rw[Yz f1 A (show k<fs.length by omega),Yz f2 B (show k<fs.length by omega)]
  simp only[togStep]
  rw[←hj.2]
  exact⟨Uc h1 h2 (z6Q (z3s hgk.2 e1) hj.1),by rw[e2]⟩
theorem z4u {f1 f2:Nat} (h1:256<f1) (h1':f1≤1048576) (h2:256<f2) {A B:List (Nat×Nat)} (hg:GoodP A) (h:AgL A B) {n i:Nat} {t:DTyp} (hf:FineT n i t) (hi:A.length=i):
  agree (ext1 f1 A t).1 (ext1 f2 B t).1∧(ext1 f1 A t).2=(ext1 f2 B t).2:=by
 have hl:=tR hf
 unfold ext1
 split
 ·simp[agree]
 ·split
  ·simp[agree]
  ·split
   ·simp[agree]
   ·split
    ·rename_i h6
     have hj:=h.2 t.elem.toNat
     refine⟨Uc h1 h2 ?_,hj.2⟩
     have hlen:=(hl.2.1 h6).1
     rcases hj.1 with e|⟨e,e'⟩
     ·rw[e];exact .inl rfl
     ·have m1:=Nat.mul_le_mul (show 1≤t.len.toNat by omega) (w08 (A.getD t.elem.toNat (0,0)).1)
      have m2:=Nat.mul_le_mul (show 1≤t.len.toNat by omega) (w08 (B.getD t.elem.toNat (0,0)).1)
      exact .inr (by omega)
    ·split
     ·have hfs: ∀f∈t.fields,0≤f.typ∧f.typ<A.length:=by rw[hi];exact hl.2.2.2.2.2
      have:=z0a h1 h1' h2 hg h hfs t.fields.length (w08 _)
      have hgd:=Z8 h1' hg hfs t.fields.length (w08 _)
      rw[w06] at this hgd
      simp only[togEnd]
      rw[←this.2]
      exact⟨Uc h1 h2 (z3s hgd.2.2 this.1),rfl⟩
     ·simp[agree]
theorem Ws {f1 f2:Nat} (h1:256<f1) (h1':f1≤1048576) (h2:256<f2) {l:List DTyp} (hv:ValidT l): ∀i,i≤l.length→AgL (exts f1 (l.take i)) (exts f2 (l.take i))
 |0,_=>by simp[exts,AgL,agree]
 |i+1,hi=>by
  have ih:=Ws h1 h1' h2 hv i (by omega)
  have la:=vg f1 l i (by omega)
  have lb:=vg f2 l i (by omega)
  have he:=z4u h1 h1' h2 (Xz h1' hv i (by omega)) ih (hv i (by omega)) la
  rw[jz f1 (show i<l.length by omega),jz f2 (show i<l.length by omega)]
  refine⟨by simp[la,lb],fun j=> ?_⟩
  by_cases hj:j<i
  ·rw[Xk (by omega),Xk (by omega)];exact ih.2 j
  ·by_cases hj2:j=i
   ·grind
   ·simp only[w05]
    rw[w3c (by simp;omega),w3c (by simp;omega)]
    simp[agree]
def FitsP (l:List DTyp):Prop:= ∀i,i<l.length→((exts 1000000 l).getD i (0,0)).1≤256
theorem z87 {l:List DTyp} (hv:ValidT l) (i:Nat):((exts 1048576 l).getD i (0,0)).1≤256↔((exts 1000000 l).getD i (0,0)).1≤256:=by
 have:=(Ws (f1:=1048576) (f2:=1000000) (by omega) (w08 _) (by omega) hv l.length (w08 _)).2 i
 rw[w06] at this
 unfold agree at this;omega
theorem z2N {m0:Mem} {stk:List (List Blk)} {cur c':List Blk} {nx' fl':Nat} {own:List Nat} {live':List (List Nat)} {k st off len:Nat} {a:Int}:
  ∃bs:List Blk,leave m0 ⟨stk++[cur],c',nx',own::live',fl'⟩ (.tup [.arr (stk++[cur]).length k st off len,.int .i64 a])=some (.tup [.arr stk.length (k+cur.length) st off len,.int .i64 a],⟨stk,cur++bs,nx',live',m0.floor⟩)∧
   ∀ws,c'[k]? =some ⟨st,prs ws⟩→bs[k]? =some ⟨st,prs ws⟩:=by
 have e:own.filter (fun _=>false)=[]:=by simp
 refine⟨c'.map fun b=>⟨b.st,shiftAll (stk++[cur]).length ((stk++[cur]).length-1) cur.length b.cs⟩,?_,?_⟩
 ·unfold leave
  simp only[w59,w4a,Option.some_or,AV.refs,refsAny,beq_self_eq_true,Bool.true_or,if_true,AV.toks,toksAll,w1b,List.contains_nil,e,pushToks,w5a,AV.shift,shiftAll]
  simp
 ·intro ws h
  rw[w1e,h,w07,z0e]
theorem z43 {ws:List (Nat×Nat)} {j:Nat} (h:j<ws.length):takeV false 1 ((prs ws).drop (j*2))=some (.int .i64 ((ws.getD j (0,0)).1:Int)):=by rw[V2 ws j h,WR]
theorem zaG {ws:List (Nat×Nat)} {j:Nat} (h:j<ws.length):takeV false 1 ((prs ws).drop (j*2+1))=some (.int .i64 ((ws.getD j (0,0)).2:Int)):=by
 rw[←List.drop_drop,V2 ws j h];simp[takeV]
theorem z3J (l:List DTyp) (x:AV) (hx:IsSl IsTyp 4 l x) (hw:WfTypes l) (hc:CheckP l) (i:Nat) (hi:i<l.length) (hs:((exts 1048576 l).getD i (0,0)).1≤256) (stk:List (List Blk)) (cur:List Blk) (nx fl:Nat) (live:List (List Nat)):
  ∃bs j st k,CALL tab 187 [x,.int .i64 i] ⟨stk,cur,nx,live,fl⟩=some (.tup [.arr stk.length (cur.length+j) st 0 l.length,.int .i64 0],⟨stk,cur++bs,k,live,fl⟩)∧bs[j]? =some ⟨st,prs (exts 1048576 l)⟩:=by
 suffices h:Does tab 187 [x,.int .i64 i] ⟨stk,cur,nx,live,fl⟩ fun v m'=> ∃bs j st k,v= .tup [.arr stk.length (cur.length+j) st 0 l.length,.int .i64 0]∧m'=⟨stk,cur++bs,k,live,fl⟩∧bs[j]? =some ⟨st,prs (exts 1048576 l)⟩ by
  obtain⟨z,h1,bs,j,st,k,h2,h3,h4⟩:=h
  grind
 refine yq (tT tv) ?_ (Nat.le_of_ble_eq_true rfl)
 have hC:=kA l x hx hw
 rw[Qb hc] at hC
 have hl:=hc.1
 simp only[tv,go_sem,G3,G6,G8,(hC _).eq,show((0:Int) !=0)=false from rfl,hx.len,show¬((i:Int)<0) by omega,show¬((i:Int)≥l.length) by omega]
 obtain⟨bs,j,st,k,hcall,hbs⟩:=Z6 l x hx hc.2.1 (by omega) (stk++[cur]) [] (callNx tab 204 [x] ⟨stk++[cur],[],nx,[]::live,fl⟩) fl ([]::live)
 have hel:(exts 1048576 l).length=l.length:=by have:=vg 1048576 l l.length (w08 _);rwa [w06] at this
 have hix:=tG .i64 (p:=(i:Int)) (n:=l.length) (by omega)
 rw[w10] at hix
 simp only[go_sem,G6,G8,hcall,z8,hix,hbs,z43 (ws:=exts 1048576 l) (j:=i) (by omega),show¬((((exts 1048576 l).getD i (0,0)).1:Nat):Int)>256 by omega]
 obtain⟨bs',hbs',hg⟩:=z2N (m0:=⟨stk,cur,nx,live,fl⟩) (stk:=stk) (cur:=cur) (c':=bs) (nx':=k) (own:=[]) (live':=live) (fl':=fl) (k:=j) (st:=st) (off:=0) (len:=l.length) (a:=0)
 rw[hbs',z6]
 grind
theorem z27 (l:List DTyp) (x:AV) (hx:IsSl IsTyp 4 l x) (hw:WfTypes l) (hc:CheckP l) (i:Nat) (hi:i<l.length) (hs: ¬((exts 1048576 l).getD i (0,0)).1≤256) (m:Mem):
  Okv tab 187 [x,.int .i64 i] m (.tup [.nils,.int .i64 16]):=by
 refine ze (tT tv) ?_
 obtain⟨stk,cur,nx,live,fl⟩:=m
 have hC:=kA l x hx hw
 rw[Qb hc] at hC
 have hl:=hc.1
 simp only[tv,go_sem,G3,G6,G8,(hC _).eq,show((0:Int) !=0)=false from rfl,hx.len,show¬((i:Int)<0) by omega,show¬((i:Int)≥l.length) by omega]
 obtain⟨bs,j,st,k,hcall,hbs⟩:=Z6 l x hx hc.2.1 (by omega) (stk++[cur]) [] (callNx tab 204 [x] ⟨stk++[cur],[],nx,[]::live,fl⟩) fl ([]::live)
 have hel:(exts 1048576 l).length=l.length:=by have:=vg 1048576 l l.length (w08 _);rwa [w06] at this
 have hix:=tG .i64 (p:=(i:Int)) (n:=l.length) (by omega)
 rw[w10] at hix
 simp only[go_sem,G6,G8,hcall,z8,hix,hbs,z43 (ws:=exts 1048576 l) (j:=i) (by omega),show((((exts 1048576 l).getD i (0,0)).1:Nat):Int)>256 by omega]
 rw[z5 rfl rfl,z6]
 simp
theorem Ys (l:List DTyp) (x:AV) (hx:IsSl IsTyp 4 l x) (hw:WfTypes l) (hc:CheckP l) (i:Nat) (hi:i<l.length) (hs:((exts 1048576 l).getD i (0,0)).1≤256) (m:Mem):
  Okv tab 122 [x,.int .i64 i] m (.tup [.int .i64 (((exts 1048576 l).getD i (0,0)).1:Nat),.int .i64 (((exts 1048576 l).getD i (0,0)).2:Nat),.int .i64 0]):=by
 obtain⟨stk,cur,nx,live,fl⟩:=m
 refine ze (tT tV) ?_
 obtain⟨bs,j,st,k,hcall,hbs⟩:=z3J l x hx hw hc i hi hs (stk++[cur]) [] nx fl ([]::live)
 have hel:(exts 1048576 l).length=l.length:=by have:=vg 1048576 l l.length (w08 _);rwa [w06] at this
 have hix:=tG .i64 (p:=(i:Int)) (n:=l.length) (by omega)
 rw[w10] at hix
 simp only[tV,go_sem,G3,G6,G8,hcall,show((0:Int) !=0)=false from rfl,z8,hix,hbs,z43 (ws:=exts 1048576 l) (j:=i) (by omega),zaG (ws:=exts 1048576 l) (j:=i) (by omega)]
 rw[z5 rfl rfl,z6]
 simp
def sizeErr (l:List DTyp) (i:Nat):Int:=if((exts 1048576 l).getD i (0,0)).1≤256 then 0 else 16
theorem QP (l:List DTyp) (x:AV) (hx:IsSl IsTyp 4 l x) (hw:WfTypes l) (hc:CheckP l) (i:Nat) (hi:i<l.length) (m:Mem):
  ∃a b,Okv tab 122 [x,.int .i64 i] m (.tup [a,b,.int .i64 (sizeErr l i)]):=by
 obtain⟨stk,cur,nx,live,fl⟩:=m
 by_cases hs:((exts 1048576 l).getD i (0,0)).1≤256
 ·exact⟨_,_,by have:=Ys l x hx hw hc i hi hs ⟨stk,cur,nx,live,fl⟩;rwa [show sizeErr l i=0 by unfold sizeErr;rw[if_pos hs]]⟩
 ·refine⟨.int .i64 0,.int .i64 0,?_⟩
  refine ze (tT tV) ?_
  simp only[tV,go_sem,G3,G6,G8,(z27 l x hx hw hc i hi hs _).eq,show((16:Int) !=0)=true from rfl]
  rw[z5 rfl rfl,z6]
  exact⟨⟨_,rfl⟩,by unfold sizeErr;rw[if_neg hs]⟩
end Go.Proofs.W
end
section
namespace Go.Proofs.W
open Go.Vs
attribute [local go_sem high] zw y9
attribute [local go_sem ↓] w07 w19
attribute [local go_sem low] Yc Yt Yf Yut Yuf xA xB xy xz
attribute [local go_sem 2000] zP
attribute [local go_sem] ql qj qm qk ye zU yB zY yd zA xr xp xo hd kep xm w02 AV.bool.injEq AV.int.injEq not_true_eq_false not_false_eq_true true_implies false_implies and_true true_and implies_true zu zN zM zt zO zC zm zi zr zG zF zq zH zE zl zj w10 zI zJ yz w2b evShift IntKind.bits zQ zK zL z7 zf zV wrap_u32 w18 xx xu allLen zn AV.tup.injEq List.cons.injEq AV.agg.injEq yc ya evBuild xq zS zx zR eqC0 eqC1 eqC2 zT w25 w24
attribute [go_sem] ZW
def FineI (m:DImage):Prop:=CheckP m.types∧m.texts.length≤32∧1≤m.funcs.length∧m.funcs.length≤32∧FitsP m.types∧(∀t∈m.texts,t.length≤64)∧(∀f∈m.funcs,FuncP m.types.length f)∧(m.funcs.map DFunc.name).Nodup
theorem Ta {l:List DTyp}:err04 l=0↔CheckP l:=by
 by_cases h:CheckP l
 ·simp[Qb h,h]
 ·simp[ZK h,h]
theorem VU {α β:Type} {l:List α} {g:α→β}:(l.map g).Nodup↔ ∀i j (hi:i<l.length) (hj:j<l.length),i<j→g l[i]≠g l[j]:=by
 rw[List.Nodup,List.pairwise_iff_getElem]
 simp
theorem To (l:List DTyp) (x:AV) (hx:IsSl IsTyp 4 l x) (hw:WfTypes l) (hc:CheckP l) (i:Nat) (hi:i<l.length) (m:Mem):OkT tab 122 [x,.int .i64 i] m fun r ts _=>ts=[]∧ ∃a b,r= .tup [a,b,.int .i64 (sizeErr l i)]:=by
 obtain⟨a,b,k,h⟩:=QP l x hx hw hc i hi m
 exact⟨_,[],k,by rw[h,xM];rfl,rfl,a,b,rfl⟩
theorem z1b (d:DImage) (x:AV) (hx:IsImage d x) (hw:WfImage d) (m:Mem) (hfl:m.floor≤m.stk.length+1):Okv tab 223 [x] m (.bool (pb (FineI d))):=by
 obtain⟨v0,v1,v2,rfl,h0,h1,h2⟩:=hx
 obtain⟨_,_,_,_,hq⟩:=fnsV h2
 have f:=nd h0.co<|nd h1.co<|nd h2.co<|nd h0.z<|nd h1.z<|nd h2.z<|nd (strV h1)<|nd (fun j hj=>nd (hq j hj).1<|nd (hq j hj).2.1.co<|nd (hq j hj).2.2.1.co<|nd (hq j hj).2.2.2.1.co (hq j hj).2.2.2.2.co)<|nd (fun m=>(kA d.types v0 h0 hw.types m).eq)<|nd ZA jp
 have m0:=h0.max
 have m1:=h1.max
 have m2:=h2.max
 refine okz (tT ZW) fun s c x v g e=> ?_
 subst e
 simp at hfl
 repeat' first|refine ifs ?_ ?_|intro
 rotate_right
 ·have hc:CheckP d.types:=Ta.1 (by simpa using ‹¬¬err04 d.types=0›)
  have hz:=fun i=>z87 hc.2.1 i
  refine xn 37 d.types.length [] (fun i _ e=>e=[]∧ ∀j,j<i→((exts 1000000 d.types).getD j (0,0)).1≤256) 0 ?_ fun i v e nz hi hp=> ?_
  ·simp
  obtain⟨rfl,hp⟩:=hp
  refine ifs (fun h=> ?_) fun h=> ?_
  ·refine ot (To d.types v0 h0 hw.types hc i (by omega) _) fun r t k hr=> ?_
   obtain⟨rfl,a,b,rfl⟩:=hr
   refine st ?_
   repeat' first|refine ifs ?_ ?_|intro
   all_goals
    clear f
    try simp only[sizeErr,hz,u4,uM,FineI,FitsP] at*
    grind
  refine xn 54 d.texts.length [] (fun i _ e=>e=[]∧ ∀j (hj:j<d.texts.length),j<i→d.texts[j].length≤64) 0 ?_ fun i v e nz hi hp=> ?_
  ·simp
  repeat' first|refine ifs ?_ ?_|intro
  rotate_right
  ·refine xg [66] (fun(i:Nat) v e b=>i≤d.funcs.length∧v 66= .int .i64 (i:Int)∧b=[⟨x,[v0,v1,v2]⟩,⟨nz,[.tup (ents ((d.funcs.map DFunc.name).take i))]⟩]∧(∀j (hj:j<d.funcs.length),j<i→FuncP d.types.length d.funcs[j])∧ ∀j k (hj:j<d.funcs.length) (hk:k<d.funcs.length),j<k→k<i→d.funcs[j].name≠d.funcs[k].name) (fun i=>d.funcs.length-i) 0 ?_ ?_
   ·simp[ents]
   rintro i v e nz' b ⟨hi,h66,rfl,hp,hnd⟩
   refine ifs (fun h=> ?_) fun h=> ?_
   ·have hj:i<d.funcs.length:=by grind
    have hk:=qI DFunc.name hj
    refine ifs (fun h=> ?_) fun hm=> ?_
    rotate_left
    ·rw[u4] at hm
     have f:=nd f (jp _ _ hm)
     refine ow (VF d.types v0 h0 d.funcs[i] _ ⟨_,_,_,_,rfl,(hq i hj).2⟩ (hw.funcs _ (w04 hj)) _ (by simp;omega)) ?_
     repeat' first|refine ifs ?_ ?_|intro
     ·refine⟨i+1,by omega,by omega,?_⟩
      rw[hk]
      clear f
      simp only[u4,uM,List.mem_take_iff_getElem] at*
      grind
     clear f
     simp only[u4,uM,FineI,w4d] at*
     grind
    all_goals
     clear f
     simp only[u4,uM,FineI,FitsP,VU,List.mem_take_iff_getElem] at*
     grind
   all_goals
    clear f
    try simp only[u4,uM,FineI,FitsP,VU,w4d] at*
    grind
  all_goals
   clear f
   try simp only[u4,uM,FineI,FitsP,w4d] at*
   grind
 all_goals
  clear f
  try simp only[u4,uM,FineI,Ta] at*
  grind
end Go.Proofs.W
end
section
namespace Go.Proofs.W
open Go.Vs
def txt (l:List (List UInt8)) (k:Nat):List UInt8:=l.getD k []
theorem UY {l:List (List UInt8)} {j:Nat} (h:j<l.length):l[j]=txt l j:=by simp[txt,w05,h]
def texB (l:List (List UInt8)):Nat→List UInt8
 |0=>minimal l.length
 |k+1=>texB l k++said (txt l k)
def fn0:DFunc:=⟨[],0,0,[],[],[],[]⟩
def fnAt (l:List DFunc) (k:Nat):DFunc:=l.getD k fn0
theorem YM {l:List DFunc} {j:Nat} (h:j<l.length):l[j]=fnAt l j:=by simp[fnAt,w05,h]
def funs (l:List DFunc):Nat→List UInt8
 |0=>minimal l.length
 |k+1=>funs l k++funB (fnAt l k)
def codI (d:DImage):List UInt8:=typs d.types d.types.length++(texB d.texts d.texts.length++funs d.funcs d.funcs.length)
noncomputable def err09 (d:DImage):Int:=if pb (FineI d) then(if(codI d).length>20000 then 4 else 0) else 8
theorem WQ {l:List (List UInt8)} (h: ∀t∈l,t.length≤64) (hl:l.length≤32): ∀k,k≤l.length→(texB l k).length≤10+74*k
 |0,_=>z9 (by omega)
 |k+1,hk=>by
  have ih:=WQ h hl k (by omega)
  have h1:=h _ (w04 (show k<l.length by omega))
  rw[UY (by omega)] at h1
  have:=qS (s:=txt l k) (by omega)
  simp only[texB,w0e];omega
theorem z86 {n:Nat} {f:DFunc} (h:FuncP n f) (hn:n≤32) (hw:WfFunc f):(funB f).length≤15000:=by
 have hfo:=Q2 h hn
 obtain⟨⟨g1,g2,g3,g4,g5,g6,g7⟩,g8,g9,g10,g11,g12,g13⟩:=h
 have hnl:=Zb g1
 have m1:=qS (s:=f.name) (by omega)
 have m2:=z9 (n:=f.params.toNat) (by omega)
 have m3:=z9 (x4 hw.result)
 have m4:=qU hfo f.slots.length (w08 _)
 have m5:=z9 (n:=f.code.length) (by omega)
 have m6:=XB g9 hw.code f.code.length (w08 _)
 have r1:=yC g12 (by omega)
 have r2:=yC g13 (by omega)
 have m7:=tU g12 (by omega) hw.sizes (by omega) f.sizes.length (w08 _)
 have m8:=tU g13 (by omega) hw.lives (by omega) f.lives.length (w08 _)
 have hfo16:=hfo.1
 unfold funB
 grind
theorem Q1 {n:Nat} {l:List DFunc} (h: ∀f∈l,FuncP n f) (hn:n≤32) (hw: ∀f∈l,WfFunc f) (hl:l.length≤32): ∀k,k≤l.length→(funs l k).length≤10+15000*k
 |0,_=>z9 (by omega)
 |k+1,hk=>by
  have ih:=Q1 h hn hw hl k (by omega)
  have hm:=w04 (show k<l.length by omega)
  have:=z86 (h _ hm) hn (hw _ hm)
  rw[YM (by omega)] at this
  simp only[funs,w0e];omega
theorem Qr {S:List (List Blk)} {C:List Blk} {nz fl st:Nat} {e:List Nat} {live:List (List Nat)} {y:AV} {b:List UInt8} (hC:C[1]? =some ⟨st,[y]⟩) (hf:fl≤S.length) (ho:Own IsByte 1 y b e):At ⟨S,C,nz,e::live,fl⟩ S.length 1 st 0 y b live:=
 ⟨rfl,by simp[Mem.blk,Mem.row,hC],hf,[],e,rfl,rfl,ho⟩
theorem Yu (d:DImage) (x:AV) (hx:IsImage d x) (hw:WfImage d) (m:Mem) (hfl:m.floor≤m.stk.length+1):Okp IsByte 1 tab 155 [x] m (if err09 d=0 then codI d else []) (err09 d):=by
 refine We (tT jY) ?_
 obtain⟨stk,cur,nx,live,fl⟩:=m
 dsimp only at hfl
 have hfl':fl≤(stk++[cur]).length+1:=by simp;omega
 have hfl0:fl≤(stk++[cur]).length:=by simp;omega
 have hx':=hx
 have hag:=hx.agg.1
 have hF:=fun c nz lv=>(z1b d x hx hw ⟨stk++[cur],c,nz,lv,fl⟩ hfl').eq
 obtain⟨types,texts,funcs⟩:=d
 obtain⟨v0,v1,v2,rfl,h0,h1,h2⟩:=hx'
 dsimp only at h0 h1 h2
 simp only[jY,go_sem,G3,G6,G8,hF]
 by_cases hfi:FineI ⟨types,texts,funcs⟩
 case neg=>
  have he:err09 ⟨types,texts,funcs⟩=8:=by unfold err09;rw[zk hfi];rfl
  simp only[go_sem,G6,G8,zk hfi]
  rw[he,if_neg (by decide)]
  exact tS (.nil _)
 simp only[go_sem,G6,G8,yn hfi]
 have he:err09 ⟨types,texts,funcs⟩=if(codI ⟨types,texts,funcs⟩).length>20000 then 4 else 0:=by unfold err09;rw[yn hfi];rfl
 obtain⟨hc,a2,a3,a4,a5,a6,a7,a8⟩:=hfi
 dsimp only at hc a2 a3 a4 a5 a6 a7 a8
 have m1:=WP hc.2.1 hc.1 types.length (w08 _)
 have hcl:=hc.1
 generalize hz0:callNx tab 223 [.agg [v0,v1,v2]] ⟨stk++[cur],[⟨nx,[v0,v1,v2]⟩],nx+1,[]::live,fl⟩=z0
 obtain⟨y1,n1,l1,hc1,hW1⟩:=z8P types v0 h0 hw.types hc.2.1 hcl _ (Qr (S:=stk++[cur]) (C:=[⟨nx,[v0,v1,v2]⟩,⟨z0,[.nils]⟩]) (nz:=z0+1) (e:=[]) (live:=live) (b:=[]) rfl hfl0 (.nil _)) (by simp)
 rw[Z4] at hc1
 obtain⟨e1,rfl,ho1⟩:=WrL.own hW1
 rw[w2f] at ho1
 obtain⟨y2,n2,l2,hc2,hW2⟩:=qR texts.length (by omega) _ (Qr (S:=stk++[cur]) (C:=[⟨nx,[v0,v1,v2]⟩,⟨z0,[y1]⟩]) (nz:=n1) (e:=e1) (live:=live) rfl hfl0 ho1) (by omega)
 rw[Z4] at hc2
 obtain⟨e2,rfl,ho2⟩:=WrL.own hW2
 simp only[w48,w52] at hc1 hc2
 simp only[go_sem,G3,G6,G8,hc1,h1.len,hc2]
 refine za (α:=Nat) (fun j σ=>j≤texts.length∧ ∃nz y e,Own IsByte 1 y (typs types types.length++texB texts j) e∧heads [1,4,21,22,23] 2 σ=⟨tmps 53 [(1,.ptr (stk++[cur]).length 0 nx 0),(4,.ptr (stk++[cur]).length 1 z0 0),(21,v1),(22,.int .i64 texts.length),(23,.int .i64 j)],⟨stk++[cur],[⟨nx,[v0,v1,v2]⟩,⟨z0,[y]⟩],nz,e::live,fl⟩⟩) (fun j=>texts.length-j) 0 ?_ ?_
 ·refine⟨w0b _,n2,y2,e2,ho2,?_⟩
  rfl
 ·rintro j σ ⟨hj,nz,y,e,ho,hσ⟩
  rw[hσ]
  clear hσ σ
  dsimp only at hj⊢
  by_cases h:j<texts.length
  ·have ht:nth v1 j= .str (txt texts j):=by
    have:IsStr texts[j] (nth v1 j):=h1.nth h
    rw[UY h] at this;exact this
   have hatv:=h1.at .i64 h
   have hsucc:=zc h h1.max
   have htl:=WQ a6 a2 j (by omega)
   have hlt:=a6 _ (w04 h)
   rw[UY h] at hlt
   obtain⟨y3,n3,l3,hc3,hW3⟩:=z3A (txt texts j) (by omega) _ (Qr (S:=stk++[cur]) (C:=[⟨nx,[v0,v1,v2]⟩,⟨z0,[y]⟩]) (nz:=nz) (e:=e) (live:=live) rfl hfl0 ho) (by simp only[w0e];omega)
   rw[Z4] at hc3
   obtain⟨e3,rfl,ho3⟩:=WrL.own hW3
   simp only[w48,w52] at hc3
   simp only[go_sem,G6,G7,G8,w02,h,hatv,ht,hc3,hsucc]
   refine⟨j+1,by omega,h,n3,y3,e3,?_,rfl⟩
   rw[texB,←w16];exact ho3
  ·have:j=texts.length:=by omega
   subst this
   have m2:=WQ a6 a2 texts.length (w08 _)
   obtain⟨y3,n3,l3,hc3,hW3⟩:=qR funcs.length (by omega) _ (Qr (S:=stk++[cur]) (C:=[⟨nx,[v0,v1,v2]⟩,⟨z0,[y]⟩]) (nz:=nz) (e:=e) (live:=live) rfl hfl0 ho) (by simp only[w0e];omega)
   rw[Z4] at hc3
   obtain⟨e3,rfl,ho3⟩:=WrL.own hW3
   simp only[w48,w52] at hc3
   simp only[go_sem,G3,G6,G7,G8,w02,h,h2.len,hc3]
   refine za (α:=Nat) (fun j σ=>j≤funcs.length∧ ∃nz y e,Own IsByte 1 y (typs types types.length++texB texts texts.length++funs funcs j) e∧heads [4,35,36,37] 2 σ=⟨tmps 53 [(4,.ptr (stk++[cur]).length 1 z0 0),(35,v2),(36,.int .i64 funcs.length),(37,.int .i64 j)],⟨stk++[cur],[⟨nx,[v0,v1,v2]⟩,⟨z0,[y]⟩],nz,e::live,fl⟩⟩) (fun j=>funcs.length-j) 0 ?_ ?_
   ·refine⟨w0b _,n3,y3,e3,ho3,?_⟩
    rfl
   ·rintro j σ ⟨hj,nz,y,e,ho,hσ⟩
    rw[hσ]
    clear hσ σ
    dsimp only at hj⊢
    by_cases h:j<funcs.length
    ·have hmem:=w04 h
     have hfp:=a7 _ hmem
     have hwf:=hw.funcs _ hmem
     have hfn:IsFunc funcs[j] (nth v2 j):=h2.nth h
     rw[YM h] at hfp hwf hfn
     obtain⟨u0,u1,u2,u3,e5,k0,k1,k2,k3⟩:=hfn
     have hfn:IsFunc (fnAt funcs j) (nth v2 j):=⟨u0,u1,u2,u3,e5,k0,k1,k2,k3⟩
     rw[e5] at hfn
     have hatv:=h2.at .i64 h
     have hsucc:=zc h h2.max
     have hfl2:=Q1 a7 hcl hw.funcs a4 j (by omega)
     obtain⟨y4,n4,l4,hc4,hW4⟩:=z3G (fnAt funcs j) _ hfn hwf types.length hcl hfp _ (Qr (S:=stk++[cur]) (C:=[⟨nx,[v0,v1,v2]⟩,⟨z0,[y]⟩,⟨nz,[.str (fnAt funcs j).name,.int .i64 (fnAt funcs j).params,.int .i64 (fnAt funcs j).result,u0,u1,u2,u3]⟩]) (nz:=nz+1) (e:=e) (live:=live) rfl hfl0 ho) (by simp only[w0e];omega)
     rw[Z4] at hc4
     obtain⟨e4,rfl,ho4⟩:=WrL.own hW4
     simp only[w48,w52] at hc4
     simp only[go_sem,G3,G6,G7,G8,w02,h,hatv,e5,k0.one,k1.one,k2.one,k3.one,hc4,show((0:Int) !=0)=false from rfl,hsucc]
     refine⟨j+1,by omega,h,n4,y4,e4,?_,rfl⟩
     rw[funs,←w16];exact ho4
    ·have:j=funcs.length:=by omega
     subst this
     have hcod:typs types types.length++texB texts texts.length++funs funcs funcs.length=codI ⟨types,texts,funcs⟩:=by unfold codI;rw[w16]
     rw[hcod] at ho
     rw[he]
     by_cases hbig:(codI ⟨types,texts,funcs⟩).length>20000
     ·simp only[go_sem,G6,G7,G8,w02,h,ho.len,show((codI ⟨types,texts,funcs⟩).length:Int)>20000 by omega]
      rw[if_pos hbig,if_neg (by decide)]
      exact tS (.nil _)
     ·simp only[go_sem,G6,G7,G8,w02,h,ho.len,show¬((codI ⟨types,texts,funcs⟩).length:Int)>20000 by omega]
      rw[if_neg hbig,if_pos rfl]
      exact tS ho
theorem XS (d:DImage) (x:AV) (hx:IsImage d x) (hw:WfImage d) (m:Mem) (hfl:m.floor≤m.stk.length+1):Okv tab 82 [x] m (.int .i64 (err09 d)):=by
 refine ze (tT kP) ?_
 obtain⟨stk,cur,nx,live,fl⟩:=m
 dsimp only at hfl
 have hfl':fl≤(stk++[cur]).length+1:=by simp;omega
 have hag:=hx.agg
 have hE:=fun c nz lv=>Yu d x hx hw ⟨stk++[cur],c,nz,lv,fl⟩ hfl'
 obtain⟨v0,v1,v2,rfl,_⟩:=hx
 simp only[kP,go_sem,G3,G6,G8]
 refine(hE _ _ _).xv fun yb ts nb hob=> ?_
 simp only[go_sem,G6,G8]
 rw[z5 rfl rfl,z6]
 simp
end Go.Proofs.W
end
section
namespace Go.Proofs.W
open Go.Vs
attribute [local go_sem high] zw y9
attribute [local go_sem ↓] w07 w19
attribute [local go_sem low] Yc Yt Yf Yut Yuf xA xB xy xz
attribute [local go_sem 2000] zP
attribute [local go_sem] ql qj qm qk ye zU yB zY yd zA xr xp xo hd kep xm w02 AV.bool.injEq AV.int.injEq not_true_eq_false not_false_eq_true true_implies false_implies and_true true_and implies_true zu zN zM zt zO zC zm zi zr zG zF zq zH zE zl zj w10 zI zJ yz w2b evShift IntKind.bits zQ zK zL z7 zf zV wrap_u32 w18 xx xu allLen zn AV.tup.injEq List.cons.injEq AV.agg.injEq yc ya evBuild xq zS zx zR eqC0 eqC1 eqC2 zT w25 w24
attribute [go_sem] tf
theorem z77 (l:List DTyp) (x:AV) (hx:IsSl IsTyp 4 l x) (hv:ValidT l) (hl:l.length≤100) (m:Mem) (hf:m.floor≤m.stk.length+1):OkT tab 214 [x] m fun r _ _=> ∃y1 y2,r= .tup [y1,y2]∧IsSl IsN 1 (szs (exts 1000000 l)) y1∧IsSl IsN 1 (als (exts 1000000 l)) y2:=by
 have hel:=vg 1000000 l l.length (w08 _)
 rw[w06] at hel
 obtain⟨y1,y2,ts,k,h,h1,h2⟩:=z51 l x hx hv hl m hf
 exact⟨_,ts,k,h,y1,y2,rfl,h1.sl (by simp[szs];omega),h2.sl (by simp[als];omega)⟩
theorem z15 (d:DImage) (x:AV) (hx:IsImage d x) (hw:WfImage d) (m:Mem) (hfl:m.floor≤m.stk.length+1):Okv tab 153 [x] m (.bool (pb (FineI d))):=by
 obtain⟨v0,v1,v2,rfl,h0,h1,h2⟩:=hx
 obtain⟨_,_,_,_,hq⟩:=fnsV h2
 have f:=nd h0.co<|nd h1.co<|nd h2.co<|nd h0.z<|nd h1.z<|nd h2.z<|nd (strV h1)<|nd (fun j hj=>nd (hq j hj).1<|nd (hq j hj).2.1.co<|nd (hq j hj).2.2.1.co<|nd (hq j hj).2.2.2.1.co (hq j hj).2.2.2.2.co)<|nd (fun m=>(Yg d.types v0 h0 hw.types m).eq) fun j (hj:j<d.funcs.length) m=>(VD d.types v0 h0 d.funcs[j] _ ⟨_,_,_,_,rfl,(hq j hj).2⟩ (hw.funcs _ (w04 hj)) m).eq
 have m0:=h0.max
 have m1:=h1.max
 have m2:=h2.max
 refine okz (tT tf) fun s c x v g e=> ?_
 subst e
 simp at hfl
 repeat' first|refine ifs ?_ ?_|intro
 rotate_right
 ·have hc:CheckP d.types:=Ta.1 (by simpa using ‹¬¬err04 d.types=0›)
  have hel:(exts 1000000 d.types).length=d.types.length:=by have:=vg 1000000 d.types d.types.length (w08 _);rwa [w06] at this
  refine ot (z77 d.types v0 h0 hc.2.1 (by have:=hc.1;omega) _ (by simp;omega)) fun r t k hr=> ?_
  obtain⟨y1,y2,rfl,hs1,hs2⟩:=hr
  have f:=nd f<|nd hs1.z<|nd hs1.co<|nd hs2.co<|nd (show(szs (exts 1000000 d.types)).length=d.types.length by simp[szs,hel]) fun j (hj:j<d.types.length)=>show nth y1 j= .int .i64 (((exts 1000000 d.types).getD j (0,0)).1:Nat) by
   have:=hs1.nth (i:=j) (by simp[szs];omega)
   rw[z1l (by omega)] at this
   exact this
  refine st ?_
  refine xn 5 d.types.length [] (fun i _ _=> ∀j,j<i→((exts 1000000 d.types).getD j (0,0)).1≤256) 0 ?_ fun i v e nz hi hp=> ?_
  ·simp
  repeat' first|refine ifs ?_ ?_|intro
  any_goals refine xn 6 d.texts.length [] (fun i _ _=> ∀j (hj:j<d.texts.length),j<i→d.texts[j].length≤64) 0 ?_ fun i v e nz hi hp=> ?_
  repeat' first|refine ifs ?_ ?_|intro
  any_goals refine xn 7 d.funcs.length [8] (fun i _ _=> ∀j (hj:j<d.funcs.length),j<i→FuncP d.types.length d.funcs[j]∧ ∀k (hk:k<d.funcs.length),k<j→d.funcs[k].name≠d.funcs[j].name) 0 ?_ fun i v e nz hi hp=> ?_
  repeat' first|refine ifs ?_ ?_|intro
  any_goals refine xn 8 i [] (fun k _ _=> ∀j (hj:j<d.funcs.length),j<k→d.funcs[j].name≠d.funcs[i].name) 0 ?_ fun i v e nz hi hp=> ?_
  repeat' first|refine ifs ?_ ?_|intro
  all_goals
   clear f
   try simp only[u4,uM,FineI,FitsP,VU,w4d] at*
   grind
 all_goals
  clear f
  try simp only[u4,uM,FineI,Ta] at*
  grind
attribute [go_sem] vF uq ur
theorem nm {α:Type} {P:α→Prop} {x:α} (h:P x): ∃y,x=y∧P y:=⟨x,rfl,h⟩
theorem VE {n:Int} (h0:0≤n) (h:n<4611686018427387904) (m:Mem):Okl IsByte 1 tab 216 [.int .i64 n] m (minimal n.toNat):=by
 obtain⟨k,rfl⟩:=Int.eq_ofNat_of_zero_le h0
 exact ym k (by omega) m
theorem Yp (l:List DField) (v:AV) (hv:IsSl IsField 2 l v) (hf:FOk l) (m:Mem):Okl IsByte 1 tab 217 [v] m (flds l l.length):=by
 have f:=nd hv.z<|nd hv.co (fieldV hv)
 have h16:=hf.1
 have m0:=hv.max
 refine oklz (tT vF) fun s c x _ g _=> ?_
 refine oc (ym l.length (by omega) _) fun y t k ho=> ?_
 refine xn 4 l.length [3] (fun j v e=>Own IsByte 1 (v 3) (flds l j) e) 0 ?_ fun j v e nz hj ho=> ?_
 ·exact ho
 refine ifs (fun h=> ?_) fun h=> ?_
 ·obtain⟨h1,h2,h3⟩:=hf.at (k:=j) (by omega)
  have hL:=qU hf j hj
  rw[←Zg (by omega)] at h1 h2 h3
  have m1:=qS (s:=l[j].name) (by omega)
  have m2:= @z9 l[j].typ.toNat (by omega)
  have f:=nd f ho.co
  refine st ?_
  refine oc (uP l[j].name (by omega) _) fun y t k h1=> ?_
  refine ob ho h1 (by omega) fun y k e ho=> ?_
  refine oc (VE h2 (by omega) _) fun y t k h1=> ?_
  refine ob ho h1 (by simp;omega) fun y k e ho=> ?_
  exact⟨by omega,by rw[flds,←Zg (by omega),←w16];exact ho⟩
 ·obtain rfl:j=l.length:=by omega
  exact fo ho rfl
theorem XO (d:DImage) (x:AV) (hx:IsImage d x) (hw:WfImage d) (hfi:FineI d) (m:Mem):Okl IsByte 1 tab 154 [x] m (codI d):=by
 obtain⟨v0,v1,v2,rfl,h0,h1,h2⟩:=hx
 obtain⟨hc,a2,a3,a4,a5,a6,a7,a8⟩:=hfi
 have hcl:=hc.1
 obtain⟨_,ht⟩:=typesV h0
 obtain⟨_,_,_,_,hq⟩:=fnsV h2
 have f0:=nd h0.co<|nd h1.co<|nd h2.co<|nd h0.z<|nd h1.z<|nd h2.z<|nd (strV h1)<|nd (fun j hj=>nd (ht j hj).1 (ht j hj).2.co)<|fun j hj=>nd (hq j hj).1<|nd (hq j hj).2.1.z<|nd (hq j hj).2.2.1.z<|nd (hq j hj).2.1.co<|nd (hq j hj).2.2.1.co<|nd (hq j hj).2.2.2.1.co (hq j hj).2.2.2.2.co
 have f:=f0
 have m0:=h0.max
 have m1:=h1.max
 have m2:=h2.max
 refine oklz (tT uq) fun s c x _ g _=> ?_
 refine oc (ym d.types.length (by omega) _) fun y t k ho=> ?_
 refine xn 4 d.types.length [3] (fun j v e=>Own IsByte 1 (v 3) (typs d.types j) e) 0 ?_ fun j v e nz hj ho=> ?_
 ·exact ho
 have hL:=WP hc.2.1 hcl j hj
 refine ifs (fun h=> ?_) fun h=> ?_
 ·have hj:j<d.types.length:=by omega
  have hF:=hc.2.1 j hj
  have hk:=(hw.types _ (w04 hj)).kind
  have hn:=tR hF
  have hfo:=Q6 hF (by omega)
  have f:=nd f0 ho.co
  refine st ?_
  refine oa ho (byI (by unfold inU8 at hk;omega)) (by simp;omega) fun y k e ho=> ?_
  have hT: ∀B,typB d.types[j]=B→typs d.types (j+1)=typs d.types j++[UInt8.ofNat d.types[j].kind.toNat]++B:=fun B h=>by
   rw[typs,←VM hj,h,w16]
  refine ifs (fun k4=> ?_) fun k4=> ?_
  ·obtain⟨q1,q2,_⟩:=hn.2.2.1 (.inl k4)
   have m1:= @z9 d.types[j].elem.toNat (by omega)
   refine oc (VE q1 (by omega) _) fun y t k h1=> ?_
   refine ob ho h1 (by simp;omega) fun y k e ho=> ?_
   exact⟨hj,by rw[hT (minimal d.types[j].elem.toNat) (by unfold typB;rw[if_pos (.inl k4)])];exact ho⟩
  refine ifs (fun k7=> ?_) fun k7=> ?_
  ·obtain⟨q1,q2,_⟩:=hn.2.2.1 (.inr k7)
   have m1:= @z9 d.types[j].elem.toNat (by omega)
   refine oc (VE q1 (by omega) _) fun y t k h1=> ?_
   refine ob ho h1 (by simp;omega) fun y k e ho=> ?_
   exact⟨hj,by rw[hT (minimal d.types[j].elem.toNat) (by unfold typB;rw[if_pos (.inr k7)])];exact ho⟩
  have k47: ¬(d.types[j].kind=4∨d.types[j].kind=7):=by omega
  refine ifs (fun k6=> ?_) fun k6=> ?_
  ·obtain⟨q1,q2,_⟩:=hn.2.2.2.1 k6
   have q3:=hn.2.1 k6
   have m1:= @z9 d.types[j].elem.toNat (by omega)
   have m2:= @z9 d.types[j].len.toNat (by omega)
   refine oc (VE q1 (by omega) _) fun y t k h1=> ?_
   refine ob ho h1 (by simp;omega) fun y k e ho=> ?_
   refine oc (VE (by omega) (by omega) _) fun y t k h1=> ?_
   refine ob ho h1 (by simp;omega) fun y k e ho=> ?_
   exact⟨hj,by rw[hT _ (by unfold typB;rw[if_neg k47,if_pos k6]),←w16];exact ho⟩
  refine ifs (fun k5=> ?_) fun k5=> ?_
  ·have m5:=qU (hfo k5) _ (w08 _)
   have:=(hfo k5).1
   refine oc (Yp d.types[j].fields _ (ht j hj).2 (hfo k5) _) fun y t k h1=> ?_
   refine ob ho h1 (by simp;omega) fun y k e ho=> ?_
   exact⟨hj,by rw[hT _ (by unfold typB;rw[if_neg k47,if_neg k6,if_pos k5])];exact ho⟩
  exact⟨hj,by rw[hT [] (by unfold typB;rw[if_neg k47,if_neg k6,if_neg k5]),w1b];exact ho⟩
 ·obtain rfl:j=d.types.length:=by omega
  have mn:= @z9 d.texts.length (by omega)
  refine oc (ym d.texts.length (by omega) _) fun y t k h1=> ?_
  refine ob ho h1 (by omega) fun y k e ho=> ?_
  refine xn 6 d.texts.length [3] (fun j v e=>Own IsByte 1 (v 3) (typs d.types d.types.length++texB d.texts j) e) 0 ?_ fun j v e nz hj ho=> ?_
  ·exact ho
  have hX:=WQ a6 a2 j hj
  refine ifs (fun h=> ?_) fun h=> ?_
  ·have hj:j<d.texts.length:=by omega
   have hl:=a6 _ (w04 hj)
   have m3:=qS (s:=d.texts[j]) (by omega)
   have f:=nd f0 ho.co
   refine st ?_
   refine oc (uP d.texts[j] (by omega) _) fun y t k h1=> ?_
   refine ob ho h1 (by simp;omega) fun y k e ho=> ?_
   exact⟨hj,by rw[texB,←UY hj,←w16];exact ho⟩
  obtain rfl:j=d.texts.length:=by omega
  have mn:= @z9 d.funcs.length (by omega)
  refine oc (ym d.funcs.length (by omega) _) fun y t k h1=> ?_
  refine ob ho h1 (by simp;omega) fun y k e ho=> ?_
  refine xn 7 d.funcs.length [3] (fun j v e=>Own IsByte 1 (v 3) (typs d.types d.types.length++texB d.texts d.texts.length++funs d.funcs j) e) 0 ?_ fun j v e nz hj ho=> ?_
  ·exact ho
  have hU:=Q1 a7 hcl hw.funcs a4 j hj
  refine ifs (fun h=> ?_) fun h=> ?_
  ·have hj:j<d.funcs.length:=by omega
   have hm:=w04 hj
   have hwf:=hw.funcs _ hm
   obtain⟨⟨g1,g2,g3,g4,g5,g6,g7⟩,g8,g9,g10,g11,g12,g13⟩:=a7 _ hm
   have hfo:=Q2 (a7 _ hm) hcl
   have hnl:=Zb g1
   have m1:=qS (s:=d.funcs[j].name) (by omega)
   have m2:= @z9 d.funcs[j].params.toNat (by omega)
   have m3:=z9 (x4 hwf.result)
   have m4:=qU hfo _ (w08 _)
   have m5:= @z9 d.funcs[j].code.length (by omega)
   have m7:=tU g12 (by omega) hwf.sizes (by have:=yC g12 (by omega);omega) _ (w08 _)
   have m8:=tU g13 (by omega) hwf.lives (by have:=yC g13 (by omega);omega) _ (w08 _)
   have r1:=yC g12 (by omega)
   have r2:=yC g13 (by omega)
   have f:=nd f0<|nd ho.co fun m=>(vu d.funcs[j].result hwf.result m).eq
   refine st ?_
   refine oc (uP d.funcs[j].name (by omega) _) fun y t k h1=> ?_
   refine ob ho h1 (by simp;omega) fun y k e ho=> ?_
   refine oc (VE g4 (by omega) _) fun y t k h1=> ?_
   refine ob ho h1 (by simp;omega) fun y k e ho=> ?_
   refine oc (zh _ (x4 hwf.result) _) fun y t k h1=> ?_
   refine ob ho h1 (by simp;omega) fun y k e ho=> ?_
   refine oc (Yp _ _ (hq j hj).2.1 hfo _) fun y t k h1=> ?_
   refine ob ho h1 (by simp;omega) fun y k e ho=> ?_
   refine oc (ym d.funcs[j].code.length (by omega) _) fun y t k h1=> ?_
   refine ob ho h1 (by simp;omega) fun y k e ho=> ?_
   obtain⟨B,hB,ho⟩:=nm (P:=fun B=>Own IsByte 1 y B e) ho
   have hb:B.length≤800000:=by rw[←hB];simp;omega
   have f:=nd f0 (instrV (hq j hj).2.2.1)
   have mc:=(hq j hj).2.2.1.max
   refine xn 9 d.funcs[j].code.length [3] (fun q v e=>Own IsByte 1 (v 3) (B++codes d.funcs[j].code q) e) 0 ?_ fun q v e nz hj' ho=> ?_
   ·simpa [codes] using ho
   have m6:=XB g9 hwf.code q hj'
   refine ifs (fun h=> ?_) fun h=> ?_
   ·have hj':q<d.funcs[j].code.length:=by omega
    have hm:=w04 hj'
    have hwi:=z0Y (hwf.code _ hm)
    have hc6:=Qk (g9 _ hm) hwi
    have f:=nd f ho.co
    refine st ?_
    refine oc (QN d.funcs[j].code[q] (hwf.code _ hm).op hwi (g9 _ hm) _) fun y t k h1=> ?_
    refine ob ho h1 (by simp;omega) fun y k e ho=> ?_
    exact⟨hj',by rw[codes,←VZ hj',←w16];exact ho⟩
   obtain rfl:q=d.funcs[j].code.length:=by omega
   have f:=nd f ho.co
   refine st ?_
   refine oc (XP _ _ (hq j hj).2.2.2.1 _ g12 (by omega) hwf.sizes (by omega) _) fun y t k h1=> ?_
   refine ob ho h1 (by simp;omega) fun y k e ho=> ?_
   refine oc (XP _ _ (hq j hj).2.2.2.2 _ g13 (by omega) hwf.lives (by omega) _) fun y t k h1=> ?_
   refine ob ho h1 (by simp;omega) fun y k e ho=> ?_
   refine⟨hj,?_⟩
   rw[funs,←YM hj]
   subst hB
   simpa [funB] using ho
  ·obtain rfl:j=d.funcs.length:=by omega
   exact fo ho (w16 _ _ _)
theorem qH (d:DImage) (x:AV) (hx:IsImage d x) (hw:WfImage d) (m:Mem) (hfl:m.floor≤m.stk.length+1):Okv tab 80 [x] m (.int .i64 (err09 d)):=by
 obtain⟨v0,v1,v2,rfl,h0,h1,h2⟩:=hx
 have f:=nd h0.co<|nd h1.co h2.co
 unfold err09
 refine okz (tT ur) fun s c x v g e=> ?_
 subst e
 simp at hfl
 refine ow (z15 d _ ⟨_,_,_,rfl,h0,h1,h2⟩ hw _ (by simp;omega)) fun n=> ?_
 refine ifs (fun hf=> ?_) fun hf=> ?_
 ·have hf:=u4.1 hf
  refine oc (XO d _ ⟨_,_,_,rfl,h0,h1,h2⟩ hw hf _) fun y t k ho=> ?_
  have f:=ho.len
  refine st ?_
  refine ifs (fun hf=> ?_) fun hf=> ?_
  all_goals grind
 ·trivial
attribute [go_sem] ZX um tg
def codeLen (d:DImage) (k:Int):Int:=(fnAt d.funcs k.toNat).code.length
def badB (d:DImage) (n:Int):Bool:=decide (n<256∨n/256>d.funcs.length∨n%256≥codeLen d (n/256-1))
noncomputable def findR (d:DImage) (n:Int):Int×Int×Int:=if err09 d=0 then if badB d n=true then(0,0,6) else(n/256-1,n%256,0) else(0,0,err09 d)
noncomputable abbrev findV (d:DImage) (n:Int):AV:= .tup [.int .i64 (findR d n).1,.int .i64 (findR d n).2.1,.int .i64 (findR d n).2.2]
theorem z1c (d:DImage) (x:AV) (hx:IsImage d x) (hw:WfImage d) (hs:d.funcs.length≤100000) (n:Int) (hn:0≤n∧n<18446744073709551616) (m:Mem) (hf:m.floor≤m.stk.length+1):Okv tab 74 [x,.int .u64 n] m (findV d n):=by
 have hC:=XS d x hx hw
 obtain⟨v0,v1,v2,rfl,h0,h1,h2⟩:=hx
 obtain⟨s,c,z,v,hq⟩:=fnsV h2
 have f:=nd h2.z fun j hj=>nd (hq j hj).1 (hq j hj).2.2.1.z.1
 refine okz (tT ZX) fun s c x v g e=> ?_
 subst e
 refine ow (hC _ (by simp at*;omega)) fun k=> ?_
 repeat' first|refine ifs ?_ ?_|intro
 all_goals clear f hC hq;grind [findR,badB,codeLen,YM]
theorem QL (d:DImage) (x:AV) (hx:IsImage d x) (hs:d.funcs.length≤100000) (n:Int) (hn:0≤n∧n<18446744073709551616) (m:Mem):
  Okv tab 81 [x,.int .u64 n] m (.tup [.int .i64 (if badB d n=true then 0 else n/256-1),.int .i64 (if badB d n=true then 0 else n%256),.bool (!badB d n)]):=by
 obtain⟨v0,v1,v2,rfl,h0,h1,h2⟩:=hx
 obtain⟨s,c,z,v,hq⟩:=fnsV h2
 have f:=nd h2.z fun j hj=>nd (hq j hj).1 (hq j hj).2.2.1.z.1
 refine okz (tT um) fun s c x v g e=> ?_
 repeat' first|refine ifs ?_ ?_|intro
 all_goals clear f hq;grind [badB,codeLen,YM]
theorem z16 (d:DImage) (x:AV) (hx:IsImage d x) (hw:WfImage d) (hs:d.funcs.length≤100000) (n:Int) (hn:0≤n∧n<18446744073709551616) (m:Mem) (hf:m.floor≤m.stk.length+1):Okv tab 25 [x,.int .u64 n] m (findV d n):=by
 have hC:=qH d x hx hw
 have f:=fun m=>(QL d x hx hs n hn m).eq
 obtain⟨v0,v1,v2,rfl,h0,h1,h2⟩:=hx
 refine okz (tT tg) fun s c x v g e=> ?_
 subst e
 refine ow (hC _ (by simp at*;omega)) fun k=> ?_
 repeat' first|refine ifs ?_ ?_|intro
 all_goals clear f hC;grind [findR]
end Go.Proofs.W
end
section
namespace Go.Vs
def rwC (stk:List (List Blk)) (cur:List Blk) (lv k st:Nat) (y:List AV):List (List Blk):=(stk++[cur]).modify lv fun f=>f.set k ⟨st,y⟩
section
variable {stk : List (List Blk)} {cur : List Blk} {lv k st : Nat} {y y' : List AV}
theorem z5c:(rwC stk cur lv k st y).length=(stk++[cur]).length:=by simp[rwC]
theorem z5d (h:lv≤stk.length) (hk:k<((stk++[cur]).getD lv []).length):((rwC stk cur lv k st y).getD lv [])[k]? =some ⟨st,y⟩:=by
 have hl:lv<(stk++[cur]).length:=by simp;omega
 unfold rwC
 grind
theorem z5b:(rwC stk cur lv k st y).modify lv (fun f=>f.set k ⟨st,y'⟩)=rwC stk cur lv k st y':=by
 unfold rwC
 apply w20
 intro j
 simp only[List.getElem?_modify]
 cases (stk++[cur])[j]? with
 |none=>simp
 |some f=>
  simp_all
theorem z7s (h:((stk++[cur]).getD lv [])[k]? =some ⟨st,y⟩):stk++[cur]=rwC stk cur lv k st y:=by
 unfold rwC
 apply w20
 intro j
 simp only[List.getElem?_modify]
 by_cases e:lv=j
 ·subst e
  simp only[w05] at h
  cases hq:(stk++[cur])[lv]? with
  |none=>rfl
  |some f=>
   rw[hq] at h
   simp only[w33] at h
   simp only[if_true,Option.map_eq_map,w07,Option.some.injEq]
   apply w20
   grind
 ·simp[e]
def wroteC (m:Mem) (lv k st:Nat) (y:List AV) (n:Nat) (l:List (List Nat)):Mem:={m.put lv k st y with nx:=n,live:=l}
theorem Th {nx fl n:Nat} {live l:List (List Nat)}:wroteC ⟨stk,cur,nx,live,fl⟩ stk.length k st y' n l=⟨stk,cur.set k ⟨st,y'⟩,n,l,fl⟩:=by
 unfold wroteC Mem.put
 simp
theorem Zc {m0:Mem} {c':List Blk} {nx' fl':Nat} {own:List Nat} {live':List (List Nat)} {r:AV} (hlv:lv≤stk.length) (h1:r.refs (stk++[cur]).length=false) (h2:r.toks=[]) (nx:Nat) (live:List (List Nat)):
  leave m0 ⟨rwC stk cur lv k st y,c',nx',own::live',fl'⟩ r=some (r,wroteC ⟨stk,cur,nx,live,m0.floor⟩ lv k st y nx' live'):=by
 unfold wroteC
 by_cases e:lv=stk.length
 ·have:rwC stk cur lv k st y=stk++[cur.set k ⟨st,y⟩]:=by
   unfold rwC;subst e
   rw[w37 (by simp)];simp
  rw[this,yH (by simpa using h1) h2]
  unfold Mem.put
  simp[e]
 ·have:rwC stk cur lv k st y=(stk.modify lv fun f=>f.set k ⟨st,y⟩)++[cur]:=by
   unfold rwC
   apply w20
   grind
  rw[this,yH (by simpa using h1) h2]
  unfold Mem.put
  simp[e]
end
theorem tO {S:List (List Blk)} {C:List Blk} {nx fl:Nat} {live:List (List Nat)} {lv k st:Nat} {cs:List AV} (h:Mem.blk ⟨S,C,nx,live,fl⟩ lv k st=some cs) (hlv:lv≤S.length):((S++[C]).getD lv [])[k]? =some ⟨st,cs⟩:=by
 unfold Mem.blk at h
 split at h
 ·rename_i b hb
  split at h
  ·rename_i e
   injection h with h
   have hb':b=⟨st,cs⟩:=by rw[←h,←eq_of_beq e]
   subst hb'
   unfold Mem.row at hb
   grind
  ·cases h
 ·cases h
theorem WA {S:List (List Blk)} {C c:List Blk} {nx fl n L k st:Nat} {live l:List (List Nat)} {y:List AV} (h:L≤S.length):wroteC ⟨S++[C],c,nx,live,fl⟩ L k st y n l=⟨rwC S C L k st y,c,n,l,fl⟩:=by
 unfold wroteC Mem.put rwC
 grind
theorem z8n {S:List (List Blk)} {C:List Blk} {nx fl:Nat} {live:List (List Nat)} {lv k st:Nat} {cs:List AV} (h:Mem.blk ⟨S,C,nx,live,fl⟩ lv k st=some cs) (hlv:lv≤S.length):k<((S++[C]).getD lv []).length:=
 (w13.1 (tO h hlv)).1
theorem Zl {S:List (List Blk)} {C c:List Blk} {nx fl nx' fl':Nat} {live live':List (List Nat)} {lv k st:Nat} {cs:List AV} (h:Mem.blk ⟨S,C,nx,live,fl⟩ lv k st=some cs) (hlv:lv≤S.length):Mem.blk ⟨S++[C],c,nx',live',fl'⟩ lv k st=some cs:=by
 have h1:=tO h hlv
 unfold Mem.blk Mem.row
 grind
end Go.Vs
end
section
namespace Go.Proofs.W
open Go.Vs
theorem Z9 (j:Nat) (l:List (List Nat)):Vs.sink j [] l=l:=rfl
theorem z8T (p:Int) (m:Mem):Okv tab 417 [.int .i64 p] m (.bool false):=by
 refine ze (tT jj) ?_
 obtain⟨stk,cur,nx,live,fl⟩:=m
 simp only[jj,go_sem,G6,G8]
 rw[z5 rfl rfl,z6]
 simp
theorem z7c (p q:Int) (m:Mem):Okv tab 407 [.int .i64 p,.int .i64 q] m (.bool (decide (p<q))):=by
 refine ze (tT k8) ?_
 obtain⟨stk,cur,nx,live,fl⟩:=m
 simp only[k8,go_sem,G3,G6,G8,(z8T p _).eq]
 rw[z5 rfl rfl,z6]
 simp
def Sets (tab:Nat→Option AFunc) (f:Nat) (args:List AV) (m:Mem) (L k st:Nat) (y:List AV) (r:AV):Prop:= ∃n,CALL tab f args m=some (r,wroteC m L k st y n m.live)
noncomputable def setsNx (tab:Nat→Option AFunc) (f:Nat) (args:List AV) (m:Mem):Nat:=match CALL tab f args m with|some (_,m')=>m'.nx|none=>0
theorem Sets.eq {tab:Nat→Option AFunc} {f:Nat} {args:List AV} {m:Mem} {L k st:Nat} {y:List AV} {r:AV} (h:Sets tab f args m L k st y r):CALL tab f args m=some (r,wroteC m L k st y (setsNx tab f args m) m.live):=by
 obtain⟨n,h⟩:=h
 rw[h]
 unfold setsNx
 rw[h]
 rfl
theorem T1 {tab:Nat→Option AFunc} {f:Nat} {fn:AFunc} (h:tab f=some fn) {args:List AV} {m:Mem} {L k st:Nat} {y:List AV} {r:AV} (hx:X tab fn.body (mk fn.ntmps (.tup []) (numb 0 args)) (enter m) (.fin fn.res m fun v m'=> ∃n,v=r∧m'=wroteC m L k st y n m.live)) (hn:args.length≤fn.ntmps:=by exact Nat.le_of_ble_eq_true rfl):
  Sets tab f args m L k st y r:=by
 obtain⟨x,h1,n,h2,h3⟩:=yq h hx hn;exact⟨n,by rw[h1,←h2,←h3]⟩
theorem li (l:List AV) (k:Nat) {v:AV} (h:(l.drop k).head? =some v):takeV false 1 (l.drop k)=some v:=by
 unfold takeV
 cases hd:l.drop k with
 |nil=>rw[hd] at h;cases h
 |cons a r=>rw[hd] at h;simp at h⊢;exact h
theorem z71 (p q:Int) (S:List (List Blk)) (C:List Blk) (nx fl:Nat) (live:List (List Nat)) (L k st:Nat) (hL:L≤S.length) (hfl:fl≤L) (hb:Mem.blk ⟨S,C,nx,live,fl⟩ L k st=some [.int .i64 p,.int .i64 q]):
  Sets tab 401 [.grow 1 L k st 2,.int .i64 0,.int .i64 2] ⟨S,C,nx,live,fl⟩ L k st [.int .i64 (min p q),.int .i64 (max p q)] (.tup []):=by
 refine T1 (tT yA) ?_
 have hrow:=tO hb hL
 have hk:=z8n hb hL
 have hne: ∀y,(L==(rwC S C L k st y).length)=false:=fun y=>by rw[z5c];simp;omega
 have hget: ∀y,((rwC S C L k st y).getD L [])[k]? =some ⟨st,y⟩:=fun y=>z5d hL hk
 have i0:idx (.int .i64 0) 2=some 0:=rfl
 have i1:idx (.int .i64 1) 2=some 1:=rfl
 have a01:IntKind.i64.wrap (0+1)=1:=rfl
 have a12:IntKind.i64.wrap (1+1)=2:=rfl
 have s10:IntKind.i64.wrap (1-1)=0:=rfl
 simp only[yA,go_sem,G3,G6,G8,z7s hrow]
 rw[yG]
 simp only[go_sem,G6,G7,G8,a01,show((1:Int)<2)=True from eq_true (by decide)]
 rw[yG]
 by_cases h:q<p
 ·have h1:min p q=q:=by omega
  have h2:max p q=p:=by omega
  rw[h1,h2]
  simp only[go_sem,G3,G6,G9,G7,G8,show((1:Int)>0)=True from eq_true (by decide),evIaddr,i0,i1,hne,hget,s10,w0d,(z7c q p _).eq,h,hfl,z5b,Z9]
  rw[yG]
  simp only[go_sem,G6,G7,G8,show((0:Int)>0)=False from eq_false (by decide),a12]
  rw[yG]
  simp only[go_sem,G6,G7,G8,show((2:Int)<2)=False from eq_false (by decide)]
  rw[Zc hL rfl rfl nx live,z6]
  grind
 ·have h1:min p q=p:=by omega
  have h2:max p q=q:=by omega
  rw[h1,h2]
  simp only[go_sem,G6,G7,G8,show((1:Int)>0)=True from eq_true (by decide),evIaddr,i0,i1,hne,hget,s10,w0d,(z7c q p _).eq,h,a12]
  rw[yG]
  simp only[go_sem,G6,G7,G8,show((2:Int)<2)=False from eq_false (by decide)]
  rw[Zc hL rfl rfl nx live,z6]
  grind
theorem zbc (p q:Int) (S:List (List Blk)) (C:List Blk) (nx fl:Nat) (live:List (List Nat)) (L k st:Nat) (hL:L≤S.length) (hfl:fl≤L) (hb:Mem.blk ⟨S,C,nx,live,fl⟩ L k st=some [.int .i64 p,.int .i64 q]) (z:Int):
  Sets tab 399 [.grow 1 L k st 2,.int .i64 0,.int .i64 2,.int .i64 z] ⟨S,C,nx,live,fl⟩ L k st [.int .i64 (min p q),.int .i64 (max p q)] (.tup []):=by
 refine T1 (tT yV) ?_
 simp only[yV,go_sem,G3]
 rw[yG]
 simp only[go_sem,G6,G7,G8,show IntKind.i64.wrap (2-0)=2 from rfl,show((2:Int)≤12)=True from eq_true (by decide),(z71 p q (S++[C]) [] nx fl ([]::live) L k st (by simp;omega) hfl (Zl hb hL)).eq,WA hL]
 rw[Zc hL rfl rfl nx live,z6]
 grind
theorem z91 (m:Mem):Okv tab 411 [.int .u64 2] m (.int .i64 2):=by
 refine ze (tT qv) ?_
 obtain⟨stk,cur,nx,live,fl⟩:=m
 simp only[qv,go_sem,G3,G6,G8,show((2:Int)≥4294967296)=False from eq_false (by decide),show((2:Int)≥65536)=False from eq_false (by decide),show((2:Int)≥256)=False from eq_false (by decide),show IntKind.u8.wrap 2=2 from rfl,show idx (.int .u8 2) 256=some 2 from rfl,
  UInt8.toNat_ofNat]
 rw[z5 rfl rfl,z6]
 exact⟨⟨_,rfl⟩,rfl⟩
theorem zbf (m:Mem):Okv tab 400 [.int .u64 2] m (.int .i64 2):=by
 refine ze (tT je) ?_
 obtain⟨stk,cur,nx,live,fl⟩:=m
 simp only[je,go_sem,G6,G8,(z91 _).eq]
 rw[z5 rfl rfl,z6]
 simp
theorem zav (p q:Int) (S:List (List Blk)) (C:List Blk) (nx fl:Nat) (live:List (List Nat)) (L k st:Nat) (hL:L≤S.length) (hfl:fl≤L) (hb:Mem.blk ⟨S,C,nx,live,fl⟩ L k st=some [.int .i64 p,.int .i64 q]):
  Sets tab 388 [.grow 1 L k st 2] ⟨S,C,nx,live,fl⟩ L k st [.int .i64 (min p q),.int .i64 (max p q)] (.tup []):=by
 refine T1 (tT uF) ?_
 have hP:=fun n z=>(zbc p q (S++[C]) [] n fl ([]::live) L k st (by simp;omega) hfl (Zl hb hL) z).eq
 simp only[uF,go_sem,G6,G8,evLen,show IntKind.u64.wrap (2:Int)=2 from rfl,(zbf _).eq,show(((2:Nat):Int))=2 from rfl,hP,WA hL]
 rw[Zc hL rfl rfl nx live,z6]
 grind
theorem z1g (p q:Int) (h:p≠q) (S:List (List Blk)) (C:List Blk) (nx fl:Nat) (live:List (List Nat)) (L k st:Nat) (hL:L≤S.length) (hb:Mem.blk ⟨S,C,nx,live,fl⟩ L k st=some [.int .i64 p,.int .i64 q]):
  Okv tab 389 [.grow 1 L k st 2] ⟨S,C,nx,live,fl⟩ (.grow 1 L k st 2):=by
 refine ze (tT yw) ?_
 have hrow:=tO hb hL
 have hne:(L==(S++[C]).length)=false:=by simp;omega
 have i0:idx (.int .i64 0) 2=some 0:=rfl
 have i1:idx (.int .i64 1) 2=some 1:=rfl
 have hq:(q==p)=false:=by simpa using fun e:q=p=>h e.symm
 simp only[yw,go_sem,G6,G8,evLen,show(((2:Nat):Int)<2)=False from eq_false (by decide)]
 rw[yG]
 simp only[go_sem,G6,G7,G8,evLen,show((1:Int)<((2:Nat):Int))=True from eq_true (by decide),evIaddr,i0,i1,show IntKind.i64.wrap (1-1)=0 from rfl,hne,hrow,w0d,hq,show IntKind.i64.wrap (1+1)=2 from rfl]
 rw[yG]
 simp only[go_sem,G6,G7,G8,evLen,show((2:Int)<((2:Nat):Int))=False from eq_false (by decide)]
 rw[z5 (by simp only[AV.refs];simp;omega) rfl,z6]
 simp
theorem z1h (p:Int) (S:List (List Blk)) (C:List Blk) (nx fl:Nat) (live:List (List Nat)) (L k st:Nat) (hL:L≤S.length) (hfl:fl≤L) (hb:Mem.blk ⟨S,C,nx,live,fl⟩ L k st=some [.int .i64 p,.int .i64 p]):
  Sets tab 389 [.grow 1 L k st 2] ⟨S,C,nx,live,fl⟩ L k st [.int .i64 p,.int .i64 0] (.grow 1 L k st 1):=by
 refine T1 (tT yw) ?_
 have hrow:=tO hb hL
 have hk:=z8n hb hL
 have hne: ∀y,(L==(rwC S C L k st y).length)=false:=fun y=>by rw[z5c];simp;omega
 have hget: ∀y,((rwC S C L k st y).getD L [])[k]? =some ⟨st,y⟩:=fun y=>z5d hL hk
 have i0:idx (.int .i64 0) 2=some 0:=rfl
 have i1:idx (.int .i64 1) 2=some 1:=rfl
 have b1:bound (some (.int .i64 1)) 2 0=some 1:=rfl
 have b2:bound (none:Option AV) 2 2=some 2:=rfl
 have b3:bound (some (.int .i64 1)) 2 2=some 1:=rfl
 have b4:bound (none:Option AV) 1 0=some 0:=rfl
 simp only[yw,go_sem,G6,G8,evLen,show(((2:Nat):Int)<2)=False from eq_false (by decide),z7s hrow]
 rw[yG]
 simp only[go_sem,G4,G6,G7,G8,evLen,show((1:Int)<((2:Nat):Int))=True from eq_true (by decide),evIaddr,i0,i1,show IntKind.i64.wrap (1-1)=0 from rfl,hne,hget,w0d,evSlice,b1,b2]
 rw[yG]
 simp only[go_sem,G3,G4,G6,G7,G8,evLen,show((1:Int)<((1:Nat):Int))=False from eq_false (by decide),evSlice,b1,b2,b3,b4,show((1:Nat)==0)=false from rfl,show((0:Nat)==0)=true from rfl,evClr,evClr0,AV.asArr,hne,hget,hfl,z5b,flatRep,w0d,Nat.one_ne_zero]
 rw[Zc hL (by simp only[AV.refs];simp;omega) rfl nx live,z6]
 grind
def SlotsP (d:DImage) (f:DFunc):Prop:= ∀s∈f.slots,0≤s.typ∧s.typ<d.types.length
theorem YA {d:DImage} {f:DFunc} (h:SlotsP d f) (s:Int):slotT f s<d.types.length:=by
 unfold slotT
 split
 ·rename_i hs
  obtain⟨k,rfl⟩: ∃k:Nat,s=k:=⟨s.toNat,by omega⟩
  have hk:k<f.slots.length:=by omega
  rw[Vh hk]
  exact(h _ (w04 hk)).2
 ·omega
def cellsN (ty tx fs w0 w1 w2 w3:AV) (f:DFunc):List AV:=[ty,tx,fs,.str f.name,.int .i64 f.params,.int .i64 f.result,w0,w1,w2,w3]
section
variable (d : DImage) (f : DFunc) (ty tx fs w0 w1 w2 w3 : AV) (hy : NV d f (.agg (cellsN ty tx fs w0 w1 w2 w3 f)))
include hy
theorem zau (t:Int) (ht:t<d.types.length) (m:Mem) (L st:Nat) (hL:L≤m.stk.length) (hb:m.blk L 0 st=some (cellsN ty tx fs w0 w1 w2 w3 f)):Okv tab 346 [.int .i64 t,.ptr L 0 st 0] m (.bool (isT d t [1])):=by
 refine ze (tT xZ) ?_
 obtain⟨stk,cur,nx,live,fl⟩:=m
 have hI:=fun m=>(z3F d f _ hy t ht [1] _ (isL1 1 .full) m).eq
 simp only[cellsN] at hI
 have hrow:=tO hb hL
 have hne:(L==(stk++[cur]).length)=false:=by simp at hL⊢;omega
 simp only[xZ,go_sem,G3,G6,G8,hne,hrow,cellsN]
 simp only[go_sem,G6,G8,hI]
 rw[z5 rfl rfl,z6]
 simp
theorem z70 (t:Int) (ht:t<d.types.length) (m:Mem) (L st:Nat) (hL:L≤m.stk.length) (hb:m.blk L 0 st=some (cellsN ty tx fs w0 w1 w2 w3 f)):Okv tab 378 [.int .i64 t,.ptr L 0 st 0] m (.bool (isT d t [1,2,4])):=by
 refine ze (tT va) ?_
 obtain⟨stk,cur,nx,live,fl⟩:=m
 have hI:=fun m=>(z3F d f _ hy t ht [1,2,4] _ (isL3 1 2 4 .full) m).eq
 simp only[cellsN] at hI
 have hrow:=tO hb hL
 have hne:(L==(stk++[cur]).length)=false:=by simp at hL⊢;omega
 simp only[va,go_sem,G3,G6,G8,hne,hrow,cellsN]
 simp only[go_sem,G6,G8,hI]
 rw[z5 rfl rfl,z6]
 simp
theorem z8R (t:Int) (ht:t<d.types.length) (m:Mem) (L st:Nat) (hL:L≤m.stk.length) (hb:m.blk L 0 st=some (cellsN ty tx fs w0 w1 w2 w3 f)):Okv tab 344 [.int .i64 t,.ptr L 0 st 0] m (.bool (!isT d t [2])):=by
 refine ze (tT xj) ?_
 obtain⟨stk,cur,nx,live,fl⟩:=m
 have hI:=fun m=>(z3F d f _ hy t ht [2] _ (isL1 2 .full) m).eq
 simp only[cellsN] at hI
 have hrow:=tO hb hL
 have hne:(L==(stk++[cur]).length)=false:=by simp at hL⊢;omega
 simp only[xj,go_sem,G3,G6,G8,hne,hrow,cellsN]
 simp only[go_sem,G6,G8,hI]
 rw[z5 rfl rfl,z6]
 simp
theorem z7e (l:List Int) (x:AV) (hx:IsSl IsI 1 l x) (hl: ∀t∈l,t<d.types.length) (m:Mem) (L st:Nat) (hL:L≤m.stk.length) (hb:m.blk L 0 st=some (cellsN ty tx fs w0 w1 w2 w3 f)):
  Ok tab 376 [x,.fn (.func 344) [] [.ptr L 0 st 0]] m (fun r=> ∃i,r= .int .i64 i∧(0≤i↔ ∃t∈l,isT d t [2]=false)):=by
 refine z2x (tT yh) ?_
 obtain⟨stk,cur,nx,live,fl⟩:=m
 simp only[yh,go_sem,G3,G6,G8,hx.len]
 refine za (α:=Nat) (fun k σ=>(k≤l.length∧ ∀t∈l.take k,isT d t [2]=true)∧ ∃nz,heads [0,1,7,8] 0 σ=⟨tmps 19 [(0,x),(1,.fn (.func 344) [] [.ptr L 0 st 0]),(7,.int .i64 l.length),(8,.int .i64 k)],⟨stk++[cur],[],nz,[]::live,fl⟩⟩) (fun k=>l.length-k) 0 ?_ ?_
 ·refine⟨⟨w0b _,by simp⟩,?_⟩
  simp only[go_sem,G6,G7]
  simp
 ·rintro k σ ⟨⟨hk,hv⟩,nz,hσ⟩
  rw[hσ]
  clear hσ σ
  dsimp only at hk hv⊢
  by_cases h:k<l.length
  ·have e1:nth x k= .int .i64 l[k]:=hx.nth h
   have hsucc:=zc h hx.max
   have hC:=(z8R d f ty tx fs w0 w1 w2 w3 hy l[k] (hl _ (w04 h)) ⟨stk++[cur],[],nz,[]::live,fl⟩ L st (by simp at hL⊢;omega) (Zl hb hL)).eq
   simp only[go_sem,G6,G7,G8,w02,h,hx.at _ h,e1,hC]
   cases hq:isT d l[k] [2]
   ·simp only[go_sem,G6,G8]
    rw[z5 rfl rfl,z6]
    grind
   ·simp only[go_sem,G6,G8,hsucc]
    refine⟨k+1,by omega,⟨h,fun t ht=> ?_⟩,_,rfl⟩
    rw[w0c h] at ht
    grind
  ·have:k=l.length:=by omega
   subst this
   rw[w06] at hv
   simp only[go_sem,G6,G7,G8,w02,h]
   rw[z5 rfl rfl,z6]
   grind
theorem z29 (l:List Int) (x:AV) (hx:IsSl IsI 1 l x) (hl: ∀t∈l,t<d.types.length) (m:Mem) (L st:Nat) (hL:L≤m.stk.length) (hb:m.blk L 0 st=some (cellsN ty tx fs w0 w1 w2 w3 f)):
  Okv tab 343 [x,.fn (.func 344) [] [.ptr L 0 st 0]] m (.bool (!l.all fun t=>isT d t [2])):=by
 refine ze (tT y7) ?_
 obtain⟨stk,cur,nx,live,fl⟩:=m
 simp only[y7,go_sem,G3,G6,G8]
 refine(z7e d f ty tx fs w0 w1 w2 w3 hy l x hx hl _ L st (by simp at hL⊢;omega) (Zl hb hL)).xv fun y n ⟨i,hy,hi⟩=> ?_
 subst hy
 simp only[go_sem,G6,G8]
 rw[z5 rfl rfl,z6]
 grind
theorem zbe (l:List Int) (x:AV) (hx:IsSl IsI 1 l x) (hl: ∀t∈l,t<d.types.length) (m:Mem) (L st:Nat) (hL:L≤m.stk.length) (hb:m.blk L 0 st=some (cellsN ty tx fs w0 w1 w2 w3 f)):
  Okv tab 342 [x,.ptr L 0 st 0] m (.bool (l.all fun t=>isT d t [2])):=by
 refine ze (tT v8) ?_
 obtain⟨stk,cur,nx,live,fl⟩:=m
 simp only[v8,go_sem,G3,G6,G8,(z29 d f ty tx fs w0 w1 w2 w3 hy l x hx hl ⟨stk++[cur],[],nx,[]::live,fl⟩ L st (by simp at hL⊢;omega) (Zl hb hL)).eq]
 rw[z5 rfl rfl,z6]
 simp
end
def laterB (d:DImage) (g:DFunc):Bool:=decide (g.result<0)&&(decide (g.params=0)||(decide (g.params=1)&&isT d (fdA g.slots 0).typ [1,2,4]))
theorem z8S (d:DImage) (f:DFunc) (y:AV) (hy:NV d f y) (g:DFunc) (z:AV) (hz:IsFunc g z) (hg:SlotsP d g) (hgp:g.params≤g.slots.length) (m:Mem) (hf:m.floor≤m.stk.length+1):Okv tab 349 [y,z] m (.bool (laterB d g)):=by
 have hy':=hy
 obtain⟨ty,tx,fs,w0,w1,w2,w3,rfl,h0,h1,h2,h3,h4,h5,h6⟩:=hy
 obtain⟨v0,v1,v2,v3,rfl,q0,q1,q2,q3⟩:=hz
 refine ze (tT vU) ?_
 obtain⟨stk,cur,nx,live,fl⟩:=m
 simp only[vU,go_sem,G3,G6,G8]
 unfold laterB
 by_cases hr:g.result<0
 ·by_cases hp0:g.params=0
  ·have e0:(g.params==0)=true:=by simpa using hp0
   simp only[go_sem,G6,G8,hr,e0]
   rw[z5 rfl rfl,z6]
   grind
  ·have e0:(g.params==0)=false:=by simpa using hp0
   by_cases hp1:g.params=1
   ·have e1:(g.params==1)=true:=by simpa using hp1
    have hlen:0<g.slots.length:=by omega
    have hat:evIaddr 2 v0 (.int .i64 0)=some (.ro (nth v0 0).cells):=q0.at .i64 hlen
    have eg:nth v0 0= .agg [.str (fdA g.slots 0).name,.int .i64 (fdA g.slots 0).typ]:=q0.fdA hlen
    have ht:(fdA g.slots 0).typ<d.types.length:=by
     have h00:fdA g.slots 0=g.slots[0]:=Vh hlen
     rw[h00];exact(hg _ (w04 hlen)).2
    have hC:=fun nz=>(z70 d f ty tx fs w0 w1 w2 w3 hy' (fdA g.slots 0).typ ht ⟨stk++[cur],[⟨nx,cellsN ty tx fs w0 w1 w2 w3 f⟩,⟨nx+1,[.str g.name,.int .i64 g.params,.int .i64 g.result,v0,v1,v2,v3]⟩],nz,[]::live,fl⟩ (stk++[cur]).length nx (w08 _) (by simp[Mem.blk,Mem.row])).eq
    simp only[cellsN] at hC
    simp only[go_sem,G6,G8,hr,e0,e1,hat,eg,hC]
    rw[z5 rfl rfl,z6]
    grind
   ·have e1:(g.params==1)=false:=by simpa using hp1
    simp only[go_sem,G6,G8,hr,e0,e1]
    rw[z5 rfl rfl,z6]
    grind
 ·simp only[go_sem,G6,G8,hr]
  rw[z5 rfl rfl,z6]
  simp
theorem z73 (t:DTyp) (z:AV) (hz:IsTyp t z) (m:Mem):Okv tab 394 [z] m (.bool (decide (t.kind∈[1,2,4]))):=by
 obtain⟨v,rfl,_⟩:=hz
 refine ze (tT ta) ?_
 obtain⟨stk,cur,nx,live,fl⟩:=m
 simp only[ta,go_sem,G3,G6,G8]
 repeat' (((first|refine uN ?_ ?_|refine yY ?_ ?_|refine yZ ?_ ?_|refine yW ?_ ?_|refine yX ?_ ?_)<;>intro hq)<;>simp only[go_sem,G6,G8,hq])
 all_goals
  rw[z5 rfl rfl,z6]
  refine⟨⟨_,rfl⟩,congrArg AV.bool ?_⟩
  simp only[beq_iff_eq,beq_eq_false_iff_ne,ne_eq] at*
  rw[Bool.eq_iff_iff]
  simp[*]
theorem z7d (d:DImage) (y:AV) (hy:IsImage d y) (k:Nat) (hk:k<d.funcs.length) (hg:SlotsP d (fnA d.funcs k)) (hgp:(fnA d.funcs k).params≤(fnA d.funcs k).slots.length) (hgr: -1≤(fnA d.funcs k).result) (m:Mem) (hf:m.floor≤m.stk.length+1):Okv tab 397 [y,.int .i64 k] m (.bool (laterB d (fnA d.funcs k))):=by
 obtain⟨ty,tx,fs,rfl,h0,h1,h2⟩:=hy
 obtain⟨v0,v1,v2,v3,ef,q0,q1,q2,q3⟩:=h2.fnA hk
 have hatg:=h2.at .i64 hk
 generalize fnA d.funcs k=g at*
 refine ze (tT ui) ?_
 obtain⟨stk,cur,nx,live,fl⟩:=m
 simp only[ui,go_sem,G3,G6,G8,hatg,ef,q0.one,q1.one,q2.one,q3.one]
 unfold laterB
 by_cases hr:g.result<0
 ·have er:(g.result== -1)=true:=by rw[beq_iff_eq];omega
  by_cases hp0:g.params=0
  ·have e0:(g.params==0)=true:=by simpa using hp0
   simp only[go_sem,G6,G8,er,e0]
   rw[z5 rfl rfl,z6]
   grind
  ·have e0:(g.params==0)=false:=by simpa using hp0
   by_cases hp1:g.params=1
   ·have e1:(g.params==1)=true:=by simpa using hp1
    have hlen:0<g.slots.length:=by omega
    have hat:evIaddr 2 v0 (.int .i64 0)=some (.ro (nth v0 0).cells):=q0.at .i64 hlen
    have eg:nth v0 0= .agg [.str (fdA g.slots 0).name,.int .i64 (fdA g.slots 0).typ]:=q0.fdA hlen
    have h00:fdA g.slots 0=g.slots[0]:=Vh hlen
    have ht:0≤(fdA g.slots 0).typ∧(fdA g.slots 0).typ<d.types.length:=by rw[h00];exact hg _ (w04 hlen)
    generalize (fdA g.slots 0).typ=t at*
    obtain⟨q,rfl⟩: ∃q:Nat,t=q:=⟨t.toNat,by omega⟩
    have hq:q<d.types.length:=by omega
    obtain⟨u0,e2,e3⟩:=h0.tyA hq
    have hW:=fun m=>(z73 (tyA d.types q) _ ⟨u0,rfl,e3⟩ m).eq
    simp only[go_sem,G3,G6,G8,er,e0,e1,hat,eg,h0.at _ hq,e2,hW]
    rw[z5 rfl rfl,z6]
    refine⟨⟨_,rfl⟩,congrArg AV.bool ?_⟩
    unfold isT kindI
    grind
   ·have e1:(g.params==1)=false:=by simpa using hp1
    simp only[go_sem,G6,G8,er,e0,e1]
    rw[z5 rfl rfl,z6]
    grind
 ·have er:(g.result== -1)=false:=by rw[beq_eq_false_iff_ne];omega
  simp only[go_sem,G6,G8,er]
  rw[z5 rfl rfl,z6]
  grind
theorem z50 (d:DImage) (y:AV) (hy:IsImage d y) (k:Nat) (hk:k<d.funcs.length) (s:Int) (m:Mem):Okv tab 392 [y,.int .i64 k,.int .i64 s] m (.int .i64 (slotT (fnA d.funcs k) s)):=by
 obtain⟨ty,tx,fs,rfl,h0,h1,h2⟩:=hy
 obtain⟨v0,v1,v2,v3,ef,q0,q1,q2,q3⟩:=h2.fnA hk
 have hatg:=h2.at .i64 hk
 generalize fnA d.funcs k=g at*
 refine ze (tT t8) ?_
 obtain⟨stk,cur,nx,live,fl⟩:=m
 simp only[t8,go_sem,G3,G6,G8]
 by_cases h:0≤s∧s<g.slots.length
 ·obtain⟨j,rfl⟩: ∃j:Nat,s=j:=⟨s.toNat,by omega⟩
  have hj:j<g.slots.length:=by omega
  simp only[go_sem,G6,G8,show¬((j:Int)<0) by omega,hatg,ef,q0.len,show¬((j:Int)≥g.slots.length) by omega,q0.at _ hj,q0.fdA hj]
  rw[z5 rfl rfl,z6]
  exact⟨⟨_,rfl⟩,by unfold slotT;rw[if_pos h]⟩
 ·by_cases hs:s<0
  ·simp only[go_sem,G6,G8,hs]
   rw[z5 rfl rfl,z6]
   exact⟨⟨_,rfl⟩,by unfold slotT;rw[if_neg h]⟩
  ·simp only[go_sem,G6,G8,hs,hatg,ef,q0.len,show s≥g.slots.length by omega]
   rw[z5 rfl rfl,z6]
   exact⟨⟨_,rfl⟩,by unfold slotT;rw[if_neg h]⟩
def up8 (n:Nat):Nat:=(n+7)/8*8
def szT (l:List DTyp) (t:Int):Nat:=((exts 1000000 l).getD t.toNat (0,0)).1
def sumK (l:List DTyp) (ts:List Int) (k:Nat):Nat:=((ts.take k).map fun t=>up8 (szT l t)).sum
def sumB (l:List DTyp) (ts:List Int):Nat:=sumK l ts ts.length
theorem VO {l:List DTyp} {ts:List Int} {k:Nat} (h:k<ts.length):sumK l ts (k+1)=sumK l ts k+up8 (szT l ts[k]):=by
 unfold sumK;rw[w0c h,w28,List.sum_append];simp
structure TypP (l:List DTyp):Prop where
 w:WfTypes l
 c:CheckP l
 f:FitsP l
theorem TypP.le {l:List DTyp} (h:TypP l) {k:Nat} (hk:k<l.length):szT l k≤256:=h.f k hk
theorem TypP.same {l:List DTyp} (h:TypP l) {k:Nat} (hk:k<l.length):((exts 1048576 l).getD k (0,0)).1=szT l k:=by
 have:=(Ws (f1:=1048576) (f2:=1000000) (by omega) (w08 _) (by omega) h.c.2.1 l.length (w08 _)).2 k
 rw[w06] at this
 have hle:=h.le hk
 unfold agree at this
 unfold szT at hle⊢
 grind
theorem andNot7: ∀n:Fin 300,(BitVec.ofNat 64 n.val&&& ~~~(BitVec.ofNat 64 7)).toNat=n.val/8*8:=by decide
theorem z6z {n:Nat} (h:n<300):evBits .andNot .i64 (n:Int) 7=some (.int .i64 ((n/8*8:Nat):Int)):=by
 unfold evBits
 show some (AV.int .i64 (IntKind.i64.wrap (((BitVec.ofInt 64 (n:Int)&&& ~~~(BitVec.ofInt 64 (7:Int)):BitVec 64).toNat:Nat):Int)))=_
 have e1:BitVec.ofInt 64 (n:Int)=BitVec.ofNat 64 n:=BitVec.ofInt_natCast ..
 have e2:BitVec.ofInt 64 (7:Int)=BitVec.ofNat 64 7:=by decide
 rw[e1,e2,andNot7 ⟨n,h⟩,z7 (by omega) (by omega)]
theorem z8X (n:Nat) (h:n≤256) (m:Mem):Okv tab 143 [.int .i64 n] m (.tup [.int .i64 (up8 n:Nat),.int .i64 0]):=by
 refine ze (tT jU) ?_
 obtain⟨stk,cur,nx,live,fl⟩:=m
 have hw:IntKind.i64.wrap ((n:Int)+7)=((n+7:Nat):Int):=by rw[z7 (by omega) (by omega)];omega
 simp only[jU,go_sem,G6,G8,show¬((n:Int)<0) by omega,show¬((n:Int)>1073741824) by omega,hw,z6z (n:=n+7) (by omega)]
 rw[z5 rfl rfl,z6]
 exact⟨⟨_,rfl⟩,rfl⟩
theorem z5Q (n:Nat) (h:n≤256) (m:Mem):Okv tab 263 [.int .i64 n] m (.int .i64 (up8 n:Nat)):=by
 refine ze (tT vl) ?_
 obtain⟨stk,cur,nx,live,fl⟩:=m
 have hU:=fun m=>(zap (n:=n) (a:=8) (.inr rfl) (by omega) m).eq
 have e8:(((8:Nat):Int))=8:=rfl
 rw[e8] at hU
 simp only[vl,go_sem,G6,G8,hU]
 rw[z5 rfl rfl,z6]
 refine⟨⟨_,rfl⟩,?_⟩
 rfl
def InT (l:List DTyp) (ts:List Int):Prop:= ∀t∈ts,0≤t∧t<l.length
theorem WS {l:List DTyp} {ts:List Int} (hl:TypP l) (h:InT l ts): ∀k,k≤ts.length→sumK l ts k≤264*k
 |0,_=>by simp[sumK]
 |k+1,hk=>by
  have ih:=WS hl h k (by omega)
  rw[VO (by omega)]
  obtain⟨q,hq⟩: ∃q:Nat,ts[k]=q:=⟨(ts[k]).toNat,by have:=h _ (w04 (show k<ts.length by omega));omega⟩
  have hql:q<l.length:=by have:=h _ (w04 (show k<ts.length by omega));omega
  rw[hq]
  have:=hl.le hql
  unfold up8;omega
theorem WM (d:DImage) (hT:TypP d.types) (f:DFunc) (y:AV) (hy:NV d f y) (ts:List Int) (x:AV) (hx:IsSl IsI 1 ts x) (hin:InT d.types ts) (hlen:ts.length≤100000) (m:Mem):Okv tab 353 [y,x] m (.tup [.int .i64 (sumB d.types ts:Nat),.int .i64 0]):=by
 obtain⟨ty,tx,fs,w0,w1,w2,w3,rfl,h0,h1,h2,h3,h4,h5,h6⟩:=hy
 refine ze (tT vV) ?_
 obtain⟨stk,cur,nx,live,fl⟩:=m
 simp only[vV,go_sem,G3,G6,G8,hx.len]
 refine za (α:=Nat) (fun k σ=>k≤ts.length∧ ∃nz,heads [2,6,12,13,14] 1 σ=⟨tmps 43 [(2,.ptr (stk++[cur]).length 0 nx 0),(6,.int .i64 (sumK d.types ts k:Nat)),(12,x),(13,.int .i64 ts.length),(14,.int .i64 k)],⟨stk++[cur],[⟨nx,[ty,tx,fs,.str f.name,.int .i64 f.params,.int .i64 f.result,w0,w1,w2,w3]⟩],nz,[]::live,fl⟩⟩) (fun k=>ts.length-k) 0 ?_ ?_
 ·refine⟨w0b _,?_⟩
  simp only[go_sem,G6,G7]
  exact⟨_,rfl⟩
 ·rintro k σ ⟨hk,nz,hσ⟩
  rw[hσ]
  clear hσ σ
  dsimp only at hk⊢
  by_cases h:k<ts.length
  ·have e1:nth x k= .int .i64 ts[k]:=hx.nth h
   have hsucc:=zc h hx.max
   have hss:=VO (l:=d.types) h
   have hb:=hin _ (w04 h)
   have hat:=hx.at .i64 h
   have hs1:=WS hT hin k hk
   generalize ts[k]=t at*
   obtain⟨q,rfl⟩: ∃q:Nat,t=q:=⟨t.toNat,by omega⟩
   have hq:q<d.types.length:=by omega
   have hle:=hT.le hq
   have hS:=fun m=>(Ys d.types ty h0 hT.w hT.c q hq (by rw[hT.same hq];exact hle) m).eq
   rw[hT.same hq] at hS
   have hw:IntKind.i64.wrap ((sumK d.types ts k:Nat)+(up8 (szT d.types q):Nat):Int)=((sumK d.types ts k+up8 (szT d.types q):Nat):Int):=by
    unfold up8
    rw[z7 (by omega) (by omega)];omega
   simp only[go_sem,G6,G7,G8,w02,h,hat,e1,hS,show((0:Int) !=0)=false from rfl,(z8X _ hle _).eq,hw,hsucc]
   refine⟨k+1,by omega,h,?_⟩
   simp_all
  ·have:k=ts.length:=by omega
   subst this
   simp only[go_sem,G6,G7,G8,w02,h]
   rw[z5 rfl rfl,z6]
   exact⟨⟨_,rfl⟩,rfl⟩
theorem zaC {l:List DTyp} (h:TypP l) {k:Nat} (hk:k<l.length):k<(szs (exts 1000000 l)).length∧ ∀hk',(szs (exts 1000000 l))[k]'hk'=szT l k:=by
 have hel:(exts 1000000 l).length=l.length:=by have:=vg 1000000 l l.length (w08 _);rwa [w06] at this
 have hk2:k<(szs (exts 1000000 l)).length:=by unfold szs;rw[w53,hel];exact hk
 refine⟨hk2,fun hk'=> ?_⟩
 unfold szT
 rw[w10]
 simp only[szs,List.getElem_map,w05,w17 (show k<(exts 1000000 l).length by rw[hel];exact hk),w33]
theorem z1i (d:DImage) (hT:TypP d.types) (y:AV) (hy:IsImage d y) (ts:List Int) (x:AV) (hx:IsSl IsI 1 ts x) (hin:InT d.types ts) (hlen:ts.length≤100000) (m:Mem) (hf:m.floor≤m.stk.length+1):Okv tab 362 [y,x] m (.int .i64 (sumB d.types ts:Nat)):=by
 obtain⟨ty,tx,fs,rfl,h0,h1,h2⟩:=hy
 refine ze (tT ul) ?_
 obtain⟨stk,cur,nx,live,fl⟩:=m
 dsimp only at hf
 have hf':fl≤(stk++[cur]).length+1:=by simp;omega
 obtain⟨z1,z2,t2,k2,hcall,ho1,ho2⟩:=z51 d.types ty h0 hT.c.2.1 (by have:=hT.c.1;omega) ⟨stk++[cur],[⟨nx,[ty,tx,fs]⟩],nx+1,[]::live,fl⟩ hf'
 have hel:(exts 1000000 d.types).length=d.types.length:=by have:=vg 1000000 d.types d.types.length (w08 _);rwa [w06] at this
 have hz1:=ho1.sl (by unfold szs;rw[w53,hel];exact h0.max)
 have hlive: ∃e,pushToks t2 ([]::live)=e::live:=by cases t2<;>exact⟨_,rfl⟩
 obtain⟨e,he⟩:=hlive
 dsimp only at hcall
 rw[he] at hcall
 simp only[ul,go_sem,G3,G6,G8,hcall]
 refine za (α:=Nat) (fun k σ=>k≤ts.length∧ ∃nz,heads [1,5,7,8] 1 σ=⟨tmps 32 [(1,x),(5,z1),(7,.int .i64 (sumK d.types ts k:Nat)),(8,.int .i64 k)],⟨stk++[cur],[⟨nx,[ty,tx,fs]⟩],nz,e::live,fl⟩⟩) (fun k=>ts.length-k) 0 ?_ ?_
 ·refine⟨w0b _,?_⟩
  simp only[go_sem,G6,G7]
  exact⟨_,rfl⟩
 ·rintro k σ ⟨hk,nz,hσ⟩
  rw[hσ]
  clear hσ σ
  dsimp only at hk⊢
  by_cases h:k<ts.length
  ·have e1:nth x k= .int .i64 ts[k]:=hx.nth h
   have hsucc:=zc h hx.max
   have hss:=VO (l:=d.types) h
   have hb:=hin _ (w04 h)
   have hat:=hx.at .i64 h
   have hs1:=WS hT hin k hk
   generalize ts[k]=t at*
   obtain⟨q,rfl⟩: ∃q:Nat,t=q:=⟨t.toNat,by omega⟩
   have hq:q<d.types.length:=by omega
   have hle:=hT.le hq
   obtain⟨hq2,hq3⟩:=zaC hT hq
   have e2:nth z1 q= .int .i64 ((szT d.types q:Nat):Int):=by have:=hz1.nth hq2;rw[hq3] at this;exact this
   have hw:IntKind.i64.wrap ((sumK d.types ts k:Nat)+(up8 (szT d.types q):Nat):Int)=((sumK d.types ts k+up8 (szT d.types q):Nat):Int):=by
    unfold up8
    rw[z7 (by omega) (by omega)];omega
   simp only[go_sem,G6,G7,G8,w02,h,hx.len,hat,e1,hz1.at .i64 hq2,e2,(z5Q _ hle _).eq,hw,hsucc]
   refine⟨k+1,by omega,h,?_⟩
   grind
  ·have:k=ts.length:=by omega
   subst this
   simp only[go_sem,G6,G7,G8,w02,h,hx.len]
   rw[z5 rfl rfl,z6]
   exact⟨⟨_,rfl⟩,rfl⟩
theorem z7D {x:DInstr} (h:InstrP x):x.op=1∨x.op=2∨x.op=3∨x.op=4∨x.op=5∨x.op=6∨x.op=7∨x.op=8∨x.op=9∨x.op=10∨x.op=11∨x.op=12∨x.op=13∨x.op=14∨x.op=15∨x.op=16∨x.op=17∨x.op=18∨x.op=19∨x.op=20∨x.op=21∨x.op=22∨x.op=23∨x.op=24∨x.op=25∨x.op=26∨x.op=27∨x.op=28∨x.op=29∨x.op=30∨x.op=31∨x.op=32∨x.op=33∨x.op=34:=by
 obtain⟨a,b,c,hs,_⟩:=h
 by_cases hq:1≤x.op∧x.op≤34
 ·omega
 ·exfalso
  unfold shp at hs
  repeat rw[if_neg (by omega)] at hs
  cases hs
def typP (d:DImage) (f:DFunc) (x:DInstr):Bool:=if x.op=1∨x.op=32 then([slotT f x.a].all fun t=>isT d t [2]) else if x.op=2 then(isT d (slotT f x.a) [3]) else if x.op=3∨x.op=23 then(isT d (slotT f x.a) [1]) else if x.op=5 then(slotT f x.a==slotT f x.b) else if x.op=6∨x.op=7∨x.op=8∨x.op=9 then([slotT f x.a,slotT f x.b,slotT f x.c].all fun t=>isT d t [2]) else if x.op=10 then(isT d (slotT f x.a) [1]&&[slotT f x.b,slotT f x.c].all fun t=>isT d t [2]) else if x.op=11 then((isT d (slotT f x.a) [1]&&(slotT f x.b==slotT f x.c))&&isT d (slotT f x.b) [2,1,4]) else if x.op=12 then(isT d (slotT f x.a) [1]&&isT d (slotT f x.b) [1]) else if x.op=13 then(memB d (slotT f x.b) x.c (slotT f x.a)) else if x.op=14 then(memB d (slotT f x.a) x.b (slotT f x.c)) else if x.op=15 then(isT d (slotT f x.a) [4]) else if x.op=16 then(isT d (slotT f x.b) [4]&&decide ((tyA d.types (slotT f x.b)).elem=slotT f x.a)) else if x.op=17 then(isT d (slotT f x.a) [4]&&decide ((tyA d.types (slotT f x.a)).elem=slotT f x.b)) else if x.op=18 then(isT d (slotT f x.a) [7]&&[slotT f x.b].all fun t=>isT d t [2]) else if x.op=19 then((isT d (slotT f x.b) [7,6]&&decide ((tyA d.types (slotT f x.b)).elem=slotT f x.a))&&[slotT f x.c].all fun t=>isT d t [2]) else if x.op=20 then((isT d (slotT f x.a) [7,6]&&decide ((tyA d.types (slotT f x.a)).elem=slotT f x.c))&&[slotT f x.b].all fun t=>isT d t [2]) else if x.op=21 then(([slotT f x.a].all fun t=>isT d t [2])&&isT d (slotT f x.b) [3,7,6]) else if x.op=25 then(decide (x.a<0)||((fnA d.funcs x.b.toNat).result==slotT f x.a)) else if x.op=26∨x.op=27 then(laterB d (fnA d.funcs x.a.toNat)) else if x.op=28 then(isT d (slotT f x.a) [2,1,3]) else if x.op=29∨x.op=33 then(isT d (slotT f x.a) [1]&&[slotT f x.b].all fun t=>isT d t [2]) else if x.op=34 then(decide (x.a<0)||(f.result==slotT f x.a)) else true
def typR (d:DImage) (f:DFunc) (x:DInstr):Bool:=if x.op=1∨x.op=32 then(kindI d.types (slotT f x.a)==2) else if x.op=2 then(kindI d.types (slotT f x.a)==3) else if x.op=3∨x.op=23 then(kindI d.types (slotT f x.a)==1) else if x.op=5 then(slotT f x.a==slotT f x.b) else if x.op=6∨x.op=7∨x.op=8∨x.op=9 then((kindI d.types (slotT f x.a)==2&&kindI d.types (slotT f x.b)==2)&&kindI d.types (slotT f x.c)==2) else if x.op=10 then((kindI d.types (slotT f x.a)==1&&kindI d.types (slotT f x.b)==2)&&kindI d.types (slotT f x.c)==2) else if x.op=11 then((kindI d.types (slotT f x.a)==1&&slotT f x.b==slotT f x.c)&&decide ((tyA d.types (slotT f x.b)).kind∈[1,2,4])) else if x.op=12 then(kindI d.types (slotT f x.a)==1&&kindI d.types (slotT f x.b)==1) else if x.op=13 then(memT d (slotT f x.b) x.c==slotT f x.a) else if x.op=14 then(memT d (slotT f x.a) x.b==slotT f x.c) else if x.op=15 then(kindI d.types (slotT f x.a)==4) else if x.op=16 then(ofT d (slotT f x.b) 4 4==slotT f x.a) else if x.op=17 then(ofT d (slotT f x.a) 4 4==slotT f x.b) else if x.op=18 then(kindI d.types (slotT f x.a)==7&&kindI d.types (slotT f x.b)==2) else if x.op=19 then(ofT d (slotT f x.b) 7 6==slotT f x.a&&kindI d.types (slotT f x.c)==2) else if x.op=20 then(ofT d (slotT f x.a) 7 6==slotT f x.c&&kindI d.types (slotT f x.b)==2) else if x.op=21 then(kindI d.types (slotT f x.a)==2&&((kindI d.types (slotT f x.b)==3||kindI d.types (slotT f x.b)==7)||kindI d.types (slotT f x.b)==6)) else if x.op=25 then(x.a== -1||((fnA d.funcs x.b.toNat).result==slotT f x.a)) else if x.op=26∨x.op=27 then(laterB d (fnA d.funcs x.a.toNat)) else if x.op=28 then((kindI d.types (slotT f x.a)==2||kindI d.types (slotT f x.a)==1)||kindI d.types (slotT f x.a)==3) else if x.op=29∨x.op=33 then(kindI d.types (slotT f x.a)==1&&kindI d.types (slotT f x.b)==2) else if x.op=34 then(x.a== -1||(f.result==slotT f x.a)) else true
theorem isI1 (a:Int) (tk:Tok):IsSl IsI 1 [a] (.list 1 tk [.int .i64 a]):= .mk ⟨rfl,trivial⟩ (by simp)
theorem isI2 (a b:Int) (tk:Tok):IsSl IsI 1 [a,b] (.list 1 tk [.int .i64 a,.int .i64 b]):= .mk ⟨rfl,rfl,trivial⟩ (by simp)
theorem isI3 (a b c:Int) (tk:Tok):IsSl IsI 1 [a,b,c] (.list 1 tk [.int .i64 a,.int .i64 b,.int .i64 c]):= .mk ⟨rfl,rfl,rfl,trivial⟩ (by simp)
structure ImgP (d:DImage):Prop where
 s: ∀g∈d.funcs,SlotsP d g∧g.params≤g.slots.length∧0≤g.params∧ -1≤g.result
theorem ImgP.at {d:DImage} (h:ImgP d) {k:Nat} (hk:k<d.funcs.length):SlotsP d (fnA d.funcs k)∧(fnA d.funcs k).params≤(fnA d.funcs k).slots.length∧0≤(fnA d.funcs k).params∧ -1≤(fnA d.funcs k).result:=by
 rw[←Vf hk];exact h.s _ (w04 hk)
theorem WT {d:DImage} {f:DFunc} {x:DInstr} (hx:InstrP x) (hw:WfI x) (hN:NearP d f x) (hs:SlotsP d f) {k:Nat} (hk:k<3) (hl:sk x k=119∨sk x k=114):0≤slotT f (opn x k):=by
 obtain⟨a,b,c,hsh,hh⟩:=hx
 have hx:InstrP x:=⟨a,b,c,hsh,hh⟩
 have hfit:=(jN hsh hx hw hk).2.1
 have h0:0≤opn x k:=by
  unfold fitsK at hfit
  rcases hl with e|e<;>rw[e] at hfit
  ·have:lo 119=0:=by decide
   omega
  ·have:lo 114=0:=by decide
   omega
 have hmem:opn x k∈rds x++wrs x:=by
  rw[w0a]
  rcases hl with e|e
  ·right
   unfold wrs wrsk
   simp only[w3d,List.mem_filter,w49,w09,decide_eq_true_eq]
   exact⟨k,⟨hk,by rw[e];rfl,h0⟩,rfl⟩
  ·left
   unfold rds rdsk
   simp only[w3d,List.mem_filter,w49,w09,decide_eq_true_eq]
   exact⟨k,⟨hk,by rw[e];rfl,h0⟩,rfl⟩
 have hlt:=hN.1 _ hmem
 unfold slotT
 rw[if_pos ⟨h0,hlt⟩]
 obtain⟨j,hj⟩: ∃j:Nat,opn x k=j:=⟨(opn x k).toNat,by omega⟩
 have hj':j<f.slots.length:=by omega
 rw[hj,Vh hj']
 exact(hs _ (w04 hj')).1
theorem z8j {d:DImage} {f:DFunc} {x:DInstr} (hx:InstrP x) (hN:NearP d f x) (h:x.op=25):0≤x.b∧x.b<d.funcs.length:=by
 have h2:=hN.2.1
 unfold called at h2
 rw[if_pos h] at h2
 refine⟨?_,h2⟩
 obtain⟨a,b,c,hs,f1,f2,f3⟩:=hx
 rw[h] at hs
 have:shp 25=[103,99,45]:=by decide
 rw[this] at hs
 injection hs with _ hs
 injection hs with hs _
 subst hs
 have:lo 99=0:=by decide
 unfold fitsK at f2;omega
theorem z8k {d:DImage} {f:DFunc} {x:DInstr} (hx:InstrP x) (hN:NearP d f x) (h:x.op=26∨x.op=27):0≤x.a∧x.a<d.funcs.length:=by
 have h2:=hN.2.1
 unfold called at h2
 rw[if_neg (by omega),if_pos h] at h2
 refine⟨?_,h2⟩
 obtain⟨a,b,c,hs,f1,f2,f3⟩:=hx
 have:shp x.op=[99,45,45]:=by rcases h with h|h<;>rw[h]<;>decide
 rw[this] at hs
 injection hs with hs _
 subst hs
 have:lo 99=0:=by decide
 unfold fitsK at f1;omega
theorem _root_.Go.Vs.IsSl.fromN {α:Type} {R:α→AV→Prop} {s:Nat} {xs:List α} {y:AV} (h:IsSl R s xs y) {n:Nat} (hn:n≤xs.length): ∃y',evSlice s y (some (.int .i64 (n:Nat))) none none=some y'∧IsSl R s (xs.drop n) y':=by
 rcases h with⟨hm,⟨rfl,rfl⟩|⟨tk,ys,rfl,h⟩⟩
 ·have:n=0:=by simpa using hn
  subst this
  exact⟨.nils,by simp[evSlice,bound],.nil s⟩
 ·have hl:=h.len
  have hb:bound (some (.int .i64 (n:Int))) ys.length 0=some n:=by
   unfold bound;simp only;rw[if_pos (by omega)];simp
  have e:evSlice s (.list s tk ys) (some (.int .i64 (n:Int))) none none=some (.list s (if ys.length==ys.length&&(n==0||decide (n<ys.length)) then tk else .none) ((ys.take ys.length).drop n)):=by
   unfold evSlice
   simp only[beq_self_eq_true,if_true]
   rw[show bound none ys.length ys.length=some ys.length from rfl,w39,hb]
   simp
  refine⟨_,e,?_⟩
  rw[w06]
  exact .mk (h.drop n) (by rw[w54];omega)
theorem _root_.Go.Vs.IsSl.toN {α:Type} {R:α→AV→Prop} {s:Nat} {xs:List α} {y:AV} (h:IsSl R s xs y) {n:Nat} (hn:n≤xs.length): ∃y',evSlice s y none (some (.int .i64 (n:Nat))) none=some y'∧IsSl R s (xs.take n) y':=by
 rcases h with⟨hm,⟨rfl,rfl⟩|⟨tk,ys,rfl,h⟩⟩
 ·have:n=0:=by simpa using hn
  subst this
  exact⟨.nils,by simp[evSlice,bound],.nil s⟩
 ·have hl:=h.len
  have hb:bound (some (.int .i64 (n:Int))) ys.length ys.length=some n:=by
   unfold bound;simp only;rw[if_pos (by omega)];simp
  have e: ∃tk',evSlice s (.list s tk ys) none (some (.int .i64 (n:Int))) none=some (.list s tk' ((ys.take n).drop 0)):=by
   unfold evSlice
   simp only[beq_self_eq_true,if_true]
   rw[hb,w39,show bound none n 0=some 0 from rfl]
   simp
  obtain⟨tk',e⟩:=e
  refine⟨_,e,?_⟩
  rw[w14]
  exact .mk (h.take n) (by rw[w1f];omega)
theorem z3N (m:Mem):Okv tab 379 [.nils] m .nils:=by
 refine ze (tT yK) ?_
 obtain⟨stk,cur,nx,live,fl⟩:=m
 have hsl:evSlice 1 .nils none (some (.int .i64 0)) (some (.int .i64 0))=some .nils:=rfl
 simp only[yK,go_sem,G6,G8,evLen,hsl]
 rw[z5 rfl rfl,z6]
 simp
theorem z2a (tk:Tok) (ys:List AV) (m:Mem):Okv tab 379 [.list 1 tk ys] m (.list 1 .full ys):=by
 refine ze (tT yK) ?_
 obtain⟨stk,cur,nx,live,fl⟩:=m
 have hb: ∀d,bound (some (.int .i64 (ys.length:Int))) ys.length d=some ys.length:=fun d=>by
  unfold bound;simp only;rw[if_pos (by omega)];simp
 have hb0:bound (none:Option AV) ys.length 0=some 0:=rfl
 simp only[yK,go_sem,G6,G8,evLen,evSlice,hb,hb0,w06]
 rw[z5 rfl rfl,z6]
 simp
theorem z8o {S:List (List Blk)} {C:List Blk} {nx fl:Nat} {live:List (List Nat)} {v:AV}:evApp ⟨S,C,nx,live,fl⟩ 1 8 .nils (.list 1 .full [v])=some (.list 1 (.id nx) [v],⟨S,C,nx+1,addTok nx live,fl⟩):=by
 rfl
theorem z6P {S:List (List Blk)} {C:List Blk} {nx fl:Nat} {live:List (List Nat)} {ys:List AV} {v:AV} (h:ys.length≤100000):evApp ⟨S,C,nx,live,fl⟩ 1 8 (.list 1 .full ys) (.list 1 .full [v])=some (.list 1 (.id nx) (ys++[v]),⟨S,C,nx+1,addTok nx live,fl⟩):=by
 unfold evApp;rw[zd]
 grind
def parT (g:DFunc):List Int:=(List.range g.params.toNat).map fun i=>(fdA g.slots (i:Nat)).typ
theorem TL (g:DFunc):(parT g).length=g.params.toNat:=by simp[parT]
theorem z2u {g:DFunc} {i:Nat} (h:i<(parT g).length):(parT g)[i]=(fdA g.slots (i:Nat)).typ:=by simp[parT]
def pops (d:DImage) (x:DInstr) (l:List Int):Option (List Int):=
 if 0≤called x then(if(parT (fnA d.funcs (called x).toNat)).length≤l.length∧l.drop (l.length-(parT (fnA d.funcs (called x).toNat)).length)=parT (fnA d.funcs (called x).toNat) then some (l.take (l.length-(parT (fnA d.funcs (called x).toNat)).length)) else none) else some l
def stS (d:DImage) (f:DFunc) (x:DInstr) (l:List Int):Option (List Int):=
 (pops d x (if x.op=24 then l++[slotT f x.a] else l)).bind fun l2=>if sumB d.types l2≤4096 then some l2 else none
theorem z7m {d:DImage} {f:DFunc} {x:DInstr} {l l':List Int} (hx:InstrP x) (hw:WfI x) (hN:NearP d f x) (hs:SlotsP d f) (hl:InT d.types l) (h:stS d f x l=some l'):InT d.types l'∧l'.length≤l.length+1:=by
 have h1:InT d.types (if x.op=24 then l++[slotT f x.a] else l)∧(if x.op=24 then l++[slotT f x.a] else l).length≤l.length+1:=by
  split
  ·rename_i e
   refine⟨fun t ht=> ?_,by simp⟩
   rcases w0a.1 ht with q|q
   ·exact hl t q
   ·rw[w1a.1 q]
    have:=WT hx hw hN hs (k:=0) (by omega) (by right;show(shp x.op).getD 0 45=114;rw[e];rfl)
    exact⟨this,YA hs _⟩
  ·grind
 unfold stS at h
 rw[w03] at h
 generalize (if x.op=24 then l++[slotT f x.a] else l)=l1 at*
 obtain⟨l2,h2,h3⟩:=h
 split at h3
 ·injection h3 with h3;subst h3
  unfold pops at h2
  split at h2
  ·split at h2
   ·injection h2 with h2;subst h2
    exact⟨fun t ht=>h1.1 t (w40 ht),by rw[w1f];omega⟩
   ·cases h2
  ·grind
 ·cases h3
theorem U6 {x:DInstr} (h:x.op=24):called x= -1:=by unfold called;rw[if_neg (by omega),if_neg (by omega)]
theorem zaq (d:DImage) (hd:ImgP d) (hT:TypP d.types) (f:DFunc) (y:AV) (hy:NV d f y) (hs:SlotsP d f) (x:DInstr) (hx:InstrP x) (hw:WfI x) (hN:NearP d f x) (l:List Int) (z:AV) (hz:IsSl IsI 1 l z) (hin:InT d.types l) (hlen:l.length≤1000) (m:Mem):
  OkT tab 350 [y,.agg [.int .u8 x.op,.int .i64 x.a,.int .i64 x.b,.int .i64 x.c],z] m (fun r _ _=> ∃q,r= .tup [q,.bool (stS d f x l).isSome]∧ ∀l',stS d f x l=some l'→IsSl IsI 1 l' q):=by
 have hy':=hy
 obtain⟨ty,tx,fs,w0,w1,w2,w3,rfl,h0,h1,h2,h3,h4,h5,h6⟩:=hy
 refine Zv (tT yr) ?_
 obtain⟨stk,cur,nx,live,fl⟩:=m
 have hS:=fun s m=>(z6Y d f _ hy' s m).eq
 have hCa:=fun m=>(Yv x m).eq
 by_cases h24:x.op=24
 ·have e24:(x.op==24)=true:=by simpa using h24
  have hcl:=U6 h24
  have hst:stS d f x l=if sumB d.types (l++[slotT f x.a])≤4096 then some (l++[slotT f x.a]) else none:=by
   unfold stS pops
   grind
  have hin2:InT d.types (l++[slotT f x.a]):=by
   intro t ht
   rcases w0a.1 ht with q|q
   ·exact hin t q
   ·rw[w1a.1 q]
    have:=WT hx hw hN hs (k:=0) (by omega) (by right;show(shp x.op).getD 0 45=114;rw[h24];rfl)
    exact⟨this,YA hs _⟩
  rw[hcl] at hCa
  have fin: ∀(q:AV),IsSl IsI 1 (l++[slotT f x.a]) q→ ∃q',(AV.tup [q,.bool (decide (((sumB d.types (l++[slotT f x.a]):Nat):Int)≤4096))])= .tup [q',.bool (stS d f x l).isSome]∧ ∀l',stS d f x l=some l'→IsSl IsI 1 l' q':=fun q hq=>by
   rw[hst]
   by_cases hle:sumB d.types (l++[slotT f x.a])≤4096
   ·rw[if_pos hle,decide_eq_true (by omega)]
    simp_all
   ·rw[if_neg hle,decide_eq_false (by omega)]
    simp
  rcases hz with⟨hzm,⟨rfl,rfl⟩|⟨tk,ys,rfl,hys⟩⟩
  ·have hq:IsSl IsI 1 ([]++[slotT f x.a]) (.list 1 (.id (callNx tab 341 [.agg [ty,tx,fs,.str f.name,.int .i64 f.params,.int .i64 f.result,w0,w1,w2,w3],.int .i64 x.a] ⟨stk++[cur],[⟨nx,[ty,tx,fs,.str f.name,.int .i64 f.params,.int .i64 f.result,w0,w1,w2,w3]⟩,⟨nx+1,[.int .u8 x.op,.int .i64 x.a,.int .i64 x.b,.int .i64 x.c]⟩],callNx tab 379 [.nils] ⟨stk++[cur],[⟨nx,[ty,tx,fs,.str f.name,.int .i64 f.params,.int .i64 f.result,w0,w1,w2,w3]⟩,⟨nx+1,[.int .u8 x.op,.int .i64 x.a,.int .i64 x.b,.int .i64 x.c]⟩],nx+1+1,[]::live,max fl ((stk++[cur]).length+1)⟩,[]::live,max fl ((stk++[cur]).length+1)⟩)) [.int .i64 (slotT f x.a)]):= .mk ⟨rfl,trivial⟩ (by simp)
   simp only[yr,go_sem,G3,G6,G8,e24,(z3N _).eq,hS,z8o,hCa,show((-1:Int)≥0)=False from eq_false (by decide)]
   generalize callNx tab 341 _ _=k1 at*
   simp only[go_sem,G6,G8,(WM d hT f _ hy' _ _ hq hin2 (by simp) _).eq,show((0:Int)==0)=true from rfl]
   exact yo rfl (fin _ hq)
  ·have hyl:=hys.len
   have hq: ∀k1,IsSl IsI 1 (l++[slotT f x.a]) (.list 1 (.id k1) (ys++[.int .i64 (slotT f x.a)])):=fun k1=> .mk (hys.append (ys':=[.int .i64 (slotT f x.a)]) ⟨rfl,trivial⟩) (by simp;omega)
   simp only[yr,go_sem,G3,G6,G8,e24,(z2a _ _ _).eq,hS,z6P (ys:=ys) (by omega),hCa,show((-1:Int)≥0)=False from eq_false (by decide)]
   generalize callNx tab 341 _ _=k1 at*
   simp only[go_sem,G6,G8,(WM d hT f _ hy' _ _ (hq _) hin2 (by simp;omega) _).eq,show((0:Int)==0)=true from rfl]
   exact yo rfl (fin _ (hq _))
 have e24:(x.op==24)=false:=by simpa using h24
 by_cases hcl:0≤called x
 ·obtain⟨g,hg⟩: ∃g:Nat,called x=g:=⟨(called x).toNat,by omega⟩
  have hgl:g<d.funcs.length:=by have:=hN.2.1;omega
  obtain⟨v0,v1,v2,v3,ef,q0,q1,q2,q3⟩:=h2.fnA hgl
  have hat:=h2.at .i64 hgl
  obtain⟨g1,g2,g3,g4⟩:=hd.at hgl
  have hst:stS d f x l=if(parT (fnA d.funcs g)).length≤l.length∧l.drop (l.length-(parT (fnA d.funcs g)).length)=parT (fnA d.funcs g) then(if sumB d.types (l.take (l.length-(parT (fnA d.funcs g)).length))≤4096 then some (l.take (l.length-(parT (fnA d.funcs g)).length)) else none) else none:=by
   unfold stS pops
   rw[if_neg h24,if_pos hcl,hg,w10]
   split<;>rfl
  have hpl:=TL (fnA d.funcs g)
  have hpg:=fun i h=>z2u (g:=fnA d.funcs g) (i:=i) h
  rw[hg] at hCa
  generalize fnA d.funcs g=F at*
  generalize hP:parT F=P at*
  have hsub:IntKind.i64.wrap ((l.length:Int)-F.params)=(l.length:Int)-P.length:=by
   have:=q0.max
   rw[z7 (by omega) (by omega)];omega
  simp only[yr,go_sem,G3,G6,G8,e24,hCa,show((g:Int)≥0)=True from eq_true (by omega),hat,ef,q0.one,q1.one,q2.one,q3.one,hz.len,hsub]
  by_cases hle:P.length≤l.length
  ·have hsub2:((l.length:Int)-P.length)=((l.length-P.length:Nat):Int):=by omega
   obtain⟨z1,hz1,hzs1⟩:=hz.fromN (n:=l.length-P.length) (by omega)
   obtain⟨z2,hz2,hzs2⟩:=hz.toN (n:=l.length-P.length) (by omega)
   have hdl:(l.drop (l.length-P.length)).length=P.length:=by rw[w54];omega
   simp only[go_sem,G3,G6,G8,hsub2,show¬(((l.length-P.length:Nat):Int)<0) by omega,hz1,hzs1.len,hdl]
   generalize callNx tab 339 _ _=k0
   refine za (α:=Nat) (fun k σ=>(k≤P.length∧ ∀j,j<k→(l.drop (l.length-P.length))[j]? =P[j]?)∧ ∃nz,heads [2,3,9,10,45,46,47] 3 σ=⟨tmps 77 [(2,z),(3,.ptr (stk++[cur]).length 0 nx 0),(9,.ptr (stk++[cur]).length 2 k0 0),(10,.int .i64 (l.length-P.length:Nat)),(45,z1),(46,.int .i64 P.length),(47,.int .i64 k)],⟨stk++[cur],[⟨nx,[ty,tx,fs,.str f.name,.int .i64 f.params,.int .i64 f.result,w0,w1,w2,w3]⟩,⟨nx+1,[.int .u8 x.op,.int .i64 x.a,.int .i64 x.b,.int .i64 x.c]⟩,⟨k0,[.str F.name,.int .i64 F.params,.int .i64 F.result,v0,v1,v2,v3]⟩],nz,[]::live,fl⟩⟩) (fun k=>P.length-k) 0 ?_ ?_
   ·refine⟨⟨w0b _,fun j h=>absurd h (w34 _)⟩,?_⟩
    simp only[go_sem,G6,G7]
    simp
   ·rintro k σ ⟨⟨hk,ht⟩,nz,hσ⟩
    rw[hσ]
    clear hσ σ
    dsimp only at hk ht⊢
    by_cases h:k<P.length
    ·have hkd:k<(l.drop (l.length-P.length)).length:=by omega
     have e1:nth z1 k= .int .i64 (l.drop (l.length-P.length))[k]:=hzs1.nth hkd
     have hsucc:IntKind.i64.wrap ((k:Int)+1)=((k+1:Nat):Int):=by rw[z7 (by omega) (by omega)];omega
     have hks:k<F.slots.length:=by omega
     have hgp:=hpg k h
     by_cases hq:(fdA F.slots (k:Nat)).typ=(l.drop (l.length-P.length))[k]
     ·have hqb:((fdA F.slots (k:Nat)).typ !=(l.drop (l.length-P.length))[k])=false:=by simpa using hq
      simp only[go_sem,G6,G7,G8,w02,h,hzs1.at .i64 hkd,e1,q0.at .i64 hks,q0.fdA hks,hqb,hsucc]
      refine⟨k+1,by omega,⟨h,fun j hj=> ?_⟩,_,rfl⟩
      grind
     ·have hqb:((fdA F.slots (k:Nat)).typ !=(l.drop (l.length-P.length))[k])=true:=by simpa using hq
      simp only[go_sem,G6,G7,G8,w02,h,hzs1.at .i64 hkd,e1,q0.at .i64 hks,q0.fdA hks,hqb]
      have hno:stS d f x l=none:=by
       grind
      refine yo rfl ⟨.nils,by rw[hno];rfl,fun l' h=>by rw[hno] at h;cases h⟩
    ·have hke:k=P.length:=by omega
     subst hke
     have heq:l.drop (l.length-P.length)=P:=by
      apply w20
      grind
     have hin2:InT d.types (l.take (l.length-P.length)):=fun t ht=>hin t (w40 ht)
     have hB:=fun m=>(WM d hT f _ hy' _ _ hzs2 hin2 (by rw[w1f];omega) m).eq
     simp only[go_sem,G3,G6,G7,G8,w02,h,hz2,hB,show((0:Int)==0)=true from rfl]
     rw[if_pos ⟨hle,heq⟩] at hst
     refine yo (by simp only[AV.refs,refsAny,hzs2.refs];rfl) ?_
     rw[hst]
     by_cases hle2:sumB d.types (l.take (l.length-P.length))≤4096
     ·rw[if_pos hle2,decide_eq_true (by omega)]
      simp_all
     ·rw[if_neg hle2,decide_eq_false (by omega)]
      simp
  ·have hno:stS d f x l=none:=by rw[hst,if_neg fun q=>hle q.1]
   simp only[go_sem,G6,G8,show(((l.length:Int)-P.length)<0)=True from eq_true (by omega)]
   refine yo rfl ⟨.nils,by rw[hno];rfl,fun l' h=>by rw[hno] at h;cases h⟩
 ·have hst:stS d f x l=if sumB d.types l≤4096 then some l else none:=by
   unfold stS pops
   grind
  have hB:=fun m=>(WM d hT f _ hy' _ _ hz hin (by omega) m).eq
  simp only[yr,go_sem,G3,G6,G8,e24,hCa,show¬(called x≥0) by omega,hB,show((0:Int)==0)=true from rfl]
  refine yo (by simp only[AV.refs,refsAny,hz.refs];rfl) ?_
  rw[hst]
  by_cases hle2:sumB d.types l≤4096
  ·rw[if_pos hle2,decide_eq_true (by omega)]
   simp_all
  ·rw[if_neg hle2,decide_eq_false (by omega)]
   simp
def takeT (d:DImage) (x:DInstr):List Int:=if 0≤called x then parT (fnA d.funcs (called x).toNat) else []
def pushT (f:DFunc) (x:DInstr):Int:=if x.op=24 then slotT f x.a else-1
theorem zaD {d:DImage} {f:DFunc} {x:DInstr} {l:List Int} (hp:x.op=24→0≤slotT f x.a):stS d f x l=
  if(takeT d x).length≤l.length∧l.drop (l.length-(takeT d x).length)=takeT d x then(if sumB d.types (l.take (l.length-(takeT d x).length)++(if 0≤pushT f x then [pushT f x] else []))≤4096 then some (l.take (l.length-(takeT d x).length)++(if 0≤pushT f x then [pushT f x] else [])) else none) else none:=by
 unfold stS pops takeT pushT
 by_cases h24:x.op=24
 ·have hcl:=U6 h24
  simp_all
 ·rw[if_neg h24,if_neg h24]
  simp only[show¬(0:Int)≤ -1 by omega,if_false,w1b]
  by_cases hcl:0≤called x
  ·grind
  ·simp only[hcl,if_false,w45,Nat.sub_zero,w0b,true_and,List.drop_length,if_true,w06]
   rfl
theorem z78 (d:DImage) (hd:ImgP d) (hsl: ∀k,k<d.funcs.length→(fnA d.funcs k).slots.length≤1000) (y:AV) (hy:IsImage d y) (g:Nat) (hg:g<d.funcs.length) (x:DInstr) (hN:NearP d (fnA d.funcs g) x) (m:Mem):
  OkT tab 398 [y,.int .i64 g,.agg [.int .u8 x.op,.int .i64 x.a,.int .i64 x.b,.int .i64 x.c]] m (fun r ts _=> ∃q,r= .tup [q,.int .i64 (pushT (fnA d.funcs g) x)]∧Own IsI 1 q (takeT d x) ts):=by
 have hy':=hy
 obtain⟨ty,tx,fs,rfl,h0,h1,h2⟩:=hy
 refine Zv (tT yD) ?_
 obtain⟨stk,cur,nx,live,fl⟩:=m
 have hS:=fun s m=>(z50 d _ hy' g hg s m).eq
 have hCa:=fun m=>(qn x m).eq
 generalize fnA d.funcs g=f at*
 by_cases h24:x.op=24
 ·have e24:(x.op==24)=true:=by simpa using h24
  simp only[yD,go_sem,G3,G6,G8,e24,hS]
  refine yo rfl ⟨.nils,by unfold pushT;rw[if_pos h24],?_⟩
  unfold takeT
  rw[U6 h24,if_neg (by omega)]
  exact .nil _
 have e24:(x.op==24)=false:=by simpa using h24
 have hpu:pushT f x= -1:=by unfold pushT;rw[if_neg h24]
 by_cases hcl:0≤called x
 ·obtain⟨k,hk⟩: ∃k:Nat,called x=k:=⟨(called x).toNat,by omega⟩
  have hkl:k<d.funcs.length:=by have:=hN.2.1;omega
  obtain⟨v0,v1,v2,v3,ef,q0,q1,q2,q3⟩:=h2.fnA hkl
  have hat:=h2.at .i64 hkl
  obtain⟨g1,g2,g3,g4⟩:=hd.at hkl
  have g5:=hsl k hkl
  have hta:takeT d x=parT (fnA d.funcs k):=by unfold takeT;rw[if_pos hcl,hk,w10]
  rw[hta]
  rw[hk] at hCa
  generalize fnA d.funcs k=F at*
  have hpl:=TL F
  have hpg:=fun i h=>z2u (g:=F) (i:=i) h
  have hmx:=q0.max
  generalize hP:parT F=P at*
  simp only[yD,go_sem,G3,G6,G8,e24,hCa,show((k:Int)≥0)=True from eq_true (by omega)]
  refine za (α:=Nat) (fun i σ=>i≤P.length∧ ∃nz q e,Own IsI 1 q (P.take i) e∧heads [3,8,9,10] 2 σ=⟨tmps 47 [(3,.ptr (stk++[cur]).length 0 nx 0),(8,q),(9,.int .i64 k),(10,.int .i64 i)],⟨stk++[cur],[⟨nx,[ty,tx,fs]⟩,⟨nx+1,[.int .u8 x.op,.int .i64 x.a,.int .i64 x.b,.int .i64 x.c]⟩],nz,e::live,fl⟩⟩) (fun i=>P.length-i) 0 ?_ ?_
  ·refine⟨w0b _,?_⟩
   simp only[go_sem,G6,G7]
   exact⟨_,_,[],by simpa using Own.nil (R:=IsI) (s:=1) [],rfl⟩
  ·rintro i σ ⟨hi,nz,q,e,ho,hσ⟩
   rw[hσ]
   clear hσ σ
   dsimp only at hi⊢
   by_cases h:i<P.length
   ·have hsucc:IntKind.i64.wrap ((i:Int)+1)=((i+1:Nat):Int):=by rw[z7 (by omega) (by omega)];omega
    have hks:i<F.slots.length:=by omega
    simp only[go_sem,G6,G7,G8,hat,ef,show((i:Int)<F.params)=True from eq_true (by omega),q0.at .i64 hks,q0.fdA hks]
    refine ho.xv (zd · 1 .full [.int .i64 (fdA F.slots (i:Nat)).typ]) (ZQ _) (by rw[w1f];simp;omega) fun q' n' e' ho'=> ?_
    simp only[go_sem,G6,G8,hsucc]
    refine⟨i+1,by omega,h,_,q',e',?_,rfl⟩
    rw[w0c h,hpg i h];exact ho'
   ·have hie:i=P.length:=by omega
    subst hie
    rw[w06] at ho
    simp only[go_sem,G6,G7,G8,hat,ef,show(((P.length:Nat):Int)<F.params)=False from eq_false (by omega)]
    refine yo (by simp only[AV.refs,refsAny,ho.refs];rfl) ⟨q,by rw[hpu],?_⟩
    have:=ho.filter
    simp only[AV.toks,toksAll,w1b]
    exact this
 ·simp only[yD,go_sem,G3,G6,G8,e24,hCa,show¬(called x≥0) by omega]
  refine yo rfl ⟨.nils,by rw[hpu],?_⟩
  unfold takeT
  rw[if_neg hcl]
  exact .nil _
theorem z8U (d:DImage) (hd:ImgP d) (hsl: ∀k,k<d.funcs.length→(fnA d.funcs k).slots.length≤1000) (hT:TypP d.types) (y:AV) (hy:IsImage d y) (g:Nat) (hg:g<d.funcs.length) (x:DInstr) (hx:InstrP x) (hw:WfI x) (hN:NearP d (fnA d.funcs g) x) (l:List Int) (z:AV) (hz:IsSl IsI 1 l z) (hin:InT d.types l) (hlen:l.length≤1000) (m:Mem) (hf:m.floor≤m.stk.length+1):
  OkT tab 383 [y,.int .i64 g,.agg [.int .u8 x.op,.int .i64 x.a,.int .i64 x.b,.int .i64 x.c],z] m (fun r _ _=> ∃q,r= .tup [q,.bool (stS d (fnA d.funcs g) x l).isSome]∧ ∀l',stS d (fnA d.funcs g) x l=some l'→IsSl IsI 1 l' q):=by
 have hy':=hy
 have hs:=(hd.at hg).1
 have hp24:x.op=24→0≤slotT (fnA d.funcs g) x.a:=fun e=>WT hx hw hN hs (k:=0) (by omega) (by right;show(shp x.op).getD 0 45=114;rw[e];rfl)
 have hst:=zaD (d:=d) (f:=fnA d.funcs g) (x:=x) (l:=l) hp24
 have hstin:=fun l' h=>z7m (l':=l') hx hw hN hs hin h
 obtain⟨ty,tx,fs,rfl,h0,h1,h2⟩:=hy
 refine Zv (tT uf) ?_
 obtain⟨stk,cur,nx,live,fl⟩:=m
 dsimp only at hf
 have hf':fl≤(stk++[cur]).length+1:=by simp;omega
 have hpt:0≤pushT (fnA d.funcs g) x→pushT (fnA d.funcs g) x<d.types.length:=fun _=>by
  unfold pushT
  split
  ·exact YA hs _
  ·omega
 have hTl:(takeT d x).length≤9223372036854775807:=by
  unfold takeT
  split
  ·rename_i hcl
   obtain⟨k,hk⟩: ∃k:Nat,called x=k:=⟨(called x).toNat,by omega⟩
   have hkl:k<d.funcs.length:=by have:=hN.2.1;omega
   obtain⟨v0,v1,v2,v3,ef,q0,q1,q2,q3⟩:=h2.fnA hkl
   have h1:=(hd.at hkl).2.1
   have h3:=q0.max
   rw[hk,w10,TL];omega
  ·simp
 simp only[uf,go_sem,G3,G6,G8]
 refine(z78 d hd hsl _ hy' g hg x hN _).xv fun r ts n1 ⟨q,hr,ho⟩=> ?_
 subst hr
 have hlive: ∃e,pushToks ts ([]::live)=e::live:=by cases ts<;>exact⟨_,rfl⟩
 obtain⟨e,he⟩:=hlive
 simp only[he]
 generalize pushT (fnA d.funcs g) x=p at*
 generalize hTe:takeT d x=T at*
 generalize stS d (fnA d.funcs g) x l=res at*
 have hq:=ho.sl (by omega)
 have hsub:IntKind.i64.wrap ((l.length:Int)-T.length)=(l.length:Int)-T.length:=by rw[z7 (by omega) (by omega)]
 simp only[go_sem,G6,G8,hz.len,hq.len,hsub]
 by_cases hle:T.length≤l.length
 ·have hsub2:((l.length:Int)-T.length)=((l.length-T.length:Nat):Int):=by omega
  obtain⟨z1,hz1,hzs1⟩:=hz.fromN (n:=l.length-T.length) (by omega)
  obtain⟨z2,hz2,hzs2⟩:=hz.toN (n:=l.length-T.length) (by omega)
  simp only[go_sem,G6,G8,hsub2,show¬(((l.length-T.length:Nat):Int)<0) by omega,hz1,(tM _ _ _ _ hzs1 hq _).eq]
  by_cases heq:l.drop (l.length-T.length)=T
  ·rw[if_pos ⟨hle,heq⟩] at hst
   have hdt:decide (l.drop (l.length-T.length)=T)=true:=decide_eq_true heq
   simp only[go_sem,G6,G8,hdt,hz2]
   obtain⟨zz2,hzz2,hcc2⟩:=hzs2.elems_any
   have hn:Own IsI 1 (.list 1 .full []) [] e:=Own.full (R:=IsI) (xs:=[]) (ys:=[]) trivial e
   refine hn.xv hzz2 hcc2 (by rw[w1f];simp;omega) fun y3 n3 e3 ho3=> ?_
   rw[w2f] at ho3
   by_cases hp0:0≤p
   ·rw[if_pos hp0] at hst
    simp only[go_sem,G6,G8,show(p≥0)=True from eq_true hp0]
    refine ho3.xv (zd · 1 .full [.int .i64 p]) (ZQ _) (by rw[w1f];simp;omega) fun y4 n4 e4 ho4=> ?_
    have hin4:InT d.types (l.take (l.length-T.length)++[p]):=fun t ht=>by
     rcases w0a.1 ht with a|a
     ·exact hin t (w40 a)
     ·grind
    have hs4:=ho4.sl (by simp;omega)
    have hB:=fun c n lv=>(z1i d hT _ hy' _ _ hs4 hin4 (by simp;omega) ⟨stk++[cur],c,n,lv,fl⟩ hf').eq
    simp only[go_sem,G3,G6,G8,hB]
    refine yo (by simp only[AV.refs,refsAny,ho4.refs];rfl) ?_
    rw[hst]
    by_cases hle2:sumB d.types (l.take (l.length-T.length)++[p])≤4096
    ·rw[if_pos hle2,decide_eq_true (by omega)]
     simp_all
    ·rw[if_neg hle2,decide_eq_false (by omega)]
     simp
   ·rw[if_neg hp0,w1b] at hst
    have hin4:InT d.types (l.take (l.length-T.length)):=fun t ht=>hin t (w40 ht)
    have hs4:=ho3.sl (by rw[w1f];omega)
    have hB:=fun c n lv=>(z1i d hT _ hy' _ _ hs4 hin4 (by rw[w1f];omega) ⟨stk++[cur],c,n,lv,fl⟩ hf').eq
    simp only[go_sem,G3,G6,G8,show(p≥0)=False from eq_false hp0,hB]
    refine yo (by simp only[AV.refs,refsAny,ho3.refs];rfl) ?_
    rw[hst]
    by_cases hle2:sumB d.types (l.take (l.length-T.length))≤4096
    ·rw[if_pos hle2,decide_eq_true (by omega)]
     simp_all
    ·rw[if_neg hle2,decide_eq_false (by omega)]
     simp
  ·rw[if_neg fun a=>heq a.2] at hst
   have hdt:decide (l.drop (l.length-T.length)=T)=false:=decide_eq_false heq
   simp only[go_sem,G6,G8,hdt]
   refine yo rfl ⟨.nils,by rw[hst];rfl,fun l' h=>by rw[hst] at h;cases h⟩
 ·rw[if_neg fun a=>hle a.1] at hst
  simp only[go_sem,G6,G8,show(((l.length:Int)-T.length)<0)=True from eq_true (by omega)]
  refine yo rfl ⟨.nils,by rw[hst];rfl,fun l' h=>by rw[hst] at h;cases h⟩
def i00:DInstr:=⟨0,0,0,0⟩
def inA (l:List DInstr) (k:Nat):DInstr:=l.getD k i00
theorem z5v {l:List DInstr} {j:Nat} (h:j<l.length):l[j]=inA l j:=by simp[inA,w05,h]
theorem _root_.Go.Vs.IsSl.inA {l:List DInstr} {x:AV} (hx:IsSl IsInstr 4 l x) {j:Nat} (h:j<l.length):Vs.nth x j= .agg [.int .u8 (inA l j).op,.int .i64 (inA l j).a,.int .i64 (inA l j).b,.int .i64 (inA l j).c]:=by
 rw[←z5v h];exact hx.nth h
def Ok07 (l:List DInstr):Prop:=(∀j,j<l.length→((inA l j).op=22→(inA l j).a<l.length)∧((inA l j).op=23→(inA l j).b<l.length))∧inA l (l.length-1)=⟨34,-1,0,0⟩
def nxt1 (x:DInstr) (i:Nat):List Nat:=
 if x.op=34∨x.op=28∨x.op=30 then [] else if x.op=22 then [x.a.toNat] else if x.op=23 then(if x.b=i+1 then [i+1] else [min (i+1) x.b.toNat,max (i+1) x.b.toNat]) else [i+1]
def nxt (l:List DInstr) (i:Nat):List Nat:=nxt1 (inA l i) i
theorem V3 (l:List DInstr) (i:Nat):(nxt l i).length≤2:=by unfold nxt nxt1;(repeat' split)<;>simp
def LI (lo lv:Nat) (cur:List Blk) (y:AV) (l:List Nat):Prop:=
 (IsSl IsN 1 l y∧y.toks=[])∨ ∃k st cs,y= .grow 1 lv k st l.length∧cur[k]? =some ⟨st,cs⟩∧l.length≤cs.length∧cs.take l.length=ints l∧lo≤k
theorem LI.len {lo lv:Nat} {cur:List Blk} {y:AV} {l:List Nat} (h:LI lo lv cur y l):evLen y=some (.int .i64 l.length):=by
 rcases h with h|⟨k,st,cs,rfl,_⟩
 ·exact h.1.len
 ·rfl
theorem kD {cs:List AV} {l:List Nat} (h:cs.take l.length=ints l) (hl:l.length≤cs.length) {j:Nat} (hj:j<l.length):takeV false 1 (cs.drop j)=some (.int .i64 (l[j]:Nat)):=by
 have hc:cs[j]? =some (.int .i64 (l[j]:Nat)):=by
  have:(cs.take l.length)[j]? =(ints l)[j]? :=by rw[h]
  rw[w41,if_pos hj] at this
  rw[this]
  simp[ints,hj]
 refine li _ _ ?_
 simp_all
theorem isN1 (a:Nat) (tk:Tok):IsSl IsN 1 [a] (.list 1 tk [.int .i64 (a:Nat)]):= .mk ⟨rfl,trivial⟩ (by simp)
theorem isN2 (a b:Nat) (tk:Tok):IsSl IsN 1 [a,b] (.list 1 tk [.int .i64 (a:Nat),.int .i64 (b:Nat)]):= .mk ⟨rfl,rfl,trivial⟩ (by simp)
theorem z5j {l:List DInstr} {i:Nat} (h:(inA l i).op=34∨(inA l i).op=28∨(inA l i).op=30):nxt l i=[]:=by unfold nxt nxt1;rw[if_pos h]
theorem z2y {l:List DInstr} {i:Nat} (h:(inA l i).op=22):nxt l i=[(inA l i).a.toNat]:=by unfold nxt nxt1;rw[if_neg (by omega),if_pos h]
theorem z5l {l:List DInstr} {i:Nat} (h:(inA l i).op=23) (h':(inA l i).b=i+1):nxt l i=[i+1]:=by unfold nxt nxt1;rw[if_neg (by omega),if_neg (by omega),if_pos h,if_pos h']
theorem z5k {l:List DInstr} {i:Nat} (h:(inA l i).op=23) (h':(inA l i).b≠i+1):nxt l i=[min (i+1) (inA l i).b.toNat,max (i+1) (inA l i).b.toNat]:=by unfold nxt nxt1;rw[if_neg (by omega),if_neg (by omega),if_pos h,if_neg h']
theorem z2z {l:List DInstr} {i:Nat} (h: ¬((inA l i).op=34∨(inA l i).op=28∨(inA l i).op=30)) (h2:(inA l i).op≠22) (h3:(inA l i).op≠23):nxt l i=[i+1]:=by unfold nxt nxt1;rw[if_neg h,if_neg h2,if_neg h3]
def Jmp (x:DInstr):Prop:=(x.op=22→0≤x.a)∧(x.op=23→0≤x.b)
theorem Tv (l:List DInstr) (x:AV) (hx:IsSl IsInstr 4 l x) (i:Nat) (hi:i<l.length) (hj:Jmp (inA l i)) (m:Mem):Ok tab 380 [x,.int .i64 i] m (fun r=>IsSl IsN 1 (nxt l i) r∧r.toks=[]):=by
 refine z2x (tT vH) ?_
 obtain⟨stk,cur,nx,live,fl⟩:=m
 have hmx:=hx.max
 have hsu:IntKind.i64.wrap ((i:Int)+1)=((i+1:Nat):Int):=zc hi hmx
 simp only[vH,go_sem,G3,G6,G8,hx.at _ hi,hx.inA hi]
 by_cases h:(inA l i).op=34∨(inA l i).op=28∨(inA l i).op=30
 ·rw[z5j h]
  repeat' (((first|refine uN ?_ ?_|refine yY ?_ ?_|refine yZ ?_ ?_|refine yW ?_ ?_|refine yX ?_ ?_)<;>intro hq)<;>simp only[go_sem,G6,G8,hq])
  all_goals first
   |(rw[z5 rfl rfl,z6];exact⟨⟨_,rfl⟩,.nil 1,rfl⟩)
   |(exfalso;simp only[beq_iff_eq,beq_eq_false_iff_ne,ne_eq] at*;omega)
 have e1:((inA l i).op==34)=false:=by rw[beq_eq_false_iff_ne];omega
 have e2:((inA l i).op==28)=false:=by rw[beq_eq_false_iff_ne];omega
 have e3:((inA l i).op==30)=false:=by rw[beq_eq_false_iff_ne];omega
 by_cases h2:(inA l i).op=22
 ·have e4:((inA l i).op==22)=true:=by simpa using h2
  simp only[go_sem,G6,G8,e1,e2,e3,e4]
  rw[z5 rfl rfl,z6,z2y h2]
  have ha:=hj.1 h2
  refine⟨⟨_,rfl⟩,?_,rfl⟩
  have:=isN1 (inA l i).a.toNat .full
  grind
 have e4:((inA l i).op==22)=false:=by simpa using h2
 by_cases h3:(inA l i).op=23
 ·have e5:((inA l i).op==23)=true:=by simpa using h3
  have hb:=hj.2 h3
  by_cases h4:(inA l i).b=i+1
  ·have e6:((inA l i).b==((i+1:Nat):Int))=true:=by rw[beq_iff_eq];omega
   simp only[go_sem,G6,G8,e1,e2,e3,e4,e5,hsu,e6]
   rw[z5 rfl rfl,z6,z5l h3 h4]
   exact⟨⟨_,rfl⟩,isN1 _ _,rfl⟩
  ·have e6:((inA l i).b==((i+1:Nat):Int))=false:=by rw[beq_eq_false_iff_ne];omega
   have e7:(if(inA l i).b<((i+1:Nat):Int) then(inA l i).b else((i+1:Nat):Int))=((min (i+1) (inA l i).b.toNat:Nat):Int):=by split<;>omega
   have e8:(if(inA l i).b>((i+1:Nat):Int) then(inA l i).b else((i+1:Nat):Int))=((max (i+1) (inA l i).b.toNat:Nat):Int):=by split<;>omega
   simp only[go_sem,G6,G8,e1,e2,e3,e4,e5,hsu,e6,e7,e8]
   rw[z5 rfl rfl,z6,z5k h3 h4]
   exact⟨⟨_,rfl⟩,isN2 _ _ _,rfl⟩
 have e5:((inA l i).op==23)=false:=by simpa using h3
 simp only[go_sem,G6,G8,e1,e2,e3,e4,e5,hsu]
 rw[z5 rfl rfl,z6,z2z h h2 h3]
 exact⟨⟨_,rfl⟩,isN1 _ _,rfl⟩
def CallLI (f:Nat) (args:List AV) (l:List Nat) (w:AV→AV) (m:Mem):Prop:=
 ∃y bs k,CALL tab f args m=some (w y,{m with cur:=m.cur++bs,nx:=k})∧LI m.cur.length m.stk.length (m.cur++bs) y l
theorem ZC {m0:Mem} {stk:List (List Blk)} {cur c':List Blk} {nx' fl':Nat} {own:List Nat} {live':List (List Nat)} {y:AV} (h1:y.refs (stk++[cur]).length=false) (h2:y.toks=[]):
  leave m0 ⟨stk++[cur],c',nx',own::live',fl'⟩ y=some (y,⟨stk,cur++[],nx',live',m0.floor⟩):=by
 rw[w1b];exact yH h1 h2
theorem YI {m0:Mem} {stk:List (List Blk)} {cur c':List Blk} {nx' fl':Nat} {own:List Nat} {live':List (List Nat)} {k st s n:Nat} {w:AV→AV} (hw:w=id∨w=fun y=> .tup [y,.int .i64 0]):
  ∃bs:List Blk,leave m0 ⟨stk++[cur],c',nx',own::live',fl'⟩ (w (.grow s (stk++[cur]).length k st n))=some (w (.grow s stk.length (k+cur.length) st n),⟨stk,cur++bs,nx',live',m0.floor⟩)∧
   bs=c'.map fun b=>⟨b.st,shiftAll (stk++[cur]).length ((stk++[cur]).length-1) cur.length b.cs⟩:=by
 have e:own.filter (fun _=>false)=[]:=by simp
 refine⟨_,?_,rfl⟩
 rcases hw with rfl|rfl
 ·unfold leave
  simp only[id,w59,w4a,Option.some_or,AV.refs,beq_self_eq_true,if_true,AV.toks,List.contains_nil,e,pushToks,w5a,AV.shift]
  simp
 ·unfold leave
  simp only[w59,w4a,Option.some_or,AV.refs,refsAny,beq_self_eq_true,Bool.true_or,if_true,AV.toks,toksAll,w1b,List.contains_nil,e,pushToks,w5a,AV.shift,shiftAll]
  simp
theorem z0J {f:Nat} {fn:AFunc} (h:tab f=some fn) {args:List AV} {l:List Nat} {w:AV→AV} {m:Mem} (hx:X tab fn.body (mk fn.ntmps (.tup []) (numb 0 args)) (enter m) (.fin fn.res m fun v m'=> ∃y bs k,v=w y∧m'={m with cur:=m.cur++bs,nx:=k}∧LI m.cur.length m.stk.length (m.cur++bs) y l)) (hn:args.length≤fn.ntmps:=by exact Nat.le_of_ble_eq_true rfl):
  CallLI f args l w m:=by
 obtain⟨x,h1,y,bs,k,h2,h3,h4⟩:=yq h hx hn;exact⟨y,bs,k,by rw[h1,←h2,←h3],h4⟩
theorem QB {stk:List (List Blk)} {cur c' bs:List Blk} {k st:Nat} {cs:List AV} {l:List Nat} (hb:bs=c'.map fun b=>(⟨b.st,shiftAll (stk++[cur]).length ((stk++[cur]).length-1) cur.length b.cs⟩:Blk)) (hk:c'[k]? =some ⟨st,cs⟩) (hl:l.length≤cs.length) (ht:cs.take l.length=ints l):
  LI cur.length stk.length (cur++bs) (.grow 1 stk.length (k+cur.length) st l.length) l:=by
 have hlen: ∀(a b c:Nat) (xs:List AV),(shiftAll a b c xs).length=xs.length:=fun a b c xs=>yI a b c xs
 have htk: ∀(a b c n:Nat) (xs:List AV),(shiftAll a b c xs).take n=shiftAll a b c (xs.take n):=by
  intro a b c n xs
  induction xs generalizing n with
  |nil=>simp[shiftAll]
  |cons x r ih=>cases n<;>simp[shiftAll,ih]
 refine .inr ⟨k+cur.length,st,shiftAll (stk++[cur]).length ((stk++[cur]).length-1) cur.length cs,rfl,?_,by rw[hlen];exact hl,by rw[htk,ht,Wd],by omega⟩
 grind
theorem z26 (l:List DInstr) (x:AV) (hx:IsSl IsInstr 4 l x) (i:Nat) (hi:i<l.length) (hj:Jmp (inA l i)) (m:Mem) (hf:m.floor≤m.stk.length+1):CallLI 375 [x,.int .i64 i] (nxt l i) id m:=by
 refine z0J (tT kR) ?_
 obtain⟨stk,cur,nx,live,fl⟩:=m
 dsimp only at hf
 have hmx:=hx.max
 have hsu:IntKind.i64.wrap ((i:Int)+1)=((i+1:Nat):Int):=zc hi hmx
 have hf':fl≤(stk++[cur]).length:=by simp;omega
 simp only[kR,go_sem,G3,G6,G8,hx.at _ hi,hx.inA hi]
 by_cases h:(inA l i).op=34∨(inA l i).op=28∨(inA l i).op=30
 ·rw[z5j h]
  repeat' (((first|refine uN ?_ ?_|refine yY ?_ ?_|refine yZ ?_ ?_|refine yW ?_ ?_|refine yX ?_ ?_)<;>intro hq)<;>simp only[go_sem,G6,G8,hq])
  all_goals first
   |(rw[ZC rfl rfl,z6];exact⟨_,[],_,rfl,rfl,.inl ⟨.nil 1,rfl⟩⟩)
   |(exfalso;simp only[beq_iff_eq,beq_eq_false_iff_ne,ne_eq] at*;omega)
 have e1:((inA l i).op==34)=false:=by rw[beq_eq_false_iff_ne];omega
 have e2:((inA l i).op==28)=false:=by rw[beq_eq_false_iff_ne];omega
 have e3:((inA l i).op==30)=false:=by rw[beq_eq_false_iff_ne];omega
 by_cases h2:(inA l i).op=22
 ·have e4:((inA l i).op==22)=true:=by simpa using h2
  simp only[go_sem,G6,G8,e1,e2,e3,e4]
  rw[ZC rfl rfl,z6,z2y h2]
  have ha:=hj.1 h2
  refine⟨_,[],_,rfl,rfl,.inl ⟨?_,rfl⟩⟩
  have:=isN1 (inA l i).a.toNat .full
  grind
 have e4:((inA l i).op==22)=false:=by simpa using h2
 by_cases h3:(inA l i).op=23
 ·have e5:((inA l i).op==23)=true:=by simpa using h3
  have hb:=hj.2 h3
  simp only[go_sem,G3,G6,G8,e1,e2,e3,e4,e5,hsu,evLitB,w27,List.flatMap_nil]
  have hS:=fun nz=>(zav ((i+1:Nat):Int) (inA l i).b (stk++[cur]) [⟨nx,[.int .u8 (inA l i).op,.int .i64 (inA l i).a,.int .i64 (inA l i).b,.int .i64 (inA l i).c]⟩,⟨nx+1,[.int .i64 ((i+1:Nat):Int),.int .i64 (inA l i).b]⟩] nz fl ([]::live) (stk++[cur]).length 1 (nx+1) (w08 _) hf' (by simp[Mem.blk,Mem.row])).eq
  simp only[go_sem,G6,G8,hS,Th]
  by_cases h4:(inA l i).b=i+1
  ·have e6:min ((i+1:Nat):Int) (inA l i).b=((i+1:Nat):Int):=by omega
   have e7:max ((i+1:Nat):Int) (inA l i).b=((i+1:Nat):Int):=by omega
   have hC:=fun nz=>(z1h ((i+1:Nat):Int) (stk++[cur]) [⟨nx,[.int .u8 (inA l i).op,.int .i64 (inA l i).a,.int .i64 (inA l i).b,.int .i64 (inA l i).c]⟩,⟨nx+1,[.int .i64 ((i+1:Nat):Int),.int .i64 ((i+1:Nat):Int)]⟩] nz fl ([]::live) (stk++[cur]).length 1 (nx+1) (w08 _) hf' (by simp[Mem.blk,Mem.row])).eq
   simp only[go_sem,G6,G8,e6,e7,hC,Th]
   obtain⟨bs,hbs,hbe⟩:=YI (m0:=⟨stk,cur,nx,live,fl⟩) (stk:=stk) (cur:=cur) (c':=[⟨nx,[.int .u8 (inA l i).op,.int .i64 (inA l i).a,.int .i64 (inA l i).b,.int .i64 (inA l i).c]⟩,⟨nx+1,[.int .i64 ((i+1:Nat):Int),.int .i64 0]⟩]) (nx':=setsNx tab 389 [.grow 1 (stk++[cur]).length 1 (nx+1) 2] ⟨stk++[cur],[⟨nx,[.int .u8 (inA l i).op,.int .i64 (inA l i).a,.int .i64 (inA l i).b,.int .i64 (inA l i).c]⟩,⟨nx+1,[.int .i64 ((i+1:Nat):Int),.int .i64 ((i+1:Nat):Int)]⟩],setsNx tab 388 [.grow 1 (stk++[cur]).length 1 (nx+1) 2] ⟨stk++[cur],[⟨nx,[.int .u8 (inA l i).op,.int .i64 (inA l i).a,.int .i64 (inA l i).b,.int .i64 (inA l i).c]⟩,⟨nx+1,[.int .i64 ((i+1:Nat):Int),.int .i64 (inA l i).b]⟩],nx+1+1,[]::live,fl⟩,[]::live,fl⟩) (own:=[]) (live':=live) (fl':=fl) (k:=1) (st:=nx+1) (s:=1) (n:=1) (w:=id) (.inl rfl)
   simp only[id] at hbs
   rw[hbs,z6,z5l h3 h4]
   exact⟨_,bs,_,rfl,rfl,QB (l:=[i+1]) hbe rfl (by simp) rfl⟩
  ·have hC:=fun nz=>(z1g (min ((i+1:Nat):Int) (inA l i).b) (max ((i+1:Nat):Int) (inA l i).b) (by omega) (stk++[cur]) [⟨nx,[.int .u8 (inA l i).op,.int .i64 (inA l i).a,.int .i64 (inA l i).b,.int .i64 (inA l i).c]⟩,⟨nx+1,[.int .i64 (min ((i+1:Nat):Int) (inA l i).b),.int .i64 (max ((i+1:Nat):Int) (inA l i).b)]⟩] nz fl ([]::live) (stk++[cur]).length 1 (nx+1) (w08 _) (by simp[Mem.blk,Mem.row])).eq
   simp only[go_sem,G6,G8,hC]
   generalize callNx tab 389 _ _=kk
   obtain⟨bs,hbs,hbe⟩:=YI (m0:=⟨stk,cur,nx,live,fl⟩) (stk:=stk) (cur:=cur) (c':=[⟨nx,[.int .u8 (inA l i).op,.int .i64 (inA l i).a,.int .i64 (inA l i).b,.int .i64 (inA l i).c]⟩,⟨nx+1,[.int .i64 (min ((i+1:Nat):Int) (inA l i).b),.int .i64 (max ((i+1:Nat):Int) (inA l i).b)]⟩]) (nx':=kk) (own:=[]) (live':=live) (fl':=fl) (k:=1) (st:=nx+1) (s:=1) (n:=2) (w:=id) (.inl rfl)
   simp only[id] at hbs
   rw[hbs,z6,z5k h3 h4]
   refine⟨_,bs,_,rfl,rfl,QB (l:=[min (i+1) (inA l i).b.toNat,max (i+1) (inA l i).b.toNat]) hbe rfl (by simp) ?_⟩
   simp only[ints,w2e,List.map_nil,w46,w45,w0f,w15]
   rw[show(min ((i+1:Nat):Int) (inA l i).b)=((min (i+1) (inA l i).b.toNat:Nat):Int) by omega,show(max ((i+1:Nat):Int) (inA l i).b)=((max (i+1) (inA l i).b.toNat:Nat):Int) by omega]
 have e5:((inA l i).op==23)=false:=by simpa using h3
 simp only[go_sem,G6,G8,e1,e2,e3,e4,e5,hsu]
 rw[ZC rfl rfl,z6,z2z h h2 h3]
 exact⟨_,[],_,rfl,rfl,.inl ⟨isN1 _ _,rfl⟩⟩
end Go.Proofs.W
end
section
namespace Go.Vs
section
variable (nx : Nat → List Nat)
inductive Rch:Nat→Prop
 |zero:Rch 0
 |step {i k:Nat}:Rch i→k∈nx i→Rch k
structure RInv (n:Nat) (s:List Bool):Prop where
 len:s.length=n
 zero:s.getD 0 false=true
 sub: ∀i,s.getD i false=true→Rch nx i
theorem RInv.set {n k i:Nat} {s:List Bool} (h:RInv nx n s) (hi:s.getD i false=true) (hk:k∈nx i):RInv nx n (s.set k true):=by
 refine⟨by simp[h.len],?_,fun j hj=> ?_⟩
 ·simp only[w05,List.getElem?_set]
  have:=h.zero
  grind
 ·by_cases e:k=j
  ·subst e;exact .step (h.sub i hi) hk
  ·refine h.sub j ?_
   grind
theorem RInv.all {n:Nat} {s:List Bool} (h:RInv nx n s) (hc: ∀i,s.getD i false=true→ ∀k∈nx i,s.getD k false=true) (i:Nat):s.getD i false=true↔Rch nx i:=by
 refine⟨h.sub i,fun hr=> ?_⟩
 induction hr with
 |zero=>exact h.zero
 |step _ hk ih=>exact hc _ ih _ hk
def unm (s:List Bool):Nat:=(s.filter fun b=> !b).length
theorem WO {s:List Bool} {k:Nat} (hk:k<s.length) (h:s.getD k false=false):unm (s.set k true)+1=unm s:=by
 induction s generalizing k with
 |nil=>simp at hk
 |cons b s ih=>
  cases k with
  |zero=>
   have:b=false:=by simpa using h
   subst this
   simp[unm]
  |succ k=>
   have:=ih (k:=k) (by simpa using hk) (by simpa using h)
   unfold unm at this⊢
   grind
theorem tP {s:List Bool} {k:Nat} (hk:k<s.length):(s.set k true).getD k false=true:=by
 grind
theorem zX {s:List Bool} {k j:Nat} (h:s.getD j false=true):(s.set k true).getD j false=true:=by
 grind
theorem getD_set_ne {α:Type} {s:List α} {k j:Nat} {v d:α} (h:k≠j):(s.set k v).getD j d=s.getD j d:=by
 grind
theorem getD_set_eq {α:Type} {s:List α} {k:Nat} {v d:α} (h:k<s.length):(s.set k v).getD k d=v:=by
 grind
variable (st : Nat → List Int → Option (List Int))
inductive Lab:Nat→List Int→Prop
 |zero:Lab 0 []
 |step {i k:Nat} {l l':List Int}:Lab i l→st i l=some l'→k∈nx i→Lab k l'
def GoodS (n:Nat):Prop:=(∀i l,Lab nx st i l→(st i l).isSome=true)∧(∀i l l',Lab nx st i l→Lab nx st i l'→l=l')
def LastS (n:Nat):Prop:= ∀l,Lab nx st (n-1) l→l=[]
noncomputable def labOf (i:Nat):List Int:=open Classical in if h: ∃l,Lab nx st i l then h.choose else []
structure SInv (n:Nat) (kn:List Bool) (out:List (List Int)):Prop where
 len1:kn.length=n
 len2:out.length=n
 zero:kn.getD 0 false=true∧out.getD 0 []=[]
 lab: ∀i,kn.getD i false=true→Lab nx st i (out.getD i [])
 un: ∀i,kn.getD i false=false→out.getD i []=[]
theorem SInv.set {n k i:Nat} {kn:List Bool} {out:List (List Int)} {l:List Int} (h:SInv nx st n kn out) (hkn:k<n) (hu:kn.getD k false=false) (hi:kn.getD i false=true) (hs:st i (out.getD i [])=some l) (hk:k∈nx i):SInv nx st n (kn.set k true) (out.set k l):=by
 have h0:k≠0:=fun e=>by subst e;rw[h.zero.1] at hu;cases hu
 refine⟨by simp[h.len1],by simp[h.len2],⟨zX h.zero.1,by rw[getD_set_ne h0];exact h.zero.2⟩,fun j hj=> ?_,fun j hj=> ?_⟩
 ·by_cases e:k=j
  ·subst e
   rw[getD_set_eq (by rw[h.len2];exact hkn)]
   exact .step (h.lab i hi) hs hk
  ·rw[getD_set_ne e] at hj⊢;exact h.lab j hj
 ·by_cases e:k=j
  ·subst e;rw[getD_set_eq (by rw[h.len1];exact hkn)] at hj;cases hj
  ·rw[getD_set_ne e] at hj⊢;exact h.un j hj
theorem SInv.all {n:Nat} {kn:List Bool} {out:List (List Int)} (h:SInv nx st n kn out) (hc: ∀i,kn.getD i false=true→ ∃l,st i (out.getD i [])=some l∧ ∀k∈nx i,kn.getD k false=true∧out.getD k []=l):
  GoodS nx st n∧ ∀i,out.getD i []=labOf nx st i:=by
 have key: ∀i l,Lab nx st i l→kn.getD i false=true∧l=out.getD i []:=by
  intro i l hl
  induction hl with
  |zero=>exact⟨h.zero.1,h.zero.2.symm⟩
  |step _ hs hk ih=>
   grind
 refine⟨⟨fun i l hl=> ?_,fun i l l' h1 h2=> ?_⟩,fun i=> ?_⟩
 ·grind
 ·grind
 ·unfold labOf
  split
  ·grind
  ·rename_i he
   cases hk:kn.getD i false with
   |true=>exact absurd ⟨_,h.lab i hk⟩ he
   |false=>exact h.un i hk
theorem XV {n i:Nat} {kn:List Bool} {out:List (List Int)} (h:SInv nx st n kn out) (hi:kn.getD i false=true) (hs:st i (out.getD i [])=none): ¬GoodS nx st n:=fun hg=>by
 have:=hg.1 i _ (h.lab i hi);rw[hs] at this;cases this
theorem V4 {n i k:Nat} {kn:List Bool} {out:List (List Int)} {l:List Int} (h:SInv nx st n kn out) (hi:kn.getD i false=true) (hs:st i (out.getD i [])=some l) (hk:k∈nx i) (hkn:kn.getD k false=true) (hne:out.getD k []≠l): ¬GoodS nx st n:=fun hg=>
 hne (hg.2 k _ _ (h.lab k hkn) (.step (h.lab i hi) hs hk))
theorem z2P {n:Nat} (hg:GoodS nx st n):LastS nx st n↔labOf nx st (n-1)=[]:=by
 unfold LastS labOf
 split
 ·rename_i he
  exact⟨fun h=>h _ he.choose_spec,fun h l hl=>by rw[←h];exact hg.2 _ _ _ hl he.choose_spec⟩
 ·grind
variable (W : Nat → Nat) (p0 : Nat)
def Sub (a b:Nat):Prop:= ∀s,a.testBit s=true→b.testBit s=true
theorem Sub.refl (a:Nat):Sub a a:=fun _ h=>h
theorem Sub.trans {a b c:Nat} (h:Sub a b) (k:Sub b c):Sub a c:=fun s x=>k s (h s x)
theorem Sub.antisymm {a b:Nat} (h:Sub a b) (k:Sub b a):a=b:=Nat.eq_of_testBit_eq fun s=>by
 rw[Bool.eq_iff_iff];exact⟨h s,k s⟩
theorem Sub.and {a b c:Nat} (h:Sub a b) (k:Sub a c):Sub a (b&&&c):=fun s x=>by rw[Nat.testBit_and,h s x,k s x];rfl
theorem Sub.or {a b c d:Nat} (h:Sub a b) (k:Sub c d):Sub (a|||c) (b|||d):=fun s x=>by
 rw[Nat.testBit_or,w31] at x⊢;exact x.imp (h s) (k s)
theorem XD (a b:Nat):Sub (a&&&b) a:=fun s x=>by rw[Nat.testBit_and,w09] at x;exact x.1
theorem Ua (a b:Nat):Sub (a&&&b) b:=fun s x=>by rw[Nat.testBit_and,w09] at x;exact x.2
theorem z7C {a b c:Nat} (h:Sub a c) (k:Sub b c):Sub (a|||b) c:=fun s x=>by
 rw[Nat.testBit_or,w31] at x;exact x.elim (h s) (k s)
theorem Sub.le {a b:Nat} (h:Sub a b):a≤b:=by
 have:a&&&b=a:=Sub.antisymm (XD a b) (Sub.and (.refl a) h)
 rw[←this];exact Nat.and_le_right
def Sol (M:Nat→Nat):Prop:=Sub (M 0) p0∧ ∀i,Rch nx i→ ∀k∈nx i,Sub (M k) (M i|||W i)
def Great (out:Nat→Nat):Prop:=(∀i,¬Rch nx i→out i=0)∧Sol nx W p0 out∧ ∀M,Sol nx W p0 M→ ∀i,Rch nx i→Sub (M i) (out i)
theorem Great.unique {a b:Nat→Nat} (h:Great nx W p0 a) (k:Great nx W p0 b) (i:Nat):a i=b i:=by
 by_cases hr:Rch nx i
 ·exact Sub.antisymm (k.2.2 _ h.2.1 i hr) (h.2.2 _ k.2.1 i hr)
 ·rw[h.1 i hr,k.1 i hr]
noncomputable def mskOf (i:Nat):Nat:=open Classical in if h: ∃o,Great nx W p0 o then h.choose i else 0
theorem Great.is {o:Nat→Nat} (h:Great nx W p0 o) (i:Nat):o i=mskOf nx W p0 i:=by
 unfold mskOf
 rw[dif_pos ⟨o,h⟩]
 exact h.unique nx W p0 (Exists.choose_spec (⟨o,h⟩: ∃o,Great nx W p0 o)) i
theorem Great.le {n a:Nat} {o:Nat→Nat} (h:Great nx W p0 o) (hp:Sub p0 a) (hw: ∀i,Sub (W i) a) (i:Nat):Sub (o i) a:=by
 by_cases hr:Rch nx i
 ·induction hr with
  |zero=>exact h.2.1.1.trans hp
  |step hr hk ih=>exact(h.2.1.2 _ hr _ hk).trans (z7C ih (hw _))
 ·rw[h.1 i hr];intro s hs;simp at hs
end
section
variable {σ : Type} (upd : σ → Nat → Option Nat → σ × Bool)
def procK (i:Nat) (p:σ×List Nat) (k:Nat):σ×List Nat:=((upd p.1 k (some i)).1,if(upd p.1 k (some i)).2 then p.2++[k] else p.2)
def proc (i:Nat) (ks:List Nat) (p:σ×List Nat):σ×List Nat:=ks.foldl (procK upd i) p
theorem z64 {i j:Nat} {ks:List Nat} (h:j<ks.length) (p:σ×List Nat):proc upd i (ks.take (j+1)) p=procK upd i (proc upd i (ks.take j) p) ks[j]:=by
 unfold proc;rw[w0c h,List.foldl_append];rfl
theorem z65 {i k:Nat} {p:σ×List Nat}:(procK upd i p k).2.length≤p.2.length+1:=by
 unfold procK;simp only;split<;>simp
theorem z2t {i:Nat}: ∀(ks:List Nat) (p:σ×List Nat),(proc upd i ks p).2.length≤p.2.length+ks.length
 | [],_=>by simp[proc]
 |k::ks,p=>by
  have:=z2t (i:=i) ks (procK upd i p k)
  have h1:=z65 upd (i:=i) (k:=k) (p:=p)
  unfold proc at this⊢
  grind
end
theorem z2s {σ:Type} (upd:σ→Nat→Option Nat→σ×Bool) (i:Nat) (p:σ×List Nat):proc upd i [] p=p:=rfl
section
variable (nx : Nat → List Nat) (n : Nat)
def updR (s:List Bool) (k:Nat) (_:Option Nat):List Bool×Bool:=(s.set k true,!(s.getD k false))
structure RJ (s:List Bool) (op:List Nat):Prop where
 r:RInv nx n s
 cl: ∀j,s.getD j false=true→j∈op∨ ∀k∈nx j,s.getD k false=true
 o: ∀j∈op,j<n∧s.getD j false=true
 b:op.length+unm s≤n
structure RK (i:Nat) (done:List Nat) (M:Nat) (s:List Bool) (op:List Nat):Prop where
 r:RInv nx n s
 cl: ∀j,s.getD j false=true→j=i∨j∈op∨ ∀k∈nx j,s.getD k false=true
 o: ∀j∈op,j<n∧s.getD j false=true
 b:op.length+unm s+1≤n
 i:s.getD i false=true
 d: ∀k∈done,s.getD k false=true
 m:2*unm s+op.length+1≤M
theorem z2m {s:List Bool} {k:Nat} (h:s.getD k false=true):s.set k true=s:=by
 apply w20
 grind
theorem RK.k {i k M:Nat} {done:List Nat} {s:List Bool} {op:List Nat} (h:RK nx n i done M s op) (hk:k∈nx i) (hkn:k<n):RK nx n i (done++[k]) M (procK updR i (s,op) k).1 (procK updR i (s,op) k).2:=by
 unfold procK updR
 dsimp only
 by_cases hs:s.getD k false=true
 ·rw[z2m hs,hs]
  exact⟨h.r,h.cl,h.o,h.b,h.i,fun k' hk'=>by rcases w0a.1 hk' with q|q;·exact h.d k' q
                                            ·rw[w1a.1 q];exact hs,h.m⟩
 ·have hs':s.getD k false=false:=by simpa using hs
  rw[hs']
  have hkl:k<s.length:=by rw[h.r.len];exact hkn
  have hu:=WO hkl hs'
  refine⟨h.r.set nx h.i hk,fun j hj=> ?_,fun j hj=> ?_,?_,zX h.i,fun k' hk'=> ?_,?_⟩
  ·by_cases e:k=j
   ·grind
   ·rw[getD_set_ne e] at hj
    rcases h.cl j hj with q|q|q
    ·exact .inl q
    ·grind
    ·grind
  ·simp only[Bool.not_false,if_true,w0a,w1a] at hj
   rcases hj with q|rfl
   ·exact⟨(h.o j q).1,zX (h.o j q).2⟩
   ·grind
  ·simp only[Bool.not_false,if_true,w0e,w2c]
   have:=h.b;omega
  ·rcases w0a.1 hk' with q|q
   ·exact zX (h.d k' q)
   ·grind
  ·simp only[Bool.not_false,if_true,w0e,w2c]
   have:=h.m;omega
theorem RK.all {i M:Nat}: ∀{ks done:List Nat} {s:List Bool} {op:List Nat},RK nx n i done M s op→(∀k∈ks,k∈nx i∧k<n)→RK nx n i (done++ks) M (proc updR i ks (s,op)).1 (proc updR i ks (s,op)).2
 | [],done,s,op,h,_=>by rw[w1b,z2s];exact h
 |k::ks,done,s,op,h,hk=>by
  have h1:=h.k nx n (hk k w1d).1 (hk k w1d).2
  have:=RK.all h1 (fun k' hk'=>hk k' (w2a _ hk'))
  rw[w16,List.singleton_append] at this
  trivial
theorem RJ.pop {s:List Bool} {op:List Nat} {i:Nat} (h:RJ nx n s (op++[i])):RK nx n i [] (2*unm s+(op++[i]).length) s op:=by
 refine⟨h.r,fun j hj=> ?_,fun j hj=>h.o j (w4f _ hj),?_,(h.o i (by simp)).2,fun k hk=>(by cases hk),?_⟩
 ·rcases h.cl j hj with q|q
  ·grind
  ·grind
 ·have:=h.b;simp at this;omega
 ·simp;omega
theorem RJ.next (hnx: ∀i,i<n→ ∀k∈nx i,k<n) {s:List Bool} {op:List Nat} {i:Nat} (h:RJ nx n s (op++[i])):
  RJ nx n (proc updR i (nx i) (s,op)).1 (proc updR i (nx i) (s,op)).2∧2*unm (proc updR i (nx i) (s,op)).1+(proc updR i (nx i) (s,op)).2.length<2*unm s+(op++[i]).length:=by
 have hi:=(h.o i (by simp)).1
 have:=RK.all nx n (h.pop nx n) (ks:=nx i) (fun k hk=>⟨hk,hnx i hi k hk⟩)
 rw[w2f] at this
 refine⟨⟨this.r,fun j hj=> ?_,this.o,by have:=this.b;omega⟩,by have:=this.m;omega⟩
 rcases this.cl j hj with q|q|q
 ·subst q;exact .inr this.d
 ·exact .inl q
 ·exact .inr q
theorem RJ.done {s:List Bool} (h:RJ nx n s []) (i:Nat):s.getD i false=true↔Rch nx i:=
 h.r.all nx (fun j hj=>(h.cl j hj).elim (fun q=>by cases q) id) i
theorem RJ.start (hn:0<n):RJ nx n ((List.replicate n false).set 0 true) [0]:=by
 have hl:0<(List.replicate n false).length:=by simpa using hn
 have hg: ∀j,(List.replicate n false).getD j false=false:=fun j=>by
  grind
 have hu:unm (List.replicate n false)=n:=by unfold unm;rw[List.filter_eq_self.2 (by simp)];simp
 have h1:=WO hl (hg 0)
 refine⟨⟨by simp,tP hl,fun j hj=> ?_⟩,fun j hj=> ?_,fun j hj=> ?_,?_⟩
 ·by_cases e:0=j
  ·subst e;exact .zero
  ·grind
 ·grind
 ·grind
 ·grind
def ledK (p:List Bool×Bool) (k:Nat):List Bool×Bool:=if p.1.getD k false then p else(p.1.set k true,true)
def ledI (p:List Bool×Bool) (i:Nat):List Bool×Bool:=if p.1.getD i false then(nx i).foldl ledK p else p
def ledR (s:List Bool):Nat→List Bool×Bool
 |0=>(s,false)
 |i+1=>ledI nx (ledR s i) i
structure LK (s:List Bool) (j:Nat) (p:List Bool×Bool):Prop where
 r:RInv nx n p.1
 le:unm p.1≤unm s
 eq:p.2=false→p.1=s∧ ∀i,i<j→s.getD i false=true→ ∀k∈nx i,s.getD k false=true
 lt:p.2=true→unm p.1<unm s
theorem VY {s:List Bool} {j i:Nat}: ∀{ks done:List Nat} {p:List Bool×Bool},LK nx n s j p→p.1.getD i false=true→(∀k∈ks,k∈nx i∧k<n)→(p.2=false→ ∀k∈done,s.getD k false=true)→
  LK nx n s j (ks.foldl ledK p)∧(ks.foldl ledK p).1.getD i false=true∧((ks.foldl ledK p).2=false→ ∀k∈done++ks,s.getD k false=true)
 | [],done,p,h,hi,_,hd=>⟨h,hi,by rw[w1b];exact hd⟩
 |k::ks,done,p,h,hi,hk,hd=>by
  have hkk:=hk k w1d
  have h1:LK nx n s j (ledK p k)∧(ledK p k).1.getD i false=true∧((ledK p k).2=false→ ∀k'∈done++[k],s.getD k' false=true):=by
   unfold ledK
   split
   ·rename_i hs
    refine⟨h,hi,fun e k' hk'=> ?_⟩
    rcases w0a.1 hk' with q|q
    ·grind
    ·rw[w1a.1 q,←(h.eq e).1];exact hs
   ·rename_i hs
    have hs':p.1.getD k false=false:=by simpa using hs
    have hkl:k<p.1.length:=by rw[h.r.len];exact hkk.2
    have hu:=WO hkl hs'
    have hle:=h.le
    exact⟨⟨h.r.set nx hi hkk.1,by simp only;omega,fun e=>(by cases e),fun _=>(by simp only;omega)⟩,zX hi,fun e=>(by cases e)⟩
  have:=VY h1.1 h1.2.1 (fun k' hk'=>hk k' (w2a _ hk')) h1.2.2
  grind
theorem Va (hnx: ∀i,i<n→ ∀k∈nx i,k<n) {s:List Bool} (h:RInv nx n s): ∀j,j≤n→LK nx n s j (ledR nx s j)
 |0,_=>⟨h,w08 _,fun _=>⟨rfl,fun i hi=>absurd hi (w34 _)⟩,fun e=>by cases e⟩
 |j+1,hj=>by
  have ih:=Va hnx h j (by omega)
  unfold ledR ledI
  split
  ·rename_i hs
   obtain⟨q1,q2,q3⟩:=VY nx n ih hs (ks:=nx j) (done:=[]) (fun k hk=>⟨hk,hnx j (by omega) k hk⟩) (fun _ k hk=>by cases hk)
   refine⟨q1.r,q1.le,fun e=>⟨(q1.eq e).1,fun i hi=> ?_⟩,q1.lt⟩
   by_cases hij:i=j
   ·grind
   ·exact(q1.eq e).2 i (by omega)
  ·rename_i hs
   refine⟨ih.r,ih.le,fun e=>⟨(ih.eq e).1,fun i hi hsi=> ?_⟩,ih.lt⟩
   by_cases hij:i=j
   ·subst hij;rw[←(ih.eq e).1] at hsi;exact absurd hsi hs
   ·exact(ih.eq e).2 i (by omega) hsi
theorem z6f (hnx: ∀i,i<n→ ∀k∈nx i,k<n) {s:List Bool} (h:RInv nx n s) (e:(ledR nx s n).2=false) (i:Nat):s.getD i false=true↔Rch nx i:=by
 have:=(Va nx n hnx h n (w08 _)).eq e
 refine h.all nx (fun j hj=>this.2 j ?_ hj) i
 rw[w05] at hj
 rcases w43 j s.length with q|q
 ·rw[←h.len];exact q
 ·grind
theorem RInv.start (hn:0<n):RInv nx n ((List.replicate n false).set 0 true):=(RJ.start nx n hn).r
end
end Go.Vs
end
section
namespace Go.Proofs.W
open Go.Vs
theorem ZJ (s l k st n:Nat):evLen (.grow s l k st n)=some (.int .i64 n):=rfl
theorem Vk (s s' l k st n:Nat) (i:AV):evIaddr s (.grow s' l k st n) i=(idx i n).map fun j=> .ptr l k st (j*s):=rfl
theorem Vj (s s' l k st n:Nat) (hi:AV):evSlice s (.grow s' l k st n) none (some hi) none=(bound (some hi) n n).map fun h=> .grow s' l k st h:=by
 simp only[evSlice]
 cases bound (some hi) n n<;>simp[bound]
theorem z8p {S':List (List Blk)} {st nx fl n:Nat} {cs:List AV} {rest:List Blk} {live:List (List Nat)} {v:AV} (hv:v.cells=[v]) (hn:n≤cs.length) (hfl:fl≤S'.length) (hb:(n+1)*8≤140737488355328):
  evApp ⟨S',⟨st,cs⟩::rest,nx,live,fl⟩ 1 8 (.grow 1 S'.length 0 st n) (.list 1 .full [v])=some (.grow 1 S'.length 0 nx (n+1),⟨S',⟨nx,cs.take n++[v]⟩::rest,nx+1,live,fl⟩):=by
 unfold evApp
 rw[zd]
 have hblk:Mem.blk ⟨S',⟨st,cs⟩::rest,nx,live,fl⟩ S'.length 0 st=some cs:=by simp[Mem.blk,Mem.row]
 simp only[hblk]
 rw[if_pos (by simp[hn,hfl];omega)]
 simp[Mem.put,hv]
def frm:Option Nat→Int
 |none=> -1
 |some i=>i
def Meets {σ:Type} (S:List (List Blk)) (C:σ→List Blk) (f:AV) (fl:Nat) (P:σ→Nat→Option Nat→Prop) (upd:σ→Nat→Option Nat→σ×Bool):Prop:=
 ∃g first caps,f= .fn (.func g) first caps∧ ∀s k fr c nz lv,P s k fr→ ∃nz',CALL tab g (first++[.int .i64 (k:Nat),.int .i64 (frm fr)]++caps) ⟨S++[C s],c,nz,lv,fl⟩=some (.bool (upd s k fr).2,⟨S++[C (upd s k fr).1],c,nz',lv,fl⟩)
theorem z8G {lo:Nat} {S':List (List Blk)} {cur:List Blk} {y:AV} {l:List Nat} (h:LI lo S'.length cur y l) {j:Nat} (hj:j<l.length) {nx fl:Nat} {live:List (List Nat)}:
  ∃a,evIaddr 1 y (.int .i64 (j:Nat))=some a∧(Mem.at ⟨S',cur,nx,live,fl⟩ a).bind (fun cs=>(takeV false 1 cs))=some (.int .i64 (l[j]:Nat)):=by
 rcases h with⟨h,_⟩|⟨k,st,cs,rfl,h2,h3,h4,_⟩
 ·have e1:nth y j= .int .i64 (l[j]:Nat):=h.nth hj
  exact⟨_,h.at .i64 hj,by rw[e1];rfl⟩
 ·refine⟨.ptr S'.length k st (j*1),?_,?_⟩
  ·simp only[evIaddr,zo .i64 j l.length hj,w07]
  ·simp only[Mem.at,Mem.blk,Mem.row,beq_self_eq_true,if_true,h2,w07,w39,w0d]
   exact kD h4 h3 hj
theorem za2 {lv lo:Nat} {a b:Blk} {r:List Blk} {y:AV} {l:List Nat} (h:LI (lo+1) lv (a::r) y l):LI (lo+1) lv (b::r) y l:=by
 rcases h with h|⟨k,st,cs,h1,h2,h3,h4,h5⟩
 ·exact .inl h
 ·cases k with
  |zero=>omega
  |succ k=>exact .inr ⟨k+1,st,cs,h1,h2,h3,h4,h5⟩
theorem z5F {tab:Nat→Option AFunc} {o:Option (List AV)} {f:List AV→Option AV} {m:Mem} {d:Option Nat} {l:List AOper} {ρ:List AV} {k:Kont} {v:AV} (h:o.bind f=some v) (q:Xs tab l (setDst ρ d v) m k):Xv tab (o.bind fun cs=>(f cs).map fun v=>(v,m)) d l ρ k:=by
 cases o with
 |none=>cases h
 |some cs=>simp only[w39] at h⊢;rw[h];simp only[w07];rw[vW];exact q
theorem z21 {σ:Type} (l:List DInstr) (x:AV) (hx:IsSl IsInstr 4 l x) (hjm: ∀j,j<l.length→Jmp (inA l j)) (S:List (List Blk)) (C:σ→List Blk) (f:AV) (fl:Nat) (hfl:fl≤S.length) (P:σ→Nat→Option Nat→Prop) (upd:σ→Nat→Option Nat→σ×Bool)
  (hf:Meets S C f fl P upd) (J:σ→List Nat→Prop) (μ:σ→List Nat→Nat) (s0:σ) (hP0:P s0 0 none) (hJ0:J (upd s0 0 none).1 [0]) (hlen: ∀s op,J s op→op.length≤1000000000) (hop: ∀s op,J s op→ ∀i∈op,i<l.length)
  (hP: ∀s op i,J s (op++[i])→ ∀j (hj:j<(nxt l i).length),P (proc upd i ((nxt l i).take j) (s,op)).1 (nxt l i)[j] (some i))
  (hnext: ∀s op i,J s (op++[i])→J (proc upd i (nxt l i) (s,op)).1 (proc upd i (nxt l i) (s,op)).2∧μ (proc upd i (nxt l i) (s,op)).1 (proc upd i (nxt l i) (s,op)).2<μ s (op++[i]))
  (nx:Nat) (live:List (List Nat)): ∃s' n',CALL tab 336 [x,f] ⟨S,C s0,nx,live,fl⟩=some (.tup [],⟨S,C s',n',live,fl⟩)∧J s' []:=by
 suffices h:Does tab 336 [x,f] ⟨S,C s0,nx,live,fl⟩ fun v m'=> ∃s' n',v= .tup []∧m'=⟨S,C s',n',live,fl⟩∧J s' [] by
  obtain⟨z,h1,s',n',h2,h3,h4⟩:=h
  grind
 refine yq (tT kQ) ?_ (Nat.le_of_ble_eq_true rfl)
 obtain⟨g,first,caps,rfl,hcall⟩:=hf
 have hmx:=hx.max
 have hl: ∀s,(S++[C s]).length=S.length+1:=fun s=>by simp
 obtain⟨n1,hc0⟩:=hcall s0 0 none [] nx ([]::live) hP0
 replace hc0:CALL tab g (first++[.int .i64 0,.int .i64 (-1)]++caps) ⟨S++[C s0],[],nx,[]::live,fl⟩=some (.bool (upd s0 0 none).2,⟨S++[C (upd s0 0 none).1],[],n1,[]::live,fl⟩):=hc0
 simp only[kQ,go_sem,G3,G6,G8,hc0,evLitB,w27,List.flatMap_nil,hl]
 refine za (α:=σ×List Nat) (fun z σ'=>J z.1 z.2∧ ∃nz st cs,z.2.length≤cs.length∧cs.take z.2.length=ints z.2∧heads [0,1,4] 1 σ'=⟨tmps 42 [(0,x),(1,.fn (.func g) first caps),(4,.grow 1 (S.length+1) 0 st z.2.length)],⟨S++[C z.1],[⟨st,cs⟩],nz,[]::live,fl⟩⟩) (fun z=>μ z.1 z.2) ((upd s0 0 none).1,[0]) ?_ ?_
 ·refine⟨hJ0,?_⟩
  simp only[go_sem,G6,G7]
  exact⟨_,_,_,by simp,rfl,rfl⟩
 ·rintro⟨s,op⟩ σ' ⟨hJ,nz,st,cs,hcs,htk,hσ⟩
  rw[hσ]
  clear hσ σ'
  dsimp only at hJ hcs htk⊢
  rcases List.eq_nil_or_concat op with rfl|⟨op,i,rfl⟩
  ·simp only[go_sem,G6,G7,G8,ZJ,w45,show((((0:Nat):Int))>0)=False from eq_false (by decide)]
   rw[yH rfl rfl,z6]
   grind
  ·rw[List.concat_eq_append] at*
   have hi:i<l.length:=hop _ _ hJ i (by simp)
   have hol:=hlen _ _ hJ
   have hn:(op++[i]).length=op.length+1:=by simp
   rw[hn] at hcs htk hol
   have hgt:(((op.length+1:Nat):Int)>0)=True:=eq_true (by omega)
   have hsub:IntKind.i64.wrap (((op.length+1:Nat):Int)-1)=((op.length:Nat):Int):=by rw[z7 (by omega) (by omega)];omega
   have hix:idx (.int .i64 ((op.length:Nat):Int)) (op.length+1)=some op.length:=zo .i64 _ _ (by omega)
   have hld:takeV false 1 (cs.drop op.length)=some (.int .i64 (i:Nat)):=by
    have h1:cs.take (op++[i]).length=ints (op++[i]):=by rw[hn];exact htk
    have:=kD h1 (by rw[hn];exact hcs) (j:=op.length) (by simp)
    grind
   have hbd:bound (some (.int .i64 ((op.length:Nat):Int))) (op.length+1) (op.length+1)=some op.length:=by
    unfold bound;simp only;rw[if_pos (by omega)];simp
   have htk2:cs.take op.length=ints op:=by
    have:(cs.take (op.length+1)).take op.length=(ints (op++[i])).take op.length:=by rw[htk]
    rw[List.take_take,w18 (by omega)] at this
    rw[this];simp[ints]
   obtain⟨y,bs,k1,hB,hLI⟩:=z26 l x hx i hi (hjm i hi) ⟨S++[C s],[⟨st,cs⟩],nz,[]::live,fl⟩ (by simp;omega)
   simp only[id,hl] at hB hLI
   have hyl:=hLI.len
   simp only[go_sem,G6,G7,G8,ZJ,hn,hgt,hsub,Vk,hix,hl,w0d,hld,Vj,hbd,hB,hyl]
   obtain⟨hJn,hμ⟩:=hnext s op i hJ
   refine za (α:=Nat) (fun j σ'=>j≤(nxt l i).length∧ ∃nz st cs,(proc upd i ((nxt l i).take j) (s,op)).2.length≤cs.length∧cs.take (proc upd i ((nxt l i).take j) (s,op)).2.length=ints (proc upd i ((nxt l i).take j) (s,op)).2∧LI 1 (S.length+1) (⟨st,cs⟩::bs) y (nxt l i)∧
    heads [0,1,4,5,27,28,29] (bs.length+1) σ'=⟨tmps 42 [(0,x),(1,.fn (.func g) first caps),(4,.grow 1 (S.length+1) 0 st (proc upd i ((nxt l i).take j) (s,op)).2.length),(5,.int .i64 i),(27,y),(28,.int .i64 (nxt l i).length),(29,.int .i64 j)],⟨S++[C (proc upd i ((nxt l i).take j) (s,op)).1],⟨st,cs⟩::bs,nz,[]::live,fl⟩⟩) (fun j=>(nxt l i).length-j) 0 ?_ ?_
   ·refine⟨w0b _,?_⟩
    simp only[go_sem,G6,G7,w06,w15,proc,List.foldl_nil]
    grind
   ·rintro j σ' ⟨hj,nz,st,cs,hcs,htk,hLI,hσ⟩
    rw[hσ]
    clear hσ σ'
    dsimp only at hj hcs htk⊢
    by_cases h:j<(nxt l i).length
    ·have hp:=hP s op i hJ j h
     have hpl:=z2t upd (i:=i) ((nxt l i).take j) (s,op)
     have hstep:=z64 upd (i:=i) h (s,op)
     have hn2:=V3 l i
     rw[w1f] at hpl
     dsimp only at hpl
     generalize proc upd i ((nxt l i).take j) (s,op)=pr at*
     obtain⟨s1,o1⟩:=pr
     dsimp only at hcs htk hp hpl
     have hlt:((j:Int)<((nxt l i).length:Nat))=True:=eq_true (by omega)
     have hsu:IntKind.i64.wrap ((j:Int)+1)=((j+1:Nat):Int):=by rw[z7 (by omega) (by omega)];omega
     have hLI':LI 1 (S++[C s1]).length (⟨st,cs⟩::bs) y (nxt l i):=by rw[hl];exact hLI
     obtain⟨a,ha,hat⟩:=z8G hLI' h (nx:=nz) (fl:=fl) (live:=[]::live)
     simp only[go_sem,G6,G7,G8,hlt,ha]
     refine z5F hat ?_
     obtain⟨n2,hc⟩:=hcall s1 (nxt l i)[j] (some i) (⟨st,cs⟩::bs) nz ([]::live) hp
     simp only[frm] at hc
     simp only[go_sem,G6,G8,hc]
     cases hb:(upd s1 (nxt l i)[j] (some i)).2
     ·simp only[go_sem,G6,G8,hsu,w06]
      refine⟨j+1,by omega,h,n2,st,cs,?_⟩
      rw[hstep]
      unfold procK
      grind
     ·have happ:=z8p (S':=S++[C (upd s1 (nxt l i)[j] (some i)).1]) (st:=st) (nx:=n2) (fl:=fl) (n:=o1.length) (cs:=cs) (rest:=bs) (live:=[]::live) (v:= .int .i64 ((nxt l i)[j]:Nat)) rfl hcs (by simp;omega) (by omega)
      rw[hl] at happ
      simp only[go_sem,G6,G8,happ,hsu,w06]
      refine⟨j+1,by omega,h,n2+1,n2,cs.take o1.length++[.int .i64 ((nxt l i)[j]:Nat)],?_⟩
      rw[hstep]
      unfold procK
      dsimp only
      rw[hb]
      simp only[if_true,w0e,w2c,w1f]
      refine⟨by omega,?_,za2 hLI,trivial⟩
      rw[htk,w32 (by simp[ints])]
      simp[ints]
    ·have hje:j=(nxt l i).length:=by omega
     subst hje
     rw[w06] at hcs htk⊢
     simp only[go_sem,G6,G7,G8,show(((nxt l i).length:Nat):Int)<((nxt l i).length:Nat)↔False from⟨fun h=>by omega,False.elim⟩,w15]
     refine⟨proc upd i (nxt l i) (s,op),hμ,hJn,nz,st,cs,hcs,htk,rfl⟩
noncomputable def err07 (l:List DInstr):Int:=if pb (Ok07 l) then 0 else 8
theorem Zh {l:List DInstr} (h:Ok07 l):err07 l=0:=by unfold err07;rw[yn h];rfl
theorem jB {l:List DInstr} (h: ¬Ok07 l):err07 l=8:=by unfold err07;rw[zk h];rfl
structure CodeP (l:List DInstr):Prop where
 len:1≤l.length∧l.length≤200
 p: ∀x∈l,InstrP x
 w: ∀x∈l,WfI x∧inU8 x.op
theorem CodeP.at {l:List DInstr} (h:CodeP l) {j:Nat} (hj:j<l.length):InstrP (inA l j)∧WfI (inA l j)∧inU8 (inA l j).op:=by
 rw[←z5v hj];exact⟨h.p _ (w04 hj),h.w _ (w04 hj)⟩
def iEnd:DInstr:=⟨34,-1,0,0⟩
theorem z37 (x:DInstr):eqAt [(0,1),(1,1),(2,1),(3,1)] [.int .u8 x.op,.int .i64 x.a,.int .i64 x.b,.int .i64 x.c] [.int .u8 34,.int .i64 (-1),.int .i64 0,.int .i64 0]=some (decide (x=iEnd)):=by
 obtain⟨o,a,b,c⟩:=x
 simp only[eqAt,eqCell,List.getD_cons_zero,List.getD_cons_succ,sameKind,if_true]
 by_cases h1:o=34
 ·by_cases h2:a= -1
  ·by_cases h3:b=0
   ·by_cases h4:c=0
    ·subst h1;subst h2;subst h3;subst h4;rfl
    ·have e4:(c==0)=false:=by simpa using h4
     subst h1;subst h2;subst h3
     simp only[beq_self_eq_true,e4]
     rw[decide_eq_false (by unfold iEnd;simp[h4])]
   ·have e3:(b==0)=false:=by simpa using h3
    subst h1;subst h2
    simp only[beq_self_eq_true,e3]
    rw[decide_eq_false (by unfold iEnd;simp[h3])]
  ·have e2:(a== -1)=false:=by simpa using h2
   subst h1
   simp only[beq_self_eq_true,e2]
   rw[decide_eq_false (by unfold iEnd;simp[h2])]
 ·have e1:(o==34)=false:=by simpa using h1
  simp only[e1]
  rw[decide_eq_false (by unfold iEnd;simp[h1])]
theorem jm (l:List DInstr) (x:AV) (hx:IsSl IsInstr 4 l x) (hc:CodeP l) (m:Mem) (hf:m.floor≤m.stk.length+1):Okv tab 335 [x] m (.int .i64 (err07 l)):=by
 refine ze (tT Y0) ?_
 obtain⟨stk,cur,nx,live,fl⟩:=m
 dsimp only at hf
 have hf':fl≤(stk++[cur]).length+1:=by simp;omega
 have hmx:=hx.max
 have hln:=hc.len
 have e0:((l.length:Int)==0)=false:=by rw[beq_eq_false_iff_ne];omega
 have hsub:IntKind.i64.wrap ((l.length:Int)-1)=((l.length-1:Nat):Int):=by rw[z7 (by omega) (by omega)];omega
 have hlast:=hx.at .i64 (show l.length-1<l.length by omega)
 have elast:=hx.inA (show l.length-1<l.length by omega)
 simp only[Y0,go_sem,G3,G6,G9,G8,hx.len,e0,show¬((l.length:Int)>200) by omega,hsub,hlast,elast,evBuild,z37]
 by_cases hE:inA l (l.length-1)=iEnd
 case neg=>
  simp only[go_sem,G6,G8,hE]
  rw[z5 rfl rfl,z6]
  exact⟨⟨_,rfl⟩,by rw[jB fun h=>hE h.2]⟩
 simp only[go_sem,G6,G8,hE,hx.len]
 refine za (α:=Nat) (fun i σ=>(i≤l.length∧ ∀j,j<i→((inA l j).op=22→(inA l j).a<l.length)∧((inA l j).op=23→(inA l j).b<l.length))∧ ∃nz,heads [3,23,24,25] 0 σ=⟨tmps 53 [(3,.int .i64 l.length),(23,x),(24,.int .i64 l.length),(25,.int .i64 i)],⟨stk++[cur],[],nz,[]::live,fl⟩⟩) (fun i=>l.length-i) 0 ?_ ?_
 ·refine⟨⟨w0b _,fun j h=>absurd h (w34 _)⟩,?_⟩
  simp only[go_sem,G6,G7]
  simp
 ·rintro i σ ⟨⟨hi,ht⟩,nz,hσ⟩
  rw[hσ]
  clear hσ σ
  dsimp only at hi ht⊢
  by_cases h:i<l.length
  ·obtain⟨c1,c2,c3⟩:=hc.at h
   have hC:=fun c nz=>(kh (inA l i) ⟨stk++[cur],c,nz,[]::live,fl⟩ hf').eq
   rw[jP c1] at hC
   have hsucc:=zc h hmx
   simp only[go_sem,G3,G6,G7,G8,w02,h,hx.at _ h,hx.inA h,hC,show((0:Int) !=0)=false from rfl]
   repeat' (((first|refine uN ?_ ?_|refine yY ?_ ?_|refine yZ ?_ ?_|refine yW ?_ ?_|refine yX ?_ ?_)<;>intro hq)<;>simp only[go_sem,G6,G8,hq,hsucc])
   all_goals first
    |(rw[z5 rfl rfl,z6];refine⟨⟨_,rfl⟩,?_⟩;rw[jB fun h'=> ?_];have:=h'.1 i h;simp only[beq_iff_eq,beq_eq_false_iff_ne,ne_eq,decide_eq_true_eq,decide_eq_false_iff_not] at*;omega)
    |(refine⟨i+1,by omega,⟨by omega,fun j hj=> ?_⟩,_,rfl⟩
      rcases w43 j i with q|q
      ·exact ht j q
      ·have:j=i:=by omega
       subst this
       simp only[beq_iff_eq,beq_eq_false_iff_ne,ne_eq,decide_eq_false_iff_not] at*
       omega)
  ·have:i=l.length:=by omega
   subst this
   simp only[go_sem,G6,G7,G8,w02,h]
   rw[z5 rfl rfl,z6]
   exact⟨⟨_,rfl⟩,by rw[Zh ⟨ht,hE⟩]⟩
theorem QM (l:List DInstr) (x:AV) (hx:IsSl IsInstr 4 l x) (hc:CodeP l) (m:Mem):Okv tab 356 [x] m (.int .i64 (err07 l)):=by
 refine ze (tT uv) ?_
 obtain⟨stk,cur,nx,live,fl⟩:=m
 have hmx:=hx.max
 have hln:=hc.len
 simp only[uv,go_sem,G6,G8,hx.len,show¬((l.length:Int)<1) by omega,show¬((l.length:Int)>200) by omega]
 refine za (α:=Nat) (fun i σ=>(i≤l.length∧ ∀j,j<i→((inA l j).op=22→(inA l j).a<l.length)∧((inA l j).op=23→(inA l j).b<l.length))∧ ∃nz,heads [0,3] 0 σ=⟨tmps 58 [(0,x),(3,.int .i64 i)],⟨stk++[cur],[],nz,[]::live,fl⟩⟩) (fun i=>l.length-i) 0 ?_ ?_
 ·refine⟨⟨w0b _,fun j h=>absurd h (w34 _)⟩,?_⟩
  simp only[go_sem,G6,G7]
  simp
 ·rintro i σ ⟨⟨hi,ht⟩,nz,hσ⟩
  rw[hσ]
  clear hσ σ
  dsimp only at hi ht⊢
  by_cases h:i<l.length
  ·obtain⟨c1,c2,c3⟩:=hc.at h
   have hC:=fun m=>(XQ (inA l i) c2 m).eq
   rw[jP c1] at hC
   have hsucc:=zc h hmx
   have hlx:=hx.len
   simp only[go_sem,G3,G6,G7,G8,w02,h,hx.len,hx.at _ h,hx.inA h,hC,show((0:Int) !=0)=false from rfl]
   repeat' (((first|refine uN ?_ ?_|refine yY ?_ ?_|refine yZ ?_ ?_|refine yW ?_ ?_|refine yX ?_ ?_)<;>intro hq)<;>simp only[go_sem,G6,G8,hq,hsucc,hlx])
   all_goals first
    |(rw[z5 rfl rfl,z6];refine⟨⟨_,rfl⟩,?_⟩;rw[jB fun h'=> ?_];have:=h'.1 i h;simp only[beq_iff_eq,beq_eq_false_iff_ne,ne_eq,decide_eq_true_eq,decide_eq_false_iff_not] at*;omega)
    |(refine⟨i+1,by omega,⟨by omega,fun j hj=> ?_⟩,_,rfl⟩
      rcases w43 j i with q|q
      ·exact ht j q
      ·have:j=i:=by omega
       subst this
       simp only[beq_iff_eq,beq_eq_false_iff_ne,ne_eq,decide_eq_false_iff_not] at*
       omega)
  ·have:i=l.length:=by omega
   subst this
   have hsub:IntKind.i64.wrap ((l.length:Int)-1)=((l.length-1:Nat):Int):=by rw[z7 (by omega) (by omega)];omega
   have hlast:=hx.at .i64 (show l.length-1<l.length by omega)
   have elast:=hx.inA (show l.length-1<l.length by omega)
   simp only[go_sem,G3,G6,G9,G7,G8,w02,h,hx.len,hsub,hlast,elast,evBuild,z37]
   by_cases hE:inA l (l.length-1)=iEnd
   ·simp only[go_sem,G6,G8,hE]
    rw[z5 rfl rfl,z6]
    exact⟨⟨_,rfl⟩,by rw[Zh ⟨ht,hE⟩]⟩
   ·simp only[go_sem,G6,G8,hE]
    rw[z5 rfl rfl,z6]
    exact⟨⟨_,rfl⟩,by rw[jB fun h=>hE h.2]⟩
theorem Wj {x:DInstr} (h:InstrP x):Jmp x:=by
 obtain⟨a,b,c,hs,f1,f2,f3⟩:=h
 refine⟨fun e=> ?_,fun e=> ?_⟩
 ·rw[e] at hs
  have:shp 22=[105,45,45]:=by decide
  rw[this] at hs
  injection hs with hs _
  subst hs
  have:lo 105=0:=by decide
  unfold fitsK at f1;omega
 ·rw[e] at hs
  have:shp 23=[114,105,45]:=by decide
  rw[this] at hs
  injection hs with _ hs
  injection hs with hs _
  subst hs
  have:lo 105=0:=by decide
  unfold fitsK at f2;omega
theorem VS {l:List DInstr} (hc:CodeP l) (h:Ok07 l) {i:Nat} (hi:i<l.length): ∀k∈nxt l i,k<l.length:=by
 have hj:=Wj (hc.at hi).1
 have h1:=h.1 i hi
 have hne:(inA l i).op≠34→i+1<l.length:=fun e=>by
  by_cases hl:i=l.length-1
  ·have:=h.2;rw[←hl] at this;rw[this] at e;exact absurd rfl e
  ·omega
 intro k hk
 unfold nxt nxt1 at hk
 grind
theorem zaw (l:List DInstr) (x:AV) (hx:IsSl IsInstr 4 l x) (hc:CodeP l) (h7:Ok07 l) (i:Nat) (hi:i<l.length) (m:Mem) (hf:m.floor≤m.stk.length+1):CallLI 351 [x,.int .i64 i] (nxt l i) (fun y=> .tup [y,.int .i64 0]) m:=by
 refine z0J (tT X8) ?_
 obtain⟨stk,cur,nx,live,fl⟩:=m
 dsimp only at hf
 have hf':fl≤(stk++[cur]).length+1:=by simp;omega
 have hC:=fun c nz=>(jm l x hx hc ⟨stk++[cur],c,nz,[]::live,fl⟩ hf').eq
 rw[Zh h7] at hC
 simp only[X8,go_sem,G3,G6,G8,hC,show((0:Int) !=0)=false from rfl,hx.len,show¬((i:Int)<0) by omega,show¬((i:Int)≥(l.length:Nat)) by omega]
 obtain⟨y,bs,k,h1,h2⟩:=z26 l x hx i hi (Wj (hc.at hi).1) ⟨stk++[cur],[],callNx tab 335 [x] ⟨stk++[cur],[],nx,[]::live,fl⟩,[]::live,fl⟩ hf'
 simp only[id,w2f] at h1 h2
 simp only[go_sem,G6,G8,h1]
 rcases h2 with⟨h2,h3⟩|⟨q,st,cs,rfl,h3,h4,h5,_⟩
 ·rw[ZC (by simp only[AV.refs,refsAny,h2.refs];rfl) (by simp only[AV.toks,toksAll,h3];rfl),z6]
  exact⟨y,[],_,rfl,rfl,.inl ⟨h2,h3⟩⟩
 ·obtain⟨bs',hbs,hbe⟩:=YI (m0:=⟨stk,cur,nx,live,fl⟩) (stk:=stk) (cur:=cur) (c':=bs) (nx':=k) (own:=[]) (live':=live) (fl':=fl) (k:=q) (st:=st) (s:=1) (n:=(nxt l i).length) (w:=fun y=> .tup [y,.int .i64 0]) (.inr rfl)
  rw[hbs,z6]
  exact⟨_,bs',_,rfl,rfl,QB hbe h3 h4 h5⟩
def bools (s:List Bool):List AV:=s.map .bool
theorem tD (s:List Bool):(bools s).length=s.length:=by simp[bools]
theorem xK {s:List Bool} {j:Nat} (h:j<s.length):takeV false 1 ((bools s).drop j)=some (.bool (s.getD j false)):=by
 refine li _ _ ?_
 rw[List.head?_drop]
 simp[bools,w05,h]
theorem tC {s:List Bool} {j:Nat} (v:Bool) (h:j<s.length):(bools s).take j++[.bool v]++(bools s).drop (j+1)=bools (s.set j v):=by
 unfold bools
 rw[List.map_set,w51,if_pos (by simpa using h)];simp
theorem Zk (n:Nat):flatRep [.bool false] n=bools (List.replicate n false):=by
 induction n with
 |zero=>rfl
 |succ n ih=>rw[flatRep,ih,w44];rfl
theorem Un (l l' k:Nat) (s:List Bool):shiftAll l l' k (bools s)=bools s:=by
 induction s with
 |nil=>rfl
 |cons b r ih=>simp only[bools,w2e,shiftAll,AV.shift] at ih⊢;rw[ih]
theorem z2K {m0:Mem} {stk:List (List Blk)} {cur c':List Blk} {nx' fl':Nat} {own:List Nat} {live':List (List Nat)} {r:AV} (h1:r.refs (stk++[cur]).length=true) (h2:r.toks=[]):
  leave m0 ⟨stk++[cur],c',nx',own::live',fl'⟩ r=some (r.shift (stk++[cur]).length stk.length cur.length,⟨stk,cur++c'.map (fun b=>⟨b.st,shiftAll (stk++[cur]).length stk.length cur.length b.cs⟩),nx',live',m0.floor⟩):=by
 have e:own.filter (fun _=>false)=[]:=by simp
 unfold leave
 simp only[w59,w4a,Option.some_or,h1,if_true,h2,List.contains_nil,e,pushToks,w5a]
 simp
def CallArr (f:Nat) (args:List AV) (n:Nat) (Q:List AV→Prop) (w:AV→AV) (m:Mem):Prop:=
 ∃bs k j st cs,CALL tab f args m=some (w (.arr m.stk.length j st 0 n),{m with cur:=m.cur++bs,nx:=k})∧(m.cur++bs)[j]? =some ⟨st,cs⟩∧m.cur.length≤j∧Q cs
theorem ZO {f:Nat} {fn:AFunc} (h:tab f=some fn) {args:List AV} {n:Nat} {Q:List AV→Prop} {w:AV→AV} {m:Mem} (hx:X tab fn.body (mk fn.ntmps (.tup []) (numb 0 args)) (enter m) (.fin fn.res m fun v m'=> ∃bs k j st cs,v=w (.arr m.stk.length j st 0 n)∧m'={m with cur:=m.cur++bs,nx:=k}∧(m.cur++bs)[j]? =some ⟨st,cs⟩∧m.cur.length≤j∧Q cs)) (hn:args.length≤fn.ntmps:=by exact Nat.le_of_ble_eq_true rfl):
  CallArr f args n Q w m:=by
 obtain⟨x,h1,bs,k,j,st,cs,h2,h3,h4⟩:=yq h hx hn;exact⟨bs,k,j,st,cs,by rw[h1,←h2,←h3],h4⟩
theorem Vg {stk:List (List Blk)} {cur c':List Blk} {nx nx' fl fl':Nat} {own:List Nat} {live:List (List Nat)} {j st n:Nat} {cs:List AV} {Q:List AV→Prop} {w:AV→AV} (hw:w=id∨ ∃z,z.toks=[]∧z.refs (stk++[cur]).length=false∧z.shift (stk++[cur]).length stk.length cur.length=z∧w=fun y=> .tup [y,z])
  (hj:c'[j]? =some ⟨st,cs⟩) (hs:shiftAll (stk++[cur]).length stk.length cur.length cs=cs) (hQ:Q cs):
  Opt (leave ⟨stk,cur,nx,live,fl⟩ ⟨stk++[cur],c',nx',own::live,fl'⟩ (w (.arr (stk++[cur]).length j st 0 n))) fun r=> ∃bs k j st cs,r.1=w (.arr stk.length j st 0 n)∧r.2=⟨stk,cur++bs,k,live,fl⟩∧(cur++bs)[j]? =some ⟨st,cs⟩∧cur.length≤j∧Q cs:=by
 have h1:(w (.arr (stk++[cur]).length j st 0 n)).refs (stk++[cur]).length=true:=by
  rcases hw with rfl|⟨z,_,_,_,rfl⟩<;>simp[AV.refs,refsAny]
 have h2:(w (.arr (stk++[cur]).length j st 0 n)).toks=[]:=by
  rcases hw with rfl|⟨z,hz,_,_,rfl⟩
  ·rfl
  ·simp only[AV.toks,toksAll,hz,w1b]
 have h3:(w (.arr (stk++[cur]).length j st 0 n)).shift (stk++[cur]).length stk.length cur.length=w (.arr stk.length (j+cur.length) st 0 n):=by
  rcases hw with rfl|⟨z,_,_,hz,rfl⟩
  ·simp[AV.shift]
  ·simp[AV.shift,shiftAll];simpa using hz
 rw[z2K h1 h2,z6,h3]
 refine⟨_,_,j+cur.length,st,cs,rfl,rfl,?_,by omega,hQ⟩
 grind
theorem Zf (S:List (List Blk)) (X c:List Blk):((S++[X])++[c]).getD S.length []=X:=by simp[w05]
theorem Xt (S:List (List Blk)) (X c:List Blk) (f:List Blk→List Blk):((S++[X])++[c]).modify S.length f=(S++[f X])++[c]:=by
 rw[w37 (by simp)]
 simp
theorem x6 {stk:List (List Blk)} {cur:List Blk} {nx fl:Nat} {live:List (List Nat)} {s bytes n:Nat} {z:List AV} (hb:bytes*n≤281474976710656) (hn:n≤9223372036854775807) (hz:z.length=s):
  evMake ⟨stk,cur,nx,live,fl⟩ s bytes z (.int .i64 (n:Int)) (.int .i64 (n:Int))=some (.arr stk.length cur.length nx 0 n,⟨stk,cur++[⟨nx,flatRep z n⟩],nx+1,live,fl⟩):=by
 unfold evMake
 grind
theorem YL (S:List (List Blk)) (X c:List Blk):(S.length==((S++[X])++[c]).length)=false:=by simp
def CR (a b L n:Nat) (s:List Bool):List Blk:=[⟨a,bools s⟩,⟨b,[.arr L 0 a 0 n]⟩]
theorem z3L (S:List (List Blk)) (a b n fl:Nat) (hfl:fl≤S.length):Meets S (CR a b S.length n) (.fn (.func 337) [] [.ptr S.length 1 b 0]) fl (fun s k _=>s.length=n∧k<n) updR:=by
 refine⟨_,_,_,rfl,?_⟩
 rintro s k fr c nz lv ⟨hs,hk⟩
 suffices h:Does tab 337 [.int .i64 (k:Nat),.int .i64 (frm fr),.ptr S.length 1 b 0] ⟨S++[CR a b S.length n s],c,nz,lv,fl⟩ fun v m'=> ∃nz',v= .bool (updR s k fr).2∧m'=⟨S++[CR a b S.length n (updR s k fr).1],c,nz',lv,fl⟩ by
  obtain⟨z,h1,n',h2,h3⟩:=h
  grind
 refine yq (tT qG) ?_ (Nat.le_of_ble_eq_true rfl)
 have hix:idx (.int .i64 (k:Int)) n=some k:=zo .i64 k n hk
 have hg:=xK (s:=s) (j:=k) (by omega)
 have hst:=tC (s:=s) (j:=k) true (by omega)
 have hbl:k+1≤(bools s).length:=by rw[tD];omega
 simp only[qG,go_sem,G3,G6,G8,YL,Zf,CR,z8,hix,w0d,hg,hfl,hbl,hst,Xt,Z9]
 rw[yH rfl rfl,z6]
 exact⟨_,rfl,rfl⟩
theorem z5R (l:List DInstr) (x:AV) (hx:IsSl IsInstr 4 l x) (hc:CodeP l) (h7:Ok07 l) (m:Mem) (hf:m.floor≤m.stk.length+1):
  CallArr 298 [x] l.length (fun cs=> ∃s:List Bool,cs=bools s∧s.length=l.length∧ ∀i,i<l.length→(s.getD i false=true↔Rch (nxt l) i∨i=l.length-1)) (fun y=> .tup [y,.int .i64 0]) m:=by
 refine ZO (tT tz) ?_
 obtain⟨stk,cur,nx,live,fl⟩:=m
 dsimp only at hf
 have hf':fl≤(stk++[cur]).length+1:=by simp;omega
 have hln:=hc.len
 have hC:=fun c nz=>(jm l x hx hc ⟨stk++[cur],c,nz,[]::live,fl⟩ hf').eq
 rw[Zh h7] at hC
 simp only[tz,go_sem,G6,G8,hC,show((0:Int) !=0)=false from rfl,hx.len,x6 (s:=1) (bytes:=1) (n:=l.length) (z:=[.bool false]) (by omega) (by omega) rfl,Zk]
 generalize callNx tab 335 _ _=nz
 have hnx:=fun i hi=>VS hc h7 (i:=i) hi
 obtain⟨s',n',hcall,hJ⟩:=z21 l x hx (fun j hj=>Wj (hc.at hj).1) (stk++[cur]) (CR nz (nz+1) (stk++[cur]).length l.length) (.fn (.func 337) [] [.ptr (stk++[cur]).length 1 (nz+1) 0]) fl (by simp;omega) _ updR
  (z3L (stk++[cur]) nz (nz+1) l.length fl (by simp;omega)) (RJ (nxt l) l.length) (fun s op=>2*unm s+op.length) (List.replicate l.length false) ⟨by simp,by omega⟩ (RJ.start (nxt l) l.length (by omega))
  (fun s op h=>by have:=h.b;omega) (fun s op h i hi=>(h.o i hi).1)
  (fun s op i h j hj=>by
   have hi:=(h.o i (by simp)).1
   have:=RK.all (nxt l) l.length (h.pop (nxt l) l.length) (ks:=(nxt l i).take j) (fun k hk=>⟨w40 hk,hnx i hi k (w40 hk)⟩)
   exact⟨this.r.len,hnx i hi _ (w04 hj)⟩)
  (fun s op i h=>h.next (nxt l) l.length hnx) (nz+1+1) ([]::live)
 simp only[CR] at hcall
 have hsl:=hJ.r.len
 have hsub:IntKind.i64.wrap ((l.length:Int)-1)=((l.length-1:Nat):Int):=by rw[z7 (by omega) (by omega)];omega
 have hix:idx (.int .i64 ((l.length-1:Nat):Int)) l.length=some (l.length-1):=zo .i64 _ _ (by omega)
 have hst:=tC (s:=s') (j:=l.length-1) true (by omega)
 have hbl:l.length-1+1≤(bools s').length:=by rw[tD];omega
 simp only[go_sem,G6,G8,hcall,evLen,hsub,z8,hix,w0d,hbl,hst]
 refine Vg (w:=fun y=> .tup [y,.int .i64 0]) (.inr ⟨_,rfl,rfl,rfl,rfl⟩) (cs:=bools (s'.set (l.length-1) true)) rfl (Un _ _ _ _) ⟨_,rfl,by simp[hsl],fun i hi=> ?_⟩
 by_cases e:l.length-1=i
 ·grind
 ·rw[Vs.getD_set_ne e,hJ.done (nxt l) l.length i]
  grind
end Go.Proofs.W
end
section
namespace Go.Vs
section
variable (nx : Nat → List Nat) (n : Nat) (st : Nat → List Int → Option (List Int)) (T : List Int → Prop)
structure SI (kn:List Bool) (out:List (List Int)):Prop where
 r:SInv nx st n kn out
 t: ∀i,T (out.getD i [])
 len: ∀i,(out.getD i []).length+unm kn+1≤n
theorem SI.set {k i:Nat} {kn:List Bool} {out:List (List Int)} {l:List Int} (h:SI nx n st T kn out) (hkn:k<n) (hu:kn.getD k false=false) (hi:kn.getD i false=true) (hs:st i (out.getD i [])=some l) (hk:k∈nx i) (hl:T l∧l.length≤(out.getD i []).length+1):
  SI nx n st T (kn.set k true) (out.set k l)∧unm (kn.set k true)+1=unm kn:=by
 have hkl:k<kn.length:=by rw[h.r.len1];exact hkn
 have hko:k<out.length:=by rw[h.r.len2];exact hkn
 have hum:=WO hkl hu
 refine⟨⟨h.r.set nx st hkn hu hi hs hk,fun j=> ?_,fun j=> ?_⟩,hum⟩
 ·by_cases e:k=j
  ·grind
  ·rw[getD_set_ne e];exact h.t j
 ·by_cases e:k=j
  ·subst e;rw[getD_set_eq hko]
   have:=h.len i;omega
  ·rw[getD_set_ne e]
   have:=h.len j;omega
theorem SI.start (hn:0<n) (hT:T []):SI nx n st T ((List.replicate n false).set 0 true) (List.replicate n []):=by
 have hR:=RInv.start nx n hn
 have hl:0<(List.replicate n false).length:=by simpa using hn
 have hg: ∀j,(List.replicate n false).getD j false=false:=fun j=>by
  grind
 have ho: ∀j,(List.replicate n ([]:List Int)).getD j []=[]:=fun j=>by
  grind
 have hu:unm (List.replicate n false)=n:=by unfold unm;rw[List.filter_eq_self.2 (by simp)];simp
 have h1:=WO hl (hg 0)
 refine⟨⟨hR.len,by simp,⟨hR.zero,ho 0⟩,fun i hi=> ?_,fun i _=>ho i⟩,fun i=>by rw[ho];exact hT,fun i=>by rw[ho];simp;omega⟩
 by_cases e:0=i
 ·subst e;rw[ho];exact .zero
 ·grind
def Done (kn:List Bool) (out:List (List Int)) (j:Nat):Prop:= ∃l,st j (out.getD j [])=some l∧ ∀k∈nx j,kn.getD k false=true∧out.getD k []=l
theorem Done.set {kn:List Bool} {out:List (List Int)} {j k:Nat} {l:List Int} (h:Done nx st kn out j) (hkn:kn.getD j false=true) (hu:kn.getD k false=false):Done nx st (kn.set k true) (out.set k l) j:=by
 obtain⟨l0,h1,h2⟩:=h
 have hjk:k≠j:=fun e=>by subst e;rw[hkn] at hu;cases hu
 refine⟨l0,by rw[getD_set_ne hjk];exact h1,fun k' hk'=> ?_⟩
 grind
structure SJ (kn:List Bool) (out:List (List Int)) (op:List Nat):Prop where
 r:SI nx n st T kn out
 cl: ∀j,kn.getD j false=true→j∈op∨Done nx st kn out j
 o: ∀j∈op,j<n∧kn.getD j false=true
 b:op.length+unm kn≤n
structure SK (i:Nat) (l:List Int) (done:List Nat) (M:Nat) (kn:List Bool) (out:List (List Int)) (op:List Nat):Prop where
 r:SI nx n st T kn out
 cl: ∀j,kn.getD j false=true→j=i∨j∈op∨Done nx st kn out j
 o: ∀j∈op,j<n∧kn.getD j false=true
 b:op.length+unm kn+1≤n
 hi:kn.getD i false=true
 hs:st i (out.getD i [])=some l
 hl:T l∧l.length≤(out.getD i []).length+1
 d: ∀k∈done,kn.getD k false=true∧out.getD k []=l
 m:2*unm kn+op.length+1≤M
theorem SJ.pop {kn:List Bool} {out:List (List Int)} {op:List Nat} {i:Nat} {l:List Int} (h:SJ nx n st T kn out (op++[i])) (hs:st i (out.getD i [])=some l) (hl:T l∧l.length≤(out.getD i []).length+1):SK nx n st T i l [] (2*unm kn+(op++[i]).length) kn out op:=by
 refine⟨h.r,fun j hj=> ?_,fun j hj=>h.o j (w4f _ hj),?_,(h.o i (by simp)).2,hs,hl,fun k hk=>(by cases hk),?_⟩
 ·rcases h.cl j hj with q|q
  ·grind
  ·grind
 ·have:=h.b;simp at this;omega
 ·simp;omega
theorem SK.same {i k M:Nat} {l:List Int} {done:List Nat} {kn:List Bool} {out:List (List Int)} {op:List Nat} (h:SK nx n st T i l done M kn out op) (hk:kn.getD k false=true) (he:out.getD k []=l):SK nx n st T i l (done++[k]) M kn out op:=
 ⟨h.r,h.cl,h.o,h.b,h.hi,h.hs,h.hl,fun k' hk'=>by
  rcases w0a.1 hk' with q|q
  ·exact h.d k' q
  ·rw[w1a.1 q];exact⟨hk,he⟩,h.m⟩
theorem SK.new {i k M:Nat} {l:List Int} {done:List Nat} {kn:List Bool} {out:List (List Int)} {op:List Nat} (h:SK nx n st T i l done M kn out op) (hkn:k<n) (hk:k∈nx i) (hu:kn.getD k false=false):SK nx n st T i l (done++[k]) M (kn.set k true) (out.set k l) (op++[k]):=by
 obtain⟨h1,h2⟩:=h.r.set nx n st T hkn hu h.hi h.hs hk h.hl
 have hki:k≠i:=fun e=>by subst e;rw[h.hi] at hu;cases hu
 have hko:k<out.length:=by rw[h.r.r.len2];exact hkn
 have hkl:k<kn.length:=by rw[h.r.r.len1];exact hkn
 refine⟨h1,fun j hj=> ?_,fun j hj=> ?_,?_,zX h.hi,by rw[getD_set_ne hki];exact h.hs,by rw[getD_set_ne hki];exact h.hl,fun k' hk'=> ?_,?_⟩
 ·by_cases e:k=j
  ·grind
  ·rw[getD_set_ne e] at hj
   rcases h.cl j hj with q|q|q
   ·exact .inl q
   ·grind
   ·exact .inr (.inr (q.set nx st hj hu))
 ·rcases w0a.1 hj with q|q
  ·exact⟨(h.o j q).1,zX (h.o j q).2⟩
  ·grind
 ·have:=h.b;simp only[w0e,w2c];omega
 ·rcases w0a.1 hk' with q|q
  ·have hkk:k≠k':=fun e=>by subst e;rw[(h.d _ q).1] at hu;cases hu
   exact⟨zX (h.d k' q).1,by rw[getD_set_ne hkk];exact(h.d k' q).2⟩
  ·grind
 ·have:=h.m;simp only[w0e,w2c];omega
theorem SK.fin {i M:Nat} {l:List Int} {kn:List Bool} {out:List (List Int)} {op:List Nat} (h:SK nx n st T i l (nx i) M kn out op):SJ nx n st T kn out op∧2*unm kn+op.length<M:=by
 refine⟨⟨h.r,fun j hj=> ?_,h.o,by have:=h.b;omega⟩,by have:=h.m;omega⟩
 rcases h.cl j hj with q|q|q
 ·subst q;exact .inr ⟨l,h.hs,h.d⟩
 ·exact .inl q
 ·exact .inr q
theorem SJ.done {kn:List Bool} {out:List (List Int)} (h:SJ nx n st T kn out []):GoodS nx st n∧ ∀i,out.getD i []=labOf nx st i:=
 h.r.r.all nx st fun i hi=>(h.cl i hi).elim (fun q=>by cases q) id
theorem SJ.start (hn:0<n) (hT:T []):SJ nx n st T ((List.replicate n false).set 0 true) (List.replicate n []) [0]:=by
 have h:=SI.start nx n st T hn hT
 have hR:=RJ.start nx n hn
 have hg: ∀j,(List.replicate n false).getD j false=false:=fun j=>by
  grind
 refine⟨h,fun j hj=> ?_,hR.o,hR.b⟩
 grind
structure SR (kn0:List Bool) (out0:List (List Int)) (j:Nat) (kn:List Bool) (out:List (List Int)) (ch:Bool):Prop where
 r:SI nx n st T kn out
 le:unm kn≤unm kn0
 eq:ch=false→kn=kn0∧out=out0∧ ∀i,i<j→kn0.getD i false=true→Done nx st kn0 out0 i
 lt:ch=true→unm kn<unm kn0
structure SQ (kn0:List Bool) (out0:List (List Int)) (i:Nat) (l:List Int) (done:List Nat) (kn:List Bool) (out:List (List Int)) (ch:Bool):Prop where
 r:SR nx n st T kn0 out0 i kn out ch
 hi:kn.getD i false=true
 hs:st i (out.getD i [])=some l
 hl:T l∧l.length≤(out.getD i []).length+1
 d: ∀k∈done,kn.getD k false=true∧out.getD k []=l
theorem SR.zero {kn:List Bool} {out:List (List Int)} (h:SI nx n st T kn out):SR nx n st T kn out 0 kn out false:=
 ⟨h,w08 _,fun _=>⟨rfl,rfl,fun i hi=>absurd hi (w34 _)⟩,fun e=>by cases e⟩
theorem SR.skip {kn0 kn:List Bool} {out0 out:List (List Int)} {j:Nat} {ch:Bool} (h:SR nx n st T kn0 out0 j kn out ch) (hu:kn.getD j false=false):SR nx n st T kn0 out0 (j+1) kn out ch:=by
 refine⟨h.r,h.le,fun e=>⟨(h.eq e).1,(h.eq e).2.1,fun i hi hk=> ?_⟩,h.lt⟩
 by_cases hij:i=j
 ·subst hij;rw[←(h.eq e).1,hu] at hk;cases hk
 ·exact(h.eq e).2.2 i (by omega) hk
theorem SQ.same {kn0 kn:List Bool} {out0 out:List (List Int)} {i k:Nat} {l:List Int} {done:List Nat} {ch:Bool} (h:SQ nx n st T kn0 out0 i l done kn out ch) (hk:kn.getD k false=true) (he:out.getD k []=l):SQ nx n st T kn0 out0 i l (done++[k]) kn out ch:=
 ⟨h.r,h.hi,h.hs,h.hl,fun k' hk'=>by
  rcases w0a.1 hk' with q|q
  ·exact h.d k' q
  ·rw[w1a.1 q];exact⟨hk,he⟩⟩
theorem SQ.new {kn0 kn:List Bool} {out0 out:List (List Int)} {i k:Nat} {l:List Int} {done:List Nat} {ch:Bool} (h:SQ nx n st T kn0 out0 i l done kn out ch) (hkn:k<n) (hk:k∈nx i) (hu:kn.getD k false=false):SQ nx n st T kn0 out0 i l (done++[k]) (kn.set k true) (out.set k l) true:=by
 obtain⟨h1,h2⟩:=h.r.r.set nx n st T hkn hu h.hi h.hs hk h.hl
 have hki:k≠i:=fun e=>by subst e;rw[h.hi] at hu;cases hu
 have hko:k<out.length:=by rw[h.r.r.r.len2];exact hkn
 have hkl:k<kn.length:=by rw[h.r.r.r.len1];exact hkn
 have hle:=h.r.le
 refine⟨⟨h1,by omega,fun e=>(by cases e),fun _=>by omega⟩,zX h.hi,by rw[getD_set_ne hki];exact h.hs,by rw[getD_set_ne hki];exact h.hl,fun k' hk'=> ?_⟩
 rcases w0a.1 hk' with q|q
 ·have hkk:k≠k':=fun e=>by subst e;rw[(h.d _ q).1] at hu;cases hu
  exact⟨zX (h.d k' q).1,by rw[getD_set_ne hkk];exact(h.d k' q).2⟩
 ·grind
theorem SQ.fin {kn0 kn:List Bool} {out0 out:List (List Int)} {i:Nat} {l:List Int} {ch:Bool} (h:SQ nx n st T kn0 out0 i l (nx i) kn out ch):SR nx n st T kn0 out0 (i+1) kn out ch:=by
 refine⟨h.r.r,h.r.le,fun e=>⟨(h.r.eq e).1,(h.r.eq e).2.1,fun j hj hk=> ?_⟩,h.r.lt⟩
 by_cases hij:j=i
 ·subst hij
  obtain⟨e1,e2,_⟩:=h.r.eq e
  rw[←e1,←e2];exact⟨l,h.hs,h.d⟩
 ·exact(h.r.eq e).2.2 j (by omega) hk
theorem SR.done {kn0 kn:List Bool} {out0 out:List (List Int)} (h:SR nx n st T kn0 out0 n kn out false):GoodS nx st n∧ ∀i,out.getD i []=labOf nx st i:=by
 obtain⟨e1,e2,e3⟩:=h.eq rfl
 have hlt: ∀i,kn.getD i false=true→i<n:=fun i hi=>by
  rcases w43 i n with q|q
  ·exact q
  ·rw[w05,w3c (by rw[h.r.r.len1];exact q)] at hi;cases hi
 refine h.r.r.all nx st fun i hi=> ?_
 have:=e3 i (hlt i hi) (by rw[←e1];exact hi)
 rw[←e1,←e2] at this;exact this
end
end Go.Vs
end
section
namespace Go.Proofs.W
open Go.Vs
structure FunP (d:DImage) (f:DFunc):Prop where
 img:ImgP d
 ty:TypP d.types
 sl: ∀k,k<d.funcs.length→(fnA d.funcs k).slots.length≤1000
 s:SlotsP d f
 c:CodeP f.code
 o:Ok07 f.code
 n: ∀i,i<f.code.length→NearP d f (inA f.code i)
def stF (d:DImage) (f:DFunc) (i:Nat) (l:List Int):Option (List Int):=stS d f (inA f.code i) l
def lists (out:List (List Int)) (cs:List AV):Prop:=cs.length=out.length∧ ∀i (h:i<out.length),∃y,cs[i]? =some y∧IsSl IsI 1 out[i] y
theorem qg {out:List (List Int)} {cs:List AV} (h:lists out cs) {k:Nat} (hk:k<out.length): ∃y,takeV false 1 (cs.drop k)=some y∧IsSl IsI 1 (out.getD k []) y:=by
 obtain⟨y,h1,h2⟩:=h.2 k hk
 refine⟨y,li _ _ (by rw[List.head?_drop];exact h1),?_⟩
 grind
theorem z0p {out:List (List Int)} {cs:List AV} (h:lists out cs) {k:Nat} {l:List Int} {y:AV} (hk:k<out.length) (hy:IsSl IsI 1 l y):lists (out.set k l) (cs.take k++[y]++cs.drop (k+1)):=by
 have hkc:k<cs.length:=by rw[h.1];exact hk
 have he:cs.take k++[y]++cs.drop (k+1)=cs.set k y:=by rw[w51,if_pos hkc];simp
 rw[he]
 refine⟨by simp[h.1],fun i hi=> ?_⟩
 simp only[List.length_set] at hi
 by_cases e:k=i
 ·grind
 ·obtain⟨z,h1,h2⟩:=h.2 i hi
  grind
theorem z0q (n:Nat):lists (List.replicate n []) (flatRep [.nils] n):=by
 have: ∀n,flatRep [.nils] n=List.replicate n .nils:=fun n=>by
  induction n with
  |zero=>rfl
  |succ n ih=>rw[flatRep,ih,w44];rfl
 rw[this]
 refine⟨by simp,fun i hi=>⟨.nils,?_,?_⟩⟩
 ·grind
 ·simpa using IsSl.nil 1
theorem z2I {out:List (List Int)} {cs:List AV} (h:lists out cs) (a b c:Nat):shiftAll a b c cs=cs:=by
 apply w20
 intro j
 rw[vw]
 by_cases hj:j<out.length
 ·obtain⟨y,h1,h2⟩:=h.2 j hj
  rw[h1,w07]
  rcases h2 with⟨_,⟨_,rfl⟩|⟨tk,ys,rfl,_⟩⟩<;>rfl
 ·rw[w3c (by rw[h.1];omega)];rfl
noncomputable def labs (d:DImage) (f:DFunc):List (List Int):=(List.range f.code.length).map fun i=>labOf (nxt f.code) (stF d f) i
theorem z5t {d:DImage} {f:DFunc} {out:List (List Int)} (hl:out.length=f.code.length) (h: ∀i,out.getD i []=labOf (nxt f.code) (stF d f) i):out=labs d f:=by
 apply w20
 intro j
 unfold labs
 grind
theorem z2Q (d:DImage) (f:DFunc):(labs d f).length=f.code.length:=by simp[labs]
def LabsIn (d:DImage) (f:DFunc):Prop:= ∀k,InT d.types ((labs d f).getD k [])∧((labs d f).getD k []).length≤1000
def GoodF (d:DImage) (f:DFunc):Prop:=GoodS (nxt f.code) (stF d f) f.code.length
def ScrP (d:DImage) (f:DFunc):Prop:=GoodF d f∧LastS (nxt f.code) (stF d f) f.code.length
def CallSc (fn:Nat) (args:List AV) (n:Nat) (G:Prop) (b:Bool) (Q:List AV→Prop) (m:Mem):Prop:=
 ∃y bs k,CALL tab fn args m=some (.tup [y,.bool b],{m with cur:=m.cur++bs,nx:=k})∧(G→ ∃j st cs,y= .arr m.stk.length j st 0 n∧(m.cur++bs)[j]? =some ⟨st,cs⟩∧m.cur.length≤j∧Q cs)
theorem z0I {fn:Nat} {a:AFunc} (h:tab fn=some a) {args:List AV} {n:Nat} {G:Prop} {b:Bool} {Q:List AV→Prop} {m:Mem} (hx:X tab a.body (mk a.ntmps (.tup []) (numb 0 args)) (enter m) (.fin a.res m fun v m'=> ∃y bs k,v= .tup [y,.bool b]∧m'={m with cur:=m.cur++bs,nx:=k}∧(G→ ∃j st cs,y= .arr m.stk.length j st 0 n∧(m.cur++bs)[j]? =some ⟨st,cs⟩∧m.cur.length≤j∧Q cs))) (hn:args.length≤a.ntmps:=by exact Nat.le_of_ble_eq_true rfl):
  CallSc fn args n G b Q m:=by
 obtain⟨x,h1,y,bs,k,h2,h3,h4⟩:=yq h hx hn;exact⟨y,bs,k,by rw[h1,←h2,←h3],h4⟩
theorem T9 {stk:List (List Blk)} {cur c':List Blk} {nx nx' fl fl':Nat} {own:List Nat} {live:List (List Nat)} {n:Nat} {G:Prop} {Q:List AV→Prop} (hG: ¬G):
  Opt (leave ⟨stk,cur,nx,live,fl⟩ ⟨stk++[cur],c',nx',own::live,fl'⟩ (.tup [.nils,.bool false])) fun r=> ∃y bs k,r.1= .tup [y,.bool false]∧r.2=⟨stk,cur++bs,k,live,fl⟩∧(G→ ∃j st cs,y= .arr stk.length j st 0 n∧(cur++bs)[j]? =some ⟨st,cs⟩∧cur.length≤j∧Q cs):=by
 rw[yH rfl rfl,z6]
 simp_all
theorem z5y {stk:List (List Blk)} {cur c':List Blk} {nx nx' fl fl':Nat} {own:List Nat} {live:List (List Nat)} {j st n:Nat} {cs:List AV} {G:Prop} {b:Bool} {Q:List AV→Prop}
  (hj:c'[j]? =some ⟨st,cs⟩) (hs:shiftAll (stk++[cur]).length stk.length cur.length cs=cs) (hQ:Q cs):
  Opt (leave ⟨stk,cur,nx,live,fl⟩ ⟨stk++[cur],c',nx',own::live,fl'⟩ (.tup [.arr (stk++[cur]).length j st 0 n,.bool b])) fun r=> ∃y bs k,r.1= .tup [y,.bool b]∧r.2=⟨stk,cur++bs,k,live,fl⟩∧(G→ ∃j st cs,y= .arr stk.length j st 0 n∧(cur++bs)[j]? =some ⟨st,cs⟩∧cur.length≤j∧Q cs):=by
 have:=Vg (nx:=nx) (nx':=nx') (fl:=fl) (fl':=fl') (own:=own) (live:=live) (n:=n) (Q:=Q) (w:=fun y=> .tup [y,.bool b]) (.inr ⟨.bool b,rfl,rfl,rfl,rfl⟩) hj hs hQ
 obtain⟨x,h1,bs,k,j2,st2,cs2,h2,h3,h4,h5,h6⟩:=this
 exact⟨x,h1,_,bs,k,h2,h3,fun _=>⟨j2,st2,cs2,rfl,h4,h5,h6⟩⟩
theorem z7n {d:DImage} {f:DFunc} (h:FunP d f) {i:Nat} (hi:i<f.code.length) {l l':List Int} (hl:InT d.types l) (hs:stF d f i l=some l'):InT d.types l'∧l'.length≤l.length+1:=
 z7m (h.c.at hi).1 (h.c.at hi).2.1 (h.n i hi) h.s hl hs
theorem Tu (d:DImage) (y:AV) (hy:IsImage d y) (g:Nat) (hg:g<d.funcs.length) (h:FunP d (fnA d.funcs g)) (m:Mem) (hf:m.floor≤m.stk.length+1):
  CallSc 359 [y,.int .i64 g] (fnA d.funcs g).code.length (GoodF d (fnA d.funcs g)) (pb (ScrP d (fnA d.funcs g))) (fun cs=>lists (labs d (fnA d.funcs g)) cs∧LabsIn d (fnA d.funcs g)) m:=by
 have hy':=hy
 obtain⟨ty,tx,fs,rfl,h0,h1,h2⟩:=hy
 obtain⟨w0,w1,w2,w3,ef,q0,q1,q2,q3⟩:=h2.fnA hg
 have hat:=h2.at .i64 hg
 refine z0I (tT vi) ?_
 obtain⟨stk,cur,nx,live,fl⟩:=m
 dsimp only at hf
 have hf':fl≤(stk++[cur]).length:=by simp;omega
 have hmaxf:max fl ((stk++[cur]).length+1)≤(stk++[cur]).length+1:=by omega
 have hAf:=fun x hx hw hN l z hz hin hlen c n lv=>z8U d h.img h.sl h.ty _ hy' g hg x hx hw hN l z hz hin hlen ⟨stk++[cur],c,n,lv,max fl ((stk++[cur]).length+1)⟩ hmaxf
 have hln:=h.c.len
 have hnx:=fun i hi=>VS h.c h.o (i:=i) hi
 have hSC:ScrP d (fnA d.funcs g)↔GoodF d (fnA d.funcs g)∧LastS (nxt (fnA d.funcs g).code) (stF d (fnA d.funcs g)) (fnA d.funcs g).code.length:=Iff.rfl
 have hstok:=fun i hi l l' hl hs=>z7n h (i:=i) hi (l:=l) (l':=l') hl hs
 have hstF: ∀i l,stF d (fnA d.funcs g) i l=stS d (fnA d.funcs g) (inA (fnA d.funcs g).code i) l:=fun _ _=>rfl
 have hNear:=h.n
 have hC:=h.c
 generalize fnA d.funcs g=f at*
 generalize hn:f.code.length=n at*
 generalize hst:stF d f=st at*
 generalize hnxt:nxt f.code=nxf at*
 have hl0:0<(List.replicate n false).length:=by simp;omega
 have hst0:=tC (s:=List.replicate n false) (j:=0) true hl0
 have hbl0:0+1≤(bools (List.replicate n false)).length:=by rw[tD];omega
 have hix0:idx (.int .i64 0) n=some 0:=zo .i64 0 n (by omega)
 have hq1l:evLen w1=some (.int .i64 n):=by rw[←hn];exact q1.len
 simp only[w15,w2f,w26] at hst0 hbl0
 simp only[vi,go_sem,G3,G6,G8,hat,ef,hq1l,x6 (s:=1) (bytes:=24) (n:=n) (z:=[.nils]) (by omega) (by omega) rfl,x6 (s:=1) (bytes:=1) (n:=n) (z:=[.bool false]) (by omega) (by omega) rfl,Zk,z8,hix0,w0d,hbl0,hst0]
 have hT0:InT d.types []:=fun t ht=>by cases ht
 have hGF:GoodF d f↔GoodS nxf st n:=by unfold GoodF;rw[hn,hst,hnxt]
 have hlabs: ∀out:List (List Int),out.length=n→(∀i,out.getD i []=labOf nxf st i)→out=labs d f:=fun out h1 h2=>z5t (by rw[hn];exact h1) (by rw[hst,hnxt];exact h2)
 refine za (α:=List Bool×List (List Int)×Bool) (fun z σ=>(SI nxf n st (InT d.types) z.1 z.2.1∧(z.2.2=false→GoodS nxf st n∧ ∀i,z.2.1.getD i []=labOf nxf st i))∧ ∃nz e cs,lists z.2.1 cs∧heads [1,2,6,7,8,9] 3 σ=⟨tmps 105 [(1,.int .i64 g),(2,.ptr (stk++[cur]).length 0 nx 0),(6,w1),(7,.arr (stk++[cur]).length 1 (nx+1) 0 n),(8,.arr (stk++[cur]).length 2 (nx+1+1) 0 n),(9,.bool z.2.2)],⟨stk++[cur],[⟨nx,[ty,tx,fs]⟩,⟨nx+1,cs⟩,⟨nx+1+1,bools z.1⟩],nz,e::live,fl⟩⟩) (fun z=>2*unm z.1+(if z.2.2 then 1 else 0)) ((List.replicate n false).set 0 true,List.replicate n [],true) ?_ ?_
 ·refine⟨⟨SI.start nxf n st (InT d.types) (by omega) hT0,fun e=>by cases e⟩,?_⟩
  simp only[go_sem,G6,G7]
  exact⟨_,_,_,z0q n,rfl⟩
 ·rintro⟨kn0,out0,ch0⟩ σ ⟨⟨hR0,hdone⟩,nz,e,cs,hcs,hσ⟩
  rw[hσ]
  clear hσ σ
  dsimp only at hR0 hdone hcs⊢
  cases ch0 with
  |false=>
   obtain⟨hG,hlab⟩:=hdone rfl
   have hol:=hR0.r.len2
   have hsub:IntKind.i64.wrap ((n:Int)-1)=((n-1:Nat):Int):=by rw[z7 (by omega) (by omega)];omega
   have hixl:idx (.int .i64 ((n-1:Nat):Int)) n=some (n-1):=zo .i64 _ _ (by omega)
   obtain⟨yl,hyl,hyls⟩:=qg hcs (k:=n-1) (by omega)
   simp only[go_sem,G6,G7,G8,hq1l,hsub,z8,hixl,w0d,hyl,hyls.len]
   have hb:(((out0.getD (n-1) []).length:Int)==0)=pb (ScrP d f):=by
    refine Za ?_
    rw[hSC,hGF,beq_iff_eq,z2P nxf st hG,hlab (n-1)]
    refine⟨fun h=>⟨hG,w2d (by omega)⟩,fun h=>by rw[h.2];rfl⟩
   rw[hb]
   refine z5y (cs:=cs) rfl (z2I hcs _ _ _) ?_
   have hJt:=hR0.t
   have hJl:=hR0.len
   rw[hlabs out0 hol hlab] at hcs hJt hJl
   exact⟨hcs,fun k=>⟨hJt k,by have:=hJl k;omega⟩⟩
  |true=>
   simp only[go_sem,G3,G6,G7,G8]
   refine za (α:=Nat×List Bool×List (List Int)×Bool) (fun z σ=>(z.1≤n∧SR nxf n st (InT d.types) kn0 out0 z.1 z.2.1 z.2.2.1 z.2.2.2)∧ ∃nz e cs,lists z.2.2.1 cs∧heads [1,2,6,7,8,9,10] 3 σ=⟨tmps 105 [(1,.int .i64 g),(2,.ptr (stk++[cur]).length 0 nx 0),(6,w1),(7,.arr (stk++[cur]).length 1 (nx+1) 0 n),(8,.arr (stk++[cur]).length 2 (nx+1+1) 0 n),(9,.bool z.2.2.2),(10,.int .i64 z.1)],⟨stk++[cur],[⟨nx,[ty,tx,fs]⟩,⟨nx+1,cs⟩,⟨nx+1+1,bools z.2.1⟩],nz,e::live,fl⟩⟩) (fun z=>n-z.1) (0,kn0,out0,false) ?_ ?_
   ·refine⟨⟨w0b _,SR.zero nxf n st (InT d.types) hR0⟩,?_⟩
    simp only[go_sem,G6,G7]
    grind
   ·clear hcs
    rintro⟨i,kn,out,ch⟩ σ ⟨⟨hi,hSR⟩,nz,e,cs,hcs,hσ⟩
    rw[hσ]
    clear hσ σ
    dsimp only at hi hSR hcs⊢
    have hkl:=hSR.r.r.len1
    have hol:=hSR.r.r.len2
    by_cases hin:i<n
    ·have hixi:idx (.int .i64 (i:Int)) n=some i:=zo .i64 i n hin
     have hsu:IntKind.i64.wrap ((i:Int)+1)=((i+1:Nat):Int):=by rw[z7 (by omega) (by omega)];omega
     have hgk:=xK (s:=kn) (j:=i) (by omega)
     cases hki:kn.getD i false
     ·rw[hki] at hgk
      simp only[go_sem,G6,G7,G8,hq1l,w02,hin,z8,hixi,w0d,hgk,hsu]
      exact⟨(i+1,kn,out,ch),by dsimp only;omega,⟨hin,hSR.skip nxf n st (InT d.types) hki⟩,nz,e,cs,hcs,rfl⟩
     ·rw[hki] at hgk
      have hic:i<f.code.length:=by omega
      obtain⟨c1,c2,c3⟩:=hC.at hic
      obtain⟨yi,hyi,hyis⟩:=qg hcs (k:=i) (by omega)
      have htl:=hSR.r.len i
      simp only[go_sem,G3,G6,G7,G8,hq1l,w02,hin,z8,hixi,w0d,hgk,q1.at .i64 hic,q1.inA hic,hyi]
      refine(hAf _ c1 c2 (hNear i hin) _ _ hyis (hSR.r.t i) (by omega) _ _ _).xw fun r ts n1 ⟨q,hr,hq⟩=> ?_
      subst hr
      have hlive: ∃e',pushToks ts (e::live)=e'::live:=by cases ts<;>exact⟨_,rfl⟩
      obtain⟨e',he'⟩:=hlive
      simp only[he',←hstF]
      cases hs:st i (out.getD i []) with
      |none=>
       simp only[go_sem,G6,G8,Option.isSome_none]
       have hng: ¬GoodS nxf st n:=XV nxf st hSR.r.r hki hs
       rw[zk fun hh=>hng (hGF.1 (hSC.1 hh).1)]
       exact T9 fun hh=>hng (hGF.1 hh)
      |some l=>
       have hql:IsSl IsI 1 l q:=hq l (by rw[←hstF];exact hs)
       have hlt:=hstok i hin _ _ (hSR.r.t i) hs
       simp only[go_sem,G6,G8,Option.isSome_some]
       refine(Tv f.code w1 q1 i hic (Wj c1) _).xv fun y k1 ⟨hy,hyt⟩=> ?_
       rw[hnxt] at hy
       simp only[go_sem,G3,G6,G8]
       refine za (α:=Nat×List Bool×List (List Int)×Bool) (fun z σ=>(z.1≤(nxf i).length∧SQ nxf n st (InT d.types) kn0 out0 i l ((nxf i).take z.1) z.2.1 z.2.2.1 z.2.2.2)∧ ∃nz cs,lists z.2.2.1 cs∧heads [1,2,6,7,8,9,10,11,13,14] 3 σ=⟨tmps 105 [(1,.int .i64 g),(2,.ptr (stk++[cur]).length 0 nx 0),(6,w1),(7,.arr (stk++[cur]).length 1 (nx+1) 0 n),(8,.arr (stk++[cur]).length 2 (nx+1+1) 0 n),(9,.bool z.2.2.2),(10,.int .i64 i),(11,q),(13,y),(14,.int .i64 z.1)],⟨stk++[cur],[⟨nx,[ty,tx,fs]⟩,⟨nx+1,cs⟩,⟨nx+1+1,bools z.2.1⟩],nz,e'::live,fl⟩⟩) (fun z=>(nxf i).length-z.1) (0,kn,out,ch) ?_ ?_
       ·refine⟨⟨w0b _,hSR,hki,hs,hlt,fun k hk=>by cases hk⟩,?_⟩
        simp only[go_sem,G6,G7]
        grind
       ·clear hcs hki hgk hyi hyis hs htl hkl hol hSR
        rintro⟨j,kn,out,ch⟩ σ ⟨⟨hj,hSQ⟩,nz,cs,hcs,hσ⟩
        rw[hσ]
        clear hσ σ
        dsimp only at hj hSQ hcs⊢
        have hkl:=hSQ.r.r.r.len1
        have hol:=hSQ.r.r.r.len2
        by_cases hjn:j<(nxf i).length
        ·have hkn:=hnx i hin (nxf i)[j] (w04 hjn)
         have hmem:(nxf i)[j]∈nxf i:=w04 hjn
         have hts:(nxf i).take (j+1)=(nxf i).take j++[(nxf i)[j]]:=w0c hjn
         have e1:nth y j= .int .i64 ((nxf i)[j]:Nat):=hy.nth hjn
         have hatj:=hy.at .i64 hjn
         generalize hK:(nxf i)[j]=k at*
         have hlen2:(nxf i).length≤2:=by rw[←hnxt];exact V3 _ _
         have hsj:IntKind.i64.wrap ((j:Int)+1)=((j+1:Nat):Int):=by rw[z7 (by omega) (by omega)];omega
         have hixk:idx (.int .i64 (k:Nat)) n=some k:=zo .i64 k n hkn
         have hgk:=xK (s:=kn) (j:=k) (by omega)
         obtain⟨yk,hyk,hyks⟩:=qg hcs (k:=k) (by omega)
         have hltj:((j:Int)<((nxf i).length:Nat))=True:=eq_true (by omega)
         have hSI:=fun m=>(tM _ _ _ _ hyks hql m).eq
         cases hkk:kn.getD k false
         ·rw[hkk] at hgk
          have hst1:=tC (s:=kn) (j:=k) true (by omega)
          have hbl1:k+1≤(bools kn).length:=by rw[tD];omega
          have hbl2:k+1≤cs.length:=by rw[hcs.1];omega
          simp only[go_sem,G6,G7,G8,hy.len,hltj,hatj,e1,z8,hixk,w0d,hgk,hql.refs_cells,hql.one,hbl2,hbl1,hst1,hsj]
          refine⟨(j+1,kn.set k true,out.set k l,true),by dsimp only;omega,⟨hjn,?_⟩,nz,_,z0p hcs (by omega) hql,rfl⟩
          dsimp only
          rw[hts]
          exact hSQ.new nxf n st (InT d.types) hkn hmem hkk
         ·rw[hkk] at hgk
          by_cases heq:out.getD k []=l
          ·have hd:decide (out.getD k []=l)=true:=decide_eq_true heq
           simp only[go_sem,G6,G7,G8,hy.len,hltj,hatj,e1,z8,hixk,w0d,hgk,hyk,hSI,hd,hsj]
           refine⟨(j+1,kn,out,ch),by dsimp only;omega,⟨hjn,?_⟩,?_⟩
           ·dsimp only
            rw[hts]
            exact hSQ.same nxf n st (InT d.types) hkk heq
           ·grind
          ·have hd:decide (out.getD k []=l)=false:=decide_eq_false heq
           simp only[go_sem,G6,G7,G8,hy.len,hltj,hatj,e1,z8,hixk,w0d,hgk,hyk,hSI,hd]
           have hng: ¬GoodS nxf st n:=V4 nxf st hSQ.r.r.r hSQ.hi hSQ.hs hmem hkk heq
           rw[zk fun hh=>hng (hGF.1 (hSC.1 hh).1)]
           exact T9 fun hh=>hng (hGF.1 hh)
        ·have hje:j=(nxf i).length:=by omega
         subst hje
         rw[w06] at hSQ
         simp only[go_sem,G6,G7,G8,hy.len,show(((nxf i).length:Nat):Int)<((nxf i).length:Nat)↔False from⟨fun h=>by omega,False.elim⟩,hsu]
         exact⟨(i+1,kn,out,ch),by dsimp only;omega,⟨hin,hSQ.fin nxf n st (InT d.types)⟩,nz,e',cs,hcs,rfl⟩
    ·have hie:i=n:=by omega
     subst hie
     simp only[go_sem,G6,G7,G8,hq1l,w02,hin]
     refine⟨(kn,out,ch),?_,⟨hSR.r,fun ec=> ?_⟩,nz,e,cs,hcs,rfl⟩
     ·dsimp only
      have h1:=hSR.le
      cases ch
      ·simp;omega
      ·have:=hSR.lt rfl
       simp;omega
     ·dsimp only at ec
      subst ec
      exact hSR.done nxf _ st (InT d.types)
theorem zaa (l:List DInstr) (x:AV) (hx:IsSl IsInstr 4 l x) (hc:CodeP l) (h7:Ok07 l) (m:Mem) (hf:m.floor≤m.stk.length+1):
  CallArr 357 [x] l.length (fun cs=> ∃s:List Bool,cs=bools s∧s.length=l.length∧ ∀i,s.getD i false=true↔Rch (nxt l) i) id m:=by
 refine ZO (tT tH) ?_
 obtain⟨stk,cur,nx,live,fl⟩:=m
 dsimp only at hf
 have hln:=hc.len
 have hmx:=hx.max
 have hf':fl≤(stk++[cur]).length:=by simp;omega
 have hnx:=fun i hi=>VS hc h7 (i:=i) hi
 have hl0:0<(List.replicate l.length false).length:=by simp;omega
 have hst0:=tC (s:=List.replicate l.length false) (j:=0) true hl0
 have hbl0:0+1≤(bools (List.replicate l.length false)).length:=by rw[tD];omega
 have hix0:idx (.int .i64 0) l.length=some 0:=zo .i64 0 l.length (by omega)
 simp only[w15,w2f,w26] at hst0 hbl0
 simp only[tH,go_sem,G6,G8,hx.len,x6 (s:=1) (bytes:=1) (n:=l.length) (z:=[.bool false]) (by omega) (by omega) rfl,Zk,z8,hix0,w0d,hbl0,hst0]
 refine za (α:=List Bool×Bool) (fun z σ=>(RInv (nxt l) l.length z.1∧(z.2=false→ ∀i,z.1.getD i false=true↔Rch (nxt l) i))∧ ∃nz,heads [0,3,4] 1 σ=⟨tmps 50 [(0,x),(3,.arr (stk++[cur]).length 0 nx 0 l.length),(4,.bool z.2)],⟨stk++[cur],[⟨nx,bools z.1⟩],nz,[]::live,fl⟩⟩) (fun z=>2*unm z.1+(if z.2 then 1 else 0)) ((List.replicate l.length false).set 0 true,true) ?_ ?_
 ·refine⟨⟨RInv.start (nxt l) l.length (by omega),fun e=>by cases e⟩,?_⟩
  simp only[go_sem,G6,G7]
  simp
 ·rintro⟨s,ch⟩ σ ⟨⟨hR,hdone⟩,nz,hσ⟩
  rw[hσ]
  clear hσ σ
  dsimp only at hR hdone⊢
  cases ch with
  |false=>
   simp only[go_sem,G6,G7,G8]
   exact Vg (w:=id) (.inl rfl) (cs:=bools s) rfl (Un _ _ _ _) ⟨_,rfl,hR.len,hdone rfl⟩
  |true=>
   simp only[go_sem,G6,G7,G8]
   refine za (α:=Nat) (fun i σ=>i≤l.length∧ ∃nz,heads [0,3,4,5] 1 σ=⟨tmps 50 [(0,x),(3,.arr (stk++[cur]).length 0 nx 0 l.length),(4,.bool (ledR (nxt l) s i).2),(5,.int .i64 i)],⟨stk++[cur],[⟨nx,bools (ledR (nxt l) s i).1⟩],nz,[]::live,fl⟩⟩) (fun i=>l.length-i) 0 ?_ ?_
   ·refine⟨w0b _,?_⟩
    simp only[go_sem,G6,G7,ledR]
    simp
   ·rintro i σ ⟨hi,nz,hσ⟩
    rw[hσ]
    clear hσ σ
    dsimp only at hi⊢
    by_cases h:i<l.length
    ·have hK:=Va (nxt l) l.length hnx hR i hi
     have hstep:ledR (nxt l) s (i+1)=ledI (nxt l) (ledR (nxt l) s i) i:=rfl
     have hsu:IntKind.i64.wrap ((i:Int)+1)=((i+1:Nat):Int):=zc h hmx
     have hixi:idx (.int .i64 (i:Int)) l.length=some i:=zo .i64 i l.length h
     simp only[go_sem,G6,G7,G8,w02,h,hx.len]
     refine(Tv l x hx i h (Wj (hc.at h).1) _).xv fun y k1 ⟨hy,hyt⟩=> ?_
     simp only[go_sem,G6,G8]
     generalize ledR (nxt l) s i=p0 at*
     have hpl:=hK.r.len
     by_cases hin:p0.1.getD i false=true
     ·have hfold: ∀q,q≤(nxt l i).length→LK (nxt l) l.length s i (((nxt l i).take q).foldl ledK p0)∧(((nxt l i).take q).foldl ledK p0).1.getD i false=true:=fun q hq=>by
       have:=VY (nxt l) l.length hK hin (ks:=(nxt l i).take q) (done:=[]) (fun k hk=>⟨w40 hk,hnx i h k (w40 hk)⟩) (fun _ k hk=>by cases hk)
       grind
      refine za (α:=Nat) (fun q σ=>q≤(nxt l i).length∧ ∃nz,heads [0,3,4,5,6,7] 1 σ=⟨tmps 50 [(0,x),(3,.arr (stk++[cur]).length 0 nx 0 l.length),(4,.bool (((nxt l i).take q).foldl ledK p0).2),(5,.int .i64 i),(6,y),(7,.int .i64 q)],⟨stk++[cur],[⟨nx,bools (((nxt l i).take q).foldl ledK p0).1⟩],nz,[]::live,fl⟩⟩) (fun q=>(nxt l i).length-q) 0 ?_ ?_
      ·refine⟨w0b _,?_⟩
       simp only[go_sem,G6,G7,w15,List.foldl_nil]
       simp
      ·rintro q σ ⟨hq,nz,hσ⟩
       rw[hσ]
       clear hσ σ
       dsimp only at hq⊢
       obtain⟨hKq,hiq⟩:=hfold q hq
       by_cases hqn:q<(nxt l i).length
       ·have hsucc:((nxt l i).take (q+1)).foldl ledK p0=ledK (((nxt l i).take q).foldl ledK p0) (nxt l i)[q]:=by rw[w0c hqn,List.foldl_append];rfl
        have hkn:=hnx i h (nxt l i)[q] (w04 hqn)
        generalize ((nxt l i).take q).foldl ledK p0=p at*
        have hpl2:=hKq.r.len
        have e1:nth y q= .int .i64 ((nxt l i)[q]:Nat):=hy.nth hqn
        have hsq:IntKind.i64.wrap ((q:Int)+1)=((q+1:Nat):Int):=by have:=V3 l i;rw[z7 (by omega) (by omega)];omega
        have hgi:=xK (s:=p.1) (j:=i) (by omega)
        rw[hiq] at hgi
        have hixk:idx (.int .i64 ((nxt l i)[q]:Nat)) l.length=some (nxt l i)[q]:=zo .i64 _ l.length hkn
        have hgk:=xK (s:=p.1) (j:=(nxt l i)[q]) (by omega)
        have hlt:((q:Int)<((nxt l i).length:Nat))=True:=eq_true (by omega)
        simp only[go_sem,G6,G7,G8,hy.len,hlt,z8,hixi,w0d,hgi,hy.at .i64 hqn,e1,hixk,hgk]
        cases hk:p.1.getD (nxt l i)[q] false
        ·have hst:=tC (s:=p.1) (j:=(nxt l i)[q]) true (by omega)
         have hbl:(nxt l i)[q]+1≤(bools p.1).length:=by rw[tD];omega
         simp only[go_sem,G6,G8,hy.at .i64 hqn,e1,z8,hixk,w0d,hbl,hst,hsq]
         refine⟨q+1,by omega,by omega,nz,?_⟩
         rw[hsucc];unfold ledK;rw[hk];rfl
        ·simp only[go_sem,G6,G8,hsq]
         refine⟨q+1,by omega,by omega,nz,?_⟩
         rw[hsucc];unfold ledK;rw[hk];rfl
       ·have hqe:q=(nxt l i).length:=by omega
        subst hqe
        rw[w06] at*
        simp only[go_sem,G6,G7,G8,hy.len,show(((nxt l i).length:Nat):Int)<((nxt l i).length:Nat)↔False from⟨fun h=>by omega,False.elim⟩,hsu]
        refine⟨i+1,by omega,by omega,nz,?_⟩
        rw[hstep];unfold ledI;rw[hin];rfl
     ·have hin':p0.1.getD i false=false:=by simpa using hin
      have hgi:=xK (s:=p0.1) (j:=i) (by omega)
      rw[hin'] at hgi
      rw[yG]
      by_cases hq0:((0:Int)<((nxt l i).length:Nat))
      ·simp only[go_sem,G6,G7,G8,hy.len,hq0,z8,hixi,w0d,hgi,hsu]
       refine⟨i+1,by omega,by omega,k1,?_⟩
       rw[hstep];unfold ledI;rw[hin'];rfl
      ·simp only[go_sem,G6,G7,G8,hy.len,hq0,hsu]
       refine⟨i+1,by omega,by omega,k1,?_⟩
       rw[hstep];unfold ledI;rw[hin'];rfl
    ·have hie:i=l.length:=by omega
     subst hie
     have hK:=Va (nxt l) l.length hnx hR l.length (w08 _)
     simp only[go_sem,G6,G7,G8,w02,h,hx.len]
     refine⟨ledR (nxt l) s l.length,?_,⟨hK.r,fun e j=>by rw[(hK.eq e).1];exact z6f (nxt l) l.length hnx hR e j⟩,_,rfl⟩
     have h1:=hK.le
     cases hch:(ledR (nxt l) s l.length).2
     ·simp;omega
     ·have:=hK.lt hch
      simp;omega
end Go.Proofs.W
end
