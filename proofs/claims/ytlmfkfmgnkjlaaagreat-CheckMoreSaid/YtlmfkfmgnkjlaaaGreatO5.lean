/-
  Part 6 of the proof, shared by claims of this seat: R9S19, R9C20, R9C11, R9C12, R9S27, R9S28, R9S29, R9S20, R9S23, R9S24, R9S30, R9S25, R9S31, R9S26, R9S32, R9C24, R9C25, R9C26, R9C28, R9C29, R9C30, R9F1, R9F6, R9F7, R9F8.
-/
import Derived.Test.YtlmfkfmgnkjlaaaGreatO2
import Derived.Test.YtlmfkfmgnkjlaaaGreatO4
import Derived.Test.YtlmfkfmgnkjlaaaGreatO3
set_option maxHeartbeats 64000000
set_option linter.unusedVariables false
set_option linter.unusedSimpArgs false
open Nat renaming reduceEqDiff → G0, reduceBEq → G1, reduceLT → G2, reduceAdd → G3, reduceLeDiff → G4, reduceSub → G5, reduceBNe → G7, le_refl → w0b, zero_le → w0c, mul_one → w15, not_lt_zero → w38, zero_add → w39, lt_or_ge → w3e, le_trans → w4a, pow_le_pow_right → w57, lt_of_lt_of_le → w58
open Int renaming ofNat_lt → w03, toNat_of_nonneg → w41
open List renaming getD_eq_getElem?_getD → w00, length_append → w04, getElem?_eq_some_iff → w06, getElem?_append_left → w07, getElem_mem → w08, take_length → w09, mem_append → w0a, append_assoc → w0f, getElem?_append_right → w10, mem_singleton → w11, getElem?_eq_getElem → w13, take_succ_eq_append_getElem → w14, getElem?_eq_none → w17, mem_cons_of_mem → w18, getElem?_map → w19, append_nil → w1a, mem_cons_self → w1c, length_singleton → w1d, length_take → w1f, getElem?_set_ne → w20, cons_append → w21, take_zero → w24, drop_zero → w27, length_cons → w29, ext_getElem? → w2c, nil_append → w2e, take_of_length_le → w2f, flatMap_cons → w30, map_append → w33, length_nil → w34, map_cons → w35, getElem?_set → w36, getElem?_modify → w37, mem_map → w3a, mem_append_left → w3c, getElem?_replicate → w3d, flatten_cons → w43, length_map → w44, mem_append_right → w46, getElem?_range → w48, mem_of_mem_take → w4b, nodup_append → w4c, set_cons_succ → w4d, modify_eq_take_cons_drop → w4e, getElem?_set_self → w50, replicate_succ → w54, getElem?_cons_succ → w55, set_cons_zero → w59, length_drop → w5a
open Option renaming map_some → w0d, bind_some → w26, getD_some → w2a
open Bool renaming and_eq_true → w0e, or_eq_true → w31, eq_iff_iff → w40
section
namespace Go.Proofs.W
open Go.Vs
set_option linter.unusedSimpArgs false
set_option maxRecDepth 100000
def r0:DRun:=⟨0,0⟩
def runAt (l:List DRun) (j:Nat):DRun:=l.getD j r0
theorem z3r {l:List DRun} {j:Nat} (h:j<l.length):l[j]=runAt l j:=by simp[runAt,w00,h]
def stepOk (l:List DRun) (n:Int) (j:Nat):Prop:=(runAt l j).frm<n∧(0<j→(runAt l (j-1)).frm<(runAt l j).frm∧(runAt l (j-1)).value≠(runAt l j).value)
def FineR (l:List DRun) (n:Int):Prop:=0<l.length∧(runAt l 0).frm=0∧ ∀j,j<l.length→stepOk l n j
theorem IsSl.run {l:List DRun} {x:AV} (hx:IsSl IsRun 2 l x) {j:Nat} (h:j<l.length):nth x j= .agg [.int .i64 (runAt l j).frm,.int .u64 (runAt l j).value]:=by
 have:=hx.nth h
 rw[z3r h] at this
 exact this
theorem at0 {α:Type} {R:α→AV→Prop} {s:Nat} {xs:List α} {y:AV} (h:IsSl R s xs y) (hi:0<xs.length):evIaddr s y (.int .i64 0)=some (.ro (nth y 0).cells):=h.at .i64 hi
theorem z99 {α:Type} {R:α→AV→Prop} {s:Nat} {xs:List α} {y:AV} (h:IsSl R s xs y) {i:Nat} (h0:0<i) (hi:i-1<xs.length):evIaddr s y (.int .i64 ((i:Int)-1))=some (.ro (nth y (i-1)).cells):=by
 have:=h.at .i64 hi
 rwa [show((i-1:Nat):Int)=(i:Int)-1 by omega] at this
theorem TD (l:List DRun) (x:AV) (hx:IsSl IsRun 2 l x) (n:Int) (m:Mem):Okv tab v9 [x,.int .i64 n] m (.bool (pb (FineR l n))):=by
 refine zf Vv ?_
 obtain⟨stk,cur,nx,live,fl⟩:=m
 simp only[tC,List.map,go_sem,G3,G0,G2,hx.len]
 by_cases h0:0<l.length
 case neg=>
  have h0':(l.length:Int)<1:=by omega
  simp only[go_sem,G0,G2,h0']
  rw[z6 rfl rfl,z8]
  exact⟨⟨_,rfl⟩,by rw[zg fun h=>h0 h.1]⟩
 have h0': ¬(l.length:Int)<1:=by omega
 by_cases hz:(runAt l 0).frm=0
 case neg=>
  have hz':((runAt l 0).frm !=0)=true:=by simpa using hz
  simp only[go_sem,G0,G2,h0',at0 hx h0,IsSl.run hx h0,hz']
  rw[z6 rfl rfl,z8]
  exact⟨⟨_,rfl⟩,by rw[zg fun h=>hz h.2.1]⟩
 have hz':((runAt l 0).frm !=0)=false:=by simpa using hz
 simp only[go_sem,G0,G2,h0',at0 hx h0,IsSl.run hx h0,hz']
 refine zb (α:=Nat) (fun i σ=>(i≤l.length∧ ∀j,j<i→stepOk l n j)∧ ∃nz,heads [0,1,5] 0 σ=⟨tmps 61 [(0,x),(1,.int .i64 n),(5,.int .i64 i)],⟨stk++[cur],[],nz,[]::live,fl⟩⟩) (fun i=>l.length-i) 0 ?_ ?_
 ·refine⟨⟨w0c _,fun j h=>absurd h (w38 _)⟩,?_⟩
  simp only[go_sem,G0,G1]
  exact⟨_,rfl⟩
 ·rintro i σ ⟨⟨hi,ht⟩,nz,hσ⟩
  rw[hσ]
  clear hσ σ
  dsimp only at hi ht⊢
  by_cases h:i<l.length
  ·have e1:=IsSl.run hx h
   have hat:=hx.at .i64 h
   have bad: ¬stepOk l n i→pb (FineR l n)=false:=fun hb=>zg fun h'=>hb (h'.2.2 i h)
   have hsucc:=zd h hx.max
   have hmx:=hx.max
   have next:stepOk l n i→ ∀j,j<i+1→stepOk l n j:=fun hs j hj=>by
    rcases Nat.lt_succ_iff_lt_or_eq.1 hj with q|q
    ·exact ht j q
    ·exact q▸hs
   simp only[go_sem,G0,G1,G2,w03,h,hx.len,hat,e1]
   by_cases hn:(runAt l i).frm<n
   case neg=>
    have hn':(runAt l i).frm≥n:=by omega
    simp only[go_sem,G0,G2,hn']
    rw[z6 rfl rfl,z8]
    exact⟨⟨_,rfl⟩,by rw[bad fun h'=>hn h'.1]⟩
   have hn': ¬(runAt l i).frm≥n:=by omega
   by_cases hp:0<i
   case neg=>
    have hp': ¬((i:Int)>0):=by omega
    simp only[go_sem,G0,G2,hn',hp',hsucc]
    exact⟨i+1,by omega,⟨h,next ⟨hn,fun h'=>absurd h' hp⟩⟩,_,rfl⟩
   have hp':(i:Int)>0:=by omega
   have hsub:IntKind.i64.wrap ((i:Int)-1)=(i:Int)-1:=zc (by omega) (by omega)
   have e2:=IsSl.run hx (show i-1<l.length by omega)
   have hat2:=z99 hx hp (show i-1<l.length by omega)
   by_cases hq:(runAt l (i-1)).frm≥(runAt l i).frm
   ·simp only[go_sem,G0,G2,hn',hp',hsub,hat,e1,hat2,e2,hq]
    rw[z6 rfl rfl,z8]
    exact⟨⟨_,rfl⟩,by rw[bad fun h'=>by have:=(h'.2 hp).1;omega]⟩
   ·by_cases hv:(runAt l (i-1)).value=(runAt l i).value
    ·have hv':((runAt l (i-1)).value==(runAt l i).value)=true:=by simpa using hv
     simp only[go_sem,G0,G2,hn',hp',hsub,hat,e1,hat2,e2,hq,hv']
     rw[z6 rfl rfl,z8]
     exact⟨⟨_,rfl⟩,by rw[bad fun h'=>(h'.2 hp).2 hv]⟩
    ·have hv':((runAt l (i-1)).value==(runAt l i).value)=false:=by simpa using hv
     simp only[go_sem,G0,G2,hn',hp',hsub,hat,e1,hat2,e2,hq,hv',hsucc]
     exact⟨i+1,by omega,⟨h,next ⟨hn,fun _=>⟨by omega,hv⟩⟩⟩,_,rfl⟩
  ·have:i=l.length:=by omega
   subst this
   simp only[go_sem,G0,G1,G2,w03,h,hx.len]
   rw[z6 rfl rfl,z8]
   exact⟨⟨_,rfl⟩,by rw[zD ⟨h0,hz,ht⟩]⟩
noncomputable def err08 (l:List DRun) (n:Int):Int:=if n<1∨n>200 then 2 else if pb (FineR l n) then 0 else 8
theorem z3h (n:Int) (m:Mem):Okv tab tZ [.int .i64 n] m (.int .i64 (if n<1∨n>200 then 2 else 0)):=by
 refine zf Qw ?_
 obtain⟨stk,cur,nx,live,fl⟩:=m
 simp only[jr,List.map,go_sem,G0,G2]
 repeat' (((first|refine zo ?_ ?_|refine zl ?_ ?_|refine zm ?_ ?_|refine zj ?_ ?_|refine zk ?_ ?_)<;>intro hq)<;>simp only[go_sem,G0,G2,hq])
 all_goals
  rw[z6 rfl rfl,z8]
  refine⟨⟨_,rfl⟩,?_⟩
  simp only[decide_eq_true_eq,decide_eq_false_iff_not] at*
  simp[*]
theorem IsSl.from1 {α:Type} {R:α→AV→Prop} {s:Nat} {xs:List α} {y:AV} (h:IsSl R s xs y) (h0:0<xs.length): ∃y',evSlice s y (some (.int .i64 1)) none none=some y'∧IsSl R s (xs.drop 1) y':=by
 rcases h with⟨hm,⟨rfl,rfl⟩|⟨tk,ys,rfl,h⟩⟩
 ·simp at h0
 ·have hl:=h.len
  have hb:bound (some (.int .i64 1)) ys.length 0=some 1:=by
   unfold bound;simp only;rw[if_pos (by omega)];rfl
  have e:evSlice s (.list s tk ys) (some (.int .i64 1)) none none=some (.list s (if ys.length==ys.length&&(1==0||decide (1<ys.length)) then tk else .none) ((ys.take ys.length).drop 1)):=by
   unfold evSlice
   simp only[beq_self_eq_true,if_true]
   rw[show bound none ys.length ys.length=some ys.length from rfl,w26,hb]
   simp
  refine⟨_,e,?_⟩
  rw[w09]
  exact .mk (h.drop 1) (by rw[w5a];omega)
theorem z3Q {l:List DRun} {n:Int} (h0:0<l.length) (hl:(runAt l (l.length-1)).frm<n) (hs: ∀j,0<j→j<l.length→(runAt l (j-1)).frm<(runAt l j).frm): ∀k,k<l.length→(runAt l (l.length-1-k)).frm<n
 |0,_=>by simpa using hl
 |k+1,hk=>by
  have ih:=z3Q h0 hl hs k (by omega)
  have:=hs (l.length-1-k) (by omega) (by omega)
  rw[show l.length-1-k-1=l.length-1-(k+1) by omega] at this
  omega
theorem z2x (l:List DRun) (x:AV) (hx:IsSl IsRun 2 l x) (n:Int) (m:Mem):Okv tab Y7 [x,.int .i64 n] m (.bool (pb (FineR l n))):=by
 refine zf z2K ?_
 obtain⟨stk,cur,nx,live,fl⟩:=m
 have hmx:=hx.max
 simp only[ZX,List.map,go_sem,G3,G0,G2,hx.len]
 by_cases h0:0<l.length
 case neg=>
  have h0':((l.length:Int)==0)=true:=beq_iff_eq.2 (by omega)
  simp only[go_sem,G0,G2,h0']
  rw[z6 rfl rfl,z8]
  exact⟨⟨_,rfl⟩,by rw[zg fun h=>h0 h.1]⟩
 have h0':((l.length:Int)==0)=false:=beq_eq_false_iff_ne.2 (by omega)
 by_cases hz:(runAt l 0).frm=0
 case neg=>
  have hz':((runAt l 0).frm !=0)=true:=by simpa using hz
  simp only[go_sem,G0,G2,h0',at0 hx h0,IsSl.run hx h0,hz']
  rw[z6 rfl rfl,z8]
  exact⟨⟨_,rfl⟩,by rw[zg fun h=>hz h.2.1]⟩
 have hz':((runAt l 0).frm !=0)=false:=by simpa using hz
 have hsub:IntKind.i64.wrap ((l.length:Int)-1)=(l.length:Int)-1:=zc (by omega) (by omega)
 have hlast:=z99 hx h0 (show l.length-1<l.length by omega)
 have elast:=IsSl.run hx (show l.length-1<l.length by omega)
 by_cases hn:(runAt l (l.length-1)).frm<n
 case neg=>
  have hn':(runAt l (l.length-1)).frm≥n:=by omega
  simp only[go_sem,G0,G2,h0',at0 hx h0,IsSl.run hx h0,hz',hx.len,hsub,hlast,elast,hn']
  rw[z6 rfl rfl,z8]
  exact⟨⟨_,rfl⟩,by rw[zg fun h=>hn (h.2.2 _ (by omega)).1]⟩
 have hn': ¬(runAt l (l.length-1)).frm≥n:=by omega
 obtain⟨y,hy,hys⟩:=IsSl.from1 hx h0
 have hyl:=hys.len
 rw[w5a] at hyl
 simp only[go_sem,G3,G0,G2,h0',at0 hx h0,IsSl.run hx h0,hz',hx.len,hsub,hlast,elast,hn',hy,hyl]
 refine zb (α:=Nat) (fun i σ=>(i+1≤l.length∧ ∀j,0<j→j≤i→(runAt l (j-1)).frm<(runAt l j).frm∧(runAt l (j-1)).value≠(runAt l j).value)∧ ∃nz,heads [5,33,34,35] 1 σ=⟨tmps 55 [(5,.ptr (stk++[cur]).length 0 nx 0),(33,y),(34,.int .i64 (l.length-1:Nat)),(35,.int .i64 i)],⟨stk++[cur],[⟨nx,[.int .i64 (runAt l i).frm,.int .u64 (runAt l i).value]⟩],nz,[]::live,fl⟩⟩) (fun i=>l.length-i) 0 ?_ ?_
 ·refine⟨⟨h0,fun j h h'=>absurd h (by omega)⟩,?_⟩
  simp only[go_sem,G0,G1]
  exact⟨_,rfl⟩
 ·rintro i σ ⟨⟨hi,ht⟩,nz,hσ⟩
  rw[hσ]
  clear hσ σ
  dsimp only at hi ht⊢
  by_cases h:i<l.length-1
  ·have hd:i<(l.drop 1).length:=by rw[w5a];exact h
   have e1:nth y i= .agg [.int .i64 (runAt l (i+1)).frm,.int .u64 (runAt l (i+1)).value]:=by
    have:=IsSl.run hys hd
    rw[this]
    have:runAt (l.drop 1) i=runAt l (i+1):=by simp[runAt,w00]
    rw[this]
   have hat:=hys.at .i64 hd
   have hsucc:=zd hd hys.max
   have bad: ¬((runAt l i).frm<(runAt l (i+1)).frm∧(runAt l i).value≠(runAt l (i+1)).value)→pb (FineR l n)=false:=fun hb=>zg fun h'=>hb (by have:=(h'.2.2 (i+1) (by omega)).2 (by omega);simpa using this)
   simp only[go_sem,G3,G0,G1,G2,w03,h,hat,e1]
   by_cases hq:(runAt l (i+1)).frm≤(runAt l i).frm
   ·simp only[go_sem,G0,G2,hq]
    rw[z6 rfl rfl,z8]
    exact⟨⟨_,rfl⟩,by rw[bad fun h'=>by omega]⟩
   ·by_cases hv:(runAt l (i+1)).value=(runAt l i).value
    ·have hv':((runAt l (i+1)).value==(runAt l i).value)=true:=by simpa using hv
     simp only[go_sem,G3,G0,G4,G2,hq,evBuild,eqAt,eqCell,hv']
     rw[z6 rfl rfl,z8]
     exact⟨⟨_,rfl⟩,by rw[bad fun h'=>h'.2 hv.symm]⟩
    ·have hv':((runAt l (i+1)).value==(runAt l i).value)=false:=by simpa using hv
     simp only[go_sem,G3,G0,G4,G2,hq,evBuild,eqAt,eqCell,hv',hsucc]
     refine⟨i+1,by omega,⟨by omega,fun j hj hji=> ?_⟩,_,rfl⟩
     rcases Nat.lt_or_eq_of_le hji with q|q
     ·exact ht j hj (by omega)
     ·subst q;exact⟨by simpa using (by omega:(runAt l i).frm<(runAt l (i+1)).frm),fun e=>hv (by simpa using e.symm)⟩
  ·have hil:i=l.length-1:=by omega
   simp only[go_sem,G0,G1,G2,w03,h]
   rw[z6 rfl rfl,z8]
   refine⟨⟨_,rfl⟩,by rw[zD ⟨h0,hz,fun j hj=>⟨?_,fun hp=>ht j hp (by omega)⟩⟩]⟩
   have:=z3Q h0 hn (fun j hp hj=>(ht j hp (by omega)).1) (l.length-1-j) (by omega)
   rwa [show l.length-1-(l.length-1-j)=j by omega] at this
theorem kM (l:List DRun) (x:AV) (hx:IsSl IsRun 2 l x) (n:Int) (m:Mem):Okv tab tQ [x,.int .i64 n] m (.int .i64 (err08 l n)):=by
 refine zf z1b ?_
 obtain⟨stk,cur,nx,live,fl⟩:=m
 have hF:=fun m=>(z2x l x hx n m).eq
 have hC:=fun m=>(z3h n m).eq
 simp only[Z4,List.map,go_sem,G3,G0,G2,hC]
 by_cases hn:n<1∨n>200
 ·simp only[go_sem,G0,G2,hn,show((2:Int) !=0)=true from rfl]
  rw[z6 rfl rfl,z8]
  exact⟨⟨_,rfl⟩,by unfold err08;rw[if_pos hn]⟩
 ·simp only[go_sem,G0,G2,hn,show((0:Int) !=0)=false from rfl,hF]
  cases hp:pb (FineR l n)
  ·simp only[go_sem,G0,G2]
   rw[z6 rfl rfl,z8]
   exact⟨⟨_,rfl⟩,by unfold err08;rw[if_neg hn,hp];rfl⟩
  ·simp only[go_sem,G0,G2]
   rw[z6 rfl rfl,z8]
   exact⟨⟨_,rfl⟩,by unfold err08;rw[if_neg hn,hp];rfl⟩
def rns (v:List Nat):Nat→List DRun
 |0=>[]
 |k+1=>if k=0∨v.getD k 0≠v.getD (k-1) 0 then rns v k++[⟨k,(v.getD k 0:Nat)⟩] else rns v k
theorem Zj (v:List Nat): ∀k,(rns v k).length≤k
 |0=>by simp[rns]
 |k+1=>by
  have:=Zj v k
  unfold rns
  split<;>simp<;>omega
def madeR (v:List Nat):List DRun:=rns v v.length
theorem z01 (a b:Int):All2 IsRun [⟨a,b⟩] [.agg [.int .i64 a,.int .u64 b]]:=⟨rfl,trivial⟩
theorem zaO (v:List Nat) (hv:1≤v.length∧v.length≤200) (m:Mem) (L j st:Nat) (hL:L≤m.stk.length) (hb:m.blk L j st=some (us v)):Okp IsRun 2 tab jD [.arr L j st 0 v.length] m (madeR v) 0:=by
 refine z4H z2L ?_
 obtain⟨stk,cur,nx,live,fl⟩:=m
 have hrow:=qm hb hL
 have hne:(L==(stk++[cur]).length)=false:=by simp at hL⊢;omega
 have hidx: ∀k,k<v.length→idx (.int .i64 (k:Nat)) v.length=some k:=fun k h=>zw .i64 k _ h
 have hC:=fun m=>(z3h (v.length:Nat) m).eq
 rw[if_neg (by omega)] at hC
 simp only[ZY,List.map,go_sem,G0,G2,evLen,hC,show((0:Int) !=0)=false from rfl]
 refine zb (α:=Nat) (fun k σ=>k≤v.length∧ ∃nz y e,Own IsRun 2 y (rns v k) e∧heads [0,5,14,15] 0 σ=⟨tmps 43 [(0,.arr L j st 0 v.length),(5,y),(14,.int .i64 v.length),(15,.int .i64 k)],⟨stk++[cur],[],nz,e::live,fl⟩⟩) (fun k=>v.length-k) 0 ?_ ?_
 ·refine⟨w0c _,?_⟩
  simp only[go_sem,G0,G1]
  exact⟨_,_,[],.nil _,rfl⟩
 ·rintro k σ ⟨hk,nz,y,e,ho,hσ⟩
  rw[hσ]
  clear hσ σ
  dsimp only at hk⊢
  have hrl:=Zj v k
  by_cases h:k<v.length
  ·have hsucc:IntKind.i64.wrap ((k:Int)+1)=((k+1:Nat):Int):=by rw[zc (by omega) (by omega)];omega
   have hgk:=jj h
   have hik:=hidx k h
   by_cases h0:k=0
   ·subst h0
    rw[w27] at hgk
    have hr:rns v 1=[]++[⟨(0:Nat),(v.getD 0 0:Nat)⟩]:=by simp[rns]
    simp only[go_sem,G3,G0,G4,G1,G2,w03,h,show(((0:Nat):Int)>0)=False from eq_false (by decide),za,hik,w15,hne,hrow,hgk,evBuild]
    refine ho.xv (bytes:=16) (zh · 2 .full [.agg [.int .i64 ((0:Nat):Int),.int .u64 ((v.getD 0 0:Nat):Int)]]) (z01 _ _) (by simp only[w1d];omega) fun y' n' e' ho'=> ?_
    simp only[go_sem,G0,G2,hsucc]
    exact⟨1,by omega,h,n',y',e',by rw[hr];exact ho',rfl⟩
   ·have hk1:k-1<v.length:=by omega
    have hgk1:=jj hk1
    have hik1:=hidx (k-1) hk1
    have hsub:IntKind.i64.wrap ((k:Int)-1)=((k-1:Nat):Int):=by rw[zc (by omega) (by omega)];omega
    by_cases he:v.getD k 0=v.getD (k-1) 0
    ·have hr:rns v (k+1)=rns v k:=by rw[rns,if_neg fun q=>q.elim h0 (fun q=>q he)]
     have hbq:(((v.getD k 0:Nat):Int)==((v.getD (k-1) 0:Nat):Int))=true:=by rw[he];simp
     simp only[go_sem,G0,G1,G2,w03,h,show((k:Int)>0)=True from eq_true (by omega),za,hik,hik1,w15,hne,hrow,hgk,hsub,hgk1,hbq,hsucc]
     exact⟨k+1,by omega,h,nz,y,e,by rw[hr];exact ho,rfl⟩
    ·have hr:rns v (k+1)=rns v k++[⟨k,(v.getD k 0:Nat)⟩]:=by rw[rns,if_pos (Or.inr he)]
     have hbq:(((v.getD k 0:Nat):Int)==((v.getD (k-1) 0:Nat):Int))=false:=by rw[beq_eq_false_iff_ne,ne_eq,Int.ofNat_inj];exact he
     simp only[go_sem,G3,G0,G4,G1,G2,w03,h,show((k:Int)>0)=True from eq_true (by omega),za,hik,hik1,w15,hne,hrow,hgk,hsub,hgk1,hbq,evBuild]
     refine ho.xv (zh · 2 .full [.agg [.int .i64 (k:Int),.int .u64 ((v.getD k 0:Nat):Int)]]) (z01 _ _) (by simp only[w1d];omega) fun y' n' e' ho'=> ?_
     simp only[go_sem,G0,G2,hsucc]
     exact⟨k+1,by omega,h,n',y',e',by rw[hr];exact ho',rfl⟩
  ·have:k=v.length:=by omega
   subst this
   simp only[go_sem,G0,G1,G2,w03,h]
   exact YC ho
def IsU (n:Nat) (y:AV):Prop:=y= .int .u64 (n:Int)
theorem zcE (v:List Nat) (hv:v.length≤200) (x:AV) (hx:IsSl IsU 1 v x) (m:Mem):Okl IsRun 2 tab yZ [x] m (madeR v):=by
 have hel: ∀k,k<v.length→nth x k= .int .u64 ((v.getD k 0:Nat):Int):=fun k h=>by
  have:=hx.nth h
  rw[show v[k]=v.getD k 0 by simp[w00,h]] at this
  exact this
 have hlx:=hx.len
 refine qy jI ?_
 obtain⟨stk,cur,nx,live,fl⟩:=m
 skip
 simp only[xY,List.map,go_sem]
 refine zb (α:=Nat) (fun k σ=>k≤v.length∧ ∃nz y e,Own IsRun 2 y (rns v k) e∧heads [0,3,4] 0 σ=⟨tmps 35 [(0,x),(3,y),(4,.int .i64 k)],⟨stk++[cur],[],nz,e::live,fl⟩⟩) (fun k=>v.length-k) 0 ?_ ?_
 ·refine⟨w0c _,?_⟩
  simp only[go_sem,G0,G1]
  exact⟨_,_,[],.nil _,rfl⟩
 ·rintro k σ ⟨hk,nz,y,e,ho,hσ⟩
  rw[hσ]
  clear hσ σ
  dsimp only at hk⊢
  have hrl:=Zj v k
  by_cases h:k<v.length
  ·have hsucc:IntKind.i64.wrap ((k:Int)+1)=((k+1:Nat):Int):=by rw[zc (by omega) (by omega)];omega
   obtain⟨a1,a2⟩:=(⟨hx.at .i64 h,hel k h⟩:_∧_)
   by_cases h0:k=0
   ·subst h0
    try rw[w27] at a2
    have hr:rns v 1=[]++[⟨(0:Nat),(v.getD 0 0:Nat)⟩]:=by simp[rns]
    simp only[go_sem,G3,G0,G4,G1,G2,hlx,w03,h,show(((0:Nat):Int)==0)=true from rfl,a1,a2,evBuild]
    refine ho.xv (bytes:=16) (zh · 2 .full [.agg [.int .i64 ((0:Nat):Int),.int .u64 ((v.getD 0 0:Nat):Int)]]) (z01 _ _) (by simp only[w1d];omega) fun y' n' e' ho'=> ?_
    simp only[go_sem,G0,G2,hsucc]
    exact⟨1,by omega,h,n',y',e',by rw[hr];exact ho',rfl⟩
   ·have hk1:k-1<v.length:=by omega
    obtain⟨b1,b2⟩:=(⟨hx.at .i64 hk1,hel _ hk1⟩:_∧_)
    have hsub:IntKind.i64.wrap ((k:Int)-1)=((k-1:Nat):Int):=by rw[zc (by omega) (by omega)];omega
    have hk0:((k:Int)==0)=false:=by rw[beq_eq_false_iff_ne];omega
    by_cases he:v.getD k 0=v.getD (k-1) 0
    ·have hr:rns v (k+1)=rns v k:=by rw[rns,if_neg fun q=>q.elim h0 (fun q=>q he)]
     have hbq:(((v.getD k 0:Nat):Int) !=((v.getD (k-1) 0:Nat):Int))=false:=by rw[he];simp
     simp only[go_sem,G0,G1,G2,hlx,w03,h,hk0,a1,a2,b1,b2,hsub,hbq,hsucc]
     exact⟨k+1,by omega,h,nz,y,e,by rw[hr];exact ho,rfl⟩
    ·have hr:rns v (k+1)=rns v k++[⟨k,(v.getD k 0:Nat)⟩]:=by rw[rns,if_pos (Or.inr he)]
     have hbq:(((v.getD k 0:Nat):Int) !=((v.getD (k-1) 0:Nat):Int))=true:=by rw[bne_iff_ne,ne_eq,Int.ofNat_inj];exact he
     simp only[go_sem,G3,G0,G4,G1,G2,hlx,w03,h,hk0,a1,a2,b1,b2,hsub,hbq,evBuild]
     refine ho.xv (zh · 2 .full [.agg [.int .i64 (k:Int),.int .u64 ((v.getD k 0:Nat):Int)]]) (z01 _ _) (by simp only[w1d];omega) fun y' n' e' ho'=> ?_
     simp only[go_sem,G0,G2,hsucc]
     exact⟨k+1,by omega,h,n',y',e',by rw[hr];exact ho',rfl⟩
  ·have:k=v.length:=by omega
   subst this
   simp only[go_sem,G0,G1,G2,hlx,w03,h]
   exact vz ho
theorem zcF (v:List Nat) (hv:v.length≤200) (m:Mem) (L j st:Nat) (hL:L≤m.stk.length) (hb:m.blk L j st=some (us v)) (x:AV) (hx:x= .arr L j st 0 v.length):Okl IsRun 2 tab yZ [x] m (madeR v):=by
 have hlx:evLen x=some (.int .i64 v.length):=by rw[hx];rfl
 have hat: ∀k,k<v.length→evIaddr 1 x (.int .i64 (k:Nat))=some (.ptr L j st k):=fun k h=>by
  rw[hx,za,zw .i64 k _ h];simp
 refine qy jI ?_
 obtain⟨stk,cur,nx,live,fl⟩:=m
 have hrow:=qm hb hL
 have hne:(L==(stk++[cur]).length)=false:=by simp at hL⊢;omega
 have hidx: ∀k,k<v.length→idx (.int .i64 (k:Nat)) v.length=some k:=fun k h=>zw .i64 k _ h
 simp only[xY,List.map,go_sem]
 refine zb (α:=Nat) (fun k σ=>k≤v.length∧ ∃nz y e,Own IsRun 2 y (rns v k) e∧heads [0,3,4] 0 σ=⟨tmps 35 [(0,x),(3,y),(4,.int .i64 k)],⟨stk++[cur],[],nz,e::live,fl⟩⟩) (fun k=>v.length-k) 0 ?_ ?_
 ·refine⟨w0c _,?_⟩
  simp only[go_sem,G0,G1]
  exact⟨_,_,[],.nil _,rfl⟩
 ·rintro k σ ⟨hk,nz,y,e,ho,hσ⟩
  rw[hσ]
  clear hσ σ
  dsimp only at hk⊢
  have hrl:=Zj v k
  by_cases h:k<v.length
  ·have hsucc:IntKind.i64.wrap ((k:Int)+1)=((k+1:Nat):Int):=by rw[zc (by omega) (by omega)];omega
   obtain⟨a1,a2⟩:=(⟨hat k h,jj h⟩:_∧_)
   by_cases h0:k=0
   ·subst h0
    try rw[w27] at a2
    have hr:rns v 1=[]++[⟨(0:Nat),(v.getD 0 0:Nat)⟩]:=by simp[rns]
    simp only[go_sem,G3,G0,G4,G1,G2,hlx,hne,hrow,w03,h,show(((0:Nat):Int)==0)=true from rfl,a1,a2,evBuild]
    refine ho.xv (bytes:=16) (zh · 2 .full [.agg [.int .i64 ((0:Nat):Int),.int .u64 ((v.getD 0 0:Nat):Int)]]) (z01 _ _) (by simp only[w1d];omega) fun y' n' e' ho'=> ?_
    simp only[go_sem,G0,G2,hsucc]
    exact⟨1,by omega,h,n',y',e',by rw[hr];exact ho',rfl⟩
   ·have hk1:k-1<v.length:=by omega
    obtain⟨b1,b2⟩:=(⟨hat _ hk1,jj hk1⟩:_∧_)
    have hsub:IntKind.i64.wrap ((k:Int)-1)=((k-1:Nat):Int):=by rw[zc (by omega) (by omega)];omega
    have hk0:((k:Int)==0)=false:=by rw[beq_eq_false_iff_ne];omega
    by_cases he:v.getD k 0=v.getD (k-1) 0
    ·have hr:rns v (k+1)=rns v k:=by rw[rns,if_neg fun q=>q.elim h0 (fun q=>q he)]
     have hbq:(((v.getD k 0:Nat):Int) !=((v.getD (k-1) 0:Nat):Int))=false:=by rw[he];simp
     simp only[go_sem,G0,G1,G2,hlx,hne,hrow,w03,h,hk0,a1,a2,b1,b2,hsub,hbq,hsucc]
     exact⟨k+1,by omega,h,nz,y,e,by rw[hr];exact ho,rfl⟩
    ·have hr:rns v (k+1)=rns v k++[⟨k,(v.getD k 0:Nat)⟩]:=by rw[rns,if_pos (Or.inr he)]
     have hbq:(((v.getD k 0:Nat):Int) !=((v.getD (k-1) 0:Nat):Int))=true:=by rw[bne_iff_ne,ne_eq,Int.ofNat_inj];exact he
     simp only[go_sem,G3,G0,G4,G1,G2,hlx,hne,hrow,w03,h,hk0,a1,a2,b1,b2,hsub,hbq,evBuild]
     refine ho.xv (zh · 2 .full [.agg [.int .i64 (k:Int),.int .u64 ((v.getD k 0:Nat):Int)]]) (z01 _ _) (by simp only[w1d];omega) fun y' n' e' ho'=> ?_
     simp only[go_sem,G0,G2,hsucc]
     exact⟨k+1,by omega,h,n',y',e',by rw[hr];exact ho',rfl⟩
  ·have:k=v.length:=by omega
   subst this
   simp only[go_sem,G0,G1,G2,hlx,w03,h]
   exact vz ho
def Wm (l:List DInstr) (i:Nat):Nat:=if i<l.length then maskN (wrs (inA l i)) else 0
theorem z2s {l:List DInstr} (hc:CodeP l) (i:Nat):Wm l i<65536:=by
 unfold Wm
 split
 ·rename_i h;exact TX (Q0 (hc.at h).1 (hc.at h).2.1) (w0b _)
 ·omega
def wsA (l:List DInstr) (k:Nat):List Nat:=(List.range l.length).map fun j=>if j<k then Wm l j else 0
theorem TA (l:List DInstr) (k:Nat):(wsA l k).length=l.length:=by simp[wsA]
theorem z8u {l:List DInstr} {k j:Nat} (h:j<l.length):(wsA l k).getD j 0=if j<k then Wm l j else 0:=by
 simp[wsA,w00,h]
theorem zaE (l:List DInstr):wsA l 0=List.replicate l.length 0:=by
 apply w2c
 intro j
 simp only[wsA,w19,w3d]
 by_cases h:j<l.length
 ·simp[h]
 ·rw[w17 (by simpa using h),if_neg h];rfl
theorem zcp {l:List DInstr} {k:Nat} (h:k<l.length):(wsA l k).set k (Wm l k)=wsA l (k+1):=by
 apply w2c
 intro j
 rw[w36]
 simp only[wsA,w44,List.length_range,w19]
 by_cases e:k=j
 ·subst e;simp[h]
 ·rw[if_neg e]
  by_cases hj:j<l.length
  ·simp only[w48 hj,w0d,Option.some.injEq]
   by_cases q:j<k
   ·rw[if_pos q,if_pos (by omega)]
   ·rw[if_neg q,if_neg (by omega)]
  ·rw[w17 (by simpa using hj)];rfl
def CM (a0 a1 a2 a3 a4 a5 a6 L n:Nat) (pr:Int) (ws:List Nat) (s:MS):List Blk:=
 [⟨a0,[.int .i64 pr]⟩,⟨a1,us ws⟩,⟨a2,[.arr L 1 a1 0 n]⟩,⟨a3,[.arr L 5 a5 0 n]⟩,⟨a4,[.arr L 6 a6 0 n]⟩,⟨a5,us s.2⟩,⟨a6,bools s.1⟩]
def PM (n:Nat) (s:MS) (k:Nat) (fr:Option Nat):Prop:=s.1.length=n∧s.2.length=n∧k<n∧(∀i,fr=some i→i<n)∧ ∀j,s.2.getD j 0<65536
theorem zaN (S:List (List Blk)) (a0 a1 a2 a3 a4 a5 a6 n fl:Nat) (pr:Int) (hpr:0≤pr∧pr≤16) (ws:List Nat) (hws:ws.length=n) (hw16: ∀j,ws.getD j 0<65536) (hfl:fl≤S.length):
  Meets S (CM a0 a1 a2 a3 a4 a5 a6 S.length n pr ws) (.fn (.func ja) [] [.ptr S.length 0 a0 0,.ptr S.length 4 a4 0,.ptr S.length 3 a3 0,.ptr S.length 2 a2 0]) fl (PM n) (updM (fun i=>ws.getD i 0) (2^pr.toNat-1)):=by
 refine⟨_,_,_,rfl,?_⟩
 rintro s k fr c nz lv ⟨hs1,hs2,hk,hfr,hbits⟩
 suffices h:Does tab ja [.int .i64 (k:Nat),.int .i64 (frm fr),.ptr S.length 0 a0 0,.ptr S.length 4 a4 0,.ptr S.length 3 a3 0,.ptr S.length 2 a2 0] ⟨S++[CM a0 a1 a2 a3 a4 a5 a6 S.length n pr ws s],c,nz,lv,fl⟩ fun v m'=> ∃nz',v= .bool (updM (fun i=>ws.getD i 0) (2^pr.toNat-1) s k fr).2∧m'=⟨S++[CM a0 a1 a2 a3 a4 a5 a6 S.length n pr ws (updM (fun i=>ws.getD i 0) (2^pr.toNat-1) s k fr).1],c,nz',lv,fl⟩ by
  obtain⟨z,h1,n',h2,h3⟩:=h
  exact⟨n',by rw[←h2,←h3];exact h1⟩
 refine zW z1i ?_ (Nat.le_of_ble_eq_true rfl)
 obtain⟨met,out⟩:=s
 dsimp only at hs1 hs2 hbits
 have hix:idx (.int .i64 (k:Int)) n=some k:=zw .i64 k n hk
 have hst1:=tW (s:=met) (j:=k) true (by omega)
 have hbl1:k+1≤(bools met).length:=by rw[tX];omega
 have hbl2:k+1≤(us out).length:=by rw[Vj];omega
 have hst2:=fun v=>Vi (s:=out) (j:=k) v (by omega)
 have hgk:=jj (s:=out) (j:=k) (by omega)
 have hgm:=xV (s:=met) (j:=k) (by omega)
 cases fr with
 |none=>
  have hp:2^pr.toNat≤65536:=w57 (by decide) (show pr.toNat≤16 by omega)
  have h1:1≤2^pr.toNat:=Nat.one_le_two_pow
  have hw:IntKind.u64.wrap (((2^pr.toNat:Nat):Int)-1)=((2^pr.toNat-1:Nat):Int):=by
   generalize 2^pr.toNat=p at*
   rw[zH (by omega) (by omega)];omega
  simp only[j5,List.map,go_sem,G3,G0,G4,G2,frm,show((-1:Int)<0)=True from eq_true (by decide),Ua,YB,CM,z6I hpr,hw,za,hix,w15,hfl,hbl1,hst1,hbl2,hst2,UF,Yk,G7,List.all_cons,List.all_nil,bne_self_eq_false]
  rw[yO rfl rfl,z8]
  exact⟨_,rfl,rfl⟩
 |some i=>
  have hi:=hfr i rfl
  have hixi:idx (.int .i64 (i:Int)) n=some i:=zw .i64 i n hi
  have hgi:=jj (s:=out) (j:=i) (by omega)
  have hgw:=jj (s:=ws) (j:=i) (by omega)
  have hor:=z6J (hbits i) (hw16 i)
  have hand:=z7X (b:=out.getD i 0|||ws.getD i 0) (hbits k) (z0I (hbits i) (hw16 i))
  simp only[j5,List.map,go_sem,G3,G0,G2,frm,show((i:Int)<0)=False from eq_false (by omega),Ua,YB,CM,za,hix,hixi,w15,hgi,hgw,hor,hgm]
  cases hm:met.getD k false
  ·simp only[go_sem,G0,G4,G2,Ua,YB,za,hix,w15,hfl,hbl1,hst1,hbl2,hst2,UF,Yk,G7,List.all_nil,bne_self_eq_false]
   rw[yO rfl rfl,z8]
   refine⟨nz,?_,?_⟩
   ·unfold updM;dsimp only;rw[hm];rfl
   ·unfold updM;dsimp only;rw[hm];rfl
  ·have hgk2:=jj (s:=out.set k (out.getD k 0&&&(out.getD i 0|||ws.getD i 0))) (j:=k) (by simp;omega)
   rw[Vs.getD_set_eq (by omega)] at hgk2
   simp only[go_sem,G0,G2,Ua,YB,za,hix,w15,hgk,hand,hfl,hbl2,hst2,UF,Yk,hgk2]
   rw[yO rfl rfl,z8]
   refine⟨nz,?_,?_⟩
   ·unfold updM;dsimp only;rw[hm]
    simp only[if_true]
    congr 1
    rw[w40,bne_iff_ne,bne_iff_ne,ne_eq,ne_eq,Int.ofNat_inj]
   ·unfold updM;dsimp only;rw[hm];rfl
def Near16 (l:List DInstr) (n:Int):Prop:= ∀i,i<l.length→(∀s∈rds (inA l i),s<n)∧ ∀s∈wrs (inA l i),s<n
theorem zb2 {a n:Nat} (h:a<2^n):a>>>n=0:=by rw[Nat.shiftRight_eq_div_pow,Nat.div_eq_of_lt h]
theorem zcD (l:List DInstr) (x:AV) (hx:IsSl IsInstr 4 l x) (hc:CodeP l) (h7:Ok07 l) (pr sl:Int) (hp:0≤pr∧pr≤sl∧sl≤16) (hn:Near16 l sl) (m:Mem) (hf:m.floor≤m.stk.length+1):
  CallArr XT [x,.int .i64 pr,.int .i64 sl] l.length (fun cs=> ∃o:List Nat,cs=us o∧o.length=l.length∧ ∀i,i<l.length→o.getD i 0=if i=l.length-1 then 0 else mskOf (nxt l) (Wm l) (2^pr.toNat-1) i) (fun y=> .tup [y,.int .i64 0]) m:=by
 refine XG z4t ?_
 obtain⟨stk,cur,nx,live,fl⟩:=m
 dsimp only at hf
 have hf':fl≤(stk++[cur]).length+1:=by simp;omega
 have hfl:fl≤(stk++[cur]).length:=by simp;omega
 have hln:=hc.len
 have hmx:=hx.max
 have hC:=fun c nz=>(ke l x hx hc ⟨stk++[cur],c,nz,[]::live,fl⟩ hf').eq
 rw[YF h7] at hC
 simp only[XP,List.map,go_sem,G3,G0,G2,hC,show((0:Int) !=0)=false from rfl,show¬(sl<0) by omega,show¬(sl>16) by omega,show¬(pr<0) by omega,show¬(pr>sl) by omega,hx.len,xx (s:=1) (bytes:=8) (n:=l.length) (z:=[.int .u64 0]) (by omega) (by omega) rfl,z4n]
 generalize callNx tab vd _ _=nz
 refine zb (α:=Nat) (fun k σ=>k≤l.length∧ ∃nz' e,heads [0,2,4,9,40,41,42] 3 σ=⟨tmps 87 [(0,x),(2,.int .i64 sl),(4,.ptr (stk++[cur]).length 0 nx 0),(9,.ptr (stk++[cur]).length 2 (nz+1) 0),(40,x),(41,.int .i64 l.length),(42,.int .i64 k)],⟨stk++[cur],[⟨nx,[.int .i64 pr]⟩,⟨nz,us (wsA l k)⟩,⟨nz+1,[.arr (stk++[cur]).length 1 nz 0 l.length]⟩],nz',e::live,fl⟩⟩) (fun k=>l.length-k) 0 ?_ ?_
 ·refine⟨w0c _,?_⟩
  simp only[go_sem,G0,G1,zaE]
  exact⟨_,_,rfl⟩
 ·rintro k σ ⟨hk,nz',e,hσ⟩
  rw[hσ]
  clear hσ σ
  dsimp only at hk⊢
  by_cases h:k<l.length
  ·obtain⟨c1,c2,c3⟩:=hc.at h
   have hsucc:=zd h hmx
   have hixk:idx (.int .i64 (k:Int)) l.length=some k:=zw .i64 k l.length h
   simp only[go_sem,G3,G0,G1,G2,w03,h,hx.at _ h,hx.inA h]
   refine(z4j (inA l k) c2 c1 _ hf').xv fun r ts n1 ⟨y1,y2,hr,ho⟩=> ?_
   subst hr
   have hy1:=ho.l.sl (by have:=VM (inA l k) 3;unfold rds;omega)
   have hy2:=ho.r.sl (by have:=Y9 (inA l k) 3;unfold wrs;omega)
   have m1:=fun m=>(zaG _ y1 hy1 (z4U c1 c2) m).eq
   have m2:=fun m=>(zaG _ y2 hy2 (Q0 c1 c2) m).eq
   have hW:maskN (wrs (inA l k))=Wm l k:=by unfold Wm;rw[if_pos h]
   have hbl:k+1≤(us (wsA l k)).length:=by rw[Vj,TA];exact h
   have hst:=Vi (s:=wsA l k) (j:=k) (Wm l k) (by rw[TA];exact h)
   have hgw:=jj (s:=wsA l (k+1)) (j:=k) (by rw[TA];exact h)
   rw[z8u h,if_pos (Nat.lt_succ_self k)] at hgw
   rw[zcp h] at hst
   have hor:=z6J (a:=maskN (rds (inA l k))) (TX (z4U c1 c2) (w0b _)) (z2s hc k)
   have hshr:=z7W (a:=maskN (rds (inA l k))|||Wm l k) (s:=sl) ⟨by omega,hp.2.2⟩
   have hlt:maskN (rds (inA l k))|||Wm l k<2^sl.toNat:=by
    refine Nat.or_lt_two_pow ?_ ?_
    ·exact U4 (fun s hs=>⟨(z4U c1 c2 s hs).1,by have:=(hn k h).1 s hs;omega⟩) _ (w0b _)
    ·rw[←hW];exact U4 (fun s hs=>⟨(Q0 c1 c2 s hs).1,by have:=(hn k h).2 s hs;omega⟩) _ (w0b _)
   rw[zb2 hlt] at hshr
   rw[hW] at m2
   cases ts with
   |nil=>
    simp only[go_sem,G0,G2,show((0:Int) !=0)=false from rfl,m2,za,hixk,w15,hbl,hst,hgw,m1,hor,hshr,show(((0:Nat):Int) !=0)=false from rfl,hsucc]
    exact⟨k+1,by omega,h,_,_,rfl⟩
   |cons t0 ts=>
    simp only[go_sem,G0,G2,show((0:Int) !=0)=false from rfl,m2,za,hixk,w15,hbl,hst,hgw,m1,hor,hshr,show(((0:Nat):Int) !=0)=false from rfl,hsucc]
    exact⟨k+1,by omega,h,_,_,rfl⟩
  ·have hke:k=l.length:=by omega
   subst hke
   simp only[go_sem,G3,G0,G1,G2,w03,h,hx.len,xx (s:=1) (bytes:=8) (n:=l.length) (z:=[.int .u64 0]) (by omega) (by omega) rfl,z4n,xx (s:=1) (bytes:=1) (n:=l.length) (z:=[.bool false]) (by omega) (by omega) rfl,YI]
   have hnx:=fun i hi=>QE hc h7 (i:=i) hi
   have hWeq:(fun i=>(wsA l l.length).getD i 0)=Wm l:=by
    funext i
    by_cases hi:i<l.length
    ·rw[z8u hi,if_pos hi]
    ·rw[w00,w17 (by rw[TA];omega)]
     unfold Wm;rw[if_neg hi];rfl
   have hp0:2^pr.toNat-1<65536:=by
    have:2^pr.toNat≤65536:=w57 (by decide) (show pr.toNat≤16 by omega)
    have h1:1≤2^pr.toNat:=Nat.one_le_two_pow
    omega
   have hM:=zaN (stk++[cur]) nx nz (nz+1) nz' (nz'+1) (nz'+1+1) (nz'+1+1+1) l.length fl pr ⟨hp.1,by omega⟩ (wsA l l.length) (TA _ _) (fun j=>by have:=congrFun hWeq j;rw[this];exact z2s hc j) hfl
   rw[hWeq] at hM
   obtain⟨s',n',hcall,hJ⟩:=z5k l x hx (fun j hj=>Tn (hc.at hj).1) (stk++[cur]) _ _ fl hfl _ _ hM (MJ (nxt l) l.length (Wm l) (2^pr.toNat-1)) (fun s op=>2*phi s.1 s.2+op.length)
    (List.replicate l.length false,List.replicate l.length 0) ⟨by simp,by simp,by omega,fun i h=>(by cases h),fun j=>by simp only[w00,w3d];split<;>simp⟩
    (MJ.start (nxt l) l.length (Wm l) _ (by omega) hp0)
    (fun s op h=>by have:=h.b;have:l.length*65536≤200*65536:=Nat.mul_le_mul_right _ hln.2;omega) (fun s op h i hi=>(h.o i hi).1)
    (fun s op i h j hj=>by
     have hi:=(h.o i (by simp)).1
     have:=MK.all (nxt l) l.length (Wm l) _ (z2s hc) (h.pop (nxt l) l.length (Wm l) _) (ks:=(nxt l i).take j) (fun k hk=>⟨w4b hk,hnx i hi k (w4b hk)⟩)
     exact⟨this.r.l1,this.r.l2,hnx i hi _ (w08 hj),fun i' hi'=>by injection hi' with hi';omega,this.r.lt⟩)
    (fun s op i h=>h.next (nxt l) l.length (Wm l) _ (z2s hc) hnx) (nz'+1+1+1+1) (e::live)
   simp only[CM] at hcall
   have hsl:=hJ.r.l2
   have hsub:IntKind.i64.wrap ((l.length:Int)-1)=((l.length-1:Nat):Int):=by rw[zc (by omega) (by omega)];omega
   have hix:idx (.int .i64 ((l.length-1:Nat):Int)) l.length=some (l.length-1):=zw .i64 _ _ (by omega)
   have hst:=Vi (s:=s'.2) (j:=l.length-1) 0 (by omega)
   have hbl:l.length-1+1≤(us s'.2).length:=by rw[Vj];omega
   simp only[go_sem,G0,G2,hcall,evLen,hsub,za,hix,w15,hbl]
   have hst0:(us s'.2).take (l.length-1)++[.int .u64 0]++(us s'.2).drop (l.length-1+1)=us (s'.2.set (l.length-1) 0):=hst
   rw[hst0]
   refine Q9 (w:=fun y=> .tup [y,.int .i64 0]) (.inr ⟨_,rfl,rfl,rfl,rfl⟩) (cs:=us (s'.2.set (l.length-1) 0)) rfl (z1o _ _ _ _) ⟨_,rfl,by simp[hsl],fun i hi=> ?_⟩
   by_cases ei:l.length-1=i
   ·subst ei
    rw[Vs.getD_set_eq (by omega),if_pos rfl]
   ·rw[Vs.getD_set_ne ei,hJ.done (nxt l) l.length (Wm l) _ i,if_neg fun q=>ei q.symm]
def fillA (n k A:Nat):List Nat:=List.replicate k A++List.replicate (n-k) 0
theorem UG {n k A:Nat} (h:k≤n):(fillA n k A).length=n:=by simp[fillA];omega
theorem za7 {n k A:Nat} (h:k<n):(fillA n k A).set k A=fillA n (k+1) A:=by
 unfold fillA
 rw[List.set_append_right _ _ (by simp),List.length_replicate,Nat.sub_self,show n-k=(n-(k+1))+1 by omega,w54,w59]
 apply w2c
 intro j
 rcases Nat.lt_trichotomy j k with q|q|q
 ·rw[w07 (by simp;omega),w07 (by simp;omega)]
  simp[q,show j<k+1 by omega]
 ·subst q
  rw[w10 (by simp),w07 (by simp)]
  simp
 ·rw[w10 (by simp;omega),w10 (by simp;omega)]
  simp only[List.length_replicate]
  rw[show j-k=(j-(k+1))+1 by omega,w55]
theorem z7U (n A:Nat):fillA n 0 A=List.replicate n 0:=by simp[fillA]
theorem z3R (n A:Nat):fillA n n A=List.replicate n A:=by simp[fillA]
theorem zd4 {a b:Nat} (h:a≤b):Sub (2^a-1) (2^b-1):=fun s hs=>by
 rw[Nat.testBit_two_pow_sub_one,decide_eq_true_eq] at hs⊢;omega
theorem zex {a b:Nat} (h:a<2^b):Sub a (2^b-1):=fun s hs=>by
 rw[Nat.testBit_two_pow_sub_one,decide_eq_true_eq]
 rcases w3e s b with q|q
 ·exact q
 ·have:=Nat.testBit_lt_two_pow (w58 h (w57 (by decide) q))
  rw[this] at hs;cases hs
theorem zaP (l:List DInstr) (x:AV) (hx:IsSl IsInstr 4 l x) (hc:CodeP l) (h7:Ok07 l) (pr sl:Int) (hp:0≤pr∧pr≤sl∧sl≤16) (hn:Near16 l sl) (m:Mem) (hf:m.floor≤m.stk.length+1):
  CallArr va [x,.int .i64 pr,.int .i64 sl] l.length (fun cs=> ∃o:List Nat,cs=us o∧o.length=l.length∧ ∀i,i<l.length→o.getD i 0=if i=l.length-1 then 0 else mskOf (nxt l) (Wm l) (2^pr.toNat-1) i) id m:=by
 refine XG Vx ?_
 obtain⟨stk,cur,nx,live,fl⟩:=m
 dsimp only at hf
 have hf':fl≤(stk++[cur]).length+1:=by simp;omega
 have hfl:fl≤(stk++[cur]).length:=by simp;omega
 have hln:=hc.len
 have hmx:=hx.max
 have hnx:=fun i hi=>QE hc h7 (i:=i) hi
 have hpA:2^sl.toNat-1<65536:=by
  have:2^sl.toNat≤65536:=w57 (by decide) (show sl.toNat≤16 by omega)
  have h1:1≤2^sl.toNat:=Nat.one_le_two_pow
  omega
 have hpp:2^pr.toNat-1<65536:=by
  have:2^pr.toNat≤65536:=w57 (by decide) (show pr.toNat≤16 by omega)
  have h1:1≤2^pr.toNat:=Nat.one_le_two_pow
  omega
 have hWsub: ∀i,Sub (Wm l i) (2^sl.toNat-1):=fun i=>by
  refine zex ?_
  unfold Wm
  split
  ·rename_i hi
   exact U4 (fun s hs=>⟨(Q0 (hc.at hi).1 (hc.at hi).2.1 s hs).1,by have:=(hn i hi).2 s hs;omega⟩) _ (w0b _)
  ·exact Nat.two_pow_pos _
 generalize hP0:2^pr.toNat-1=p0 at*
 have hps:Sub p0 (2^sl.toNat-1):=by rw[←hP0];exact zd4 (by omega)
 generalize hA:2^sl.toNat-1=A at*
 have hL1:=fun m=>(z8C sl ⟨by omega,hp.2.2⟩ m).eq
 have hL2:=fun m=>(z8C pr ⟨hp.1,by omega⟩ m).eq
 rw[hA] at hL1
 rw[hP0] at hL2
 obtain⟨bs,n1,j,st,cs,hcall,hbj,_,led,rfl,hledl,hled⟩:=ze0 l x hx hc h7 ⟨stk++[cur],[],nx,[]::live,fl⟩ hf'
 simp only[id,w2e] at hcall hbj
 have hjl:j<bs.length:=(w06.1 hbj).1
 have hbj': ∀b:Blk,(bs++[b])[j]? =some ⟨st,bools led⟩:=fun b=>by rw[w07 hjl];exact hbj
 simp only[tE,List.map,go_sem,G3,G0,G2,hcall,hx.len,xx (s:=1) (bytes:=8) (n:=l.length) (z:=[.int .u64 0]) (by omega) (by omega) rfl,z4n,yX]
 refine zb (α:=Nat) (fun k σ=>k≤l.length∧ ∃nz,heads [0,1,2,7,8,9] (bs.length+1) σ=⟨tmps 114 [(0,x),(1,.int .i64 pr),(2,.int .i64 sl),(7,.arr (stk++[cur]).length j st 0 l.length),(8,.arr (stk++[cur]).length bs.length n1 0 l.length),(9,.int .i64 k)],⟨stk++[cur],bs++[⟨n1,us (fillA l.length k A)⟩],nz,[]::live,fl⟩⟩) (fun k=>l.length-k) 0 ?_ ?_
 ·refine⟨w0c _,?_⟩
  simp only[go_sem,G0,G1,xX,z7U]
  exact⟨_,rfl⟩
 ·rintro k σ ⟨hk,nz,hσ⟩
  rw[hσ]
  clear hσ σ
  dsimp only at hk⊢
  by_cases h:k<l.length
  ·have hsucc:=zd h hmx
   have hixk:idx (.int .i64 (k:Int)) l.length=some k:=zw .i64 k l.length h
   have hbl:k+1≤(us (fillA l.length k A)).length:=by rw[Vj,UG hk];exact h
   have hst:=Vi (s:=fillA l.length k A) (j:=k) A (by rw[UG hk];exact h)
   rw[za7 h] at hst
   simp only[go_sem,G0,G1,G2,vT,jz,xX,w15,w03,h,hx.len,hL1,za,hixk,hbl,hst,hsucc]
   exact⟨k+1,by omega,h,_,rfl⟩
  ·have hke:k=l.length:=by omega
   subst hke
   have hix0:idx (.int .i64 0) l.length=some 0:=zw .i64 0 l.length (by omega)
   have hbl0:0+1≤(us (fillA l.length l.length A)).length:=by rw[Vj,UG (w0b _)];omega
   have hst0:=Vi (s:=fillA l.length l.length A) (j:=0) p0 (by rw[UG (w0b _)];omega)
   simp only[w24,w2e,w39,z3R] at hst0 hbl0
   simp only[go_sem,G0,G1,G2,yX,vT,jz,w15,w03,h,hx.len,hL2,za,hix0,z3R,hbl0,hst0]
   refine zb (α:=List Nat×Bool) (fun z σ=>(VI (nxt l) l.length (Wm l) p0 z.1∧(z.2=false→ ∀i,(if led.getD i false then z.1.getD i 0 else 0)=mskOf (nxt l) (Wm l) p0 i))∧ ∃nz,heads [0,7,8,10] (bs.length+1) σ=⟨tmps 114 [(0,x),(7,.arr (stk++[cur]).length j st 0 l.length),(8,.arr (stk++[cur]).length bs.length n1 0 l.length),(10,.bool z.2)],⟨stk++[cur],bs++[⟨n1,us z.1⟩],nz,[]::live,fl⟩⟩) (fun z=>2*z.1.sum+(if z.2 then 1 else 0)) ((List.replicate l.length A).set 0 p0,true) ?_ ?_
   ·refine⟨⟨VI.start (nxt l) l.length (Wm l) p0 (by omega) hnx hps hWsub hpA,fun e=>by cases e⟩,?_⟩
    simp only[go_sem,G0,G1,xX]
    exact⟨_,rfl⟩
   ·rintro⟨mm,ch⟩ σ ⟨⟨hR,hdone⟩,nz,hσ⟩
    rw[hσ]
    clear hσ σ
    dsimp only at hR hdone⊢
    cases ch with
    |false=>
     have hdone:=hdone rfl
     simp only[go_sem,G0,G1,G2,yX]
     refine zb (α:=Nat) (fun k σ=>k≤l.length∧ ∃nz mk,(mk.length=l.length∧ ∀i,i<l.length→mk.getD i 0=if i<k then(if i=l.length-1 then 0 else mskOf (nxt l) (Wm l) p0 i) else mm.getD i 0)∧heads [0,7,8,15] (bs.length+1) σ=⟨tmps 114 [(0,x),(7,.arr (stk++[cur]).length j st 0 l.length),(8,.arr (stk++[cur]).length bs.length n1 0 l.length),(15,.int .i64 k)],⟨stk++[cur],bs++[⟨n1,us mk⟩],nz,[]::live,fl⟩⟩) (fun k=>l.length-k) 0 ?_ ?_
     ·refine⟨w0c _,?_⟩
      simp only[go_sem,G0,G1,xX]
      exact⟨_,mm,⟨hR.l,fun i _=>by rw[if_neg (w38 _)]⟩,rfl⟩
     ·rintro k σ ⟨hk,nz,mk,⟨hml,hmk⟩,hσ⟩
      rw[hσ]
      clear hσ σ
      dsimp only at hk⊢
      by_cases h:k<l.length
      ·have hsucc:=zd h hmx
       have hixk:idx (.int .i64 (k:Int)) l.length=some k:=zw .i64 k l.length h
       have hgl:=xV (s:=led) (j:=k) (by omega)
       have hbl:k+1≤(us mk).length:=by rw[Vj,hml];exact h
       have hst:(us mk).take k++[.int .u64 0]++(us mk).drop (k+1)=us (mk.set k 0):=Vi (s:=mk) (j:=k) 0 (by omega)
       have hsub:IntKind.i64.wrap ((l.length:Int)-1)=((l.length-1:Nat):Int):=by rw[zc (by omega) (by omega)];omega
       have hdk:=hdone k
       have zero:(mskOf (nxt l) (Wm l) p0 k=0∨k=l.length-1)→(mk.set k 0).length=l.length∧ ∀i,i<l.length→(mk.set k 0).getD i 0=if i<k+1 then(if i=l.length-1 then 0 else mskOf (nxt l) (Wm l) p0 i) else mm.getD i 0:=fun q=>by
        refine⟨by simp[hml],fun i hi=> ?_⟩
        by_cases e:k=i
        ·subst e
         rw[Vs.getD_set_eq (by omega),if_pos (Nat.lt_succ_self _)]
         rcases q with q|q
         ·rw[q];split<;>rfl
         ·rw[if_pos q]
        ·rw[Vs.getD_set_ne e,hmk i hi]
         by_cases q:i<k
         ·rw[if_pos q,if_pos (show i<k+1 by omega)]
         ·rw[if_neg q,if_neg (show¬i<k+1 by omega)]
       cases hlk:led.getD k false
       ·rw[hlk] at hgl hdk
        simp only[go_sem,G0,G1,G2,vT,jz,xX,w15,w03,h,hx.len,za,hixk,hbj',hgl,hbl,hst,hsucc]
        refine⟨k+1,by omega,h,nz,mk.set k 0,zero (.inl ?_),rfl⟩
        simpa using hdk.symm
       ·rw[hlk] at hgl hdk
        by_cases hkl:k=l.length-1
        ·have hkb:((k:Int)==((l.length-1:Nat):Int))=true:=by rw[beq_iff_eq];omega
         simp only[go_sem,G0,G1,G2,vT,jz,xX,w15,w03,h,hx.len,za,hixk,hbj',hgl,hsub,hkb,hbl,hst,hsucc]
         exact⟨k+1,by omega,h,nz,mk.set k 0,zero (.inr hkl),rfl⟩
        ·have hkb:((k:Int)==((l.length-1:Nat):Int))=false:=by rw[beq_eq_false_iff_ne];omega
         simp only[go_sem,G0,G1,G2,xX,w15,w03,h,hx.len,za,hixk,hbj',hgl,hsub,hkb,hsucc]
         refine⟨k+1,by omega,h,nz,mk,⟨hml,fun i hi=> ?_⟩,rfl⟩
         rw[hmk i hi]
         by_cases e:i=k
         ·subst e
          rw[if_neg (Nat.lt_irrefl _),if_pos (Nat.lt_succ_self _),if_neg hkl,←hdk];rfl
         ·by_cases q:i<k
          ·rw[if_pos q,if_pos (show i<k+1 by omega)]
          ·rw[if_neg q,if_neg (show¬i<k+1 by omega)]
      ·have hke:k=l.length:=by omega
       subst hke
       simp only[go_sem,G0,G1,G2,w03,h,hx.len]
       refine Q9 (w:=id) (.inl rfl) (cs:=us mk) (vT _ _) (z1o _ _ _ _) ⟨_,rfl,hml,fun i hi=> ?_⟩
       rw[hmk i hi,if_pos hi]
    |true=>
     simp only[go_sem,G0,G1,G2,yX]
     refine zb (α:=Nat) (fun i σ=>i≤l.length∧ ∃nz,heads [0,7,8,10,11] (bs.length+1) σ=⟨tmps 114 [(0,x),(7,.arr (stk++[cur]).length j st 0 l.length),(8,.arr (stk++[cur]).length bs.length n1 0 l.length),(10,.bool (livR (nxt l) (Wm l) led mm i).2),(11,.int .i64 i)],⟨stk++[cur],bs++[⟨n1,us (livR (nxt l) (Wm l) led mm i).1⟩],nz,[]::live,fl⟩⟩) (fun i=>l.length-i) 0 ?_ ?_
     ·refine⟨w0c _,?_⟩
      simp only[go_sem,G0,G1,xX,livR]
      exact⟨_,rfl⟩
     ·rintro i σ ⟨hi,nz,hσ⟩
      rw[hσ]
      clear hσ σ
      dsimp only at hi⊢
      by_cases h:i<l.length
      ·have hK:=Q1 (nxt l) l.length (Wm l) p0 hnx hled hR i hi
       have hstep:livR (nxt l) (Wm l) led mm (i+1)=livI (nxt l) (Wm l) led (livR (nxt l) (Wm l) led mm i) i:=rfl
       have hsu:IntKind.i64.wrap ((i:Int)+1)=((i+1:Nat):Int):=zd h hmx
       have hixi:idx (.int .i64 (i:Int)) l.length=some i:=zw .i64 i l.length h
       have hgl:=xV (s:=led) (j:=i) (by omega)
       obtain⟨c1,c2,c3⟩:=hc.at h
       have hWr:=fun m=>(z9k (inA l i) c2 c1 m).eq
       have hWi:maskN (wrs (inA l i))=Wm l i:=by unfold Wm;rw[if_pos h]
       rw[hWi] at hWr
       simp only[go_sem,G0,G1,G2,w03,h,hx.len]
       refine(z16 l x hx i h (Tn c1) _).xv fun y k1 ⟨hy,hyt⟩=> ?_
       simp only[go_sem,G0,G2,yX]
       generalize livR (nxt l) (Wm l) led mm i=q0 at*
       cases hin:led.getD i false
       ·rw[hin] at hgl
        rw[yg]
        by_cases hq0:((0:Int)<((nxt l i).length:Nat))
        ·simp only[go_sem,G0,G1,G2,yX,xX,w15,hy.len,hq0,za,hixi,hbj',hgl,hsu]
         refine⟨i+1,by omega,by omega,k1,?_⟩
         rw[hstep];unfold livI;rw[hin];rfl
        ·simp only[go_sem,G0,G1,G2,yX,xX,hy.len,hq0,hsu]
         refine⟨i+1,by omega,by omega,k1,?_⟩
         rw[hstep];unfold livI;rw[hin];rfl
       ·rw[hin] at hgl
        have hri:=(hled i).1 hin
        have hfold: ∀q,q≤(nxt l i).length→VK (nxt l) l.length (Wm l) p0 mm i (((nxt l i).take q).foldl (livK (Wm l) i) q0):=fun q hq=>
         (QL (nxt l) l.length (Wm l) p0 hri hK (ks:=(nxt l i).take q) (done:=[]) (fun k hk=>⟨w4b hk,hnx i h k (w4b hk)⟩) (fun _ k hk=>by cases hk)).1
        refine zb (α:=Nat) (fun q σ=>q≤(nxt l i).length∧ ∃nz,heads [0,7,8,10,11,12,13] (bs.length+1) σ=⟨tmps 114 [(0,x),(7,.arr (stk++[cur]).length j st 0 l.length),(8,.arr (stk++[cur]).length bs.length n1 0 l.length),(10,.bool (((nxt l i).take q).foldl (livK (Wm l) i) q0).2),(11,.int .i64 i),(12,y),(13,.int .i64 q)],⟨stk++[cur],bs++[⟨n1,us (((nxt l i).take q).foldl (livK (Wm l) i) q0).1⟩],nz,[]::live,fl⟩⟩) (fun q=>(nxt l i).length-q) 0 ?_ ?_
        ·refine⟨w0c _,?_⟩
         simp only[go_sem,G0,G1,xX,w24,List.foldl_nil]
         exact⟨_,rfl⟩
        ·rintro q σ ⟨hq,nz,hσ⟩
         rw[hσ]
         clear hσ σ
         dsimp only at hq⊢
         have hKq:=hfold q hq
         by_cases hqn:q<(nxt l i).length
         ·have hsucc:((nxt l i).take (q+1)).foldl (livK (Wm l) i) q0=livK (Wm l) i (((nxt l i).take q).foldl (livK (Wm l) i) q0) (nxt l i)[q]:=by rw[w14 hqn,List.foldl_append];rfl
          have hkn:=hnx i h (nxt l i)[q] (w08 hqn)
          generalize ((nxt l i).take q).foldl (livK (Wm l) i) q0=p at*
          have hpl2:=hKq.r.l
          have e1:nth y q= .int .i64 ((nxt l i)[q]:Nat):=hy.nth hqn
          have hsq:IntKind.i64.wrap ((q:Int)+1)=((q+1:Nat):Int):=by have:=TS l i;rw[zc (by omega) (by omega)];omega
          have hgi:=jj (s:=p.1) (j:=i) (by omega)
          have hixk:idx (.int .i64 ((nxt l i)[q]:Nat)) l.length=some (nxt l i)[q]:=zw .i64 _ l.length hkn
          have hgk:=jj (s:=p.1) (j:=(nxt l i)[q]) (by omega)
          have hlt:((q:Int)<((nxt l i).length:Nat))=True:=eq_true (by omega)
          have hor:=z6J (hKq.r.lt i) (z2s hc i)
          have hand:=z7X (b:=p.1.getD i 0|||Wm l i) (hKq.r.lt (nxt l i)[q]) (z0I (hKq.r.lt i) (z2s hc i))
          simp only[go_sem,G3,G0,G1,G2,vT,w15,hy.len,hlt,za,hixi,hbj',hgl,hgi,hy.at .i64 hqn,e1,hixk,hgk,hx.at _ h,hx.inA h,hWr,hor,hand]
          by_cases he:p.1.getD (nxt l i)[q] 0&&&(p.1.getD i 0|||Wm l i)=p.1.getD (nxt l i)[q] 0
          ·have hb:(((p.1.getD (nxt l i)[q] 0&&&(p.1.getD i 0|||Wm l i):Nat):Int) !=((p.1.getD (nxt l i)[q] 0:Nat):Int))=false:=by rw[he];simp
           simp only[go_sem,G0,G2,xX,hb,hsq]
           refine⟨q+1,by omega,by omega,?_⟩
           rw[hsucc];unfold livK
           rw[show(p.1.getD (nxt l i)[q] 0&&&(p.1.getD i 0|||Wm l i) !=p.1.getD (nxt l i)[q] 0)=false by simpa using he]
           exact⟨_,rfl⟩
          ·have hb:(((p.1.getD (nxt l i)[q] 0&&&(p.1.getD i 0|||Wm l i):Nat):Int) !=((p.1.getD (nxt l i)[q] 0:Nat):Int))=true:=by rw[bne_iff_ne,ne_eq,Int.ofNat_inj];exact he
           have hst:=Vi (s:=p.1) (j:=(nxt l i)[q]) (p.1.getD (nxt l i)[q] 0&&&(p.1.getD i 0|||Wm l i)) (by omega)
           have hbl:(nxt l i)[q]+1≤(us p.1).length:=by rw[Vj];omega
           simp only[go_sem,G0,G2,vT,jz,xX,w15,hb,hy.at .i64 hqn,e1,za,hixk,hbl,hst,hsq]
           refine⟨q+1,by omega,by omega,?_⟩
           rw[hsucc];unfold livK
           rw[show(p.1.getD (nxt l i)[q] 0&&&(p.1.getD i 0|||Wm l i) !=p.1.getD (nxt l i)[q] 0)=true by simpa using he]
           exact⟨_,rfl⟩
         ·have hqe:q=(nxt l i).length:=by omega
          subst hqe
          rw[w09] at*
          simp only[go_sem,G0,G1,G2,yX,xX,hy.len,show(((nxt l i).length:Nat):Int)<((nxt l i).length:Nat)↔False from⟨fun h=>by omega,False.elim⟩,hsu]
          refine⟨i+1,by omega,by omega,nz,?_⟩
          rw[hstep];unfold livI;rw[hin];rfl
      ·have hie:i=l.length:=by omega
       subst hie
       have hK:=Q1 (nxt l) l.length (Wm l) p0 hnx hled hR l.length (w0b _)
       simp only[go_sem,G0,G1,G2,yX,xX,w03,h,hx.len]
       refine⟨livR (nxt l) (Wm l) led mm l.length,?_,⟨hK.r,fun e j=>by rw[(hK.eq e).1];exact z9I (nxt l) l.length (Wm l) p0 (by omega) hnx hled hR e j⟩,_,rfl⟩
       have h1:=hK.le
       cases hch:(livR (nxt l) (Wm l) led mm l.length).2
       ·simp;omega
       ·have:=hK.lt hch
        simp;omega
def rw' (stk:List (List Blk)) (cur:List Blk) (lv k st:Nat) (y:AV):List (List Blk):=(stk++[cur]).modify lv fun f=>f.set k ⟨st,[y]⟩
section
variable {stk : List (List Blk)} {cur : List Blk} {lv k st : Nat} {y y' : AV}
theorem yz:(rw' stk cur lv k st y).length=(stk++[cur]).length:=by simp[rw']
theorem Ti (h:lv≤stk.length) (hk:k<((stk++[cur]).getD lv []).length):((rw' stk cur lv k st y).getD lv [])[k]? =some ⟨st,[y]⟩:=by
 have hl:lv<(stk++[cur]).length:=by simp;omega
 unfold rw'
 simp only[w00,w37] at hk⊢
 rw[w13 hl] at hk⊢
 simp only[if_true,Option.map_eq_map,w0d,w2a] at hk⊢
 simp[hk]
theorem VH:(rw' stk cur lv k st y).modify lv (fun f=>f.set k ⟨st,[y']⟩)=rw' stk cur lv k st y':=by
 unfold rw'
 apply w2c
 intro j
 simp only[w37]
 cases (stk++[cur])[j]? with
 |none=>simp
 |some f=>
  by_cases e:lv=j
  ·simp[e,List.set_set]
  ·simp[e]
theorem z5L (h:((stk++[cur]).getD lv [])[k]? =some ⟨st,[y]⟩):stk++[cur]=rw' stk cur lv k st y:=by
 unfold rw'
 apply w2c
 intro j
 simp only[w37]
 by_cases e:lv=j
 ·subst e
  simp only[w00] at h
  cases hq:(stk++[cur])[lv]? with
  |none=>rfl
  |some f=>
   rw[hq] at h
   simp only[w2a] at h
   simp only[if_true,Option.map_eq_map,w0d,Option.some.injEq]
   apply w2c
   intro q
   rw[w36]
   by_cases e2:k=q
   ·subst e2
    obtain⟨hkf,hke⟩:=w06.1 h
    simp[hkf,hke]
   ·simp[e2]
 ·simp[e]
def wrote (m:Mem) (lv k st:Nat) (y:AV) (n:Nat) (l:List (List Nat)):Mem:={m.put lv k st [y] with nx:=n,live:=l}
theorem xq {c:List Blk} {nx fl n:Nat} {live l:List (List Nat)} (h:lv≤stk.length):wrote ⟨rw' stk cur lv k st y,c,nx,live,fl⟩ lv k st y' n l=⟨rw' stk cur lv k st y',c,n,l,fl⟩:=by
 unfold wrote Mem.put
 rw[if_neg (by rw[yz];simp;omega)]
 simp only[VH]
theorem Ya {nx fl n:Nat} {live l:List (List Nat)}:wrote ⟨stk,cur,nx,live,fl⟩ stk.length k st y' n l=⟨stk,cur.set k ⟨st,[y']⟩,n,l,fl⟩:=by
 unfold wrote Mem.put
 rw[if_pos (by simp)]
theorem U5 {m0:Mem} {c':List Blk} {nx' fl':Nat} {own:List Nat} {live':List (List Nat)} {r:AV} (hlv:lv≤stk.length) (h1:r.refs (stk++[cur]).length=false) (h2:r.toks=[]) (nx:Nat) (live:List (List Nat)):
  leave m0 ⟨rw' stk cur lv k st y,c',nx',own::live',fl'⟩ r=some (r,wrote ⟨stk,cur,nx,live,m0.floor⟩ lv k st y nx' live'):=by
 unfold wrote
 by_cases e:lv=stk.length
 ·have:rw' stk cur lv k st y=stk++[cur.set k ⟨st,[y]⟩]:=by
   unfold rw';subst e
   rw[w4e (by simp)];simp
  rw[this,yO (by simpa using h1) h2]
  unfold Mem.put
  simp[e]
 ·have:rw' stk cur lv k st y=(stk.modify lv fun f=>f.set k ⟨st,[y]⟩)++[cur]:=by
   unfold rw'
   apply w2c
   intro j
   simp only[w37]
   by_cases hj:j<stk.length
   ·rw[w07 hj,w07 (by simpa using hj),w37]
   ·rw[w10 (by omega),w10 (by simp;omega),List.length_modify]
    cases [cur][j-stk.length]? with
    |none=>rfl
    |some z=>simp[show¬lv=j by omega]
  rw[this,yO (by simpa using h1) h2]
  unfold Mem.put
  simp[e]
end
theorem TM {S:List (List Blk)} {C:List Blk} {nx fl:Nat} {live:List (List Nat)} {lv k st:Nat} {cs:List AV} (h:Mem.blk ⟨S,C,nx,live,fl⟩ lv k st=some cs) (hlv:lv≤S.length):((S++[C]).getD lv [])[k]? =some ⟨st,cs⟩:=by
 unfold Mem.blk at h
 split at h
 ·rename_i b hb
  split at h
  ·rename_i e
   injection h with h
   have hb':b=⟨st,cs⟩:=by rw[←h,←eq_of_beq e]
   subst hb'
   unfold Mem.row at hb
   by_cases e:lv=S.length
   ·subst e;simpa using hb
   ·simp only at hb
    rw[if_neg (by simpa using e)] at hb
    simp only[w00] at hb⊢
    rw[w07 (by omega)];exact hb
  ·cases h
 ·cases h
theorem z5d {stk:List (List Blk)} {cur c:List Blk} {lv k st nx fl:Nat} {live:List (List Nat)} {y:AV} (hlv:lv≤stk.length) (hk:k<((stk++[cur]).getD lv []).length):Mem.blk ⟨rw' stk cur lv k st y,c,nx,live,fl⟩ lv k st=some [y]:=by
 unfold Mem.blk Mem.row
 simp only
 rw[if_neg (by rw[yz];simp;omega),Ti hlv hk]
 simp
theorem kI {s bytes:Nat} {y z:AV} {zs:List AV} (hz: ∀m:Mem,m.elems s z=some zs) {nx:Nat} {live:List (List Nat)} {y':AV} {n:Nat} {live':List (List Nat)} (h:evApp ⟨[],[],nx,live,0⟩ s bytes y z=some (y',⟨[],[],n,live',0⟩)) (stk:List (List Blk)) (cur:List Blk) (fl:Nat):
  evApp ⟨stk,cur,nx,live,fl⟩ s bytes y z=some (y',⟨stk,cur,n,live',fl⟩):=by
 unfold evApp at h⊢
 rw[hz] at h⊢
 cases zs with
 |nil=>
  simp only at h⊢
  cases y<;>first|(cases h;done)|skip
  ·injection h with h;injection h with h1 h2;injection h2 with _ _ h3 h4 _;subst h1;subst h3;subst h4;rfl
  all_goals
   simp only at h⊢
   split at h
   ·rename_i hc
    rw[if_pos hc]
    injection h with h;injection h with h1 h2;injection h2 with _ _ h3 h4 _;subst h1;subst h3;subst h4;rfl
   ·cases h
 |cons a r=>
  simp only at h⊢
  cases y<;>first|(cases h;done)|skip
  ·simp only at h⊢
   split at h
   ·rename_i hc
    rw[if_pos hc]
    injection h with h;injection h with h1 h2;injection h2 with _ _ h3 h4 _;subst h1;subst h3;subst h4;rfl
   ·cases h
  ·rename_i s' tk xs
   simp only at h⊢
   split at h
   ·rename_i hc
    rw[if_pos hc]
    cases tk with
    |none=>cases h
    |full=>injection h with h;injection h with h1 h2;injection h2 with _ _ h3 h4 _;subst h1;subst h3;subst h4;rfl
    |id t=>
     simp only at h⊢
     split at h
     ·rename_i ht
      rw[if_pos ht]
      injection h with h;injection h with h1 h2;injection h2 with _ _ h3 h4 _;subst h1;subst h3;subst h4;rfl
     ·cases h
   ·cases h
  ·exfalso
   rename_i s' l k st len
   have:Mem.blk ⟨[],[],nx,live,0⟩ l k st=none:=by
    unfold Mem.blk Mem.row
    split<;>simp at*
   simp only[this] at h
   cases h
def WrL (i:Nat) (y:AV) (b:List UInt8) (live post:List (List Nat)):Prop:= ∃pre l,live=pre++l::post∧pre.length=i∧Own IsByte 1 y b l
theorem WrL.enter {i:Nat} {y:AV} {b:List UInt8} {live post:List (List Nat)} (h:WrL i y b live post):WrL (i+1) y b ([]::live) post:=by
 obtain⟨pre,l,rfl,h2,h3⟩:=h
 exact⟨[]::pre,l,rfl,by simp[h2],h3⟩
theorem WrL.push {i:Nat} {y:AV} {b:List UInt8} {live post:List (List Nat)} (ts:List Nat) (h:WrL i y b live post):WrL i y b (pushToks ts live) post:=by
 obtain⟨pre,l,rfl,h2,h3⟩:=h
 cases pre with
 |nil=>exact⟨[],ts++l,by rw[w2e,yn];rfl,h2,h3.push ts⟩
 |cons o r=>exact⟨(ts++o)::r,l,by rw[w21,yn];rfl,h2,h3⟩
theorem WrL.tail {i:Nat} {y:AV} {b:List UInt8} {live post:List (List Nat)} (h:WrL (i+1) y b live post): ∃o l',live=o::l'∧WrL i y b l' post:=by
 obtain⟨pre,l,rfl,h2,h3⟩:=h
 match pre,h2 with
 |o::r,h2=>exact⟨o,r++l::post,rfl,r,l,rfl,by simpa using h2,h3⟩
theorem WrL.own {y:AV} {b:List UInt8} {live post:List (List Nat)} (h:WrL 0 y b live post): ∃e,live=e::post∧Own IsByte 1 y b e:=by
 obtain⟨pre,l,rfl,h2,h3⟩:=h
 match pre,h2 with
 | [],_=>exact⟨l,rfl,h3⟩
theorem z04 {t:Nat}: ∀{j:Nat} {pre:List (List Nat)} (l:List Nat) (post:List (List Nat)),pre.length=j→addAt t j (pre++l::post)=pre++(t::l)::post
 |0,[],l,post,_=>rfl
 |0,_::_,_,_,h=>by simp at h
 |j+1,[],_,_,h=>by simp at h
 |j+1,a::r,l,post,h=>by simp only[w21,addAt];rw[z04 l post (by simpa using h)]
theorem WrL.app {i:Nat} {y:AV} {b c:List UInt8} {live post:List (List Nat)} {z:AV} {zs:List AV} (h:WrL (i+1) y b live post) (hz: ∀m:Mem,m.elems 1 z=some zs) (hc:All2 IsByte c zs) (hl:b.length+c.length≤140737488355328) (nx:Nat):
  ∃y' n live' o l2,(∀stk cur fl,evApp ⟨stk,cur,nx,live,fl⟩ 1 1 y z=some (y',⟨stk,cur,n,live',fl⟩))∧y'.cells=[y']∧y'.one=true∧sink (i+1) y'.toks live'=o::l2∧WrL i y' (b++c) l2 post:=by
 obtain⟨pre,l,rfl,h2,h3⟩:=h
 have hnew: ∀(ys:List AV) (o:List Nat) (r:List (List Nat)) (l':List Nat),r.length=i→All2 IsByte (b++c) ys→
   ∃o2 l2,sink (i+1) (AV.list 1 (.id nx) ys).toks ((nx::o)::(r++l'::post))=o2::l2∧WrL i (.list 1 (.id nx) ys) (b++c) l2 post:=fun ys o r l' hr hq=>by
  simp only[AV.toks,sink,sink1,List.contains_cons,beq_self_eq_true,Bool.true_or,if_true,List.erase_cons_head,Nat.add_sub_cancel]
  exact⟨o,_,rfl,r,nx::l',z04 l' post hr,hr,.inr ⟨_,ys,rfl,hq,.inr ⟨nx,w1c,rfl⟩⟩⟩
 match pre,h2 with
 |o::r,h2=>
  have hr:r.length=i:=by simpa using h2
  have hfl:Own IsByte 1 y b ((o::r++l::post).flatten):=h3.mono fun t ht=>by
   simp only[w21,w43,List.flatten_append,w0a]
   exact .inr (.inr (.inl ht))
  rcases Own.app (m:=⟨[],[],nx,o::r++l::post,0⟩) (bytes:=1) hfl (hz _) hc (by omega) with⟨hcs,e⟩|⟨ys,q,e⟩|⟨t,ys,q0,hy,ht,q,e⟩
  ·subst hcs
   rw[w1a]
   rcases h3 with⟨rfl,rfl⟩|⟨tk,ys,rfl,hq,hk⟩
   ·exact⟨_,_,_,o,_,kI hz e,rfl,rfl,rfl,r,l,rfl,hr,.inl ⟨rfl,rfl⟩⟩
   ·rcases hk with rfl|⟨t,ht,rfl⟩
    ·exact⟨_,_,_,o,_,kI hz e,rfl,rfl,rfl,r,l,rfl,hr,.inr ⟨_,ys,rfl,hq,.inl rfl⟩⟩
    ·by_cases hto:o.contains t=true
     ·refine⟨_,_,_,o.erase t,addAt t i (r++l::post),kI hz e,rfl,rfl,?_,r,t::l,z04 l post hr,hr,.inr ⟨_,ys,rfl,hq,.inr ⟨t,w1c,rfl⟩⟩⟩
      simp only[AV.toks,sink,sink1,w21,hto,if_true,Nat.add_sub_cancel]
     ·refine⟨_,_,_,o,r++l::post,kI hz e,rfl,rfl,?_,r,l,rfl,hr,.inr ⟨_,ys,rfl,hq,.inr ⟨t,ht,rfl⟩⟩⟩
      simp only[AV.toks,sink,sink1,w21]
      rw[if_neg hto]
  ·obtain⟨o2,l2,hs,hw⟩:=hnew ys o r l hr q
   exact⟨_,_,_,o2,l2,kI hz e,rfl,rfl,hs,hw⟩
  ·have htl:t∈l:=by
    rcases h3 with⟨rfl,_⟩|⟨tk,ys',e1,_,e2|⟨t',e3,e2⟩⟩
    ·cases hy
    ·rw[e1,e2] at hy;cases hy
    ·rw[e1,e2] at hy;injection hy with _ hy _;injection hy with hy;exact hy▸e3
   have hd:dropTok t (o::r++l::post)=dropTok t (o::r++[l])++post:=by
    have:=Ue (t:=t) (l:=o::r++[l]) (r:=post) (by simp only[List.flatten_append,w0a];exact .inr (by simpa using htl))
    rw[←this];simp
   have hdl:(dropTok t (o::r++[l])).length=i+2:=by rw[Zo];simp[hr]
   obtain⟨o3,r3,l3,he,hr3⟩: ∃o3 r3 l3,dropTok t (o::r++[l])=o3::(r3++[l3])∧r3.length=i:=by
    match hq:dropTok t (o::r++[l]),hdl with
    |o3::rest,hdl=>
     have hrl:rest.length=i+1:=by simpa using hdl
     have hne:rest≠[]:=by intro e;subst e;simp at hrl
     exact⟨o3,rest.dropLast,rest.getLast hne,by rw[List.dropLast_concat_getLast],by rw[List.length_dropLast];omega⟩
   rw[show(Mem.live ⟨[],[],nx,o::r++l::post,0⟩)=o::r++l::post from rfl,hd,he] at e
   obtain⟨o2,l2,hs,hw⟩:=hnew ys o3 r3 l3 hr3 q
   refine⟨_,_,_,o2,l2,kI hz e,rfl,rfl,?_,hw⟩
   rw[←hs];simp[addTok]
theorem qv {α:Type} {R:α→AV→Prop} {s:Nat} {xs:List α} {f:Nat} {args:List AV} {m m0 mm:Mem} {fl:Nat} {ws:Watch} {d:Option Nat} {l:List AOper} {ρ:List AV} {k:Kont} (h:Okl R s tab f args m xs)
  (q: ∀y ts n,Own R s y xs ts→Xd tab fl m0 ws l (setDst ρ d y) {m with nx:=n,live:=pushToks ts m.live} k):Xw tab (CALL tab f args m) 2 fl m0 ws d l ρ mm k:=by
 obtain⟨y,ts,n,h1,h2⟩:=h
 rw[h1,zdG];exact q y ts n h2
def Writes (f:Nat) (args:List AV) (lv k st i:Nat) (y:AV) (b c:List UInt8) (post:List (List Nat)) (r:AV) (m:Mem):Prop:=
 ∃y' n live',CALL tab f args m=some (r,wrote m lv k st y' n live')∧WrL i y' (b++c) live' post
structure At (m:Mem) (lv k st i:Nat) (y:AV) (b:List UInt8) (post:List (List Nat)):Prop where
 level:lv+i=m.stk.length
 cell:m.blk lv k st=some [y]
 low:m.floor≤lv
 w:WrL i y b m.live post
theorem tf (n:Nat) (hn:n<9223372036854775808) (m:Mem) {lv k st i:Nat} {y:AV} {b:List UInt8} {post:List (List Nat)} (ha:At m lv k st i y b post) (hb:b.length≤1000000):
  Writes zp [.ptr lv k st 0,.int .i64 n] lv k st i y b (minimal n) post (.tup []) m:=by
 suffices h:Does tab zp [.ptr lv k st 0,.int .i64 n] m fun v m'=> ∃y' n' live',v= .tup []∧m'=wrote m lv k st y' n' live'∧WrL i y' (b++minimal n) live' post by
  obtain⟨z,h1,y',n',l',h2,h3,h4⟩:=h
  exact⟨y',n',l',by rw[h1,←h2,←h3],h4⟩
 refine zW Wo ?_ (Nat.le_of_ble_eq_true rfl)
 obtain⟨stk,cur,nx,live,fl⟩:=m
 obtain⟨hlv,hblk,hfl,hW⟩:=ha
 dsimp only at hlv hfl hW
 have hrow:=TM hblk (by omega)
 have hk:k<((stk++[cur]).getD lv []).length:=(w06.1 hrow).1
 have hid:=z5L hrow
 have hlv':lv≤stk.length:=by omega
 have hne:(lv==(stk++[cur]).length)=false:=by simp;omega
 have hsub:(stk++[cur]).length-lv=i+1:=by simp;omega
 have e:IntKind.u64.wrap (n:Int)=n:=zH (by omega) (by omega)
 simp only[uL,List.map,go_sem,G3,G0,G2]
 simp only[hid]
 simp only[go_sem,G0,G2,yz,hne,Ti hlv' hk,e]
 have hfv:max fl ((stk++[cur]).length+1)≤(rw' stk cur lv k st y).length+1:=by rw[yz];simp;omega
 refine qv (qE n (by omega) _ _ _ _ _ hfv) fun yv ts nv hov=> ?_
 simp only[go_sem,G0,G2]
 obtain⟨zs,hz,hc⟩:=hov.elems
 have hm:=zi (n:=n) (by omega)
 obtain⟨y',n',live',o,l2,happ,hcell,hone,hs,hW2⟩:=WrL.app ((WrL.enter hW).push ts) hz hc (by omega) nv
 rw[yn,w1a] at happ
 simp only[go_sem,G0,G2,happ,yz,hne,Ti hlv' hk,hcell,hone,hfl,hsub,hs,VH]
 rw[U5 hlv' rfl rfl nx live,z8]
 exact⟨y',n',l2,rfl,rfl,hW2⟩
theorem z76 (s:List UInt8) (hs:s.length≤1000) (m:Mem) {lv k st i:Nat} {y:AV} {b:List UInt8} {post:List (List Nat)} (ha:At m lv k st i y b post) (hb:b.length≤900000):
  Writes yH [.ptr lv k st 0,.str s] lv k st i y b (said s) post (.tup []) m:=by
 suffices h:Does tab yH [.ptr lv k st 0,.str s] m fun v m'=> ∃y' n' live',v= .tup []∧m'=wrote m lv k st y' n' live'∧WrL i y' (b++said s) live' post by
  obtain⟨z,h1,y',n',l',h2,h3,h4⟩:=h
  exact⟨y',n',l',by rw[h1,←h2,←h3],h4⟩
 refine zW UP ?_ (Nat.le_of_ble_eq_true rfl)
 obtain⟨stk,cur,nx,live,fl⟩:=m
 obtain⟨hlv,hblk,hfl,hW⟩:=ha
 dsimp only at hlv hfl hW
 have hrow:=TM hblk (by omega)
 have hk:k<((stk++[cur]).getD lv []).length:=(w06.1 hrow).1
 have hid:=z5L hrow
 have hlv':lv≤stk.length:=by omega
 have hne:(lv==(stk++[cur]).length)=false:=by simp;omega
 have hsub:(stk++[cur]).length-lv=i+1:=by simp;omega
 have hlev: ∀y,lv+(i+1)=(rw' stk cur lv k st y).length:=fun y=>by rw[yz];simp;omega
 have hget: ∀y,((rw' stk cur lv k st y).getD lv [])[k]? =some ⟨st,[y]⟩:=fun y=>Ti hlv' hk
 have hat: ∀y b c nz L,WrL (i+1) y b L post→At ⟨rw' stk cur lv k st y,c,nz,L,fl⟩ lv k st (i+1) y b post:=fun y b c nz L h=>⟨hlev y,z5d hlv' hk,hfl,h⟩
 have hm:=zi (n:=s.length) (by omega)
 simp only[qg,List.map,go_sem,G3,G0,G2]
 simp only[hid]
 obtain⟨y1,n1,l1,hc1,hW1⟩:=tf s.length (by omega) _ (hat y b [] nx _ (WrL.enter hW)) (by omega)
 rw[xq hlv'] at hc1
 simp only[go_sem,G0,G2,hc1,yz,hne,hget]
 obtain⟨y2,n2,l2,o,l3,happ,hcl,hone,hsk,hW2⟩:=WrL.app hW1 (z3Y · s) (kr s) (by simp only[w04];omega) n1
 simp only[go_sem,G0,G2,happ,yz,hne,hget,hcl,hone,hfl,hsub,hsk,VH]
 rw[U5 hlv' rfl rfl nx live,z8]
 exact⟨y2,n2,l3,rfl,rfl,by unfold said;rw[←w0f];exact hW2⟩
def f0:DField:=⟨[],0⟩
def fldAt (l:List DField) (k:Nat):DField:=l.getD k f0
theorem QS {l:List DField} {j:Nat} (h:j<l.length):l[j]=fldAt l j:=by simp[fldAt,w00,h]
def flds (l:List DField):Nat→List UInt8
 |0=>minimal l.length
 |k+1=>flds l k++(said (fldAt l k).name++minimal (fldAt l k).typ.toNat)
def FOk (l:List DField):Prop:=l.length≤16∧ ∀f∈l,f.name.length≤16∧0≤f.typ∧f.typ<1000
theorem FOk.at {l:List DField} (h:FOk l) {k:Nat} (hk:k<l.length):(fldAt l k).name.length≤16∧0≤(fldAt l k).typ∧(fldAt l k).typ<1000:=by rw[←QS hk];exact h.2 _ (w08 hk)
theorem ql {s:List UInt8} (h:s.length≤1000):(said s).length≤s.length+10:=by
 have:=zi (n:=s.length) (by omega)
 unfold said;rw[w04];omega
theorem qY {l:List DField} (h:FOk l): ∀k,k≤l.length→(flds l k).length≤10+36*k
 |0,_=>zi (by have:=h.1;omega)
 |k+1,hk=>by
  have ih:=qY h k (by omega)
  obtain⟨h1,h2,h3⟩:=h.at (show k<l.length by omega)
  have m1:=ql (s:=(fldAt l k).name) (by omega)
  have m2:=zi (n:=(fldAt l k).typ.toNat) (by omega)
  simp only[flds,w04];omega
theorem z5l (l:List DField) (v:AV) (hv:IsSl IsField 2 l v) (hf:FOk l) (m:Mem) {lv k st i:Nat} {y:AV} {b:List UInt8} {post:List (List Nat)} (ha:At m lv k st i y b post) (hb:b.length≤800000):
  Writes yN [.ptr lv k st 0,v] lv k st i y b (flds l l.length) post (.tup []) m:=by
 suffices h:Does tab yN [.ptr lv k st 0,v] m fun v m'=> ∃y' n' live',v= .tup []∧m'=wrote m lv k st y' n' live'∧WrL i y' (b++flds l l.length) live' post by
  obtain⟨z,h1,y',n',l',h2,h3,h4⟩:=h
  exact⟨y',n',l',by rw[h1,←h2,←h3],h4⟩
 refine zW Wp ?_ (Nat.le_of_ble_eq_true rfl)
 obtain⟨stk,cur,nx,live,fl⟩:=m
 obtain⟨hlv,hblk,hfl,hW⟩:=ha
 dsimp only at hlv hfl hW
 have hrow:=TM hblk (by omega)
 have hk:k<((stk++[cur]).getD lv []).length:=(w06.1 hrow).1
 have hid:=z5L hrow
 have hlv':lv≤stk.length:=by omega
 have hne:(lv==(stk++[cur]).length)=false:=by simp;omega
 have hsub:(stk++[cur]).length-lv=i+1:=by simp;omega
 have hlev: ∀y,lv+(i+1)=(rw' stk cur lv k st y).length:=fun y=>by rw[yz];simp;omega
 have hget: ∀y,((rw' stk cur lv k st y).getD lv [])[k]? =some ⟨st,[y]⟩:=fun y=>Ti hlv' hk
 have hat: ∀y b c nz L,WrL (i+1) y b L post→At ⟨rw' stk cur lv k st y,c,nz,L,fl⟩ lv k st (i+1) y b post:=fun y b c nz L h=>⟨hlev y,z5d hlv' hk,hfl,h⟩
 have hl16:=hf.1
 have hvl:=hv.len
 simp only[uM,List.map,go_sem,G3,G0,G2,hvl]
 simp only[hid]
 obtain⟨y1,n1,l1,hc1,hW1⟩:=tf l.length (by omega) _ (hat y b [] nx _ (WrL.enter hW)) (by omega)
 rw[xq hlv'] at hc1
 simp only[go_sem,G0,G2,hc1,hvl]
 refine zb (α:=Nat) (fun j σ=>j≤l.length∧ ∃nz y L,WrL (i+1) y (b++flds l j) L post∧heads [0,10,11,12] 0 σ=⟨tmps 25 [(0,.ptr lv k st 0),(10,v),(11,.int .i64 l.length),(12,.int .i64 j)],⟨rw' stk cur lv k st y,[],nz,L,fl⟩⟩) (fun j=>l.length-j) 0 ?_ ?_
 ·refine⟨w0c _,n1,y1,l1,hW1,?_⟩
  simp only[go_sem,G0,G1]
  rfl
 ·rintro j σ ⟨hj,nz,y2,L,hW2,hσ⟩
  rw[hσ]
  clear hσ σ
  dsimp only at hj⊢
  by_cases h:j<l.length
  ·have e1:nth v j= .agg [.str (fldAt l j).name,.int .i64 (fldAt l j).typ]:=by
    have:IsField l[j] (nth v j):=hv.nth h
    rw[QS h] at this;exact this
   have hatv:=hv.at .i64 h
   have hsucc:=zd h hv.max
   obtain⟨h1,h2,h3⟩:=hf.at h
   have hfl2:=qY hf j (by omega)
   have m1:=ql (s:=(fldAt l j).name) (by omega)
   obtain⟨y3,n3,l3,hc3,hW3⟩:=z76 (fldAt l j).name (by omega) _ (hat y2 (b++flds l j) [⟨nz,[.str (fldAt l j).name,.int .i64 (fldAt l j).typ]⟩] (nz+1) L hW2) (by simp only[w04];omega)
   rw[xq hlv'] at hc3
   obtain⟨y4,n4,l4,hc4,hW4⟩:=tf (fldAt l j).typ.toNat (by omega) _ (hat y3 _ [⟨nz,[.str (fldAt l j).name,.int .i64 (fldAt l j).typ]⟩] n3 l3 hW3) (by simp only[w04];omega)
   rw[xq hlv',w41 h2] at hc4
   simp only[go_sem,G3,G0,G1,G2,w03,h,hatv,e1,yz,hc3,hc4,hsucc]
   refine⟨j+1,by omega,h,n4,y4,l4,?_,rfl⟩
   simp only[flds,←w0f] at hW4⊢
   exact hW4
  ·have:j=l.length:=by omega
   subst this
   obtain⟨o,l3,rfl,hW3⟩:=WrL.tail hW2
   simp only[go_sem,G0,G1,G2,w03,h]
   rw[U5 hlv' rfl rfl nx live,z8]
   exact⟨y2,nz,l3,rfl,rfl,hW3⟩
def t0:DTyp:=⟨0,0,0,[]⟩
def typAt (l:List DTyp) (k:Nat):DTyp:=l.getD k t0
theorem Qv {l:List DTyp} {j:Nat} (h:j<l.length):l[j]=typAt l j:=by simp[typAt,w00,h]
def typB (t:DTyp):List UInt8:=
 if t.kind=4∨t.kind=7 then minimal t.elem.toNat else if t.kind=6 then minimal t.elem.toNat++minimal t.len.toNat else if t.kind=5 then flds t.fields t.fields.length else []
def typs (l:List DTyp):Nat→List UInt8
 |0=>minimal l.length
 |k+1=>typs l k++([UInt8.ofNat (typAt l k).kind.toNat]++typB (typAt l k))
theorem Ym {s:List UInt8} (h:named s=true):s.length≤16:=by
 unfold named at h;simp only[w0e,decide_eq_true_eq] at h;exact h.1.1.2
theorem z24 {n i:Nat} {t:DTyp} (h:FineT n i t) (hn:i≤32) (h5:t.kind=5):FOk t.fields:=by
 have hs:=(tn h5).1 h
 have h8:=hs.2.2.2.2.1
 refine⟨by omega,fun f hf=> ?_⟩
 have h1:=hs.1 f hf
 have h2:=Ym (hs.2.2.2.2.2.1 f hf)
 omega
theorem zaX {n i:Nat} {t:DTyp} (h:FineT n i t) (hn:n≤32) (hi:i≤32):(typB t).length≤600:=by
 have hl:=to h
 unfold typB
 split
 ·rename_i h4
  have:=hl.2.2.1 h4
  have:=zi (n:=t.elem.toNat) (by omega)
  omega
 ·split
  ·rename_i h6
   have e1:=hl.2.2.2.1 h6
   have e2:=hl.2.1 h6
   have:=zi (n:=t.elem.toNat) (by omega)
   have:=zi (n:=t.len.toNat) (by omega)
   rw[w04];omega
  ·split
   ·rename_i h5
    have hfo:=z24 h hi h5
    have:=qY hfo t.fields.length (w0b _)
    omega
   ·simp
theorem Vk {l:List DTyp} (hv:ValidT l) (hl:l.length≤32): ∀k,k≤l.length→(typs l k).length≤10+601*k
 |0,_=>zi (by omega)
 |k+1,hk=>by
  have ih:=Vk hv hl k (by omega)
  have hf:=hv k (by omega)
  rw[Qv (by omega)] at hf
  have:=zaX hf hl (by omega)
  simp only[typs,w04,w29,w34];omega
theorem z0i {a:Int} (h:inU8 a):IsByte (UInt8.ofNat a.toNat) (.int .u8 a):=by
 unfold inU8 at h
 have:=Yx (a:=a.toNat) (by omega)
 rwa [show((a.toNat:Nat):Int)=a by omega] at this
theorem WrL.cons {i:Nat} {y:AV} {b:List UInt8} {live post:List (List Nat)} (o:List Nat) (h:WrL i y b live post):WrL (i+1) y b (o::live) post:=by
 obtain⟨pre,l,rfl,h2,h3⟩:=h
 exact⟨o::pre,l,rfl,by simp[h2],h3⟩
theorem zcv (l:List DTyp) (v:AV) (hv:IsSl IsTyp 4 l v) (hw:WfTypes l) (hval:ValidT l) (hl:l.length≤32) (m:Mem) {lv k st i:Nat} {y:AV} {b:List UInt8} {post:List (List Nat)} (ha:At m lv k st i y b post) (hb:b.length≤100000):
  Writes vc [.ptr lv k st 0,v] lv k st i y b (typs l l.length) post (.tup []) m:=by
 suffices h:Does tab vc [.ptr lv k st 0,v] m fun v m'=> ∃y' n' live',v= .tup []∧m'=wrote m lv k st y' n' live'∧WrL i y' (b++typs l l.length) live' post by
  obtain⟨z,h1,y',n',l',h2,h3,h4⟩:=h
  exact⟨y',n',l',by rw[h1,←h2,←h3],h4⟩
 refine zW VD ?_ (Nat.le_of_ble_eq_true rfl)
 obtain⟨stk,cur,nx,live,fl⟩:=m
 obtain⟨hlv,hblk,hfl,hW⟩:=ha
 dsimp only at hlv hfl hW
 have hrow:=TM hblk (by omega)
 have hk:k<((stk++[cur]).getD lv []).length:=(w06.1 hrow).1
 have hid:=z5L hrow
 have hlv':lv≤stk.length:=by omega
 have hne:(lv==(stk++[cur]).length)=false:=by simp;omega
 have hsub:(stk++[cur]).length-lv=i+1:=by simp;omega
 have hlev: ∀y,lv+(i+1)=(rw' stk cur lv k st y).length:=fun y=>by rw[yz];simp;omega
 have hget: ∀y,((rw' stk cur lv k st y).getD lv [])[k]? =some ⟨st,[y]⟩:=fun y=>Ti hlv' hk
 have hat: ∀y b c nz L,WrL (i+1) y b L post→At ⟨rw' stk cur lv k st y,c,nz,L,fl⟩ lv k st (i+1) y b post:=fun y b c nz L h=>⟨hlev y,z5d hlv' hk,hfl,h⟩
 have hvl:=hv.len
 simp only[tJ,List.map,go_sem,G3,G0,G2,hvl]
 simp only[hid]
 obtain⟨y1,n1,l1,hc1,hW1⟩:=tf l.length (by omega) _ (hat y b [] nx _ (WrL.enter hW)) (by omega)
 rw[xq hlv'] at hc1
 simp only[go_sem,G0,G2,hc1,hvl]
 refine zb (α:=Nat) (fun j σ=>j≤l.length∧ ∃nz y L,WrL (i+1) y (b++typs l j) L post∧heads [0,10,11,12] 0 σ=⟨tmps 53 [(0,.ptr lv k st 0),(10,v),(11,.int .i64 l.length),(12,.int .i64 j)],⟨rw' stk cur lv k st y,[],nz,L,fl⟩⟩) (fun j=>l.length-j) 0 ?_ ?_
 ·refine⟨w0c _,n1,y1,l1,hW1,?_⟩
  simp only[go_sem,G0,G1]
  rfl
 ·rintro j σ ⟨hj,nz,y2,L,hW2,hσ⟩
  rw[hσ]
  clear hσ σ
  dsimp only at hj⊢
  by_cases h:j<l.length
  ·have hfine:=hval j h
   have hkind:=(hw _ (w08 h)).kind
   obtain⟨u,e1,q1⟩:=hv.nth h
   have hatv:=hv.at .i64 h
   have hsucc:=zd h hv.max
   have htl:=Vk hval hl j (by omega)
   rw[Qv h] at hfine hkind e1 q1
   have hflen:=to hfine
   have hfo:=z24 hfine (by omega)
   generalize htt:typAt l j=t at*
   obtain⟨kind,elem,len,fields⟩:=t
   dsimp only at e1 q1 hflen hkind hfo
   obtain⟨y3,n3,l3,o,l4,happ,hcl,hone,hsk,hW3⟩:=WrL.app hW2 (zh · 1 .full [.int .u8 kind]) (zJ (z0i hkind)) (by simp only[w04,w29,w34];omega) (nz+1)
   have hW3:=WrL.cons o hW3
   simp only[go_sem,G3,G0,G1,G2,w03,h,hatv,e1,q1.one,yz,hne,hget,happ,hcl,hone,hfl,hsub,hsk,VH]
   by_cases k47:kind=4∨kind=7
   ·have hel:=hflen.2.2.1 k47
    obtain⟨y4,n4,l5,hc4,hW4⟩:=tf elem.toNat (by omega) _ (hat y3 _ [⟨nz,[.int .u8 kind,.int .i64 elem,.int .i64 len,u]⟩] n3 (o::l4) hW3) (by simp only[w04,w29,w34];omega)
    rw[xq hlv',w41 hel.1] at hc4
    by_cases k4:kind=4
    ·have k4':(kind==4)=true:=by simpa using k4
     simp only[go_sem,G0,G2,k4',yz,hc4,hsucc]
     have hT:typB ⟨kind,elem,len,fields⟩=minimal elem.toNat:=by
      unfold typB
      rw[if_pos k47]
     refine⟨j+1,by omega,h,n4,y4,l5,?_,rfl⟩
     have hbb:typs l (j+1)=typs l j++([UInt8.ofNat kind.toNat]++minimal elem.toNat):=by rw[typs,htt,hT]
     rw[hbb]
     have hWW:=hW4
     simp only[w0f] at hWW⊢
     exact hWW
    ·have k4':(kind==4)=false:=by simpa using k4
     have k7':(kind==7)=true:=by simp;omega
     simp only[go_sem,G0,G2,k4',k7',yz,hc4,hsucc]
     have hT:typB ⟨kind,elem,len,fields⟩=minimal elem.toNat:=by
      unfold typB
      rw[if_pos k47]
     refine⟨j+1,by omega,h,n4,y4,l5,?_,rfl⟩
     have hbb:typs l (j+1)=typs l j++([UInt8.ofNat kind.toNat]++minimal elem.toNat):=by rw[typs,htt,hT]
     rw[hbb]
     have hWW:=hW4
     simp only[w0f] at hWW⊢
     exact hWW
   ·have k4':(kind==4)=false:=by simp;omega
    have k7':(kind==7)=false:=by simp;omega
    by_cases k6:kind=6
    ·have k6':(kind==6)=true:=by simpa using k6
     have e6:=hflen.2.2.2.1 k6
     have e7:=hflen.2.1 k6
     have m6:=zi (n:=elem.toNat) (by omega)
     obtain⟨y4,n4,l5,hc4,hW4⟩:=tf elem.toNat (by omega) _ (hat y3 _ [⟨nz,[.int .u8 kind,.int .i64 elem,.int .i64 len,u]⟩] n3 (o::l4) hW3) (by simp only[w04,w29,w34];omega)
     rw[xq hlv',w41 e6.1] at hc4
     obtain⟨y5,n5,l6,hc5,hW5⟩:=tf len.toNat (by omega) _ (hat y4 _ [⟨nz,[.int .u8 kind,.int .i64 elem,.int .i64 len,u]⟩] n4 l5 hW4) (by simp only[w04,w29,w34];omega)
     rw[xq hlv',w41 (by omega)] at hc5
     simp only[go_sem,G0,G2,k4',k7',k6',yz,hc4,hc5,hsucc]
     have hT:typB ⟨kind,elem,len,fields⟩=(minimal elem.toNat++minimal len.toNat):=by
      unfold typB
      rw[if_neg k47,if_pos k6]
     refine⟨j+1,by omega,h,n5,y5,l6,?_,rfl⟩
     have hbb:typs l (j+1)=typs l j++([UInt8.ofNat kind.toNat]++(minimal elem.toNat++minimal len.toNat)):=by rw[typs,htt,hT]
     rw[hbb]
     have hWW:=hW5
     simp only[w0f] at hWW⊢
     exact hWW
    ·have k6':(kind==6)=false:=by simpa using k6
     by_cases k5:kind=5
     ·have k5':(kind==5)=true:=by simpa using k5
      obtain⟨y4,n4,l5,hc4,hW4⟩:=z5l fields u q1 (hfo k5) _ (hat y3 _ [⟨nz,[.int .u8 kind,.int .i64 elem,.int .i64 len,u]⟩] n3 (o::l4) hW3) (by simp only[w04,w29,w34];omega)
      rw[xq hlv'] at hc4
      simp only[go_sem,G0,G2,k4',k7',k6',k5',yz,hc4,hsucc]
      have hT:typB ⟨kind,elem,len,fields⟩=flds fields fields.length:=by
       unfold typB
       rw[if_neg k47,if_neg k6,if_pos k5]
      refine⟨j+1,by omega,h,n4,y4,l5,?_,rfl⟩
      have hbb:typs l (j+1)=typs l j++([UInt8.ofNat kind.toNat]++flds fields fields.length):=by rw[typs,htt,hT]
      rw[hbb]
      have hWW:=hW4
      simp only[w0f] at hWW⊢
      exact hWW
     ·have k5':(kind==5)=false:=by simpa using k5
      simp only[go_sem,G0,G2,k4',k7',k6',k5',hsucc]
      have hT:typB ⟨kind,elem,len,fields⟩=[]:=by
       unfold typB
       rw[if_neg k47,if_neg k6,if_neg k5]
      refine⟨j+1,by omega,h,n3,y3,(o::l4),?_,rfl⟩
      have hbb:typs l (j+1)=typs l j++([UInt8.ofNat kind.toNat]++[]):=by rw[typs,htt,hT]
      rw[hbb]
      have hWW:=hW3
      simp only[w0f,w1a] at hWW⊢
      exact hWW
  ·have:j=l.length:=by omega
   subst this
   obtain⟨o,l3,rfl,hW3⟩:=WrL.tail hW2
   simp only[go_sem,G0,G1,G2,w03,h]
   rw[U5 hlv' rfl rfl nx live,z8]
   exact⟨y2,nz,l3,rfl,rfl,hW3⟩
def wasAt (l:List DRun) (k:Nat):Int:=if k=0 then 0 else(runAt l (k-1)).frm
def cod8 (l:List DRun):Nat→List UInt8
 |0=>minimal l.length
 |k+1=>cod8 l k++minimal ((runAt l k).frm-wasAt l k).toNat++minimal (runAt l k).value.toNat
def WfRuns (l:List DRun):Prop:= ∀r∈l,WfRun r
theorem WfRuns.at {l:List DRun} (h:WfRuns l) {k:Nat} (hk:k<l.length):WfRun (runAt l k):=by rw[←z3r hk];exact h _ (w08 hk)
theorem Uc {l:List DRun} {n:Int} (h:FineR l n): ∀k,k<l.length→0≤(runAt l k).frm
 |0,_=>by rw[h.2.1];omega
 |k+1,hk=>by
  have ih:=Uc h k (by omega)
  have:=((h.2.2 (k+1) hk).2 (by omega)).1
  simp only[Nat.add_sub_cancel] at this;omega
theorem z23 {l:List DRun} {n:Int} (h:FineR l n) {k:Nat} (hk:k<l.length):0≤(runAt l k).frm-wasAt l k∧(runAt l k).frm-wasAt l k≤n∧ -1≤wasAt l k:=by
 have h1:=Uc h k hk
 have h2:=(h.2.2 k hk).1
 unfold wasAt
 split
 ·omega
 ·rename_i h0
  have h3:=Uc h (k-1) (by omega)
  have:=((h.2.2 k hk).2 (by omega)).1
  omega
theorem tp {l:List DRun} {n:Int} (h:FineR l n) (hn:n≤200) (hw:WfRuns l) (hl:l.length≤1000): ∀k,k≤l.length→(cod8 l k).length≤10+20*k
 |0,_=>zi (by omega)
 |k+1,hk=>by
  have ih:=tp h hn hw hl k (by omega)
  have h1:=z23 h (show k<l.length by omega)
  have h2:=(hw.at (show k<l.length by omega)).value
  unfold inU64 at h2
  have m1:=zi (n:=((runAt l k).frm-wasAt l k).toNat) (by omega)
  have m2:=zi (n:=(runAt l k).value.toNat) (by omega)
  simp only[cod8,w04];omega
theorem UZ (l:List DRun) (x:AV) (hx:IsSl IsRun 2 l x) (n:Int) (hfine:FineR l n) (hn:n≤200) (hw:WfRuns l) (hl:l.length≤1000) (m:Mem):Okl IsByte 1 tab xL [x] m (cod8 l l.length):=by
 refine qy Wa ?_
 obtain⟨stk,cur,nx,live,fl⟩:=m
 have e0:IntKind.u64.wrap (l.length:Int)=l.length:=zH (by omega) (by omega)
 simp only[uz,List.map,go_sem,G0,G2,hx.len,e0]
 refine(zF l.length (by omega) _).xv fun y ts k ho=> ?_
 simp only[go_sem,G0,G2]
 refine zb (α:=Nat) (fun i σ=>i≤l.length∧ ∃nz y e,Own IsByte 1 y (cod8 l i) e∧heads [0,3,4,5] 0 σ=⟨tmps 41 [(0,x),(3,y),(4,.int .i64 (wasAt l i)),(5,.int .i64 i)],⟨stk++[cur],[],nz,e::live,fl⟩⟩) (fun i=>l.length-i) 0 ?_ ?_
 ·refine⟨w0c _,k,y,_,ho,?_⟩
  simp only[go_sem,G5,G0,G1,wasAt]
  rfl
 ·rintro i σ ⟨hi,nz,y,e,ho,hσ⟩
  rw[hσ]
  clear hσ σ
  dsimp only at hi⊢
  by_cases h:i<l.length
  ·skip
   have h1:=z23 hfine h
   have h2:=(hw.at h).value
   unfold inU64 at h2
   have hpos:=Uc hfine i h
   have hfr:=(hfine.2.2 i h).1
   have e1:=IsSl.run hx h
   have hat:=hx.at .i64 h
   have m1:=zi (n:=((runAt l i).frm-wasAt l i).toNat) (by omega)
   have m2:=zi (n:=(runAt l i).value.toNat) (by omega)
   have hcl:=tp hfine hn hw hl i (by omega)
   have ew:IntKind.u64.wrap (IntKind.i64.wrap ((runAt l i).frm-wasAt l i))=((((runAt l i).frm-wasAt l i).toNat:Nat):Int):=by
    rw[zc (by omega) (by omega),zH (by omega) (by omega)];omega
   have ev:(runAt l i).value=(((runAt l i).value.toNat:Nat):Int):=by omega
   have hsucc:=zd h hx.max
   have hwn:wasAt l (i+1)=(runAt l i).frm:=by unfold wasAt;rw[if_neg (by omega)];simp
   simp only[go_sem,G0,G1,G2,w03,h,hx.len,hat,e1,ew]
   refine(zF _ (by omega) _).xv fun y1 t1 k1 ho1=> ?_
   simp only[go_sem,G0,G2]
   obtain⟨z1,hz1,hc1⟩:=ho1.elems
   refine(ho.push t1).xv hz1 hc1 (by omega) fun y2 k2 e2 ho2=> ?_
   simp only[go_sem,G0,G2,hat,e1]
   rw[ev]
   refine(zF _ (by omega) _).xv fun y3 t3 k3 ho3=> ?_
   simp only[go_sem,G0,G2]
   obtain⟨z3,hz3,hc3⟩:=ho3.elems
   refine(ho2.push t3).xv hz3 hc3 (by simp only[w04];omega) fun y4 k4 e4 ho4=> ?_
   simp only[go_sem,G0,G2,hat,e1,hsucc]
   exact⟨i+1,by omega,h,k4,y4,e4,ho4,by rw[hwn]⟩
  ·have:i=l.length:=by omega
   subst this
   simp only[go_sem,G0,G1,G2,w03,h,hx.len]
   exact vz ho
theorem XW (l:List DRun) (x:AV) (hx:IsSl IsRun 2 l x) (n:Int) (hfine:FineR l n) (hn1:1≤n) (hn:n≤200) (hw:WfRuns l) (hl:l.length≤1000) (m:Mem) (hf:m.floor≤m.stk.length+1):Okp IsByte 1 tab jY [x,.int .i64 n] m (cod8 l l.length) 0:=by
 refine z4H z0s ?_
 obtain⟨stk,cur,nx,live,fl⟩:=m
 dsimp only at hf
 have hf':fl≤(stk++[cur]).length+1:=by simp;omega
 have e0:IntKind.u64.wrap (l.length:Int)=l.length:=zH (by omega) (by omega)
 have hC:=kM l x hx n
 rw[show err08 l n=0 by unfold err08;rw[if_neg (by omega),zD hfine];rfl] at hC
 simp only[jU,List.map,go_sem,G3,G0,G2,(hC _).eq,show((0:Int) !=0)=false from rfl,hx.len,e0]
 refine(qE l.length (by omega) _ _ _ _ _ hf').xv fun y ts k ho=> ?_
 simp only[go_sem,G0,G2,hx.len]
 refine zb (α:=Nat) (fun i σ=>i≤l.length∧ ∃nz y e,Own IsByte 1 y (cod8 l i) e∧heads [7,8,21,22,23] 0 σ=⟨tmps 44 [(7,y),(8,.int .i64 (wasAt l i)),(21,x),(22,.int .i64 l.length),(23,.int .i64 i)],⟨stk++[cur],[],nz,e::live,fl⟩⟩) (fun i=>l.length-i) 0 ?_ ?_
 ·refine⟨w0c _,k,y,_,ho,?_⟩
  simp only[go_sem,G5,G0,G1,wasAt]
  rfl
 ·rintro i σ ⟨hi,nz,y,e,ho,hσ⟩
  rw[hσ]
  clear hσ σ
  dsimp only at hi⊢
  by_cases h:i<l.length
  ·skip
   have h1:=z23 hfine h
   have h2:=(hw.at h).value
   unfold inU64 at h2
   have hpos:=Uc hfine i h
   have hfr:=(hfine.2.2 i h).1
   have e1:=IsSl.run hx h
   have hat:=hx.at .i64 h
   have m1:=zi (n:=((runAt l i).frm-wasAt l i).toNat) (by omega)
   have m2:=zi (n:=(runAt l i).value.toNat) (by omega)
   have hcl:=tp hfine hn hw hl i (by omega)
   have ew:IntKind.u64.wrap (IntKind.i64.wrap ((runAt l i).frm-wasAt l i))=((((runAt l i).frm-wasAt l i).toNat:Nat):Int):=by
    rw[zc (by omega) (by omega),zH (by omega) (by omega)];omega
   have ev:(runAt l i).value=(((runAt l i).value.toNat:Nat):Int):=by omega
   have hsucc:=zd h hx.max
   have hwn:wasAt l (i+1)=(runAt l i).frm:=by unfold wasAt;rw[if_neg (by omega)];simp
   simp only[go_sem,G3,G0,G1,G2,w03,h,hat,e1,ew]
   refine(qE _ (by omega) _ _ _ _ _ hf').xv fun y1 t1 k1 ho1=> ?_
   simp only[go_sem,G0,G2]
   obtain⟨z1,hz1,hc1⟩:=ho1.elems
   refine(ho.push t1).xv hz1 hc1 (by omega) fun y2 k2 e2 ho2=> ?_
   simp only[go_sem,G0,G2]
   rw[ev]
   refine(qE _ (by omega) _ _ _ _ _ hf').xv fun y3 t3 k3 ho3=> ?_
   simp only[go_sem,G0,G2]
   obtain⟨z3,hz3,hc3⟩:=ho3.elems
   refine(ho2.push t3).xv hz3 hc3 (by simp only[w04];omega) fun y4 k4 e4 ho4=> ?_
   simp only[go_sem,G0,G2,hsucc]
   exact⟨i+1,by omega,h,k4,y4,e4,ho4,by rw[hwn]⟩
  ·have:i=l.length:=by omega
   subst this
   simp only[go_sem,G0,G1,G2,w03,h]
   exact YC ho
theorem z7m {m:Mem} {l k st:Nat} {cs:List AV} (h:m.blk l k st=some cs):(m.row l)[k]? =some ⟨st,cs⟩:=by
 unfold Mem.blk at h
 split at h
 ·rename_i b hb
  split at h
  ·rename_i e
   injection h with h
   rw[hb,←h,←eq_of_beq e]
  ·cases h
 ·cases h
theorem z98 {stk:List (List Blk)} {cur c:List Blk} {nx nx' fl fl':Nat} {live live':List (List Nat)} {lv k s:Nat} (hlv:lv≤stk.length):(Mem.blk ⟨stk++[cur],c,nx',live',fl'⟩ lv k s)=Mem.blk ⟨stk,cur,nx,live,fl⟩ lv k s:=by
 unfold Mem.blk Mem.row
 simp only
 rw[if_neg (by simp;omega)]
 by_cases e:lv=stk.length
 ·subst e;simp
 ·rw[if_neg (by simpa using e)]
  simp only[w00]
  rw[w07 (by omega)]
theorem zcN {stk:List (List Blk)} {cur:List Blk} {nx fl:Nat} {live:List (List Nat)} {lv k st:Nat} {cs:List AV} (hlv:lv≤stk.length) (h:Mem.blk ⟨stk,cur,nx,live,fl⟩ lv k st=some cs):((stk++[cur]).getD lv [])[k]? =some ⟨st,cs⟩:=by
 have:=z7m h
 unfold Mem.row at this
 by_cases e:lv=stk.length
 ·subst e;simpa using this
 ·simp only at this
  rw[if_neg (by simpa using e)] at this
  simp only[w00] at this⊢
  rw[w07 (by omega)];exact this
theorem z9j (g:DField) (y:AV) (hy:IsField g y) (s:List UInt8) (t:Int) (m:Mem) (lv st:Nat) (hlv:lv≤m.stk.length) (h1:m.blk lv 0 st=some [.str s,.int .i64 t]):Okv tab xW [y,.ptr lv 0 st 0] m (.bool (g.name==s)):=by
 refine zf z0u ?_
 obtain⟨stk,cur,nx,live,fl⟩:=m
 dsimp only at hlv
 obtain rfl:=hy
 have hne:(lv==(stk++[cur]).length)=false:=by simp;omega
 have b1:=zcN hlv h1
 simp only[jW,List.map,go_sem,G3,G0,G2,hne,b1,evStr]
 rw[z6 rfl rfl,z8]
 exact⟨⟨_,rfl⟩,rfl⟩
theorem TF (xs:List DField) (x:AV) (hx:IsSl IsField 2 xs x) (s:List UInt8) (t:Int) (m:Mem) (lv st:Nat) (hlv:lv≤m.stk.length) (h1:m.blk lv 0 st=some [.str s,.int .i64 t]):
  Ok tab zY [x,.fn (.func xW) [] [.ptr lv 0 st 0]] m (fun r=> ∃n:Int,r= .int .i64 n∧decide (n≥0)=xs.any (·.name==s)):=by
 refine z5W th ?_
 obtain⟨stk,cur,nx,live,fl⟩:=m
 dsimp only at hlv
 simp only[zX,List.map,go_sem,G3,G0,G2,hx.len]
 refine zb (α:=Nat) (fun i σ=>(i≤xs.length∧ ∀c∈xs.take i,(c.name==s)=false)∧ ∃nz,heads [0,1,7,8] 0 σ=⟨tmps 19 [(0,x),(1,.fn (.func xW) [] [.ptr lv 0 st 0]),(7,.int .i64 xs.length),(8,.int .i64 i)],⟨stk++[cur],[],nz,[]::live,fl⟩⟩) (fun i=>xs.length-i) 0 ?_ ?_
 ·refine⟨⟨w0c _,by simp⟩,?_⟩
  simp only[go_sem,G0,G1]
  exact⟨_,rfl⟩
 ·rintro i σ ⟨⟨hi,ht⟩,nz,hσ⟩
  rw[hσ]
  clear hσ σ
  dsimp only at hi ht⊢
  by_cases h:i<xs.length
  ·have hfl:IsField xs[i] (nth x i):=hx.nth h
   have hag:=hfl.agg.1
   have hcall:=fun nz=>(z9j xs[i] (nth x i) hfl s t ⟨stk++[cur],[],nz,[]::live,fl⟩ lv st (by simp;omega) (by rw[z98 hlv];exact h1)).eq
   simp only[go_sem,G0,G1,G2,w03,h,hx.at _ h,hag,hcall]
   cases hc:(xs[i].name==s)
   ·simp only[go_sem,G0,G2,zd h hx.max]
    exact⟨i+1,by omega,⟨h,zn (P:=fun c=>(c.name==s)=false) h ht hc⟩,_,rfl⟩
   ·simp only[go_sem,G0,G2]
    rw[z6 rfl rfl,z8]
    refine⟨⟨_,rfl⟩,_,rfl,?_⟩
    rw[List.any_eq_true.2 ⟨_,w08 h,hc⟩]
    simp
  ·have:i=xs.length:=by omega
   subst this
   rw[w09] at ht
   simp only[go_sem,G0,G1,G2,w03,h]
   rw[z6 rfl rfl,z8]
   refine⟨⟨_,rfl⟩,_,rfl,?_⟩
   rw[List.any_eq_false.2 fun c hc=>by rw[ht c hc];simp]
   rfl
theorem Vh (xs:List DField) (x:AV) (hx:IsSl IsField 2 xs x) (s:List UInt8) (t:Int) (m:Mem) (lv st:Nat) (hlv:lv≤m.stk.length) (h1:m.blk lv 0 st=some [.str s,.int .i64 t]):
  Okv tab zQ [x,.fn (.func xW) [] [.ptr lv 0 st 0]] m (.bool (xs.any (·.name==s))):=by
 refine zf ui ?_
 obtain⟨stk,cur,nx,live,fl⟩:=m
 dsimp only at hlv
 simp only[zP,List.map,go_sem,G3,G0,G2]
 obtain⟨r,k,e1,n,rfl,e2⟩:=TF xs x hx s t ⟨stk++[cur],[],nx,[]::live,fl⟩ lv st (by simp;omega) (by rw[z98 hlv];exact h1)
 simp only[go_sem,G0,G2,e1,e2]
 rw[z6 rfl rfl,z8]
 exact⟨⟨_,rfl⟩,rfl⟩
theorem IsSl.upto {α:Type} {R:α→AV→Prop} {s:Nat} {xs:List α} {y:AV} (h:IsSl R s xs y) {i:Nat} (hi:i<xs.length): ∃y',evSlice s y none (some (.int .i64 i)) none=some y'∧IsSl R s (xs.take i) y':=by
 rcases h with⟨hm,⟨rfl,rfl⟩|⟨tk,ys,rfl,h⟩⟩
 ·simp at hi
 ·have hl:=h.len
  have hb:bound (some (.int .i64 (i:Int))) ys.length ys.length=some i:=by
   unfold bound;simp only;rw[if_pos (by omega)];rfl
  have e:evSlice s (.list s tk ys) none (some (.int .i64 i)) none=some (.list s (if i==ys.length&&(0==0||decide (0<ys.length)) then tk else .none) ((ys.take i).drop 0)):=by
   unfold evSlice
   simp only[beq_self_eq_true,if_true]
   rw[hb,w26,show bound none i 0=some 0 from rfl]
   simp
  refine⟨_,e,?_⟩
  rw[w27]
  exact .mk (h.take i) (by rw[w1f];omega)
def NamesP (l:List DField):Prop:=(∀f∈l,named f.name=true)∧(l.map DField.name).Nodup
theorem z2D (xs:List DField) (x:AV) (hx:IsSl IsField 2 xs x) (m:Mem):Okv tab Y8 [x] m (.bool (pb (NamesP xs))):=by
 refine zf z2O ?_
 obtain⟨stk,cur,nx,live,fl⟩:=m
 simp only[Y1,List.map,go_sem,G0,G2,hx.len]
 have hml:(xs.map DField.name).length=xs.length:=by simp
 refine zb (α:=Nat) (fun i σ=>(i≤xs.length∧(∀c∈xs.take i,named c.name=true)∧((xs.map DField.name).take i).Nodup)∧ ∃nz,heads [0,5,6,7] 0 σ=⟨tmps 24 [(0,x),(5,x),(6,.int .i64 xs.length),(7,.int .i64 i)],⟨stk++[cur],[],nz,[]::live,fl⟩⟩) (fun i=>xs.length-i) 0 ?_ ?_
 ·refine⟨⟨w0c _,by simp,by simp⟩,?_⟩
  simp only[go_sem,G0,G1]
  exact⟨_,rfl⟩
 ·rintro i σ ⟨⟨hi,ht,hd⟩,nz,hσ⟩
  rw[hσ]
  clear hσ σ
  dsimp only at hi ht hd⊢
  by_cases h:i<xs.length
  ·have e1:nth x i= .agg [.str xs[i].name,.int .i64 xs[i].typ]:=hx.nth h
   obtain⟨y,hy,hys⟩:=IsSl.upto hx h
   simp only[go_sem,G3,G0,G1,G2,w03,h,hx.at _ h,e1,(Zt _ _).eq]
   cases hc:named xs[i].name
   ·simp only[go_sem,G0,G2]
    rw[z6 rfl rfl,z8]
    exact⟨⟨_,rfl⟩,by rw[zg fun h'=>by have:=h'.1 _ (w08 h);rw[hc] at this;cases this]⟩
   ·have hcall:=fun nz'=>(Vh (xs.take i) y hys xs[i].name xs[i].typ ⟨stk++[cur],[⟨nz,[.str xs[i].name,.int .i64 xs[i].typ]⟩],nz',[]::live,fl⟩ (stk++[cur]).length nz (w0b _) (by simp[Mem.blk,Mem.row])).eq
    simp only[go_sem,G0,G2,hy,hcall]
    cases ha:(xs.take i).any (·.name==xs[i].name)
    ·simp only[go_sem,G0,G2,zd h hx.max]
     refine⟨i+1,by omega,⟨h,zn (P:=fun c=>named c.name=true) h ht hc,?_⟩,_,rfl⟩
     refine kU (by rw[hml];exact h) hd fun z hz=> ?_
     rw[←List.map_take,w3a] at hz
     obtain⟨f,hf,rfl⟩:=hz
     have:=List.any_eq_false.1 ha f hf
     simpa using this
    ·simp only[go_sem,G0,G2]
     rw[z6 rfl rfl,z8]
     refine⟨⟨_,rfl⟩,congrArg AV.bool (zg fun h'=> ?_).symm⟩
     obtain⟨f,hf,he⟩:=List.any_eq_true.1 ha
     obtain⟨j,hj,rfl⟩:=List.mem_take_iff_getElem.1 hf
     exact Yl (l:=xs.map DField.name) (i:=i) (k:=j) (by omega) (by rw[hml];exact h) (by simpa using he) h'.2
  ·have:i=xs.length:=by omega
   subst this
   rw[w09] at ht
   rw[←hml,w09] at hd
   simp only[go_sem,G0,G1,G2,w03,h]
   rw[z6 rfl rfl,z8]
   exact⟨⟨_,rfl⟩,by rw[zD ⟨ht,hd⟩]⟩
def HeadP (n:Nat) (f:DFunc):Prop:=named f.name=true∧(f.slots.length:Int)≤16∧NamesP f.slots∧0≤f.params∧f.params≤f.slots.length∧ -1≤f.result∧f.result<n
def FuncP (n:Nat) (f:DFunc):Prop:=HeadP n f∧(∀s∈f.slots,0≤s.typ∧s.typ<n)∧(∀x∈f.code,InstrP x)∧1≤f.code.length∧f.code.length≤200∧FineR f.sizes f.code.length∧FineR f.lives f.code.length
theorem z54 {l:List DField} {k:Int}:FieldsP l k↔(l.length:Int)≤k∧NamesP l:=Iff.rfl
theorem z6M {l:List DRun} {n:Int}:(err08 l n==0)=pb (1≤n∧n≤200∧FineR l n):=by
 unfold err08
 refine kc ?_
 by_cases h:n<1∨n>200
 ·rw[if_pos h];simp;omega
 ·rw[if_neg h]
  cases hp:pb (FineR l n)
  ·have:=TR.1 hp
   simp[this]
  ·have:=X4.1 hp
   simp[this];omega
theorem z0W {x:DInstr} (h:WfInstr x):WfI x:=⟨h.a,h.b,h.c⟩
theorem Qr (l:List DTyp) (x:AV) (hx:IsSl IsTyp 4 l x) (f:DFunc) (y:AV) (hy:IsFunc f y) (hw:WfFunc f) (m:Mem) (hfl:m.floor≤m.stk.length+1):Okv tab jv [x,y] m (.bool (pb (FuncP l.length f))):=by
 refine zf Qy ?_
 obtain⟨stk,cur,nx,live,fl⟩:=m
 dsimp only at hfl
 have hfl':fl≤(stk++[cur]).length+1:=by simp;omega
 have hlx:=hx.len
 obtain⟨name,params,result,slots,code,sizes,lives⟩:=f
 obtain⟨w0,w1,w2,w3,rfl,q0,q1,q2,q3⟩:=hy
 dsimp only at q0 q1 q2 q3
 generalize l.length=n at*
 have hN:=fun m=>(Zt name m).eq
 have hI:=fun m=>(z2D slots w0 q0 m).eq
 have hl0:=q0.len
 simp only[jt,List.map,go_sem,G3,G0,G2,hN]
 by_cases hA:HeadP n ⟨name,params,result,slots,code,sizes,lives⟩
 ·obtain⟨a1,a2,a3,a4,a5,a6,a7⟩:=hA
  have hA:HeadP n ⟨name,params,result,slots,code,sizes,lives⟩:=⟨a1,a2,a3,a4,a5,a6,a7⟩
  dsimp only at a1 a2 a3 a4 a5 a6 a7
  simp only[go_sem,G0,G2,a1,hl0,show¬(slots.length:Int)>16 by omega,hI,zD a3,show¬params<0 by omega,show¬params>slots.length by omega,show¬result< -1 by omega,hlx,show¬result≥n by omega]
  refine zb (α:=Nat) (fun i σ=>(i≤slots.length∧ ∀s∈slots.take i,0≤s.typ∧s.typ<n)∧ ∃nz,heads [0,3,51,52,53] 1 σ=⟨tmps 95 [(0,x),(3,.ptr (stk++[cur]).length 0 nx 0),(51,w0),(52,.int .i64 slots.length),(53,.int .i64 i)],⟨stk++[cur],[⟨nx,[.str name,.int .i64 params,.int .i64 result,w0,w1,w2,w3]⟩],nz,[]::live,fl⟩⟩) (fun i=>slots.length-i) 0 ?_ ?_
  ·refine⟨⟨w0c _,by simp⟩,?_⟩
   simp only[go_sem,G0,G1]
   exact⟨_,rfl⟩
  ·rintro i σ ⟨⟨hi,ht⟩,nz,hσ⟩
   rw[hσ]
   clear hσ σ
   dsimp only at hi ht⊢
   by_cases h:i<slots.length
   ·have e1:nth w0 i= .agg [.str slots[i].name,.int .i64 slots[i].typ]:=q0.nth h
    have hat:=q0.at .i64 h
    have hsucc:=zd h q0.max
    have hlen0:=q0.len
    by_cases hf:0≤slots[i].typ∧slots[i].typ<n
    ·simp only[go_sem,G3,G0,G1,G2,w03,h,hat,e1,show¬slots[i].typ<0 by omega,hlx,show¬slots[i].typ≥n by omega,hsucc]
     exact⟨i+1,by omega,⟨h,zn (P:=fun s=>0≤s.typ∧s.typ<n) h ht hf⟩,_,rfl⟩
    ·simp only[go_sem,G3,G0,G1,G2,w03,h,hat,e1]
     repeat' (((first|refine zo ?_ ?_|refine zl ?_ ?_|refine zm ?_ ?_|refine zj ?_ ?_|refine zk ?_ ?_)<;>intro hq)<;>simp only[go_sem,G0,G2,hq,hlx])
     all_goals first
      |(rw[z6 rfl rfl,z8];exact⟨⟨_,rfl⟩,congrArg AV.bool (zg fun h'=>hf (h'.2.1 _ (w08 h))).symm⟩)
      |(exfalso;simp only[decide_eq_false_iff_not] at*;omega)
   ·have:i=slots.length:=by omega
    subst this
    rw[w09] at ht
    simp only[go_sem,G0,G1,G2,w03,h,q1.len]
    refine zb (α:=Nat) (fun i σ=>(i≤code.length∧ ∀s∈code.take i,InstrP s)∧ ∃nz,heads [3,69,70,71] 1 σ=⟨tmps 95 [(3,.ptr (stk++[cur]).length 0 nx 0),(69,w1),(70,.int .i64 code.length),(71,.int .i64 i)],⟨stk++[cur],[⟨nx,[.str name,.int .i64 params,.int .i64 result,w0,w1,w2,w3]⟩],nz,[]::live,fl⟩⟩) (fun i=>code.length-i) 0 ?_ ?_
    ·refine⟨⟨w0c _,by simp⟩,?_⟩
     simp only[go_sem,G0,G1]
     exact⟨_,rfl⟩
    ·rintro i σ ⟨⟨hi,hc⟩,nz,hσ⟩
     rw[hσ]
     clear hσ σ
     dsimp only at hi hc⊢
     by_cases h:i<code.length
     ·have e1:nth w1 i= .agg [.int .u8 code[i].op,.int .i64 code[i].a,.int .i64 code[i].b,.int .i64 code[i].c]:=q1.nth h
      have hat:=q1.at .i64 h
      have hsucc:=zd h q1.max
      have hwi:=z0W (hw.code _ (w08 h))
      have hchk:=fun c nz=>(Zi code[i] ⟨stk++[cur],c,nz,[]::live,fl⟩ hfl').eq
      by_cases hf:InstrP code[i]
      ·rw[jN hf] at hchk
       simp only[go_sem,G3,G0,G1,G2,w03,h,hat,e1,hchk,show((0:Int) !=0)=false from rfl,hsucc]
       exact⟨i+1,by omega,⟨h,zn (P:=fun s=>InstrP s) h hc hf⟩,_,rfl⟩
      ·rw[xu hf] at hchk
       simp only[go_sem,G3,G0,G1,G2,w03,h,hat,e1,hchk,show((8:Int) !=0)=true from rfl]
       rw[z6 rfl rfl,z8]
       exact⟨⟨_,rfl⟩,congrArg AV.bool (zg fun h'=>hf (h'.2.2.1 _ (w08 h))).symm⟩
     ·have:i=code.length:=by omega
      subst this
      rw[w09] at hc
      have hT2:=fun m=>(kM sizes w2 q2 code.length m).eq
      have hT3:=fun m=>(kM lives w3 q3 code.length m).eq
      simp only[go_sem,G0,G1,G2,w03,h,q1.len,hT2,z6M]
      repeat' (((first|refine zo ?_ ?_|refine zl ?_ ?_|refine zm ?_ ?_|refine zj ?_ ?_|refine zk ?_ ?_)<;>intro hq)<;>simp only[go_sem,G0,G2,hq,q1.len,hT3,z6M])
      all_goals
       rw[z6 rfl rfl,z8]
       refine⟨⟨_,rfl⟩,congrArg AV.bool (kc ?_)⟩
       simp only[X4,TR] at*
       unfold FuncP
       dsimp only
       clear hT2 hT3
       grind
 ·repeat' (((first|refine zo ?_ ?_|refine zl ?_ ?_|refine zm ?_ ?_|refine zj ?_ ?_|refine zk ?_ ?_)<;>intro hq)<;>simp only[go_sem,G0,G2,hq,hl0,hI,hlx])
  all_goals first
   |(rw[z6 rfl rfl,z8];exact⟨⟨_,rfl⟩,congrArg AV.bool (zg fun h'=>hA h'.1).symm⟩)
   |(exfalso;apply hA;unfold HeadP;simp only[decide_eq_false_iff_not,X4,Bool.not_eq_false'] at*;clear hN hI;grind)
theorem Qp (l:List DTyp) (x:AV) (hx:IsSl IsTyp 4 l x) (f:DFunc) (y:AV) (hy:IsFunc f y) (hw:WfFunc f) (m:Mem):Okv tab vq [x,y] m (.bool (pb (FuncP l.length f))):=by
 refine zf Zw ?_
 obtain⟨stk,cur,nx,live,fl⟩:=m
 have hlx:=hx.len
 obtain⟨name,params,result,slots,code,sizes,lives⟩:=f
 obtain⟨w0,w1,w2,w3,rfl,q0,q1,q2,q3⟩:=hy
 dsimp only at q0 q1 q2 q3
 generalize l.length=n at*
 have hN:=fun m=>(jf name hw.name m).eq
 have hI:=fun m=>(qR slots 16 w0 q0 (fun f hf=>(hw.slots f hf).name) m).eq
 have hl0:=q0.len
 have hl1:=q1.len
 simp only[vg,List.map,go_sem,G3,G0,G2,hN]
 by_cases hA:HeadP n ⟨name,params,result,slots,code,sizes,lives⟩∧1≤code.length∧code.length≤200
 ·obtain⟨⟨a1,a2,a3,a4,a5,a6,a7⟩,a8,a9⟩:=hA
  have hA:HeadP n ⟨name,params,result,slots,code,sizes,lives⟩:=⟨a1,a2,a3,a4,a5,a6,a7⟩
  dsimp only at a1 a2 a3 a4 a5 a6 a7
  have hfp:FieldsP slots 16:=⟨a2,a3⟩
  simp only[go_sem,G0,G2,a1,hI,zD hfp,show¬params<0 by omega,hl0,show¬params>slots.length by omega,show¬result< -1 by omega,hlx,show¬result≥n by omega,hl1,show¬(code.length:Int)<1 by omega,show¬(code.length:Int)>200 by omega]
  refine zb (α:=Nat) (fun i σ=>(i≤slots.length∧ ∀s∈slots.take i,0≤s.typ∧s.typ<n)∧ ∃nz,heads [0,3,5] 1 σ=⟨tmps 107 [(0,x),(3,.ptr (stk++[cur]).length 0 nx 0),(5,.int .i64 i)],⟨stk++[cur],[⟨nx,[.str name,.int .i64 params,.int .i64 result,w0,w1,w2,w3]⟩],nz,[]::live,fl⟩⟩) (fun i=>slots.length-i) 0 ?_ ?_
  ·refine⟨⟨w0c _,by simp⟩,?_⟩
   simp only[go_sem,G0,G1]
   exact⟨_,rfl⟩
  ·rintro i σ ⟨⟨hi,ht⟩,nz,hσ⟩
   rw[hσ]
   clear hσ σ
   dsimp only at hi ht⊢
   by_cases h:i<slots.length
   ·have e1:nth w0 i= .agg [.str slots[i].name,.int .i64 slots[i].typ]:=q0.nth h
    have hat:=q0.at .i64 h
    have hsucc:=zd h q0.max
    have hlen0:=q0.len
    by_cases hf:0≤slots[i].typ∧slots[i].typ<n
    ·simp only[go_sem,G0,G1,G2,w03,h,hlen0,hat,e1,show¬slots[i].typ<0 by omega,hlx,show¬slots[i].typ≥n by omega,hsucc]
     exact⟨i+1,by omega,⟨h,zn (P:=fun s=>0≤s.typ∧s.typ<n) h ht hf⟩,_,rfl⟩
    ·simp only[go_sem,G0,G1,G2,w03,h,hlen0,hat,e1]
     repeat' (((first|refine zo ?_ ?_|refine zl ?_ ?_|refine zm ?_ ?_|refine zj ?_ ?_|refine zk ?_ ?_)<;>intro hq)<;>simp only[go_sem,G0,G2,hq,hat,e1,hlx])
     all_goals first
      |(rw[z6 rfl rfl,z8];exact⟨⟨_,rfl⟩,congrArg AV.bool (zg fun h'=>hf (h'.2.1 _ (w08 h))).symm⟩)
      |(exfalso;simp only[decide_eq_false_iff_not] at*;omega)
   ·have:i=slots.length:=by omega
    subst this
    rw[w09] at ht
    simp only[go_sem,G0,G1,G2,w03,h,q0.len]
    refine zb (α:=Nat) (fun i σ=>(i≤code.length∧ ∀s∈code.take i,InstrP s)∧ ∃nz,heads [3,6] 1 σ=⟨tmps 107 [(3,.ptr (stk++[cur]).length 0 nx 0),(6,.int .i64 i)],⟨stk++[cur],[⟨nx,[.str name,.int .i64 params,.int .i64 result,w0,w1,w2,w3]⟩],nz,[]::live,fl⟩⟩) (fun i=>code.length-i) 0 ?_ ?_
    ·refine⟨⟨w0c _,by simp⟩,?_⟩
     simp only[go_sem,G0,G1]
     exact⟨_,rfl⟩
    ·rintro i σ ⟨⟨hi,hc⟩,nz,hσ⟩
     rw[hσ]
     clear hσ σ
     dsimp only at hi hc⊢
     by_cases h:i<code.length
     ·have e1:nth w1 i= .agg [.int .u8 code[i].op,.int .i64 code[i].a,.int .i64 code[i].b,.int .i64 code[i].c]:=q1.nth h
      have hat:=q1.at .i64 h
      have hsucc:=zd h q1.max
      have hwi:=z0W (hw.code _ (w08 h))
      have hchk:=fun m=>(T0 code[i] hwi m).eq
      by_cases hf:InstrP code[i]
      ·rw[jN hf] at hchk
       simp only[go_sem,G3,G0,G1,G2,w03,h,q1.len,hat,e1,hchk,show((0:Int) !=0)=false from rfl,hsucc]
       exact⟨i+1,by omega,⟨h,zn (P:=fun s=>InstrP s) h hc hf⟩,_,rfl⟩
      ·rw[xu hf] at hchk
       simp only[go_sem,G3,G0,G1,G2,w03,h,q1.len,hat,e1,hchk,show((8:Int) !=0)=true from rfl]
       rw[z6 rfl rfl,z8]
       exact⟨⟨_,rfl⟩,congrArg AV.bool (zg fun h'=>hf (h'.2.2.1 _ (w08 h))).symm⟩
     ·have:i=code.length:=by omega
      subst this
      rw[w09] at hc
      have hT2:=fun m=>(TD sizes w2 q2 code.length m).eq
      have hT3:=fun m=>(TD lives w3 q3 code.length m).eq
      simp only[go_sem,G0,G1,G2,w03,h,q1.len,hT2]
      repeat' (((first|refine zo ?_ ?_|refine zl ?_ ?_|refine zm ?_ ?_|refine zj ?_ ?_|refine zk ?_ ?_)<;>intro hq)<;>simp only[go_sem,G0,G2,hq,q1.len,hT3])
      all_goals
       rw[z6 rfl rfl,z8]
       refine⟨⟨_,rfl⟩,congrArg AV.bool (kc ?_)⟩
       simp only[X4,TR] at*
       unfold FuncP
       dsimp only
       clear hT2 hT3
       grind
 ·repeat' (((first|refine zo ?_ ?_|refine zl ?_ ?_|refine zm ?_ ?_|refine zj ?_ ?_|refine zk ?_ ?_)<;>intro hq)<;>simp only[go_sem,G0,G2,hq,hl0,hI,hlx,hl1])
  all_goals first
   |(rw[z6 rfl rfl,z8];exact⟨⟨_,rfl⟩,congrArg AV.bool (zg fun h'=>hA ⟨h'.1,h'.2.2.2.1,h'.2.2.2.2.1⟩).symm⟩)
   |(exfalso;apply hA;unfold HeadP;simp only[decide_eq_false_iff_not,X4,z54,Bool.not_eq_false'] at*;clear hN hI;grind)
def in0:DInstr:=⟨0,0,0,0⟩
def insAt (l:List DInstr) (k:Nat):DInstr:=l.getD k in0
theorem YA {l:List DInstr} {j:Nat} (h:j<l.length):l[j]=insAt l j:=by simp[insAt,w00,h]
def codes (l:List DInstr):Nat→List UInt8
 |0=>[]
 |k+1=>codes l k++cod6 (insAt l k)
theorem z2e {x:DInstr} (h:InstrP x) (hw:WfI x):(cod6 x).length≤31:=by
 have hx:=h
 obtain⟨a,b,c,hs,_⟩:=hx
 exact UI hs h hw 3 (w0b _)
theorem jp {l:List DInstr} (h: ∀x∈l,InstrP x) (hw: ∀x∈l,WfInstr x): ∀k,k≤l.length→(codes l k).length≤31*k
 |0,_=>by simp[codes]
 |k+1,hk=>by
  have ih:=jp h hw k (by omega)
  have hm:=w08 (show k<l.length by omega)
  have:=z2e (h _ hm) (z0W (hw _ hm))
  rw[YA (by omega)] at this
  simp only[codes,w04];omega
def funB (f:DFunc):List UInt8:=said f.name++(minimal f.params.toNat++(minimal (zigzag f.result)++(flds f.slots f.slots.length++(minimal f.code.length++(codes f.code f.code.length++(cod8 f.sizes f.sizes.length++cod8 f.lives f.lives.length))))))
theorem z1Z {n:Nat} {f:DFunc} (h:FuncP n f) (hn:n≤32):FOk f.slots:=by
 obtain⟨⟨h1,h2,h3,h4,h5,h6,h7⟩,h8,_⟩:=h
 refine⟨by omega,fun s hs=> ?_⟩
 have:=Ym (h3.1 s hs)
 have:=h8 s hs
 omega
theorem z25 {l:List DRun} {n:Int} (h:FineR l n): ∀k,k<l.length→(k:Int)≤(runAt l k).frm
 |0,_=>by rw[h.2.1];omega
 |k+1,hk=>by
  have ih:=z25 h k (by omega)
  have:=((h.2.2 (k+1) hk).2 (by omega)).1
  simp only[Nat.add_sub_cancel] at this;omega
theorem jn {l:List DRun} {n:Int} (h:FineR l n) (hn:n≤200):l.length≤200:=by
 have h0:=h.1
 have h1:=z25 h (l.length-1) (by omega)
 have h2:=(h.2.2 (l.length-1) (by omega)).1
 omega
theorem l02:((0:Int)<((2:Nat):Int))=True:=eq_true (by decide)
theorem l12:((1:Int)<((2:Nat):Int))=True:=eq_true (by decide)
theorem l22:((2:Int)<((2:Nat):Int))=False:=eq_false (by decide)
theorem z7a (f:DFunc) (x:AV) (hx:IsFunc f x) (hwf:WfFunc f) (nt:Nat) (hnt:nt≤32) (hf:FuncP nt f) (m:Mem) {lv k st i:Nat} {y:AV} {b:List UInt8} {post:List (List Nat)} (ha:At m lv k st i y b post) (hb:b.length≤700000):
  Writes x8 [.ptr lv k st 0,x] lv k st i y b (funB f) post (.int .i64 0) m:=by
 have hfo:=z1Z hf hnt
 obtain⟨name,params,result,slots,code,sizes,lives⟩:=f
 obtain⟨w0,w1,w2,w3,rfl,q0,q1,q2,q3⟩:=hx
 obtain⟨⟨g1,g2,g3,g4,g5,g6,g7⟩,g8,g9,g10,g11,g12,g13⟩:=hf
 dsimp only at q0 q1 q2 q3 g1 g2 g3 g4 g5 g6 g7 g8 g9 g10 g11 g12 g13 hfo
 have hnl:=Ym g1
 have hres:in64 result:=hwf.result
 suffices h:Does tab x8 [.ptr lv k st 0,.agg [.str name,.int .i64 params,.int .i64 result,w0,w1,w2,w3]] m fun v m'=> ∃y' n' live',v= .int .i64 0∧m'=wrote m lv k st y' n' live'∧WrL i y' (b++funB ⟨name,params,result,slots,code,sizes,lives⟩) live' post by
  obtain⟨z,h1,y',n',l',h2,h3,h4⟩:=h
  exact⟨y',n',l',by rw[h1,←h2,←h3],h4⟩
 refine zW Yi ?_ (Nat.le_of_ble_eq_true rfl)
 obtain⟨stk,cur,nx,live,fl⟩:=m
 obtain⟨hlv,hblk,hfl,hW⟩:=ha
 dsimp only at hlv hfl hW
 have hrow:=TM hblk (by omega)
 have hk:k<((stk++[cur]).getD lv []).length:=(w06.1 hrow).1
 have hid:=z5L hrow
 have hlv':lv≤stk.length:=by omega
 have hne:(lv==(stk++[cur]).length)=false:=by simp;omega
 have hsub:(stk++[cur]).length-lv=i+1:=by simp;omega
 have hlev: ∀y,lv+(i+1)=(rw' stk cur lv k st y).length:=fun y=>by rw[yz];simp;omega
 have hget: ∀y,((rw' stk cur lv k st y).getD lv [])[k]? =some ⟨st,[y]⟩:=fun y=>Ti hlv' hk
 have hat: ∀y b c nz L,WrL (i+1) y b L post→At ⟨rw' stk cur lv k st y,c,nz,L,fl⟩ lv k st (i+1) y b post:=fun y b c nz L h=>⟨hlev y,z5d hlv' hk,hfl,h⟩
 have hlr: ∀y,fl≤(rw' stk cur lv k st y).length+1:=fun y=>by rw[yz];simp;omega
 have hflr: ∀y,max fl ((stk++[cur]).length+1)≤(rw' stk cur lv k st y).length+1:=fun y=>by rw[yz];simp;omega
 have m1:=ql (s:=name) (by omega)
 have m2:=zi (n:=params.toNat) (by omega)
 have m3:=zi (qD hres)
 have m4:=qY hfo slots.length (w0b _)
 have m5:=zi (n:=code.length) (by omega)
 have m6:=jp g9 hwf.code code.length (w0b _)
 have r1:=jn g12 (by omega)
 have r2:=jn g13 (by omega)
 have m7:=tp g12 (by omega) hwf.sizes (by omega) sizes.length (w0b _)
 have m8:=tp g13 (by omega) hwf.lives (by omega) lives.length (w0b _)
 have hfo16:=hfo.1
 simp only[vI,List.map,go_sem,G3,G0,G2]
 simp only[hid]
 obtain⟨y1,n1,l1,hc1,hW1⟩:=z76 name (by omega) _ (hat y b [⟨nx,[.str name,.int .i64 params,.int .i64 result,w0,w1,w2,w3]⟩] (nx+1) _ (WrL.enter hW)) (by omega)
 rw[xq hlv'] at hc1
 obtain⟨y2,n2,l2,hc2,hW2⟩:=tf params.toNat (by omega) _ (hat y1 _ [⟨nx,[.str name,.int .i64 params,.int .i64 result,w0,w1,w2,w3]⟩] n1 l1 hW1) (by simp only[w04];omega)
 rw[xq hlv',w41 g4] at hc2
 simp only[go_sem,G0,G2,yz,hc1,hc2,hne,hget]
 refine qv (UX result hres _ _ _ _ _ (hflr y2)) fun yv ts nv hov=> ?_
 obtain⟨zs,hz,hcz⟩:=hov.elems
 obtain⟨y3,n3,l3,o3,l4,happ,hcl,hone,hsk,hW3⟩:=WrL.app (hW2.push ts) hz hcz (by simp only[w04];omega) nv
 have hW3:=WrL.cons o3 hW3
 simp only[go_sem,G0,G2,yz,hne,hget,happ,hcl,hone,hfl,hsub,hsk,VH]
 obtain⟨y4,n4,l5,hc4,hW4⟩:=z5l slots w0 q0 hfo _ (hat y3 _ [⟨nx,[.str name,.int .i64 params,.int .i64 result,w0,w1,w2,w3]⟩] n3 (o3::l4) hW3) (by simp only[w04];omega)
 rw[xq hlv'] at hc4
 obtain⟨y5,n5,l6,hc5,hW5⟩:=tf code.length (by omega) _ (hat y4 _ [⟨nx,[.str name,.int .i64 params,.int .i64 result,w0,w1,w2,w3]⟩] n4 l5 hW4) (by simp only[w04];omega)
 rw[xq hlv'] at hc5
 simp only[go_sem,G0,G2,yz,hc4,hc5,q1.len]
 have hbl:(b++said name++minimal params.toNat++minimal (zigzag result)++flds slots slots.length++minimal code.length).length≤800000:=by simp only[w04];omega
 generalize hB:b++said name++minimal params.toNat++minimal (zigzag result)++flds slots slots.length++minimal code.length=B at*
 refine zb (α:=Nat) (fun j σ=>j≤code.length∧ ∃nz y L,WrL (i+1) y (B++codes code j) L post∧heads [0,3,42,43,44] 1 σ=⟨tmps 97 [(0,.ptr lv k st 0),(3,.ptr (stk++[cur]).length 0 nx 0),(42,w1),(43,.int .i64 code.length),(44,.int .i64 j)],⟨rw' stk cur lv k st y,[⟨nx,[.str name,.int .i64 params,.int .i64 result,w0,w1,w2,w3]⟩],nz,L,fl⟩⟩) (fun j=>code.length-j) 0 ?_ ?_
 ·refine⟨w0c _,n5,y5,l6,by simpa [codes] using hW5,?_⟩
  simp only[go_sem,G0,G1]
  rfl
 ·rintro j σ ⟨hj,nz,y6,L,hW6,hσ⟩
  rw[hσ]
  clear hσ σ
  dsimp only at hj⊢
  by_cases h:j<code.length
  ·have hmem:=w08 h
   have hins:=g9 _ hmem
   have hwi:=z0W (hwf.code _ hmem)
   have hop:=(hwf.code _ hmem).op
   have e1:nth w1 j= .agg [.int .u8 (insAt code j).op,.int .i64 (insAt code j).a,.int .i64 (insAt code j).b,.int .i64 (insAt code j).c]:=by
    have:IsInstr code[j] (nth w1 j):=q1.nth h
    rw[YA h] at this;exact this
   have hatv:=q1.at .i64 h
   have hsucc:=zd h q1.max
   have hcl2:=jp g9 hwf.code j (by omega)
   rw[YA h] at hins hwi hop
   have hc6:=z2e hins hwi
   simp only[go_sem,G3,G0,G1,G2,w03,h,hatv,e1,yz]
   refine(z4c (insAt code j) hop hwi hins _ (hlr y6)).xv fun yb ts nb hob=> ?_
   obtain⟨zs,hz,hcz⟩:=hob.elems
   obtain⟨y7,n7,l7,o7,l8,happ,hcl,hone,hsk,hW7⟩:=WrL.app (hW6.push ts) hz hcz (by simp only[w04];omega) nb
   have hW7:=WrL.cons o7 hW7
   simp only[go_sem,G0,G2,show((0:Int) !=0)=false from rfl,yz,hne,hget,happ,hcl,hone,hfl,hsub,hsk,VH,hsucc]
   refine⟨j+1,by omega,h,n7,y7,o7::l8,?_,rfl⟩
   rw[codes,←w0f];exact hW7
  ·have:j=code.length:=by omega
   subst this
   have c2:=q2.refs_cells
   have c3:=q3.refs_cells
   have hi0:evIaddr 1 (.list 1 .full [w2,w3]) (.int .i64 0)=some (.ro w2.cells):=rfl
   have hi1:evIaddr 1 (.list 1 .full [w2,w3]) (.int .i64 1)=some (.ro w3.cells):=rfl
   simp only[go_sem,G3,G0,G1,G2,w03,h,yz,c2,c3,q2.one,q3.one,evLen]
   rw[yg]
   simp only[go_sem,G0,G1,G2,l02,hi0,c2,yz,q1.len]
   refine(XW sizes w2 q2 code.length g12 (by omega) (by omega) hwf.sizes (by omega) _ (hlr y6)).xv fun yb ts nb hob=> ?_
   obtain⟨zs,hz,hcz⟩:=hob.elems
   obtain⟨y7,n7,l7,o7,l8,happ,hcl,hone,hsk,hW7⟩:=WrL.app (hW6.push ts) hz hcz (by simp only[w04];omega) nb
   have hW7:=WrL.cons o7 hW7
   simp only[go_sem,G0,G2,show((0:Int) !=0)=false from rfl,yz,hne,hget,happ,hcl,hone,hfl,hsub,hsk,VH,w01]
   rw[yg]
   simp only[go_sem,G0,G1,G2,l12,hi1,c3,yz,q1.len]
   refine(XW lives w3 q3 code.length g13 (by omega) (by omega) hwf.lives (by omega) _ (hlr y7)).xv fun yb2 ts2 nb2 hob2=> ?_
   obtain⟨zs2,hz2,hcz2⟩:=hob2.elems
   obtain⟨y8,n8,l9,o8,l10,happ2,hcl2,hone2,hsk2,hW8⟩:=WrL.app (hW7.push ts2) hz2 hcz2 (by simp only[w04];omega) nb2
   rw[yn] at happ2
   simp only[go_sem,G0,G2,show((0:Int) !=0)=false from rfl,yz,hne,hget,happ2,hcl2,hone2,hfl,hsub,hsk2,VH,w12]
   rw[yg]
   simp only[go_sem,G0,G1,G2,l22]
   rw[U5 hlv' rfl rfl nx live,z8]
   refine⟨y8,n8,l10,rfl,rfl,?_⟩
   subst hB
   unfold funB
   simp only[w0f] at hW8⊢
   exact hW8
def FineI (m:DImage):Prop:=CheckP m.types∧m.texts.length≤32∧1≤m.funcs.length∧m.funcs.length≤32∧FitsP m.types∧(∀t∈m.texts,t.length≤64)∧(∀f∈m.funcs,FuncP m.types.length f)∧(m.funcs.map DFunc.name).Nodup
theorem z4g (d:DImage) (x:AV) (hx:IsImage d x) (hw:WfImage d) (m:Mem) (hfl:m.floor≤m.stk.length+1):Okv tab kA [x] m (.bool (pb (FineI d))):=by
 refine zf z4s ?_
 obtain⟨stk,cur,nx,live,fl⟩:=m
 dsimp only at hfl
 have hfl':fl≤(stk++[cur]).length+1:=by simp;omega
 obtain⟨types,texts,funcs⟩:=d
 obtain⟨v0,v1,v2,rfl,h0,h1,h2⟩:=hx
 dsimp only at h0 h1 h2
 have hwt:WfTypes types:=hw.types
 have hC:=fun m=>(Zu types v0 h0 hwt m).eq
 have hl0:=h0.len
 have hl1:=h1.len
 have hl2:=h2.len
 simp only[XO,List.map,go_sem,G3,G0,G2,hC]
 by_cases hc:CheckP types
 case neg=>
  simp only[go_sem,G0,G2,Zn hc,show((8:Int) !=0)=true from rfl]
  rw[z6 rfl rfl,z8]
  exact⟨⟨_,rfl⟩,congrArg AV.bool (zg fun h'=>hc h'.1).symm⟩
 simp only[go_sem,G0,G2,QU hc,show((0:Int) !=0)=false from rfl,hl1]
 by_cases a2:texts.length≤32
 case neg=>
  simp only[go_sem,G0,G2,show(texts.length:Int)>32 by omega]
  rw[z6 rfl rfl,z8]
  exact⟨⟨_,rfl⟩,congrArg AV.bool (zg fun h'=>a2 h'.2.1).symm⟩
 simp only[go_sem,G0,G2,show¬(texts.length:Int)>32 by omega,hl2]
 by_cases a3:1≤funcs.length
 case neg=>
  simp only[go_sem,G0,G2,show((funcs.length:Int)==0)=true from beq_iff_eq.2 (by omega)]
  rw[z6 rfl rfl,z8]
  exact⟨⟨_,rfl⟩,congrArg AV.bool (zg fun h'=>a3 h'.2.2.1).symm⟩
 simp only[go_sem,G0,G2,show((funcs.length:Int)==0)=false from beq_eq_false_iff_ne.2 (by omega),hl2]
 by_cases a4:funcs.length≤32
 case neg=>
  simp only[go_sem,G0,G2,show(funcs.length:Int)>32 by omega]
  rw[z6 rfl rfl,z8]
  exact⟨⟨_,rfl⟩,congrArg AV.bool (zg fun h'=>a4 h'.2.2.2.1).symm⟩
 simp only[go_sem,G0,G2,show¬(funcs.length:Int)>32 by omega,hl0]
 refine zb (α:=Nat) (fun i σ=>(i≤types.length∧ ∀j,j<i→((exts 1000000 types).getD j (0,0)).1≤256)∧ ∃nz,heads [1,36,37] 1 σ=⟨tmps 85 [(1,.ptr (stk++[cur]).length 0 nx 0),(36,.int .i64 types.length),(37,.int .i64 i)],⟨stk++[cur],[⟨nx,[v0,v1,v2]⟩],nz,[]::live,fl⟩⟩) (fun i=>types.length-i) 0 ?_ ?_
 ·refine⟨⟨w0c _,fun j h=>absurd h (w38 _)⟩,?_⟩
  simp only[go_sem,G0,G1]
  exact⟨_,rfl⟩
 ·rintro i σ ⟨⟨hi,hs⟩,nz,hσ⟩
  rw[hσ]
  clear hσ σ
  dsimp only at hi hs⊢
  by_cases h:i<types.length
  ·obtain⟨ra,rb,hS⟩:=z2B types v0 h0 hwt hc i h ⟨stk++[cur],[⟨nx,[v0,v1,v2]⟩],nz,[]::live,fl⟩
   have hsucc:=zd h h0.max
   by_cases hz:((exts 1000000 types).getD i (0,0)).1≤256
   ·have hse:sizeErr types i=0:=by unfold sizeErr;rw[if_pos ((z6F hc.2.1 i).2 hz)]
    rw[hse] at hS
    simp only[go_sem,G0,G1,G2,w03,h,hS.eq,show((0:Int) !=0)=false from rfl,hsucc]
    refine⟨i+1,by omega,⟨h,fun j hj=> ?_⟩,_,rfl⟩
    rcases Nat.lt_succ_iff_lt_or_eq.1 hj with q|q
    ·exact hs j q
    ·exact q▸hz
   ·have hse:sizeErr types i=16:=by unfold sizeErr;rw[if_neg fun e=>hz ((z6F hc.2.1 i).1 e)]
    rw[hse] at hS
    simp only[go_sem,G0,G1,G2,w03,h,hS.eq,show((16:Int) !=0)=true from rfl]
    rw[z6 rfl rfl,z8]
    exact⟨⟨_,rfl⟩,congrArg AV.bool (zg fun h'=>hz (h'.2.2.2.2.1 i h)).symm⟩
  ·have:i=types.length:=by omega
   subst this
   have hfit:FitsP types:=hs
   simp only[go_sem,G0,G1,G2,w03,h,h1.len]
   refine zb (α:=Nat) (fun i σ=>(i≤texts.length∧ ∀t∈texts.take i,t.length≤64)∧ ∃nz,heads [1,52,53,54] 1 σ=⟨tmps 85 [(1,.ptr (stk++[cur]).length 0 nx 0),(52,v1),(53,.int .i64 texts.length),(54,.int .i64 i)],⟨stk++[cur],[⟨nx,[v0,v1,v2]⟩],nz,[]::live,fl⟩⟩) (fun i=>texts.length-i) 0 ?_ ?_
   ·refine⟨⟨w0c _,by simp⟩,?_⟩
    simp only[go_sem,G0,G1]
    exact⟨_,rfl⟩
   ·rintro i σ ⟨⟨hi,ht⟩,nz,hσ⟩
    rw[hσ]
    clear hσ σ
    dsimp only at hi ht⊢
    by_cases h:i<texts.length
    ·have e1:nth v1 i= .str texts[i]:=h1.nth h
     have hat:=h1.at .i64 h
     have hsucc:=zd h h1.max
     have hl1:=h1.len
     by_cases hf:texts[i].length≤64
     ·simp only[go_sem,G0,G1,G2,w03,h,hat,e1,show¬(texts[i].length:Int)>64 by omega,hsucc]
      exact⟨i+1,by omega,⟨h,zn (P:=fun t=>t.length≤64) h ht hf⟩,_,rfl⟩
     ·simp only[go_sem,G0,G1,G2,w03,h,hat,e1,show(texts[i].length:Int)>64 by omega]
      rw[z6 rfl rfl,z8]
      exact⟨⟨_,rfl⟩,congrArg AV.bool (zg fun h'=>hf (h'.2.2.2.2.2.1 _ (w08 h))).symm⟩
    ·have:i=texts.length:=by omega
     subst this
     rw[w09] at ht
     simp only[go_sem,G3,G0,G1,G2,w03,h,h2.len]
     refine zb (α:=Nat) (fun i σ=>(i≤funcs.length∧(∀f∈funcs.take i,FuncP types.length f)∧((funcs.map DFunc.name).take i).Nodup)∧ ∃nz',heads [1,9,64,65,66] 2 σ=⟨tmps 85 [(1,.ptr (stk++[cur]).length 0 nx 0),(9,.mapR (stk++[cur]).length 1 nz),(64,v2),(65,.int .i64 funcs.length),(66,.int .i64 i)],⟨stk++[cur],[⟨nx,[v0,v1,v2]⟩,⟨nz,[.tup (ents ((funcs.map DFunc.name).take i))]⟩],nz',[]::live,fl⟩⟩) (fun i=>funcs.length-i) 0 ?_ ?_
     ·refine⟨⟨w0c _,by simp,by simp⟩,?_⟩
      simp only[go_sem,G0,G1]
      exact⟨_,rfl⟩
     ·rintro i σ ⟨⟨hi,hfs,hnd⟩,nz',hσ⟩
      rw[hσ]
      clear hσ σ
      dsimp only at hi hfs hnd⊢
      have hml:(funcs.map DFunc.name).length=funcs.length:=by simp
      by_cases h:i<funcs.length
      ·have hfn:IsFunc funcs[i] (nth v2 i):=h2.nth h
       obtain⟨u0,u1,u2,u3,e1,k0,k1,k2,k3⟩:=hfn
       have hfn:IsFunc funcs[i] (nth v2 i):=h2.nth h
       rw[e1] at hfn
       have hat:=h2.at .i64 h
       have hsucc:=zd h h2.max
       simp only[go_sem,G3,G0,G1,G2,w03,h,hat,e1,k0.one,k1.one,k2.one,k3.one,Xz]
       by_cases hs:funcs[i].name∈(funcs.map DFunc.name).take i
       ·simp only[go_sem,G0,G2,zD hs]
        rw[z6 rfl rfl,z8]
        refine⟨⟨_,rfl⟩,congrArg AV.bool (zg fun h'=> ?_).symm⟩
        obtain⟨j,hj,he⟩:=List.mem_take_iff_getElem.1 hs
        exact Yl (l:=funcs.map DFunc.name) (i:=i) (k:=j) (by omega) (by rw[hml];exact h) (by rw[he];simp) h'.2.2.2.2.2.2.2
       have hcall:=fun c nz=>(Qr types v0 h0 funcs[i] _ hfn (hw.funcs _ (w08 h)) ⟨stk++[cur],c,nz,[]::live,fl⟩ hfl').eq
       simp only[go_sem,G3,G0,G2,zg hs,hcall]
       by_cases hf:FuncP types.length funcs[i]
       case neg=>
        simp only[go_sem,G0,G2,zg hf]
        rw[z6 rfl rfl,z8]
        exact⟨⟨_,rfl⟩,congrArg AV.bool (zg fun h'=>hf (h'.2.2.2.2.2.2.1 _ (w08 h))).symm⟩
       simp only[go_sem,G0,G2,zD hf,Xy _ _ hs,hsucc]
       have htk:=jw DFunc.name h
       rw[←htk]
       refine⟨i+1,by omega,⟨h,zn (P:=fun f=>FuncP types.length f) h hfs hf,?_⟩,_,rfl⟩
       exact kU (by rw[hml];exact h) hnd (fun y hy e=>hs (by rw[List.getElem_map] at e;exact e▸hy))
      ·have:i=funcs.length:=by omega
       subst this
       rw[w09] at hfs
       rw[←hml,w09] at hnd
       simp only[go_sem,G0,G1,G2,w03,h]
       rw[z6 rfl rfl,z8]
       exact⟨⟨_,rfl⟩,by rw[zD ⟨hc,a2,a3,a4,hfit,ht,hfs,hnd⟩]⟩
def txt (l:List (List UInt8)) (k:Nat):List UInt8:=l.getD k []
theorem TH {l:List (List UInt8)} {j:Nat} (h:j<l.length):l[j]=txt l j:=by simp[txt,w00,h]
def texB (l:List (List UInt8)):Nat→List UInt8
 |0=>minimal l.length
 |k+1=>texB l k++said (txt l k)
def fn0:DFunc:=⟨[],0,0,[],[],[],[]⟩
def fnAt (l:List DFunc) (k:Nat):DFunc:=l.getD k fn0
theorem z22 {l:List DFunc} {j:Nat} (h:j<l.length):l[j]=fnAt l j:=by simp[fnAt,w00,h]
def funs (l:List DFunc):Nat→List UInt8
 |0=>minimal l.length
 |k+1=>funs l k++funB (fnAt l k)
def codI (d:DImage):List UInt8:=typs d.types d.types.length++(texB d.texts d.texts.length++funs d.funcs d.funcs.length)
noncomputable def err09 (d:DImage):Int:=if pb (FineI d) then(if(codI d).length>20000 then 4 else 0) else 8
theorem Vm {l:List (List UInt8)} (h: ∀t∈l,t.length≤64) (hl:l.length≤32): ∀k,k≤l.length→(texB l k).length≤10+74*k
 |0,_=>zi (by omega)
 |k+1,hk=>by
  have ih:=Vm h hl k (by omega)
  have h1:=h _ (w08 (show k<l.length by omega))
  rw[TH (by omega)] at h1
  have:=ql (s:=txt l k) (by omega)
  simp only[texB,w04];omega
theorem zbL {n:Nat} {f:DFunc} (h:FuncP n f) (hn:n≤32) (hw:WfFunc f):(funB f).length≤15000:=by
 have hfo:=z1Z h hn
 obtain⟨⟨g1,g2,g3,g4,g5,g6,g7⟩,g8,g9,g10,g11,g12,g13⟩:=h
 have hnl:=Ym g1
 have m1:=ql (s:=f.name) (by omega)
 have m2:=zi (n:=f.params.toNat) (by omega)
 have m3:=zi (qD hw.result)
 have m4:=qY hfo f.slots.length (w0b _)
 have m5:=zi (n:=f.code.length) (by omega)
 have m6:=jp g9 hw.code f.code.length (w0b _)
 have r1:=jn g12 (by omega)
 have r2:=jn g13 (by omega)
 have m7:=tp g12 (by omega) hw.sizes (by omega) f.sizes.length (w0b _)
 have m8:=tp g13 (by omega) hw.lives (by omega) f.lives.length (w0b _)
 have hfo16:=hfo.1
 unfold funB
 simp only[w04];omega
theorem z1Y {n:Nat} {l:List DFunc} (h: ∀f∈l,FuncP n f) (hn:n≤32) (hw: ∀f∈l,WfFunc f) (hl:l.length≤32): ∀k,k≤l.length→(funs l k).length≤10+15000*k
 |0,_=>zi (by omega)
 |k+1,hk=>by
  have ih:=z1Y h hn hw hl k (by omega)
  have hm:=w08 (show k<l.length by omega)
  have:=zbL (h _ hm) hn (hw _ hm)
  rw[z22 (by omega)] at this
  simp only[funs,w04];omega
theorem z2m {S:List (List Blk)} {C:List Blk} {nz fl st:Nat} {e:List Nat} {live:List (List Nat)} {y:AV} {b:List UInt8} (hC:C[1]? =some ⟨st,[y]⟩) (hf:fl≤S.length) (ho:Own IsByte 1 y b e):At ⟨S,C,nz,e::live,fl⟩ S.length 1 st 0 y b live:=
 ⟨rfl,by simp[Mem.blk,Mem.row,hC],hf,[],e,rfl,rfl,ho⟩
theorem z11 (d:DImage) (x:AV) (hx:IsImage d x) (hw:WfImage d) (m:Mem) (hfl:m.floor≤m.stk.length+1):Okp IsByte 1 tab Ze [x] m (if err09 d=0 then codI d else []) (err09 d):=by
 refine z4H z1h ?_
 obtain⟨stk,cur,nx,live,fl⟩:=m
 dsimp only at hfl
 have hfl':fl≤(stk++[cur]).length+1:=by simp;omega
 have hfl0:fl≤(stk++[cur]).length:=by simp;omega
 have hx':=hx
 have hag:=hx.agg.1
 have hF:=fun c nz lv=>(z4g d x hx hw ⟨stk++[cur],c,nz,lv,fl⟩ hfl').eq
 obtain⟨types,texts,funcs⟩:=d
 obtain⟨v0,v1,v2,rfl,h0,h1,h2⟩:=hx'
 dsimp only at h0 h1 h2
 simp only[Za,List.map,go_sem,G3,G0,G2,hF]
 by_cases hfi:FineI ⟨types,texts,funcs⟩
 case neg=>
  have he:err09 ⟨types,texts,funcs⟩=8:=by unfold err09;rw[zg hfi];rfl
  simp only[go_sem,G0,G2,zg hfi]
  rw[he,if_neg (by decide)]
  exact YC (.nil _)
 simp only[go_sem,G0,G2,zD hfi]
 have he:err09 ⟨types,texts,funcs⟩=if(codI ⟨types,texts,funcs⟩).length>20000 then 4 else 0:=by unfold err09;rw[zD hfi];rfl
 obtain⟨hc,a2,a3,a4,a5,a6,a7,a8⟩:=hfi
 dsimp only at hc a2 a3 a4 a5 a6 a7 a8
 have m1:=Vk hc.2.1 hc.1 types.length (w0b _)
 have hcl:=hc.1
 generalize hz0:callNx tab kA [.agg [v0,v1,v2]] ⟨stk++[cur],[⟨nx,[v0,v1,v2]⟩],nx+1,[]::live,fl⟩=z0
 obtain⟨y1,n1,l1,hc1,hW1⟩:=zcv types v0 h0 hw.types hc.2.1 hcl _ (z2m (S:=stk++[cur]) (C:=[⟨nx,[v0,v1,v2]⟩,⟨z0,[.nils]⟩]) (nz:=z0+1) (e:=[]) (live:=live) (b:=[]) rfl hfl0 (.nil _)) (by simp)
 rw[Ya] at hc1
 obtain⟨e1,rfl,ho1⟩:=WrL.own hW1
 rw[w2e] at ho1
 obtain⟨y2,n2,l2,hc2,hW2⟩:=tf texts.length (by omega) _ (z2m (S:=stk++[cur]) (C:=[⟨nx,[v0,v1,v2]⟩,⟨z0,[y1]⟩]) (nz:=n1) (e:=e1) (live:=live) rfl hfl0 ho1) (by omega)
 rw[Ya] at hc2
 obtain⟨e2,rfl,ho2⟩:=WrL.own hW2
 simp only[w4d,w59] at hc1 hc2
 simp only[go_sem,G3,G0,G2,hc1,h1.len,hc2]
 refine zb (α:=Nat) (fun j σ=>j≤texts.length∧ ∃nz y e,Own IsByte 1 y (typs types types.length++texB texts j) e∧heads [1,4,21,22,23] 2 σ=⟨tmps 53 [(1,.ptr (stk++[cur]).length 0 nx 0),(4,.ptr (stk++[cur]).length 1 z0 0),(21,v1),(22,.int .i64 texts.length),(23,.int .i64 j)],⟨stk++[cur],[⟨nx,[v0,v1,v2]⟩,⟨z0,[y]⟩],nz,e::live,fl⟩⟩) (fun j=>texts.length-j) 0 ?_ ?_
 ·refine⟨w0c _,n2,y2,e2,ho2,?_⟩
  simp only[go_sem,G0,G1]
  rfl
 ·rintro j σ ⟨hj,nz,y,e,ho,hσ⟩
  rw[hσ]
  clear hσ σ
  dsimp only at hj⊢
  by_cases h:j<texts.length
  ·have ht:nth v1 j= .str (txt texts j):=by
    have:IsStr texts[j] (nth v1 j):=h1.nth h
    rw[TH h] at this;exact this
   have hatv:=h1.at .i64 h
   have hsucc:=zd h h1.max
   have htl:=Vm a6 a2 j (by omega)
   have hlt:=a6 _ (w08 h)
   rw[TH h] at hlt
   obtain⟨y3,n3,l3,hc3,hW3⟩:=z76 (txt texts j) (by omega) _ (z2m (S:=stk++[cur]) (C:=[⟨nx,[v0,v1,v2]⟩,⟨z0,[y]⟩]) (nz:=nz) (e:=e) (live:=live) rfl hfl0 ho) (by simp only[w04];omega)
   rw[Ya] at hc3
   obtain⟨e3,rfl,ho3⟩:=WrL.own hW3
   simp only[w4d,w59] at hc3
   simp only[go_sem,G0,G1,G2,w03,h,hatv,ht,hc3,hsucc]
   refine⟨j+1,by omega,h,n3,y3,e3,?_,rfl⟩
   rw[texB,←w0f];exact ho3
  ·have:j=texts.length:=by omega
   subst this
   have m2:=Vm a6 a2 texts.length (w0b _)
   obtain⟨y3,n3,l3,hc3,hW3⟩:=tf funcs.length (by omega) _ (z2m (S:=stk++[cur]) (C:=[⟨nx,[v0,v1,v2]⟩,⟨z0,[y]⟩]) (nz:=nz) (e:=e) (live:=live) rfl hfl0 ho) (by simp only[w04];omega)
   rw[Ya] at hc3
   obtain⟨e3,rfl,ho3⟩:=WrL.own hW3
   simp only[w4d,w59] at hc3
   simp only[go_sem,G3,G0,G1,G2,w03,h,h2.len,hc3]
   refine zb (α:=Nat) (fun j σ=>j≤funcs.length∧ ∃nz y e,Own IsByte 1 y (typs types types.length++texB texts texts.length++funs funcs j) e∧heads [4,35,36,37] 2 σ=⟨tmps 53 [(4,.ptr (stk++[cur]).length 1 z0 0),(35,v2),(36,.int .i64 funcs.length),(37,.int .i64 j)],⟨stk++[cur],[⟨nx,[v0,v1,v2]⟩,⟨z0,[y]⟩],nz,e::live,fl⟩⟩) (fun j=>funcs.length-j) 0 ?_ ?_
   ·refine⟨w0c _,n3,y3,e3,ho3,?_⟩
    simp only[go_sem,G0,G1]
    rfl
   ·rintro j σ ⟨hj,nz,y,e,ho,hσ⟩
    rw[hσ]
    clear hσ σ
    dsimp only at hj⊢
    by_cases h:j<funcs.length
    ·have hmem:=w08 h
     have hfp:=a7 _ hmem
     have hwf:=hw.funcs _ hmem
     have hfn:IsFunc funcs[j] (nth v2 j):=h2.nth h
     rw[z22 h] at hfp hwf hfn
     obtain⟨u0,u1,u2,u3,e5,k0,k1,k2,k3⟩:=hfn
     have hfn:IsFunc (fnAt funcs j) (nth v2 j):=⟨u0,u1,u2,u3,e5,k0,k1,k2,k3⟩
     rw[e5] at hfn
     have hatv:=h2.at .i64 h
     have hsucc:=zd h h2.max
     have hfl2:=z1Y a7 hcl hw.funcs a4 j (by omega)
     obtain⟨y4,n4,l4,hc4,hW4⟩:=z7a (fnAt funcs j) _ hfn hwf types.length hcl hfp _ (z2m (S:=stk++[cur]) (C:=[⟨nx,[v0,v1,v2]⟩,⟨z0,[y]⟩,⟨nz,[.str (fnAt funcs j).name,.int .i64 (fnAt funcs j).params,.int .i64 (fnAt funcs j).result,u0,u1,u2,u3]⟩]) (nz:=nz+1) (e:=e) (live:=live) rfl hfl0 ho) (by simp only[w04];omega)
     rw[Ya] at hc4
     obtain⟨e4,rfl,ho4⟩:=WrL.own hW4
     simp only[w4d,w59] at hc4
     simp only[go_sem,G3,G0,G1,G2,w03,h,hatv,e5,k0.one,k1.one,k2.one,k3.one,hc4,show((0:Int) !=0)=false from rfl,hsucc]
     refine⟨j+1,by omega,h,n4,y4,e4,?_,rfl⟩
     rw[funs,←w0f];exact ho4
    ·have:j=funcs.length:=by omega
     subst this
     have hcod:typs types types.length++texB texts texts.length++funs funcs funcs.length=codI ⟨types,texts,funcs⟩:=by unfold codI;rw[w0f]
     rw[hcod] at ho
     rw[he]
     by_cases hbig:(codI ⟨types,texts,funcs⟩).length>20000
     ·simp only[go_sem,G0,G1,G2,w03,h,ho.len,show((codI ⟨types,texts,funcs⟩).length:Int)>20000 by omega]
      rw[if_pos hbig,if_neg (by decide)]
      exact YC (.nil _)
     ·simp only[go_sem,G0,G1,G2,w03,h,ho.len,show¬((codI ⟨types,texts,funcs⟩).length:Int)>20000 by omega]
      rw[if_neg hbig,if_pos rfl]
      exact YC ho
theorem z2E (d:DImage) (x:AV) (hx:IsImage d x) (hw:WfImage d) (m:Mem) (hfl:m.floor≤m.stk.length+1):Okv tab jE [x] m (.int .i64 (err09 d)):=by
 refine zf z2P ?_
 obtain⟨stk,cur,nx,live,fl⟩:=m
 dsimp only at hfl
 have hfl':fl≤(stk++[cur]).length+1:=by simp;omega
 have hag:=hx.agg
 have hE:=fun c nz lv=>z11 d x hx hw ⟨stk++[cur],c,nz,lv,fl⟩ hfl'
 obtain⟨v0,v1,v2,rfl,_⟩:=hx
 simp only[Y2,List.map,go_sem,G3,G0,G2]
 refine(hE _ _ _).xv fun yb ts nb hob=> ?_
 simp only[go_sem,G0,G2]
 rw[z6 rfl rfl,z8]
 exact⟨⟨_,rfl⟩,rfl⟩
theorem z4b (d:DImage) (x:AV) (hx:IsImage d x) (hw:WfImage d) (m:Mem) (hfl:m.floor≤m.stk.length+1):Okv tab tM [x] m (.bool (pb (FineI d))):=by
 refine zf Vt ?_
 obtain⟨stk,cur,nx,live,fl⟩:=m
 dsimp only at hfl
 have hfl':fl≤(stk++[cur]).length+1:=by simp;omega
 obtain⟨types,texts,funcs⟩:=d
 obtain⟨v0,v1,v2,rfl,h0,h1,h2⟩:=hx
 dsimp only at h0 h1 h2
 have hwt:WfTypes types:=hw.types
 have hC:=fun m=>(W0 types v0 h0 hwt m).eq
 have hl0:=h0.len
 have hl1:=h1.len
 have hl2:=h2.len
 simp only[tA,List.map,go_sem,G3,G0,G2,hC]
 by_cases hc:CheckP types
 case neg=>
  simp only[go_sem,G0,G2,Zn hc,show((8:Int) !=0)=true from rfl]
  rw[z6 rfl rfl,z8]
  exact⟨⟨_,rfl⟩,congrArg AV.bool (zg fun h'=>hc h'.1).symm⟩
 simp only[go_sem,G0,G2,QU hc,show((0:Int) !=0)=false from rfl,hl1]
 by_cases a2:texts.length≤32
 case neg=>
  simp only[go_sem,G0,G2,show(texts.length:Int)>32 by omega]
  rw[z6 rfl rfl,z8]
  exact⟨⟨_,rfl⟩,congrArg AV.bool (zg fun h'=>a2 h'.2.1).symm⟩
 simp only[go_sem,G0,G2,show¬(texts.length:Int)>32 by omega,hl2]
 by_cases a3:1≤funcs.length
 case neg=>
  simp only[go_sem,G0,G2,show(funcs.length:Int)<1 by omega]
  rw[z6 rfl rfl,z8]
  exact⟨⟨_,rfl⟩,congrArg AV.bool (zg fun h'=>a3 h'.2.2.1).symm⟩
 simp only[go_sem,G0,G2,show¬(funcs.length:Int)<1 by omega,hl2]
 by_cases a4:funcs.length≤32
 case neg=>
  simp only[go_sem,G0,G2,show(funcs.length:Int)>32 by omega]
  rw[z6 rfl rfl,z8]
  exact⟨⟨_,rfl⟩,congrArg AV.bool (zg fun h'=>a4 h'.2.2.2.1).symm⟩
 have hel:(szs (exts 1000000 types)).length=types.length:=by
  have:=uk 1000000 types types.length (w0b _)
  rw[w09] at this;simpa [szs] using this
 have hel':(exts 1000000 types).length=types.length:=by simpa [szs] using hel
 have hcl:=hc.1
 obtain⟨y1,y2,ts,kz,hS,ho1,ho2⟩:=z8B types v0 h0 hc.2.1 (by omega) ⟨stk++[cur],[⟨nx,[v0,v1,v2]⟩],callNx tab xQ [v0] ⟨stk++[cur],[⟨nx,[v0,v1,v2]⟩],nx+1,[]::live,fl⟩,[]::live,fl⟩ hfl'
 simp only[go_sem,G0,G2,show¬(funcs.length:Int)>32 by omega,hS]
 refine zb (α:=Nat) (fun i σ=>(i≤types.length∧ ∀j,j<i→((exts 1000000 types).getD j (0,0)).1≤256)∧ ∃nz,heads [1,3,5] 1 σ=⟨tmps 96 [(1,.ptr (stk++[cur]).length 0 nx 0),(3,y1),(5,.int .i64 i)],⟨stk++[cur],[⟨nx,[v0,v1,v2]⟩],nz,ts::live,fl⟩⟩) (fun i=>types.length-i) 0 ?_ ?_
 ·refine⟨⟨w0c _,fun j h=>absurd h (w38 _)⟩,?_⟩
  simp only[go_sem,G0,G1]
  exact⟨_,rfl⟩
 ·rintro i σ ⟨⟨hi,hs⟩,nz,hσ⟩
  rw[hσ]
  clear hσ σ
  dsimp only at hi hs⊢
  by_cases h:i<types.length
  ·have hi1:i<(szs (exts 1000000 types)).length:=by rw[hel];exact h
   have e1:nth y1 i= .int .i64 ((szs (exts 1000000 types))[i]:Nat):=ho1.nth hi1
   rw[z4w (by omega)] at e1
   have hat:=ho1.at .i64 hi1
   have hsucc:=zd h h0.max
   by_cases hz:((exts 1000000 types).getD i (0,0)).1≤256
   ·simp only[go_sem,G0,G1,G2,w03,h,ho1.len,hel,hat,e1,show¬((((exts 1000000 types).getD i (0,0)).1:Nat):Int)>256 by omega,hsucc]
    refine⟨i+1,by omega,⟨h,fun j hj=> ?_⟩,_,rfl⟩
    rcases Nat.lt_succ_iff_lt_or_eq.1 hj with q|q
    ·exact hs j q
    ·exact q▸hz
   ·simp only[go_sem,G0,G1,G2,w03,h,ho1.len,hel,hat,e1,show((((exts 1000000 types).getD i (0,0)).1:Nat):Int)>256 by omega]
    rw[z6 rfl rfl,z8]
    exact⟨⟨_,rfl⟩,congrArg AV.bool (zg fun h'=>hz (h'.2.2.2.2.1 i h)).symm⟩
  ·have:i=types.length:=by omega
   subst this
   have hfit:FitsP types:=hs
   simp only[go_sem,G0,G1,G2,w03,h,ho1.len,hel]
   refine zb (α:=Nat) (fun i σ=>(i≤texts.length∧ ∀t∈texts.take i,t.length≤64)∧ ∃nz,heads [1,6] 1 σ=⟨tmps 96 [(1,.ptr (stk++[cur]).length 0 nx 0),(6,.int .i64 i)],⟨stk++[cur],[⟨nx,[v0,v1,v2]⟩],nz,ts::live,fl⟩⟩) (fun i=>texts.length-i) 0 ?_ ?_
   ·refine⟨⟨w0c _,by simp⟩,?_⟩
    simp only[go_sem,G0,G1]
    exact⟨_,rfl⟩
   ·rintro i σ ⟨⟨hi,ht⟩,nz,hσ⟩
    rw[hσ]
    clear hσ σ
    dsimp only at hi ht⊢
    by_cases h:i<texts.length
    ·have e1:nth v1 i= .str texts[i]:=h1.nth h
     have hat:=h1.at .i64 h
     have hsucc:=zd h h1.max
     have hl1:=h1.len
     by_cases hf:texts[i].length≤64
     ·simp only[go_sem,G0,G1,G2,w03,h,hl1,hat,e1,show¬(texts[i].length:Int)>64 by omega,hsucc]
      exact⟨i+1,by omega,⟨h,zn (P:=fun t=>t.length≤64) h ht hf⟩,_,rfl⟩
     ·simp only[go_sem,G0,G1,G2,w03,h,hl1,hat,e1,show(texts[i].length:Int)>64 by omega]
      rw[z6 rfl rfl,z8]
      exact⟨⟨_,rfl⟩,congrArg AV.bool (zg fun h'=>hf (h'.2.2.2.2.2.1 _ (w08 h))).symm⟩
    ·have:i=texts.length:=by omega
     subst this
     rw[w09] at ht
     simp only[go_sem,G0,G1,G2,w03,h,h1.len]
     refine zb (α:=Nat) (fun i σ=>(i≤funcs.length∧(∀f∈funcs.take i,FuncP types.length f)∧((funcs.map DFunc.name).take i).Nodup)∧ ∃nz',heads [1,7] 1 σ=⟨tmps 96 [(1,.ptr (stk++[cur]).length 0 nx 0),(7,.int .i64 i)],⟨stk++[cur],[⟨nx,[v0,v1,v2]⟩],nz',ts::live,fl⟩⟩) (fun i=>funcs.length-i) 0 ?_ ?_
     ·refine⟨⟨w0c _,by simp,by simp⟩,?_⟩
      simp only[go_sem,G0,G1]
      exact⟨_,rfl⟩
     ·rintro i σ ⟨⟨hi,hfs,hnd⟩,nz',hσ⟩
      rw[hσ]
      clear hσ σ
      dsimp only at hi hfs hnd⊢
      have hml:(funcs.map DFunc.name).length=funcs.length:=by simp
      by_cases h:i<funcs.length
      ·have hfn:IsFunc funcs[i] (nth v2 i):=h2.nth h
       have hag:=hfn.agg.1
       have hat:=h2.at .i64 h
       have hsucc:=zd h h2.max
       have hcall:=fun m=>(Qp types v0 h0 funcs[i] _ hfn (hw.funcs _ (w08 h)) m).eq
       simp only[go_sem,G0,G1,G2,w03,h,h2.len,hat,hag,hcall]
       by_cases hf:FuncP types.length funcs[i]
       case neg=>
        simp only[go_sem,G0,G2,zg hf]
        rw[z6 rfl rfl,z8]
        exact⟨⟨_,rfl⟩,congrArg AV.bool (zg fun h'=>hf (h'.2.2.2.2.2.2.1 _ (w08 h))).symm⟩
       simp only[go_sem,zD hf]
       refine zb (α:=Nat) (fun k σ=>(k≤i∧ ∀c∈(funcs.map DFunc.name).take k,c≠funcs[i].name)∧ ∃nz',heads [1,7,8] 1 σ=⟨tmps 96 [(1,.ptr (stk++[cur]).length 0 nx 0),(7,.int .i64 i),(8,.int .i64 k)],⟨stk++[cur],[⟨nx,[v0,v1,v2]⟩],nz',ts::live,fl⟩⟩) (fun k=>i-k) 0 ?_ ?_
       ·refine⟨⟨w0c _,by simp⟩,?_⟩
        simp only[go_sem,G0,G1]
        exact⟨_,rfl⟩
       ·rintro k σ ⟨⟨hk,hks⟩,nz',hσ⟩
        rw[hσ]
        clear hσ σ
        dsimp only at hk hks⊢
        by_cases hki:k<i
        ·have hkl:k<funcs.length:=by omega
         obtain⟨x0,x1,x2,x3,e1,_⟩:=h2.nth h
         obtain⟨y0,y1,y2,y3,e2,_⟩:=h2.nth hkl
         have hat2:=h2.at .i64 hkl
         simp only[go_sem,G0,G1,G2,w03,hki,hat2,e2,hat,e1,evStr]
         by_cases hq:funcs[k].name=funcs[i].name
         ·have hq':(funcs[k].name==funcs[i].name)=true:=by simp[hq]
          simp only[go_sem,G0,G2,hq']
          rw[z6 rfl rfl,z8]
          exact⟨⟨_,rfl⟩,congrArg AV.bool (zg fun h'=>Yl (l:=funcs.map DFunc.name) hki (by rw[hml];exact h) (by simpa using hq) h'.2.2.2.2.2.2.2).symm⟩
         ·have hq':(funcs[k].name==funcs[i].name)=false:=by simpa using hq
          simp only[go_sem,G0,G2,hq',zd hkl h2.max]
          exact⟨k+1,by omega,⟨hki,zn (P:=fun c=>c≠funcs[i].name) (by rw[hml];exact hkl) hks (by simpa using hq)⟩,_,rfl⟩
        ·have:k=i:=by omega
         subst this
         simp only[go_sem,G0,G1,G2,w03,hki,hsucc]
         refine⟨k+1,by omega,⟨h,zn (P:=fun f=>FuncP types.length f) h hfs hf,?_⟩,_,rfl⟩
         exact kU (by rw[hml];exact h) hnd (by simpa using hks)
      ·have:i=funcs.length:=by omega
       subst this
       rw[w09] at hfs
       rw[←hml,w09] at hnd
       simp only[go_sem,G0,G1,G2,w03,h,h2.len]
       rw[z6 rfl rfl,z8]
       exact⟨⟨_,rfl⟩,by rw[zD ⟨hc,a2,a3,a4,hfit,ht,hfs,hnd⟩]⟩
theorem ZH {α:Type} {R:α→AV→Prop} {s:Nat} {y:AV} {xs cs:List α} {e:List Nat} {rest:List (List Nat)} {z:AV} {zs:List AV} {bytes:Nat} {stk:List (List Blk)} {cur:List Blk} {nx fl fl0:Nat} {m0 mm:Mem} {ws:Watch} {d:Option Nat} {l:List AOper} {ρ:List AV} {k:Kont}
  (h:Own R s y xs e) (hz: ∀m:Mem,m.elems s z=some zs) (hc:All2 R cs zs) (hl:(xs.length+cs.length)*bytes≤140737488355328)
  (q: ∀y' n e',Own R s y' (xs++cs) e'→Xd tab fl0 m0 ws l (setDst ρ d y') ⟨stk,cur,n,e'::rest,fl⟩ k):Xw tab (evApp ⟨stk,cur,nx,e::rest,fl⟩ s bytes y z) 2 fl0 m0 ws d l ρ mm k:=by
 obtain⟨y',n,live',h1,h2⟩:=(h.wr rest).app hz hc hl stk cur nx fl
 obtain⟨e',rfl,h3⟩:=h2.own
 rw[h1,zdG];exact q y' n e' h3
theorem Vd (l:List DField) (v:AV) (hv:IsSl IsField 2 l v) (hf:FOk l) (m:Mem):Okl IsByte 1 tab xk [v] m (flds l l.length):=by
 refine qy YU ?_
 obtain⟨stk,cur,nx,live,fl⟩:=m
 have hvl:=hv.len
 have h16:=hf.1
 simp only[vZ,List.map,go_sem,G0,G2,hvl]
 refine(zt l.length (by omega) _).xv fun y ts k ho=> ?_
 simp only[go_sem,G0,G2]
 refine zb (α:=Nat) (fun j σ=>j≤l.length∧ ∃nz y e,Own IsByte 1 y (flds l j) e∧heads [0,3,4] 0 σ=⟨tmps 30 [(0,v),(3,y),(4,.int .i64 j)],⟨stk++[cur],[],nz,e::live,fl⟩⟩) (fun j=>l.length-j) 0 ?_ ?_
 ·refine⟨w0c _,k,y,_,ho,?_⟩
  simp only[go_sem,G0,G1]
  rfl
 ·rintro j σ ⟨hj,nz,y,e,ho,hσ⟩
  rw[hσ]
  clear hσ σ
  dsimp only at hj⊢
  by_cases h:j<l.length
  ·have e1:nth v j= .agg [.str (fldAt l j).name,.int .i64 (fldAt l j).typ]:=by
    have:IsField l[j] (nth v j):=hv.nth h
    rw[QS h] at this;exact this
   have hatv:=hv.at .i64 h
   have hsucc:=zd h hv.max
   obtain⟨h1,h2,h3⟩:=hf.at h
   have hfl2:=qY hf j (by omega)
   have m1:=ql (s:=(fldAt l j).name) (by omega)
   have m2:=zi (n:=(fldAt l j).typ.toNat) (by omega)
   have et:(fldAt l j).typ=(((fldAt l j).typ.toNat:Nat):Int):=by omega
   simp only[go_sem,G0,G1,G2,w03,h,hvl,hatv,e1]
   refine qv (te (fldAt l j).name (by omega) _) fun y1 t1 k1 ho1=> ?_
   simp only[go_sem,G0,G2]
   obtain⟨z1,hz1,hc1⟩:=ho1.elems
   refine ZH (ho.push t1) hz1 hc1 (by omega) fun y2 k2 e2 ho2=> ?_
   simp only[go_sem,G0,G2,hatv,e1]
   rw[et]
   refine qv (zt (fldAt l j).typ.toNat (by omega) _) fun y3 t3 k3 ho3=> ?_
   simp only[go_sem,G0,G2]
   obtain⟨z3,hz3,hc3⟩:=ho3.elems
   refine ZH (ho2.push t3) hz3 hc3 (by simp only[w04];omega) fun y4 k4 e4 ho4=> ?_
   simp only[go_sem,G0,G2,hsucc]
   refine⟨j+1,by omega,h,k4,y4,e4,?_,rfl⟩
   rw[flds,←w0f];exact ho4
  ·have:j=l.length:=by omega
   subst this
   simp only[go_sem,G0,G1,G2,w03,h,hvl]
   exact vz ho
theorem UY (d:DImage) (x:AV) (hx:IsImage d x) (hw:WfImage d) (hfi:FineI d) (m:Mem):Okl IsByte 1 tab xJ [x] m (codI d):=by
 refine qy W8 ?_
 obtain⟨stk,cur,nx,live,fl⟩:=m
 obtain⟨types,texts,funcs⟩:=d
 obtain⟨v0,v1,v2,rfl,h0,h1,h2⟩:=hx
 dsimp only at h0 h1 h2
 obtain⟨hc,a2,a3,a4,a5,a6,a7,a8⟩:=hfi
 dsimp only at hc a2 a3 a4 a5 a6 a7 a8
 have hcl:=hc.1
 simp only[uy,List.map,go_sem,G3,G0,G2,h0.len]
 refine(zt types.length (by omega) _).xv fun y ts k ho=> ?_
 simp only[go_sem,G0,G2]
 refine zb (α:=Nat) (fun j σ=>j≤types.length∧ ∃nz y e,Own IsByte 1 y (typs types j) e∧heads [1,3,4] 1 σ=⟨tmps 148 [(1,.ptr (stk++[cur]).length 0 nx 0),(3,y),(4,.int .i64 j)],⟨stk++[cur],[⟨nx,[v0,v1,v2]⟩],nz,e::live,fl⟩⟩) (fun j=>types.length-j) 0 ?_ ?_
 ·refine⟨w0c _,k,y,_,ho,?_⟩
  simp only[go_sem,G0,G1]
  rfl
 ·rintro j σ ⟨hj,nz,y,e,ho,hσ⟩
  rw[hσ]
  clear hσ σ
  dsimp only at hj⊢
  by_cases h:j<types.length
  ·skip
   have hfine:=hc.2.1 j h
   have hkind:=(hw.types _ (w08 h)).kind
   obtain⟨u,e1,q1⟩:=h0.nth h
   have hatv:=h0.at .i64 h
   have hsucc:=zd h h0.max
   have htl:=Vk hc.2.1 hcl j (by omega)
   rw[Qv h] at hfine hkind e1 q1
   have hflen:=to hfine
   have hfo:=z24 hfine (by omega)
   generalize htt:typAt types j=t at*
   obtain⟨kind,elem,len,fields⟩:=t
   dsimp only at e1 q1 hflen hkind hfo
   simp only[go_sem,G3,G0,G1,G2,w03,h,h0.len,hatv,e1,q1.one]
   refine ho.xv (zh · 1 .full [.int .u8 kind]) (zJ (z0i hkind)) (by simp only[w29,w34];omega) fun y1 k1 e2 ho1=> ?_
   simp only[go_sem,G0,G2]
   by_cases k47:kind=4∨kind=7
   ·have hel:=hflen.2.2.1 k47
    have m4:=zi (n:=elem.toNat) (by omega)
    have et:elem=((elem.toNat:Nat):Int):=by omega
    by_cases k4:kind=4
    ·have k4':(kind==4)=true:=by simpa using k4
     simp only[go_sem,G0,G2,k4']
     rw[et]
     refine(zt elem.toNat (by omega) _).xv fun y2 t2 k2 ho2=> ?_
     simp only[go_sem,G0,G2]
     obtain⟨z2,hz2,hc2⟩:=ho2.elems
     refine(ho1.push t2).xv hz2 hc2 (by simp only[w04,w29,w34];omega) fun y3 k3 e3 ho3=> ?_
     simp only[go_sem,G0,G2,hsucc]
     have hT:typB ⟨kind,elem,len,fields⟩=minimal elem.toNat:=by
      unfold typB
      rw[if_pos k47]
     refine⟨j+1,by omega,h,k3,y3,e3,?_,rfl⟩
     have hbb:typs types (j+1)=typs types j++([UInt8.ofNat kind.toNat]++minimal elem.toNat):=by rw[typs,htt,hT]
     rw[hbb]
     have hWW:=ho3
     simp only[w0f] at hWW⊢
     exact hWW
    ·have k4':(kind==4)=false:=by simpa using k4
     have k7':(kind==7)=true:=by simp;omega
     simp only[go_sem,G0,G2,k4',k7']
     rw[et]
     refine(zt elem.toNat (by omega) _).xv fun y2 t2 k2 ho2=> ?_
     simp only[go_sem,G0,G2]
     obtain⟨z2,hz2,hc2⟩:=ho2.elems
     refine(ho1.push t2).xv hz2 hc2 (by simp only[w04,w29,w34];omega) fun y3 k3 e3 ho3=> ?_
     simp only[go_sem,G0,G2,hsucc]
     have hT:typB ⟨kind,elem,len,fields⟩=minimal elem.toNat:=by
      unfold typB
      rw[if_pos k47]
     refine⟨j+1,by omega,h,k3,y3,e3,?_,rfl⟩
     have hbb:typs types (j+1)=typs types j++([UInt8.ofNat kind.toNat]++minimal elem.toNat):=by rw[typs,htt,hT]
     rw[hbb]
     have hWW:=ho3
     simp only[w0f] at hWW⊢
     exact hWW
   ·have k4':(kind==4)=false:=by simp;omega
    have k7':(kind==7)=false:=by simp;omega
    by_cases k6:kind=6
    ·have k6':(kind==6)=true:=by simpa using k6
     have e6:=hflen.2.2.2.1 k6
     have e7:=hflen.2.1 k6
     have m6:=zi (n:=elem.toNat) (by omega)
     have m7:=zi (n:=len.toNat) (by omega)
     have et:elem=((elem.toNat:Nat):Int):=by omega
     have el:len=((len.toNat:Nat):Int):=by omega
     simp only[go_sem,G0,G2,k4',k7',k6']
     rw[et]
     refine qv (zt elem.toNat (by omega) _) fun y2 t2 k2 ho2=> ?_
     simp only[go_sem,G0,G2]
     obtain⟨z2,hz2,hc2⟩:=ho2.elems
     refine ZH (ho1.push t2) hz2 hc2 (by simp only[w04,w29,w34];omega) fun y3 k3 e3 ho3=> ?_
     simp only[go_sem,G0,G2]
     rw[el]
     refine qv (zt len.toNat (by omega) _) fun y4 t4 k4' ho4=> ?_
     simp only[go_sem,G0,G2]
     obtain⟨z4,hz4,hc4⟩:=ho4.elems
     refine ZH (ho3.push t4) hz4 hc4 (by simp only[w04,w29,w34];omega) fun y5 k5 e5 ho5=> ?_
     simp only[go_sem,G0,G2,hsucc]
     have hT:typB ⟨kind,elem,len,fields⟩=(minimal elem.toNat++minimal len.toNat):=by
      unfold typB
      rw[if_neg k47,if_pos k6]
     refine⟨j+1,by omega,h,k5,y5,e5,?_,rfl⟩
     have hbb:typs types (j+1)=typs types j++([UInt8.ofNat kind.toNat]++(minimal elem.toNat++minimal len.toNat)):=by rw[typs,htt,hT]
     rw[hbb]
     have hWW:=ho5
     simp only[w0f] at hWW⊢
     exact hWW
    ·have k6':(kind==6)=false:=by simpa using k6
     by_cases k5:kind=5
     ·have k5':(kind==5)=true:=by simpa using k5
      have m5:=qY (hfo k5) fields.length (w0b _)
      simp only[go_sem,G0,G2,k4',k7',k6',k5']
      refine(Vd fields u q1 (hfo k5) _).xv fun y2 t2 k2 ho2=> ?_
      simp only[go_sem,G0,G2]
      obtain⟨z2,hz2,hc2⟩:=ho2.elems
      refine(ho1.push t2).xv hz2 hc2 (by simp only[w04,w29,w34];omega) fun y3 k3 e3 ho3=> ?_
      simp only[go_sem,G0,G2,hsucc]
      have hT:typB ⟨kind,elem,len,fields⟩=flds fields fields.length:=by
       unfold typB
       rw[if_neg k47,if_neg k6,if_pos k5]
      refine⟨j+1,by omega,h,k3,y3,e3,?_,rfl⟩
      have hbb:typs types (j+1)=typs types j++([UInt8.ofNat kind.toNat]++flds fields fields.length):=by rw[typs,htt,hT]
      rw[hbb]
      have hWW:=ho3
      simp only[w0f] at hWW⊢
      exact hWW
     ·have k5':(kind==5)=false:=by simpa using k5
      simp only[go_sem,G0,G2,k4',k7',k6',k5',hsucc]
      have hT:typB ⟨kind,elem,len,fields⟩=[]:=by
       unfold typB
       rw[if_neg k47,if_neg k6,if_neg k5]
      refine⟨j+1,by omega,h,k1,y1,e2,?_,rfl⟩
      have hbb:typs types (j+1)=typs types j++([UInt8.ofNat kind.toNat]++[]):=by rw[typs,htt,hT]
      rw[hbb]
      have hWW:=ho1
      simp only[w1a] at hWW⊢
      exact hWW
  ·have:j=types.length:=by omega
   subst this
   have mt:=Vk hc.2.1 hcl types.length (w0b _)
   have mn:=zi (n:=texts.length) (by omega)
   simp only[go_sem,G0,G1,G2,w03,h,h0.len,h1.len]
   refine(zt texts.length (by omega) _).xv fun y1 t1 k1 ho1=> ?_
   simp only[go_sem,G0,G2]
   obtain⟨z1,hz1,hc1⟩:=ho1.elems
   refine(ho.push t1).xv hz1 hc1 (by omega) fun y2 k2 e2 ho2=> ?_
   simp only[go_sem,G0,G2]
   refine zb (α:=Nat) (fun j σ=>j≤texts.length∧ ∃nz y e,Own IsByte 1 y (typs types types.length++texB texts j) e∧heads [1,3,6] 1 σ=⟨tmps 148 [(1,.ptr (stk++[cur]).length 0 nx 0),(3,y),(6,.int .i64 j)],⟨stk++[cur],[⟨nx,[v0,v1,v2]⟩],nz,e::live,fl⟩⟩) (fun j=>texts.length-j) 0 ?_ ?_
   ·refine⟨w0c _,k2,y2,e2,ho2,?_⟩
    simp only[go_sem,G0,G1]
    rfl
   ·rintro j σ ⟨hj,nz,y,e,ho,hσ⟩
    rw[hσ]
    clear hσ σ
    dsimp only at hj⊢
    by_cases h:j<texts.length
    ·have ht:nth v1 j= .str (txt texts j):=by
      have:IsStr texts[j] (nth v1 j):=h1.nth h
      rw[TH h] at this;exact this
     have hatv:=h1.at .i64 h
     have hsucc:=zd h h1.max
     have htl:=Vm a6 a2 j (by omega)
     have hlt:=a6 _ (w08 h)
     rw[TH h] at hlt
     have m1:=ql (s:=txt texts j) (by omega)
     simp only[go_sem,G0,G1,G2,w03,h,h1.len,hatv,ht]
     refine(te (txt texts j) (by omega) _).xv fun y3 t3 k3 ho3=> ?_
     simp only[go_sem,G0,G2]
     obtain⟨z3,hz3,hc3⟩:=ho3.elems
     refine(ho.push t3).xv hz3 hc3 (by simp only[w04];omega) fun y4 k4 e4 ho4=> ?_
     simp only[go_sem,G0,G2,hsucc]
     refine⟨j+1,by omega,h,k4,y4,e4,?_,rfl⟩
     rw[texB,←w0f];exact ho4
    ·have:j=texts.length:=by omega
     subst this
     have mx:=Vm a6 a2 texts.length (w0b _)
     have mn2:=zi (n:=funcs.length) (by omega)
     simp only[go_sem,G0,G1,G2,w03,h,h1.len,h2.len]
     refine(zt funcs.length (by omega) _).xv fun y3 t3 k3 ho3=> ?_
     simp only[go_sem,G0,G2]
     obtain⟨z3,hz3,hc3⟩:=ho3.elems
     refine(ho.push t3).xv hz3 hc3 (by simp only[w04];omega) fun y4 k4 e4 ho4=> ?_
     simp only[go_sem,G0,G2]
     refine zb (α:=Nat) (fun j σ=>j≤funcs.length∧ ∃nz y e,Own IsByte 1 y (typs types types.length++texB texts texts.length++funs funcs j) e∧heads [1,3,7] 1 σ=⟨tmps 148 [(1,.ptr (stk++[cur]).length 0 nx 0),(3,y),(7,.int .i64 j)],⟨stk++[cur],[⟨nx,[v0,v1,v2]⟩],nz,e::live,fl⟩⟩) (fun j=>funcs.length-j) 0 ?_ ?_
     ·refine⟨w0c _,k4,y4,e4,ho4,?_⟩
      simp only[go_sem,G0,G1]
      rfl
     ·rintro j σ ⟨hj,nz,y,e,ho,hσ⟩
      rw[hσ]
      clear hσ σ
      dsimp only at hj⊢
      by_cases h:j<funcs.length
      ·skip
       have hmem:=w08 h
       have hfp:=a7 _ hmem
       have hwf:=hw.funcs _ hmem
       have hfn:IsFunc funcs[j] (nth v2 j):=h2.nth h
       rw[z22 h] at hfp hwf hfn
       have hfo:=z1Z hfp hcl
       have hfun:=z1Y a7 hcl hw.funcs a4 j (by omega)
       have hatv:=h2.at .i64 h
       have hsucc:=zd h h2.max
       generalize hff:fnAt funcs j=f at*
       obtain⟨name,params,result,slots,code,sizes,lives⟩:=f
       obtain⟨w0,w1,w2,w3,e1,q0,q1,q2,q3⟩:=hfn
       obtain⟨⟨g1,g2,g3,g4,g5,g6,g7⟩,g8,g9,g10,g11,g12,g13⟩:=hfp
       dsimp only at e1 q0 q1 q2 q3 g1 g2 g3 g4 g5 g6 g7 g8 g9 g10 g11 g12 g13 hfo
       have hnl:=Ym g1
       have hres:in64 result:=hwf.result
       have m1:=ql (s:=name) (by omega)
       have m2:=zi (n:=params.toNat) (by omega)
       have m3:=zi (qD hres)
       have m4:=qY hfo slots.length (w0b _)
       have m5:=zi (n:=code.length) (by omega)
       have m6:=jp g9 hwf.code code.length (w0b _)
       have r1:=jn g12 (by omega)
       have r2:=jn g13 (by omega)
       have m7:=tp g12 (by omega) hwf.sizes (by omega) sizes.length (w0b _)
       have m8:=tp g13 (by omega) hwf.lives (by omega) lives.length (w0b _)
       have hfo16:=hfo.1
       have ep:params=((params.toNat:Nat):Int):=by omega
       simp only[go_sem,G3,G0,G1,G2,w03,h,h2.len,hatv,e1,q0.one,q1.one,q2.one,q3.one]
       refine qv (te name (by omega) _) fun y1 t1 k1 ho1=> ?_
       simp only[go_sem,G0,G2]
       obtain⟨z1,hz1,hc1⟩:=ho1.elems
       refine ZH (ho.push t1) hz1 hc1 (by simp only[w04];omega) fun y2 k2 e2 ho2=> ?_
       simp only[go_sem,G0,G2]
       rw[ep]
       refine qv (zt params.toNat (by omega) _) fun y3 t3 k3 ho3=> ?_
       simp only[go_sem,G0,G2]
       obtain⟨z3,hz3,hc3⟩:=ho3.elems
       refine ZH (ho2.push t3) hz3 hc3 (by simp only[w04];omega) fun y4 k4 e4 ho4=> ?_
       simp only[go_sem,G0,G2,(qS result hres _).eq]
       refine(zF _ (qD hres) _).xv fun y5 t5 k5 ho5=> ?_
       simp only[go_sem,G0,G2]
       obtain⟨z5,hz5,hc5⟩:=ho5.elems
       refine(ho4.push t5).xv hz5 hc5 (by simp only[w04];omega) fun y6 k6 e6 ho6=> ?_
       simp only[go_sem,G0,G2]
       refine qv (Vd slots w0 q0 hfo _) fun y7 t7 k7 ho7=> ?_
       simp only[go_sem,G0,G2]
       obtain⟨z7,hz7,hc7⟩:=ho7.elems
       refine ZH (ho6.push t7) hz7 hc7 (by simp only[w04];omega) fun y8 k8 e8 ho8=> ?_
       simp only[go_sem,G0,G2,q1.len]
       refine qv (zt code.length (by omega) _) fun y9 t9 k9 ho9=> ?_
       simp only[go_sem,G0,G2]
       obtain⟨z9,hz9,hc9⟩:=ho9.elems
       refine ZH (ho8.push t9) hz9 hc9 (by simp only[w04];omega) fun y10 k10 e10 ho10=> ?_
       simp only[go_sem,G3,G0,G2]
       have hbl:(typs types types.length++texB texts texts.length++funs funcs j++said name++minimal params.toNat++minimal (zigzag result)++flds slots slots.length++minimal code.length).length≤800000:=by simp only[w04];omega
       generalize hB:typs types types.length++texB texts texts.length++funs funcs j++said name++minimal params.toNat++minimal (zigzag result)++flds slots slots.length++minimal code.length=B at*
       refine zb (α:=Nat) (fun q σ=>q≤code.length∧ ∃nz' y e,Own IsByte 1 y (B++codes code q) e∧heads [1,3,7,8,9] 2 σ=⟨tmps 148 [(1,.ptr (stk++[cur]).length 0 nx 0),(3,y),(7,.int .i64 j),(8,.ptr (stk++[cur]).length 1 nz 0),(9,.int .i64 q)],⟨stk++[cur],[⟨nx,[v0,v1,v2]⟩,⟨nz,[.str name,.int .i64 ((params.toNat:Nat):Int),.int .i64 result,w0,w1,w2,w3]⟩],nz',e::live,fl⟩⟩) (fun q=>code.length-q) 0 ?_ ?_
       ·refine⟨w0c _,k10,y10,e10,by simpa [codes] using ho10,?_⟩
        simp only[go_sem,G0,G1]
        rfl
       ·rintro q σ ⟨hq,nz',y11,e11,ho11,hσ⟩
        rw[hσ]
        clear hσ σ
        dsimp only at hq⊢
        by_cases hqc:q<code.length
        ·have hmem2:=w08 hqc
         have hins:=g9 _ hmem2
         have hwi:=z0W (hwf.code _ hmem2)
         have hop:=(hwf.code _ hmem2).op
         have ei:nth w1 q= .agg [.int .u8 (insAt code q).op,.int .i64 (insAt code q).a,.int .i64 (insAt code q).b,.int .i64 (insAt code q).c]:=by
          have:IsInstr code[q] (nth w1 q):=q1.nth hqc
          rw[YA hqc] at this;exact this
         have hati:=q1.at .i64 hqc
         have hsq:=zd hqc q1.max
         have hcl2:=jp g9 hwf.code q (by omega)
         rw[YA hqc] at hins hwi hop
         have hc6:=z2e hins hwi
         simp only[go_sem,G3,G0,G1,G2,w03,hqc,q1.len,hati,ei]
         refine(z2A (insAt code q) hop hwi hins _).xv fun y12 t12 k12 ho12=> ?_
         simp only[go_sem,G0,G2]
         obtain⟨z12,hz12,hc12⟩:=ho12.elems
         refine(ho11.push t12).xv hz12 hc12 (by simp only[w04];omega) fun y13 k13 e13 ho13=> ?_
         simp only[go_sem,G0,G2,hsq]
         refine⟨q+1,by omega,hqc,k13,y13,e13,?_,rfl⟩
         rw[codes,←w0f];exact ho13
        ·have:q=code.length:=by omega
         subst this
         simp only[go_sem,G0,G1,G2,w03,hqc,q1.len]
         refine qv (UZ sizes w2 q2 code.length g12 (by omega) hwf.sizes (by omega) _) fun y12 t12 k12 ho12=> ?_
         simp only[go_sem,G0,G2]
         obtain⟨z12,hz12,hc12⟩:=ho12.elems
         refine ZH (ho11.push t12) hz12 hc12 (by simp only[w04];omega) fun y13 k13 e13 ho13=> ?_
         simp only[go_sem,G0,G2]
         refine qv (UZ lives w3 q3 code.length g13 (by omega) hwf.lives (by omega) _) fun y14 t14 k14 ho14=> ?_
         simp only[go_sem,G0,G2]
         obtain⟨z14,hz14,hc14⟩:=ho14.elems
         refine ZH (ho13.push t14) hz14 hc14 (by simp only[w04];omega) fun y15 k15 e15 ho15=> ?_
         simp only[go_sem,G0,G2,hsucc]
         refine⟨j+1,by omega,h,k15,y15,e15,?_,rfl⟩
         subst hB
         rw[funs,hff]
         unfold funB
         simp only[w0f] at ho15⊢
         exact ho15
      ·have:j=funcs.length:=by omega
       subst this
       have hcod:typs types types.length++texB texts texts.length++funs funcs funcs.length=codI ⟨types,texts,funcs⟩:=by unfold codI;rw[w0f]
       rw[hcod] at ho
       simp only[go_sem,G0,G1,G2,w03,h,h2.len]
       exact vz ho
theorem z2y (d:DImage) (x:AV) (hx:IsImage d x) (hw:WfImage d) (m:Mem) (hfl:m.floor≤m.stk.length+1):Okv tab xK [x] m (.int .i64 (err09 d)):=by
 refine zf W9 ?_
 obtain⟨stk,cur,nx,live,fl⟩:=m
 dsimp only at hfl
 have hfl':fl≤(stk++[cur]).length+1:=by simp;omega
 have hF:=fun c nz lv=>(z4b d x hx hw ⟨stk++[cur],c,nz,lv,fl⟩ hfl').eq
 by_cases hfi:FineI d
 case neg=>
  have he:err09 d=8:=by unfold err09;rw[zg hfi];rfl
  obtain⟨v0,v1,v2,rfl,_⟩:=hx
  simp only[xG,List.map,go_sem,G3,G0,G2,hF,zg hfi]
  rw[z6 rfl rfl,z8]
  exact⟨⟨_,rfl⟩,by rw[he]⟩
 have he:err09 d=if(codI d).length>20000 then 4 else 0:=by unfold err09;rw[zD hfi];rfl
 have hC:=fun c nz lv=>UY d x hx hw hfi ⟨stk++[cur],c,nz,lv,fl⟩
 obtain⟨v0,v1,v2,rfl,_⟩:=hx
 simp only[xG,List.map,go_sem,G3,G0,G2,hF,zD hfi]
 refine(hC _ _ _).xv fun y ts k ho=> ?_
 rw[he]
 by_cases hbig:(codI d).length>20000
 ·simp only[go_sem,G0,G2,ho.len,show((codI d).length:Int)>20000 by omega]
  rw[z6 rfl rfl,z8]
  exact⟨⟨_,rfl⟩,by rw[if_pos hbig]⟩
 ·simp only[go_sem,G0,G2,ho.len,show¬((codI d).length:Int)>20000 by omega]
  rw[z6 rfl rfl,z8]
  exact⟨⟨_,rfl⟩,by rw[if_neg hbig]⟩
def frst (E:Nat→Int):Nat→Option Nat
 |0=>none
 |n+1=>match frst E n with
  |some i=>some i
  |none=>if E n=0 then none else some n
theorem xr {E:Nat→Int}: ∀n,frst E n=none↔ ∀j,j<n→E j=0
 |0=>by simp[frst]
 |n+1=>by
  have ih:=xr (E:=E) n
  unfold frst
  cases h:frst E n with
  |none=>
   have h1:=ih.1 h
   by_cases e:E n=0
   ·simp only[e,if_true]
    refine⟨fun _ j hj=> ?_,fun _=>trivial⟩
    by_cases hj':j=n
    ·rw[hj'];exact e
    ·exact h1 j (by omega)
   ·simp only[e,if_false]
    exact iff_of_false (fun q=>by cases q) (fun q=>e (q n (by omega)))
  |some i=>
   simp only[reduceCtorEq,false_iff]
   intro q
   have:=ih.2 fun j hj=>q j (by omega)
   rw[h] at this;cases this
theorem z0M {E:Nat→Int} {k:Nat} (hE:E k≠0) (hp: ∀j,j<k→E j=0): ∀n,k<n→frst E n=some k
 |0,h=>absurd h (w38 _)
 |n+1,h=>by
  unfold frst
  by_cases hk:k=n
  ·rw[(xr n).2 (by rw[←hk];exact hp)]
   simp only[]
   rw[if_neg (by rw[←hk];exact hE),hk]
  ·rw[z0M hE hp n (by omega)]
theorem YE {d:DImage} (h:err09 d=0):FineI d:=by
 by_cases hf:FineI d
 ·exact hf
 ·exfalso;unfold err09 at h;rw[zg hf] at h;simp at h
structure FunQ (d:DImage) (f:DFunc):Prop where
 img:ImgP d
 ty:TypP d.types
 sl: ∀k,k<d.funcs.length→(fnA d.funcs k).slots.length≤1000
 s:SlotsP d f
 c:CodeP f.code
 p:0≤f.params∧f.params≤f.slots.length∧(f.slots.length:Int)≤16
 r: -1≤f.result
theorem FunQ.of {d:DImage} (hw:WfImage d) (h:FineI d) {g:Nat} (hg:g<d.funcs.length):FunQ d (fnA d.funcs g):=by
 obtain⟨h1,h2,h3,h4,h5,h6,h7,h8⟩:=h
 have hf: ∀k,k<d.funcs.length→FuncP d.types.length (fnA d.funcs k)∧WfFunc (fnA d.funcs k):=fun k hk=>by
  rw[←z0N hk];exact⟨h7 _ (w08 hk),hw.funcs _ (w08 hk)⟩
 obtain⟨⟨p1,p2,p3,p4,p5,p6,p7⟩,q1,q2,q3,q4,q5,q6⟩:=(hf g hg).1
 refine⟨⟨fun g hg=> ?_⟩,⟨hw.types,h1,h5⟩,fun k hk=> ?_,q1,⟨⟨q3,q4⟩,q2,fun x hx=> ?_⟩,⟨p4,p5,p2⟩,p6⟩
 ·obtain⟨⟨_,_,_,r4,r5,r6,_⟩,r,_⟩:=h7 g hg
  exact⟨r,r5,r4,r6⟩
 ·obtain⟨⟨_,r2,_⟩,_⟩:=(hf k hk).1
  omega
 ·have:=(hf g hg).2.code x hx
  exact⟨⟨this.a,this.b,this.c⟩,this.op⟩
def ldP (f:DFunc) (i:Nat):Prop:=Rch (nxt f.code) i∨i=f.code.length-1
open Classical in
noncomputable def insE (d:DImage) (f:DFunc) (i:Nat):Int:=
 if¬NearP d f (inA f.code i) then 16 else if¬ldP f i then 6 else if typP d f (inA f.code i)=true then 0 else 30
noncomputable def mskF (f:DFunc) (i:Nat):Nat:=if i=f.code.length-1 then 0 else mskOf (nxt f.code) (Wm f.code) (2^f.params.toNat-1) i
noncomputable def msks (f:DFunc):List Nat:=(List.range f.code.length).map (mskF f)
open Classical in
noncomputable def livE (f:DFunc) (i:Nat):Int:=if∀s∈rds (inA f.code i),(mskF f i>>>s.toNat)%2≠0 then 0 else 38
open Classical in
noncomputable def wrongS (d:DImage) (g:Nat) (f:DFunc):Int×Int:=
 if¬Ok07 f.code then(-1,12) else if g=0∧(f.params≠0∨f.result≠ -1) then(-1,30) else
 match frst (insE d f) f.code.length with
 |some i=>((i:Int),insE d f i)
 |none=>if¬ScrP d f then(-1,36) else
  match frst (livE f) f.code.length with
  |some i=>((i:Int),38)
  |none=>(0,0)
noncomputable def sizS (d:DImage) (f:DFunc):List DRun:=madeR ((labs d f).map (sumB d.types))
noncomputable def livS (f:DFunc):List DRun:=madeR (msks f)
theorem QP {d:DImage} {f:DFunc} {i:Nat} (h:insE d f i=0):NearP d f (inA f.code i)∧ldP f i∧typP d f (inA f.code i)=true:=by
 unfold insE at h
 split at h
 ·exact absurd h (by decide)
 ·rename_i h1
  split at h
  ·exact absurd h (by decide)
  ·rename_i h2
   split at h
   ·rename_i h3;exact⟨Classical.not_not.1 h1,Classical.not_not.1 h2,h3⟩
   ·exact absurd h (by decide)
theorem V9 {d:DImage} {g:Nat} {f:DFunc} (h: ¬Ok07 f.code):wrongS d g f=(-1,12):=by unfold wrongS;rw[if_pos h]
theorem jG {d:DImage} {g:Nat} {f:DFunc} (h:Ok07 f.code) (h2:g=0∧(f.params≠0∨f.result≠ -1)):wrongS d g f=(-1,30):=by
 unfold wrongS;rw[if_neg (fun q=>q h),if_pos h2]
section
variable {d : DImage} {g : Nat} {f : DFunc} (h : Ok07 f.code) (h2 : ¬ (g = 0 ∧ (f.params ≠ 0 ∨ f.result ≠ -1)))
include h h2
theorem YL {i:Nat} (hi:i<f.code.length) (hp: ∀j,j<i→insE d f j=0) (he:insE d f i≠0):wrongS d g f=((i:Int),insE d f i):=by
 unfold wrongS;rw[if_neg (fun q=>q h),if_neg h2,z0M he hp _ hi]
theorem z0U (h3: ∀j,j<f.code.length→insE d f j=0) (h4: ¬ScrP d f):wrongS d g f=(-1,36):=by
 unfold wrongS;rw[if_neg (fun q=>q h),if_neg h2,(xr _).2 h3];exact if_pos h4
theorem z0V (h3: ∀j,j<f.code.length→insE d f j=0) (h4:ScrP d f) {i:Nat} (hi:i<f.code.length) (hp: ∀j,j<i→livE f j=0) (he:livE f i≠0):wrongS d g f=((i:Int),38):=by
 unfold wrongS;rw[if_neg (fun q=>q h),if_neg h2,(xr _).2 h3]
 simp only[]
 rw[if_neg (fun q=>q h4),z0M he hp _ hi]
theorem Qo (h3: ∀j,j<f.code.length→insE d f j=0) (h4:ScrP d f) (h5: ∀j,j<f.code.length→livE f j=0):wrongS d g f=(0,0):=by
 unfold wrongS;rw[if_neg (fun q=>q h),if_neg h2,(xr _).2 h3]
 simp only[]
 rw[if_neg (fun q=>q h4),(xr _).2 h5]
end
theorem V8 {d:DImage} {g:Nat} {f:DFunc} (h:(wrongS d g f).2=0):Ok07 f.code∧ ¬(g=0∧(f.params≠0∨f.result≠ -1))∧(∀j,j<f.code.length→insE d f j=0)∧ScrP d f∧ ∀j,j<f.code.length→livE f j=0:=by
 by_cases h1:Ok07 f.code
 case neg=>rw[V9 h1] at h;exact absurd h (by decide)
 by_cases h2:g=0∧(f.params≠0∨f.result≠ -1)
 ·rw[jG h1 h2] at h;exact absurd h (by decide)
 unfold wrongS at h
 rw[if_neg (fun q=>q h1),if_neg h2] at h
 split at h
 ·rename_i i hi
  exfalso
  have: ¬frst (insE d f) f.code.length=none:=by rw[hi];intro q;cases q
  have hne: ∀n,frst (insE d f) n=some i→insE d f i≠0:=fun n=>by
   induction n with
   |zero=>intro q;cases q
   |succ n ih=>
    intro q
    unfold frst at q
    cases e:frst (insE d f) n with
    |some j=>rw[e] at q;injection q with q;rw[q] at e;exact ih e
    |none=>
     rw[e] at q
     simp only[] at q
     split at q
     ·cases q
     ·rename_i hz;injection q with q;rw[←q];exact hz
  exact hne _ hi h
 ·rename_i hn
  split at h
  ·exact absurd h (by decide)
  ·rename_i h4
   split at h
   ·simp at h
   ·rename_i hl
    exact⟨h1,h2,(xr _).1 hn,Classical.not_not.1 h4,(xr _).1 hl⟩
theorem FunQ.funP {d:DImage} {f:DFunc} (h:FunQ d f) (h7:Ok07 f.code) (hi: ∀j,j<f.code.length→insE d f j=0):FunP d f:=
 ⟨h.img,h.ty,h.sl,h.s,h.c,h7,fun i hl=>(QP (hi i hl)).1⟩
theorem FunP.near16 {d:DImage} {f:DFunc} (h:FunP d f):Near16 f.code f.slots.length:=fun i hi=>
 ⟨fun s hs=>(h.n i hi).1 s (w3c _ hs),fun s hs=>(h.n i hi).1 s (w46 _ hs)⟩
theorem TW (f:DFunc):(msks f).length=f.code.length:=by simp[msks]
theorem z1M {f:DFunc} {i:Nat} (h:i<f.code.length):(msks f).getD i 0=mskF f i:=by
 unfold msks;rw[w00,w19,w48 h];rfl
theorem z4S {f:DFunc} {o:List Nat} (hl:o.length=f.code.length) (h: ∀i,i<f.code.length→o.getD i 0=if i=f.code.length-1 then 0 else mskOf (nxt f.code) (Wm f.code) (2^f.params.toNat-1) i):o=msks f:=by
 apply List.ext_getElem
 ·rw[hl,TW]
 ·intro j h1 h2
  have:=h j (by omega)
  rw[←Q7 h1,this,←Q7 h2,z1M (by omega)];rfl
theorem sub16 {x:Nat} (h:x<65536):Sub x 65535:=fun s hs=>by
 have:(65535:Nat)=2^16-1:=by decide
 rw[this,Nat.testBit_two_pow_sub_one,decide_eq_true_iff]
 apply Classical.byContradiction
 intro q
 have h2:x<2^s:=w58 h (w57 (n:=2) (by decide) (show 16≤s by omega))
 rw[Nat.testBit_lt_two_pow h2] at hs;cases hs
theorem z8T {f:DFunc} (hc:CodeP f.code) (hp:f.params≤16) (i:Nat):mskF f i<65536:=by
 unfold mskF
 split
 ·omega
 ·have hp0:2^f.params.toNat-1<65536:=by
   have:2^f.params.toNat≤65536:=w57 (by decide) (show f.params.toNat≤16 by omega)
   have h1:1≤2^f.params.toNat:=Nat.one_le_two_pow
   omega
  unfold mskOf
  split
  ·rename_i h
   have:=(Great.le (nxt f.code) (Wm f.code) _ (n:=0) h.choose_spec (sub16 hp0) (fun j=>sub16 (z2s hc j)) i).le
   omega
  ·omega
theorem z6g {f:DFunc} {i:Nat} {s:Int} (hs:s∈rds (inA f.code i)) (h:(mskF f i>>>s.toNat)%2=0):livE f i≠0:=by
 unfold livE;rw[if_neg fun q=>q s hs h];decide
theorem z8X {f:DFunc} {i:Nat} (h: ∀s∈rds (inA f.code i),(mskF f i>>>s.toNat)%2≠0):livE f i=0:=by
 unfold livE;rw[if_pos h]
theorem zb6 {d:DImage} {f:DFunc} (h:FunP d f) (hp:(f.slots.length:Int)≤16) {i:Nat} (hi:i<f.code.length): ∀s∈rds (inA f.code i),0≤s∧s≤16:=fun s hs=>by
 have:=(h.near16 i hi).1 s hs
 have:=zb5 s hs
 omega
theorem z8L (x:DInstr):(rds x).length≤3:=by
 unfold rds rdsk
 rw[w44]
 exact w4a (List.length_filter_le _ _) (by simp)
def LookV (d:DImage) (g:Nat) (f:DFunc) (r:AV):Prop:=
 ∃y1 y2,r= .agg [y1,y2,.int .i64 (wrongS d g f).1,.int .i64 (wrongS d g f).2]∧y1.one=true∧y2.one=true∧((wrongS d g f).2=0→IsSl IsRun 2 (sizS d f) y1∧IsSl IsRun 2 (livS f) y2)
theorem jM {d:DImage} {g:Nat} {f:DFunc} {a e:Int} (h:wrongS d g f=(a,e)) (he:e≠0):LookV d g f (.agg [.nils,.nils,.int .i64 a,.int .i64 e]):=
 ⟨_,_,by rw[h],rfl,rfl,fun q=>by rw[h] at q;exact absurd q he⟩
theorem z2F (l:List DInstr) (x:AV) (hx:IsSl IsInstr 4 l x) (hc:CodeP l) (h7: ¬Ok07 l) (m:Mem) (hf:m.floor≤m.stk.length+1):Okv tab j9 [x] m (.tup [.nils,.int .i64 8]):=by
 refine zf VE ?_
 obtain⟨stk,cur,nx,live,fl⟩:=m
 dsimp only at hf
 have hf':fl≤(stk++[cur]).length+1:=by simp;omega
 have hC:=fun c nz=>(ke l x hx hc ⟨stk++[cur],c,nz,[]::live,fl⟩ hf').eq
 rw[kJ h7] at hC
 simp only[j4,List.map,go_sem,G0,G2,hC,show((8:Int) !=0)=true from rfl]
 rw[z6 rfl rfl,z8]
 exact⟨⟨_,rfl⟩,rfl⟩
theorem zeh (d:DImage) (y:AV) (hy:IsImage d y) (g:Nat) (hg:g<d.funcs.length) (h:FunQ d (fnA d.funcs g)) (m:Mem) (hf:m.floor≤m.stk.length+1):
  OkT tab XU [y,.int .i64 g] m (fun r _ _=>LookV d g (fnA d.funcs g) r):=by
 have hy':=hy
 obtain⟨ty,tx,fs,rfl,h0,h1,h2⟩:=hy
 obtain⟨w0,w1,w2,w3,ef,q0,q1,q2,q3⟩:=h2.fnA hg
 have hat:=h2.at .i64 hg
 refine VN z4v ?_
 obtain⟨stk,cur,nx,live,fl⟩:=m
 dsimp only at hf
 have hf':fl≤(stk++[cur]).length+1:=by simp;omega
 generalize hF:fnA d.funcs g=f at*
 have hnv:NV d f (.agg [ty,tx,fs,.str f.name,.int .i64 f.params,.int .i64 f.result,w0,w1,w2,w3]):=⟨_,_,_,_,_,_,_,rfl,h0,h1,h2,q0,q1,q2,q3⟩
 have hC:=h.c
 have hln:=h.c.len
 have o0:=h0.one
 have o1:=h1.one
 have o2:=h2.one
 have o3:=q0.one
 have o4:=q1.one
 have o5:=q2.one
 have o6:=q3.one
 have z0:((0:Int) !=0)=false:=rfl
 by_cases h7:Ok07 f.code
 case neg=>
  have hb:=fun m hm=>(z2F f.code w1 q1 h.c h7 m hm).eq
  simp only[kw,List.map,go_sem,G3,G0,G4,G2,hat,ef,evBuild,o0,o1,o2,o3,o4,o5,o6]
  rw[hb _ hf']
  simp only[go_sem,G3,G0,G4,G2,show((8:Int) !=0)=true from rfl,evBuild]
  refine ye rfl ?_
  exact jM (V9 h7) (by decide)
 have hRe:=fun c nz lv=>z9q f.code w1 q1 h.c h7 ⟨stk++[cur],c,nz,lv,fl⟩ hf'
 obtain⟨bs,k1,j1,st1,cs,hRc,hRj,hRl,s1,hcs,hsl,hs1⟩:=hRe [⟨nx,[ty,tx,fs]⟩,⟨nx+1,[.nils,.nils,.int .i64 0,.int .i64 0]⟩,⟨nx+1+1,[ty,tx,fs,.str f.name,.int .i64 f.params,.int .i64 f.result,w0,w1,w2,w3]⟩] (nx+1+1+1) ([]::live)
 subst hcs
 simp only[w21,w2e] at hRc hRj hRl
 simp only[kw,List.map,go_sem,G3,G0,G4,G2,hat,ef,evBuild,hRc,o0,o1,o2,o3,o4,o5,o6,z0]
 by_cases hmn:g=0∧(f.params≠0∨f.result≠ -1)
 ·obtain⟨e0,e1⟩:=hmn
  have e0':((g:Int)==0)=true:=by rw[e0];rfl
  have hp:=h.p.1
  have hr:=h.r
  by_cases e2:f.params>0
  ·simp only[go_sem,G3,G0,G4,G2,e0',e2,evBuild]
   refine ye rfl ?_
   exact jM (jG h7 ⟨e0,e1⟩) (by decide)
  ·have e3:f.result≥0:=by omega
   simp only[go_sem,G3,G0,G4,G2,e0',e2,e3,evBuild]
   refine ye rfl ?_
   exact jM (jG h7 ⟨e0,e1⟩) (by decide)
 have hcase:(((g:Int)==0)=false)∨((g:Int)==0)=true∧ ¬f.params>0∧ ¬f.result≥0:=by
  have hp:=h.p.1
  have hr:=h.r
  by_cases e0:g=0
  ·refine .inr ⟨by rw[e0];rfl,?_,?_⟩<;>omega
  ·exact .inl (by rw[beq_eq_false_iff_ne];omega)
 have hN:=fun x hx hw c n lv=>(zeg d f _ hnv x hx hw ⟨stk++[cur],c,n,lv,fl⟩ hf').eq
 have hT:=fun x hx hn c n lv=>(zcw d h.img f _ hnv h.s x hx hn ⟨stk++[cur],c,n,lv,fl⟩ hf').eq
 obtain⟨p1,rfl⟩: ∃p,j1=p+3:=⟨j1-3,by simp at hRl;omega⟩
 simp only[w55] at hRj
 have hRq: ∀X,(bs++X)[p1]? =some ⟨st1,bools s1⟩:=fun X=>by rw[w07 (w06.1 hRj).1];exact hRj
 have hTk: ∀X,List.take bs.length (bs++X)=bs:=fun X=>List.take_left ..
 have hGt: ∀x:Blk,(bs++[x])[bs.length]? =some x:=fun x=>by simp
 have hSt: ∀x y:Blk,(bs++[x]).set bs.length y=bs++[y]:=fun x y=>by simp
 rcases hcase with e1|⟨e1,e2,e3⟩
 case' inl=>simp only[go_sem,G0,G2,e1,q1.len]
 case' inr=>simp only[go_sem,G3,G0,G2,e1,e2,e3,q1.len]
 all_goals
  refine zb (α:=Nat) (fun i σ=>(i≤f.code.length∧ ∀j,j<i→insE d f j=0)∧ ∃nz e,heads [4,5,6,7,55,56,57] (bs.length+3) σ=⟨tmps 162 [(4,.ptr (stk++[cur]).length 1 (nx+1) 0),(5,.ptr (stk++[cur]).length 2 (nx+1+1) 0),(6,w1),(7,.arr (stk++[cur]).length (p1+3) st1 0 f.code.length),(55,w1),(56,.int .i64 f.code.length),(57,.int .i64 i)],⟨stk++[cur],⟨nx,[ty,tx,fs]⟩::⟨nx+1,[.nils,.nils,.int .i64 0,.int .i64 0]⟩::⟨nx+1+1,[ty,tx,fs,.str f.name,.int .i64 f.params,.int .i64 f.result,w0,w1,w2,w3]⟩::bs,nz,e::live,fl⟩⟩) (fun i=>f.code.length-i) 0 ?_ ?_
  ·refine⟨⟨w0c _,fun j hj=>absurd hj (w38 _)⟩,?_⟩
   simp only[go_sem,G0,G1,w09]
   exact⟨_,_,rfl⟩
  ·rintro i σ ⟨⟨hi,hE⟩,nz,e,hσ⟩
   rw[hσ]
   clear hσ σ
   dsimp only at hi hE⊢
   by_cases hin:i<f.code.length
   ·obtain⟨c1,c2,c3⟩:=hC.at hin
    have hsu:IntKind.i64.wrap ((i:Int)+1)=((i+1:Nat):Int):=zd hin q1.max
    simp only[go_sem,G3,G0,G1,G2,w03,hin,q1.at .i64 hin,q1.inA hin,hSt,hGt,hN _ c1 c2]
    have hix:idx (.int .i64 (i:Int)) f.code.length=some i:=zw .i64 i _ hin
    have hgi:=xV (s:=s1) (j:=i) (by omega)
    by_cases hn:NearP d f (inA f.code i)
    case neg=>
     simp only[go_sem,G3,G0,G4,G2,zg hn,show((16:Int) !=0)=true from rfl,evBuild]
     refine ye rfl ?_
     have he:insE d f i=16:=by unfold insE;rw[if_pos hn]
     refine jM ?_ (show(16:Int)≠0 by decide)
     rw[YL h7 hmn hin hE (by rw[he];decide),he]
    simp only[go_sem,G0,G2,zD hn,show((0:Int) !=0)=false from rfl,za,hix,w15,hRq,hgi]
    have hld:=hs1 i hin
    cases hsv:s1.getD i false
    ·have hnl: ¬ldP f i:=fun q=>by have:=hld.2 q;rw[hsv] at this;cases this
     simp only[go_sem,G3,G0,G4,G2,evBuild]
     refine ye rfl ?_
     have he:insE d f i=6:=by unfold insE;rw[if_neg (fun q=>q hn),if_pos hnl]
     refine jM ?_ (show(6:Int)≠0 by decide)
     rw[YL h7 hmn hin hE (by rw[he];decide),he]
    have hl:ldP f i:=hld.1 hsv
    simp only[go_sem,G3,G0,G2,hGt,hT _ c1 hn]
    cases hty:typP d f (inA f.code i)
    ·simp only[go_sem,G3,G0,G4,G2,evBuild]
     refine ye rfl ?_
     have he:insE d f i=30:=by unfold insE;rw[if_neg (fun q=>q hn),if_neg (fun q=>q hl),if_neg (by rw[hty];decide)]
     refine jM ?_ (show(30:Int)≠0 by decide)
     rw[YL h7 hmn hin hE (by rw[he];decide),he]
    ·have he:insE d f i=0:=by unfold insE;rw[if_neg (fun q=>q hn),if_neg (fun q=>q hl),if_pos hty]
     simp only[go_sem,G0,G2,hsu,hTk]
     refine⟨i+1,by omega,⟨hin,fun j hj=> ?_⟩,_,_,rfl⟩
     by_cases hji:j=i
     ·rw[hji];exact he
     ·exact hE j (by omega)
   ·have hie:i=f.code.length:=by omega
    subst hie
    simp only[go_sem,G3,G0,G1,G2,w03,hin]
    have hE': ∀j,j<f.code.length→insE d f j=0:=hE
    have hFP:=h.funP h7 hE'
    obtain⟨ys,bs2,k2,hsc,hsg⟩:=z9i d f hFP _ hnv ⟨stk++[cur],⟨nx,[ty,tx,fs]⟩::⟨nx+1,[.nils,.nils,.int .i64 0,.int .i64 0]⟩::⟨nx+1+1,[ty,tx,fs,.str f.name,.int .i64 f.params,.int .i64 f.result,w0,w1,w2,w3]⟩::bs,nz,e::live,fl⟩ hf'
    simp only[w21] at hsc hsg
    by_cases hscr:ScrP d f
    case neg=>
     simp only[go_sem,G3,G0,G4,G2,hsc,zg hscr,evBuild]
     refine ye rfl ?_
     exact jM (z0U h7 hmn hE' hscr) (by decide)
    obtain⟨j2,st2,cs2,rfl,hj2,hl2,rfl⟩:=hsg hscr.1
    obtain⟨bs3,k3,j3,st3,cs3,hmc,hmj,hml,o,rfl,hol,hom⟩:=zcD f.code w1 q1 h.c h7 f.params f.slots.length h.p hFP.near16 ⟨stk++[cur],⟨nx,[ty,tx,fs]⟩::⟨nx+1,[.nils,.nils,.int .i64 0,.int .i64 0]⟩::⟨nx+1+1,[ty,tx,fs,.str f.name,.int .i64 f.params,.int .i64 f.result,w0,w1,w2,w3]⟩::(bs++bs2),k2,e::live,fl⟩ hf'
    have hoe:=z4S hol hom
    subst hoe
    simp only[w21] at hmc hmj hml
    simp only[go_sem,G3,G0,G2,hsc,zD hscr,q0.len,hmc,z0]
    obtain⟨p2,rfl⟩: ∃p,j2=p+3:=⟨j2-3,by simp at hl2;omega⟩
    obtain⟨p3,rfl⟩: ∃p,j3=p+3:=⟨j3-3,by simp at hml;omega⟩
    simp only[w55] at hj2 hmj
    replace hj2:(bs++bs2++bs3)[p2]? =some ⟨st2,us ((labs d f).map (sumB d.types))⟩:=by rw[w07 (w06.1 hj2).1];exact hj2
    clear hRq hTk hGt hSt hRj
    generalize bs++bs2++bs3=R at*
    simp only[go_sem,q1.len]
    have hTk: ∀X,List.take R.length (R++X)=R:=fun X=>List.take_left ..
    have hGt: ∀x:Blk,(R++[x])[R.length]? =some x:=fun x=>by simp
    have hSt: ∀x y:Blk,(R++[x]).set R.length y=R++[y]:=fun x y=>by simp
    have hR3: ∀X,(R++X)[p3]? =some ⟨st3,us (msks f)⟩:=fun X=>by rw[w07 (w06.1 hmj).1];exact hmj
    clear hR3
    have hR3: ∀X,(R++X)[p3]? =some ⟨st3,us (msks f)⟩:=fun X=>by rw[w07 (w06.1 hmj).1];exact hmj
    have hmsl:=TW f
    refine zb (α:=Nat) (fun i σ=>(i≤f.code.length∧ ∀j,j<i→livE f j=0)∧ ∃nz e,heads [4,11,13,109,110,111] (R.length+3) σ=⟨tmps 162 [(4,.ptr (stk++[cur]).length 1 (nx+1) 0),(11,.arr (stk++[cur]).length (p2+3) st2 0 f.code.length),(13,.arr (stk++[cur]).length (p3+3) st3 0 f.code.length),(109,w1),(110,.int .i64 f.code.length),(111,.int .i64 i)],⟨stk++[cur],⟨nx,[ty,tx,fs]⟩::⟨nx+1,[.nils,.nils,.int .i64 0,.int .i64 0]⟩::⟨nx+1+1,[ty,tx,fs,.str f.name,.int .i64 f.params,.int .i64 f.result,w0,w1,w2,w3]⟩::R,nz,e::live,fl⟩⟩) (fun i=>f.code.length-i) 0 ?_ ?_
    ·refine⟨⟨w0c _,fun j hj=>absurd hj (w38 _)⟩,?_⟩
     simp only[go_sem,G0,G1,w09]
     exact⟨_,_,rfl⟩
    ·clear hsc hsg hmc
     rintro i σ ⟨⟨hi,hL⟩,nz,e,hσ⟩
     rw[hσ]
     clear hσ σ
     dsimp only at hi hL⊢
     by_cases hin:i<f.code.length
     ·obtain⟨c1,c2,c3⟩:=hC.at hin
      have hsu:IntKind.i64.wrap ((i:Int)+1)=((i+1:Nat):Int):=zd hin q1.max
      have hrl:=zb6 hFP h.p.2.2 hin
      have hr3:=z8L (inA f.code i)
      have hix:idx (.int .i64 (i:Int)) f.code.length=some i:=zw .i64 i _ hin
      have hgi:=jj (s:=msks f) (j:=i) (by omega)
      rw[z1M hin] at hgi
      have hmlt:=z8T h.c (by have:=h.p;omega) i
      simp only[go_sem,G3,G0,G1,G2,w03,hin,q1.at .i64 hin,q1.inA hin,hSt,hGt]
      refine(z4j _ c2 c1 _ hf').xv fun r ts n1 ⟨y1,y2,hr,ho⟩=> ?_
      subst hr
      have hy1:=ho.l.sl (by omega)
      have hlive: ∃e',pushToks ts (e::live)=e'::live:=by cases ts<;>exact⟨_,rfl⟩
      obtain⟨e',he'⟩:=hlive
      simp only[go_sem,G0,G2,he',hy1.len]
      generalize hx0:(⟨nz,[.int .u8 (inA f.code i).op,.int .i64 (inA f.code i).a,.int .i64 (inA f.code i).b,.int .i64 (inA f.code i).c]⟩:Blk)=x0
      refine zb (α:=Nat) (fun k σ=>(k≤(rds (inA f.code i)).length∧ ∀s∈(rds (inA f.code i)).take k,(mskF f i>>>s.toNat)%2≠0)∧ ∃nz,heads [4,11,13,14,18,109,110,111,122,123,124] ((R++[x0]).length+3) σ=⟨tmps 162 [(4,.ptr (stk++[cur]).length 1 (nx+1) 0),(11,.arr (stk++[cur]).length (p2+3) st2 0 f.code.length),(13,.arr (stk++[cur]).length (p3+3) st3 0 f.code.length),(14,.int .i64 i),(18,.int .i64 0),(109,w1),(110,.int .i64 f.code.length),(111,.int .i64 i),(122,y1),(123,.int .i64 (rds (inA f.code i)).length),(124,.int .i64 k)],⟨stk++[cur],⟨nx,[ty,tx,fs]⟩::⟨nx+1,[.nils,.nils,.int .i64 0,.int .i64 0]⟩::⟨nx+1+1,[ty,tx,fs,.str f.name,.int .i64 f.params,.int .i64 f.result,w0,w1,w2,w3]⟩::(R++[x0]),nz,e'::live,fl⟩⟩) (fun k=>(rds (inA f.code i)).length-k) 0 ?_ ?_
      ·refine⟨⟨w0c _,fun s hs=>by cases hs⟩,?_⟩
       simp only[go_sem,G0,G1,w09]
       exact⟨_,rfl⟩
      ·rintro k σ ⟨⟨hk,hK⟩,nz,hσ⟩
       rw[hσ]
       clear hσ σ
       dsimp only at hk hK⊢
       by_cases hkn:k<(rds (inA f.code i)).length
       ·have hmem:(rds (inA f.code i))[k]∈rds (inA f.code i):=w08 hkn
        have e1:nth y1 k= .int .i64 (rds (inA f.code i))[k]:=hy1.nth hkn
        have hatk:=hy1.at .i64 hkn
        have htk:=w14 hkn
        have hsk:=hrl _ hmem
        generalize (rds (inA f.code i))[k]=s at*
        have hsu2:IntKind.i64.wrap ((k:Int)+1)=((k+1:Nat):Int):=by rw[zc (by omega) (by omega)];omega
        have hand0:=z7X (a:=mskF f i>>>s.toNat) (b:=1) (Nat.lt_of_le_of_lt (Nat.shiftRight_le _ _) hmlt) (by omega)
        rw[Nat.and_one_is_mod] at hand0
        have hand:evBits .and .u64 ((mskF f i>>>s.toNat:Nat):Int) 1=some (.int .u64 ((mskF f i>>>s.toNat%2:Nat):Int)):=hand0
        simp only[go_sem,G0,G1,G2,w03,hkn,hatk,e1,show((0:Int) !=0)=false from rfl,za,hix,w15,hR3,hgi,z7W hsk,hand]
        by_cases hb:mskF f i>>>s.toNat%2=0
        ·have hb':(((mskF f i>>>s.toNat%2:Nat):Int)==0)=true:=by rw[hb];rfl
         simp only[go_sem,G3,G0,G4,G2,hb',evBuild]
         refine ye rfl ?_
         exact jM (z0V h7 hmn hE' hscr hin hL (z6g hmem hb)) (by decide)
        ·have hb':(((mskF f i>>>s.toNat%2:Nat):Int)==0)=false:=by rw[beq_eq_false_iff_ne];omega
         simp only[go_sem,G0,G2,hb',hsu2,w09]
         refine⟨k+1,by omega,⟨hkn,fun q hq=> ?_⟩,_,rfl⟩
         rw[htk,w0a] at hq
         rcases hq with hq|hq
         ·exact hK q hq
         ·rw[w11.1 hq];exact hb
       ·have hke:k=(rds (inA f.code i)).length:=by omega
        subst hke
        rw[w09] at hK
        simp only[go_sem,G0,G1,G2,w03,hkn,hsu,hTk]
        refine⟨i+1,by omega,⟨hin,fun j hj=> ?_⟩,_,_,rfl⟩
        by_cases hji:j=i
        ·rw[hji];exact z8X hK
        ·exact hL j (by omega)
     ·have hie:i=f.code.length:=by omega
      subst hie
      simp only[go_sem,G0,G1,G2,w03,hin]
      have hv:((labs d f).map (sumB d.types)).length=f.code.length:=by rw[w44,z6n]
      have hR2: ∀X,(R++X)[p2]? =some ⟨st2,us ((labs d f).map (sumB d.types))⟩:=fun X=>by rw[w07 (w06.1 hj2).1];exact hj2
      have hM1:=fun b0 b1 b2 X nz lv=>zaO ((labs d f).map (sumB d.types)) (by rw[hv];exact hln) ⟨stk++[cur],b0::b1::b2::(R++X),nz,lv,fl⟩ (stk++[cur]).length (p2+3) st2 (w0b _) (by simp[Mem.blk,Mem.row,hR2])
      have hM2:=fun b0 b1 b2 X nz lv=>zaO (msks f) (by rw[hmsl];exact hln) ⟨stk++[cur],b0::b1::b2::(R++X),nz,lv,fl⟩ (stk++[cur]).length (p3+3) st3 (w0b _) (by simp[Mem.blk,Mem.row,hR3])
      rw[hv] at hM1
      rw[hmsl] at hM2
      refine(hM1 _ _ _ _ _ _).xv fun y1 ts n1 ho1=> ?_
      have hlive: ∃e',pushToks ts (e::live)=e'::live:=by cases ts<;>exact⟨_,rfl⟩
      obtain⟨e',he'⟩:=hlive
      have hz1:=ho1.one
      have hr1:(madeR ((labs d f).map (sumB d.types))).length≤200:=w4a (Zj _ _) (by rw[hv];exact hln.2)
      have hr2:(madeR (msks f)).length≤200:=w4a (Zj _ _) (by rw[hmsl];exact hln.2)
      simp only[go_sem,G3,G0,G4,G2,he',hSt,hGt,ho1.cells,hz1]
      refine(hM2 _ _ _ _ _ _).xv fun y2 ts2 n2 ho2=> ?_
      have hlive: ∃e'',pushToks ts2 (e'::live)=e''::live:=by cases ts2<;>exact⟨_,rfl⟩
      obtain⟨e'',he''⟩:=hlive
      simp only[go_sem,G3,G0,G4,G2,he'',hSt,hGt,ho2.cells,ho2.one,hz1]
      have hs1:=ho1.sl (by omega)
      have hs2:=ho2.sl (by omega)
      refine ye (by simp only[AV.refs,refsAny,hs1.refs,hs2.refs];rfl) ?_
      have hw:=Qo (g:=g) h7 hmn hE' hscr hL
      refine⟨y1,y2,by rw[hw],hs1.one,hs2.one,fun _=>⟨hs1,hs2⟩⟩
theorem z2C (d:DImage) (hd:ImgP d) (y:AV) (hy:IsImage d y) (g:Nat) (hg:g<d.funcs.length) (hC:CodeP (fnA d.funcs g).code) (i:Nat) (hi:i<(fnA d.funcs g).code.length) (b:Bool) (hb:b=true↔ldP (fnA d.funcs g) i) (m:Mem) (hf:m.floor≤m.stk.length+1):
  Okv tab xi [y,.int .i64 g,.int .i64 i,.bool b] m (.int .i64 (insE d (fnA d.funcs g) i)):=by
 have hy':=hy
 obtain⟨ty,tx,fs,rfl,h0,h1,h2⟩:=hy
 obtain⟨w0,w1,w2,w3,ef,q0,q1,q2,q3⟩:=h2.fnA hg
 have hat:=h2.at .i64 hg
 refine zf kg ?_
 obtain⟨stk,cur,nx,live,fl⟩:=m
 dsimp only at hf
 have hf':fl≤(stk++[cur]).length+1:=by simp;omega
 obtain⟨c1,c2,c3⟩:=hC.at hi
 have hN:=fun c n lv=>(zek d _ hy' g hg _ c1 c2 ⟨stk++[cur],c,n,lv,fl⟩).eq
 have hT:=fun hn c n lv=>(zcB d hd _ hy' g hg _ c1 c2 hn ⟨stk++[cur],c,n,lv,fl⟩ hf').eq
 have hinA:=q1.inA hi
 have hat2:=q1.at .i64 hi
 generalize fnA d.funcs g=f at*
 simp only[xb,List.map,go_sem,G3,G0,G2,hat,ef,hat2,hinA,hN]
 by_cases hn:NearP d f (inA f.code i)
 case neg=>
  simp only[go_sem,G0,G2,zg hn]
  rw[z6 rfl rfl,z8]
  exact⟨⟨_,rfl⟩,by unfold insE;rw[if_pos hn]⟩
 simp only[go_sem,G0,G2,zD hn]
 cases b
 ·have hl: ¬ldP f i:=fun q=>by have:=hb.2 q;cases this
  simp only[go_sem,G0,G2]
  rw[z6 rfl rfl,z8]
  exact⟨⟨_,rfl⟩,by unfold insE;rw[if_neg (fun q=>q hn),if_pos hl]⟩
 have hl:ldP f i:=hb.1 rfl
 simp only[go_sem,G3,G0,G2,hT hn]
 cases hty:typP d f (inA f.code i)
 ·simp only[go_sem,G0,G2]
  rw[z6 rfl rfl,z8]
  exact⟨⟨_,rfl⟩,by unfold insE;rw[if_neg (fun q=>q hn),if_neg (fun q=>q hl),if_neg (by rw[hty];decide)]⟩
 ·simp only[go_sem,G0,G2]
  rw[z6 rfl rfl,z8]
  exact⟨⟨_,rfl⟩,by unfold insE;rw[if_neg (fun q=>q hn),if_neg (fun q=>q hl),if_pos hty]⟩
theorem z7c (d:DImage) (y:AV) (hy:IsImage d y) (g:Nat) (hg:g<d.funcs.length) (h:FunQ d (fnA d.funcs g)) (m:Mem) (hf:m.floor≤m.stk.length+1):
  Okv tab yU [y,.int .i64 g] m (.tup [.int .i64 (wrongS d g (fnA d.funcs g)).1,.int .i64 (wrongS d g (fnA d.funcs g)).2]):=by
 have hy':=hy
 obtain⟨ty,tx,fs,rfl,h0,h1,h2⟩:=hy
 obtain⟨w0,w1,w2,w3,ef,q0,q1,q2,q3⟩:=h2.fnA hg
 have hat:=h2.at .i64 hg
 refine zf Zv ?_
 obtain⟨stk,cur,nx,live,fl⟩:=m
 dsimp only at hf
 have hf':fl≤(stk++[cur]).length+1:=by simp;omega
 have hmx:max fl ((stk++[cur]).length+1)≤(stk++[cur]).length+1:=by omega
 have hIn:=fun hC i hi b hb c n lv=>(z2C d h.img _ hy' g hg hC i hi b hb ⟨stk++[cur],c,n,lv,max fl ((stk++[cur]).length+1)⟩ hmx).eq
 have hScr:=fun hFP c n lv=>z15 d _ hy' g hg hFP ⟨stk++[cur],c,n,lv,fl⟩ hf'
 generalize hF:fnA d.funcs g=f at*
 have hC:=h.c
 have hln:=h.c.len
 have o3:=q0.one
 have o4:=q1.one
 have o5:=q2.one
 have o6:=q3.one
 have hCk:=fun m=>(z2z f.code w1 q1 hC m).eq
 by_cases h7:Ok07 f.code
 case neg=>
  rw[kJ h7] at hCk
  simp only[yS,List.map,go_sem,G3,G0,G2,hat,ef,o3,o4,o5,o6,hCk,show((8:Int) !=0)=true from rfl]
  rw[z6 rfl rfl,z8]
  exact⟨⟨_,rfl⟩,by rw[V9 h7]⟩
 rw[YF h7] at hCk
 simp only[yS,List.map,go_sem,G3,G0,G2,hat,ef,o3,o4,o5,o6,hCk,show((0:Int) !=0)=false from rfl]
 by_cases hmn:g=0∧(f.params≠0∨f.result≠ -1)
 ·have e0':((g:Int)==0)=true:=by rw[hmn.1];rfl
  by_cases e2:f.params=0
  ·have e3:f.result≠ -1:=hmn.2.elim (fun q=>absurd e2 q) id
   simp only[go_sem,G0,G2,e0',show(f.params !=0)=false by simpa using e2,show(f.result != -1)=true by simpa using e3]
   rw[z6 rfl rfl,z8]
   exact⟨⟨_,rfl⟩,by rw[jG h7 hmn]⟩
  ·simp only[go_sem,G0,G2,e0',show(f.params !=0)=true by simpa using e2]
   rw[z6 rfl rfl,z8]
   exact⟨⟨_,rfl⟩,by rw[jG h7 hmn]⟩
 have hcase:(((g:Int)==0)=false)∨((g:Int)==0)=true∧(f.params !=0)=false∧(f.result != -1)=false:=by
  by_cases e0:g=0
  ·exact .inr ⟨by rw[e0];rfl,by simp;omega,by simp;omega⟩
  ·exact .inl (by rw[beq_eq_false_iff_ne];omega)
 rcases hcase with e1|⟨e1,e2,e3⟩
 case' inl=>simp only[go_sem,G0,G2,e1]
 case' inr=>simp only[go_sem,G0,G2,e1,e2,e3]
 all_goals
  generalize callNx tab xN _ _=nz
  obtain⟨bs,k1,j1,st1,cs,hLc,hLj,hLl,s1,hcs,hsl,hs1⟩:=ze0 f.code w1 q1 h.c h7 ⟨stk++[cur],[⟨nx,[ty,tx,fs]⟩,⟨nx+1,[.str f.name,.int .i64 f.params,.int .i64 f.result,w0,w1,w2,w3]⟩],nz,[]::live,max fl ((stk++[cur]).length+1)⟩ hmx
  subst hcs
  simp only[w21,w2e,id] at hLc hLj hLl
  obtain⟨p1,rfl⟩: ∃p,j1=p+2:=⟨j1-2,by simp at hLl;omega⟩
  simp only[w55] at hLj
  have hsub:IntKind.i64.wrap ((f.code.length:Int)-1)=((f.code.length-1:Nat):Int):=by rw[zc (by omega) (by omega)];omega
  simp only[go_sem,G0,G2,hLc,q1.len,hsub]
  refine zb (α:=Nat) (fun i σ=>(i≤f.code.length∧ ∀j,j<i→insE d f j=0)∧ ∃nz e,heads [1,2,6,7,8,9] (bs.length+2) σ=⟨tmps 120 [(1,.int .i64 g),(2,.ptr (stk++[cur]).length 0 nx 0),(6,.ptr (stk++[cur]).length 1 (nx+1) 0),(7,.arr (stk++[cur]).length (p1+2) st1 0 f.code.length),(8,.int .i64 (f.code.length-1:Nat)),(9,.int .i64 i)],⟨stk++[cur],⟨nx,[ty,tx,fs]⟩::⟨nx+1,[.str f.name,.int .i64 f.params,.int .i64 f.result,w0,w1,w2,w3]⟩::bs,nz,e::live,fl⟩⟩) (fun i=>f.code.length-i) 0 ?_ ?_
  ·refine⟨⟨w0c _,fun j hj=>absurd hj (w38 _)⟩,?_⟩
   simp only[go_sem,G0,G1,w09]
   exact⟨_,_,rfl⟩
  ·clear hLc
   rintro i σ ⟨⟨hi,hE⟩,nz,e,hσ⟩
   rw[hσ]
   clear hσ σ
   dsimp only at hi hE⊢
   by_cases hin:i<f.code.length
   ·have hsu:IntKind.i64.wrap ((i:Int)+1)=((i+1:Nat):Int):=zd hin q1.max
    have hix:idx (.int .i64 (i:Int)) f.code.length=some i:=zw .i64 i _ hin
    have hgi:=xV (s:=s1) (j:=i) (by omega)
    have hld:(s1.getD i false||((i:Int)==((f.code.length-1:Nat):Int)))=true↔ldP f i:=by
     rw[w31,hs1,beq_iff_eq]
     unfold ldP
     exact or_congr Iff.rfl (by omega)
    have hI:=hIn hC i hin _ hld
    have hres: ∀e,insE d f i=e→e≠0→wrongS d g f=((i:Int),e):=fun e he hne=>by
     rw[YL h7 hmn hin hE (by rw[he];exact hne),he]
    have hcase2:(s1.getD i false=true)∨(s1.getD i false=false):=by cases s1.getD i false<;>simp
    rcases hcase2 with hsv|hsv
    case' inl=>
     rw[hsv] at hgi hI
     rw[Bool.true_or] at hI
     simp only[go_sem,G3,G0,G1,G2,q1.len,w03,hin,za,hix,w15,hLj,hgi,hI]
    case' inr=>
     rw[hsv] at hgi hI
     rw[Bool.false_or] at hI
     simp only[go_sem,G3,G0,G1,G2,q1.len,w03,hin,za,hix,w15,hLj,hgi,hI]
    all_goals
     cases hz:insE d f i !=0
     ·have hz':insE d f i=0:=by simpa using hz
      simp only[go_sem,G0,G2,hsu,w09]
      refine⟨i+1,by omega,⟨hin,fun j hj=> ?_⟩,_,_,rfl⟩
      by_cases hji:j=i
      ·rw[hji];exact hz'
      ·exact hE j (by omega)
     ·have hz':insE d f i≠0:=by simpa using hz
      simp only[go_sem,G0,G2]
      rw[z6 rfl rfl,z8]
      exact⟨⟨_,rfl⟩,by rw[hres _ rfl hz']⟩
   ·have hie:i=f.code.length:=by omega
    subst hie
    have hE': ∀j,j<f.code.length→insE d f j=0:=hE
    have hFP:=h.funP h7 hE'
    obtain⟨ys,bs2,k2,hsc,-⟩:=hScr hFP (⟨nx,[ty,tx,fs]⟩::⟨nx+1,[.str f.name,.int .i64 f.params,.int .i64 f.result,w0,w1,w2,w3]⟩::bs) nz (e::live)
    simp only[w21] at hsc
    simp only[go_sem,G3,G0,G1,G2,q1.len,w03,hin,hsc]
    by_cases hscr:ScrP d f
    case neg=>
     simp only[go_sem,G0,G2,zg hscr]
     rw[z6 rfl rfl,z8]
     exact⟨⟨_,rfl⟩,by rw[z0U h7 hmn hE' hscr]⟩
    obtain⟨bs3,k3,j3,st3,cs3,hmc,hmj,hml,o,rfl,hol,hom⟩:=zaP f.code w1 q1 h.c h7 f.params f.slots.length h.p hFP.near16 ⟨stk++[cur],⟨nx,[ty,tx,fs]⟩::⟨nx+1,[.str f.name,.int .i64 f.params,.int .i64 f.result,w0,w1,w2,w3]⟩::(bs++bs2),k2,e::live,fl⟩ hf'
    have hoe:=z4S hol hom
    subst hoe
    simp only[w21,id] at hmc hmj hml
    simp only[go_sem,G0,G2,zD hscr,q0.len,hmc]
    obtain⟨p3,rfl⟩: ∃p,j3=p+2:=⟨j3-2,by simp at hml;omega⟩
    simp only[w55] at hmj
    clear hLj
    generalize bs++bs2++bs3=R at*
    have hmsl:=TW f
    refine zb (α:=Nat) (fun i σ=>(i≤f.code.length∧ ∀j,j<i→livE f j=0)∧ ∃nz e,heads [6,13,14] (R.length+2) σ=⟨tmps 120 [(6,.ptr (stk++[cur]).length 1 (nx+1) 0),(13,.arr (stk++[cur]).length (p3+2) st3 0 f.code.length),(14,.int .i64 i)],⟨stk++[cur],⟨nx,[ty,tx,fs]⟩::⟨nx+1,[.str f.name,.int .i64 f.params,.int .i64 f.result,w0,w1,w2,w3]⟩::R,nz,e::live,fl⟩⟩) (fun i=>f.code.length-i) 0 ?_ ?_
    ·refine⟨⟨w0c _,fun j hj=>absurd hj (w38 _)⟩,?_⟩
     simp only[go_sem,G0,G1,w09]
     exact⟨_,_,rfl⟩
    ·clear hsc hmc
     rintro i σ ⟨⟨hi,hL⟩,nz,e,hσ⟩
     rw[hσ]
     clear hσ σ
     dsimp only at hi hL⊢
     by_cases hin:i<f.code.length
     ·obtain⟨c1,c2,c3⟩:=hC.at hin
      have hsu:IntKind.i64.wrap ((i:Int)+1)=((i+1:Nat):Int):=zd hin q1.max
      have hrl:=zb6 hFP h.p.2.2 hin
      have hr3:=z8L (inA f.code i)
      have hix:idx (.int .i64 (i:Int)) f.code.length=some i:=zw .i64 i _ hin
      have hgi:=jj (s:=msks f) (j:=i) (by omega)
      rw[z1M hin] at hgi
      have hmlt:=z8T h.c (by have:=h.p;omega) i
      simp only[go_sem,G3,G0,G1,G2,q1.len,w03,hin,q1.at .i64 hin,q1.inA hin]
      refine(Qs _ c2 c1 _).xv fun r ts n1 ⟨y1,y2,hr,ho⟩=> ?_
      subst hr
      have hy1:=ho.l.sl (by omega)
      have hlive: ∃e',pushToks ts (e::live)=e'::live:=by cases ts<;>exact⟨_,rfl⟩
      obtain⟨e',he'⟩:=hlive
      simp only[go_sem,G0,G2,he']
      refine zb (α:=Nat) (fun k σ=>(k≤(rds (inA f.code i)).length∧ ∀s∈(rds (inA f.code i)).take k,(mskF f i>>>s.toNat)%2≠0)∧ ∃nz,heads [6,13,14,15,17] (R.length+2) σ=⟨tmps 120 [(6,.ptr (stk++[cur]).length 1 (nx+1) 0),(13,.arr (stk++[cur]).length (p3+2) st3 0 f.code.length),(14,.int .i64 i),(15,y1),(17,.int .i64 k)],⟨stk++[cur],⟨nx,[ty,tx,fs]⟩::⟨nx+1,[.str f.name,.int .i64 f.params,.int .i64 f.result,w0,w1,w2,w3]⟩::R,nz,e'::live,fl⟩⟩) (fun k=>(rds (inA f.code i)).length-k) 0 ?_ ?_
      ·refine⟨⟨w0c _,fun s hs=>by cases hs⟩,?_⟩
       simp only[go_sem,G0,G1,w09]
       exact⟨_,rfl⟩
      ·rintro k σ ⟨⟨hk,hK⟩,nz,hσ⟩
       rw[hσ]
       clear hσ σ
       dsimp only at hk hK⊢
       by_cases hkn:k<(rds (inA f.code i)).length
       ·have hmem:(rds (inA f.code i))[k]∈rds (inA f.code i):=w08 hkn
        have e1:nth y1 k= .int .i64 (rds (inA f.code i))[k]:=hy1.nth hkn
        have hatk:=hy1.at .i64 hkn
        have htk:=w14 hkn
        have hsk:=hrl _ hmem
        generalize (rds (inA f.code i))[k]=s at*
        have hsu2:IntKind.i64.wrap ((k:Int)+1)=((k+1:Nat):Int):=by rw[zc (by omega) (by omega)];omega
        simp only[go_sem,G0,G1,G2,hy1.len,w03,hkn,hatk,e1,za,hix,w15,hmj,hgi,z7W hsk]
        have htm:((mskF f i>>>s.toNat:Nat):Int).tmod 2=((mskF f i>>>s.toNat%2:Nat):Int):=(Int.ofNat_tmod _ 2).symm
        by_cases hb:mskF f i>>>s.toNat%2=0
        ·have hb':(((mskF f i>>>s.toNat%2:Nat):Int)==0)=true:=by rw[hb];rfl
         simp only[go_sem,G0,G2,show((2:Int)=0)=False from eq_false (by decide),htm,hb']
         rw[z6 rfl rfl,z8]
         exact⟨⟨_,rfl⟩,by rw[z0V h7 hmn hE' hscr hin hL (z6g hmem hb)]⟩
        ·have hb':(((mskF f i>>>s.toNat%2:Nat):Int)==0)=false:=by rw[beq_eq_false_iff_ne];omega
         simp only[go_sem,G0,G2,show((2:Int)=0)=False from eq_false (by decide),htm,hb',hsu2,w09]
         refine⟨k+1,by omega,⟨hkn,fun q hq=> ?_⟩,_,rfl⟩
         rw[htk,w0a] at hq
         rcases hq with hq|hq
         ·exact hK q hq
         ·rw[w11.1 hq];exact hb
       ·have hke:k=(rds (inA f.code i)).length:=by omega
        subst hke
        rw[w09] at hK
        simp only[go_sem,G0,G1,G2,hy1.len,w03,hkn,hsu,w09]
        refine⟨i+1,by omega,⟨hin,fun j hj=> ?_⟩,_,_,rfl⟩
        by_cases hji:j=i
        ·rw[hji];exact z8X hK
        ·exact hL j (by omega)
     ·have hie:i=f.code.length:=by omega
      subst hie
      simp only[go_sem,G0,G1,G2,q1.len,w03,hin]
      rw[z6 rfl rfl,z8]
      exact⟨⟨_,rfl⟩,by rw[Qo h7 hmn hE' hscr hL]⟩
theorem zcU {α:Type} {R:α→AV→Prop} {s:Nat} {y:AV} {xs cs:List α} {stk:List (List Blk)} {cur:List Blk} {nx fl:Nat} {e:List Nat} {rest:List (List Nat)} {z:AV} {zs:List AV} {bytes:Nat} (h:Own R s y xs e) (hz: ∀m:Mem,m.elems s z=some zs) (hc:All2 R cs zs) (hl:(xs.length+cs.length)*bytes≤140737488355328):
  ∃y' n e',evApp ⟨stk,cur,nx,e::rest,fl⟩ s bytes y z=some (y',⟨stk,cur,n,e'::rest,fl⟩)∧Own R s y' (xs++cs) e':=by
 obtain⟨y',n,live',h1,h2⟩:=(h.wr rest).app hz hc hl stk cur nx fl
 obtain⟨e',rfl,h3⟩:=h2.own
 exact⟨y',n,e',h1,h3⟩
noncomputable def tabF (d:DImage) (f:DFunc):DFunc:={f with sizes:=sizS d f,lives:=livS f}
theorem zaL (d:DImage) (y:AV) (hy:IsImage d y) (hsm:SmallI d) (g:Nat) (hg:g<d.funcs.length) (hQ:FunQ d (fnA d.funcs g)) (h:FunP d (fnA d.funcs g)) (hscr:ScrP d (fnA d.funcs g)) (m:Mem) (hf:m.floor≤m.stk.length+1):
  OkT tab ud [y,.int .i64 g] m (fun r _ _=>IsFunc (tabF d (fnA d.funcs g)) r):=by
 have hy':=hy
 obtain⟨ty,tx,fs,rfl,h0,h1,h2⟩:=hy
 refine VN YQ ?_
 obtain⟨stk,cur,nx,live,fl⟩:=m
 dsimp only at hf
 have hf':fl≤(stk++[cur]).length+1:=by simp;omega
 have hmx:max fl ((stk++[cur]).length+1)≤(stk++[cur]).length+1:=by omega
 have hScr:=fun c n lv=>z15 d _ hy' g hg h ⟨stk++[cur],c,n,lv,fl⟩ hf'
 have hBy:=fun ts x hx hin hlen c n lv=>(z4m d h.ty _ hy' ts x hx hin hlen ⟨stk++[cur],c,n,lv,max fl ((stk++[cur]).length+1)⟩ hmx).eq
 simp only[vW,List.map,go_sem,G3,G0,G2]
 refine(zaK d _ hy' hsm _ hf').xv fun r t1 n1 ⟨ty',tx',fs',hr,_,_,hfs⟩=> ?_
 subst hr
 have hlive: ∃e',pushToks t1 ([]::live)=e'::live:=by cases t1<;>exact⟨_,rfl⟩
 obtain⟨e1,he1⟩:=hlive
 obtain⟨w0,w1,w2,w3,ef,q0,q1,q2,q3⟩:=hfs.fnA hg
 have hat:=hfs.at .i64 hg
 generalize hF:fnA d.funcs g=f at*
 have hln:=h.c.len
 have o3:=q0.one
 have o4:=q1.one
 have o5:=q2.one
 have o6:=q3.one
 obtain⟨ys,bs,k2,hsc,hsg⟩:=hScr [⟨nx,[ty,tx,fs]⟩,⟨nx+1,[.str [],.int .i64 0,.int .i64 0,.nils,.nils,.nils,.nils]⟩,⟨n1,[.str f.name,.int .i64 f.params,.int .i64 f.result,w0,w1,w2,w3]⟩] (n1+1) (e1::live)
 obtain⟨j1,st1,cs,rfl,hj1,hl1,hcs,hLI⟩:=hsg hscr.1
 simp only[w21,w2e] at hsc hj1 hl1
 obtain⟨p1,rfl⟩: ∃p,j1=p+3:=⟨j1-3,by simp at hl1;omega⟩
 simp only[w55] at hj1
 simp only[go_sem,G3,G0,G2,he1,hat,ef,o3,o4,o5,o6,hsc]
 have hlb:(labs d f).length=f.code.length:=z6n d f
 generalize hV:(labs d f).map (sumB d.types)=V
 have hvl:V.length=f.code.length:=by rw[←hV,w44,hlb]
 have hvg: ∀k,k<f.code.length→V.getD k 0=sumB d.types ((labs d f).getD k []):=fun k hk=>by
  rw[←hV,w00,w19,w13 (by omega),w00,w13 (by omega)];rfl
 refine zb (α:=Nat) (fun k σ=>k≤f.code.length∧ ∃nz y e,Own IsU 1 y (V.take k) e∧heads [2,4,5,6,8,9] (bs.length+3) σ=⟨tmps 52 [(2,.ptr (stk++[cur]).length 0 nx 0),(4,.ptr (stk++[cur]).length 1 (nx+1) 0),(5,.ptr (stk++[cur]).length 2 n1 0),(6,.arr (stk++[cur]).length (p1+3) st1 0 f.code.length),(8,y),(9,.int .i64 k)],⟨stk++[cur],⟨nx,[ty,tx,fs]⟩::⟨nx+1,[.str [],.int .i64 0,.int .i64 0,.nils,.nils,.nils,.nils]⟩::⟨n1,[.str f.name,.int .i64 f.params,.int .i64 f.result,w0,w1,w2,w3]⟩::bs,nz,e::live,fl⟩⟩) (fun k=>f.code.length-k) 0 ?_ ?_
 ·refine⟨w0c _,?_⟩
  simp only[go_sem,G0,G1,w09]
  exact⟨_,_,_,.nil _,rfl⟩
 ·clear hsc hsg
  rintro k σ ⟨hk,nz,y,e,ho,hσ⟩
  rw[hσ]
  clear hσ σ
  dsimp only at hk⊢
  have hel:evLen (.arr (stk++[cur]).length (p1+3) st1 0 f.code.length)=some (.int .i64 f.code.length):=rfl
  by_cases hkn:k<f.code.length
  ·have hix:idx (.int .i64 (k:Int)) f.code.length=some k:=zw .i64 k _ hkn
   obtain⟨yk,hyk,hyks⟩:=qH hcs (k:=k) (by omega)
   obtain⟨hT1,hT2⟩:=hLI k
   have hB:=hBy _ _ hyks hT1 (by omega)
   have hsu:IntKind.i64.wrap ((k:Int)+1)=((k+1:Nat):Int):=by rw[zc (by omega) (by omega)];omega
   have hB1:sumB d.types ((labs d f).getD k [])≤264*1001:=w4a (TJ h.ty hT1 _ (w0b _)) (Nat.mul_le_mul_left _ (by omega))
   have hvk:=hvg k hkn
   rw[←hvk] at hB hB1
   have htk:V.take (k+1)=V.take k++[V.getD k 0]:=by
    rw[w14 (by omega),Q7 (by omega)]
   generalize V.getD k 0=q at*
   have hwu:IntKind.u64.wrap ((q:Nat):Int)=((q:Nat):Int):=zH (by omega) (by omega)
   simp only[go_sem,G3,G0,G1,G2,hel,w03,hkn,za,hix,w15,hj1,hyk,hB,hwu]
   generalize callNx tab yJ _ _=nz2
   obtain⟨y',n',e',ha,ho'⟩:=zcU (stk:=stk++[cur]) (cur:=⟨nx,[ty,tx,fs]⟩::⟨nx+1,[.str [],.int .i64 0,.int .i64 0,.nils,.nils,.nils,.nils]⟩::⟨n1,[.str f.name,.int .i64 f.params,.int .i64 f.result,w0,w1,w2,w3]⟩::bs) (nx:=nz2) (fl:=max fl ((stk++[cur]).length+1)) (rest:=live) (bytes:=8) ho (cs:=[q]) (zh · 1 .full [.int .u64 (q:Int)]) (show All2 IsU [q] [.int .u64 (q:Int)] from⟨rfl,trivial⟩) (by simp only[w1f,w1d];omega)
   simp only[go_sem,G0,G2,ha,hsu,w09]
   exact⟨k+1,by omega,hkn,_,_,_,by rw[htk];exact ho',rfl⟩
  ·have hke:k=f.code.length:=by omega
   subst hke
   rw[←hvl,w09] at ho
   have hos:=ho.sl (by omega)
   simp only[go_sem,G0,G1,G2,hel,w03,hkn]
   refine(zcE V (by omega) _ hos _).xv fun z1 t1 n1' ho1=> ?_
   have hr1:(madeR V).length≤200:=w4a (Zj _ _) (by omega)
   have hs1:=ho1.sl (by omega)
   have hlive: ∃e',pushToks t1 (e::live)=e'::live:=by cases t1<;>exact⟨_,rfl⟩
   obtain⟨e2,he2⟩:=hlive
   simp only[go_sem,G3,G0,G4,G2,he2,hs1.one,hs1.refs_cells,q0.len]
   obtain⟨bs3,k3,j3,st3,cs3,hmc,hmj,hml,o,rfl,hol,hom⟩:=zaP f.code w1 q1 h.c h.o f.params f.slots.length hQ.p h.near16 ⟨stk++[cur],⟨nx,[ty,tx,fs]⟩::⟨nx+1,[.str [],.int .i64 0,.int .i64 0,.nils,.nils,.nils,.nils]⟩::⟨n1,[.str f.name,.int .i64 f.params,.int .i64 f.result,w0,w1,z1,w3]⟩::bs,n1',e2::live,fl⟩ hf'
   have hoe:=z4S hol hom
   subst hoe
   simp only[w21,id] at hmc hmj hml
   simp only[go_sem,G0,G2,hmc]
   have hmsl:=TW f
   refine(zcF (msks f) (by omega) _ (stk++[cur]).length j3 st3 (w0b _) (by simp[Mem.blk,Mem.row,hmj]) _ (by rw[hmsl])).xv fun z2 t2 n2' ho2=> ?_
   have hr2:(madeR (msks f)).length≤200:=w4a (Zj _ _) (by omega)
   have hs2:=ho2.sl (by omega)
   have hlive: ∃e',pushToks t2 (e2::live)=e'::live:=by cases t2<;>exact⟨_,rfl⟩
   obtain⟨e3,he3⟩:=hlive
   simp only[go_sem,G3,G0,G2,he3,hs1.one,hs2.one,hs2.refs_cells,o3,o4]
   refine ye (by simp only[AV.refs,refsAny,q0.refs,q1.refs,hs1.refs,hs2.refs];rfl) ?_
   refine⟨w0,w1,z1,z2,rfl,q0,q1,?_,hs2⟩
   unfold tabF sizS
   rw[hV];exact hs1
open Classical in
noncomputable def wrongF (d:DImage) (g:Nat):Int×Int:=
 if(wrongS d g (fnA d.funcs g)).2=0∧tabF d (fnA d.funcs g)≠fnA d.funcs g then(-1,32) else wrongS d g (fnA d.funcs g)
theorem zcK {d:DImage} {f:DFunc}:tabF d f=f↔sizS d f=f.sizes∧livS f=f.lives:=by
 obtain⟨a,b,c,e,g,h,i⟩:=f
 unfold tabF
 simp
theorem z73 {d:DImage} {g:Nat} {f:DFunc} (h:(wrongS d g f).2=0):wrongS d g f=(0,0):=by
 obtain⟨h1,h2,h3,h4,h5⟩:=V8 h
 exact Qo h1 h2 h3 h4 h5
theorem zcA (d:DImage) (y:AV) (hy:IsImage d y) (hsm:SmallI d) (g:Nat) (hg:g<d.funcs.length) (hQ:FunQ d (fnA d.funcs g)) (m:Mem) (hf:m.floor≤m.stk.length+1):
  Okv tab uS [y,.int .i64 g] m (.tup [.int .i64 (wrongF d g).1,.int .i64 (wrongF d g).2]):=by
 have hy':=hy
 obtain⟨ty,tx,fs,rfl,h0,h1,h2⟩:=hy
 obtain⟨w0,w1,w2,w3,ef,q0,q1,q2,q3⟩:=h2.fnA hg
 have hat:=h2.at .i64 hg
 refine zf W2 ?_
 obtain⟨stk,cur,nx,live,fl⟩:=m
 dsimp only at hf
 have hf':fl≤(stk++[cur]).length+1:=by simp;omega
 have hmx:max fl ((stk++[cur]).length+1)≤(stk++[cur]).length+1:=by omega
 have hU:=fun c n lv=>(z7c d _ hy' g hg hQ ⟨stk++[cur],c,n,lv,fl⟩ hf').eq
 simp only[ur,List.map,go_sem,G3,G0,G2,hU]
 generalize callNx tab yU _ _=nz
 by_cases hz:(wrongS d g (fnA d.funcs g)).2=0
 case neg=>
  have hz':((wrongS d g (fnA d.funcs g)).2==0)=false:=by simpa using hz
  simp only[go_sem,G0,G2,hz']
  rw[z6 rfl rfl,z8]
  refine⟨⟨_,rfl⟩,?_⟩
  unfold wrongF
  rw[if_neg fun q=>hz q.1]
 have hz':((wrongS d g (fnA d.funcs g)).2==0)=true:=by simpa using hz
 obtain⟨g1,g2,g3,g4,g5⟩:=V8 hz
 have hFP:=hQ.funP g1 g3
 simp only[go_sem,G3,G0,G2,hz']
 refine(zaL d _ hy' hsm g hg hQ hFP g4 _ hmx).xw fun r t1 n1 hr=> ?_
 have hlive: ∃e',pushToks t1 ([]::live)=e'::live:=by cases t1<;>exact⟨_,rfl⟩
 obtain⟨e1,he1⟩:=hlive
 have hS:=fun m=>(Zs _ _ _ _ hr (show IsFunc (fnA d.funcs g) _ from⟨w0,w1,w2,w3,rfl,q0,q1,q2,q3⟩) m).eq
 simp only[go_sem,G3,G0,G2,he1,hat,ef,hS]
 by_cases ht:tabF d (fnA d.funcs g)=fnA d.funcs g
 ·simp only[go_sem,G0,G2,decide_eq_true ht]
  rw[z6 rfl rfl,z8]
  refine⟨⟨_,rfl⟩,?_⟩
  unfold wrongF
  rw[if_neg fun q=>q.2 ht]
 ·simp only[go_sem,G0,G2,decide_eq_false ht]
  rw[z6 rfl rfl,z8]
  refine⟨⟨_,rfl⟩,?_⟩
  unfold wrongF
  rw[if_pos ⟨hz,ht⟩]
noncomputable def faultS (d:DImage):Int×Int×Int:=
 if err09 d≠0 then(0,0,err09 d) else
 match frst (fun g=>(wrongF d g).2) d.funcs.length with
 |some g=>((g:Int),(wrongF d g).1,(wrongF d g).2)
 |none=>(0,0,0)
noncomputable def faultV (d:DImage):AV:= .tup [.int .i64 (faultS d).1,.int .i64 (faultS d).2.1,.int .i64 (faultS d).2.2]
theorem Tv {d:DImage} (h:err09 d≠0):faultS d=(0,0,err09 d):=by unfold faultS;rw[if_pos h]
theorem YD {d:DImage} (h:err09 d=0) {g:Nat} (hg:g<d.funcs.length) (hp: ∀j,j<g→(wrongF d j).2=0) (he:(wrongF d g).2≠0):faultS d=((g:Int),(wrongF d g).1,(wrongF d g).2):=by
 unfold faultS;rw[if_neg (fun q=>q h),z0M he hp _ hg]
theorem QT {d:DImage} (h:err09 d=0) (hp: ∀j,j<d.funcs.length→(wrongF d j).2=0):faultS d=(0,0,0):=by
 unfold faultS;rw[if_neg (fun q=>q h),(xr _).2 hp]
theorem zaS (d:DImage) (y:AV) (hy:IsImage d y) (hw:WfImage d) (hsm:SmallI d) (m:Mem) (hf:m.floor≤m.stk.length+1):Okv tab uU [y] m (faultV d):=by
 have hy':=hy
 obtain⟨ty,tx,fs,rfl,h0,h1,h2⟩:=hy
 refine zf W4 ?_
 obtain⟨stk,cur,nx,live,fl⟩:=m
 dsimp only at hf
 have hf':fl≤(stk++[cur]).length+1:=by simp;omega
 have hC:=fun c n lv=>(z2y d _ hy' hw ⟨stk++[cur],c,n,lv,fl⟩ hf').eq
 simp only[uu,List.map,go_sem,G3,G0,G2,hC]
 generalize callNx tab xK _ _=nz
 by_cases he:err09 d=0
 case neg=>
  have he':(err09 d !=0)=true:=by simpa using he
  simp only[go_sem,G0,G2,he']
  rw[z6 rfl rfl,z8]
  exact⟨⟨_,rfl⟩,by unfold faultV;rw[Tv he]⟩
 have hfi:=YE he
 simp only[go_sem,he,show((0:Int) !=0)=false from rfl]
 refine zb (α:=Nat) (fun g σ=>(g≤d.funcs.length∧ ∀j,j<g→(wrongF d j).2=0)∧ ∃nz,heads [1,6] 1 σ=⟨tmps 32 [(1,.ptr (stk++[cur]).length 0 nx 0),(6,.int .i64 g)],⟨stk++[cur],[⟨nx,[ty,tx,fs]⟩],nz,[]::live,fl⟩⟩) (fun g=>d.funcs.length-g) 0 ?_ ?_
 ·refine⟨⟨w0c _,fun j hj=>absurd hj (w38 _)⟩,?_⟩
  simp only[go_sem,G0,G1]
  exact⟨_,rfl⟩
 ·rintro g σ ⟨⟨hg,hp⟩,nz,hσ⟩
  rw[hσ]
  clear hσ σ
  dsimp only at hg hp⊢
  by_cases hgn:g<d.funcs.length
  ·have hsu:IntKind.i64.wrap ((g:Int)+1)=((g+1:Nat):Int):=zd hgn h2.max
   have hW:=fun c n lv=>(zcA d _ hy' hsm g hgn (.of hw hfi hgn) ⟨stk++[cur],c,n,lv,fl⟩ hf').eq
   simp only[go_sem,G3,G0,G1,G2,h2.len,w03,hgn,hW]
   by_cases hz:(wrongF d g).2=0
   ·simp only[go_sem,G0,G2,show((wrongF d g).2 !=0)=false by simpa using hz,hsu]
    refine⟨g+1,by omega,⟨hgn,fun j hj=> ?_⟩,_,rfl⟩
    by_cases hji:j=g
    ·rw[hji];exact hz
    ·exact hp j (by omega)
   ·simp only[go_sem,G0,G2,show((wrongF d g).2 !=0)=true by simpa using hz]
    rw[z6 rfl rfl,z8]
    exact⟨⟨_,rfl⟩,by unfold faultV;rw[YD he hgn hp hz]⟩
  ·have:g=d.funcs.length:=by omega
   subst this
   simp only[go_sem,G0,G1,G2,h2.len,w03,hgn]
   rw[z6 rfl rfl,z8]
   exact⟨⟨_,rfl⟩,by unfold faultV;rw[QT he hp]⟩
theorem zaT (d:DImage) (y:AV) (hy:IsImage d y) (hw:WfImage d) (hsm:SmallI d) (m:Mem) (hf:m.floor≤m.stk.length+1):Okv tab uV [y] m (.int .i64 (faultS d).2.2):=by
 have hy':=hy
 obtain⟨ty,tx,fs,rfl,h0,h1,h2⟩:=hy
 refine zf W5 ?_
 obtain⟨stk,cur,nx,live,fl⟩:=m
 dsimp only at hf
 have hf':fl≤(stk++[cur]).length+1:=by simp;omega
 have hF:=fun c n lv=>(zaS d _ hy' hw hsm ⟨stk++[cur],c,n,lv,fl⟩ hf').eq
 unfold faultV at hF
 simp only[uv,List.map,go_sem,G3,G0,G2,hF]
 rw[z6 rfl rfl,z8]
 exact⟨⟨_,rfl⟩,rfl⟩
theorem z5q (d:DImage) (y:AV) (hy:IsImage d y) (hw:WfImage d) (m:Mem) (hf:m.floor≤m.stk.length+1):Okv tab qs [y] m (faultV d):=by
 have hy':=hy
 obtain⟨ty,tx,fs,rfl,h0,h1,h2⟩:=hy
 refine zf z2S ?_
 obtain⟨stk,cur,nx,live,fl⟩:=m
 dsimp only at hf
 have hf':fl≤(stk++[cur]).length+1:=by simp;omega
 have hC:=fun c n lv=>(z2E d _ hy' hw ⟨stk++[cur],c,n,lv,fl⟩ hf').eq
 simp only[Y5,List.map,go_sem,G3,G0,G2,hC]
 generalize callNx tab jE _ _=nz
 by_cases he:err09 d=0
 case neg=>
  have he':(err09 d !=0)=true:=by simpa using he
  simp only[go_sem,G0,G2,he']
  rw[z6 rfl rfl,z8]
  exact⟨⟨_,rfl⟩,by unfold faultV;rw[Tv he]⟩
 have hfi:=YE he
 simp only[go_sem,G0,G2,he,show((0:Int) !=0)=false from rfl,h2.len]
 refine zb (α:=Nat) (fun g σ=>(g≤d.funcs.length∧ ∀j,j<g→(wrongF d j).2=0)∧ ∃nz e,heads [1,15,16,17] 1 σ=⟨tmps 55 [(1,.ptr (stk++[cur]).length 0 nx 0),(15,fs),(16,.int .i64 d.funcs.length),(17,.int .i64 g)],⟨stk++[cur],[⟨nx,[ty,tx,fs]⟩],nz,e::live,fl⟩⟩) (fun g=>d.funcs.length-g) 0 ?_ ?_
 ·refine⟨⟨w0c _,fun j hj=>absurd hj (w38 _)⟩,?_⟩
  simp only[go_sem,G0,G1]
  exact⟨_,_,rfl⟩
 ·rintro g σ ⟨⟨hg,hp⟩,nz,e,hσ⟩
  rw[hσ]
  clear hσ σ
  dsimp only at hg hp⊢
  by_cases hgn:g<d.funcs.length
  ·have hsu:IntKind.i64.wrap ((g:Int)+1)=((g+1:Nat):Int):=zd hgn h2.max
   obtain⟨w0,w1,w2,w3,ef,q0,q1,q2,q3⟩:=h2.fnA hgn
   have hat:=h2.at .i64 hgn
   have hwr:wrongF d g=if(wrongS d g (fnA d.funcs g)).2=0∧tabF d (fnA d.funcs g)≠fnA d.funcs g then(-1,32) else wrongS d g (fnA d.funcs g):=by unfold wrongF;congr
   have hwp:=fun h=>z73 (d:=d) (g:=g) (f:=fnA d.funcs g) h
   simp only[go_sem,G3,G0,G1,G2,w03,hgn,hat,ef,q0.one,q1.one,q2.one,q3.one]
   refine(zeh d _ hy' g hgn (.of hw hfi hgn) _ hf').xv fun r t1 n1 ⟨y1,y2,hr,hy1,hy2,hys⟩=> ?_
   subst hr
   have hlive: ∃e',pushToks t1 (e::live)=e'::live:=by cases t1<;>exact⟨_,rfl⟩
   obtain⟨e1,he1⟩:=hlive
   have hte:=zcK (d:=d) (f:=fnA d.funcs g)
   generalize fnA d.funcs g=f at*
   by_cases hz:(wrongS d g f).2=0
   ·obtain⟨hs1,hs2⟩:=hys hz
    rw[hwp hz] at hwr⊢
    have hE1:=fun m=>(vC _ _ _ _ hs1 q2 m).eq
    have hE2:=fun m=>(vC _ _ _ _ hs2 q3 m).eq
    have fin32: ¬(sizS d f=f.sizes∧livS f=f.lives)→wrongF d g=(-1,32):=fun hn=>by
     rw[hwr,if_pos ⟨rfl,fun q=>hn (hte.1 q)⟩]
    simp only[go_sem,G3,G0,G2,he1,hs1.one,hs2.one,show((0:Int)==0)=true from rfl,hE1]
    by_cases e1:sizS d f=f.sizes
    case neg=>
     have h32:=fin32 fun q=>e1 q.1
     simp only[go_sem,G3,G0,G4,G2,decide_eq_false e1,show((32:Int) !=0)=true from rfl]
     rw[z6 rfl rfl,z8]
     exact⟨⟨_,rfl⟩,by unfold faultV;rw[YD he hgn hp (by rw[h32];decide),h32]⟩
    simp only[go_sem,G0,G2,decide_eq_true e1,hE2]
    by_cases e2:livS f=f.lives
    case neg=>
     have h32:=fin32 fun q=>e2 q.2
     simp only[go_sem,G3,G0,G4,G2,decide_eq_false e2,show((32:Int) !=0)=true from rfl]
     rw[z6 rfl rfl,z8]
     exact⟨⟨_,rfl⟩,by unfold faultV;rw[YD he hgn hp (by rw[h32];decide),h32]⟩
    have hok:wrongF d g=(0,0):=by rw[hwr,if_neg fun q=>q.2 (hte.2 ⟨e1,e2⟩)]
    simp only[go_sem,G0,G2,decide_eq_true e2,show((0:Int) !=0)=false from rfl,hsu]
    refine⟨g+1,by omega,⟨hgn,fun j hj=> ?_⟩,_,_,rfl⟩
    by_cases hji:j=g
    ·rw[hji,hok]
    ·exact hp j (by omega)
   ·have hwf:wrongF d g=wrongS d g f:=by rw[hwr,if_neg fun q=>hz q.1]
    have hz1:((wrongS d g f).2==0)=false:=by simpa using hz
    have hz2:((wrongS d g f).2 !=0)=true:=by simpa using hz
    simp only[go_sem,G3,G0,G2,he1,hy1,hy2,hz1,hz2]
    rw[z6 rfl rfl,z8]
    exact⟨⟨_,rfl⟩,by unfold faultV;rw[YD he hgn hp (by rw[hwf];exact hz),hwf]⟩
  ·have:g=d.funcs.length:=by omega
   subst this
   simp only[go_sem,G0,G1,G2,w03,hgn]
   rw[z6 rfl rfl,z8]
   exact⟨⟨_,rfl⟩,by unfold faultV;rw[QT he hp]⟩
theorem zaU (d:DImage) (y:AV) (hy:IsImage d y) (hw:WfImage d) (m:Mem) (hf:m.floor≤m.stk.length+1):Okv tab qt [y] m (.int .i64 (faultS d).2.2):=by
 have hy':=hy
 obtain⟨ty,tx,fs,rfl,h0,h1,h2⟩:=hy
 refine zf z2T ?_
 obtain⟨stk,cur,nx,live,fl⟩:=m
 dsimp only at hf
 have hf':fl≤(stk++[cur]).length+1:=by simp;omega
 have hF:=fun c n lv=>(z5q d _ hy' hw ⟨stk++[cur],c,n,lv,fl⟩ hf').eq
 unfold faultV at hF
 simp only[Y6,List.map,go_sem,G3,G0,G2,hF]
 rw[z6 rfl rfl,z8]
 exact⟨⟨_,rfl⟩,rfl⟩
theorem z3N {E:Nat→Int}: ∀{n i:Nat},frst E n=some i→i<n∧E i≠0∧ ∀j,j<i→E j=0
 |0,i,h=>by simp[frst] at h
 |n+1,i,h=>by
  unfold frst at h
  cases hk:frst E n with
  |some k=>
   rw[hk] at h
   injection h with h;subst h
   obtain⟨h1,h2,h3⟩:=z3N hk
   exact⟨by omega,h2,h3⟩
  |none=>
   rw[hk] at h
   have h1:=(xr n).1 hk
   by_cases e:E n=0
   ·rw[if_pos e] at h;cases h
   ·simp only[if_neg e] at h
    injection h with h;subst h
    exact⟨by omega,e,h1⟩
theorem Qb {d:DImage} (h:err09 d=0):(faultS d=(0,0,0)∧ ∀j,j<d.funcs.length→(wrongF d j).2=0)∨
  ∃g,g<d.funcs.length∧(∀j,j<g→(wrongF d j).2=0)∧(wrongF d g).2≠0∧faultS d=((g:Int),(wrongF d g).1,(wrongF d g).2):=by
 unfold faultS
 rw[if_neg (fun q=>q h)]
 cases hf:frst (fun g=>(wrongF d g).2) d.funcs.length with
 |none=>exact .inl ⟨rfl,(xr _).1 hf⟩
 |some g=>
  obtain⟨h1,h2,h3⟩:=z3N hf
  exact .inr ⟨g,h1,h3,h2,rfl⟩
theorem z5i {d:DImage} {g:Nat} (h:(wrongF d g).2=0):(wrongS d g (fnA d.funcs g)).2=0∧tabF d (fnA d.funcs g)=fnA d.funcs g:=by
 unfold wrongF at h
 split at h
 ·cases h
 ·rename_i hn
  refine⟨h,?_⟩
  by_cases e:tabF d (fnA d.funcs g)=fnA d.funcs g
  ·exact e
  ·exact absurd ⟨h,e⟩ hn
def moreI (d:DImage) (t:List UInt8) (g:DFunc):DImage:={d with texts:=d.texts++[t],funcs:=d.funcs++[g]}
section
variable {d : DImage} {t : List UInt8} {g : DFunc}
theorem Q8 {k:Nat} (h:k<d.funcs.length):fnA (d.funcs++[g]) k=fnA d.funcs k:=by
 unfold fnA
 rw[w00,w07 h,w00]
theorem z6D:fnA (d.funcs++[g]) d.funcs.length=g:=by
 unfold fnA
 rw[w00,w10 (w0b _)]
 simp
theorem z9F {f:DFunc} {x:DInstr} (h:NearP d f x):NearP (moreI d t g) f x:=by
 obtain⟨h1,h2,h3⟩:=h
 refine⟨h1,?_,fun e=> ?_⟩
 ·show called x<((d.funcs++[g]).length:Int)
  rw[w04];simp;omega
 ·show x.b<((d.texts++[t]).length:Int)
  have:=h3 e
  rw[w04];simp;omega
theorem zaW {f:DFunc} {x:DInstr} (hn:1≤d.funcs.length) (hc:called x<d.funcs.length):typP (moreI d t g) f x=typP d f x:=by
 have e25:x.op=25→fnA (d.funcs++[g]) x.b.toNat=fnA d.funcs x.b.toNat:=fun e=>Q8 (by unfold called at hc;rw[if_pos e] at hc;omega)
 have e26:x.op=26∨x.op=27→fnA (d.funcs++[g]) x.a.toNat=fnA d.funcs x.a.toNat:=fun e=>Q8 (by unfold called at hc;rw[if_neg (by omega),if_pos e] at hc;omega)
 have hT: ∀(y:Int) (ks:List Int),isT (moreI d t g) y ks=isT d y ks:=fun _ _=>rfl
 have hM: ∀(y k e:Int),memB (moreI d t g) y k e=memB d y k e:=fun _ _ _=>rfl
 have hL: ∀f',laterB (moreI d t g) f'=laterB d f':=fun _=>rfl
 have hty:(moreI d t g).types=d.types:=rfl
 have hfs:(moreI d t g).funcs=d.funcs++[g]:=rfl
 unfold typP
 simp only[hT,hM,hL,hty,hfs]
 by_cases h25:x.op=25
 ·rw[e25 h25]
  simp[h25]
 ·by_cases h26:x.op=26∨x.op=27
  ·rw[e26 h26]
   simp only[if_neg h25]
  ·simp only[if_neg h25,if_neg h26]
theorem zcL {f:DFunc} (hc: ∀i,called (inA f.code i)<d.funcs.length):stF (moreI d t g) f=stF d f:=by
 funext i l
 have h:=hc i
 unfold stF stS pops
 by_cases h0:0≤called (inA f.code i)
 ·have e:fnA (moreI d t g).funcs (called (inA f.code i)).toNat=fnA d.funcs (called (inA f.code i)).toNat:=Q8 (by omega)
  rw[e]
  rfl
 ·rw[if_neg h0,if_neg h0]
  rfl
theorem z05 {d:DImage} {g:Nat} {f:DFunc} (h1:Ok07 f.code) (h2: ¬(g=0∧(f.params≠0∨f.result≠ -1))) (h3: ∀j,j<f.code.length→insE d f j=0) (h4:ScrP d f) (h5: ∀j,j<f.code.length→livE f j=0):wrongS d g f=(0,0):=by
 unfold wrongS
 rw[if_neg (fun q=>q h1),if_neg h2,(xr _).2 h3]
 simp only
 rw[if_neg (fun q=>q h4),(xr _).2 h5]
theorem z2g {l:List DInstr} {i:Nat} (h: ¬i<l.length):called (inA l i)= -1:=by
 unfold inA
 rw[w00,w17 (by omega)]
 rfl
theorem zc0 {f:DFunc} (h3: ∀j,j<f.code.length→insE d f j=0): ∀i,called (inA f.code i)<d.funcs.length:=by
 intro i
 by_cases h:i<f.code.length
 ·exact(QP (h3 i h)).1.2.1
 ·rw[z2g h];omega
theorem z72 (hn:1≤d.funcs.length) {j:Nat} {f:DFunc} (h:(wrongS d j f).2=0):(wrongS (moreI d t g) j f).2=0∧tabF (moreI d t g) f=tabF d f:=by
 obtain⟨h1,h2,h3,h4,h5⟩:=V8 h
 have hc:=zc0 h3
 have hs:stF (moreI d t g) f=stF d f:=zcL hc
 constructor
 ·have hI: ∀k,k<f.code.length→insE (moreI d t g) f k=0:=by
   intro k hk
   obtain⟨a1,a2,a3⟩:=QP (h3 k hk)
   unfold insE
   rw[if_neg (fun q=>q (z9F a1)),if_neg (fun q=>q a2),zaW hn (hc k),if_pos a3]
  have hS:ScrP (moreI d t g) f:=by
   unfold ScrP GoodF
   rw[hs]
   exact h4
  rw[z05 h1 h2 hI hS h5]
 ·unfold tabF sizS labs
  rw[hs]
  rfl
theorem z06 (hn:1≤d.funcs.length) {j:Nat} (hj:j<d.funcs.length) (h:(wrongF d j).2=0):(wrongF (moreI d t g) j).2=0:=by
 obtain⟨h1,h2⟩:=z5i h
 have e:fnA (moreI d t g).funcs j=fnA d.funcs j:=Q8 hj
 obtain⟨k1,k2⟩:=z72 (t:=t) (g:=g) hn h1
 unfold wrongF
 rw[e,k2,if_neg (fun q=>q.2 h2)]
 exact k1
end
def zzF (x:DInstr):DFunc:=⟨[122,122,57],0,-1,[],[x,⟨34,-1,0,0⟩],[⟨0,0⟩],[⟨0,0⟩]⟩
def yieldI:DInstr:=⟨31,0,0,0⟩
def argI:DInstr:=⟨24,0,0,0⟩
theorem z3u:rds yieldI=[]:=by decide
theorem z3g:wrs yieldI=[]:=by decide
theorem z8M:rds ⟨34,-1,0,0⟩=[]:=by decide
theorem z8v:wrs ⟨34,-1,0,0⟩=[]:=by decide
theorem zcO:rds argI=[0]:=by decide
theorem zdZ (x:DInstr) (h:x.op=31∨x.op=24):Ok07 (zzF x).code:=by
 refine⟨fun j hj=> ?_,rfl⟩
 have hj':j<2:=hj
 have:j=0∨j=1:=by omega
 rcases this with rfl|rfl
 ·exact⟨fun e=>by have e':x.op=22:=e;omega,fun e=>by have e':x.op=23:=e;omega⟩
 ·exact⟨fun e=>by have e':(34:Int)=22:=e;omega,fun e=>by have e':(34:Int)=23:=e;omega⟩
theorem Qn (i:Nat):called (inA (zzF yieldI).code i)= -1:=by
 match i with
 |0=>rfl
 |1=>rfl
 |n+2=>exact z2g (by show¬n+2<2;omega)
theorem zeZ (i:Nat):(inA (zzF yieldI).code i).op≠24:=by
 match i with
 |0=>decide
 |1=>decide
 |n+2=>unfold inA;rw[w00,w17 (by show 2≤n+2;omega)];decide
theorem zdY (d:DImage) (i:Nat) (l:List Int):stF d (zzF yieldI) i l=if sumB d.types l≤4096 then some l else none:=by
 unfold stF stS pops
 rw[Qn,if_neg (zeZ i),if_neg (by omega)]
 rfl
theorem z1l (l:List DTyp):sumB l []=0:=by simp[sumB,sumK]
theorem z0R {d:DImage} {i:Nat} {l:List Int} (h:Lab (nxt (zzF yieldI).code) (stF d (zzF yieldI)) i l):l=[]:=by
 induction h with
 |zero=>rfl
 |step h1 hs hk ih=>
  subst ih
  rw[zdY,z1l,if_pos (by omega)] at hs
  injection hs with hs;exact hs.symm
theorem zaC (d:DImage) (i:Nat):labOf (nxt (zzF yieldI).code) (stF d (zzF yieldI)) i=[]:=by
 unfold labOf
 split
 ·rename_i h;exact z0R h.choose_spec
 ·rfl
theorem zz_W (i:Nat):Wm (zzF yieldI).code i=0:=by
 unfold Wm
 split
 ·rename_i h
  have h':i<2:=h
  have:i=0∨i=1:=by omega
  rcases this with rfl|rfl
  ·show maskN (wrs yieldI)=0;rw[z3g];rfl
  ·show maskN (wrs ⟨34,-1,0,0⟩)=0;rw[z8v];rfl
 ·rfl
theorem zaB (i:Nat):mskF (zzF yieldI) i=0:=by
 unfold mskF
 split
 ·rfl
 ·unfold mskOf
  split
  ·rename_i h
   have:=(Great.le (nxt (zzF yieldI).code) (Wm (zzF yieldI).code) _ (n:=0) (a:=0) h.choose_spec (fun s hs=>by simp[zzF] at hs) (fun j=>by rw[zz_W];exact fun s hs=>hs) i).le
   omega
  ·rfl
theorem zea (d:DImage):tabF d (zzF yieldI)=zzF yieldI:=by
 have h1:labs d (zzF yieldI)=[[],[]]:=by
  unfold labs
  show(List.range 2).map _=_
  simp only[zaC]
  rfl
 have h2:msks (zzF yieldI)=[0,0]:=by
  unfold msks
  show [mskF (zzF yieldI) 0,mskF (zzF yieldI) 1]=_
  rw[zaB,zaB]
 unfold tabF sizS livS
 rw[h1,h2]
 simp only[w35,List.map_nil,z1l]
 simp[madeR,rns,zzF]
theorem zcn (d:DImage) {i:Nat} (h:i<2):NearP d (zzF yieldI) (inA (zzF yieldI).code i):=by
 have:i=0∨i=1:=by omega
 rcases this with rfl|rfl
 ·refine⟨?_,by rw[Qn];omega,fun e=> ?_⟩
  ·show∀s∈rds yieldI++wrs yieldI,_
   rw[z3u,z3g];simp
  ·exact absurd e (by decide)
 ·refine⟨?_,by rw[Qn];omega,fun e=> ?_⟩
  ·show∀s∈rds ⟨34,-1,0,0⟩++wrs ⟨34,-1,0,0⟩,_
   rw[z8M,z8v];simp
  ·exact absurd e (by decide)
theorem zaA (d:DImage) {n:Nat} (hn:n≠0):wrongS d n (zzF yieldI)=(0,0):=by
 refine z05 (zdZ _ (.inl rfl)) (fun q=>hn q.1) (fun k hk=> ?_) ⟨⟨fun i l h=> ?_,fun i l l' h h'=>by rw[z0R h,z0R h']⟩,fun l h=>z0R h⟩ (fun k hk=> ?_)
 ·have hk':k<2:=hk
  unfold insE
  rw[if_neg (fun q=>q (zcn d hk'))]
  have:k=0∨k=1:=by omega
  rcases this with rfl|rfl
  ·rw[if_neg (fun q=>q (.inl .zero))]
   rfl
  ·rw[if_neg (fun q=>q (.inr rfl))]
   rfl
 ·rw[z0R h,zdY,z1l];rfl
 ·have hk':k<2:=hk
  have:k=0∨k=1:=by omega
  unfold livE
  rcases this with rfl|rfl
  ·rw[if_pos]
   show∀s∈rds yieldI,_
   rw[z3u];simp
  ·rw[if_pos]
   show∀s∈rds ⟨34,-1,0,0⟩,_
   rw[z8M];simp
theorem zaz (d:DImage) {n:Nat} (hn:n≠0):wrongS d n (zzF argI)=(0,16):=by
 have h0:insE d (zzF argI) 0=16:=by
  unfold insE
  rw[if_pos]
  rintro⟨h,_⟩
  have:=h 0 (w3c _ (by show(0:Int)∈rds argI;rw[zcO];simp))
  have h2:(0:Int)<0:=this
  omega
 unfold wrongS
 rw[if_neg (fun q=>q (zdZ _ (.inr rfl))),if_neg (fun q=>hn q.1)]
 have:frst (insE d (zzF argI)) (zzF argI).code.length=some 0:=by
  show frst (insE d (zzF argI)) 2=some 0
  simp only[frst,h0]
  rfl
 rw[this]
 simp only[h0]
 rfl
def moreT:List UInt8:=[109,111,114,101]
theorem zco:InstrP yieldI:=⟨45,45,45,by decide,by unfold fitsK;decide,by unfold fitsK;decide,by unfold fitsK;decide⟩
theorem zfa:InstrP argI:=⟨114,45,45,by decide,by unfold fitsK;decide,by unfold fitsK;decide,by unfold fitsK;decide⟩
theorem zf9:InstrP ⟨34,-1,0,0⟩:=⟨101,45,45,by decide,by unfold fitsK;decide,by unfold fitsK;decide,by unfold fitsK;decide⟩
theorem z3s (n:Int) (h:0<n):FineR [⟨0,0⟩] n:=by
 refine⟨by simp,rfl,fun j hj=> ?_⟩
 have:j=0:=by simpa using hj
 subst this
 exact⟨h,fun h=>by omega⟩
theorem z8t {x:DInstr} (hx:x=yieldI∨x=argI) (n:Nat):FuncP n (zzF x):=by
 refine⟨⟨show named [122,122,57]=true by decide,by simp[zzF],?_,by simp[zzF],by simp[zzF],by simp[zzF],?_⟩,fun s hs=>by simp[zzF] at hs,fun y hy=> ?_,by simp[zzF],by simp[zzF],z3s _ (by simp[zzF]),z3s _ (by simp[zzF])⟩
 ·exact⟨fun f hf=>by simp[zzF] at hf,by simp[zzF]⟩
 ·show(-1:Int)<n
  omega
 ·have:y=x∨y=⟨34,-1,0,0⟩:=by simpa [zzF] using hy
  rcases this with rfl|rfl
  ·rcases hx with rfl|rfl
   ·exact zco
   ·exact zfa
  ·exact zf9
theorem zeb (x:DInstr) (h:x=yieldI∨x=argI):(funB (zzF x)).length≤1000:=by
 obtain⟨_,_,g9,_,_,g12,g13⟩:=z8t h 0
 have hw: ∀y∈(zzF x).code,WfInstr y:=by
  intro y hy
  have:y=x∨y=⟨34,-1,0,0⟩:=by simpa [zzF] using hy
  rcases this with rfl|rfl
  ·rcases h with rfl|rfl
   ·exact⟨by unfold inU8;decide,by unfold in64;decide,by unfold in64;decide,by unfold in64;decide⟩
   ·exact⟨by unfold inU8;decide,by unfold in64;decide,by unfold in64;decide,by unfold in64;decide⟩
  ·exact⟨by unfold inU8;decide,by unfold in64;decide,by unfold in64;decide,by unfold in64;decide⟩
 have hr:WfRuns [⟨0,0⟩]:=fun r hr=>by
  rw[w11] at hr;subst hr
  exact⟨by unfold in64;decide,by unfold inU64;decide⟩
 have m1:=ql (s:=(zzF x).name) (by simp[zzF])
 have m2:=zi (n:=(zzF x).params.toNat) (by simp[zzF])
 have m3:=zi (qD (n:=(zzF x).result) (by unfold in64;simp[zzF]))
 have m4:=qY (l:=(zzF x).slots) ⟨by simp[zzF],fun s hs=>by simp[zzF] at hs⟩ (zzF x).slots.length (w0b _)
 have m5:=zi (n:=(zzF x).code.length) (by simp[zzF])
 have m6:=jp g9 hw (zzF x).code.length (w0b _)
 have m7:=tp (l:=(zzF x).sizes) g12 (by simp[zzF]) hr (by simp[zzF]) (zzF x).sizes.length (w0b _)
 have m8:=tp (l:=(zzF x).lives) g13 (by simp[zzF]) hr (by simp[zzF]) (zzF x).lives.length (w0b _)
 have n1:(zzF x).name.length=3:=rfl
 have n2:(zzF x).slots.length=0:=rfl
 have n3:(zzF x).code.length=2:=rfl
 have n4:(zzF x).sizes.length=1:=rfl
 have n5:(zzF x).lives.length=1:=rfl
 unfold funB
 simp only[w04];omega
theorem z3k {l:List (List UInt8)} {t:List UInt8} (hl:l.length<1000): ∀k,k≤l.length→(texB (l++[t]) k).length≤(texB l k).length+10
 |0,_=>by
  have:=zi (n:=(l++[t]).length) (by simp;omega)
  show(minimal (l++[t]).length).length≤_
  omega
 |k+1,hk=>by
  have ih:=z3k (t:=t) hl k (by omega)
  have e:txt (l++[t]) k=txt l k:=by
   unfold txt
   rw[w00,w07 (by omega),w00]
  simp only[texB,e,w04];omega
theorem z3M {l:List DFunc} {g:DFunc} (hl:l.length<1000): ∀k,k≤l.length→(funs (l++[g]) k).length≤(funs l k).length+10
 |0,_=>by
  have:=zi (n:=(l++[g]).length) (by simp;omega)
  show(minimal (l++[g]).length).length≤_
  omega
 |k+1,hk=>by
  have ih:=z3M (g:=g) hl k (by omega)
  have e:fnAt (l++[g]) k=fnAt l k:=by
   unfold fnAt
   rw[w00,w07 (by omega),w00]
  simp only[funs,e,w04];omega
theorem zag {d:DImage} {x:DInstr} (hx:x=yieldI∨x=argI) (ht:d.texts.length≤31) (hf:d.funcs.length≤31) (h:(codI d).length≤10000):(codI (moreI d moreT (zzF x))).length≤20000:=by
 have h1:=z3k (t:=moreT) (show d.texts.length<1000 by omega) d.texts.length (w0b _)
 have h2:=z3M (g:=zzF x) (show d.funcs.length<1000 by omega) d.funcs.length (w0b _)
 have e1:txt (d.texts++[moreT]) d.texts.length=moreT:=by
  unfold txt
  rw[w00,w10 (w0b _)];simp
 have e2:fnAt (d.funcs++[zzF x]) d.funcs.length=zzF x:=by
  unfold fnAt
  rw[w00,w10 (w0b _)];simp
 have h3:=zeb x hx
 have h4:=ql (s:=moreT) (by decide)
 have h5:moreT.length=4:=rfl
 unfold codI at h⊢
 have l1:(d.texts++[moreT]).length=d.texts.length+1:=by simp
 have l2:(d.funcs++[zzF x]).length=d.funcs.length+1:=by simp
 show(typs d.types d.types.length++(texB (d.texts++[moreT]) (d.texts++[moreT]).length++funs (d.funcs++[zzF x]) (d.funcs++[zzF x]).length)).length≤20000
 rw[l1,l2]
 simp only[texB,funs,e1,e2,w04] at h⊢
 omega
theorem za6 {d:DImage} {x:DInstr} (hx:x=yieldI∨x=argI) (ht:d.texts.length≤31) (hf:d.funcs.length≤31) (h:FineI d) (hn: ∀f∈d.funcs,f.name≠[122,122,57]):FineI (moreI d moreT (zzF x)):=by
 obtain⟨h1,h2,h3,h4,h5,h6,h7,h8⟩:=h
 refine⟨h1,?_,?_,?_,h5,fun t hm=> ?_,fun f hm=> ?_,?_⟩
 ·show(d.texts++[moreT]).length≤32
  simp;omega
 ·show 1≤(d.funcs++[zzF x]).length
  simp
 ·show(d.funcs++[zzF x]).length≤32
  simp;omega
 ·rcases w0a.1 hm with hm|hm
  ·exact h6 t hm
  ·rw[w11] at hm;subst hm;decide
 ·rcases w0a.1 hm with hm|hm
  ·exact h7 f hm
  ·rw[w11] at hm;subst hm
   show FuncP d.types.length (zzF x)
   exact z8t hx _
 ·show((d.funcs++[zzF x]).map DFunc.name).Nodup
  rw[w33,w4c]
  refine⟨h8,by simp,fun a ha b hb=> ?_⟩
  obtain⟨f,hf,rfl⟩:=w3a.1 ha
  have:b=[122,122,57]:=by simpa [zzF] using hb
  rw[this];exact hn f hf
theorem z6L {d:DImage} {x:DInstr} (hx:x=yieldI∨x=argI) (ht:d.texts.length≤31) (hf:d.funcs.length≤31) (hc:(codI d).length≤10000) (he:err09 d=0) (hn: ∀f∈d.funcs,f.name≠[122,122,57]):err09 (moreI d moreT (zzF x))=0:=by
 have h:=za6 hx ht hf (YE he) hn
 have h2:=zag hx ht hf hc
 unfold err09
 rw[zD h,if_pos rfl,if_neg (by omega)]
theorem z7y {d:DImage} (ht:d.texts.length≤31) (hf:d.funcs.length≤31) (hc:(codI d).length≤10000) (he:err09 d=0) (h0:(faultS d).2.2=0) (hn: ∀f∈d.funcs,f.name≠[122,122,57]):(faultS (moreI d moreT (zzF yieldI))).2.2=0:=by
 have h1:1≤d.funcs.length:=(YE he).2.2.1
 have hp: ∀j,j<d.funcs.length→(wrongF d j).2=0:=by
  rcases Qb he with⟨_,hp⟩|⟨g,hg,_,hz,hq⟩
  ·exact hp
  ·rw[hq] at h0;exact absurd h0 hz
 rw[QT (z6L (.inl rfl) ht hf hc he hn)]
 intro j hj
 have hj':j<d.funcs.length+1:=by simpa [moreI] using hj
 by_cases e:j<d.funcs.length
 ·exact z06 h1 e (hp j e)
 ·have:j=d.funcs.length:=by omega
  subst this
  have e2:fnA (moreI d moreT (zzF yieldI)).funcs d.funcs.length=zzF yieldI:=z6D
  unfold wrongF
  rw[e2,zea,zaA _ (by omega),if_neg (fun q=>q.2 rfl)]
theorem z7x {d:DImage} (ht:d.texts.length≤31) (hf:d.funcs.length≤31) (hc:(codI d).length≤10000) (he:err09 d=0) (h0:(faultS d).2.2=0) (hn: ∀f∈d.funcs,f.name≠[122,122,57]):faultS (moreI d moreT (zzF argI))=((d.funcs.length:Int),0,16):=by
 have h1:1≤d.funcs.length:=(YE he).2.2.1
 have hp: ∀j,j<d.funcs.length→(wrongF d j).2=0:=by
  rcases Qb he with⟨_,hp⟩|⟨g,hg,_,hz,hq⟩
  ·exact hp
  ·rw[hq] at h0;exact absurd h0 hz
 have e2:fnA (moreI d moreT (zzF argI)).funcs d.funcs.length=zzF argI:=z6D
 have hw:wrongF (moreI d moreT (zzF argI)) d.funcs.length=(0,16):=by
  unfold wrongF
  rw[e2,zaz _ (by omega),if_neg (fun q=>absurd q.1 (by decide))]
 rw[YD (z6L (.inr rfl) ht hf hc he hn) (g:=d.funcs.length) (by simp[moreI]) (fun j hj=>z06 h1 hj (hp j hj)) (by rw[hw];decide),hw]
theorem z8U {d:DImage} {x:DInstr} (hx:x=yieldI∨x=argI) (hw:WfImage d):WfImage (moreI d moreT (zzF x)):=by
 refine⟨hw.types,fun t ht=> ?_,fun f hf=> ?_⟩
 ·rcases w0a.1 ht with h|h
  ·exact hw.texts t h
  ·rw[w11] at h;subst h;unfold strOk;decide
 ·rcases w0a.1 hf with h|h
  ·exact hw.funcs f h
  ·rw[w11] at h;subst h
   have hr: ∀r∈[(⟨0,0⟩:DRun)],WfRun r:=fun r hr=>by
    rw[w11] at hr;subst hr
    exact⟨by unfold in64;decide,by unfold inU64;decide⟩
   refine⟨show strOk [122,122,57] by unfold strOk;decide,show in64 0 by unfold in64;decide,show in64 (-1) by unfold in64;decide,fun s hs=>by simp[zzF] at hs,fun y hy=> ?_,hr,hr⟩
   have:y=x∨y=⟨34,-1,0,0⟩:=by simpa [zzF] using hy
   rcases this with rfl|rfl
   ·rcases hx with rfl|rfl
    ·exact⟨by unfold inU8;decide,by unfold in64;decide,by unfold in64;decide,by unfold in64;decide⟩
    ·exact⟨by unfold inU8;decide,by unfold in64;decide,by unfold in64;decide,by unfold in64;decide⟩
   ·exact⟨by unfold inU8;decide,by unfold in64;decide,by unfold in64;decide,by unfold in64;decide⟩
theorem zf1 (d:DImage) (x:AV) (hx:IsImage d x) (hw:WfImage d) (m:Mem) (hfl:m.floor≤m.stk.length+1):
  Okv tab vB [x] m (.bool (!great09 d&&(faultS d).2.2==0)):=by
 have hx':=hx
 obtain⟨ty,tx,fs,rfl,h0,h1,h2⟩:=hx
 refine zf UN ?_
 obtain⟨stk,cur,nx,live,fl⟩:=m
 dsimp only at hfl
 have hf':fl≤(stk++[cur]).length+1:=by simp;omega
 have hG:=fun m=>(XY d _ hx' m).eq
 simp only[qe,List.map,go_sem,reduceIte,G3,G5,G0,G4,G1,G2,hG]
 generalize callNx tab xI _ _=nz
 cases hg:great09 d
 case true=>
  simp only[go_sem,reduceIte,G3,G5,G0,G4,G1,G2]
  rw[z6 rfl rfl,z8]
  exact⟨⟨_,rfl⟩,rfl⟩
 have hC:=fun c n lv=>(zaT d _ hx' hw (SmallI.of hg) ⟨stk++[cur],c,n,lv,fl⟩ hf').eq
 simp only[go_sem,reduceIte,G3,G5,G0,G4,G1,G2,hC]
 rw[z6 rfl rfl,z8]
 exact⟨⟨_,rfl⟩,rfl⟩
theorem zf2 (m:Mem) (hfl:m.floor≤m.stk.length+1):Okv tab yG [] m (.agg [.int .u8 34,.int .i64 (-1),.int .i64 0,.int .i64 0]):=by
 refine zf UO ?_
 obtain⟨stk,cur,nx,live,fl⟩:=m
 dsimp only at hfl
 have hf':fl≤(stk++[cur]).length:=by simp;omega
 simp only[qf,List.map,go_sem,reduceIte,G3,G5,G0,G4,G1,G2,evBuild]
 rw[z6 rfl rfl,z8]
 exact⟨⟨_,rfl⟩,rfl⟩
theorem zbJ {S:List (List Blk)} {M:List Blk} {nx fl j st n:Nat} {live:List (List Nat)} {cs y:List AV} (hb:M[j]? =some ⟨st,cs⟩) (hl:cs.length=n*7) (hn:n≤1000) (hfl:fl≤S.length):
  evApp ⟨S,M,nx,live,fl⟩ 7 128 (.grow 7 S.length j st n) (.list 7 .full [.agg y])=some (.grow 7 S.length j nx (n+1),⟨S,M.set j ⟨nx,cs++y⟩,nx+1,live,fl⟩):=by
 have hel: ∀m:Mem,m.elems 7 (.list 7 .full [.agg y])=some [.agg y]:=fun m=>zh m 7 .full [.agg y]
 have hblk:Mem.blk ⟨S,M,nx,live,fl⟩ S.length j st=some cs:=by simp[Mem.blk,Mem.row,hb]
 unfold evApp
 simp only[hel,hblk,beq_self_eq_true,Bool.true_and,w1d]
 rw[if_pos (by simp only[w0e,decide_eq_true_eq];omega)]
 simp only[Mem.put,beq_self_eq_true,if_true,w30,List.flatMap_nil,w1a,AV.cells,w2f (show cs.length≤n*7 by omega)]
theorem RowsN.last {L:Nat} {cur:List Blk} {ex:Nat} {f:DFunc}: ∀{fs:List DFunc} {lo hi:Nat} {cs:List AV},RowsN L cur ex lo (fs++[f]) cs hi→
  ∃cs0 v0 v1 v2 v3 mid,cs=cs0++[.str f.name,.int .i64 f.params,.int .i64 f.result,v0,v1,v2,v3]∧RowsN L cur ex lo fs cs0 mid∧IsSl IsField 2 f.slots v0∧CodeB L cur ex mid f.code v1 hi∧IsSl IsRun 2 f.sizes v2∧IsSl IsRun 2 f.lives v3
 | [],lo,hi,_,⟨v0,v1,v2,v3,r,mid,e,h0,h1,h2,h3,h4,h5⟩=>⟨[],v0,v1,v2,v3,lo,by rw[e,h4];rfl,⟨rfl,rfl⟩,h0,by rw[h5];exact h1,h2,h3⟩
 |g::fs,lo,hi,_,⟨u0,u1,u2,u3,r,mid,e,h0,h1,h2,h3,h4⟩=>by
  obtain⟨cs0,v0,v1,v2,v3,mid',e',q,q0,q1,q2,q3⟩:=RowsN.last h4
  exact⟨_,v0,v1,v2,v3,mid',by rw[e,e',←w0f],⟨u0,u1,u2,u3,cs0,mid,rfl,h0,h1,h2,h3,q⟩,q0,q1,q2,q3⟩
theorem z5t (hal: ∀m,CALL tab zE [] m=some (.bool true,m)) (d:DImage) (x:AV) (hx:IsImage d x) (hw:WfImage d) (m:Mem) (hfl:m.floor≤m.stk.length+1):
  Okv tab qb [x] m (.bool true):=by
 have hx':=hx
 obtain⟨ty,tx,fs,rfl,h0,h1,h2⟩:=hx
 refine zf Zf ?_
 obtain⟨stk,cur,nx,live,fl⟩:=m
 dsimp only at hfl
 have hf':fl≤(stk++[cur]).length+1:=by simp;omega
 have hf0:fl≤(stk++[cur]).length:=by simp;omega
 have hF:=fun c n lv=>(zf1 d _ hx' hw ⟨stk++[cur],c,n,lv,fl⟩ hf').eq
 simp only[xS,List.map,go_sem,reduceIte,G3,G5,G0,G4,G1,G2,hF]
 generalize callNx tab vB _ _=nz
 by_cases hfit:great09 d=false∧(faultS d).2.2=0
 case neg=>
  have hb:(!great09 d&&(faultS d).2.2==0)=false:=by
   cases hg:great09 d
   ·have:=fun h=>hfit ⟨hg,h⟩
    simpa using this
   ·rfl
  rw[hb]
  simp only[go_sem,reduceIte,G3,G5,G0,G4,G1,G2,hal]
  rw[z6 rfl rfl,z8]
  exact⟨⟨_,rfl⟩,rfl⟩
 obtain⟨hg,hz⟩:=hfit
 have hb:(!great09 d&&(faultS d).2.2==0)=true:=by rw[hg,hz];rfl
 rw[hb]
 have he:err09 d=0:=Classical.byContradiction fun h=>by rw[Tv h] at hz;exact h hz
 have hsm:=SmallI.of hg
 have hfi:=YE he
 by_cases ht:(d.texts.length:Int)>31
 ·simp only[go_sem,reduceIte,G3,G5,G0,G4,G1,G2,h1.len,ht,hal]
  rw[z6 rfl rfl,z8]
  exact⟨⟨_,rfl⟩,rfl⟩
 by_cases hfn:(d.funcs.length:Int)>31
 ·simp only[go_sem,reduceIte,G3,G5,G0,G4,G1,G2,h1.len,h2.len,ht,hfn,hal]
  rw[z6 rfl rfl,z8]
  exact⟨⟨_,rfl⟩,rfl⟩
 simp only[go_sem,reduceIte,G3,G5,G0,G4,G1,G2,h1.len,h2.len,ht,hfn,h0.one,h1.one,h2.one]
 refine(UY d _ hx' hw hfi _).xv fun yc t1 n1 hoc=> ?_
 obtain⟨e1,he1⟩: ∃e',pushToks t1 ([]::live)=e'::live:=by cases t1<;>exact⟨_,rfl⟩
 by_cases hco:((codI d).length:Int)>10000
 ·simp only[go_sem,reduceIte,G3,G5,G0,G4,G1,G2,he1,hoc.len,hco,hal]
  rw[z6 rfl rfl,z8]
  exact⟨⟨_,rfl⟩,rfl⟩
 have hnf:1≤d.funcs.length:=hfi.2.2.1
 simp only[go_sem,reduceIte,G3,G5,G0,G4,G1,G2,he1,hoc.len,hco,h0.one,h1.one,h2.one]
 refine(z8A d _ hx' hsm hnf _ hf').xv fun r bs n2 ts ⟨z0,z1,j,st,cs,hi,hr,hz0,hz1,hb,hj,hrow,hown,hhi⟩=> ?_
 subst hr
 obtain⟨e2,he2,hown2⟩: ∃e',pushToks ts (e1::live)=e'::live∧Own IsStr 1 z1 d.texts e':=⟨ts++e1,yn _ _ _,hown.more _⟩
 have g0:([⟨nx,[ty,tx,fs]⟩]++bs:List Blk)[0]? =some ⟨nx,[ty,tx,fs]⟩:=rfl
 dsimp only at hb hj hrow hhi⊢
 generalize hLe:([⟨nx,[ty,tx,fs]⟩]++bs:List Blk)=L at*
 have hj1:1≤j:=hj
 have hjl:j<L.length:=(w06.1 hb).1
 have gr1: ∀a b c e f,(AV.grow a b c e f).one=true:=fun _ _ _ _ _=>rfl
 simp only[go_sem,reduceIte,G3,G5,G0,G4,G1,G2,he2,hz0.one,hz1.one,hz0.refs_cells,hz1.refs_cells,vT,jz,gr1]
 have hEnd:=fun c n lv=>(zf2 ⟨stk++[cur],c,n,lv,fl⟩ hf').eq
 refine hown2.xv (cs:=[moreT]) (zh · 1 .full [.str moreT]) (show All2 IsStr [moreT] [.str moreT] from⟨rfl,trivial⟩) (by have:=hsm.x;simp;omega) fun z1' n3 e3 hown3=> ?_
 have hz1':=hown3.sl (by have:=hsm.x;simp;omega)
 simp only[go_sem,reduceIte,G3,G5,G0,G4,G1,G2,hown3.one,hz1'.refs_cells,vT,jz,hEnd,evBuild,yX,XH,z97]
 generalize callNx tab yG _ _=n4
 have gG:IsFunc (zzF yieldI) (.agg [.str [122,122,57],.int .i64 0,.int .i64 (-1),.nils,.list 4 .full [.agg [.int .u8 31,.int .i64 0,.int .i64 0,.int .i64 0],.agg [.int .u8 34,.int .i64 (-1),.int .i64 0,.int .i64 0]],.list 2 .full [.agg [.int .i64 0,.int .u64 0]],.list 2 .full [.agg [.int .i64 0,.int .u64 0]]]):=
  ⟨_,_,_,_,rfl,.nil 2,.mk (show All2 IsInstr [yieldI,⟨34,-1,0,0⟩] _ from⟨rfl,rfl,trivial⟩) (by decide),.mk (show All2 IsRun [⟨0,0⟩] _ from⟨rfl,trivial⟩) (by decide),.mk (show All2 IsRun [⟨0,0⟩] _ from⟨rfl,trivial⟩) (by decide)⟩
 generalize hGl:[AV.str [122,122,57],.int .i64 0,.int .i64 (-1),.nils,.list 4 .full [.agg [.int .u8 31,.int .i64 0,.int .i64 0,.int .i64 0],.agg [.int .u8 34,.int .i64 (-1),.int .i64 0,.int .i64 0]],.list 2 .full [.agg [.int .i64 0,.int .u64 0]],.list 2 .full [.agg [.int .i64 0,.int .u64 0]]]=G at*
 obtain⟨G',rfl⟩: ∃G',G= .str [122,122,57]::G':=⟨_,hGl.symm⟩
 clear hGl
 have hGlen:=QR gG
 have m0: ∀A B,(L++[A]++[B])[0]? =some ⟨nx,[ty,tx,fs]⟩:=fun A B=>by rw[Uj _ _ _ (by omega)];exact g0
 have mj: ∀A B,(L++[A]++[B])[j]? =some ⟨st,cs⟩:=fun A B=>by rw[Uj _ _ _ hjl];exact hb
 have mK: ∀A B,(L++[A]++[B])[L.length]? =some A:=fun A B=>UJ _ _ _
 have mG: ∀A B,(L++[A]++[B])[L.length+1]? =some B:=fun A B=>XH _ _ _
 have ml: ∀A B,(L++[A]++[B]).length=L.length+2:=fun A B=>by simp
 have mr: ∀A B,RowsN (stk++[cur]).length (L++[A]++[B]) j (1+3) d.funcs cs hi:=fun A B=>hrow.cur fun i _ _ b hb=>by rw[Uj _ _ _ (w06.1 hb).1];exact hb
 specialize m0 ⟨n2,[z0,z1',.grow 7 (stk++[cur]).length j st d.funcs.length]⟩ ⟨n4,.str [122,122,57]::G'⟩
 specialize mj ⟨n2,[z0,z1',.grow 7 (stk++[cur]).length j st d.funcs.length]⟩ ⟨n4,.str [122,122,57]::G'⟩
 specialize mK ⟨n2,[z0,z1',.grow 7 (stk++[cur]).length j st d.funcs.length]⟩ ⟨n4,.str [122,122,57]::G'⟩
 specialize mG ⟨n2,[z0,z1',.grow 7 (stk++[cur]).length j st d.funcs.length]⟩ ⟨n4,.str [122,122,57]::G'⟩
 specialize ml ⟨n2,[z0,z1',.grow 7 (stk++[cur]).length j st d.funcs.length]⟩ ⟨n4,.str [122,122,57]::G'⟩
 specialize mr ⟨n2,[z0,z1',.grow 7 (stk++[cur]).length j st d.funcs.length]⟩ ⟨n4,.str [122,122,57]::G'⟩
 clear hLe hb g0 hrow
 generalize L++[⟨n2,[z0,z1',.grow 7 (stk++[cur]).length j st d.funcs.length]⟩]++[⟨n4,.str [122,122,57]::G'⟩]=M0 at*
 have hK0:1≤L.length:=by omega
 have hjK:j≠L.length:=by omega
 generalize L.length=K at*
 have tk0:M0.take (K+1+1)=M0:=w2f (by omega)
 refine zb (α:=Nat) (fun k σ=>k≤d.funcs.length∧(∀i,i<k→(fnA d.funcs i).name≠[122,122,57])∧ ∃nz,heads [1,3,4,5] (K+1+1) σ=⟨tmps 107 [(1,.ptr (stk++[cur]).length 0 nx 0),(3,.ptr (stk++[cur]).length K n2 0),(4,.ptr (stk++[cur]).length (K+1) n4 0),(5,.int .i64 k)],⟨stk++[cur],M0,nz,e3::live,fl⟩⟩) (fun k=>d.funcs.length-k) 0 ?_ ?_
 ·refine⟨w0c _,fun i hi=>absurd hi (by omega),?_⟩
  simp only[go_sem,reduceIte,G3,G5,G0,G4,G1,G2,tk0]
  exact⟨_,rfl⟩
 ·rintro k σ ⟨hk,hnm,nz,hσ⟩
  rw[hσ]
  clear hσ σ
  dsimp only at hk hnm⊢
  by_cases h:k<d.funcs.length
  ·have hsucc:=zd h h2.max
   obtain⟨w0,w1,w2,w3,ef,q0,q1,q2,q3⟩:=h2.fnA h
   have hat:=h2.at .i64 h
   simp only[go_sem,reduceIte,G3,G5,G0,G4,G1,G2,m0,mG,h2.len,w03,h,hat,ef,evStr]
   by_cases hne:(fnA d.funcs k).name=[122,122,57]
   ·simp only[go_sem,reduceIte,G3,G5,G0,G4,G1,G2,show((fnA d.funcs k).name==[122,122,57])=true from beq_iff_eq.2 hne,hal]
    rw[z6 rfl rfl,z8]
    exact⟨⟨_,rfl⟩,rfl⟩
   ·simp only[go_sem,reduceIte,G3,G5,G0,G4,G1,G2,show((fnA d.funcs k).name==[122,122,57])=false from beq_eq_false_iff_ne.2 hne,hsucc,tk0]
    exact⟨k+1,by omega,h,fun i hi=>by
     by_cases e:i=k
     ·rw[e];exact hne
     ·exact hnm i (by omega),_,rfl⟩
  ·have hkn:k=d.funcs.length:=by omega
   subst hkn
   have htv:takeV true 7 (.str [122,122,57]::G')=some (.agg (.str [122,122,57]::G')):=(IsFunc.agg gG).1
   have hga:=fun n lv=>zbJ (S:=stk++[cur]) (M:=M0) (nx:=n) (live:=lv) (fl:=fl) (y:= .str [122,122,57]::G') mj mr.len (by have:=hsm.f.1;omega) hf0
   have sK: ∀X:Blk,(M0.set j X)[K]? =some ⟨n2,[z0,z1',.grow 7 (stk++[cur]).length j st d.funcs.length]⟩:=fun X=>by rw[w20 hjK];exact mK
   have hGl7:(G'.length+1==7)=true:=by have:=hGlen;simp at this⊢;omega
   have hGo:allOne G'=true:=by
    obtain⟨c,ec,_,hp⟩:=z7T gG
    injection ec with ec
    exact TP fun x hx=>hp x (by rw[←ec];exact w18 _ hx)
   simp only[go_sem,reduceIte,G3,G5,G0,G4,G1,G2,m0,h2.len,w03,h,mK,mG,htv,hga,sK,gr1,hGl7,hGo,show∀a b c e f,(AV.grow a b c e f).cells=[AV.grow a b c e f] from fun _ _ _ _ _=>rfl]
   have hjl2:j<M0.length:=(w06.1 mj).1
   have hKl2:K<M0.length:=(w06.1 mK).1
   obtain⟨M1,n6,cs1,hfr,hf1,hf2,hf3,hf4⟩:=z6A (t:=3) (S:=stk++[cur]) (M:=(M0.set j ⟨nz,cs++ .str [122,122,57]::G'⟩).set K ⟨n2,[z0,z1',.grow 7 (stk++[cur]).length j nz (d.funcs.length+1)]⟩) (nx:=nz+1) (fl:=fl) (live:=e3::live) (K:=K) (sk:=n2) (j:=j) (st:=nz) (z0:=z0) (z1:=z1') (fs:=d.funcs) (gs:=[zzF yieldI]) (cs:=cs) (gy:= .str [122,122,57]::G') (lo:=1+3) (hi:=hi) (w50 (by rw[List.length_set];exact hKl2)) (by rw[w20 (fun e=>hjK e.symm),w50 hjl2])
    (mr.cur2 fun i _ hi1 hi2 b hb=>by rw[w20 (by omega),w20 (by omega)];exact hb) ⟨_,[],gG,by simp,rfl⟩ (by omega) hjK hf0 (uo hz0) (uo hz1') (fun f hf=>(hsm.f.2 f hf).2.1)
   rw[hfr _ rfl,z8]
   have hxy:yieldI=yieldI∨yieldI=argI:= .inl rfl
   have hI:IsImage (moreI d moreT (zzF yieldI)) (.agg [z0,z1',.list 7 .none (chunk 7 (d.funcs.length+1) cs1)]):=⟨_,_,_,rfl,hz0,hz1',by have:=hf2.sl (by have:=hsm.f.1;simp;omega);rw[w04] at this;exact this⟩
   have hw2:=z8U hxy hw
   have hnm': ∀f∈d.funcs,f.name≠[122,122,57]:=fun f hf=>by
    obtain⟨i,hi,rfl⟩:=List.getElem_of_mem hf
    rw[z0N hi];exact hnm i hi
   have hright:=z7y (by omega) (by omega) (by omega) he hz hnm'
   have hP:=fun c n lv=>(zaU _ _ hI hw2 ⟨stk++[cur],c,n,lv,fl⟩ hf').eq
   rw[hright] at hP
   simp only[go_sem,reduceIte,G3,G5,G0,G4,G1,G2,hf1,hP,show((0:Int) !=0)=false from rfl]
   generalize callNx tab qt _ _=n7
   have hsm2:SmallI (moreI d moreT (zzF yieldI)):=⟨hsm.t,by simp[moreI];omega,by simp[moreI];omega,fun f hf=>by
    rcases w0a.1 hf with hf|hf
    ·exact hsm.f.2 f hf
    ·obtain rfl:=w11.1 hf
     decide⟩
   refine(z8A _ _ hI hsm2 (by simp[moreI]) _ hf').xv fun r2 bs2 n8 ts2 ⟨y0,y1,j2,st2,cs2,hi2,hr2,hy0,hy1,hb2,hj2,hrow2,_,hhi2⟩=> ?_
   subst hr2
   obtain⟨e4,he4⟩: ∃e',pushToks ts2 (e3::live)=e'::live:=by cases ts2<;>exact⟨_,rfl⟩
   obtain⟨ca,v0,v1,v2,v3,mid,hcs2,hrowA,hv0,hv1,hv2,hv3⟩:=RowsN.last hrow2
   rcases hv1 with⟨hno,_⟩|⟨jc,stc,ks,hv1,hbc,hks,hlo,hne,hhi3,_⟩
   ·cases hno
   have hM1:M1.length=K+2:=by rw[hf3];simp[ml]
   have o0:M1[0]? =some ⟨nx,[ty,tx,fs]⟩:=by rw[hf4 0 (by omega) (by omega),w20 (by omega),w20 (by omega)];exact m0
   have p0:(M1++bs2)[0]? =some ⟨nx,[ty,tx,fs]⟩:=by rw[w07 (by omega)];exact o0
   have hl2:M1.length≤(M1++bs2).length:=by simp
   have hmid:=hrowA.le
   dsimp only at hb2 hj2 hrow2 hhi2 hbc hlo hrowA⊢
   generalize (M1++bs2:List Blk)=M2 at*
   have hj2l:j2<M2.length:=(w06.1 hb2).1
   have hjcl:jc<M2.length:=(w06.1 hbc).1
   have a0: ∀b:Blk,(M2++[b])[0]? =some ⟨nx,[ty,tx,fs]⟩:=fun b=>by rw[w07 (by omega)];exact p0
   have a2: ∀b:Blk,(M2++[b])[j2]? =some ⟨st2,cs2⟩:=fun b=>by rw[w07 hj2l];exact hb2
   have ac: ∀b:Blk,(M2++[b])[jc]? =some ⟨stc,ks⟩:=fun b=>by rw[w07 hjcl];exact hbc
   have hfl2:(moreI d moreT (zzF yieldI)).funcs.length=d.funcs.length+1:=by simp[moreI]
   have hat2:takeV false 1 (cs2.drop (d.funcs.length*7+4))=some (.grow 4 (stk++[cur]).length jc stc 2):=by
    rw[hcs2,←hrowA.len,List.drop_append,List.drop_of_length_le (by omega),show ca.length+4-ca.length=4 by omega,hv1]
    rfl
   have hia:evIaddr 7 (.grow 7 (stk++[cur]).length j2 st2 (d.funcs.length+1)) (.int .i64 d.funcs.length)=some (.ptr (stk++[cur]).length j2 st2 (d.funcs.length*7)):=by
    simp only[evIaddr,idx]
    rw[if_pos ⟨by omega,by omega⟩]
    rfl
   have hib:evIaddr 4 (.grow 4 (stk++[cur]).length jc stc 2) (.int .i64 0)=some (.ptr (stk++[cur]).length jc stc 0):=rfl
   have hks8:ks.length=8:=hks.len
   simp only[go_sem,reduceIte,G3,G5,G0,G4,G1,G2,he4,hy0.one,hy1.one,hy0.refs_cells,hy1.refs_cells,vT,jz,gr1,a0,a2,ac,hfl2,h2.len,hia,hib,hat2,evBuild,hks8]
   have hjcl3: ∀b:Blk,jc<(M2++[b]).length:=fun b=>by simp;omega
   have hjcK:jc≠M2.length:=by omega
   have hrowB:RowsN (stk++[cur]).length ((M2++[Blk.mk n8 [y0,y1,.grow 7 (stk++[cur]).length j2 st2 (d.funcs.length+1)]]).set jc (Blk.mk stc (.int .u8 24:: .int .i64 0:: .int .i64 0:: .int .i64 0::ks.drop 4))) j2 (M1.length+3) d.funcs ca mid:=hrowA.cur2 fun i _ _ hi b hb=>by
    rw[w20 (by omega),w07 (w06.1 hb).1];exact hb
   have hcodeB:CodeB (stk++[cur]).length ((M2++[Blk.mk n8 [y0,y1,.grow 7 (stk++[cur]).length j2 st2 (d.funcs.length+1)]]).set jc (Blk.mk stc (.int .u8 24:: .int .i64 0:: .int .i64 0:: .int .i64 0::ks.drop 4))) j2 mid (zzF argI).code (.grow 4 (stk++[cur]).length jc stc 2) (jc+1):=
    .inr ⟨jc,stc,_,rfl,w50 (hjcl3 _),IRows.set (x:=argI) (j:=0) rfl hks (by decide),hlo,hne,rfl,fun h=>by cases h⟩
   have hrowC:=hrowB.snoc (f:=zzF argI) hv0 hv2 hv3 hcodeB
   obtain⟨M4,n9,cs4,hfr4,hg1,hg2,hg3,hg4⟩:=z6A (t:=6) (S:=stk++[cur]) (nx:=n8+1) (fl:=fl) (live:=e4::live) (K:=M2.length) (sk:=n8) (j:=j2) (st:=st2) (z0:=y0) (z1:=y1) (M:=(M2++[Blk.mk n8 [y0,y1,.grow 7 (stk++[cur]).length j2 st2 (d.funcs.length+1)]]).set jc (Blk.mk stc (.int .u8 24:: .int .i64 0:: .int .i64 0:: .int .i64 0::ks.drop 4))) (fs:=d.funcs++[zzF argI]) (gs:=[]) (gy:=[]) (hb:=by
     rw[w20 hjcK,vT];simp) (hc:=by rw[w20 (fun e=>hne e),a2,w1a];simp only[hcs2,hv1];rfl) hrowC rfl (by omega) (by omega) hf0 (uo hy0) (uo hy1) (fun f hf=>by
     rcases w0a.1 hf with hf|hf
     ·exact(hsm.f.2 f hf).2.1
     ·obtain rfl:=w11.1 hf
      decide)
   rw[hfr4 _ rfl,z8]
   have hJ:IsImage (moreI d moreT (zzF argI)) (.agg [y0,y1,.list 7 .none (chunk 7 (d.funcs.length+1) cs4)]):=⟨_,_,_,rfl,hy0,hy1,by have:=hg2.sl (by have:=hsm.f.1;simp;omega);rw[w1a,w04] at this;exact this⟩
   have hw3:=z8U (x:=argI) (.inr rfl) hw
   have hQ:=fun c n lv=>(z5q _ _ hJ hw3 ⟨stk++[cur],c,n,lv,fl⟩ hf').eq
   unfold faultV at hQ
   rw[z7x (by omega) (by omega) (by omega) he hz hnm'] at hQ
   have hM3:M4.length=M2.length+1:=by rw[hg3];simp
   have o4:M4[0]? =some ⟨nx,[ty,tx,fs]⟩:=by rw[hg4 0 (by omega) (by omega),w20 (by omega),a0]
   have hg1':M4[M2.length]? =some ⟨n8,[y0,y1,.list 7 .none (chunk 7 (d.funcs.length+1) cs4)]⟩:=by rw[hg1];simp
   simp only[go_sem,reduceIte,G3,G5,G0,G4,G1,G2,hg1',hQ,o4,h2.len,hal]
   rw[z6 rfl rfl,z8]
   exact⟨⟨_,rfl⟩,rfl⟩
end Go.Proofs.W
end
