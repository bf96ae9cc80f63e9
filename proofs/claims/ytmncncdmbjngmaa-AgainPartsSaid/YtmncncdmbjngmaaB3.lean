/-
  Part 4 of the proof, shared by claims of this seat: G7A3, G7A4, G7A5, G7A6, G7A7, G7A8, G7A9, G7A10, G7A11, G7A12, G7A13, G7A14, G7A15, G7Tie, NVr, G7Read.
-/
import Derived.Test.YtmncncdmbjngmaaB2
import Derived.Test.YtmncncdmbjngmaaProg
import Derived.KernelRfl
set_option maxHeartbeats 64000000
set_option linter.unusedVariables false
set_option linter.unusedSimpArgs false
open Nat renaming reduceAdd → G0, reduceSub → G1, reduceEqDiff → G2, reduceLeDiff → G3, reduceBEq → G4, reduceLT → G5, le_refl → w0e, zero_le → w0f
open Int renaming reduceLT → G8, ofNat_lt → w06
open Option renaming map_some → w08, getD_some → w20, bind_some → w2b, isSome_iff_exists → w37
open List renaming getD_eq_getElem?_getD → w02, getElem?_eq_some_iff → w03, getElem?_eq_getElem → w05, mem_append → w07, getElem?_append_left → w0a, getElem?_append_right → w0d, length_drop → w10, length_take → w11, append_assoc → w12, mem_cons_of_mem → w13, eq_nil_of_length_eq_zero → w14, length_append → w15, getElem?_map → w16, getElem?_eq_none → w17, mem_cons_self → w18, append_nil → w19, mem_cons → w1c, map_append → w1e, map_cons → w21, length_cons → w23, take_succ_eq_append_getElem → w25, flatMap_cons → w26, mem_singleton → w27, take_length → w28, all_eq_true → w2c, mem_map → w2f, drop_eq_getElem_cons → w32, take_of_length_le → w34, mem_range → w35, getElem?_set_self → w38
open Bool renaming and_eq_true → w04, false_eq_true → w0b, or_eq_true → w1d, or_eq_false_iff → w2d, not_true → w36
section
namespace Go.Proofs.W
open Go.Vs
set_option linter.unusedSimpArgs false
set_option maxRecDepth 100000
structure Sec where
 kind:UInt8
 data:List UInt8
instance:Inhabited Sec:=⟨⟨0,[]⟩⟩
def IsSec (s:Sec) (y:AV):Prop:= ∃v,y= .agg [.int .u8 s.kind.toNat,v]∧IsBytes s.data v
def ordF:Nat→List Sec→Bool
 |_,[]=>true
 |last,s::r=> !(decide (s.kind.toNat≤last)||decide (7<s.kind.toNat))&&ordF s.kind.toNat r
def lastAt (l:List Sec):Nat→Nat
 |0=>0
 |k+1=>(l.getD k default).kind.toNat
theorem vk {l:List Sec} {k:Nat} (h:k<l.length):lastAt l (k+1)=l[k].kind.toNat:=by
 show(l.getD k default).kind.toNat=_
 rw[w02,w05 h];rfl
theorem jE {l:List Sec} {k:Nat} (h:k<l.length):ordF (lastAt l k) (l.drop k)=(!(decide (l[k].kind.toNat≤lastAt l k)||decide (7<l[k].kind.toNat))&&ordF (lastAt l (k+1)) (l.drop (k+1))):=by
 rw[w32 h,ordF]
 rw[vk h]
theorem xC: ∀(l:List Sec) (last:Nat),last≤7→ordF last l=true→l.length+last≤7
 | [],last,h,_=>by simpa using h
 |s::r,last,h,h2=>by
  simp only[ordF,w04,Bool.not_eq_true',w2d,decide_eq_false_iff_not] at h2
  have:=xC r s.kind.toNat (by omega) h2.2
  rw[w23];omega
theorem vZ {l:List Sec} {y:AV} (hy:IsSl IsSec 2 l y) {k:Nat} (h:k<l.length): ∃v,nth y k= .agg [.int .u8 l[k].kind.toNat,v]∧IsBytes l[k].data v:=hy.nth h
theorem ve (l:List Sec) (y:AV) (hy:IsSl IsSec 2 l y) (m:Mem) (hfl:m.floor≤m.stk.length+1):Okv tab zt [y] m (.bool (ordF 0 l)):=by
 refine zx vf ?_
 obtain⟨stk,cur,nx,live,fl⟩:=m
 have hf:fl≤(stk++[cur]).length:=by simp at hfl⊢;omega
 simp only[yA,List.map,go_sem,reduceIte,G0,G1,G2,G3,G4,G5,hy.len]
 refine zk (α:=Nat) (fun k σ=>(k≤l.length∧ordF 0 l=ordF (lastAt l k) (l.drop k))∧ ∃nz,heads [3,6,7,8] 0 σ=⟨tmps 24 [(3,.int .u8 ((lastAt l k:Nat):Int)),(6,y),(7,.int .i64 l.length),(8,.int .i64 k)],⟨stk++[cur],[],nz,[]::live,fl⟩⟩) (fun k=>l.length-k) 0 ?_ ?_
 ·refine⟨⟨w0f _,rfl⟩,?_⟩
  simp only[go_sem,reduceIte,G0,G1,G2,G3,G4,G5]
  exact⟨_,rfl⟩
 ·rintro k σ ⟨⟨hk,ho⟩,nz,hσ⟩
  rw[hσ]
  clear hσ σ
  dsimp only at hk ho⊢
  by_cases h:k<l.length
  ·obtain⟨v,hn,hv⟩:=vZ hy h
   have hat:=hy.at .i64 h
   have v1:=hv.one
   have hl:=vk h
   rw[jE h] at ho
   by_cases c1:l[k].kind.toNat≤lastAt l k
   ·have d1:((l[k].kind.toNat:Int)≤((lastAt l k:Nat):Int)):=by omega
    simp only[go_sem,reduceIte,G0,G1,G2,G3,G4,G5,w06,h,hat,hn,v1,d1]
    rw[z5 rfl rfl,z6]
    exact⟨⟨_,rfl⟩,by rw[ho];simp[c1]⟩
   ·have d1: ¬((l[k].kind.toNat:Int)≤((lastAt l k:Nat):Int)):=by omega
    by_cases c2:7<l[k].kind.toNat
    ·have d2:((l[k].kind.toNat:Int)>7):=by omega
     simp only[go_sem,reduceIte,G0,G1,G2,G3,G4,G5,w06,h,hat,hn,v1,d1,d2]
     rw[z5 rfl rfl,z6]
     exact⟨⟨_,rfl⟩,by rw[ho];simp[c2]⟩
    ·have d2: ¬((l[k].kind.toNat:Int)>7):=by omega
     simp only[go_sem,reduceIte,G0,G1,G2,G3,G4,G5,w06,h,hat,hn,v1,d1,d2,zb h hy.max]
     exact⟨k+1,by omega,⟨h,by rw[ho];simp[c1,c2]⟩,_,by rw[hl]⟩
  ·obtain rfl:k=l.length:=by omega
   simp only[go_sem,reduceIte,G0,G1,G2,G3,G4,G5,w06,h]
   rw[z5 rfl rfl,z6]
   exact⟨⟨_,rfl⟩,by rw[ho,List.drop_length];rfl⟩
theorem xL {l:List Sec} {k:Nat} (h:k<l.length) (hb:l[k].kind.toNat<1∨7<l[k].kind.toNat∨(0<k∧l[k].kind.toNat≤lastAt l k)):ordF (lastAt l k) (l.drop k)=false:=by
 rw[jE h]
 rcases hb with hb|hb|⟨_,hb⟩
 ·have:l[k].kind.toNat≤lastAt l k:=by omega
  simp[this]
 ·simp[hb]
 ·simp[hb]
theorem vI {l:List Sec} {k:Nat} (h:k<l.length) (h1: ¬l[k].kind.toNat<1) (h2: ¬7<l[k].kind.toNat) (h3:k=0∨ ¬l[k].kind.toNat≤lastAt l k):ordF (lastAt l k) (l.drop k)=ordF (lastAt l (k+1)) (l.drop (k+1)):=by
 rw[jE h]
 have: ¬l[k].kind.toNat≤lastAt l k:=by
  rcases h3 with rfl|h3
  ·have:lastAt l 0=0:=rfl
   omega
  ·exact h3
 simp[this,h2]
theorem uR {l:List Sec} {k:Nat} (h:k<l.length) (h0:0<k): ∃p:k-1<l.length,l[k-1].kind.toNat=lastAt l k:=by
 obtain⟨j,rfl⟩: ∃j,k=j+1:=⟨k-1,by omega⟩
 have hj:j<l.length:=by omega
 refine⟨by simpa using hj,?_⟩
 rw[vk hj]
 rfl
theorem vB (l:List Sec) (y:AV) (hy:IsSl IsSec 2 l y) (m:Mem):Okv tab zd [y] m (.bool (ordF 0 l)):=by
 refine zx y5 ?_
 obtain⟨stk,cur,nx,live,fl⟩:=m
 simp only[zy,List.map,go_sem,reduceIte,G0,G1,G2,G3,G4,G5]
 refine zk (α:=Nat) (fun k σ=>(k≤l.length∧ordF 0 l=ordF (lastAt l k) (l.drop k))∧ ∃nz,heads [0,3] 0 σ=⟨tmps 45 [(0,y),(3,.int .i64 k)],⟨stk++[cur],[],nz,[]::live,fl⟩⟩) (fun k=>l.length-k) 0 ?_ ?_
 ·refine⟨⟨w0f _,rfl⟩,?_⟩
  simp only[go_sem,reduceIte,G0,G1,G2,G3,G4,G5]
  exact⟨_,rfl⟩
 ·rintro k σ ⟨⟨hk,ho⟩,nz,hσ⟩
  rw[hσ]
  clear hσ σ
  dsimp only at hk ho⊢
  by_cases h:k<l.length
  ·obtain⟨v,hn,hv⟩:=vZ hy h
   have hat:=hy.at .i64 h
   by_cases c1:l[k].kind.toNat<1
   ·have d1:((l[k].kind.toNat:Int)<1):=by omega
    simp only[go_sem,reduceIte,G0,G1,G2,G3,G4,G5,hy.len,w06,h,hat,hn,d1]
    rw[z5 rfl rfl,z6]
    exact⟨⟨_,rfl⟩,by rw[ho,xL h (.inl c1)]⟩
   have d1: ¬((l[k].kind.toNat:Int)<1):=by omega
   by_cases c2:7<l[k].kind.toNat
   ·have d2:((l[k].kind.toNat:Int)>7):=by omega
    simp only[go_sem,reduceIte,G0,G1,G2,G3,G4,G5,hy.len,w06,h,hat,hn,d1,d2]
    rw[z5 rfl rfl,z6]
    exact⟨⟨_,rfl⟩,by rw[ho,xL h (.inr (.inl c2))]⟩
   have d2: ¬((l[k].kind.toNat:Int)>7):=by omega
   by_cases c0:0<k
   ·have d0:((k:Int)>0):=by omega
    obtain⟨hp,hlast⟩:=uR h c0
    obtain⟨v',hn',hv'⟩:=vZ hy hp
    have ek:IntKind.i64.wrap ((k:Int)-1)=((k-1:Nat):Int):=by rw[z9 (by omega) (by have:=hy.max;omega)];omega
    have hat':=hy.at .i64 hp
    rw[hlast] at hn'
    by_cases c3:l[k].kind.toNat≤lastAt l k
    ·have d3:(((lastAt l k:Nat):Int)≥(l[k].kind.toNat:Int)):=by omega
     simp only[go_sem,reduceIte,G0,G1,G2,G3,G4,G5,hy.len,w06,h,hat,hn,d1,d2,d0,ek,hat',hn',d3]
     rw[z5 rfl rfl,z6]
     exact⟨⟨_,rfl⟩,by rw[ho,xL h (.inr (.inr ⟨c0,c3⟩))]⟩
    ·have d3: ¬(((lastAt l k:Nat):Int)≥(l[k].kind.toNat:Int)):=by omega
     simp only[go_sem,reduceIte,G0,G1,G2,G3,G4,G5,hy.len,w06,h,hat,hn,d1,d2,d0,ek,hat',hn',d3,zb h hy.max]
     exact⟨k+1,by omega,⟨h,by rw[ho,vI h c1 c2 (.inr c3)]⟩,_,rfl⟩
   ·have d0: ¬((k:Int)>0):=by omega
    simp only[go_sem,reduceIte,G0,G1,G2,G3,G4,G5,hy.len,w06,h,hat,hn,d1,d2,d0,zb h hy.max]
    exact⟨k+1,by omega,⟨h,by rw[ho,vI h c1 c2 (.inl (by omega))]⟩,_,rfl⟩
  ·obtain rfl:k=l.length:=by omega
   rw[List.drop_length] at ho
   have hlen:=xC l 0 (by omega) ho
   have hc:((l.length:Int)≤7):=by omega
   simp only[go_sem,reduceIte,G0,G1,G2,G3,G4,G5,hy.len,w06,h,hc]
   rw[z5 rfl rfl,z6]
   exact⟨⟨_,rfl⟩,by rw[ho];rfl⟩
def SRows:List Sec→List AV→Prop
 | [],_=>True
 |s::r,cs=> ∃v rest,cs= .int .u8 s.kind.toNat::v::rest∧IsBytes s.data v∧SRows r rest
theorem SRows.at: ∀{l:List Sec} {cs:List AV},SRows l cs→ ∀{k:Nat} (h:k<l.length),∃v,takeV true 2 (cs.drop (k*2))=some (.agg [.int .u8 l[k].kind.toNat,v])∧takeV false 1 (cs.drop (k*2))=some (.int .u8 l[k].kind.toNat)∧IsBytes l[k].data v
 |s::r,_,⟨v,rest,rfl,h1,h2⟩,0,_=>⟨v,by simp[takeV],by simp[takeV],h1⟩
 |s::r,_,⟨v,rest,rfl,h1,h2⟩,k+1,h=>by
  obtain⟨w,a,b,c⟩:=h2.at (k:=k) (by simpa using h)
  refine⟨w,?_,?_,c⟩
  ·rw[show(k+1)*2=k*2+1+1 by omega];exact a
  ·rw[show(k+1)*2=k*2+1+1 by omega];exact b
theorem yU {L j st:Nat} {l:List Sec} {k:Nat} (h:k<l.length):evIaddr 2 (.grow 2 L j st l.length) (.int .i64 (k:Int))=some (.ptr L j st (k*2)):=by
 simp only[evIaddr,xN .i64 k l.length h,w08]
theorem zu (s L j st n:Nat):evLen (.grow s L j st n)=some (.int .i64 n):=rfl
theorem tz (l:List Sec) (j st:Nat) (cs:List AV) (hr:SRows l cs) (hmax:l.length≤1000) (m:Mem) (hM:m.cur[j]? =some ⟨st,cs⟩) (hfl:m.floor≤m.stk.length+1):Okv tab zt [.grow 2 m.stk.length j st l.length] m (.bool (ordF 0 l)):=by
 refine zx vf ?_
 obtain⟨stk,cur,nx,live,fl⟩:=m
 dsimp only at hM
 have hne: ∀z:List Blk,(stk.length==(stk++[z]).length)=false:=fun z=>by simp
 have hg: ∀z:List Blk,(stk++[z]).getD stk.length []=z:=fun z=>by simp
 have hf:fl≤(stk++[cur]).length:=by simp at hfl⊢;omega
 simp only[yA,List.map,go_sem,reduceIte,G0,G1,G2,G3,G4,G5,zu]
 refine zk (α:=Nat) (fun k σ=>(k≤l.length∧ordF 0 l=ordF (lastAt l k) (l.drop k))∧ ∃nz,heads [3,6,7,8] 0 σ=⟨tmps 24 [(3,.int .u8 ((lastAt l k:Nat):Int)),(6,.grow 2 stk.length j st l.length),(7,.int .i64 l.length),(8,.int .i64 k)],⟨stk++[cur],[],nz,[]::live,fl⟩⟩) (fun k=>l.length-k) 0 ?_ ?_
 ·refine⟨⟨w0f _,rfl⟩,?_⟩
  simp only[go_sem,reduceIte,G0,G1,G2,G3,G4,G5]
  exact⟨_,rfl⟩
 ·rintro k σ ⟨⟨hk,ho⟩,nz,hσ⟩
  rw[hσ]
  clear hσ σ
  dsimp only at hk ho⊢
  by_cases h:k<l.length
  ·obtain⟨v,hn,hn0,hv⟩:=hr.at h
   have hat:=yU (L:=stk.length) (j:=j) (st:=st) h
   have v1:=hv.one
   have hl:=vk h
   rw[jE h] at ho
   by_cases c1:l[k].kind.toNat≤lastAt l k
   ·have d1:((l[k].kind.toNat:Int)≤((lastAt l k:Nat):Int)):=by omega
    simp only[go_sem,reduceIte,G0,G1,G2,G3,G4,G5,w06,h,hne,hg,hM,hat,hn,hn0,v1,d1]
    rw[z5 rfl rfl,z6]
    exact⟨⟨_,rfl⟩,by rw[ho];simp[c1]⟩
   ·have d1: ¬((l[k].kind.toNat:Int)≤((lastAt l k:Nat):Int)):=by omega
    by_cases c2:7<l[k].kind.toNat
    ·have d2:((l[k].kind.toNat:Int)>7):=by omega
     simp only[go_sem,reduceIte,G0,G1,G2,G3,G4,G5,w06,h,hne,hg,hM,hat,hn,hn0,v1,d1,d2]
     rw[z5 rfl rfl,z6]
     exact⟨⟨_,rfl⟩,by rw[ho];simp[c2]⟩
    ·have d2: ¬((l[k].kind.toNat:Int)>7):=by omega
     simp only[go_sem,reduceIte,G0,G1,G2,G3,G4,G5,w06,h,hne,hg,hM,hat,hn,hn0,v1,d1,d2,zb h (show l.length≤9223372036854775807 by omega)]
     exact⟨k+1,by omega,⟨h,by rw[ho];simp[c1,c2]⟩,_,by rw[hl]⟩
  ·obtain rfl:k=l.length:=by omega
   simp only[go_sem,reduceIte,G0,G1,G2,G3,G4,G5,w06,h]
   rw[z5 rfl rfl,z6]
   exact⟨⟨_,rfl⟩,by rw[ho,List.drop_length];rfl⟩
theorem vc (l:List Sec) (j st:Nat) (cs:List AV) (hr:SRows l cs) (hmax:l.length≤1000) (m:Mem) (hM:m.cur[j]? =some ⟨st,cs⟩):Okv tab zd [.grow 2 m.stk.length j st l.length] m (.bool (ordF 0 l)):=by
 refine zx y5 ?_
 obtain⟨stk,cur,nx,live,fl⟩:=m
 dsimp only at hM
 have hne: ∀z:List Blk,(stk.length==(stk++[z]).length)=false:=fun z=>by simp
 have hg: ∀z:List Blk,(stk++[z]).getD stk.length []=z:=fun z=>by simp
 simp only[zy,List.map,go_sem,reduceIte,G0,G1,G2,G3,G4,G5]
 refine zk (α:=Nat) (fun k σ=>(k≤l.length∧ordF 0 l=ordF (lastAt l k) (l.drop k))∧ ∃nz,heads [0,3] 0 σ=⟨tmps 45 [(0,.grow 2 stk.length j st l.length),(3,.int .i64 k)],⟨stk++[cur],[],nz,[]::live,fl⟩⟩) (fun k=>l.length-k) 0 ?_ ?_
 ·refine⟨⟨w0f _,rfl⟩,?_⟩
  simp only[go_sem,reduceIte,G0,G1,G2,G3,G4,G5]
  exact⟨_,rfl⟩
 ·rintro k σ ⟨⟨hk,ho⟩,nz,hσ⟩
  rw[hσ]
  clear hσ σ
  dsimp only at hk ho⊢
  by_cases h:k<l.length
  ·obtain⟨v,hn,hn0,hv⟩:=hr.at h
   have hat:=yU (L:=stk.length) (j:=j) (st:=st) h
   by_cases c1:l[k].kind.toNat<1
   ·have d1:((l[k].kind.toNat:Int)<1):=by omega
    simp only[go_sem,reduceIte,G0,G1,G2,G3,G4,G5,zu,w06,h,hne,hg,hM,hat,hn,hn0,d1]
    rw[z5 rfl rfl,z6]
    exact⟨⟨_,rfl⟩,by rw[ho,xL h (.inl c1)]⟩
   have d1: ¬((l[k].kind.toNat:Int)<1):=by omega
   by_cases c2:7<l[k].kind.toNat
   ·have d2:((l[k].kind.toNat:Int)>7):=by omega
    simp only[go_sem,reduceIte,G0,G1,G2,G3,G4,G5,zu,w06,h,hne,hg,hM,hat,hn,hn0,d1,d2]
    rw[z5 rfl rfl,z6]
    exact⟨⟨_,rfl⟩,by rw[ho,xL h (.inr (.inl c2))]⟩
   have d2: ¬((l[k].kind.toNat:Int)>7):=by omega
   by_cases c0:0<k
   ·have d0:((k:Int)>0):=by omega
    obtain⟨hp,hlast⟩:=uR h c0
    obtain⟨v',hn1,hn',hv'⟩:=hr.at hp
    have ek:IntKind.i64.wrap ((k:Int)-1)=((k-1:Nat):Int):=by rw[z9 (by omega) (by omega)];omega
    have hat':=yU (L:=stk.length) (j:=j) (st:=st) hp
    rw[hlast] at hn'
    by_cases c3:l[k].kind.toNat≤lastAt l k
    ·have d3:(((lastAt l k:Nat):Int)≥(l[k].kind.toNat:Int)):=by omega
     simp only[go_sem,reduceIte,G0,G1,G2,G3,G4,G5,zu,w06,h,hne,hg,hM,hat,hn,hn0,d1,d2,d0,ek,hat',hn',d3]
     rw[z5 rfl rfl,z6]
     exact⟨⟨_,rfl⟩,by rw[ho,xL h (.inr (.inr ⟨c0,c3⟩))]⟩
    ·have d3: ¬(((lastAt l k:Nat):Int)≥(l[k].kind.toNat:Int)):=by omega
     simp only[go_sem,reduceIte,G0,G1,G2,G3,G4,G5,zu,w06,h,hne,hg,hM,hat,hn,hn0,d1,d2,d0,ek,hat',hn',d3,zb h (show l.length≤9223372036854775807 by omega)]
     exact⟨k+1,by omega,⟨h,by rw[ho,vI h c1 c2 (.inr c3)]⟩,_,rfl⟩
   ·have d0: ¬((k:Int)>0):=by omega
    simp only[go_sem,reduceIte,G0,G1,G2,G3,G4,G5,zu,w06,h,hne,hg,hM,hat,hn,hn0,d1,d2,d0,zb h (show l.length≤9223372036854775807 by omega)]
    exact⟨k+1,by omega,⟨h,by rw[ho,vI h c1 c2 (.inl (by omega))]⟩,_,rfl⟩
  ·obtain rfl:k=l.length:=by omega
   rw[List.drop_length] at ho
   have hlen:=xC l 0 (by omega) ho
   have hc:((l.length:Int)≤7):=by omega
   simp only[go_sem,reduceIte,G0,G1,G2,G3,G4,G5,zu,w06,h,hc]
   rw[z5 rfl rfl,z6]
   exact⟨⟨_,rfl⟩,by rw[ho];rfl⟩
def lenF (n:Int):List Int→Option Int
 | []=>some n
 |s::r=>if s>200000-n then none else lenF (n+s) r
def sizesS (l:List Sec):List Int:=l.map fun s=>(s.data.length:Int)
theorem yX (l:List Sec):(sizesS l).length=l.length:=by simp[sizesS]
def lenS (l:List Int):Option Int:=lenF (10+13*l.length) l
def checkS (l:List Sec):Int:=if ordF 0 l=true then(if(lenS (sizesS l)).isSome then 0 else 4) else 8
theorem qD (l:List Int) (y:AV) (hy:IsSl (IsK .i64) 1 l y) (hl:l.length≤7) (h0: ∀s∈l,0≤s∧s≤9223372036854775807) (m:Mem):
  Okv tab yP [y] m (match lenS l with|some n=> .tup [.int .i64 n,.bool true]|none=> .tup [.int .i64 0,.bool false]):=by
 refine zx qG ?_
 obtain⟨stk,cur,nx,live,fl⟩:=m
 have e1:IntKind.i64.wrap (13*(l.length:Int))=13*l.length:=z9 (by omega) (by omega)
 have e2:IntKind.i64.wrap (6+13*(l.length:Int))=6+13*l.length:=z9 (by omega) (by omega)
 have e3:IntKind.i64.wrap (6+13*(l.length:Int)+4)=10+13*l.length:=by rw[z9 (by omega) (by omega)];omega
 simp only[xk,List.map,go_sem,reduceIte,G0,G1,G2,G3,G4,G5,hy.len,e1,e2,e3]
 refine zk (α:=Nat×Int) (fun z σ=>(z.1≤l.length∧lenS l=lenF z.2 (l.drop z.1)∧0≤z.2∧z.2≤200000)∧ ∃nz,heads [4,12,13,14] 0 σ=⟨tmps 27 [(4,.int .i64 z.2),(12,y),(13,.int .i64 l.length),(14,.int .i64 z.1)],⟨stk++[cur],[],nz,[]::live,fl⟩⟩) (fun z=>l.length-z.1) (0,10+13*l.length) ?_ ?_
 ·refine⟨⟨w0f _,rfl,by dsimp only;omega,by dsimp only;omega⟩,?_⟩
  simp only[go_sem,reduceIte,G0,G1,G2,G3,G4,G5]
  exact⟨_,rfl⟩
 ·rintro⟨k,n⟩ σ ⟨⟨hk,ho,hn0,hn1⟩,nz,hσ⟩
  rw[hσ]
  clear hσ σ
  dsimp only at hk ho hn0 hn1⊢
  by_cases h:k<l.length
  ·have hn:nth y k= .int .i64 l[k]:=hy.nth h
   have hat:=hy.at .i64 h
   have hd:l.drop k=l[k]::l.drop (k+1):=w32 h
   have hb:=h0 _ (List.getElem_mem h)
   generalize l[k]=s at*
   have e4:IntKind.i64.wrap (200000-n)=200000-n:=z9 (by omega) (by omega)
   rw[hd] at ho
   by_cases c:s>200000-n
   ·simp only[go_sem,reduceIte,G0,G1,G2,G3,G4,G5,w06,h,hat,hn,e4,c]
    rw[z5 rfl rfl,z6]
    exact⟨⟨_,rfl⟩,by rw[ho,lenF,if_pos c]⟩
   ·have e5:IntKind.i64.wrap (n+s)=n+s:=z9 (by omega) (by omega)
    simp only[go_sem,reduceIte,G0,G1,G2,G3,G4,G5,w06,h,hat,hn,e4,c,e5,zb h hy.max]
    exact⟨(k+1,n+s),by dsimp only;omega,⟨h,by dsimp only;rw[ho,lenF,if_neg c],by dsimp only;omega,by dsimp only;omega⟩,_,rfl⟩
  ·obtain rfl:k=l.length:=by omega
   simp only[go_sem,reduceIte,G0,G1,G2,G3,G4,G5,w06,h]
   rw[z5 rfl rfl,z6]
   exact⟨⟨_,rfl⟩,by rw[ho,List.drop_length];rfl⟩
theorem vT (l:List Int) (y:AV) (hy:IsSl (IsK .i64) 1 l y) (hl:l.length≤7) (h0: ∀s∈l,0≤s∧s≤9223372036854775807) (m:Mem):
  Okv tab zJ [y] m (match lenS l with|some n=> .int .i64 n|none=> .int .i64 (-1)):=by
 refine zx vW ?_
 obtain⟨stk,cur,nx,live,fl⟩:=m
 have e1:IntKind.i64.wrap (13*(l.length:Int))=13*l.length:=z9 (by omega) (by omega)
 have e2:IntKind.i64.wrap (10+13*(l.length:Int))=10+13*l.length:=z9 (by omega) (by omega)
 simp only[yj,List.map,go_sem,reduceIte,G0,G1,G2,G3,G4,G5,hy.len,e1,e2]
 refine zk (α:=Nat×Int) (fun z σ=>(z.1≤l.length∧lenS l=lenF z.2 (l.drop z.1)∧0≤z.2∧z.2≤200000)∧ ∃nz,heads [0,3,4] 0 σ=⟨tmps 29 [(0,y),(3,.int .i64 z.2),(4,.int .i64 z.1)],⟨stk++[cur],[],nz,[]::live,fl⟩⟩) (fun z=>l.length-z.1) (0,10+13*l.length) ?_ ?_
 ·refine⟨⟨w0f _,rfl,by dsimp only;omega,by dsimp only;omega⟩,?_⟩
  simp only[go_sem,reduceIte,G0,G1,G2,G3,G4,G5]
  exact⟨_,rfl⟩
 ·rintro⟨k,n⟩ σ ⟨⟨hk,ho,hn0,hn1⟩,nz,hσ⟩
  rw[hσ]
  clear hσ σ
  dsimp only at hk ho hn0 hn1⊢
  by_cases h:k<l.length
  ·have hn:nth y k= .int .i64 l[k]:=hy.nth h
   have hat:=hy.at .i64 h
   have hd:l.drop k=l[k]::l.drop (k+1):=w32 h
   have hb:=h0 _ (List.getElem_mem h)
   generalize l[k]=s at*
   have e4:IntKind.i64.wrap (200000-n)=200000-n:=z9 (by omega) (by omega)
   rw[hd] at ho
   by_cases c:s>200000-n
   ·simp only[go_sem,reduceIte,G0,G1,G2,G3,G4,G5,hy.len,w06,h,hat,hn,e4,c]
    rw[z5 rfl rfl,z6]
    exact⟨⟨_,rfl⟩,by rw[ho,lenF,if_pos c]⟩
   ·have e5:IntKind.i64.wrap (n+s)=n+s:=z9 (by omega) (by omega)
    simp only[go_sem,reduceIte,G0,G1,G2,G3,G4,G5,hy.len,w06,h,hat,hn,e4,c,e5,zb h hy.max]
    exact⟨(k+1,n+s),by dsimp only;omega,⟨h,by dsimp only;rw[ho,lenF,if_neg c],by dsimp only;omega,by dsimp only;omega⟩,_,rfl⟩
  ·obtain rfl:k=l.length:=by omega
   simp only[go_sem,reduceIte,G0,G1,G2,G3,G4,G5,hy.len,w06,h]
   rw[z5 rfl rfl,z6]
   exact⟨⟨_,rfl⟩,by rw[ho,List.drop_length];rfl⟩
theorem j1 {l:List Sec} {k:Nat} (h:k<l.length):sizesS (l.take (k+1))=sizesS (l.take k)++[(l[k].data.length:Int)]:=by
 unfold sizesS;rw[w25 h,w1e];rfl
theorem tP (l:List Sec) (h: ∀s∈l,s.data.length≤9223372036854775807): ∀s∈sizesS l,0≤s∧s≤9223372036854775807:=by
 intro s hs
 simp only[sizesS,w2f] at hs
 obtain⟨a,ha,rfl⟩:=hs
 have:=h a ha
 omega
theorem U6 {l:List Sec} {y:AV} (hy:IsSl IsSec 2 l y): ∀s∈l,s.data.length≤9223372036854775807:=by
 intro s hs
 obtain⟨i,hi,rfl⟩:=List.getElem_of_mem hs
 obtain⟨v,_,hv⟩:=vZ hy hi
 exact hv.max
theorem V2: ∀{l:List Int} {n r:Int},0≤n→(∀s∈l,0≤s∧s≤9223372036854775807)→lenF n l=some r→0≤r
 | [],n,r,h,_,h2=>by simp only[lenF,Option.some.injEq] at h2;omega
 |s::l,n,r,h,h1,h2=>by
  simp only[lenF] at h2
  split at h2
  ·cases h2
  ·exact V2 (by have:=(h1 s w18).1;omega) (fun x hx=>h1 x (w13 _ hx)) h2
theorem Tc {l:List Int} {r:Int} (h1: ∀s∈l,0≤s∧s≤9223372036854775807) (h:lenS l=some r):0≤r:=V2 (by omega) h1 h
theorem jq (l:List Sec) (y:AV) (hy:IsSl IsSec 2 l y) (m:Mem) (hfl:m.floor≤m.stk.length+1):Okv tab yW [y] m (.int .i64 (checkS l)):=by
 refine zx ju ?_
 obtain⟨stk,cur,nx,live,fl⟩:=m
 have hf:fl≤(stk++[cur]).length:=by simp at hfl⊢;omega
 have hO:=fun c n lv=>(ve l y hy ⟨stk++[cur],c,n,lv,fl⟩ (by simp at hfl⊢;omega)).eq
 simp only[xH,List.map,go_sem,reduceIte,G0,G1,G2,G3,G4,G5,hO]
 generalize callNx tab zt _ _=nz
 cases ho:ordF 0 l
 ·simp only[go_sem,reduceIte,G0,G1,G2,G3,G4,G5,Bool.not_false]
  rw[z5 rfl rfl,z6]
  exact⟨⟨_,rfl⟩,by unfold checkS;rw[ho];rfl⟩
 ·have h7:=xC l 0 (by omega) ho
  simp only[go_sem,reduceIte,G0,G1,G2,G3,G4,G5,w36,hy.len]
  refine zk (α:=Nat) (fun k σ=>k≤l.length∧ ∃nz z e,Own (IsK .i64) 1 z (sizesS (l.take k)) e∧heads [3,11,12,13] 0 σ=⟨tmps 31 [(3,z),(11,y),(12,.int .i64 l.length),(13,.int .i64 k)],⟨stk++[cur],[],nz,e::live,fl⟩⟩) (fun k=>l.length-k) 0 ?_ ?_
  ·refine⟨w0f _,?_⟩
   simp only[go_sem,reduceIte,G0,G1,G2,G3,G4,G5]
   exact⟨_,_,_,.nil _,rfl⟩
  ·rintro k σ ⟨hk,nz,z,e,hz,hσ⟩
   rw[hσ]
   clear hσ σ
   dsimp only at hk⊢
   by_cases h:k<l.length
   ·obtain⟨v,hn,hv⟩:=vZ hy h
    have hat:=hy.at .i64 h
    simp only[go_sem,reduceIte,G0,G1,G2,G3,G4,G5,w06,h,hat,hn,hv.one,hv.len,allLen]
    refine hz.xv (cs:=[(l[k].data.length:Int)]) (zU · _ _ _) (kG rfl) (by rw[yX];simp;omega) fun z' n' e' ho'=> ?_
    simp only[go_sem,reduceIte,G0,G1,G2,G3,G4,G5,zb h hy.max]
    exact⟨k+1,by omega,h,_,_,_,by rw[j1 h];exact ho',rfl⟩
   ·obtain rfl:k=l.length:=by omega
    rw[w28] at hz
    have hL:=fun m=>(qD (sizesS l) z (hz.sl (by rw[yX];omega)) (by rw[yX];omega) (tP l (U6 hy)) m).eq
    simp only[go_sem,reduceIte,G0,G1,G2,G3,G4,G5,w06,h,hL]
    generalize callNx tab yP _ _=nz
    cases hs:lenS (sizesS l)
    ·simp only[go_sem,reduceIte,G0,G1,G2,G3,G4,G5,Bool.not_false]
     rw[z5 rfl rfl,z6]
     exact⟨⟨_,rfl⟩,by unfold checkS;rw[ho,hs];rfl⟩
    ·simp only[go_sem,reduceIte,G0,G1,G2,G3,G4,G5,w36]
     rw[z5 rfl rfl,z6]
     exact⟨⟨_,rfl⟩,by unfold checkS;rw[ho,hs];rfl⟩
def atK (l:List Sec) (k:Nat):Nat:=10+13*l.length+((l.take k).map fun s=>s.data.length).sum
def secA (l:List Sec) (k:Nat):Sec:=l.getD k default
theorem xB {l:List Sec} {k:Nat} (h:k<l.length):secA l k=l[k]:=by
 unfold secA;rw[w02,w05 h];rfl
def numsB (l:List Sec) (k:Nat):List Nat:=[atK l k,(secA l k).data.length,sumN (secA l k).data]
def rowB (l:List Sec) (k:Nat):List UInt8:=(secA l k).kind::(numsB l k).flatMap le4
def dirF (l:List Sec):Nat→List UInt8
 |0=>[87,82,67,75,1,UInt8.ofNat l.length]
 |k+1=>dirF l k++rowB l k
def dirB (l:List Sec):List UInt8:=dirF l l.length++le4 (sumN (dirF l l.length))
def dataF (l:List Sec) (k:Nat):List UInt8:=(l.take k).flatMap (·.data)
def bytesS (l:List Sec):List UInt8:=dirB l++dataF l l.length
theorem vP (l:List Sec): ∀k,(dirF l k).length=6+13*k
 |0=>rfl
 |k+1=>by simp only[dirF,w15,vP l k,rowB,numsB,w26,List.flatMap_nil,w23,xp,List.length_nil];omega
theorem kr (l:List Sec):(dirB l).length=10+13*l.length:=by simp only[dirB,w15,vP,xp];omega
theorem t6 {l:List Sec} {k:Nat} (h:k<l.length):atK l (k+1)=atK l k+l[k].data.length:=by
 unfold atK;rw[w25 h,w1e,List.sum_append];simp only[w21,List.map_nil,List.sum_cons,List.sum_nil];omega
theorem XI (l:List Sec) (k:Nat): ∀d,k+d≤l.length→atK l k≤atK l (k+d)
 |0,_=>w0e _
 |d+1,h=>by
  have:=XI l k d (by omega)
  rw[show k+(d+1)=(k+d)+1 by omega,t6 (show k+d<l.length by omega)]
  omega
theorem t7 {l:List Sec} {k:Nat} (h:k≤l.length):atK l k≤atK l l.length:=by
 have:=XI l k (l.length-k) (by omega)
 rwa [show k+(l.length-k)=l.length by omega] at this
theorem Xa: ∀{l:List Sec} {n r:Int},lenF n (sizesS l)=some r→r=n+((l.map fun s=>s.data.length).sum:Nat)∧(n≤200000→r≤200000)
 | [],n,r,h=>by simp only[sizesS,List.map_nil,lenF,Option.some.injEq] at h;subst h;simp
 |s::l,n,r,h=>by
  simp only[sizesS,w21,lenF] at h
  split at h
  ·cases h
  ·obtain⟨h1,h2⟩:=Xa (l:=l) h
   refine⟨?_,fun _=>h2 (by omega)⟩
   rw[h1];simp only[w21,List.sum_cons];push_cast;omega
theorem qR {l:List Sec} (h:checkS l=0):l.length≤7∧atK l l.length≤200000:=by
 unfold checkS at h
 split at h
 ·rename_i ho
  have h7:=xC l 0 (by omega) ho
  refine⟨h7,?_⟩
  split at h
  ·rename_i hs
   obtain⟨r,hr⟩:=w37.1 hs
   unfold lenS at hr
   rw[yX] at hr
   obtain⟨h1,h2⟩:=Xa hr
   have:=h2 (by omega)
   unfold atK
   rw[w28]
   omega
  ·cases h
 ·cases h
theorem qQ (l:List Sec) (k:Nat):(dataF l k).length=((l.take k).map fun s=>s.data.length).sum:=by
 unfold dataF;rw[List.length_flatMap]
theorem ks {l:List Sec} {k:Nat} (h:k<l.length):dataF l (k+1)=dataF l k++l[k].data:=by
 unfold dataF;rw[w25 h,List.flatMap_append];simp only[w26,List.flatMap_nil,w19]
def Pln (c:AV):Prop:=c.one=true∧ ∀n m,frzV n m c=some (c,m)
theorem TR {α:Type} {R:α→AV→Prop} {s:Nat} {xs:List α} {y:AV} (h:IsSl R s xs y):Pln y:=by
 rcases h with⟨_,⟨rfl,rfl⟩|⟨tk,ys,rfl,h⟩⟩
 ·exact⟨rfl,fun n m=>by cases n<;>rfl⟩
 ·exact⟨rfl,fun n m=>by cases n<;>rfl⟩
theorem T2 (k:IntKind) (z:Int):Pln (.int k z):=⟨rfl,fun n m=>by cases n<;>rfl⟩
theorem jV: ∀{cs:List AV},(∀c∈cs,Pln c)→allOne cs=true
 | [],_=>rfl
 |c::r,h=>by simp only[allOne,(h c w18).1,jV fun x hx=>h x (w13 _ hx),Bool.and_self]
theorem YX (n:Nat) (m:Mem): ∀{cs:List AV},(∀c∈cs,Pln c)→frzL (frzV n) m cs=some (cs,m)
 | [],_=>rfl
 |c::r,h=>by simp only[frzL,(h c w18).2 n m,w2b,YX n m fun x hx=>h x (w13 _ hx),w08]
theorem SRows.pln: ∀{l:List Sec} {cs:List AV},SRows l cs→(l.length*2≤cs.length)∧ ∀c∈cs.take (l.length*2),Pln c
 | [],_,_=>by simp
 |s::l,_,⟨v,r,rfl,h1,h2⟩=>by
  obtain⟨a,b⟩:=h2.pln
  refine⟨by simp only[w23];omega,fun c hc=> ?_⟩
  rw[show(s::l).length*2=l.length*2+1+1 by simp only[w23];omega] at hc
  simp only[List.take_succ_cons,w1c] at hc
  rcases hc with rfl|rfl|hc
  ·exact T2 _ _
  ·exact TR h1
  ·exact b c hc
theorem SRows.all2: ∀{l:List Sec} {cs:List AV},SRows l cs→All2 IsSec l (chunk 2 l.length (cs.take (l.length*2)))
 | [],_,_=>trivial
 |s::l,_,⟨v,r,rfl,h1,h2⟩=>by
  rw[show(s::l).length*2=l.length*2+1+1 by simp only[w23];omega]
  simp only[List.take_succ_cons]
  exact⟨⟨v,rfl,h1⟩,h2.all2⟩
theorem vi (f:List Blk→List Blk) (c:List Blk): ∀s:List (List Blk),(s++[c]).modify s.length f=s++[f c]
 | []=>rfl
 |a::s=>by
  have:=vi f c s
  simp only[List.cons_append,w23,List.modify_succ_cons,this]
theorem Tq {l:List Sec} {cs cur c:List Blk} {stk:List (List Blk)} {cells:List AV} {j st nx fl:Nat} {live:List (List Nat)} (hr:SRows l cells) (hl:l.length≤1000) (hM:cur[j]? =some ⟨st,cells⟩) (hfl:fl≤stk.length):
  ∃y,IsSl IsSec 2 l y∧ ∀ρ:List AV,ρ.getD 0 (.tup [])= .grow 2 stk.length j st l.length→frzT [0] ⟨ρ,⟨stk++[cur],c,nx,live,fl⟩⟩=some ⟨ρ.set 0 y,⟨stk++[cur.set j ⟨nx,[]⟩],c,nx+1,live,fl⟩⟩:=by
 obtain⟨h1,h2⟩:=hr.pln
 refine⟨.list 2 .none (chunk 2 l.length (cells.take (l.length*2))),.mk hr.all2 (by omega),fun ρ hρ=> ?_⟩
 have hne:(stk.length==(stk++[cur]).length)=false:=by simp
 have hb:Mem.blk ⟨stk++[cur],c,nx,live,fl⟩ stk.length j st=some cells:=by
  simp only[Mem.blk,Mem.row,hne,w0b,if_false]
  simp[hM]
 have hp:Mem.put ⟨stk++[cur],c,nx,live,fl⟩ stk.length j nx []=⟨stk++[cur.set j ⟨nx,[]⟩],c,nx,live,fl⟩:=by
  simp only[Mem.put,hne,w0b,if_false]
  congr 1
  exact vi _ _ _
 have hv:frzV 3 ⟨stk++[cur],c,nx,live,fl⟩ (.grow 2 stk.length j st l.length)=some (.list 2 .none (chunk 2 l.length (cells.take (l.length*2))),⟨stk++[cur.set j ⟨nx,[]⟩],c,nx+1,live,fl⟩):=by
  simp only[frzV,hb]
  rw[if_pos ⟨hfl,h1,by omega⟩]
  simp only[YX 2 _ h2,w2b,jV h2,hb,Option.isSome_some,and_self,if_true,hp]
 have hl: ∀v:AV,v= .grow 2 stk.length j st l.length→(match v with
   | .ptr l k st _=>match Mem.blk ⟨stk++[cur],c,nx,live,fl⟩ l k st with
    |some cs=>if fl≤l then(frzL (frzV 3) ⟨stk++[cur],c,nx,live,fl⟩ cs).bind fun q=>if(q.2.blk l k st).isSome=true then frzT [] ⟨ρ,q.2.put l k st q.1⟩ else none else none
    |none=>none
   |v=>(frzV 3 ⟨stk++[cur],c,nx,live,fl⟩ v).bind fun q=>frzT [] ⟨ρ.set 0 q.1,q.2⟩)=some ⟨ρ.set 0 (.list 2 .none (chunk 2 l.length (cells.take (l.length*2)))),⟨stk++[cur.set j ⟨nx,[]⟩],c,nx+1,live,fl⟩⟩:=by
  rintro _ rfl
  simp only[hv,w2b,frzT]
 exact hl _ hρ
theorem vj {α:Type} {R:α→AV→Prop} {s:Nat} {y:AV} {xs:List α} {own:List Nat} {m0:Mem} {stk:List (List Blk)} {c0 c':List Blk} {nx' fl':Nat} {live:List (List Nat)} {r:Int} (h:Own R s y xs own):
  leave m0 ⟨stk++[c0],c',nx',own::live,fl'⟩ (.tup [y,.int .i64 r])=some (.tup [y,.int .i64 r],⟨stk,c0,nx',pushToks (own.filter fun t=>y.toks.contains t) live,m0.floor⟩):=by
 have h1:(AV.tup [y,.int .i64 r]).refs (stk++[c0]).length=false:=by simp only[AV.refs,refsAny,h.refs];rfl
 have h2:(AV.tup [y,.int .i64 r]).toks=y.toks:=by simp only[AV.toks,toksAll,w19]
 unfold leave
 simp only[List.getLast?_append,List.getLast?_singleton,Option.some_or,h1,w0b,if_false,h2,List.dropLast_concat]
def outW (l:List Sec):List UInt8×Int:=if checkS l=0 then(bytesS l,0) else([],checkS l)
def WriteC (f:Nat):Prop:= ∀(l:List Sec) (j st:Nat) (cells:List AV),SRows l cells→l.length≤1000→ ∀(stk:List (List Blk)) (cur:List Blk) (nx fl:Nat) (live:List (List Nat)),cur[j]? =some ⟨st,cells⟩→fl≤stk.length→
 ∃z ts k,CALL tab f [.grow 2 stk.length j st l.length] ⟨stk,cur,nx,live,fl⟩=some (.tup [z,.int .i64 (outW l).2],⟨stk,cur.set j ⟨nx,[]⟩,k,pushToks ts live,fl⟩)∧Own IsByte 1 z (outW l).1 ts
theorem uq:WriteC yp:=by
 intro l j st cells hr hl stk cur nx fl live hM hfl
 suffices h:Does tab yp [.grow 2 stk.length j st l.length] ⟨stk,cur,nx,live,fl⟩ fun v m'=> ∃z ts k,v= .tup [z,.int .i64 (outW l).2]∧m'=⟨stk,cur.set j ⟨nx,[]⟩,k,pushToks ts live,fl⟩∧Own IsByte 1 z (outW l).1 ts by
  obtain⟨x,h1,z,ts,k,h2,h3,h4⟩:=h
  exact⟨z,ts,k,by rw[h1,←h2,←h3],h4⟩
 refine uj jt ?_ (Nat.le_of_ble_eq_true rfl)
 obtain⟨y,hy,hfr⟩:=Tq (c:=[]) (cs:=[]) (nx:=nx) (fl:=fl) (live:=[]::live) hr hl hM hfl
 have hf': ∀cur1:List Blk,fl≤(stk++[cur1]).length+1:=fun _=>by simp;omega
 have hf: ∀cur1:List Blk,fl≤(stk++[cur1]).length:=fun _=>by simp;omega
 simp only[xG,List.map,go_sem,reduceIte,G0,G1,G2,G3,G4,G5]
 rw[hfr _ rfl,z6]
 generalize cur.set j ⟨nx,[]⟩=cur1 at*
 specialize hf' cur1
 specialize hf cur1
 have hC:=fun c n lv=>(jq l y hy ⟨stk++[cur1],c,n,lv,fl⟩ hf').eq
 simp only[U5,go_sem,reduceIte,G0,G1,G2,G3,G4,G5,hC]
 generalize callNx tab yW _ _=n1
 by_cases hc:checkS l=0
 case neg=>
  have hb:(checkS l !=0)=true:=by simpa using hc
  simp only[go_sem,reduceIte,G0,G1,G2,G3,G4,G5,hb]
  rw[vj (R:=IsByte) (s:=1) (xs:=[]) (Own.nil _),z6]
  exact⟨_,_,_,by unfold outW;rw[if_neg hc],rfl,by unfold outW;rw[if_neg hc];exact Own.nil _⟩
 have hb:(checkS l !=0)=false:=by rw[hc];rfl
 obtain⟨h7,h2⟩:=qR hc
 have e1:IntKind.u8.wrap (l.length:Int)=(l.length:Int):=jB (by omega) (by omega)
 have e2:IntKind.i64.wrap (13*(l.length:Int))=13*l.length:=z9 (by omega) (by omega)
 have e3:IntKind.i64.wrap (6+13*(l.length:Int))=6+13*l.length:=z9 (by omega) (by omega)
 have e4:IntKind.i64.wrap (6+13*(l.length:Int)+4)=((atK l 0:Nat):Int):=by rw[z9 (by omega) (by omega)];unfold atK;simp;omega
 have hT:=fun c n lv=>(uH ⟨stk++[cur1],c,n,lv,fl⟩ hf').eq
 have hsl:evSlice 1 (.list 1 .full [.int .u8 87,.int .u8 82,.int .u8 67,.int .u8 75]) none none none=some (.list 1 .full [.int .u8 87,.int .u8 82,.int .u8 67,.int .u8 75]):=rfl
 simp only[go_sem,reduceIte,G0,G1,G2,G3,G4,G5,hb,hT,qb,WJ,List.length_replicate,Yq,w19,allLen,hsl,hy.len,e1]
 generalize callNx tab yK _ _=n2
 refine(Own.full (R:=IsByte) (s:=1) (xs:=[87,82,67,75]) (ys:=[.int .u8 87,.int .u8 82,.int .u8 67,.int .u8 75]) ⟨rfl,rfl,rfl,rfl,trivial⟩ []).xv (cs:=[1,UInt8.ofNat l.length]) (zU · _ _ _) ⟨rfl,xi (by omega),trivial⟩ (by simp) fun z0 n3 e0 o0=> ?_
 simp only[go_sem,reduceIte,G0,G1,G2,G3,G4,G5,hy.len,e2,e3,e4]
 refine zk (α:=Nat) (fun k σ=>k≤l.length∧ ∃nz z e,Own IsByte 1 z (dirF l k) e∧heads [0,5,6,7,36,37,38] 1 σ=⟨tmps 98 [(0,y),(5,.ptr (stk++[cur1]).length 0 n2 0),(6,z),(7,.int .i64 ((atK l k:Nat):Int)),(36,y),(37,.int .i64 l.length),(38,.int .i64 k)],⟨stk++[cur1],[⟨n2,TB⟩],nz,e::live,fl⟩⟩) (fun k=>l.length-k) 0 ?_ ?_
 ·refine⟨w0f _,?_⟩
  simp only[go_sem,reduceIte,G0,G1,G2,G3,G4,G5]
  exact⟨_,_,_,o0,rfl⟩
 ·rintro k σ ⟨hk,nz,z,e,ho,hσ⟩
  rw[hσ]
  clear hσ σ
  dsimp only at hk⊢
  have hal:=t7 hk
  by_cases h:k<l.length
  ·obtain⟨v,hn,hv⟩:=vZ hy h
   have hat:=hy.at .i64 h
   have hs1:=t6 h
   have hal2:=t7 (show k+1≤l.length from h)
   have hdl:=vP l k
   have hS:=fun c n lv=>(tj l[k].data v hv (by omega) ⟨stk++[cur1],c,n,lv,fl⟩ hf').eq
   simp only[go_sem,reduceIte,G0,G1,G2,G3,G4,G5,w06,h,hat,hn,hv.one,yf,hS,allLen]
   generalize callNx tab xd _ _=n4
   refine ho.xv (cs:=[l[k].kind]) (zU · _ _ _) ⟨rfl,trivial⟩ (by simp;omega) fun z1 n1 e1 o1=> ?_
   simp only[go_sem,reduceIte,G0,G1,G2,G3,G4,G5,hv.len,evBuild,xK (show atK l k<4294967296 by omega),xK (show l[k].data.length<4294967296 by omega)]
   refine zk (α:=Nat) (fun j σ=>j≤3∧ ∃nq z e,Own IsByte 1 z (dirF l k++[l[k].kind]++((numsB l k).take j).flatMap le4) e∧heads [0,5,6,7,9,36,37,38,61,62] 2 σ=⟨tmps 98 [(0,y),(5,.ptr (stk++[cur1]).length 0 n2 0),(6,z),(7,.int .i64 ((atK l k:Nat):Int)),(9,.ptr (stk++[cur1]).length 1 nz 0),(36,y),(37,.int .i64 l.length),(38,.int .i64 k),(61,.agg [.int .u32 ((atK l k:Nat):Int),.int .u32 (l[k].data.length:Int),.int .u32 ((sumN l[k].data:Nat):Int)]),(62,.int .i64 j)],⟨stk++[cur1],[⟨n2,TB⟩,⟨nz,[.int .u8 l[k].kind.toNat,v]⟩],nq,e::live,fl⟩⟩) (fun j=>3-j) 0 ?_ ?_
   ·refine⟨w0f _,?_⟩
    simp only[go_sem,reduceIte,G0,G1,G2,G3,G4,G5]
    exact⟨_,_,_,by simpa using o1,rfl⟩
   ·rintro j σ ⟨hj,nq,z2,e2,o2,hσ⟩
    rw[hσ]
    clear hσ σ
    dsimp only at hj⊢
    by_cases h3:j<3
    ·have hc3:(j:Int)<3:=by omega
     have hix:idx (.int .i64 (j:Int)) 3=some j:=xN .i64 j 3 h3
     have hlt:(numsB l k).getD j 0<4294967296:=by
      have:j=0∨j=1∨j=2:=by omega
      have hsl:=vg l[k].data
      unfold numsB
      rw[xB h]
      rcases this with rfl|rfl|rfl
      ·show atK l k<_;omega
      ·show l[k].data.length<_;omega
      ·exact hsl
     have htk:takeV false 1 (List.drop (j*1) [.int .u32 ((atK l k:Nat):Int),.int .u32 (l[k].data.length:Int),.int .u32 ((sumN l[k].data:Nat):Int)])=some (.int .u32 (((numsB l k).getD j 0:Nat):Int)):=by
      have:j=0∨j=1∨j=2:=by omega
      unfold numsB
      rw[xB h]
      rcases this with rfl|rfl|rfl<;>rfl
     have htn:((numsB l k).take (j+1)).flatMap le4=((numsB l k).take j).flatMap le4++le4 ((numsB l k).getD j 0):=by
      have hl3:j<(numsB l k).length:=h3
      rw[w25 hl3,List.flatMap_append,w02,w05 hl3]
      simp only[w26,List.flatMap_nil,w19,w20]
     have hl4:(((numsB l k).take j).flatMap le4).length≤12:=by
      have:j=0∨j=1∨j=2:=by omega
      rcases this with rfl|rfl|rfl<;>simp[numsB,xp]
     simp only[go_sem,reduceIte,G0,G1,G2,G3,G4,G5,hc3,hix,htk]
     refine(up _ hlt _ hf').xv fun q1 t1 k1 p1=> ?_
     obtain⟨qs,r1,r2⟩:=p1.elems
     simp only[go_sem,reduceIte,G0,G1,G2,G3,G4,G5,z8]
     refine(o2.push t1).xv (r1 ·) r2 (by simp only[w15,List.length_singleton,xp];omega) fun z3 n3 e3 o3=> ?_
     simp only[go_sem,reduceIte,G0,G1,G2,G3,G4,G5,zb h3 (by omega)]
     exact⟨j+1,by omega,h3,_,_,_,by rw[htn,←w12];exact o3,rfl⟩
    ·obtain rfl:j=3:=by omega
     have hc3: ¬(((3:Nat):Int)<3):=by omega
     have e9:IntKind.i64.wrap (((atK l k:Nat):Int)+(l[k].data.length:Int))=((atK l (k+1):Nat):Int):=by rw[z9 (by omega) (by omega)];omega
     simp only[go_sem,reduceIte,G0,G1,G2,G3,G4,G5,hc3,hv.len,e9,zb h hy.max]
     refine⟨k+1,by omega,h,_,_,_,?_,rfl⟩
     rw[dirF,rowB,xB h]
     simpa [numsB] using o2
  ·obtain rfl:k=l.length:=by omega
   have hdl:=vP l l.length
   have hS:=fun c n lv=>(tj (dirF l l.length) z (ho.sl (by omega)) (by omega) ⟨stk++[cur1],c,n,lv,fl⟩ hf').eq
   simp only[go_sem,reduceIte,G0,G1,G2,G3,G4,G5,w06,h,yf,hS]
   generalize callNx tab xd _ _=n4
   refine(up (sumN (dirF l l.length)) (vg _) _ hf').xv fun q1 t3 k1 p1=> ?_
   obtain⟨qs,r1,r2⟩:=p1.elems
   simp only[go_sem,reduceIte,G0,G1,G2,G3,G4,G5,z8]
   refine(ho.push t3).xv (r1 ·) r2 (by simp[xp];omega) fun z4 n5 e4 o4=> ?_
   simp only[go_sem,reduceIte,G0,G1,G2,G3,G4,G5,hy.len]
   have hbl:=kr l
   refine zk (α:=Nat) (fun k σ=>k≤l.length∧ ∃nz z e,Own IsByte 1 z (dirB l++dataF l k) e∧heads [6,86,87,88] 1 σ=⟨tmps 98 [(6,z),(86,y),(87,.int .i64 l.length),(88,.int .i64 k)],⟨stk++[cur1],[⟨n2,TB⟩],nz,e::live,fl⟩⟩) (fun k=>l.length-k) 0 ?_ ?_
   ·refine⟨w0f _,?_⟩
    simp only[go_sem,reduceIte,G0,G1,G2,G3,G4,G5]
    exact⟨_,_,_,by unfold dirB dataF;simpa using o4,rfl⟩
   ·rintro k σ ⟨hk,nz,z,e,ho,hσ⟩
    rw[hσ]
    clear hσ σ
    dsimp only at hk⊢
    have hal:=t7 hk
    by_cases h:k<l.length
    ·obtain⟨v,hn,hv⟩:=vZ hy h
     have hat:=hy.at .i64 h
     obtain⟨qs,r1,r2⟩:=hv.elems_any
     have hdl2:=qQ l k
     have hs1:=t6 h
     have hal2:=t7 (show k+1≤l.length from h)
     have hka:atK l k=10+13*l.length+(dataF l k).length:=by rw[hdl2];rfl
     simp only[go_sem,reduceIte,G0,G1,G2,G3,G4,G5,w06,h,hat,hn,hv.one]
     refine ho.xv (r1 ·) r2 (by simp;omega) fun z1 n1 e1 o1=> ?_
     simp only[go_sem,reduceIte,G0,G1,G2,G3,G4,G5,zb h hy.max]
     exact⟨k+1,by omega,h,_,_,_,by rw[ks h,←w12];exact o1,rfl⟩
    ·obtain rfl:k=l.length:=by omega
     simp only[go_sem,reduceIte,G0,G1,G2,G3,G4,G5,w06,h]
     rw[vj ho,z6]
     exact⟨_,_,_,by unfold outW;rw[if_pos hc],rfl,by unfold outW;rw[if_pos hc];exact ho.filter⟩
def kdR (b:List UInt8) (i:Nat):UInt8:=b.getD (6+13*i) 0
def atR (b:List UInt8) (i:Nat):Nat:=num4 (b.drop (6+13*i+1))
def szR (b:List UInt8) (i:Nat):Nat:=num4 (b.drop (6+13*i+5))
def crR (b:List UInt8) (i:Nat):Nat:=num4 (b.drop (6+13*i+9))
def scanS (b:List UInt8) (n:Nat):Nat→Option (List Sec×Nat)
 |0=>some ([],10+13*n)
 |i+1=>match scanS b n i with
  |none=>none
  |some (l,p)=>if atR b i≠p∨szR b i>b.length-p then none else some (l++[⟨kdR b i,(b.drop p).take (szR b i)⟩],p+szR b i)
theorem Zf {b:List UInt8} {n i:Nat} (h:scanS b n i=none): ∀d,scanS b n (i+d)=none
 |0=>h
 |d+1=>by rw[show i+(d+1)=(i+d)+1 by omega,scanS,Zf h d]
theorem qj {b:List UInt8} {n i:Nat} (h:scanS b n i=none) (hi:i≤n):scanS b n n=none:=by
 have:=Zf h (n-i)
 rwa [show i+(n-i)=n by omega] at this
theorem jS {b:List UInt8} {n:Nat}: ∀{i:Nat} {l:List Sec} {p:Nat},scanS b n i=some (l,p)→l.length=i
 |0,l,p,h=>by simp only[scanS,Option.some.injEq,Prod.mk.injEq] at h;rw[←h.1];rfl
 |i+1,l,p,h=>by
  simp only[scanS] at h
  split at h
  ·cases h
  ·rename_i l0 p0 h0
   split at h
   ·cases h
   ·simp only[Option.some.injEq,Prod.mk.injEq] at h
    rw[←h.1,w15,jS h0];rfl
def magicS:List UInt8:=[87,82,67,75,1]
def readS (b:List UInt8):Int×List Sec:=
 if b.length>200000 then(4,[]) else if b.length<10 then(24,[]) else
 if b.take 5≠magicS∨(b.getD 5 0).toNat>7 then(12,[]) else
 if b.length<10+13*(b.getD 5 0).toNat then(24,[]) else
 if num4 (b.drop (6+13*(b.getD 5 0).toNat))≠sumN (b.take (6+13*(b.getD 5 0).toNat)) then(22,[]) else
 match scanS b (b.getD 5 0).toNat (b.getD 5 0).toNat with
 |none=>(12,[])
 |some (l,p)=>if ordF 0 l=false∨p≠b.length then(12,[]) else
  if((List.range l.length).all fun i=>crR b i==sumN (secA l i).data)=false then(22,[]) else(0,l)
def LSt (L:Nat) (B0:List Blk) (l:List Sec) (v:AV) (cur:List Blk):Prop:=
 (l=[]∧v= .nils∧cur=B0)∨(l≠[]∧ ∃st cells,v= .grow 2 L B0.length st l.length∧cur=B0++[⟨st,cells⟩]∧SRows l cells∧cells.length=l.length*2)
theorem SRows.snoc {s:Sec} {v:AV} (hv:IsBytes s.data v): ∀{l:List Sec} {cs:List AV},SRows l cs→cs.length=l.length*2→SRows (l++[s]) (cs++[.int .u8 s.kind.toNat,v])
 | [],cs,_,h=>by
  have:cs=[]:=w14 (by simpa using h)
  subst this
  exact⟨v,[],rfl,hv,trivial⟩
 |a::l,_,⟨w,r,rfl,h1,h2⟩,h=>⟨w,_,rfl,h1,h2.snoc hv (by simp only[w23] at h;omega)⟩
theorem V0 {S:List (List Blk)} {B0 cur:List Blk} {l:List Sec} {v w:AV} {s:Sec} {nx fl:Nat} {live:List (List Nat)} (h:LSt S.length B0 l v cur) (hw:IsBytes s.data w) (hl:l.length≤1000) (hfl:fl≤S.length):
  ∃v' cur',evAppB ⟨S,cur,nx,live,fl⟩ 2 32 v (.list 2 .full [.agg [.int .u8 s.kind.toNat,w]])=some (v',⟨S,cur',nx+1,live,fl⟩)∧LSt S.length B0 (l++[s]) v' cur':=by
 have hel: ∀m:Mem,m.elems 2 (.list 2 .full [.agg [.int .u8 s.kind.toNat,w]])=some [.agg [.int .u8 s.kind.toNat,w]]:=fun m=>zU m 2 .full _
 rcases h with⟨rfl,rfl,rfl⟩|⟨hne,st,cells,rfl,rfl,h1,h2⟩
 ·refine⟨_,_,?_,.inr ⟨by simp,nx,[.int .u8 s.kind.toNat,w],rfl,rfl,⟨w,[],rfl,hw,trivial⟩,rfl⟩⟩
  unfold evAppB
  simp only[hel,newRowB]
  rw[if_pos (by simp)]
  simp[AV.cells]
 ·have hb:Mem.blk ⟨S,B0++[⟨st,cells⟩],nx,live,fl⟩ S.length B0.length st=some cells:=by simp[Mem.blk,Mem.row]
  refine⟨.grow 2 S.length B0.length nx (l.length+1),B0++[⟨nx,cells++[.int .u8 s.kind.toNat,w]⟩],?_,.inr ⟨by simp,nx,_,by simp,rfl,h1.snoc hw h2,by simp;omega⟩⟩
  unfold evAppB evApp
  simp only[hel,hb,beq_self_eq_true,Bool.true_and,List.length_singleton]
  rw[if_pos (by simp only[w04,decide_eq_true_eq];omega)]
  simp only[Mem.put,beq_self_eq_true,if_true,w26,List.flatMap_nil,w19,AV.cells,w34 (show cells.length≤l.length*2 by omega),Ym]
theorem qp {b:List UInt8} {k m:Nat} (h:k+4≤m):num4 ((b.take m).drop k)=num4 (b.drop k):=by
 unfold num4
 rw[List.drop_take,List.take_take,Nat.min_eq_left (by omega)]
def RdV (l:List Sec) (L:Nat) (cur:List Blk) (lo:Nat) (v:AV):Prop:=
 (l=[]∧v= .nils)∨(l≠[]∧ ∃j st cells,v= .grow 2 L j st l.length∧lo≤j∧cur[j]? =some ⟨st,cells⟩∧SRows l cells∧cells.length=l.length*2)
theorem vY (a b k:Nat): ∀cs:List AV,(shiftAll a b k cs).length=cs.length
 | []=>rfl
 |c::r=>by simp only[shiftAll,w23,vY a b k r]
theorem SRows.shift (a b k:Nat): ∀{l:List Sec} {cs:List AV},SRows l cs→SRows l (shiftAll a b k cs)
 | [],_,_=>trivial
 |s::l,_,⟨v,r,rfl,h1,h2⟩=>by
  refine⟨v,shiftAll a b k r,?_,h1,h2.shift a b k⟩
  have:v.shift a b k=v:=by
   rcases h1 with⟨_,⟨_,rfl⟩|⟨tk,ys,rfl,_⟩⟩<;>rfl
  simp only[shiftAll,AV.shift,this]
theorem TZ {stk:List (List Blk)} {cur c' B0:List Blk} {nx nx' fl fl':Nat} {own:List Nat} {live:List (List Nat)} {l:List Sec} {v:AV} (r:Int) (h:LSt (stk++[cur]).length B0 l v c'):
  ∃v' bs ts,leave ⟨stk,cur,nx,live,fl⟩ ⟨stk++[cur],c',nx',own::live,fl'⟩ (.tup [v,.int .i64 r])=some (.tup [v',.int .i64 r],⟨stk,cur++bs,nx',pushToks ts live,fl⟩)∧RdV l stk.length (cur++bs) cur.length v':=by
 rcases h with⟨rfl,rfl,rfl⟩|⟨hne,st,cells,rfl,rfl,h1,h2⟩
 ·exact⟨.nils,[],_,by rw[vj (R:=IsByte) (s:=1) (xs:=[]) (Own.nil _),w19],.inl ⟨rfl,rfl⟩⟩
 ·refine⟨.grow 2 stk.length (B0.length+cur.length) st l.length,(B0++[Blk.mk st cells]).map (fun b:Blk=>Blk.mk b.st (shiftAll (stk++[cur]).length stk.length cur.length b.cs)),[],?_,.inr ⟨hne,_,st,shiftAll (stk++[cur]).length stk.length cur.length cells,rfl,by omega,?_,h1.shift _ _ _,by rw[vY];exact h2⟩⟩
  ·have e:own.filter (fun _=>false)=[]:=by simp
   unfold leave
   simp only[List.getLast?_append,List.getLast?_singleton,Option.some_or,AV.refs,refsAny,beq_self_eq_true,Bool.true_or,if_true,AV.shift,shiftAll,List.dropLast_concat,AV.toks,toksAll,w19,List.contains_nil,e]
   simp
  ·rw[w1e,Nat.add_comm,w0d (by omega),Nat.add_sub_cancel_left,w0d (by simp)]
   simp
theorem SRows.at2: ∀{l:List Sec} {cs:List AV},SRows l cs→ ∀{k:Nat} (h:k<l.length),∃v,takeV true 2 (cs.drop (k*2))=some (.agg [.int .u8 l[k].kind.toNat,v])∧takeV false 1 (cs.drop (k*2))=some (.int .u8 l[k].kind.toNat)∧takeV false 1 (cs.drop (k*2+1))=some v∧IsBytes l[k].data v
 |s::r,_,⟨v,rest,rfl,h1,h2⟩,0,_=>⟨v,by simp[takeV],by simp[takeV],by simp[takeV],h1⟩
 |s::r,_,⟨v,rest,rfl,h1,h2⟩,k+1,h=>by
  obtain⟨w,a,b,d,c⟩:=h2.at2 (k:=k) (by simpa using h)
  refine⟨w,?_,?_,?_,c⟩
  ·rw[show(k+1)*2=k*2+1+1 by omega];exact a
  ·rw[show(k+1)*2=k*2+1+1 by omega];exact b
  ·rw[show(k+1)*2+1=k*2+1+1+1 by omega];exact d
theorem Zn {L:Nat} {B0 c:List Blk} {l:List Sec} {v:AV} (h:LSt L B0 l v c):evLen v=some (.int .i64 l.length)∧v.one=true∧B0.length≤c.length∧(∀i,i<B0.length→c[i]? =B0[i]?)∧ ∃st cells,∀k (h:k<l.length),evIaddr 2 v (.int .i64 (k:Int))=some (.ptr L B0.length st (k*2))∧c[B0.length]? =some ⟨st,cells⟩∧B0.length<c.length∧
  ∃w,takeV true 2 (cells.drop (k*2))=some (.agg [.int .u8 l[k].kind.toNat,w])∧takeV false 1 (cells.drop (k*2))=some (.int .u8 l[k].kind.toNat)∧takeV false 1 (cells.drop (k*2+1))=some w∧IsBytes l[k].data w:=by
 rcases h with⟨rfl,rfl,rfl⟩|⟨hne,st,cells,rfl,rfl,h1,h2⟩
 ·exact⟨rfl,rfl,w0e _,fun _ _=>rfl,0,[],fun k h=>by simp at h⟩
 ·exact⟨rfl,rfl,by simp,fun i hi=>w0a hi,st,cells,fun k h=>⟨yU h,by simp,by simp,h1.at2 h⟩⟩
theorem T3 {S:List (List Blk)} {B0 c:List Blk} {l:List Sec} {v:AV} (h:LSt S.length B0 l v c) (hl:l.length≤1000) (nx fl:Nat) (lv:List (List Nat)) (hfl:fl≤S.length+1):Okv tab zt [v] ⟨S,c,nx,lv,fl⟩ (.bool (ordF 0 l)):=by
 rcases h with⟨rfl,rfl,rfl⟩|⟨hne,st,cells,rfl,rfl,h1,h2⟩
 ·exact ve [] .nils (.nil _) _ hfl
 ·exact tz l B0.length st cells h1 hl ⟨S,_,nx,lv,fl⟩ (by simp) hfl
theorem Ua {S:List (List Blk)} {B0 c:List Blk} {l:List Sec} {v:AV} (h:LSt S.length B0 l v c) (hl:l.length≤1000) (nx fl:Nat) (lv:List (List Nat)):Okv tab zd [v] ⟨S,c,nx,lv,fl⟩ (.bool (ordF 0 l)):=by
 rcases h with⟨rfl,rfl,rfl⟩|⟨hne,st,cells,rfl,rfl,h1,h2⟩
 ·exact vB [] .nils (.nil _) _
 ·exact vc l B0.length st cells h1 hl ⟨S,_,nx,lv,fl⟩ (by simp)
theorem Zg {b:List UInt8} {n:Nat}: ∀{i:Nat} {l:List Sec} {p:Nat},scanS b n i=some (l,p)→ ∀s∈l,s.data.length≤b.length
 |0,l,p,h=>by simp only[scanS,Option.some.injEq,Prod.mk.injEq] at h;rw[←h.1];simp
 |i+1,l,p,h=>by
  simp only[scanS] at h
  split at h
  ·cases h
  ·rename_i l0 p0 h0
   split at h
   ·cases h
   ·simp only[Option.some.injEq,Prod.mk.injEq] at h
    rw[←h.1]
    intro s hs
    rcases w07.1 hs with hs|hs
    ·exact Zg h0 s hs
    ·obtain rfl:=w27.1 hs
     dsimp only
     rw[w11,w10];omega
theorem ZL {n k:Nat} {p:Nat→Bool} (hk:k<n) (h:p k=false):((List.range n).all p)=false:=by
 rw[List.all_eq_false]
 exact⟨k,w35.2 hk,by rw[h];simp⟩
theorem XK {n:Nat} {p:Nat→Bool} (h: ∀k,k<n→p k=true):((List.range n).all p)=true:=by
 rw[w2c]
 exact fun k hk=>h k (w35.1 hk)
def ReadC (f:Nat):Prop:= ∀(b:List UInt8) (y:AV),IsBytes b y→ ∀(stk:List (List Blk)) (cur:List Blk) (nx fl:Nat) (live:List (List Nat)),fl≤stk.length+1→
 ∃v bs k ts,CALL tab f [y] ⟨stk,cur,nx,live,fl⟩=some (.tup [v,.int .i64 (readS b).1],⟨stk,cur++bs,k,pushToks ts live,fl⟩)∧RdV (readS b).2 stk.length (cur++bs) cur.length v
def FinR (b:List UInt8) (stk:List (List Blk)) (cur:List Blk) (live:List (List Nat)) (fl:Nat) (v:AV) (m':Mem):Prop:= ∃v0 bs k ts,v= .tup [v0,.int .i64 (readS b).1]∧m'=⟨stk,cur++bs,k,pushToks ts live,fl⟩∧RdV (readS b).2 stk.length (cur++bs) cur.length v0
theorem YW {f:Nat} {fn:AFunc} (h:tab f=some fn) (hx: ∀(b:List UInt8) (y:AV),IsBytes b y→ ∀(stk:List (List Blk)) (cur:List Blk) (nx fl:Nat) (live:List (List Nat)),fl≤stk.length+1→
  X tab fn.body (mk fn.ntmps (.tup []) (numb 0 [y])) (enter ⟨stk,cur,nx,live,fl⟩) (.fin fn.res ⟨stk,cur,nx,live,fl⟩ (FinR b stk cur live fl))) (hn:1≤fn.ntmps:=by exact Nat.le_of_ble_eq_true rfl):ReadC f:=by
 intro b y hy stk cur nx fl live hfl
 obtain⟨x,h1,v0,bs,k,ts,h2,h3,h4⟩:=uj h (hx b y hy stk cur nx fl live hfl) hn
 exact⟨v0,bs,k,ts,by rw[h1,←h2,←h3],h4⟩
theorem zB {b:List UInt8} {e:Int} {stk:List (List Blk)} {cur c':List Blk} {nx nx' fl fl':Nat} {own:List Nat} {live:List (List Nat)} (h:readS b=(e,[])):
  Opt (leave ⟨stk,cur,nx,live,fl⟩ ⟨stk++[cur],c',nx',own::live,fl'⟩ (.tup [.nils,.int .i64 e])) fun r=>FinR b stk cur live fl r.1 r.2:=by
 rw[vj (R:=IsByte) (s:=1) (xs:=[]) (Own.nil _),z6]
 exact⟨.nils,[],_,_,by rw[h],by rw[w19],by rw[h];exact .inl ⟨rfl,rfl⟩⟩
theorem Xm {b:List UInt8} {l:List Sec} {v:AV} {B0:List Blk} {stk:List (List Blk)} {cur c':List Blk} {nx nx' fl fl':Nat} {own:List Nat} {live:List (List Nat)} (h:readS b=(0,l)) (hl:LSt (stk++[cur]).length B0 l v c'):
  Opt (leave ⟨stk,cur,nx,live,fl⟩ ⟨stk++[cur],c',nx',own::live,fl'⟩ (.tup [v,.int .i64 0])) fun r=>FinR b stk cur live fl r.1 r.2:=by
 obtain⟨v',bs,ts,h1,h2⟩:=TZ (nx:=nx) (nx':=nx') (fl:=fl) (fl':=fl') (own:=own) (live:=live) 0 hl
 rw[h1,z6]
 exact⟨v',bs,_,ts,by rw[h],rfl,by rw[h];exact h2⟩
theorem jI:ReadC va:=by
 refine YW jM fun b y hy stk cur nx fl live hfl=> ?_
 have hf':fl≤(stk++[cur]).length+1:=by simp;omega
 have hf:fl≤(stk++[cur]).length:=by simp;omega
 simp only[xZ,List.map,go_sem,reduceIte,G0,G1,G2,G3,G4,G5,hy.len]
 by_cases c1:b.length>200000
 ·have d1:(b.length:Int)>200000:=by omega
  simp only[go_sem,reduceIte,G0,G1,G2,G3,G4,G5,d1]
  exact zB (by unfold readS;rw[if_pos c1])
 have d1: ¬((b.length:Int)>200000):=by omega
 by_cases c2:b.length<10
 ·have d2:(b.length:Int)<10:=by omega
  simp only[go_sem,reduceIte,G0,G1,G2,G3,G4,G5,d1,hy.len,d2]
  exact zB (by unfold readS;rw[if_neg c1,if_pos c2])
 have d2: ¬((b.length:Int)<10):=by omega
 have hsl:evSlice 1 (.list 1 .full [.int .u8 87,.int .u8 82,.int .u8 67,.int .u8 75]) none none none=some (.list 1 .full [.int .u8 87,.int .u8 82,.int .u8 67,.int .u8 75]):=rfl
 simp only[go_sem,reduceIte,G0,G1,G2,G3,G4,G5,d1,hy.len,d2,allLen,hsl]
 refine(Own.full (R:=IsByte) (s:=1) (xs:=[87,82,67,75]) (ys:=[.int .u8 87,.int .u8 82,.int .u8 67,.int .u8 75]) ⟨rfl,rfl,rfl,rfl,trivial⟩ []).xv (cs:=[1]) (zU · _ _ _) ⟨rfl,trivial⟩ (by simp) fun z0 n3 e0 o0=> ?_
 have hH:=fun m=>(qe b magicS y z0 hy (o0.sl (by simp)) m).eq
 have ek:(decide (magicS.length≤b.length)&&b.take magicS.length==magicS)=(b.take 5==magicS):=by
  have:magicS.length≤b.length:=by show 5≤_;omega
  rw[decide_eq_true this];rfl
 rw[ek] at hH
 simp only[go_sem,reduceIte,G0,G1,G2,G3,G4,G5,hH]
 generalize callNx tab yC _ _=n4
 have a5:evIaddr 1 y (.int .i64 5)=some (.ro (nth y 5).cells):=hy.at .i64 (i:=5) (by omega)
 have n5:nth y 5= .int .u8 (b.getD 5 0).toNat:=by
  have:=hy.nth (i:=5) (by omega)
  rw[w02,w05 (by omega)]
  exact this
 have hn256:=(b.getD 5 0).toNat_lt
 have hR0:readS b=(if b.take 5≠magicS∨(b.getD 5 0).toNat>7 then(12,[]) else if b.length<10+13*(b.getD 5 0).toNat then(24,[]) else
   if num4 (b.drop (6+13*(b.getD 5 0).toNat))≠sumN (b.take (6+13*(b.getD 5 0).toNat)) then(22,[]) else
   match scanS b (b.getD 5 0).toNat (b.getD 5 0).toNat with
   |none=>(12,[])
   |some (l,p)=>if ordF 0 l=false∨p≠b.length then(12,[]) else
    if((List.range l.length).all fun i=>crR b i==sumN (secA l i).data)=false then(22,[]) else(0,l):Int×List Sec):=by
  unfold readS;rw[if_neg c1,if_neg c2]
 generalize (b.getD 5 0).toNat=n at*
 by_cases c3:b.take 5=magicS
 case neg=>
  have d3:(b.take 5==magicS)=false:=beq_eq_false_iff_ne.2 c3
  simp only[go_sem,reduceIte,G0,G1,G2,G3,G4,G5,d3,Bool.not_false]
  exact zB (by rw[hR0,if_pos (.inl c3)])
 have d3:(b.take 5==magicS)=true:=beq_iff_eq.2 c3
 by_cases c4:n>7
 ·have d4:(n:Int)>7:=by omega
  simp only[go_sem,reduceIte,G0,G1,G2,G3,G4,G5,d3,w36,a5,n5,d4]
  exact zB (by rw[hR0,if_pos (.inr c4)])
 have d4: ¬((n:Int)>7):=by omega
 have w1:IntKind.i64.wrap (n:Int)=n:=z9 (by omega) (by omega)
 have w2:IntKind.i64.wrap (13*(n:Int))=13*n:=z9 (by omega) (by omega)
 have w3:IntKind.i64.wrap (6+13*(n:Int))=((6+13*n:Nat):Int):=by rw[z9 (by omega) (by omega)];push_cast;rfl
 have w4:IntKind.i64.wrap (((6+13*n:Nat):Int)+4)=((10+13*n:Nat):Int):=by rw[z9 (by omega) (by omega)];push_cast;omega
 rw[if_neg (fun h=>h.elim (fun h=>h c3) c4)] at hR0
 by_cases c5:b.length<10+13*n
 ·have d5:((b.length:Int)<((10+13*n:Nat):Int)):=by omega
  simp only[go_sem,reduceIte,G0,G1,G2,G3,G4,G5,d3,w36,a5,n5,d4,w1,w2,w3,w4,hy.len,d5]
  exact zB (by rw[hR0,if_pos c5])
 have d5: ¬((b.length:Int)<((10+13*n:Nat):Int)):=by omega
 rw[if_neg c5] at hR0
 have hT:=fun c n lv=>(uH ⟨stk++[cur],c,n,lv,fl⟩ hf').eq
 obtain⟨y1,g1,s1⟩:=qh hy (n:=6+13*n) (by omega)
 have hS:=fun c n lv=>(tj _ y1 s1 (by rw[w11];omega) ⟨stk++[cur],c,n,lv,max fl ((stk++[cur]).length+1)⟩ (by simp;omega)).eq
 obtain⟨y2,g2,s2⟩:=xo hy (n:=6+13*n) (by omega)
 have hN:=fun m=>(yM _ y2 s2 (by rw[w10];omega) m).eq
 have w5:IntKind.u64.wrap ((sumN (b.take (6+13*n)):Nat):Int)=((sumN (b.take (6+13*n)):Nat):Int):=by have:=vg (b.take (6+13*n));exact zp (by omega) (by omega)
 simp only[go_sem,reduceIte,G0,G1,G2,G3,G4,G5,d3,w36,a5,n5,d4,w1,w2,w3,w4,hy.len,d5,hT,qb,WJ,List.length_replicate,Yq,w19,yf,g1,hS,g2,hN,w5]
 have hnx: ∃q,q=callNx tab yK [] ⟨stk++[cur],[],n4,e0::live,fl⟩:=⟨_,rfl⟩
 obtain⟨q0,hq0⟩:=hnx
 simp only[←hq0]
 by_cases c6:num4 (b.drop (6+13*n))=sumN (b.take (6+13*n))
 case neg=>
  have d6:(((num4 (b.drop (6+13*n)):Nat):Int) !=((sumN (b.take (6+13*n)):Nat):Int))=true:=by rw[zh];exact decide_eq_true c6
  simp only[go_sem,reduceIte,G0,G1,G2,G3,G4,G5,d6]
  exact zB (by rw[hR0,if_pos c6])
 have d6:(((num4 (b.drop (6+13*n)):Nat):Int) !=((sumN (b.take (6+13*n)):Nat):Int))=false:=by rw[zh];exact decide_eq_false (fun h=>h c6)
 rw[if_neg (fun h=>h c6)] at hR0
 obtain⟨y3,g3,s3⟩:=xo hy (n:=10+13*n) (by omega)
 obtain⟨y4,g4,s4⟩:=U3 hy (n:=6) (k:=6+13*n) (by omega) (by omega)
 have g4:evSlice 1 y (some (.int .i64 6)) (some (.int .i64 ((6+13*n:Nat):Int))) none=some y4:=g4
 simp only[go_sem,reduceIte,G0,G1,G2,G3,G4,G5,d6,w4,g3,g4]
 generalize callNx tab zr _ _=n5
 refine zk (α:=Nat) (fun i σ=>i≤n∧ ∃nz l p v9 c9 z10 z11 z12 e,scanS b n i=some (l,p)∧p≤b.length∧LSt (stk++[cur]).length [⟨q0,TB⟩] l v9 c9∧Own (IsK .u64) 1 z10 ((List.range i).map fun j=>((crR b j:Nat):Int)) e∧IsBytes (b.drop p) z11∧IsBytes ((b.take (6+13*n)).drop (6+13*i)) z12∧
  heads [0,6,9,10,11,12,999999] 1 σ=⟨tmps 151 [(0,y),(6,.ptr (stk++[cur]).length 0 q0 0),(9,v9),(10,z10),(11,z11),(12,z12),(999999,.undef)],⟨stk++[cur],c9,nz,e::live,fl⟩⟩) (fun i=>n-i) 0 ?_ ?_
 ·refine⟨w0f _,?_⟩
  simp only[go_sem,reduceIte,G0,G1,G2,G3,G4,G5]
  exact⟨_,[],10+13*n,_,_,_,_,_,_,rfl,by omega,.inl ⟨rfl,rfl,rfl⟩,.nil _,s3,s4,rfl⟩
 ·rintro i σ ⟨hi,nz,l,p,v9,c9,z10,z11,z12,e,hsc,hp,hls,hcr,hz11,hz12,hσ⟩
  rw[hσ]
  clear hσ σ
  dsimp only at hi⊢
  have hlen:=jS hsc
  by_cases h:i<n
  ·have hd12:((b.take (6+13*n)).drop (6+13*i)).length=13*(n-i):=by rw[w10,w11];omega
   have hd11:(b.drop p).length=b.length-p:=w10
   have dg:(((b.take (6+13*n)).drop (6+13*i)).length:Int)>0:=by rw[hd12];omega
   obtain⟨u5,g5,t5⟩:=xo hz12 (n:=5) (by rw[hd12];omega)
   obtain⟨u1,g1',t1⟩:=xo hz12 (n:=1) (by rw[hd12];omega)
   obtain⟨u9,g9,t9⟩:=xo hz12 (n:=9) (by rw[hd12];omega)
   obtain⟨u13,g13,t13⟩:=xo hz12 (n:=13) (by rw[hd12];omega)
   have hN5:=fun m=>(yM _ u5 t5 (by rw[w10,hd12];omega) m).eq
   have hN1:=fun m=>(yM _ u1 t1 (by rw[w10,hd12];omega) m).eq
   have hN9:=fun m=>(yM _ u9 t9 (by rw[w10,hd12];omega) m).eq
   have q5:num4 (((b.take (6+13*n)).drop (6+13*i)).drop 5)=szR b i:=by rw[List.drop_drop,qp (by omega)];rfl
   have q1:num4 (((b.take (6+13*n)).drop (6+13*i)).drop 1)=atR b i:=by rw[List.drop_drop,qp (by omega)];rfl
   have q9:num4 (((b.take (6+13*n)).drop (6+13*i)).drop 9)=crR b i:=by rw[List.drop_drop,qp (by omega)];rfl
   rw[q5] at hN5
   rw[q1] at hN1
   rw[q9] at hN9
   rw[List.drop_drop,show 6+13*i+13=6+13*(i+1) by omega] at t13
   have g5:evSlice 1 z12 (some (.int .i64 5)) none none=some u5:=g5
   have g1':evSlice 1 z12 (some (.int .i64 1)) none none=some u1:=g1'
   have g9:evSlice 1 z12 (some (.int .i64 9)) none none=some u9:=g9
   have g13:evSlice 1 z12 (some (.int .i64 13)) none none=some u13:=g13
   have x1:IntKind.i64.wrap ((b.length:Int)-((b.drop p).length:Int))=(p:Int):=by rw[hd11,z9 (by omega) (by omega)];omega
   have x2:IntKind.u64.wrap (p:Int)=p:=zp (by omega) (by omega)
   have x3:IntKind.u64.wrap ((b.drop p).length:Int)=(b.drop p).length:=zp (by omega) (by omega)
   have hstep:scanS b n (i+1)=if atR b i≠p∨szR b i>b.length-p then none else some (l++[⟨kdR b i,(b.drop p).take (szR b i)⟩],p+szR b i):=by
    rw[scanS,hsc]
   by_cases c7:atR b i=p
   case neg=>
    have d7:(((atR b i:Nat):Int) !=(p:Int))=true:=by rw[zh];exact decide_eq_true c7
    simp only[go_sem,reduceIte,G0,G1,G2,G3,G4,G5,hz12.len,dg,g5,hN5,g1',hN1,hy.len,hz11.len,x1,x2,d7]
    rw[if_pos (.inl c7)] at hstep
    exact zB (by rw[hR0,qj hstep h])
   have d7:(((atR b i:Nat):Int) !=(p:Int))=false:=by rw[zh];exact decide_eq_false (fun h=>h c7)
   by_cases c8:szR b i>b.length-p
   ·have d8:(((szR b i:Nat):Int)>((b.drop p).length:Int)):=by rw[hd11];omega
    simp only[go_sem,reduceIte,G0,G1,G2,G3,G4,G5,hz12.len,dg,g5,hN5,g1',hN1,hy.len,hz11.len,x1,x2,d7,x3,d8]
    rw[if_pos (.inr c8)] at hstep
    exact zB (by rw[hR0,qj hstep h])
   have d8: ¬(((szR b i:Nat):Int)>((b.drop p).length:Int)):=by rw[hd11];omega
   rw[if_neg (fun h=>h.elim (fun h=>h c7) c8)] at hstep
   obtain⟨ua,ga,ta⟩:=YN .u64 hz11 (n:=szR b i) (by rw[hd11];omega)
   obtain⟨ub,gb,tb⟩:=YO .u64 hz11 (n:=szR b i) (by rw[hd11];omega)
   rw[List.drop_drop] at tb
   have hk0:nth z12 0= .int .u8 (kdR b i).toNat:=by
    have:=hz12.nth (i:=0) (by rw[hd12];omega)
    rw[List.getElem_drop,List.getElem_take] at this
    unfold kdR
    rw[w02,w05 (by omega)]
    exact this
   have ha0:evIaddr 1 z12 (.int .i64 0)=some (.ro (nth z12 0).cells):=hz12.at .i64 (i:=0) (by rw[hd12];omega)
   simp only[go_sem,reduceIte,G0,G1,G2,G3,G4,G5,hz12.len,dg,g5,hN5,g1',hN1,hy.len,hz11.len,x1,x2,d7,x3,d8,ha0,hk0]
   generalize callNx tab zr [u1] _=n6
   obtain⟨w,tw,n7,hcl,hw⟩:=kO _ ua ta (by rw[w11,hd11];omega) ⟨stk++[cur],c9,n6,e::live,max fl ((stk++[cur]).length+1)⟩
   simp only[z8] at hcl
   have hwb:=hw.sl (by rw[w11,hd11];omega)
   obtain⟨v',c',hap,hls'⟩:=V0 (s:=⟨kdR b i,(b.drop p).take (szR b i)⟩) (nx:=n7) (fl:=fl) (live:=(tw++e)::live) hls hwb (by omega) hf
   dsimp only at hap
   simp only[go_sem,reduceIte,G0,G1,G2,G3,G4,G5,ga,hcl,evBuild,hwb.refs_cells,hwb.one,allLen,hap]
   refine⟨rfl,?_⟩
   simp only[go_sem,reduceIte,G0,G1,G2,G3,G4,G5,g9,hN9,allLen]
   generalize callNx tab zr [u9] _=n8
   refine(hcr.push tw).xv (cs:=[((crR b i:Nat):Int)]) (zU · _ _ _) ⟨rfl,trivial⟩ (by simp;omega) fun za na ea oa=> ?_
   simp only[go_sem,reduceIte,G0,G1,G2,G3,G4,G5,gb,g13]
   refine⟨i+1,by omega,h,_,_,_,_,_,_,_,_,_,hstep,by omega,hls',?_,tb,t13,rfl⟩
   rw[List.range_succ,w1e]
   exact oa
  ·obtain rfl:i=n:=by omega
   have hd12:((b.take (6+13*i)).drop (6+13*i)).length=0:=by rw[w10,w11];omega
   have hd11:(b.drop p).length=b.length-p:=w10
   have dg: ¬((((b.take (6+13*i)).drop (6+13*i)).length:Int)>0):=by rw[hd12];omega
   rw[hsc] at hR0
   have hO:=fun n lv=>(T3 hls (by omega) n fl lv hf').eq
   simp only[go_sem,reduceIte,G0,G1,G2,G3,G4,G5,hz12.len,dg,hO]
   generalize callNx tab zt _ _=n9
   cases ho:ordF 0 l
   ·simp only[go_sem,reduceIte,G0,G1,G2,G3,G4,G5,Bool.not_false]
    exact zB (by rw[hR0];dsimp only;rw[if_pos (.inl ho)])
   by_cases c9':p=b.length
   case neg=>
    have d9:((b.drop p).length:Int)>0:=by rw[hd11];omega
    simp only[go_sem,reduceIte,G0,G1,G2,G3,G4,G5,w36,hz11.len,d9]
    exact zB (by rw[hR0];dsimp only;rw[if_pos (.inr c9')])
   have d9: ¬(((b.drop p).length:Int)>0):=by rw[hd11];omega
   dsimp only at hR0
   rw[if_neg (fun h=>h.elim (fun h=>by rw[ho] at h;cases h) (fun h=>h c9'))] at hR0
   obtain⟨f1,f2,f3,f4,st,cells,f5⟩:=Zn hls
   have hb0:c9[0]? =some ⟨q0,TB⟩:=f4 0 (by simp)
   have f3:1≤c9.length:=f3
   have tk0:c9.take c9.length=c9:=w28
   have tkA: ∀B,(c9++[B]).take c9.length=c9:=fun B=>by simp
   simp only[go_sem,reduceIte,G0,G1,G2,G3,G4,G5,w36,hz11.len,d9,f1]
   refine zk (α:=Nat) (fun k σ=>(k≤l.length∧ ∀j,j<k→crR b j=sumN (secA l j).data)∧ ∃nz,heads [6,9,10,128,129,130] c9.length σ=⟨tmps 151 [(6,.ptr (stk++[cur]).length 0 q0 0),(9,v9),(10,z10),(128,v9),(129,.int .i64 l.length),(130,.int .i64 k)],⟨stk++[cur],c9,nz,e::live,fl⟩⟩) (fun k=>l.length-k) 0 ?_ ?_
   ·refine⟨⟨w0f _,fun j hj=>by omega⟩,?_⟩
    simp only[go_sem,reduceIte,G0,G1,G2,G3,G4,G5,tk0]
    exact⟨_,rfl⟩
   ·rintro k σ ⟨⟨hk,hall⟩,nq,hσ⟩
    rw[hσ]
    clear hσ σ
    dsimp only at hk hall⊢
    by_cases hkl:k<l.length
    ·obtain⟨a1,a2,a3,w,a4,a5',a6,a7⟩:=f5 k hkl
     have hld:=Zg hsc _ (List.getElem_mem hkl)
     have hS2:=fun c n lv=>(tj _ w a7 (by omega) ⟨stk++[cur],c,n,lv,fl⟩ hf').eq
     have hB1: ∀B:Blk,(c9++[B])[1]? =some ⟨st,cells⟩:=fun B=>by rw[w0a (by exact a3)];exact a2
     have hB0: ∀B:Blk,(c9++[B])[0]? =some ⟨q0,TB⟩:=fun B=>by rw[w0a (by omega)];exact hb0
     have a2:c9[1]? =some ⟨st,cells⟩:=a2
     have hzn:nth z10 k= .int .u64 ((crR b k:Nat):Int):=by
      have:=hcr.nth (i:=k) (by simp;omega)
      simpa [IsK] using this
     have hza:=hcr.at .i64 (i:=k) (by simp;omega)
     have w6:IntKind.u64.wrap ((sumN l[k].data:Nat):Int)=((sumN l[k].data:Nat):Int):=by have:=vg l[k].data;exact zp (by omega) (by omega)
     have a1:evIaddr 2 v9 (.int .i64 (k:Int))=some (.ptr (stk++[cur]).length 1 st (k*2)):=a1
     have w1:=a7.one
     by_cases cc:crR b k=sumN l[k].data
     ·have dd:(((sumN l[k].data:Nat):Int) !=((crR b k:Nat):Int))=false:=by rw[zh];exact decide_eq_false (fun h=>h cc.symm)
      simp only[go_sem,reduceIte,G0,G1,G2,G3,G4,G5,w06,hkl,a1,a2,a4,hB0,hB1,V9,Ym,w1,yf,hS2,w6,hza,hzn,dd,tkA,zb hkl (show l.length≤9223372036854775807 by omega)]
      refine⟨k+1,by omega,⟨hkl,fun j hj=> ?_⟩,_,rfl⟩
      by_cases ej:j=k
      ·subst ej;rw[xB hkl];exact cc
      ·exact hall j (by omega)
     ·have dd:(((sumN l[k].data:Nat):Int) !=((crR b k:Nat):Int))=true:=by rw[zh];exact decide_eq_true (fun h=>cc h.symm)
      simp only[go_sem,reduceIte,G0,G1,G2,G3,G4,G5,w06,hkl,a1,a2,a4,hB0,hB1,V9,Ym,w1,yf,hS2,w6,hza,hzn,dd]
      exact zB (by rw[hR0,if_pos (ZL hkl (by rw[xB hkl];exact beq_eq_false_iff_ne.2 cc))])
    ·obtain rfl:k=l.length:=by omega
     simp only[go_sem,reduceIte,G0,G1,G2,G3,G4,G5,w06,hkl]
     exact Xm (by rw[hR0,if_neg (by rw[XK (fun j hj=>beq_iff_eq.2 (hall j hj))];simp)]) hls
theorem WE {α:Type} {R:α→AV→Prop} {s bytes:Nat} {stk:List (List Blk)} {cur:List Blk} {nx fl:Nat} {e:List Nat} {rest:List (List Nat)} {xs:List α} {z:AV} (hz:IsSl R s xs z) (hl:xs.length*bytes≤140737488355328):
  ∃y n e',evApp ⟨stk,cur,nx,e::rest,fl⟩ s bytes (.list s .full []) z=some (y,⟨stk,cur,n,e'::rest,fl⟩)∧Own R s y xs e'∧ ∀t∈e,t∈e':=by
 obtain⟨zs,h1,h2⟩:=hz.elems_any
 have ho:Own R s (.list s .full []) ([]:List α) (Mem.live ⟨stk,cur,nx,e::rest,fl⟩).flatten:=Own.full (show All2 R [] [] from trivial) _
 rcases ho.app (m:=⟨stk,cur,nx,e::rest,fl⟩) (h1 _) h2 (by simpa using hl) with⟨hcs,q⟩|⟨ys,q,eq⟩|⟨t,ys,q0,hy,_,q,eq⟩
 ·subst hcs;exact⟨_,_,_,q,Own.full (show All2 R [] [] from trivial) _,fun t h=>h⟩
 ·exact⟨_,_,_,eq,.inr ⟨_,ys,rfl,q,.inr ⟨_,w18,rfl⟩⟩,fun t h=>w13 _ h⟩
 ·cases hy
theorem xz:ReadC zS:=by
 refine YW uJ fun b y hy stk cur nx fl live hfl=> ?_
 have hf':fl≤(stk++[cur]).length+1:=by simp;omega
 have hf:fl≤(stk++[cur]).length:=by simp;omega
 simp only[yI,List.map,go_sem,reduceIte,G0,G1,G2,G3,G4,G5,hy.len]
 by_cases c1:b.length>200000
 ·have d1:(b.length:Int)>200000:=by omega
  simp only[go_sem,reduceIte,G0,G1,G2,G3,G4,G5,d1]
  exact zB (by unfold readS;rw[if_pos c1])
 have d1: ¬((b.length:Int)>200000):=by omega
 by_cases c2:b.length<10
 ·have d2:(b.length:Int)<10:=by omega
  simp only[go_sem,reduceIte,G0,G1,G2,G3,G4,G5,d1,hy.len,d2]
  exact zB (by unfold readS;rw[if_neg c1,if_pos c2])
 have d2: ¬((b.length:Int)<10):=by omega
 have a5:evIaddr 1 y (.int .i64 5)=some (.ro (nth y 5).cells):=hy.at .i64 (i:=5) (by omega)
 have n5:nth y 5= .int .u8 (b.getD 5 0).toNat:=by
  have:=hy.nth (i:=5) (by omega)
  rw[w02,w05 (by omega)]
  exact this
 have hn256:=(b.getD 5 0).toNat_lt
 have hR0:readS b=(if b.take 5≠magicS∨(b.getD 5 0).toNat>7 then(12,[]) else if b.length<10+13*(b.getD 5 0).toNat then(24,[]) else
   if num4 (b.drop (6+13*(b.getD 5 0).toNat))≠sumN (b.take (6+13*(b.getD 5 0).toNat)) then(22,[]) else
   match scanS b (b.getD 5 0).toNat (b.getD 5 0).toNat with
   |none=>(12,[])
   |some (l,p)=>if ordF 0 l=false∨p≠b.length then(12,[]) else
    if((List.range l.length).all fun i=>crR b i==sumN (secA l i).data)=false then(22,[]) else(0,l):Int×List Sec):=by
  unfold readS;rw[if_neg c1,if_neg c2]<;>rfl
 generalize (b.getD 5 0).toNat=n at*
 have w1:IntKind.i64.wrap (n:Int)=n:=z9 (by omega) (by omega)
 obtain⟨y0,g0,s0⟩:=qh hy (n:=5) (by omega)
 have g0:evSlice 1 y none (some (.int .i64 5)) none=some y0:=g0
 have hts:=fun m=>IsBytes.toStr m s0
 by_cases c3:b.take 5=magicS
 case neg=>
  have d3:(!(b.take 5==[87,82,67,75,1]))=true:=by rw[beq_eq_false_iff_ne.2 (show b.take 5≠[87,82,67,75,1] from c3)];rfl
  simp only[go_sem,reduceIte,G0,G1,G2,G3,G4,G5,d1,hy.len,d2,a5,n5,w1,g0,hts,evStr,d3]
  exact zB (by rw[hR0,if_pos (.inl c3)])
 have d3:(!(b.take 5==[87,82,67,75,1]))=false:=by rw[beq_iff_eq.2 (show b.take 5=[87,82,67,75,1] from c3)];rfl
 by_cases c4:n>7
 ·have d4:(n:Int)>7:=by omega
  simp only[go_sem,reduceIte,G0,G1,G2,G3,G4,G5,d1,hy.len,d2,a5,n5,w1,g0,hts,evStr,d3,d4]
  exact zB (by rw[hR0,if_pos (.inr c4)])
 have d4: ¬((n:Int)>7):=by omega
 have w2:IntKind.i64.wrap (13*(n:Int))=13*n:=z9 (by omega) (by omega)
 have w3:IntKind.i64.wrap (10+13*(n:Int))=((10+13*n:Nat):Int):=by rw[z9 (by omega) (by omega)];omega
 have w4:IntKind.i64.wrap (((10+13*n:Nat):Int)-4)=((6+13*n:Nat):Int):=by rw[z9 (by omega) (by omega)];push_cast;omega
 rw[if_neg (fun h=>h.elim (fun h=>h c3) c4)] at hR0
 by_cases c5:b.length<10+13*n
 ·have d5:((b.length:Int)<((10+13*n:Nat):Int)):=by omega
  simp only[go_sem,reduceIte,G0,G1,G2,G3,G4,G5,d1,hy.len,d2,a5,n5,w1,g0,hts,evStr,d3,d4,w2,w3,d5]
  exact zB (by rw[hR0,if_pos c5])
 have d5: ¬((b.length:Int)<((10+13*n:Nat):Int)):=by omega
 rw[if_neg c5] at hR0
 obtain⟨y1,g1,s1⟩:=qh hy (n:=6+13*n) (by omega)
 have hS:=fun c n lv=>(ye _ y1 s1 ⟨stk++[cur],c,n,lv,max fl ((stk++[cur]).length+1)⟩ (by simp;omega)).eq
 obtain⟨y2,g2,s2⟩:=xo hy (n:=6+13*n) (by omega)
 have hN:=fun m=>(zI _ y2 s2 (by rw[w10];omega) m).eq
 have w5:IntKind.u64.wrap ((sumN (b.take (6+13*n)):Nat):Int)=((sumN (b.take (6+13*n)):Nat):Int):=by have:=vg (b.take (6+13*n));exact zp (by omega) (by omega)
 simp only[go_sem,reduceIte,G0,G1,G2,G3,G4,G5,d1,hy.len,d2,a5,n5,w1,g0,hts,evStr,d3,d4,w2,w3,w4,d5,g1,hS,g2,hN,w5]
 generalize callNx tab zm _ _=n7
 by_cases c6:num4 (b.drop (6+13*n))=sumN (b.take (6+13*n))
 case neg=>
  have d6:(((num4 (b.drop (6+13*n)):Nat):Int) !=((sumN (b.take (6+13*n)):Nat):Int))=true:=by rw[zh];exact decide_eq_true c6
  simp only[go_sem,reduceIte,G0,G1,G2,G3,G4,G5,d6]
  exact zB (by rw[hR0,if_pos c6])
 have d6:(((num4 (b.drop (6+13*n)):Nat):Int) !=((sumN (b.take (6+13*n)):Nat):Int))=false:=by rw[zh];exact decide_eq_false (fun h=>h c6)
 rw[if_neg (fun h=>h c6)] at hR0
 have w6:IntKind.u64.wrap ((10+13*n:Nat):Int)=((10+13*n:Nat):Int):=zp (by omega) (by omega)
 simp only[go_sem,reduceIte,G0,G1,G2,G3,G4,G5,d6,w6]
 refine zk (α:=Nat) (fun i σ=>i≤n∧ ∃nz l p v9 c9 e,scanS b n i=some (l,p)∧p≤b.length∧LSt (stk++[cur]).length [] l v9 c9∧
  heads [0,4,6,7,8,999999] 0 σ=⟨tmps 131 [(0,y),(4,.int .i64 n),(6,v9),(7,.int .u64 p),(8,.int .i64 i),(999999,.undef)],⟨stk++[cur],c9,nz,e::live,fl⟩⟩) (fun i=>n-i) 0 ?_ ?_
 ·refine⟨w0f _,?_⟩
  simp only[go_sem,reduceIte,G0,G1,G2,G3,G4,G5]
  exact⟨_,[],10+13*n,_,_,_,rfl,by omega,.inl ⟨rfl,rfl,rfl⟩,rfl⟩
 ·rintro i σ ⟨hi,nz,l,p,v9,c9,e,hsc,hp,hls,hσ⟩
  rw[hσ]
  clear hσ σ
  dsimp only at hi⊢
  have hlen:=jS hsc
  by_cases h:i<n
  ·have e1:IntKind.i64.wrap (13*(i:Int))=13*i:=z9 (by omega) (by omega)
   have e2:IntKind.i64.wrap (6+13*(i:Int))=((6+13*i:Nat):Int):=by rw[z9 (by omega) (by omega)];omega
   have e3:IntKind.i64.wrap (((6+13*i:Nat):Int)+13)=((6+13*i+13:Nat):Int):=by rw[z9 (by omega) (by omega)];omega
   obtain⟨z12,gz,hz12⟩:=U3 hy (n:=6+13*i) (k:=6+13*i+13) (by omega) (by omega)
   have hd12:((b.take (6+13*i+13)).drop (6+13*i)).length=13:=by rw[w10,w11];omega
   obtain⟨u5,g5,t5⟩:=xo hz12 (n:=5) (by rw[hd12];omega)
   obtain⟨u1,g1',t1⟩:=xo hz12 (n:=1) (by rw[hd12];omega)
   have hN5:=fun m=>(zI _ u5 t5 (by rw[w10,hd12];omega) m).eq
   have hN1:=fun m=>(zI _ u1 t1 (by rw[w10,hd12];omega) m).eq
   have q5:num4 (((b.take (6+13*i+13)).drop (6+13*i)).drop 5)=szR b i:=by rw[List.drop_drop,qp (by omega)];rfl
   have q1:num4 (((b.take (6+13*i+13)).drop (6+13*i)).drop 1)=atR b i:=by rw[List.drop_drop,qp (by omega)];rfl
   rw[q5] at hN5
   rw[q1] at hN1
   have g5:evSlice 1 z12 (some (.int .i64 5)) none none=some u5:=g5
   have g1':evSlice 1 z12 (some (.int .i64 1)) none none=some u1:=g1'
   have x2:IntKind.u64.wrap (b.length:Int)=b.length:=zp (by omega) (by omega)
   have x3:IntKind.u64.wrap ((b.length:Int)-(p:Int))=((b.length-p:Nat):Int):=by rw[zp (by omega) (by omega)];omega
   have hstep:scanS b n (i+1)=if atR b i≠p∨szR b i>b.length-p then none else some (l++[⟨kdR b i,(b.drop p).take (szR b i)⟩],p+szR b i):=by
    rw[scanS,hsc]
   by_cases c7:atR b i=p
   case neg=>
    have d7:(((atR b i:Nat):Int) !=(p:Int))=true:=by rw[zh];exact decide_eq_true c7
    simp only[go_sem,reduceIte,G0,G1,G2,G3,G4,G5,w06,h,e1,e2,e3,gz,g5,hN5,g1',hN1,hy.len,x2,x3,d7]
    rw[if_pos (.inl c7)] at hstep
    exact zB (by rw[hR0,qj hstep h])
   have d7:(((atR b i:Nat):Int) !=(p:Int))=false:=by rw[zh];exact decide_eq_false (fun h=>h c7)
   by_cases c8:szR b i>b.length-p
   ·have d8:(((szR b i:Nat):Int)>((b.length-p:Nat):Int)):=by omega
    simp only[go_sem,reduceIte,G0,G1,G2,G3,G4,G5,w06,h,e1,e2,e3,gz,g5,hN5,g1',hN1,hy.len,x2,x3,d7,d8]
    rw[if_pos (.inr c8)] at hstep
    exact zB (by rw[hR0,qj hstep h])
   have d8: ¬(((szR b i:Nat):Int)>((b.length-p:Nat):Int)):=by omega
   rw[if_neg (fun h=>h.elim (fun h=>h c7) c8)] at hstep
   have x4:IntKind.u64.wrap ((p:Int)+((szR b i:Nat):Int))=((p+szR b i:Nat):Int):=by rw[zp (by omega) (by omega)];omega
   obtain⟨ua,ga,ta⟩:=WS .u64 hy (n:=p) (k:=p+szR b i) (by omega) (by omega)
   have hdt:(b.take (p+szR b i)).drop p=(b.drop p).take (szR b i):=by rw[List.drop_take,Nat.add_sub_cancel_left]
   rw[hdt] at ta
   have hdl:((b.drop p).take (szR b i)).length≤b.length:=by rw[w11,w10];omega
   have hk0:nth z12 0= .int .u8 (kdR b i).toNat:=by
    have:=hz12.nth (i:=0) (by rw[hd12];omega)
    rw[List.getElem_drop,List.getElem_take] at this
    unfold kdR
    rw[w02,w05 (by omega)]
    exact this
   have ha0:evIaddr 1 z12 (.int .i64 0)=some (.ro (nth z12 0).cells):=hz12.at .i64 (i:=0) (by rw[hd12];omega)
   simp only[go_sem,reduceIte,G0,G1,G2,G3,G4,G5,w06,h,e1,e2,e3,gz,g5,hN5,g1',hN1,hy.len,x2,x3,d7,d8,ha0,hk0,allLen,x4]
   generalize callNx tab zl [u1] _=n6
   obtain⟨w,n8,e',hcl,hw,_⟩:=WE (stk:=stk++[cur]) (cur:=c9) (nx:=n6) (fl:=max fl ((stk++[cur]).length+1)) (e:=e) (rest:=live) (bytes:=1) ta (by omega)
   have hwb:=hw.sl (by omega)
   obtain⟨v',c',hap,hls'⟩:=V0 (s:=⟨kdR b i,(b.drop p).take (szR b i)⟩) (nx:=n8) (fl:=fl) (live:=e'::live) hls hwb (by omega) hf
   dsimp only at hap
   simp only[go_sem,reduceIte,G0,G1,G2,G3,G4,G5,ga,hcl,evBuild,hwb.refs_cells,hwb.one,allLen,hap]
   refine⟨rfl,?_⟩
   simp only[go_sem,reduceIte,G0,G1,G2,G3,G4,G5,x4,zb h (by omega)]
   exact⟨i+1,by omega,h,_,_,_,_,_,_,hstep,by omega,hls',rfl⟩
  ·obtain rfl:i=n:=by omega
   have dg: ¬((i:Int)<(i:Int)):=by omega
   have x2:IntKind.u64.wrap (b.length:Int)=b.length:=zp (by omega) (by omega)
   rw[hsc] at hR0
   have hO:=fun n lv=>(Ua hls (by omega) n fl lv).eq
   simp only[go_sem,reduceIte,G0,G1,G2,G3,G4,G5,dg,hO]
   generalize callNx tab zd _ _=n9
   cases ho:ordF 0 l
   ·simp only[go_sem,reduceIte,G0,G1,G2,G3,G4,G5,Bool.not_false]
    exact zB (by rw[hR0];dsimp only;rw[if_pos (.inl ho)])
   by_cases c9':p=b.length
   case neg=>
    have d9:((p:Int) !=(b.length:Int))=true:=by rw[zh];exact decide_eq_true c9'
    simp only[go_sem,reduceIte,G0,G1,G2,G3,G4,G5,w36,hy.len,x2,d9]
    exact zB (by rw[hR0];dsimp only;rw[if_pos (.inr c9')])
   have d9:((p:Int) !=(b.length:Int))=false:=by rw[zh];exact decide_eq_false (fun h=>h c9')
   dsimp only at hR0
   rw[if_neg (fun h=>h.elim (fun h=>by rw[ho] at h;cases h) (fun h=>h c9'))] at hR0
   obtain⟨f1,f2,f3,f4,st,cells,f5⟩:=Zn hls
   have tk0:c9.take c9.length=c9:=w28
   simp only[go_sem,reduceIte,G0,G1,G2,G3,G4,G5,w36,hy.len,x2,d9]
   refine zk (α:=Nat) (fun k σ=>(k≤l.length∧ ∀j,j<k→crR b j=sumN (secA l j).data)∧ ∃nz,heads [0,4,6,11] c9.length σ=⟨tmps 131 [(0,y),(4,.int .i64 i),(6,v9),(11,.int .i64 k)],⟨stk++[cur],c9,nz,e::live,fl⟩⟩) (fun k=>l.length-k) 0 ?_ ?_
   ·refine⟨⟨w0f _,fun j hj=>by omega⟩,?_⟩
    simp only[go_sem,reduceIte,G0,G1,G2,G3,G4,G5,tk0]
    exact⟨_,rfl⟩
   ·rintro k σ ⟨⟨hk,hall⟩,nq,hσ⟩
    rw[hσ]
    clear hσ σ
    dsimp only at hk hall⊢
    by_cases hkl:k<l.length
    ·obtain⟨a1,a2,a3,w,a4,a5',a6,a7⟩:=f5 k hkl
     have hki:(k:Int)<(i:Int):=by omega
     have e1:IntKind.i64.wrap (13*(k:Int))=13*k:=z9 (by omega) (by omega)
     have e2:IntKind.i64.wrap (6+13*(k:Int))=6+13*k:=z9 (by omega) (by omega)
     have e3:IntKind.i64.wrap (6+13*(k:Int)+9)=((6+13*k+9:Nat):Int):=by rw[z9 (by omega) (by omega)];omega
     obtain⟨u9,g9,t9⟩:=xo hy (n:=6+13*k+9) (by omega)
     have hN9:=fun m=>(zI _ u9 t9 (by rw[w10];omega) m).eq
     have hS2:=fun c n lv=>(ye _ w a7 ⟨stk++[cur],c,n,lv,max fl ((stk++[cur]).length+1)⟩ (by simp;omega)).eq
     have a2:c9[0]? =some ⟨st,cells⟩:=a2
     have w6:IntKind.u64.wrap ((sumN l[k].data:Nat):Int)=((sumN l[k].data:Nat):Int):=by have:=vg l[k].data;exact zp (by omega) (by omega)
     have a1:evIaddr 2 v9 (.int .i64 (k:Int))=some (.ptr (stk++[cur]).length 0 st (k*2)):=a1
     have hcrd:num4 (b.drop (6+13*k+9))=crR b k:=rfl
     rw[hcrd] at hN9
     by_cases cc:crR b k=sumN l[k].data
     ·have dd:(((crR b k:Nat):Int) !=((sumN l[k].data:Nat):Int))=false:=by rw[zh];exact decide_eq_false (fun h=>h cc)
      simp only[go_sem,reduceIte,G0,G1,G2,G3,G4,G5,hki,a1,a2,a6,e1,e2,e3,g9,hN9,hS2,w6,dd,tk0,zb hkl (show l.length≤9223372036854775807 by omega)]
      refine⟨k+1,by omega,⟨hkl,fun j hj=> ?_⟩,_,rfl⟩
      by_cases ej:j=k
      ·subst ej;rw[xB hkl];exact cc
      ·exact hall j (by omega)
     ·have dd:(((crR b k:Nat):Int) !=((sumN l[k].data:Nat):Int))=true:=by rw[zh];exact decide_eq_true cc
      simp only[go_sem,reduceIte,G0,G1,G2,G3,G4,G5,hki,a1,a2,a6,e1,e2,e3,g9,hN9,hS2,w6,dd]
      exact zB (by rw[hR0,if_pos (ZL hkl (by rw[xB hkl];exact beq_eq_false_iff_ne.2 cc))])
    ·obtain rfl:k=l.length:=by omega
     have hki: ¬((l.length:Int)<(i:Int)):=by omega
     simp only[go_sem,reduceIte,G0,G1,G2,G3,G4,G5,hki]
     exact Xm (by rw[hR0,if_neg (by rw[XK (fun j hj=>beq_iff_eq.2 (hall j hj))];simp)]) hls
def RowAt (m:Mem) (L:Nat) (row:List Blk):Prop:=L≤m.stk.length∧(m.stk++[m.cur]).getD L []=row
theorem RowAt.ne {stk:List (List Blk)} {cur row:List Blk} {nx fl L:Nat} {live:List (List Nat)} (h:RowAt ⟨stk,cur,nx,live,fl⟩ L row):(L==(stk++[cur]).length)=false:=by
 have:=h.1
 dsimp only at this
 simp;omega
theorem RowAt.row {stk:List (List Blk)} {cur row:List Blk} {nx fl L:Nat} {live:List (List Nat)} (h:RowAt ⟨stk,cur,nx,live,fl⟩ L row):(stk++[cur]).getD L []=row:=h.2
theorem RowAt.call {stk:List (List Blk)} {cur row:List Blk} {nx fl L:Nat} {live:List (List Nat)} (h:RowAt ⟨stk,cur,nx,live,fl⟩ L row) (c:List Blk) (n fl':Nat) (lv:List (List Nat)):RowAt ⟨stk++[cur],c,n,lv,fl'⟩ L row:=by
 have h1:=h.1
 have h2:=h.2
 dsimp only at h1 h2
 refine⟨by simp;omega,?_⟩
 show(stk++[cur]++[c]).getD L []=row
 rw[w02,w0a (by simp;omega),←w02]
 exact h2
theorem vb (l:List Sec) (L j st:Nat) (cells:List AV) (row:List Blk) (hr:SRows l cells) (hmax:l.length≤1000) (hM:row[j]? =some ⟨st,cells⟩) (m:Mem) (hA:RowAt m L row):Okv tab zd [.grow 2 L j st l.length] m (.bool (ordF 0 l)):=by
 refine zx y5 ?_
 obtain⟨stk,cur,nx,live,fl⟩:=m
 have hne:=hA.ne
 have hg:=hA.row
 simp only[zy,List.map,go_sem,reduceIte,G0,G1,G2,G3,G4,G5]
 refine zk (α:=Nat) (fun k σ=>(k≤l.length∧ordF 0 l=ordF (lastAt l k) (l.drop k))∧ ∃nz,heads [0,3] 0 σ=⟨tmps 45 [(0,.grow 2 L j st l.length),(3,.int .i64 k)],⟨stk++[cur],[],nz,[]::live,fl⟩⟩) (fun k=>l.length-k) 0 ?_ ?_
 ·refine⟨⟨w0f _,rfl⟩,?_⟩
  simp only[go_sem,reduceIte,G0,G1,G2,G3,G4,G5]
  exact⟨_,rfl⟩
 ·rintro k σ ⟨⟨hk,ho⟩,nz,hσ⟩
  rw[hσ]
  clear hσ σ
  dsimp only at hk ho⊢
  by_cases h:k<l.length
  ·obtain⟨v,hn,hn0,hn1,hv⟩:=hr.at2 h
   have hat:=yU (L:=L) (j:=j) (st:=st) h
   by_cases c1:l[k].kind.toNat<1
   ·have d1:((l[k].kind.toNat:Int)<1):=by omega
    simp only[go_sem,reduceIte,G0,G1,G2,G3,G4,G5,zu,w06,h,hat,hne,hg,hM,hn0,hn1,d1]
    rw[z5 rfl rfl,z6]
    exact⟨⟨_,rfl⟩,by rw[ho,xL h (.inl c1)]⟩
   have d1: ¬((l[k].kind.toNat:Int)<1):=by omega
   by_cases c2:7<l[k].kind.toNat
   ·have d2:((l[k].kind.toNat:Int)>7):=by omega
    simp only[go_sem,reduceIte,G0,G1,G2,G3,G4,G5,zu,w06,h,hat,hne,hg,hM,hn0,hn1,d1,d2]
    rw[z5 rfl rfl,z6]
    exact⟨⟨_,rfl⟩,by rw[ho,xL h (.inr (.inl c2))]⟩
   have d2: ¬((l[k].kind.toNat:Int)>7):=by omega
   by_cases c0:0<k
   ·have d0:((k:Int)>0):=by omega
    obtain⟨hp,hlast⟩:=uR h c0
    obtain⟨v',hn2,hn',hn3,hv'⟩:=hr.at2 hp
    have ek:IntKind.i64.wrap ((k:Int)-1)=((k-1:Nat):Int):=by rw[z9 (by omega) (by omega)];omega
    have hat':=yU (L:=L) (j:=j) (st:=st) hp
    rw[hlast] at hn'
    by_cases c3:l[k].kind.toNat≤lastAt l k
    ·have d3:(((lastAt l k:Nat):Int)≥(l[k].kind.toNat:Int)):=by omega
     simp only[go_sem,reduceIte,G0,G1,G2,G3,G4,G5,zu,w06,h,hat,hne,hg,hM,hn0,hn1,d1,d2,d0,ek,hat',hn',d3]
     rw[z5 rfl rfl,z6]
     exact⟨⟨_,rfl⟩,by rw[ho,xL h (.inr (.inr ⟨c0,c3⟩))]⟩
    ·have d3: ¬(((lastAt l k:Nat):Int)≥(l[k].kind.toNat:Int)):=by omega
     simp only[go_sem,reduceIte,G0,G1,G2,G3,G4,G5,zu,w06,h,hat,hne,hg,hM,hn0,hn1,d1,d2,d0,ek,hat',hn',d3,zb h (show l.length≤9223372036854775807 by omega)]
     exact⟨k+1,by omega,⟨h,by rw[ho,vI h c1 c2 (.inr c3)]⟩,_,rfl⟩
   ·have d0: ¬((k:Int)>0):=by omega
    simp only[go_sem,reduceIte,G0,G1,G2,G3,G4,G5,zu,w06,h,hat,hne,hg,hM,hn0,hn1,d1,d2,d0,zb h (show l.length≤9223372036854775807 by omega)]
    exact⟨k+1,by omega,⟨h,by rw[ho,vI h c1 c2 (.inl (by omega))]⟩,_,rfl⟩
  ·obtain rfl:k=l.length:=by omega
   rw[List.drop_length] at ho
   have hlen:=xC l 0 (by omega) ho
   have hc:((l.length:Int)≤7):=by omega
   simp only[go_sem,reduceIte,G0,G1,G2,G3,G4,G5,zu,w06,h,hc]
   rw[z5 rfl rfl,z6]
   exact⟨⟨_,rfl⟩,by rw[ho];rfl⟩
theorem vA (l:List Sec) (L j st:Nat) (cells:List AV) (row:List Blk) (hr:SRows l cells) (hmax:l.length≤1000) (hM:row[j]? =some ⟨st,cells⟩) (m:Mem) (hA:RowAt m L row):Okl (IsK .i64) 1 tab yy [.grow 2 L j st l.length] m (sizesS l):=by
 refine qK ux ?_
 obtain⟨stk,cur,nx,live,fl⟩:=m
 have hne:=hA.ne
 have hg:=hA.row
 simp only[yr,List.map,go_sem,reduceIte,G0,G1,G2,G3,G4,G5]
 refine zk (α:=Nat) (fun k σ=>k≤l.length∧ ∃nz z e,Own (IsK .i64) 1 z (sizesS (l.take k)) e∧heads [0,3,4] 0 σ=⟨tmps 21 [(0,.grow 2 L j st l.length),(3,z),(4,.int .i64 k)],⟨stk++[cur],[],nz,e::live,fl⟩⟩) (fun k=>l.length-k) 0 ?_ ?_
 ·refine⟨w0f _,?_⟩
  simp only[go_sem,reduceIte,G0,G1,G2,G3,G4,G5]
  exact⟨_,_,_,.nil _,rfl⟩
 ·rintro k σ ⟨hk,nz,z,e,ho,hσ⟩
  rw[hσ]
  clear hσ σ
  dsimp only at hk⊢
  by_cases h:k<l.length
  ·obtain⟨v,hn,hn0,hn1,hv⟩:=hr.at2 h
   have hat:=yU (L:=L) (j:=j) (st:=st) h
   simp only[go_sem,reduceIte,G0,G1,G2,G3,G4,G5,zu,w06,h,hat,hne,hg,hM,hn0,hn1,hv.len,allLen]
   refine ho.xv (cs:=[(l[k].data.length:Int)]) (zU · _ _ _) (kG rfl) (by rw[yX];simp;omega) fun z' n' e' ho'=> ?_
   simp only[go_sem,reduceIte,G0,G1,G2,G3,G4,G5,zb h (show l.length≤9223372036854775807 by omega)]
   exact⟨k+1,by omega,h,_,_,_,by rw[j1 h];exact ho',rfl⟩
  ·obtain rfl:k=l.length:=by omega
   simp only[go_sem,reduceIte,G0,G1,G2,G3,G4,G5,zu,w06,h]
   rw[w28] at ho
   exact uh ho
theorem Ze {l:List Sec} {cells:List AV} (hr:SRows l cells): ∀s∈l,s.data.length≤9223372036854775807:=by
 intro s hs
 obtain⟨i,hi,rfl⟩:=List.getElem_of_mem hs
 obtain⟨v,_,_,_,hv⟩:=hr.at2 hi
 exact hv.max
theorem vC (l:List Sec) (L j st:Nat) (cells:List AV) (row:List Blk) (hr:SRows l cells) (hmax:l.length≤1000) (hM:row[j]? =some ⟨st,cells⟩) (m:Mem) (hA:RowAt m L row):Okv tab zD [.grow 2 L j st l.length] m (.int .i64 (checkS l)):=by
 refine zx uy ?_
 obtain⟨stk,cur,nx,live,fl⟩:=m
 have hO:=fun c n lv=>(vb l L j st cells row hr hmax hM ⟨stk++[cur],c,n,lv,fl⟩ (hA.call _ _ _ _)).eq
 simp only[yu,List.map,go_sem,reduceIte,G0,G1,G2,G3,G4,G5,hO]
 generalize callNx tab zd _ _=nz
 cases ho:ordF 0 l
 ·simp only[go_sem,reduceIte,G0,G1,G2,G3,G4,G5,Bool.not_false]
  rw[z5 rfl rfl,z6]
  exact⟨⟨_,rfl⟩,by unfold checkS;rw[ho];rfl⟩
 ·have h7:=xC l 0 (by omega) ho
  simp only[go_sem,reduceIte,G0,G1,G2,G3,G4,G5,w36]
  refine(vA l L j st cells row hr hmax hM ⟨stk++[cur],_,_,_,fl⟩ (hA.call _ _ _ _)).xv fun z ts n hz=> ?_
  have hL:=fun m=>(vT (sizesS l) z (hz.sl (by rw[yX];omega)) (by rw[yX];omega) (tP l (Ze hr)) m).eq
  simp only[go_sem,reduceIte,G0,G1,G2,G3,G4,G5,z8,hL]
  generalize callNx tab zJ _ _=nz
  cases hs:lenS (sizesS l)
  ·simp only[go_sem,reduceIte,G0,G1,G2,G3,G4,G5,G8]
   rw[z5 rfl rfl,z6]
   exact⟨⟨_,rfl⟩,by unfold checkS;rw[ho,hs];rfl⟩
  ·rename_i n0
   have hn0:0≤n0:=Tc (tP l (Ze hr)) hs
   have hc: ¬(n0<0):=by omega
   simp only[go_sem,reduceIte,G0,G1,G2,G3,G4,G5,hc]
   rw[z5 rfl rfl,z6]
   exact⟨⟨_,rfl⟩,by unfold checkS;rw[ho,hs];rfl⟩
theorem vD (l:List Sec) (L j st:Nat) (cells:List AV) (row:List Blk) (hr:SRows l cells) (hmax:l.length≤1000) (hM:row[j]? =some ⟨st,cells⟩) (m:Mem) (hA:RowAt m L row) (hc:checkS l=0) (hfl:m.floor≤m.stk.length+1):Okl IsByte 1 tab yz [.grow 2 L j st l.length] m (bytesS l):=by
 obtain⟨h7,h2⟩:=qR hc
 refine qK uz ?_
 obtain⟨stk,cur,nx,live,fl⟩:=m
 have hne:=hA.ne
 have hg:=hA.row
 have hf':fl≤(stk++[cur]).length+1:=by simp at hfl⊢;omega
 have e1:IntKind.u8.wrap (l.length:Int)=(l.length:Int):=jB (by omega) (by omega)
 have e2:IntKind.i64.wrap (13*(l.length:Int))=13*l.length:=z9 (by omega) (by omega)
 have e3:IntKind.i64.wrap (10+13*(l.length:Int))=((atK l 0:Nat):Int):=by rw[z9 (by omega) (by omega)];unfold atK;simp
 simp only[yw,List.map,go_sem,reduceIte,G0,G1,G2,G3,G4,G5,zu,e1,e2,e3,allLen]
 refine zk (α:=Nat) (fun k σ=>k≤l.length∧ ∃nz z e,Own IsByte 1 z (dirF l k) e∧heads [0,3,4,5] 0 σ=⟨tmps 80 [(0,.grow 2 L j st l.length),(3,z),(4,.int .i64 ((atK l k:Nat):Int)),(5,.int .i64 k)],⟨stk++[cur],[],nz,e::live,fl⟩⟩) (fun k=>l.length-k) 0 ?_ ?_
 ·refine⟨w0f _,?_⟩
  simp only[go_sem,reduceIte,G0,G1,G2,G3,G4,G5]
  exact⟨_,_,[],Own.full (xs:=dirF l 0) (ys:=[.int .u8 87,.int .u8 82,.int .u8 67,.int .u8 75,.int .u8 1,.int .u8 (l.length:Int)]) (show All2 IsByte [87,82,67,75,1,UInt8.ofNat l.length] _ from⟨rfl,rfl,rfl,rfl,rfl,xi (by omega),trivial⟩) _,rfl⟩
 ·rintro k σ ⟨hk,nz,z,e,ho,hσ⟩
  rw[hσ]
  clear hσ σ
  dsimp only at hk⊢
  have hal:=t7 hk
  by_cases h:k<l.length
  ·obtain⟨v,hn,hn0,hn1,hv⟩:=hr.at2 h
   have hat:=yU (L:=L) (j:=j) (st:=st) h
   have hs1:=t6 h
   have hal2:=t7 (show k+1≤l.length from h)
   have hdl:=vP l k
   simp only[go_sem,reduceIte,G0,G1,G2,G3,G4,G5,zu,w06,h,hat,hne,hg,hM,hn0,hn1,allLen]
   refine ho.xv (cs:=[l[k].kind]) (zU · _ _ _) ⟨rfl,trivial⟩ (by simp;omega) fun z1 n1 e1 o1=> ?_
   simp only[go_sem,reduceIte,G0,G1,G2,G3,G4,G5,xK (show atK l k<4294967296 by omega)]
   refine(zR (atK l k) (by omega) _).xv fun q1 t1 k1 p1=> ?_
   obtain⟨qs,r1,r2⟩:=p1.elems
   simp only[go_sem,reduceIte,G0,G1,G2,G3,G4,G5,z8]
   refine(o1.push t1).xv (r1 ·) r2 (by simp[xp];omega) fun z2 n2 e2 o2=> ?_
   simp only[go_sem,reduceIte,G0,G1,G2,G3,G4,G5,hat,hne,hg,hM,hn0,hn1,hv.len,xK (show l[k].data.length<4294967296 by omega)]
   refine(zR l[k].data.length (by omega) _).xv fun q1 t2 k1 p1=> ?_
   obtain⟨qs,r1,r2⟩:=p1.elems
   simp only[go_sem,reduceIte,G0,G1,G2,G3,G4,G5,z8]
   refine(o2.push t2).xv (r1 ·) r2 (by simp[xp];omega) fun z3 n3 e3 o3=> ?_
   have hO:=fun c n lv=>(ye l[k].data v hv ⟨stk++[cur],c,n,lv,fl⟩ hf').eq
   simp only[go_sem,reduceIte,G0,G1,G2,G3,G4,G5,hat,hne,hg,hM,hn0,hn1,hO]
   generalize callNx tab zm _ _=n4
   refine(zR (sumN l[k].data) (vg _) _).xv fun q1 t3 k1 p1=> ?_
   obtain⟨qs,r1,r2⟩:=p1.elems
   simp only[go_sem,reduceIte,G0,G1,G2,G3,G4,G5,z8]
   refine(o3.push t3).xv (r1 ·) r2 (by simp[xp];omega) fun z4 n5 e4 o4=> ?_
   have e9:IntKind.i64.wrap (((atK l k:Nat):Int)+(l[k].data.length:Int))=((atK l (k+1):Nat):Int):=by rw[z9 (by omega) (by omega)];omega
   simp only[go_sem,reduceIte,G0,G1,G2,G3,G4,G5,hat,hne,hg,hM,hn0,hn1,hv.len,e9,zb h (show l.length≤9223372036854775807 by omega)]
   refine⟨k+1,by omega,h,_,_,_,?_,rfl⟩
   rw[dirF,rowB,numsB,xB h]
   simpa using o4
  ·obtain rfl:k=l.length:=by omega
   have hdl:=vP l l.length
   have hO:=fun c n lv=>(ye (dirF l l.length) z (ho.sl (by omega)) ⟨stk++[cur],c,n,lv,fl⟩ hf').eq
   simp only[go_sem,reduceIte,G0,G1,G2,G3,G4,G5,zu,w06,h,hO]
   generalize callNx tab zm _ _=n4
   refine(zR (sumN (dirF l l.length)) (vg _) _).xv fun q1 t3 k1 p1=> ?_
   obtain⟨qs,r1,r2⟩:=p1.elems
   simp only[go_sem,reduceIte,G0,G1,G2,G3,G4,G5,z8]
   refine(ho.push t3).xv (r1 ·) r2 (by simp[xp];omega) fun z4 n5 e4 o4=> ?_
   simp only[go_sem,reduceIte,G0,G1,G2,G3,G4,G5]
   have hbl:=kr l
   refine zk (α:=Nat) (fun k σ=>k≤l.length∧ ∃nz z e,Own IsByte 1 z (dirB l++dataF l k) e∧heads [0,3,6] 0 σ=⟨tmps 80 [(0,.grow 2 L j st l.length),(3,z),(6,.int .i64 k)],⟨stk++[cur],[],nz,e::live,fl⟩⟩) (fun k=>l.length-k) 0 ?_ ?_
   ·refine⟨w0f _,?_⟩
    simp only[go_sem,reduceIte,G0,G1,G2,G3,G4,G5]
    exact⟨_,_,_,by unfold dirB dataF;simpa using o4,rfl⟩
   ·rintro k σ ⟨hk,nz,z,e,ho,hσ⟩
    rw[hσ]
    clear hσ σ
    dsimp only at hk⊢
    have hal:=t7 hk
    by_cases h:k<l.length
    ·obtain⟨v,hn,hn0,hn1,hv⟩:=hr.at2 h
     have hat:=yU (L:=L) (j:=j) (st:=st) h
     obtain⟨qs,r1,r2⟩:=hv.elems_any
     have hdl2:=qQ l k
     have hs1:=t6 h
     have hal2:=t7 (show k+1≤l.length from h)
     have hka:atK l k=10+13*l.length+(dataF l k).length:=by rw[hdl2];rfl
     simp only[go_sem,reduceIte,G0,G1,G2,G3,G4,G5,zu,w06,h,hat,hne,hg,hM,hn0,hn1]
     refine ho.xv (r1 ·) r2 (by simp;omega) fun z1 n1 e1 o1=> ?_
     simp only[go_sem,reduceIte,G0,G1,G2,G3,G4,G5,zb h (show l.length≤9223372036854775807 by omega)]
     exact⟨k+1,by omega,h,_,_,_,by rw[ks h,←w12];exact o1,rfl⟩
    ·obtain rfl:k=l.length:=by omega
     simp only[go_sem,reduceIte,G0,G1,G2,G3,G4,G5,zu,w06,h]
     exact uh ho
theorem x7 (l:List Sec) (L j st:Nat) (cells:List AV) (row:List Blk) (hr:SRows l cells) (hmax:l.length≤1000) (hM:row[j]? =some ⟨st,cells⟩) (m:Mem) (hA:RowAt m L row) (hfl:m.floor≤m.stk.length+1):Okp IsByte 1 tab zO [.grow 2 L j st l.length] m (outW l).1 (outW l).2:=by
 refine qJ uw ?_
 obtain⟨stk,cur,nx,live,fl⟩:=m
 have hf':fl≤(stk++[cur]).length+1:=by simp at hfl⊢;omega
 have hC:=fun c n lv=>(vC l L j st cells row hr hmax hM ⟨stk++[cur],c,n,lv,fl⟩ (hA.call _ _ _ _)).eq
 simp only[yq,List.map,go_sem,reduceIte,G0,G1,G2,G3,G4,G5,hC]
 generalize callNx tab zD _ _=n1
 by_cases hc:checkS l=0
 ·have hb:(checkS l !=0)=false:=by rw[hc];rfl
  simp only[go_sem,reduceIte,G0,G1,G2,G3,G4,G5,hb]
  refine(vD l L j st cells row hr hmax hM ⟨stk++[cur],_,_,_,fl⟩ (hA.call _ _ _ _) hc hf').xv fun z ts n hz=> ?_
  simp only[go_sem,reduceIte,G0,G1,G2,G3,G4,G5,z8]
  unfold outW
  rw[if_pos hc]
  exact y7 hz
 ·have hb:(checkS l !=0)=true:=by simpa using hc
  simp only[go_sem,reduceIte,G0,G1,G2,G3,G4,G5,hb,hC]
  unfold outW
  rw[if_neg hc]
  exact y7 (Own.nil _)
def diffS:List UInt8→List UInt8→Option Nat
 | [],[]=>none
 |x::a,y::b=>if x=y then(diffS a b).map (· +1) else some 0
 |_,_=>some 0
theorem xR: ∀(k:Nat) (a b:List UInt8),a.take k=b.take k→k≤a.length→k≤b.length→a[k]? ≠b[k]? →diffS a b=some k
 |0,a,b,_,_,_,h=>by
  cases a with
  |nil=>cases b with
   |nil=>exact absurd rfl h
   |cons y b=>rfl
  |cons x a=>cases b with
   |nil=>rfl
   |cons y b=>
    have:x≠y:=fun e=>h (by rw[e];rfl)
    simp only[diffS,if_neg this]
 |k+1,a,b,h1,h2,h3,h4=>by
  cases a with
  |nil=>simp at h2
  |cons x a=>cases b with
   |nil=>simp at h3
   |cons y b=>
    simp only[List.take_succ_cons,List.cons.injEq] at h1
    have:=xR k a b h1.2 (by simpa using h2) (by simpa using h3) (by simpa using h4)
    simp only[diffS,if_pos h1.1,this,w08]
theorem qP: ∀a:List UInt8,diffS a a=none
 | []=>rfl
 |x::a=>by simp only[diffS,if_pos,qP a,Option.map_none]
def firstS (a b:List UInt8):Int×Int:=if a.length>200000∨b.length>200000 then(0,4) else match diffS a b with|none=>(0,6)|some k=>((k:Nat),0)
theorem Za {a b:List UInt8} {k:Nat} (h:a.take k=b.take k) (ha:k<a.length) (hb:k<b.length) (e:a[k]=b[k]):a.take (k+1)=b.take (k+1):=by
 rw[w25 ha,w25 hb,h,e]
theorem kP (a b:List UInt8) (x y:AV) (hx:IsBytes a x) (hy:IsBytes b y) (m:Mem):Okv tab vy [x,y] m (.tup [.int .i64 (firstS a b).1,.int .i64 (firstS a b).2]):=by
 refine zx kT ?_
 obtain⟨stk,cur,nx,live,fl⟩:=m
 have hmx:(if(b.length:Int)>(a.length:Int) then(b.length:Int) else(a.length:Int))=((max a.length b.length:Nat):Int):=by
  split<;>omega
 have hmn:(if(b.length:Int)<(a.length:Int) then(b.length:Int) else(a.length:Int))=((min a.length b.length:Nat):Int):=by
  split<;>omega
 by_cases c1:a.length>200000∨b.length>200000
 ·have d1:((max a.length b.length:Nat):Int)>200000:=by omega
  simp only[xy,List.map,go_sem,reduceIte,G0,G1,G2,G3,G4,G5,hx.len,hy.len,hmx,d1]
  rw[z5 rfl rfl,z6]
  exact⟨⟨_,rfl⟩,by unfold firstS;rw[if_pos c1]⟩
 have d1: ¬(((max a.length b.length:Nat):Int)>200000):=by omega
 simp only[xy,List.map,go_sem,reduceIte,G0,G1,G2,G3,G4,G5,hx.len,hy.len,hmx,d1,hmn]
 refine zk (α:=Nat) (fun k σ=>(k≤min a.length b.length∧a.take k=b.take k)∧ ∃nz,heads [0,1,6,19,20] 0 σ=⟨tmps 40 [(0,x),(1,y),(6,.int .i64 ((min a.length b.length:Nat):Int)),(19,.int .i64 ((min a.length b.length:Nat):Int)),(20,.int .i64 k)],⟨stk++[cur],[],nz,[]::live,fl⟩⟩) (fun k=>min a.length b.length-k) 0 ?_ ?_
 ·refine⟨⟨w0f _,rfl⟩,?_⟩
  simp only[go_sem,reduceIte,G0,G1,G2,G3,G4,G5]
  exact⟨_,rfl⟩
 ·rintro k σ ⟨⟨hk,ht⟩,nz,hσ⟩
  rw[hσ]
  clear hσ σ
  dsimp only at hk ht⊢
  by_cases h:k<min a.length b.length
  ·have ha:k<a.length:=by omega
   have hb:k<b.length:=by omega
   have na:nth x k= .int .u8 a[k].toNat:=hx.nth ha
   have nb:nth y k= .int .u8 b[k].toNat:=hy.nth hb
   have hata:=hx.at .i64 ha
   have hatb:=hy.at .i64 hb
   by_cases e:a[k]=b[k]
   ·have d2:((a[k].toNat:Int) !=(b[k].toNat:Int))=false:=by rw[zh];exact decide_eq_false (fun h=>h (by rw[e]))
    simp only[go_sem,reduceIte,G0,G1,G2,G3,G4,G5,w06,h,hata,hatb,na,nb,d2,zb h (by omega)]
    exact⟨k+1,by omega,⟨h,Za ht ha hb e⟩,_,rfl⟩
   ·have d2:((a[k].toNat:Int) !=(b[k].toNat:Int))=true:=by rw[zh];exact decide_eq_true (fun h=>e (UInt8.toNat_inj.1 h))
    simp only[go_sem,reduceIte,G0,G1,G2,G3,G4,G5,w06,h,hata,hatb,na,nb,d2]
    rw[z5 rfl rfl,z6]
    exact⟨⟨_,rfl⟩,by unfold firstS;rw[if_neg c1,xR k a b ht (by omega) (by omega) (by rw[w05 ha,w05 hb];exact fun h=>e (Option.some.inj h))]⟩
  ·obtain rfl:k=min a.length b.length:=by omega
   by_cases e:a.length=b.length
   ·have d2:((a.length:Int)==(b.length:Int))=true:=by rw[e];exact beq_self_eq_true _
    have hab:a=b:=by
     rw[e,Nat.min_self,w28] at ht
     rw[←ht,←e,w28]
    simp only[go_sem,reduceIte,G0,G1,G2,G3,G4,G5,w06,h,hx.len,hy.len,d2]
    rw[z5 rfl rfl,z6]
    exact⟨⟨_,rfl⟩,by unfold firstS;rw[if_neg c1,hab,qP]⟩
   ·have d2:((a.length:Int)==(b.length:Int))=false:=by rw[beq_eq_false_iff_ne];omega
    simp only[go_sem,reduceIte,G0,G1,G2,G3,G4,G5,w06,h,hx.len,hy.len,d2]
    rw[z5 rfl rfl,z6]
    refine⟨⟨_,rfl⟩,?_⟩
    unfold firstS
    rw[if_neg c1,xR (min a.length b.length) a b ht (by omega) (by omega) ?_]
    by_cases h1:a.length<b.length
    ·rw[w17 (by omega),w05 (by omega)];exact fun h=>by cases h
    ·rw[w05 (l:=a) (by omega),w17 (l:=b) (by omega)];exact fun h=>by cases h
theorem ut (a b:List UInt8) (x y:AV) (hx:IsBytes a x) (hy:IsBytes b y) (m:Mem):Okv tab zN [x,y] m (.tup [.int .i64 (firstS a b).1,.int .i64 (firstS a b).2]):=by
 refine zx uv ?_
 obtain⟨stk,cur,nx,live,fl⟩:=m
 by_cases c1:a.length>200000
 ·have d1:(a.length:Int)>200000:=by omega
  simp only[zC,List.map,go_sem,reduceIte,G0,G1,G2,G3,G4,G5,hx.len,hy.len,d1]
  rw[z5 rfl rfl,z6]
  exact⟨⟨_,rfl⟩,by unfold firstS;rw[if_pos (.inl c1)]⟩
 have d1: ¬((a.length:Int)>200000):=by omega
 by_cases c2:b.length>200000
 ·have d2:(b.length:Int)>200000:=by omega
  simp only[zC,List.map,go_sem,reduceIte,G0,G1,G2,G3,G4,G5,hx.len,hy.len,d1,d2]
  rw[z5 rfl rfl,z6]
  exact⟨⟨_,rfl⟩,by unfold firstS;rw[if_pos (.inr c2)]⟩
 have d2: ¬((b.length:Int)>200000):=by omega
 have c1': ¬(a.length>200000∨b.length>200000):=fun h=>h.elim c1 c2
 simp only[zC,List.map,go_sem,reduceIte,G0,G1,G2,G3,G4,G5,hx.len,hy.len,d1,d2]
 refine zk (α:=Nat) (fun k σ=>(k≤a.length∧k≤b.length∧a.take k=b.take k)∧ ∃nz,heads [0,1,6] 0 σ=⟨tmps 49 [(0,x),(1,y),(6,.int .i64 k)],⟨stk++[cur],[],nz,[]::live,fl⟩⟩) (fun k=>a.length-k) 0 ?_ ?_
 ·refine⟨⟨w0f _,w0f _,rfl⟩,?_⟩
  simp only[go_sem,reduceIte,G0,G1,G2,G3,G4,G5]
  exact⟨_,rfl⟩
 ·rintro k σ ⟨⟨hka,hkb,ht⟩,nz,hσ⟩
  rw[hσ]
  clear hσ σ
  dsimp only at hka hkb ht⊢
  by_cases ha:k<a.length
  ·have ga: ¬((k:Int)≥(a.length:Int)):=by omega
   by_cases hb:k<b.length
   ·have gb: ¬((k:Int)≥(b.length:Int)):=by omega
    have na:nth x k= .int .u8 a[k].toNat:=hx.nth ha
    have nb:nth y k= .int .u8 b[k].toNat:=hy.nth hb
    have hata:=hx.at .i64 ha
    have hatb:=hy.at .i64 hb
    by_cases e:a[k]=b[k]
    ·have d2:((a[k].toNat:Int) !=(b[k].toNat:Int))=false:=by rw[zh];exact decide_eq_false (fun h=>h (by rw[e]))
     simp only[go_sem,reduceIte,G0,G1,G2,G3,G4,G5,hx.len,hy.len,w06,ha,ga,gb,hata,hatb,na,nb,d2,zb ha (by omega)]
     exact⟨k+1,by omega,⟨ha,hb,Za ht ha hb e⟩,_,rfl⟩
    ·have d2:((a[k].toNat:Int) !=(b[k].toNat:Int))=true:=by rw[zh];exact decide_eq_true (fun h=>e (UInt8.toNat_inj.1 h))
     simp only[go_sem,reduceIte,G0,G1,G2,G3,G4,G5,hx.len,hy.len,w06,ha,ga,gb,hata,hatb,na,nb,d2]
     rw[z5 rfl rfl,z6]
     exact⟨⟨_,rfl⟩,by unfold firstS;rw[if_neg c1',xR k a b ht (by omega) (by omega) (by rw[w05 ha,w05 hb];exact fun h=>e (Option.some.inj h))]⟩
   ·have gb:((k:Int)≥(b.length:Int)):=by omega
    simp only[go_sem,reduceIte,G0,G1,G2,G3,G4,G5,hx.len,hy.len,w06,ha,ga,gb]
    rw[z5 rfl rfl,z6]
    exact⟨⟨_,rfl⟩,by unfold firstS;rw[if_neg c1',xR k a b ht (by omega) (by omega) (by rw[w05 ha,w17 (by omega)];exact fun h=>by cases h)]⟩
  ·have ga:((k:Int)≥(a.length:Int)):=by omega
   by_cases hb:k<b.length
   ·simp only[go_sem,reduceIte,G0,G1,G2,G3,G4,G5,hx.len,hy.len,w06,ha,hb,ga]
    rw[z5 rfl rfl,z6]
    exact⟨⟨_,rfl⟩,by unfold firstS;rw[if_neg c1',xR k a b ht (by omega) (by omega) (by rw[w17 (by omega),w05 hb];exact fun h=>by cases h)]⟩
   ·have hab:a=b:=by
     have h1:k=a.length:=by omega
     have h2:k=b.length:=by omega
     have:=ht
     rw[h1,w28] at this
     rw[this,←h1,h2,w28]
    simp only[go_sem,reduceIte,G0,G1,G2,G3,G4,G5,hx.len,hy.len,w06,ha,hb]
    rw[z5 rfl rfl,z6]
    exact⟨⟨_,rfl⟩,by unfold firstS;rw[if_neg c1',hab,qP]⟩
def longS (a:List UInt8):Bool:=decide (3000<a.length∧a.length≤200000)||decide (200100<a.length)
theorem xA (a:List UInt8) (x:AV) (hx:IsBytes a x) (m:Mem):Okv tab zT [x] m (.bool (longS a)):=by
 refine zx uK ?_
 obtain⟨stk,cur,nx,live,fl⟩:=m
 by_cases c1:3000<a.length
 ·have d1:(a.length:Int)>3000:=by omega
  by_cases c2:a.length≤200000
  ·have d2:(a.length:Int)≤200000:=by omega
   simp only[zG,List.map,go_sem,reduceIte,G0,G1,G2,G3,G4,G5,hx.len,d1,d2]
   rw[z5 rfl rfl,z6]
   exact⟨⟨_,rfl⟩,by simp[longS,c1,c2]⟩
  ·have d2: ¬((a.length:Int)≤200000):=by omega
   have d3:decide ((a.length:Int)>200100)=decide (200100<a.length):=by
    by_cases h:200100<a.length
    ·rw[decide_eq_true h,decide_eq_true (by omega)]
    ·rw[decide_eq_false h,decide_eq_false (by omega)]
   simp only[zG,List.map,go_sem,reduceIte,G0,G1,G2,G3,G4,G5,hx.len,d1,d2,d3]
   rw[z5 rfl rfl,z6]
   exact⟨⟨_,rfl⟩,by simp[longS,c2]⟩
 ·have d1: ¬((a.length:Int)>3000):=by omega
  have d3:decide ((a.length:Int)>200100)=false:=by rw[decide_eq_false (by omega)]
  simp only[zG,List.map,go_sem,reduceIte,G0,G1,G2,G3,G4,G5,hx.len,d1,d3]
  rw[z5 rfl rfl,z6]
  exact⟨⟨_,rfl⟩,by simp[longS,c1];omega⟩
def idxF (kd:Nat):List Sec→Nat→Option Nat
 | [],_=>none
 |s::r,i=>if s.kind.toNat=kd then some i else idxF kd r (i+1)
theorem V5 {kd:Nat} {l:List Sec} {k:Nat} (h:k<l.length):idxF kd (l.drop k) k=if l[k].kind.toNat=kd then some k else idxF kd (l.drop (k+1)) (k+1):=by
 rw[w32 h,idxF]
theorem jF {kd:Nat}: ∀{l:List Sec} {i k:Nat},idxF kd l i=some k→i≤k∧k<i+l.length
 | [],_,_,h=>by cases h
 |s::r,i,k,h=>by
  simp only[idxF] at h
  split at h
  ·injection h with h;subst h;simp
  ·have:=jF h;simp only[w23];omega
def atI:Option Nat→Int
 |some k=>(k:Int)
 |none=> -1
def Seen (l:List Sec) (L:Nat) (row:List Blk) (v:AV):Prop:=
 evLen v=some (.int .i64 l.length)∧ ∃j st cells,∀k (h:k<l.length),evIaddr 2 v (.int .i64 (k:Int))=some (.ptr L j st (k*2))∧row[j]? =some ⟨st,cells⟩∧
  ∃w,takeV true 2 (cells.drop (k*2))=some (.agg [.int .u8 l[k].kind.toNat,w])∧takeV false 1 (cells.drop (k*2))=some (.int .u8 l[k].kind.toNat)∧IsBytes l[k].data w
theorem jU {l:List Sec} {L lo:Nat} {row:List Blk} {v:AV} (h:RdV l L row lo v):Seen l L row v:=by
 rcases h with⟨rfl,rfl⟩|⟨hne,j,st,cells,rfl,hlo,hb,hr,hl⟩
 ·exact⟨rfl,0,0,[],fun k h=>by simp at h⟩
 ·refine⟨rfl,j,st,cells,fun k h=>⟨yU h,hb,?_⟩⟩
  obtain⟨w,a,b,_,c⟩:=hr.at2 h
  exact⟨w,a,b,c⟩
theorem xS (l:List Sec) (v:AV) (kd:Nat) (hmax:l.length≤1000) (m:Mem) (hs:Seen l m.stk.length m.cur v):Okv tab zE [v,.int .u8 kd] m (.int .i64 (atI (idxF kd l 0))):=by
 refine zx tN ?_
 obtain⟨stk,cur,nx,live,fl⟩:=m
 obtain⟨h1,j,st,cells,h2⟩:=hs
 dsimp only at h2
 have hne: ∀z:List Blk,(stk.length==(stk++[z]).length)=false:=fun z=>by simp
 have hg: ∀z:List Blk,(stk++[z]).getD stk.length []=z:=fun z=>by simp
 simp only[x5,List.map,go_sem,reduceIte,G0,G1,G2,G3,G4,G5]
 refine zk (α:=Nat) (fun k σ=>(k≤l.length∧idxF kd l 0=idxF kd (l.drop k) k)∧ ∃nz,heads [0,1,5] 0 σ=⟨tmps 20 [(0,v),(1,.int .u8 kd),(5,.int .i64 k)],⟨stk++[cur],[],nz,[]::live,fl⟩⟩) (fun k=>l.length-k) 0 ?_ ?_
 ·refine⟨⟨w0f _,rfl⟩,?_⟩
  simp only[go_sem,reduceIte,G0,G1,G2,G3,G4,G5]
  exact⟨_,rfl⟩
 ·rintro k σ ⟨⟨hk,hi⟩,nz,hσ⟩
  rw[hσ]
  clear hσ σ
  dsimp only at hk hi⊢
  by_cases h:k<l.length
  ·obtain⟨a1,a2,w,a3,a4,a5⟩:=h2 k h
   rw[V5 h] at hi
   by_cases e:l[k].kind.toNat=kd
   ·have d:((l[k].kind.toNat:Int)==(kd:Int))=true:=by rw[e];exact beq_self_eq_true _
    simp only[go_sem,reduceIte,G0,G1,G2,G3,G4,G5,h1,w06,h,a1,hne,hg,a2,a4,d]
    rw[z5 rfl rfl,z6]
    exact⟨⟨_,rfl⟩,by rw[hi,if_pos e];rfl⟩
   ·have d:((l[k].kind.toNat:Int)==(kd:Int))=false:=by rw[beq_eq_false_iff_ne];omega
    simp only[go_sem,reduceIte,G0,G1,G2,G3,G4,G5,h1,w06,h,a1,hne,hg,a2,a4,d,zb h (show l.length≤9223372036854775807 by omega)]
    exact⟨k+1,by omega,⟨h,by rw[hi,if_neg e]⟩,_,rfl⟩
  ·obtain rfl:k=l.length:=by omega
   simp only[go_sem,reduceIte,G0,G1,G2,G3,G4,G5,h1,w06,h]
   rw[z5 rfl rfl,z6]
   exact⟨⟨_,rfl⟩,by rw[hi,List.drop_length];rfl⟩
theorem jJ (a kd:Nat) (w:AV) (hw:w.one=true) (stk:List (List Blk)) (cur c:List Blk) (nx fl sk:Nat) (live:List (List Nat)) (hb:cur[0]? =some ⟨sk,[.int .u8 kd]⟩):Okv tab yL [.agg [.int .u8 a,w],.ptr stk.length 0 sk 0] ⟨stk++[cur],c,nx,live,fl⟩ (.bool ((a:Int)==(kd:Int))):=by
 refine zx jN ?_
 have hne: ∀z:List Blk,(stk.length==(stk++[cur]++[z]).length)=false:=fun z=>by simp
 have hg: ∀z:List Blk,(stk++[cur]++[z]).getD stk.length []=cur:=fun z=>by
  rw[w02,w0a (by simp)];simp
 simp only[v8,List.map,go_sem,reduceIte,G0,G1,G2,G3,G4,G5,hw,hne,hg,hb]
 rw[z5 rfl rfl,z6]
 exact⟨⟨_,rfl⟩,rfl⟩
theorem Yw (l:List Sec) (v:AV) (kd sk:Nat) (hmax:l.length≤1000) (m:Mem) (hs:Seen l m.stk.length m.cur v) (hb:m.cur[0]? =some ⟨sk,[.int .u8 kd]⟩):
  Okv tab ze [v,.fn (.func yL) [] [.ptr m.stk.length 0 sk 0]] m (.int .i64 (atI (idxF kd l 0))):=by
 refine zx yg ?_
 obtain⟨stk,cur,nx,live,fl⟩:=m
 obtain⟨h1,j,st,cells,h2⟩:=hs
 dsimp only at h2 hb
 have hne: ∀z:List Blk,(stk.length==(stk++[z]).length)=false:=fun z=>by simp
 have hg: ∀z:List Blk,(stk++[z]).getD stk.length []=z:=fun z=>by simp
 simp only[zj,List.map,go_sem,reduceIte,G0,G1,G2,G3,G4,G5,h1]
 refine zk (α:=Nat) (fun k σ=>(k≤l.length∧idxF kd l 0=idxF kd (l.drop k) k)∧ ∃nz,heads [0,1,7,8] 0 σ=⟨tmps 19 [(0,v),(1,.fn (.func yL) [] [.ptr stk.length 0 sk 0]),(7,.int .i64 l.length),(8,.int .i64 k)],⟨stk++[cur],[],nz,[]::live,fl⟩⟩) (fun k=>l.length-k) 0 ?_ ?_
 ·refine⟨⟨w0f _,rfl⟩,?_⟩
  simp only[go_sem,reduceIte,G0,G1,G2,G3,G4,G5]
  exact⟨_,rfl⟩
 ·rintro k σ ⟨⟨hk,hi⟩,nz,hσ⟩
  rw[hσ]
  clear hσ σ
  dsimp only at hk hi⊢
  by_cases h:k<l.length
  ·obtain⟨a1,a2,w,a3,a4,a5⟩:=h2 k h
   rw[V5 h] at hi
   have hF:=fun c n lv=>(jJ l[k].kind.toNat kd w a5.one stk cur c n fl sk lv hb).eq
   by_cases e:l[k].kind.toNat=kd
   ·have d:((l[k].kind.toNat:Int)==(kd:Int))=true:=by rw[e];exact beq_self_eq_true _
    rw[d] at hF
    simp only[go_sem,reduceIte,G0,G1,G2,G3,G4,G5,w06,h,a1,hne,hg,a2,a3,hF]
    rw[z5 rfl rfl,z6]
    exact⟨⟨_,rfl⟩,by rw[hi,if_pos e];rfl⟩
   ·have d:((l[k].kind.toNat:Int)==(kd:Int))=false:=by rw[beq_eq_false_iff_ne];omega
    rw[d] at hF
    simp only[go_sem,reduceIte,G0,G1,G2,G3,G4,G5,w06,h,a1,hne,hg,a2,a3,hF,zb h (show l.length≤9223372036854775807 by omega)]
    exact⟨k+1,by omega,⟨h,by rw[hi,if_neg e]⟩,_,rfl⟩
  ·obtain rfl:k=l.length:=by omega
   simp only[go_sem,reduceIte,G0,G1,G2,G3,G4,G5,w06,h]
   rw[z5 rfl rfl,z6]
   exact⟨⟨_,rfl⟩,by rw[hi,List.drop_length];rfl⟩
def findS (b:List UInt8) (kd:Nat):Int×Nat×List Sec:=
 if(readS b).1≠0 then((readS b).1,0,[]) else match idxF kd (readS b).2 0 with
 |none=>(6,0,[])
 |some k=>(0,k,(readS b).2)
theorem U8 {b:List UInt8} (h:(readS b).1=0):ordF 0 (readS b).2=true:=by
 unfold readS at h⊢
 by_cases c1:b.length>200000
 ·rw[if_pos c1] at h;exact absurd h (by decide)
 rw[if_neg c1] at h⊢
 by_cases c2:b.length<10
 ·rw[if_pos c2] at h;exact absurd h (by decide)
 rw[if_neg c2] at h⊢
 generalize (b.getD 5 0).toNat=n at*
 by_cases c3:b.take 5≠magicS∨n>7
 ·rw[if_pos c3] at h;exact absurd h (by decide)
 rw[if_neg c3] at h⊢
 by_cases c4:b.length<10+13*n
 ·rw[if_pos c4] at h;exact absurd h (by decide)
 rw[if_neg c4] at h⊢
 by_cases c5:num4 (b.drop (6+13*n))≠sumN (b.take (6+13*n))
 ·rw[if_pos c5] at h;exact absurd h (by decide)
 rw[if_neg c5] at h⊢
 cases hs:scanS b n n with
 |none=>
  rw[hs] at h
  dsimp only at h
  exact absurd h (by decide)
 |some z=>
  obtain⟨l,p⟩:=z
  rw[hs] at h
  dsimp only at h⊢
  by_cases c6:ordF 0 l=false∨p≠b.length
  ·rw[if_pos c6] at h;exact absurd h (by decide)
  rw[if_neg c6] at h⊢
  by_cases c7:((List.range l.length).all fun i=>crR b i==sumN (secA l i).data)=false
  ·rw[if_pos c7] at h;exact absurd h (by decide)
  rw[if_neg c7]
  by_cases ho:ordF 0 l=true
  ·exact ho
  ·exact absurd (.inl (by simpa using ho)) c6
theorem uN {b:List UInt8} (h:(readS b).1=0):(readS b).2.length≤7:=by
 have:=xC _ 0 (by omega) (U8 h);omega
theorem Tr {stk:List (List Blk)} {cur c':List Blk} {nx nx' fl fl' lo:Nat} {own:List Nat} {live:List (List Nat)} {l:List Sec} {v:AV} (a r:Int) (h:RdV l (stk++[cur]).length c' lo v):
  ∃v' bs ts,leave ⟨stk,cur,nx,live,fl⟩ ⟨stk++[cur],c',nx',own::live,fl'⟩ (.tup [v,.int .i64 a,.int .i64 r])=some (.tup [v',.int .i64 a,.int .i64 r],⟨stk,cur++bs,nx',pushToks ts live,fl⟩)∧RdV l stk.length (cur++bs) cur.length v':=by
 have e:own.filter (fun _=>false)=[]:=by simp
 rcases h with⟨rfl,rfl⟩|⟨hne,j,st,cells,rfl,hlo,hb,h1,h2⟩
 ·refine⟨.nils,[],[],?_,.inl ⟨rfl,rfl⟩⟩
  unfold leave
  simp only[List.getLast?_append,List.getLast?_singleton,Option.some_or,AV.refs,refsAny,Bool.false_or,w0b,if_false,AV.toks,toksAll,w19,List.contains_nil,e,List.dropLast_concat]
 ·refine⟨.grow 2 stk.length (j+cur.length) st l.length,c'.map (fun b:Blk=>Blk.mk b.st (shiftAll (stk++[cur]).length stk.length cur.length b.cs)),[],?_,.inr ⟨hne,_,st,shiftAll (stk++[cur]).length stk.length cur.length cells,rfl,by omega,?_,h1.shift _ _ _,by rw[vY];exact h2⟩⟩
  ·unfold leave
   simp only[List.getLast?_append,List.getLast?_singleton,Option.some_or,AV.refs,refsAny,beq_self_eq_true,Bool.true_or,if_true,AV.shift,shiftAll,List.dropLast_concat,AV.toks,toksAll,w19,List.contains_nil,e]
   simp
  ·rw[Nat.add_comm,w0d (by omega),Nat.add_sub_cancel_left,w16,hb];rfl
theorem qf (b:List UInt8) (y:AV) (kd:Nat) (hy:IsBytes b y) (stk:List (List Blk)) (cur:List Blk) (nx fl:Nat) (live:List (List Nat)) (hfl:fl≤stk.length+1):
  ∃v bs k ts,CALL tab xh [y,.int .u8 kd] ⟨stk,cur,nx,live,fl⟩=some (.tup [v,.int .i64 ((findS b kd).2.1:Nat),.int .i64 (findS b kd).1],⟨stk,cur++bs,k,pushToks ts live,fl⟩)∧RdV (findS b kd).2.2 stk.length (cur++bs) cur.length v:=by
 suffices h:Does tab xh [y,.int .u8 kd] ⟨stk,cur,nx,live,fl⟩ fun v m'=> ∃v0 bs k ts,v= .tup [v0,.int .i64 ((findS b kd).2.1:Nat),.int .i64 (findS b kd).1]∧m'=⟨stk,cur++bs,k,pushToks ts live,fl⟩∧RdV (findS b kd).2.2 stk.length (cur++bs) cur.length v0 by
  obtain⟨x,h1,v,bs,k,ts,h2,h3,h4⟩:=h
  exact⟨v,bs,k,ts,by rw[h1,←h2,←h3],h4⟩
 refine uj ZU ?_ (Nat.le_of_ble_eq_true rfl)
 have hf':fl≤(stk++[cur]).length+1:=by simp;omega
 obtain⟨v,bs,k1,ts,hR,hV⟩:=jI b y hy (stk++[cur]) [⟨nx,[.int .u8 kd]⟩] (nx+1) fl ([]::live) hf'
 have hfin: ∀{c':List Blk} {nx' fl':Nat} {own:List Nat} {a r:Int},leave ⟨stk,cur,nx,live,fl⟩ ⟨stk++[cur],c',nx',own::live,fl'⟩ (.tup [.nils,.int .i64 a,.int .i64 r])=some (.tup [.nils,.int .i64 a,.int .i64 r],⟨stk,cur++[],nx',pushToks [] live,fl⟩):=by
  intro c' nx' fl' own a r
  rw[z5 rfl rfl,w19,qo]
 simp only[um,List.map,go_sem,reduceIte,G0,G1,G2,G3,G4,G5,hR,z8]
 by_cases c1:(readS b).1=0
 case neg=>
  have d1:((readS b).1 !=0)=true:=by simpa using c1
  simp only[go_sem,reduceIte,G0,G1,G2,G3,G4,G5,d1]
  rw[hfin,z6]
  exact⟨.nils,[],_,[],by unfold findS;rw[if_pos c1];rfl,rfl,by unfold findS;rw[if_pos c1];exact .inl ⟨rfl,rfl⟩⟩
 have d1:((readS b).1 !=0)=false:=by rw[c1];rfl
 have hl:=uN c1
 have hI:=fun n lv=>(Yw (readS b).2 v kd nx (by omega) ⟨stk++[cur],⟨nx,[.int .u8 kd]⟩::bs,n,lv,fl⟩ (jU hV) rfl).eq
 simp only[go_sem,reduceIte,G0,G1,G2,G3,G4,G5,d1,hI]
 generalize callNx tab ze _ _=n5
 cases hx:idxF kd (readS b).2 0 with
 |none=>
  have d2:(atI none<0):=by decide
  simp only[go_sem,reduceIte,G0,G1,G2,G3,G4,G5,d2]
  rw[hfin,z6]
  exact⟨.nils,[],_,[],by unfold findS;rw[if_neg (fun h=>h c1),hx];rfl,rfl,by unfold findS;rw[if_neg (fun h=>h c1),hx];exact .inl ⟨rfl,rfl⟩⟩
 |some k=>
  have d2: ¬(atI (some k)<0):=by show¬((k:Int)<0);omega
  simp only[go_sem,reduceIte,G0,G1,G2,G3,G4,G5,d2]
  obtain⟨v',bs',ts',h3,h4⟩:=Tr (stk:=stk) (cur:=cur) (c':=⟨nx,[.int .u8 kd]⟩::bs) (nx:=nx) (nx':=n5) (fl:=fl) (fl':=fl) (own:=ts++[]) (live:=live) (l:=(readS b).2) (v:=v) (k:Int) 0 hV
  rw[show(atI (some k))=(k:Int) from rfl]
  simp only[w19] at h3
  rw[h3,z6]
  exact⟨v',bs',_,ts',by unfold findS;rw[if_neg (fun h=>h c1),hx],rfl,by unfold findS;rw[if_neg (fun h=>h c1),hx];exact h4⟩
def exS (b:List UInt8) (kd:Nat) (data:List UInt8):List UInt8×Int:=
 if(findS b kd).1≠0 then([],(findS b kd).1) else outW ((findS b kd).2.2.set (findS b kd).2.1 ⟨(secA (findS b kd).2.2 (findS b kd).2.1).kind,data⟩)
def wiS (b:List UInt8) (kd:Nat):List UInt8×Int:=
 if(findS b kd).1≠0 then([],(findS b kd).1) else outW ((findS b kd).2.2.eraseIdx (findS b kd).2.1)
theorem V6 {b:List UInt8} {kd:Nat} (h:(findS b kd).1=0):(readS b).1=0∧idxF kd (readS b).2 0=some (findS b kd).2.1∧(findS b kd).2.2=(readS b).2∧(findS b kd).2.1<(readS b).2.length:=by
 unfold findS at h⊢
 by_cases c1:(readS b).1=0
 case neg=>rw[if_pos c1] at h;exact absurd h c1
 rw[if_neg (fun h=>h c1)] at h⊢
 cases hx:idxF kd (readS b).2 0 with
 |none=>
  rw[hx] at h
  dsimp only at h
  exact absurd h (by decide)
 |some k=>exact⟨c1,rfl,rfl,by have:=jF hx;simpa using this⟩
theorem Xl {b:List UInt8} {kd:Nat} (h:(readS b).1≠0):findS b kd=((readS b).1,0,[]):=by unfold findS;rw[if_pos h]
theorem Zw {b:List UInt8} {kd:Nat} (h:(readS b).1=0) (hx:idxF kd (readS b).2 0=none):findS b kd=(6,0,[]):=by unfold findS;rw[if_neg (fun q=>q h),hx]
theorem Zv {b:List UInt8} {kd k:Nat} (h:(readS b).1=0) (hx:idxF kd (readS b).2 0=some k):findS b kd=(0,k,(readS b).2):=by unfold findS;rw[if_neg (fun q=>q h),hx]
theorem SRows.setData {d:List UInt8} {z:AV} (hz:IsBytes d z): ∀{l:List Sec} {cs:List AV} {k:Nat},SRows l cs→k<l.length→SRows (l.set k ⟨(secA l k).kind,d⟩) (cs.take (k*2+1)++[z]++cs.drop (k*2+1+1))
 |s::l,_,0,⟨v,r,rfl,h1,h2⟩,_=>⟨z,r,rfl,hz,h2⟩
 |s::l,_,k+1,⟨v,r,rfl,h1,h2⟩,h=>by
  refine⟨v,r.take (k*2+1)++[z]++r.drop (k*2+1+1),?_,h1,h2.setData hz (by simpa using h)⟩
  rw[show(k+1)*2+1=k*2+1+1+1 by omega]
  rfl
theorem qE (b:List UInt8) (y:AV) (kd:Nat) (hy:IsBytes b y) (d:List UInt8) (z:AV) (hz:IsBytes d z) (m:Mem) (hfl:m.floor≤m.stk.length+1):Okp IsByte 1 tab xm [y,.int .u8 kd,z] m (exS b kd d).1 (exS b kd d).2:=by
 refine qJ qH ?_
 obtain⟨stk,cur,nx,live,fl⟩:=m
 dsimp only at hfl
 have hf':fl≤(stk++[cur]).length+1:=by simp;omega
 have hf:fl≤(stk++[cur]).length:=by simp;omega
 obtain⟨v,bs,k1,ts,hF,hV⟩:=qf b y kd hy (stk++[cur]) [] nx fl ([]::live) hf'
 rw[List.nil_append] at hF hV
 simp only[z8,w19] at hF
 simp only[xl,List.map,go_sem,reduceIte,G0,G1,G2,G3,G4,G5,hF]
 by_cases c1:(findS b kd).1=0
 case neg=>
  have d1:((findS b kd).1 !=0)=true:=by simpa using c1
  simp only[go_sem,reduceIte,G0,G1,G2,G3,G4,G5,d1]
  unfold exS
  rw[if_pos c1]
  exact y7 (Own.nil _)
 have d1:((findS b kd).1 !=0)=false:=by rw[c1];rfl
 obtain⟨f1,f2,f3,f4⟩:=V6 c1
 unfold exS
 rw[if_neg (fun h=>h c1)]
 rw[f3] at hV⊢
 have hl:=uN f1
 generalize (readS b).2=l at*
 generalize (findS b kd).2.1=k at*
 rcases hV with⟨rfl,_⟩|⟨hne,j,st,cells,rfl,hlo,hb,hr,hlen⟩
 ·simp at f4
 have hat:=yU (L:=(stk++[cur]).length) (j:=j) (st:=st) f4
 have hjl:j<bs.length:=(w03.1 hb).1
 have hse:=hr.setData hz f4
 obtain⟨z',ts',k2,hW,hO⟩:=uq (l.set k ⟨(secA l k).kind,d⟩) j st _ hse (by rw[List.length_set];omega) (stk++[cur]) (bs.set j ⟨st,cells.take (k*2+1)++[z]++cells.drop (k*2+1+1)⟩) k1 fl (ts::live) (w38 hjl) hf
 rw[List.length_set] at hW
 simp only[go_sem,reduceIte,G0,G1,G2,G3,G4,G5,d1,hat,hb,hz.one,hz.refs_cells,hlen,show k*2+1+1≤l.length*2 by omega,hW,z8]
 exact y7 (hO.more _)
theorem vm (b:List UInt8) (y:AV) (kd:Nat) (hy:IsBytes b y) (d:List UInt8) (z:AV) (hz:IsBytes d z) (m:Mem) (hfl:m.floor≤m.stk.length+1):Okp IsByte 1 tab zY [y,.int .u8 kd,z] m (exS b kd d).1 (exS b kd d).2:=by
 refine qJ vo ?_
 obtain⟨stk,cur,nx,live,fl⟩:=m
 dsimp only at hfl
 have hf':fl≤(stk++[cur]).length+1:=by simp;omega
 have hf:fl≤(stk++[cur]).length:=by simp;omega
 obtain⟨v,bs,k1,ts,hF,hV⟩:=xz b y hy (stk++[cur]) [] nx fl ([]::live) hf'
 rw[List.nil_append] at hF hV
 simp only[z8,w19] at hF
 simp only[zW,List.map,go_sem,reduceIte,G0,G1,G2,G3,G4,G5,hF]
 by_cases c1:(readS b).1=0
 case neg=>
  have d1:((readS b).1 !=0)=true:=by simpa using c1
  simp only[go_sem,reduceIte,G0,G1,G2,G3,G4,G5,d1]
  have e:exS b kd d=([],(readS b).1):=by unfold exS;rw[Xl c1];exact if_pos c1
  rw[e]
  exact y7 (Own.nil _)
 have d1:((readS b).1 !=0)=false:=by rw[c1];rfl
 have hl:=uN c1
 have hI:=fun n lv=>(xS (readS b).2 v kd (by omega) ⟨stk++[cur],bs,n,lv,fl⟩ (jU hV)).eq
 simp only[go_sem,reduceIte,G0,G1,G2,G3,G4,G5,d1,hI]
 generalize callNx tab zE _ _=n5
 cases hx:idxF kd (readS b).2 0 with
 |none=>
  have d2:(atI none<0):=by decide
  simp only[go_sem,reduceIte,G0,G1,G2,G3,G4,G5,d2]
  have e:exS b kd d=([],6):=by unfold exS;rw[Zw c1 hx];exact if_pos (by decide)
  rw[e]
  exact y7 (Own.nil _)
 |some k=>
  have d2: ¬(atI (some k)<0):=by show¬((k:Int)<0);omega
  have f4:k<(readS b).2.length:=by have:=jF hx;simpa using this
  have e:exS b kd d=outW ((readS b).2.set k ⟨(secA (readS b).2 k).kind,d⟩):=by unfold exS;rw[Zv c1 hx];exact if_neg (fun h=>h rfl)
  rw[e]
  generalize (readS b).2=l at*
  rcases hV with⟨rfl,_⟩|⟨hne,j,st,cells,rfl,hlo,hb,hr,hlen⟩
  ·simp at f4
  have hat:=yU (L:=(stk++[cur]).length) (j:=j) (st:=st) f4
  have hjl:j<bs.length:=(w03.1 hb).1
  have hse:=hr.setData hz f4
  rw[show(atI (some k))=(k:Int) from rfl] at d2⊢
  have hset:(bs.set j ⟨st,cells.take (k*2+1)++[z]++cells.drop (k*2+1+1)⟩)[j]? =some ⟨st,cells.take (k*2+1)++[z]++cells.drop (k*2+1+1)⟩:=w38 hjl
  simp only[go_sem,reduceIte,G0,G1,G2,G3,G4,G5,d2,hat,hb,hz.one,hz.refs_cells,hlen,show k*2+1+1≤l.length*2 by omega]
  have hW:=x7 (l.set k ⟨(secA l k).kind,d⟩) (stk++[cur]).length j st _ _ hse (by rw[List.length_set];omega) hset ⟨stk++[cur],bs.set j ⟨st,cells.take (k*2+1)++[z]++cells.drop (k*2+1+1)⟩,n5,ts::live,fl⟩ ⟨w0e _,by simp⟩ hf'
  rw[List.length_set] at hW
  refine hW.xv fun z' ts' n6 hO=> ?_
  simp only[go_sem,reduceIte,G0,G1,G2,G3,G4,G5,z8]
  exact y7 (hO.more _)
theorem SRows.app: ∀{l:List Sec} {cs:List AV} (t:List AV),SRows l cs→SRows l (cs++t)
 | [],_,_,_=>trivial
 |s::l,_,t,⟨v,r,rfl,h1,h2⟩=>⟨v,r++t,rfl,h1,h2.app t⟩
theorem SRows.erase: ∀{l:List Sec} {cs:List AV} {k:Nat},SRows l cs→cs.length=l.length*2→k<l.length→SRows (l.eraseIdx k) (cs.take (k*2)++cs.drop ((k+1)*2))
 |s::l,_,0,⟨v,r,rfl,h1,h2⟩,_,_=>h2
 |s::l,_,k+1,⟨v,r,rfl,h1,h2⟩,h,hk=>by
  refine⟨v,r.take (k*2)++r.drop ((k+1)*2),?_,h1,h2.erase (by simp only[w23] at h;omega) (by simpa using hk)⟩
  rw[show(k+1)*2=k*2+1+1 by omega,show(k+1+1)*2=(k*2+1+1)+1+1 by omega]
  rfl
theorem jW {cs:List AV} (h: ∀c∈cs,Pln c) (a n:Nat):allOne ((cs.drop a).take n)=true:=jV fun c hc=>h c (List.mem_of_mem_drop (List.mem_of_mem_take hc))
def eraC (l:List Sec) (cells:List AV) (k:Nat):List AV:=cells.take (k*2)++cells.drop ((k+1)*2)++cells.drop ((l.length-1)*2)
theorem Uy {l:List Sec} {cells:List AV} {k:Nat} (h:cells.length=l.length*2) (hk:k<l.length):(eraC l cells k).length=l.length*2:=by
 unfold eraC;simp only[w15,w11,w10];omega
theorem qv {m:Mem} {l:List Sec} {cells:List AV} {L j st k:Nat} (hb:m.blk L j st=some cells) (hr:SRows l cells) (hlen:cells.length=l.length*2) (hk:k<l.length) (hfl:m.floor≤L∨L=m.stk.length):
  (k+1<l.length→evAppK m 2 (.grow 2 L j st k) (.arr L j st ((k+1)*2) (l.length-(k+1)))=some (.grow 2 L j st (l.length-1),m.put L j st (eraC l cells k)))∧
  (k+1=l.length→evAppK m 2 (.grow 2 L j st k) (.arr L j st ((k+1)*2) (l.length-(k+1)))=some (.grow 2 L j st (l.length-1),m)∧eraC l cells k=cells):=by
 have hp: ∀c∈cells,Pln c:=by
  have:=hr.pln.2
  rwa [←hlen,w28] at this
 have hel:m.elems 2 (.arr L j st ((k+1)*2) (l.length-(k+1)))=some (chunk 2 (l.length-(k+1)) (cells.drop ((k+1)*2))):=by
  simp only[Mem.elems,hb]
  rw[if_pos (by simp only[w04,decide_eq_true_eq];exact⟨by omega,jW hp _ _⟩)]
 obtain⟨q1,q2,q3⟩:=xE (s:=2) (by omega) (l.length-(k+1)) (cells.drop ((k+1)*2)) (by rw[w10];omega) (jW hp _ _)
 have q3':(chunk 2 (l.length-(k+1)) (cells.drop ((k+1)*2))).flatMap AV.cells=cells.drop ((k+1)*2):=by
  rw[q3,w34 (by rw[w10];omega)]
 refine⟨fun h=> ?_,fun h=> ?_⟩
 ·generalize chunk 2 (l.length-(k+1)) (cells.drop ((k+1)*2))=E at*
  cases E with
  |nil=>simp at q1;omega
  |cons e r=>
   unfold evAppK
   simp only[hel,hb]
   rw[if_pos (by
    simp only[w04,w1d,beq_iff_eq,decide_eq_true_eq]
    refine⟨⟨⟨trivial,by rw[q1];omega⟩,?_⟩,hfl⟩
    rw[q3']
    have:=jW hp ((k+1)*2) (cells.length)
    rwa [w34 (by rw[w10];omega)] at this),q1,q3']
   congr 3
   ·omega
   ·unfold splice eraC
    congr 2
    rw[w10]
    omega
 ·have e0:l.length-(k+1)=0:=by omega
  rw[e0] at hel⊢
  refine⟨?_,?_⟩
  ·unfold evAppK
   simp only[hel,chunk,beq_self_eq_true,if_true]
   rw[show l.length-1=k by omega]
  ·unfold eraC
   rw[List.drop_of_length_le (show cells.length≤(k+1)*2 by omega),w19,show(l.length-1)*2=k*2 by omega,List.take_append_drop]
theorem YR {α:Type} {M:List α} {j:Nat} {b:α} (h:M[j]? =some b):M.set j b=M:=by
 apply List.ext_getElem?
 intro i
 rw[List.getElem?_set]
 by_cases e:j=i
 ·subst e
  rw[if_pos rfl,if_pos (w03.1 h).1,h]
 ·rw[if_neg e]
theorem UH {S:List (List Blk)} {M:List Blk} {nx fl:Nat} {live:List (List Nat)} {l:List Sec} {cells:List AV} {j st k:Nat} (hb:M[j]? =some ⟨st,cells⟩) (hr:SRows l cells) (hlen:cells.length=l.length*2) (hk:k<l.length):
  evAppK ⟨S,M,nx,live,fl⟩ 2 (.grow 2 S.length j st k) (.arr S.length j st ((k+1)*2) (l.length-(k+1)))=some (.grow 2 S.length j st (l.length-1),⟨S,M.set j ⟨st,eraC l cells k⟩,nx,live,fl⟩):=by
 have hblk:Mem.blk ⟨S,M,nx,live,fl⟩ S.length j st=some cells:=by simp[Mem.blk,Mem.row,hb]
 obtain⟨h1,h2⟩:=qv hblk hr hlen hk (.inr rfl)
 by_cases h:k+1<l.length
 ·rw[h1 h];simp[Mem.put]
 ·obtain⟨h3,h4⟩:=h2 (by omega)
  rw[h3,h4,YR hb]
theorem UG {S:List (List Blk)} {M c:List Blk} {nx fl:Nat} {live:List (List Nat)} {l:List Sec} {cells:List AV} {j st k:Nat} (hb:M[j]? =some ⟨st,cells⟩) (hr:SRows l cells) (hlen:cells.length=l.length*2) (hk:k<l.length) (hfl:fl≤S.length):
  evAppK ⟨S++[M],c,nx,live,fl⟩ 2 (.grow 2 S.length j st k) (.arr S.length j st ((k+1)*2) (l.length-(k+1)))=some (.grow 2 S.length j st (l.length-1),⟨S++[M.set j ⟨st,eraC l cells k⟩],c,nx,live,fl⟩):=by
 have hne:(S.length==(S++[M]).length)=false:=by simp
 have hblk:Mem.blk ⟨S++[M],c,nx,live,fl⟩ S.length j st=some cells:=by
  simp only[Mem.blk,Mem.row,hne,w0b,if_false]
  simp[hb]
 obtain⟨h1,h2⟩:=qv hblk hr hlen hk (.inl hfl)
 by_cases h:k+1<l.length
 ·rw[h1 h]
  simp only[Mem.put,hne,w0b,if_false,vi]
 ·obtain⟨h3,h4⟩:=h2 (by omega)
  rw[h3,h4,YR hb]
theorem ZC {l:List Sec} {cells:List AV} {k:Nat} (hr:SRows l cells) (hlen:cells.length=l.length*2) (hk:k<l.length):SRows (l.eraseIdx k) (eraC l cells k):=(hr.erase hlen hk).app _
theorem tr {l:List Sec} {k:Nat} (hk:k<l.length):(l.eraseIdx k).length=l.length-1:=List.length_eraseIdx_of_lt hk
theorem TM {L j st n k:Nat} (h:k≤n):evSlice 2 (.grow 2 L j st n) none (some (.int .i64 (k:Int))) none=some (.grow 2 L j st k):=by
 simp[evSlice,bound,h]
theorem TN {L j st n k:Nat} (h:k+1≤n):evSlice 2 (.grow 2 L j st n) (some (.int .i64 ((k+1:Nat):Int))) none none=some (.arr L j st ((k+1)*2) (n-(k+1))):=by
 have h1:(0:Int)≤((k+1:Nat):Int)∧((k+1:Nat):Int)≤((n:Nat):Int):=by omega
 simp only[evSlice,bound,w2b,h1,and_self,if_true,w08,Int.toNat_natCast]
 rfl
theorem Qi {L j st n k:Nat} (h:k+1≤n): ∃X,evSlice 2 (.grow 2 L j st n) (some (.int .i64 (k:Int))) (some (.int .i64 ((k+1:Nat):Int))) (some (.int .i64 (n:Int)))=some X:=by
 have h1:(0:Int)≤((k+1:Nat):Int)∧((k+1:Nat):Int)≤((n:Nat):Int):=by omega
 have h2:(0:Int)≤(k:Int)∧(k:Int)≤((k+1:Nat):Int):=by omega
 have h3:(0:Int)≤(n:Int)∧(n:Int)≤((n:Nat):Int):=by omega
 simp only[evSlice,bound,w2b,h1,h2,h3,and_self,if_true,w08,Int.toNat_natCast]
 exact⟨_,rfl⟩
theorem U0 (l:List Sec) (k j st:Nat) (cells:List AV) (hr:SRows l cells) (hlen:cells.length=l.length*2) (hmax:l.length≤1000) (hk:k<l.length) (stk:List (List Blk)) (cur:List Blk) (nx fl:Nat) (live:List (List Nat)) (hb:cur[j]? =some ⟨st,cells⟩) (hfl:fl≤stk.length):
  ∃n cells2,CALL tab zg [.grow 2 stk.length j st l.length,.int .i64 (k:Int),.int .i64 ((k+1:Nat):Int)] ⟨stk,cur,nx,live,fl⟩=some (.grow 2 stk.length j st (l.length-1),⟨stk,cur.set j ⟨st,cells2⟩,n,live,fl⟩)∧SRows (l.eraseIdx k) cells2:=by
 suffices h:Does tab zg [.grow 2 stk.length j st l.length,.int .i64 (k:Int),.int .i64 ((k+1:Nat):Int)] ⟨stk,cur,nx,live,fl⟩ fun v m'=> ∃n cells2,v= .grow 2 stk.length j st (l.length-1)∧m'=⟨stk,cur.set j ⟨st,cells2⟩,n,live,fl⟩∧SRows (l.eraseIdx k) cells2 by
  obtain⟨x,h1,n,cells2,h2,h3,h4⟩:=h
  exact⟨n,cells2,by rw[h1,←h2,←h3],h4⟩
 refine uj yD ?_ (Nat.le_of_ble_eq_true rfl)
 obtain⟨X,hX⟩:=Qi (L:=stk.length) (j:=j) (st:=st) (n:=l.length) (k:=k) hk
 have d1:((k:Int)==((k+1:Nat):Int))=false:=by rw[beq_eq_false_iff_ne];omega
 have s1:=TM (L:=stk.length) (j:=j) (st:=st) (n:=l.length) (k:=k) (by omega)
 have s2:=TN (L:=stk.length) (j:=j) (st:=st) (n:=l.length) (k:=k) (by omega)
 have hK:=fun c n lv=>UG (S:=stk) (M:=cur) (c:=c) (nx:=n) (fl:=fl) (live:=lv) hb hr hlen hk hfl
 simp only[zo,List.map,go_sem,reduceIte,G0,G1,G2,G3,G4,G5,zu,hX,d1,s1,s2,hK]
 refine⟨rfl,?_⟩
 have hjl:j<cur.length:=(w03.1 hb).1
 have hrows:=ZC hr hlen hk
 have hl2:=Uy hlen hk
 have hget:(cur.set j ⟨st,eraC l cells k⟩)[j]? =some ⟨st,eraC l cells k⟩:=w38 hjl
 have hset: ∀X:Blk,(cur.set j ⟨st,eraC l cells k⟩).set j X=cur.set j X:=fun X=>by rw[List.set_set]
 have hbase:eraC l cells k=(cells.take (k*2)++cells.drop ((k+1)*2))++cells.drop ((l.length-1)*2):=rfl
 have her:=hr.erase hlen hk
 have hel:(cells.take (k*2)++cells.drop ((k+1)*2)).length=(l.length-1)*2:=by simp only[w15,w11,w10];omega
 have htk:(eraC l cells k).take ((l.length-1)*2)=cells.take (k*2)++cells.drop ((k+1)*2):=by rw[hbase,←hel,List.take_left'];rfl
 generalize eraC l cells k=C at*
 have hne:(stk.length==(stk++[cur.set j ⟨st,C⟩]).length)=false:=by simp
 have hblk: ∀n lv,Mem.blk ⟨stk++[cur.set j ⟨st,C⟩],[],n,lv,fl⟩ stk.length j st=some C:=fun n lv=>by
  simp only[Mem.blk,Mem.row,hne,w0b,if_false]
  simp[hget]
 have hB: ∀n lv,evSlcB ⟨stk++[cur.set j ⟨st,C⟩],[],n,lv,fl⟩ 2 (.grow 2 stk.length j st (l.length-1)) (some (.int .i64 ((l.length-1:Nat):Int))) (some (.int .i64 (l.length:Int)))=some (.arr stk.length j st ((l.length-1)*2) 1,⟨stk++[cur.set j ⟨st,C⟩],[],n,lv,fl⟩):=fun n lv=>by
  have h1:(0:Int)≤(l.length:Int)∧(l.length:Int)≤((C.length/2:Nat):Int):=by omega
  have h2:(0:Int)≤((l.length-1:Nat):Int)∧((l.length-1:Nat):Int)≤(l.length:Int):=by omega
  simp only[evSlcB,hblk,beq_self_eq_true,if_true,bound,h1,h2,and_self,w2b,w08,Int.toNat_natCast]
  congr 3
  omega
 have hC: ∀n lv,evClr ⟨stk++[cur.set j ⟨st,C⟩],[],n,lv,fl⟩ [.int .u8 0,.nils] (.arr stk.length j st ((l.length-1)*2) 1)=some (.tup [],⟨stk++[cur.set j ⟨st,splice C ((l.length-1)*2) [.int .u8 0,.nils]⟩],[],n,lv,fl⟩):=fun n lv=>by
  simp only[evClr,AV.asArr,evClr0,hblk]
  rw[if_pos (by simp only[w23,List.length_nil,w04,w1d,beq_iff_eq,decide_eq_true_eq];exact⟨⟨by omega,rfl⟩,.inl hfl⟩),if_neg (by simp)]
  simp only[Mem.put,hne,w0b,if_false,vi,hset]
  rfl
 simp only[go_sem,reduceIte,G0,G1,G2,G3,G4,G5,hB,hC]
 rw[Vv (by simp[AV.refs]) rfl,z6]
 refine⟨_,_,rfl,rfl,?_⟩
 rw[htk,w12]
 exact her.app _
theorem jr (b:List UInt8) (y:AV) (kd:Nat) (hy:IsBytes b y) (m:Mem) (hfl:m.floor≤m.stk.length+1):Okp IsByte 1 tab xJ [y,.int .u8 kd] m (wiS b kd).1 (wiS b kd).2:=by
 refine qJ jv ?_
 obtain⟨stk,cur,nx,live,fl⟩:=m
 dsimp only at hfl
 have hf':fl≤(stk++[cur]).length+1:=by simp;omega
 have hf:fl≤(stk++[cur]).length:=by simp;omega
 obtain⟨v,bs,k1,ts,hF,hV⟩:=qf b y kd hy (stk++[cur]) [] nx fl ([]::live) hf'
 rw[List.nil_append] at hF hV
 simp only[z8,w19] at hF
 simp only[xI,List.map,go_sem,reduceIte,G0,G1,G2,G3,G4,G5,hF]
 by_cases c1:(findS b kd).1=0
 case neg=>
  have d1:((findS b kd).1 !=0)=true:=by simpa using c1
  simp only[go_sem,reduceIte,G0,G1,G2,G3,G4,G5,d1]
  unfold wiS
  rw[if_pos c1]
  exact y7 (Own.nil _)
 have d1:((findS b kd).1 !=0)=false:=by rw[c1];rfl
 obtain⟨f1,f2,f3,f4⟩:=V6 c1
 unfold wiS
 rw[if_neg (fun h=>h c1)]
 rw[f3] at hV⊢
 have hl:=uN f1
 generalize (readS b).2=l at*
 generalize (findS b kd).2.1=k at*
 rcases hV with⟨rfl,_⟩|⟨hne,j,st,cells,rfl,hlo,hb,hr,hlen⟩
 ·simp at f4
 have hjl:j<bs.length:=(w03.1 hb).1
 obtain⟨n5,cells2,hD,hr2⟩:=U0 l k j st cells hr hlen (by omega) f4 (stk++[cur]) bs k1 fl (ts::live) hb hf
 obtain⟨z',ts',k2,hW,hO⟩:=uq (l.eraseIdx k) j st _ hr2 (by rw[tr f4];omega) (stk++[cur]) (bs.set j ⟨st,cells2⟩) n5 fl (ts::live) (w38 hjl) hf
 rw[tr f4] at hW
 simp only[go_sem,reduceIte,G0,G1,G2,G3,G4,G5,d1,zb f4 (show l.length≤9223372036854775807 by omega),hD,hW,z8]
 exact y7 (hO.more _)
theorem vz (b:List UInt8) (y:AV) (kd:Nat) (hy:IsBytes b y) (m:Mem) (hfl:m.floor≤m.stk.length+1):Okp IsByte 1 tab yb [y,.int .u8 kd] m (wiS b kd).1 (wiS b kd).2:=by
 refine qJ vF ?_
 obtain⟨stk,cur,nx,live,fl⟩:=m
 dsimp only at hfl
 have hf':fl≤(stk++[cur]).length+1:=by simp;omega
 obtain⟨v,bs,k1,ts,hF,hV⟩:=xz b y hy (stk++[cur]) [] nx fl ([]::live) hf'
 rw[List.nil_append] at hF hV
 simp only[z8,w19] at hF
 simp only[y9,List.map,go_sem,reduceIte,G0,G1,G2,G3,G4,G5,hF]
 by_cases c1:(readS b).1=0
 case neg=>
  have d1:((readS b).1 !=0)=true:=by simpa using c1
  simp only[go_sem,reduceIte,G0,G1,G2,G3,G4,G5,d1]
  have e:wiS b kd=([],(readS b).1):=by unfold wiS;rw[Xl c1];exact if_pos c1
  rw[e]
  exact y7 (Own.nil _)
 have d1:((readS b).1 !=0)=false:=by rw[c1];rfl
 have hl:=uN c1
 have hI:=fun n lv=>(xS (readS b).2 v kd (by omega) ⟨stk++[cur],bs,n,lv,fl⟩ (jU hV)).eq
 simp only[go_sem,reduceIte,G0,G1,G2,G3,G4,G5,d1,hI]
 generalize callNx tab zE _ _=n5
 cases hx:idxF kd (readS b).2 0 with
 |none=>
  have d2:(atI none<0):=by decide
  simp only[go_sem,reduceIte,G0,G1,G2,G3,G4,G5,d2]
  have e:wiS b kd=([],6):=by unfold wiS;rw[Zw c1 hx];exact if_pos (by decide)
  rw[e]
  exact y7 (Own.nil _)
 |some k=>
  have d2: ¬(atI (some k)<0):=by show¬((k:Int)<0);omega
  have f4:k<(readS b).2.length:=by have:=jF hx;simpa using this
  have e:wiS b kd=outW ((readS b).2.eraseIdx k):=by unfold wiS;rw[Zv c1 hx];exact if_neg (fun h=>h rfl)
  rw[e]
  generalize (readS b).2=l at*
  rcases hV with⟨rfl,_⟩|⟨hne,j,st,cells,rfl,hlo,hb,hr,hlen⟩
  ·simp at f4
  have hjl:j<bs.length:=(w03.1 hb).1
  rw[show(atI (some k))=(k:Int) from rfl] at d2⊢
  have s1:=TM (L:=(stk++[cur]).length) (j:=j) (st:=st) (n:=l.length) (k:=k) (by omega)
  have s2:=TN (L:=(stk++[cur]).length) (j:=j) (st:=st) (n:=l.length) (k:=k) (by omega)
  have hK:=fun n lv f=>UH (S:=stk++[cur]) (M:=bs) (nx:=n) (fl:=f) (live:=lv) hb hr hlen f4
  have hset:(bs.set j ⟨st,eraC l cells k⟩)[j]? =some ⟨st,eraC l cells k⟩:=w38 hjl
  obtain⟨z',ts',n6,hW,hO⟩:=x7 (l.eraseIdx k) (stk++[cur]).length j st _ _ (ZC hr hlen f4) (by rw[tr f4];omega) hset ⟨stk++[cur],bs.set j ⟨st,eraC l cells k⟩,n5,ts::live,max fl ((stk++[cur]).length+1)⟩ ⟨w0e _,by simp⟩ (by simp;omega)
  rw[tr f4] at hW
  simp only[z8] at hW
  simp only[go_sem,reduceIte,G0,G1,G2,G3,G4,G5,d2,zb f4 (show l.length≤9223372036854775807 by omega),s1,s2,hK]
  refine⟨rfl,?_⟩
  simp only[go_sem,reduceIte,G0,G1,G2,G3,G4,G5,hW]
  exact y7 (hO.more _)
theorem YY (l:List Sec):(outW l).1.length≤200000:=by
 unfold outW
 by_cases h:checkS l=0
 ·rw[if_pos h]
  obtain⟨_,h2⟩:=qR h
  show(dirB l++dataF l l.length).length≤_
  have h3:atK l l.length=10+13*l.length+(dataF l l.length).length:=by rw[qQ];rfl
  rw[w15,kr]
  omega
 ·rw[if_neg h];simp
theorem V7 (b:List UInt8) (kd:Nat) (d:List UInt8):(exS b kd d).1.length≤200000:=by
 unfold exS
 by_cases h:(findS b kd).1≠0
 ·rw[if_pos h];simp
 ·rw[if_neg h];exact YY _
theorem WP (b:List UInt8) (kd:Nat):(wiS b kd).1.length≤200000:=by
 unfold wiS
 by_cases h:(findS b kd).1≠0
 ·rw[if_pos h];simp
 ·rw[if_neg h];exact YY _
theorem ZR (a b:List UInt8) (x y:AV) (kd:Nat) (hx:IsBytes a x) (hy:IsBytes b y) (m:Mem) (hfl:m.floor≤m.stk.length+1):Okv tab yJ [x,y,.int .u8 kd] m (.bool true):=by
 refine zx xT ?_
 obtain⟨stk,cur,nx,live,fl⟩:=m
 dsimp only at hfl
 have hf':fl≤(stk++[cur]).length+1:=by simp;omega
 have hLa:=fun m=>(xA a x hx m).eq
 have hLb:=fun m=>(xA b y hy m).eq
 cases c1:longS a
 case true=>
  simp only[zq,List.map,go_sem,reduceIte,G0,G1,G2,G3,G4,G5,hLa,c1]
  rw[z5 rfl rfl,z6]
  exact⟨⟨_,rfl⟩,rfl⟩
 cases c2:longS b
 case true=>
  simp only[zq,List.map,go_sem,reduceIte,G0,G1,G2,G3,G4,G5,hLa,c1,hLb,c2]
  rw[z5 rfl rfl,z6]
  exact⟨⟨_,rfl⟩,rfl⟩
 have ha:a.length≤200100:=by
  unfold longS at c1
  simp only[w2d,decide_eq_false_iff_not] at c1
  omega
 have hts:=fun m=>IsBytes.toStr m hx
 have hF:=fun m=>(kP a b x y hx hy m).eq
 have hob: ∀t,IsBytes a (.list 1 t (ofBytes a)):=fun t=> .mk (qz a) (by omega)
 have hG:=fun t m=>(ut a b _ y (hob t) hy m).eq
 simp only[zq,List.map,go_sem,reduceIte,G0,G1,G2,G3,G4,G5,hLa,c1,hLb,c2,hts,hF,show a.length≤140737488355328 by omega,hG]
 generalize callNx tab zN _ _=n1
 generalize addTok _ _=lv1
 refine(qE a x kd hx b y hy _ hf').xv fun z1 t1 k1 o1=> ?_
 have q1:=fun m=>IsBytes.toStr m (o1.sl (by have:=V7 a kd b;omega))
 simp only[go_sem,reduceIte,G0,G1,G2,G3,G4,G5,show a.length≤140737488355328 by omega]
 refine(vm a _ kd (hob _) b y hy _ hf').xv fun z2 t2 k2 o2=> ?_
 have q2:=fun m=>IsBytes.toStr m (o2.sl (by have:=V7 a kd b;omega))
 simp only[go_sem,reduceIte,G0,G1,G2,G3,G4,G5]
 refine(jr a x kd hx _ hf').xv fun z3 t3 k3 o3=> ?_
 have q3:=fun m=>IsBytes.toStr m (o3.sl (by have:=WP a kd;omega))
 simp only[go_sem,reduceIte,G0,G1,G2,G3,G4,G5,show a.length≤140737488355328 by omega]
 refine(vz a _ kd (hob _) _ hf').xv fun z4 t4 k4 o4=> ?_
 have q4:=fun m=>IsBytes.toStr m (o4.sl (by have:=WP a kd;omega))
 simp only[go_sem,reduceIte,G0,G1,G2,G3,G4,G5,beq_self_eq_true,q1,q2,q3,q4,hts,evStr]
 rw[z5 rfl rfl,z6]
 exact⟨⟨_,rfl⟩,rfl⟩
end Go.Proofs.W
end
section
namespace Go.Proofs.W
open Go.Vs Go.Vs.U
set_option maxRecDepth 100000
theorem tabOk:TabOk Try.prog tab:=by
 intro f afn h
 unfold tab at h
 split at h
 ·exact tab1 (n:=xU) Try.func3 (by kernel_rfl) h
 ·exact tab1 (n:=uQ) Try.func4 (by kernel_rfl) h
 ·exact tab1 (n:=Z0) Try.func5 (by kernel_rfl) h
 ·exact tab1 (n:=uB) Try.func6 (by kernel_rfl) h
 ·exact tab1 (n:=qN) Try.func7 (by kernel_rfl) h
 ·exact tab1 (n:=vq) Try.func8 (by kernel_rfl) h
 ·exact tab1 (n:=jz) Try.func9 (by kernel_rfl) h
 ·exact tab1 (n:=vJ) Try.func10 (by kernel_rfl) h
 ·exact tab1 (n:=Ya) Try.func11 (by kernel_rfl) h
 ·exact tab1 (n:=jx) Try.func12 (by kernel_rfl) h
 ·exact tab1 (n:=uP) Try.func13 (by kernel_rfl) h
 ·exact tab1 (n:=tQ) Try.func14 (by kernel_rfl) h
 ·exact tab1 (n:=uC) Try.func15 (by kernel_rfl) h
 ·exact tab1 (n:=yE) Try.func16 (by kernel_rfl) h
 ·exact tab1 (n:=jY) Try.func17 (by kernel_rfl) h
 ·exact tab1 (n:=yh) Try.func18 (by kernel_rfl) h
 ·exact tab1 (n:=jZ) Try.func19 (by kernel_rfl) h
 ·exact tab1 (n:=jy) Try.func20 (by kernel_rfl) h
 ·exact tab1 (n:=X5) Try.func21 (by kernel_rfl) h
 ·exact tab1 (n:=Vo) Try.func22 (by kernel_rfl) h
 ·exact tab1 (n:=jw) Try.func23 (by kernel_rfl) h
 ·exact tab1 (n:=u3) Try.func24 (by kernel_rfl) h
 ·exact tab1 (n:=tR) Try.func25 (by kernel_rfl) h
 ·exact tab1 (n:=vK) Try.func26 (by kernel_rfl) h
 ·exact tab1 (n:=uE) Try.func27 (by kernel_rfl) h
 ·exact tab1 (n:=uF) Try.func28 (by kernel_rfl) h
 ·exact tab1 (n:=qr) Try.func29 (by kernel_rfl) h
 ·exact tab1 (n:=qL) Try.func30 (by kernel_rfl) h
 ·exact tab1 (n:=kZ) Try.func31 (by kernel_rfl) h
 ·exact tab1 (n:=qq) Try.func32 (by kernel_rfl) h
 ·exact tab1 (n:=qM) Try.func33 (by kernel_rfl) h
 ·exact tab1 (n:=W8) Try.func34 (by kernel_rfl) h
 ·exact tab1 (n:=W9) Try.func35 (by kernel_rfl) h
 ·exact tab1 (n:=Y9) Try.func36 (by kernel_rfl) h
 ·exact tab1 (n:=vt) Try.func37 (by kernel_rfl) h
 ·exact tab1 (n:=uG) Try.func38 (by kernel_rfl) h
 ·exact tab1 (n:=u4) Try.func39 (by kernel_rfl) h
 ·exact tab1 (n:=uD) Try.func40 (by kernel_rfl) h
 ·exact tab1 (n:=uO) Try.func41 (by kernel_rfl) h
 ·exact tab1 (n:=kY) Try.func42 (by kernel_rfl) h
 ·exact tab1 (n:=X4) Try.func43 (by kernel_rfl) h
 ·exact tab1 (n:=X3) Try.func44 (by kernel_rfl) h
 ·exact tab1 (n:=X2) Try.func45 (by kernel_rfl) h
 ·exact tab1 (n:=vL) Try.func46 (by kernel_rfl) h
 ·exact tab1 (n:=u6) Try.func47 (by kernel_rfl) h
 ·cases h
end Go.Proofs.W
end
section
namespace Go.Vs
section
variable {P : Program} {n t : Nat} {xs : List AV}
theorem Z9 {k:IntKind} (h:Typed P (n+1) t xs) (hu:P.underlying t=some (.int k)): ∃i,xs=[.int k i]∧(Lit.int k i).wf=true:=by
 simp only[Typed,hu] at h
 exact h
theorem Yy {α:Type} {R:α→AV→Prop} {e s:Nat} (h:Typed P (n+1) t xs) (hu:P.underlying t=some (.slice e)) (hs:P.cellsOf e=s) (hR: ∀y,IsElem P e y→Typed P n e y.cells→ ∃d,R d y): ∃d y,xs=[y]∧IsSl R s d y:=by
 simp only[Typed,hu] at h
 rcases h with rfl|⟨ys,rfl,hl,hy⟩
 ·exact⟨[],_,rfl,.nil s⟩
 ·obtain⟨d,hd⟩:=All2.of_each (R:=R) ys fun y hm=>hR y (hy y hm).1 (hy y hm).2
  refine⟨d,_,rfl,?_⟩
  rw[hs]
  exact .mk hd (by rw[←hd.len];exact hl)
theorem Tn {n:Int} (h:(Lit.int .u8 n).wf=true):inU8 n:=by
 simp[Lit.wf,IntKind.min,IntKind.max,IntKind.signed,IntKind.bits] at h
 unfold inU8;omega
theorem Vw {α:Type} {R:α→AV→Prop} {W:α→Prop} {s:Nat} {xs:List α} {y:AV} (h:IsSl (fun d y=>R d y∧W d) s xs y):IsSl R s xs y∧ ∀x∈xs,W x:=by
 refine⟨h.mono fun _ _ _ h=>h.1,fun x hx=> ?_⟩
 obtain⟨i,hi,rfl⟩:=List.mem_iff_getElem.1 hx
 exact(h.nth hi).2
theorem tM: ¬Typed P 0 t xs:=fun h=>h
theorem qw {e:Nat} {y:AV} (h:IsElem P e y) (ha:aggT P e=some false):y.cells=[y]:=by
 unfold IsElem at h;rw[if_neg (by rw[ha];simp)] at h;exact h
end
end Go.Vs
end
section
namespace Go.Proofs.W
open Go.Vs
set_option maxRecDepth 100000
set_option linter.unusedVariables false
set_option linter.unusedSimpArgs false
theorem rd5 (n:Nat) (xs:List AV) (h:Typed Try.prog n 5 xs): ∃d y,xs=[y]∧IsK .u8 d y∧inU8 d:=by
 cases n with
 |zero=>exact absurd h tM
 |succ n=>obtain⟨i,rfl,hw⟩:=Z9 h Try.underlying5;exact⟨i,_,rfl,rfl,Tn hw⟩
theorem rdb22 (n:Nat) (y:AV) (h1:IsElem Try.prog 5 y) (h:Typed Try.prog n 5 y.cells): ∃d,IsByte d y∧True:=by
 have hc:=qw h1 (by kernel_rfl)
 cases n with
 |zero=>exact absurd h tM
 |succ n=>
  obtain⟨i,hi,hw⟩:=Z9 h Try.underlying5
  rw[hc] at hi
  injection hi with hi _
  subst hi
  obtain⟨h0,h1⟩:0≤i∧i<256:=by simp[Lit.wf,IntKind.min,IntKind.max,IntKind.signed,IntKind.bits] at hw;omega
  exact⟨UInt8.ofNat i.toNat,by unfold IsByte;simp;omega,trivial⟩
theorem VR:Try.prog.cellsOf 5=1:=by kernel_rfl
theorem rd22 (n:Nat) (xs:List AV) (h:Typed Try.prog n 22 xs): ∃d y,xs=[y]∧IsSl IsByte 1 d y∧ ∀x∈d,(fun _=>True) x:=by
 cases n with
 |zero=>exact absurd h tM
 |succ n=>
  obtain⟨d,y,h1,h2⟩:=Yy (R:=fun d y=>IsByte d y∧(fun _=>True) d) h Try.underlying22 VR (fun y h1 h2=>rdb22 n y h1 h2)
  exact⟨d,y,h1,Vw h2⟩
theorem Yx:plainAll Try.prog [5,22]=true:=by kernel_rfl
end Go.Proofs.W
end
