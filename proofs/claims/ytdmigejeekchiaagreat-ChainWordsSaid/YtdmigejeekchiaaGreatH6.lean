/-
  Part 7 of the proof, shared by claims of this seat: UZG1, UZA1, UZX3, UZX7, UZA3, UZA4, UTie, URead.
-/
import Derived.Test.YtdmigejeekchiaaGreatH5
import Derived.Test.YtdmigejeekchiaaGreatH2
import Derived.Test.YtdmigejeekchiaaGreatProg
import Derived.KernelRfl
import Derived.Test.YtdmigejeekchiaaGreatH3
set_option maxHeartbeats 64000000
set_option maxRecDepth 1000000
set_option linter.unusedVariables false
set_option linter.unusedSimpArgs false
open Nat renaming reduceMul → G2, reduceAdd → G3, reduceSub → G4, reduceEqDiff → G6, reduceBEq → G7, reduceLT → G8, reduceLeDiff → G9, min_eq_left → w0c, zero_add → w1f
open Int renaming reduceEq → H0, reduceLT → H1, reduceLE → H2, reduceAdd → H3, reduceSub → H4, reduceMul → H5, reducePow → H6, reduceToNat → H7, ofNat_lt → w02, toNat_natCast → w07, toNat_zero → w18, toNat_of_nonneg → w45
open Option renaming map_some → w06, map_none → w0d, getD_some → w32, bind_some → w36
open List renaming getD_eq_getElem?_getD → w03, getElem_mem → w04, mem_append → w0b, take_succ_cons → w10, drop_succ_cons → w14, drop_zero → w19, take_zero → w1a, mem_singleton → w1c, getElem?_eq_getElem → w1d, append_nil → w21, getElem?_map → w22, mem_cons_self → w24, cons_append → w26, ext_getElem? → w27, mem_cons_of_mem → w2c, flatMap_cons → w2d, nil_append → w2e, map_cons → w30, all_eq_true → w37, flatten_cons → w3e, mem_map → w42, length_nil → w46, mem_iff_getElem → w49, mem_append_left → w52, mem_cons → w57, length_cons → w59, mem_append_right → w5a
open Bool renaming and_eq_true → w09, false_and → w16, and_false → w17
section
namespace Go.Proofs.W
open Go.Vs
attribute [local go_sem high] zm zT
attribute [local go_sem ↓] w06 w0d
attribute [local go_sem low] Yc Yt Yf Yut Yuf yy yz yw yx
attribute [local go_sem 2000] zK
attribute [local go_sem] x6 x5 x9 x8 zR zu y7 zP zW zt yq yn ym hd kep yj w02 AV.bool.injEq AV.int.injEq not_true_eq_false not_false_eq_true true_implies false_implies and_true true_and implies_true zl zI zH zk zJ zw zc z8 zj zB zA zi zC zy zb z9 w07 zD zE zZ w18 evShift IntKind.bits zL zF zG z6 za zQ zx w0c yu yr allLen zd AV.tup.injEq List.cons.injEq AV.agg.injEq zV zU evBuild yo zN zn zM eqC0 eqC1 eqC2 zO w17 w16
theorem z5N {l:List Int} (h:fineE l=0): ∀x∈l,x=0:=by
 intro x hx
 unfold fineE at h
 cases hq:l.find? (fun e=>decide (e≠0)) with
 |none=>simpa using List.find?_eq_none.1 hq x hx
 |some e=>
  rw[hq] at h
  have:=List.find?_some hq
  simp at this h
  exact absurd h this
theorem z7Z {d:DDump} {n:Nat} {l:List Int} (h:recsE d n l=0): ∀a∈l,∀k,k<n→(wordR d.heap d.stacks (a+8*(k:Nat))).2=0:=by
 intro a ha k hk
 have h1:wordsE d n a=0:=z5N h _ (List.mem_map_of_mem ha)
 exact z5N h1 _ (w42.2 ⟨k,by simpa using hk,rfl⟩)
noncomputable def followN (d:DDump):Nat→Int→List Int×Int
 |0,a=>if a=0 then([],0) else([],40)
 |n+1,a=>if a=0 then([],0) else if(wordR d.heap d.stacks a).2≠0 then([],(wordR d.heap d.stacks a).2) else
  if(followN d n (wordR d.heap d.stacks a).1).2=0 then(a::(followN d n (wordR d.heap d.stacks a).1).1,0) else([],(followN d n (wordR d.heap d.stacks a).1).2)
noncomputable def followR (d:DDump) (a n:Int):List Int×Int:=
 if ok28 d=false then([],8) else if n<0∨410<n then([],2) else followN d n.toNat a
def preR (l:List Int) (r:List Int×Int):List Int×Int:=if r.2=0 then(l++r.1,0) else([],r.2)
theorem z6W (d:DDump): ∀n a,(followN d n a).2≠0→(followN d n a).1=[]
 |0,a,h=>by unfold followN;split<;>rfl
 |n+1,a,h=>by
  unfold followN at h⊢
  split
  ·rfl
  split
  ·rfl
  split
  ·rename_i h1 h2 h3
   rw[if_neg h1,if_neg h2,if_pos h3] at h
   exact absurd rfl h
  ·rfl
theorem z86 (d:DDump) (n:Nat) (a:Int):preR [] (followN d n a)=followN d n a:=by
 have:=z6W d n a
 generalize followN d n a=r at*
 obtain⟨x,y⟩:=r
 unfold preR
 split
 ·rename_i k;simp at k;simp[k]
 ·rename_i k;simp at k this;simp[this k]
theorem z9P {d:DDump} {n:Nat} {a:Int} (l:List Int) (h0:a≠0) (h1:(wordR d.heap d.stacks a).2=0):preR l (followN d (n+1) a)=preR (l++[a]) (followN d n (wordR d.heap d.stacks a).1):=by
 rw[followN,if_neg h0,if_neg (by simpa using h1)]
 unfold preR
 split
 ·simp
 ·rename_i h
  simp only[h,if_false]
theorem Ut (d:DDump): ∀n a,(followN d n a).1.length≤n
 |0,a=>by unfold followN;split<;>simp
 |n+1,a=>by
  have:=Ut d n (wordR d.heap d.stacks a).1
  unfold followN
  repeat' split
  all_goals simp;try omega
theorem Us {d:DDump}: ∀(l:List Int) (n:Nat),(∀i (h:i<l.length),l[i]≠0∧(wordR d.heap d.stacks l[i]).2=0∧(wordR d.heap d.stacks l[i]).1=l.getD (i+1) 0)→followN d n (l.getD 0 0)=if l.length≤n then(l,0) else([],40)
 | [],n,_=>by cases n<;>simp[followN]
 |a::r,0,h=>by
  have:=(h 0 (by simp)).1
  simp at this
  simp[followN,this]
 |a::r,n+1,h=>by
  have h0:=h 0 (by simp)
  have ih:=Us r n fun i hi=>by have:=h (i+1) (by simpa using hi);simpa only[List.getElem_cons_succ,List.getD_cons_succ] using this
  simp only[List.getElem_cons_zero,List.getD_cons_succ] at h0
  obtain⟨h1,h2,h3⟩:=h0
  rw[List.getD_cons_zero,followN,if_neg h1,if_neg (by simpa using h2),h3,ih]
  by_cases hq:r.length≤n<;>simp[hq]
theorem Xb {l:List Int} {F:Int→Int} (h: ∀i (h:i<l.length),l[i]≠0∧F l[i]=l.getD (i+1) 0): ∀(q i k:Nat) (hi:i<k) (hk:k<l.length),l.length-k≤q→l[i]≠l[k]
 |0,i,k,hi,hk,hq=>by omega
 |q+1,i,k,hi,hk,hq=>fun he=>by
  have h1:=(h i (by omega)).2
  have h2:=(h k hk).2
  rw[he] at h1
  have h3:l.getD (i+1) 0=l.getD (k+1) 0:=h1.symm.trans h2
  rw[Xl (show i+1<l.length by omega)] at h3
  by_cases hn:k+1<l.length
  ·rw[Xl hn] at h3
   exact Xb h q (i+1) (k+1) (by omega) hn (by omega) h3
  ·rw[z37 (by omega)] at h3
   exact(h (i+1) (by omega)).1 h3
structure Recs (d:DDump) (n:Nat) (l:List Int):Prop where
 wd: ∀a∈l,∀k,k<n→(wordR d.heap d.stacks (a+8*(k:Nat))).2=0
 ln: ∀i (h:i<l.length),W d l[i] 0=l.getD (i+1) 0
 at_: ∀a∈l,65536≤a∧a<81920∧a%8=0
 le:l.length≤410
theorem Recs.go {d:DDump} {n:Nat} {l:List Int} (h:Recs d n l) (hn:0<n): ∀i (h:i<l.length),l[i]≠0∧(wordR d.heap d.stacks l[i]).2=0∧(wordR d.heap d.stacks l[i]).1=l.getD (i+1) 0:=fun i hi=>by
 have h1:=h.wd l[i] (w04 hi) 0 hn
 have h2:=h.ln i hi
 have h3:=h.at_ l[i] (w04 hi)
 unfold W at h2
 simp only[Int.ofNat_zero,Int.natCast_zero,Int.mul_zero,Int.add_zero] at h1 h2
 exact⟨by omega,h1,h2⟩
theorem Q1 (l:List Int):l.headD 0=l.getD 0 0:=by cases l<;>rfl
theorem Qk {d:DDump} {j:Nat} (h:(defersR d j).2=0):(framesR d j).2=0∧(defersR d j).1=(d.defers.getD j []).map (deferD d)∧Recs d 5 (d.defers.getD j [])∧defersOk d (framesR d j).1 (d.defers.getD j [])=true:=by
 unfold defersR at h⊢
 simp only[w07] at h⊢
 by_cases h1:(framesR d j).2≠0
 ·rw[if_pos h1] at h;exact absurd h h1
 rw[if_neg h1] at h⊢
 by_cases h2:recsE d 5 (d.defers.getD j [])≠0
 ·rw[if_pos h2] at h;exact absurd h h2
 rw[if_neg h2] at h⊢
 cases h3:defersOk d (framesR d j).1 (d.defers.getD j [])
 ·rw[h3] at h;simp at h
 obtain⟨hk,h4,h5⟩:=jk (by simpa using h1)
 obtain⟨q1,q2,q3,q4,q5,q6⟩:=qx hk
 have hj:j<d.defers.length:=by omega
 have hc:=jp q4 hj
 rw[←show d.defers.getD j []=d.defers[j] by simp[w03,hj]] at hc
 refine⟨by simpa using h1,by simp,⟨z7Z (by simpa using h2),fun i hi=> ?_,hc.2,hc.1⟩,rfl⟩
 simp only[defersOk,w09,linkedB,y8,w1f,decide_eq_true_eq] at h3
 exact h3.1 i hi
theorem TO {d:DDump} {j:Nat} (h:(panicsR d j).2=0):(framesR d j).2=0∧(panicsR d j).1=(d.panics.getD j []).map (panicD d)∧Recs d 7 (d.panics.getD j [])∧panicsOk d (framesR d j).1 (d.panics.getD j [])=true:=by
 unfold panicsR at h⊢
 simp only[w07] at h⊢
 by_cases h1:(framesR d j).2≠0
 ·rw[if_pos h1] at h;exact absurd h h1
 rw[if_neg h1] at h⊢
 by_cases h2:recsE d 7 (d.panics.getD j [])≠0
 ·rw[if_pos h2] at h;exact absurd h h2
 rw[if_neg h2] at h⊢
 cases h3:panicsOk d (framesR d j).1 (d.panics.getD j [])
 ·rw[h3] at h;simp at h
 obtain⟨hk,h4,h5⟩:=jk (by simpa using h1)
 obtain⟨q1,q2,q3,q4,q5,q6⟩:=qx hk
 have hj:j<d.panics.length:=by omega
 have hc:=jp q5 hj
 rw[←show d.panics.getD j []=d.panics[j] by simp[w03,hj]] at hc
 refine⟨by simpa using h1,by simp,⟨z7Z (by simpa using h2),fun i hi=> ?_,hc.2,hc.1⟩,rfl⟩
 simp only[panicsOk,w09,linkedB,y8,w1f,decide_eq_true_eq] at h3
 exact h3.1.1 i hi
theorem z8B {d:DDump} {j:Nat} (h:ok28 d=true) (hj:j<d.routines.length):d.routines[j].defers=(d.defers.getD j []).getD 0 0∧d.routines[j].panics=(d.panics.getD j []).getD 0 0:=by
 simp only[ok28,w09,y8,w1f] at h
 have:=h.2 j hj
 simp only[rowOk,decide_eq_true_eq,headed] at this
 rw[←Q1,←Q1]
 exact⟨this.2.1,this.2.2.1⟩
attribute [go_sem] jV
theorem Yq (d:DDump) (y:AV) (hy:IsDump d y) (hs:SmD d) (a n:Int) (ha:0≤a∧a<18446744073709551616) (m:Mem) (hf:m.floor≤m.stk.length+1):Okp (IsK .u64) 1 tab 109 [y,.int .u64 a,.int .i64 n] m (followR d a n).1 (followR d a n).2:=by
 have hC:=fun m hf=>WA d y hy hs m hf
 obtain⟨v0,v1,v2,v3,v4,v5,v6,v7,rfl,h⟩:=IsDump.v hy
 have hnf:d.image.funcs.length≤40:=by have:=hs.g;simp[great09] at this;omega
 have f:=h.o
 refine okpz (tT jV) fun s c x v fl e=> ?_
 subst e
 simp at hf
 refine ow (hC _ (by simp;omega)) fun k=> ?_
 have hok:ok28 d=false∨ok28 d=true:=by cases ok28 d<;>simp
 refine ifs (fun hk=> ?_) fun hk=> ?_
 ·have hk:ok28 d=false:=by rcases hok with h|h<;>simp[h] at hk⊢
  simp[followR,hk]
 have hk:ok28 d=true:=by rcases hok with h|h<;>simp[h] at hk⊢
 refine ifs (fun h1=> ?_) fun h1=> ?_
 ·simp[followR,hk,h1]
 refine ifs (fun h2=> ?_) fun h2=> ?_
 ·simp[followR,hk,h1,h2]
 have hR:followR d a n=followN d n.toNat a:=by simp[followR,hk,h1,h2]
 rw[hR]
 clear hR
 obtain⟨N,rfl⟩: ∃N:Nat,n=N:=⟨n.toNat,by omega⟩
 simp only[w07]
 obtain⟨q1,q2,q3,q4,q5,q6⟩:=qx hk
 refine xg [2,9,10] (fun(z:List Int×Nat×Int) v e b=>v 2= .int .i64 (z.2.1:Int)∧v 10= .int .u64 z.2.2∧Own (IsK .u64) 1 (v 9) z.1 e∧b=[⟨x,[v0,v1,v2,.int .u8 d.ended.outcome,.int .i64 d.ended.failing,.int .i64 d.ended.steps,.int .u64 d.heap.base,v3,v4,v5,v6,v7]⟩]∧preR z.1 (followN d z.2.1 z.2.2)=followN d N a∧(0≤z.2.2∧z.2.2<18446744073709551616)∧z.1.length+z.2.1≤410) (fun z=>z.2.1) ([],N,a) ?_ ?_
 ·exact nd (.nil _) (nd (z86 d N a) (nd ha (by omega)))
 rintro⟨l,N',a'⟩ v e nz bs ⟨p2,p10,ho,rfl,hp,ha',hl⟩
 dsimp only at*
 rw[←hp]
 refine ifs (fun hi=> ?_) fun hi=> ?_
 ·refine ifs (fun h3=> ?_) fun h3=> ?_
  ·obtain rfl:N'=0:=by omega
   simp[preR,followN,hi]
  ·obtain⟨q,rfl⟩: ∃q,N'=q+1:=⟨N'-1,by omega⟩
   refine ow (qs d.heap d.stacks _ _ h.h h.s (by omega) a' ha' _ (by simp;omega)) fun k=> ?_
   refine ifs (fun he=> ?_) fun he=> ?_
   ·simp[preR,followN,hi,he]
   ·have he:(wordR d.heap d.stacks a').2=0:=by simpa using he
    refine oa ho (yc (show IsK .u64 a' _ from rfl)) (by simp;omega) fun y n e ho'=> ?_
    exact⟨(l++[a'],q,(wordR d.heap d.stacks a').1),by dsimp only;omega,by dsimp only;omega,rfl,ho',(z9P l (by omega) he).symm,Wu _ _ _,by simp;omega⟩
 ·obtain rfl:a'=0:=by omega
  have:followN d N' 0=([],0):=by cases N'<;>simp[followN]
  exact fp ho (by simp[preR,this])
def leastF:DFunc:=⟨[109],0,-1,[],[⟨34,-1,0,0⟩],[⟨0,0⟩],[⟨0,0⟩]⟩
def leastI:DImage:=⟨[],[],[leastF]⟩
theorem z8o:WfImage leastI:=by
 have hr: ∀x∈[(⟨0,0⟩:DRun)],WfRun x:=fun x hx=>by
  obtain rfl:=w1c.1 hx
  exact⟨by unfold in64;decide,by unfold inU64;decide⟩
 refine⟨by simp[leastI],by simp[leastI],fun x hx=> ?_⟩
 obtain rfl:x=leastF:=by simpa [leastI] using hx
 refine⟨by unfold strOk;decide,by unfold in64;decide,by unfold in64;decide,by simp[leastF],fun x hx=> ?_,hr,hr⟩
 obtain rfl:x=⟨34,-1,0,0⟩:=by simpa [leastF] using hx
 exact⟨by unfold inU8;decide,by unfold in64;decide,by unfold in64;decide,by unfold in64;decide⟩
theorem z4v:FineI leastI:=by
 have hr:FineR [⟨0,0⟩] 1:=⟨by decide,rfl,fun j hj=>by
  obtain rfl:j=0:=by simp at hj;omega
  exact⟨by decide,fun h=>absurd h (by omega)⟩⟩
 refine⟨⟨by decide,fun i hi=>absurd hi (by simp[leastI]),by simp[leastI,rounds,rnd]⟩,by decide,by decide,by decide,fun i hi=>absurd hi (by simp[leastI]),by simp[leastI],?_,by simp[leastI]⟩
 intro f hf
 obtain rfl:f=leastF:=by simpa [leastI] using hf
 refine⟨⟨by decide,by simp[leastF],by simp[leastF,NamesP],by simp[leastF],by simp[leastF],by simp[leastF],by simp[leastF,leastI]⟩,by simp[leastF],?_,by decide,by decide,hr,hr⟩
 intro x hx
 obtain rfl:x=⟨34,-1,0,0⟩:=by simpa [leastF] using hx
 exact⟨101,45,45,by decide,by unfold fitsK;decide,by unfold fitsK;decide,by unfold fitsK;decide⟩
theorem z6G:(codI leastI).length≤20000:=by
 simp[codI,leastI,typs,texB,funs,funB,leastF,said,flds,codes,cod8,cod6,cod6k,fnAt,jA,zigzag,codeOf,sk,insAt,opn,runAt,wasAt,shp]
theorem V1:err09 leastI=0:=by rw[err09,yB z4v,if_pos rfl,if_neg (by have:=z6G;omega)]
theorem z6F:nxt leastF.code 0=[]:=rfl
theorem Zd {st:Nat→List Int→Option (List Int)} {i:Nat} {l:List Int} (h:Lab (nxt leastF.code) st i l):i=0∧l=[]:=by
 induction h with
 |zero=>exact⟨rfl,rfl⟩
 |step h1 h2 hk ih=>obtain⟨rfl,_⟩:=ih;rw[z6F] at hk;cases hk
theorem z2T:wrongS leastI 0 leastF=(0,0):=by
 have h7:Ok07 leastF.code:=⟨fun j hj=>by
  obtain rfl:j=0:=by simp[leastF] at hj;omega
  decide,rfl⟩
 have hi:insE leastI leastF 0=0:=by
  unfold insE
  rw[if_neg,if_neg,if_pos]
  ·decide
  ·exact fun h=>h (.inl .zero)
  ·exact fun h=>h ⟨by decide,by decide,by decide⟩
 have hl:livE leastF 0=0:=by
  unfold livE
  rw[if_pos]
  have:rds (inA leastF.code 0)=[]:=by decide
  simp[this]
 refine X7 h7 (by decide) (fun j hj=> ?_) ⟨⟨fun i l h=> ?_,fun i l l' h h'=> ?_⟩,fun l h=>(Zd h).2⟩ fun j hj=> ?_
 ·obtain rfl:j=0:=by simp[leastF] at hj;omega
  exact hi
 ·obtain⟨rfl,rfl⟩:=Zd h
  decide
 ·rw[(Zd h).2,(Zd h').2]
 ·obtain rfl:j=0:=by simp[leastF] at hj;omega
  exact hl
theorem z6E:tabF leastI leastF=leastF:=by
 rw[z5h]
 have h1:labOf (nxt leastF.code) (stF leastI leastF) 0=[]:=by
  unfold labOf
  split
  ·rename_i h
   exact(Zd h.choose_spec).2
  ·rfl
 constructor
 ·have:labs leastI leastF=[[]]:=by
   unfold labs
   rw[show leastF.code.length=1 from rfl,show List.range 1=[0] from rfl,w30,List.map_nil,h1]
  unfold sizS
  rw[this]
  rfl
 ·have:msks leastF=[0]:=by
   unfold msks
   rw[show leastF.code.length=1 from rfl,show List.range 1=[0] from rfl,w30,List.map_nil]
   unfold mskF
   rw[if_pos (by decide)]
  unfold livS
  rw[this]
  rfl
theorem z2U:(faultS leastI).2.2=0:=by
 rw[VT V1 fun j hj=> ?_]
 obtain rfl:j=0:=by simp[leastI] at hj;omega
 have:fnA leastI.funcs 0=leastF:=rfl
 unfold wrongF
 rw[this,z2T,if_neg (fun h=>h.2 z6E)]
theorem W0 (a b:List DDefer) (x y:AV) (hx:IsSl IsDefer 6 a x) (hy:IsSl IsDefer 6 b y) (m:Mem):Okv tab 39 [x,y] m (.bool (decide (a=b))):=by
 have f:=nd hx.z (nd hy.z (nd (fun j (hj:j<a.length)=>show nth x j=dfA a[j] from hx.nth hj) fun j (hj:j<b.length)=>show nth y j=dfA b[j] from hy.nth hj))
 have:=hx.max
 have hd:=fun x y:DDefer=>(show x=y↔x.at_=y.at_∧x.next=y.next∧x.frame=y.frame∧x.func=y.func∧x.has=y.has∧x.arg=y.arg by cases x;cases y;simp)
 refine okz (tT xC) fun s c x v g _=> ?_
 repeat' first|refine ifs ?_ ?_|intro
 any_goals refine xn 5 a.length [] (fun i _ _=> ∀j,j<i→a[j]? =b[j]?) 0 ?_ fun i v e nz hi hp=> ?_
 repeat' first|refine ifs ?_ ?_|intro
 all_goals clear f;grind [ZI]
attribute [go_sem] yh
theorem XZ (a b:List DPanic) (x y:AV) (hx:IsSl IsPanic 8 a x) (hy:IsSl IsPanic 8 b y) (m:Mem):Okv tab 40 [x,y] m (.bool (decide (a=b))):=by
 have f:=nd hx.z (nd hy.z (nd (fun j (hj:j<a.length)=>show nth x j=pnA a[j] from hx.nth hj) fun j (hj:j<b.length)=>show nth y j=pnA b[j] from hy.nth hj))
 have:=hx.max
 have hd:=fun x y:DPanic=>(show x=y↔x.at_=y.at_∧x.next=y.next∧x.tag=y.tag∧x.w0=y.w0∧x.w1=y.w1∧x.flags=y.flags∧x.call=y.call∧x.from_=y.from_ by cases x;cases y;simp)
 refine okz (tT yh) fun s c x v g _=> ?_
 repeat' first|refine ifs ?_ ?_|intro
 any_goals refine xn 5 a.length [] (fun i _ _=> ∀j,j<i→a[j]? =b[j]?) 0 ?_ fun i v e nz hi hp=> ?_
 repeat' first|refine ifs ?_ ?_|intro
 all_goals clear f;grind [ZI]
theorem Wk (d:DDump) (g:Int):(defersR d g).1.length≤410:=by
 unfold defersR
 split
 ·simp
 ·rename_i h
  have h:(framesR d g).2=0:=by simpa using h
  obtain⟨hk,h2,h3⟩:=jk h
  obtain⟨q1,q2,q3,q4,q5,q6⟩:=qx hk
  have hj:g.toNat<d.defers.length:=by omega
  have:=(jp q4 hj).1
  rw[show d.defers.getD g.toNat []=d.defers[g.toNat] by simp[w03,hj]]
  split
  ·simp
  split<;>simp<;>omega
theorem W7 (d:DDump) (g:Int):(panicsR d g).1.length≤410:=by
 unfold panicsR
 split
 ·simp
 ·rename_i h
  have h:(framesR d g).2=0:=by simpa using h
  obtain⟨hk,h2,h3⟩:=jk h
  obtain⟨q1,q2,q3,q4,q5,q6⟩:=qx hk
  have hj:g.toNat<d.panics.length:=by omega
  have:=(jp q5 hj).1
  rw[show d.panics.getD g.toNat []=d.panics[g.toNat] by simp[w03,hj]]
  split
  ·simp
  split<;>simp<;>omega
attribute [go_sem] vi xI
attribute [local go_sem] evLitB w2d List.flatMap_nil AV.cells w26 w2e w59 w46
theorem z8f (s l k st n:Nat):(AV.grow s l k st n).one=true:=rfl
theorem zad (s' s l k st n:Nat) (i:AV):evIaddr s' (.grow s l k st n) i=(idx i n).map fun j=> .ptr l k st (j*s'):=rfl
theorem zbp:idx (.int .i64 11) 96=some 11:=rfl
theorem zbo:idx (.int .i64 48) 96=some 48:=rfl
theorem zbn:idx (.int .i64 56) 96=some 56:=rfl
attribute [local go_sem] z8f zad zbp zbo zbn
def heap31:List UInt8:=(((List.replicate 96 0).set 11 1).set 48 1).set 56 5
def ex31:DDump:=⟨leastI,⟨5,0,0⟩,⟨65536,heap31⟩,[⟨16777216,List.replicate 24 0⟩],[⟨1,256,16777240,65536,65576,0⟩],[[65536]],[[65576]]⟩
attribute [local go_sem] frzT frzL frzV chunk w36 Option.isSome_some
theorem Yn (m:Mem) (hf:m.floor≤m.stk.length+1):OkT tab 108 [] m fun r _ _=>IsDump ex31 r:=by
 refine oktz (tT vi) fun s c x v g e=> ?_
 refine⟨by simp,by simp,by simp,?_⟩
 subst e
 have f:g≤(s++[c]).length:=by simpa using hf
 refine st ?_
 exact ft0 fun _=>⟨_,_,_,_,_,_,_,_,rfl,.nil _,.nil _,.mk ⟨⟨_,_,_,_,rfl,.nil _,.mk ⟨rfl,trivial⟩ (by decide),.mk ⟨rfl,trivial⟩ (by decide),.mk ⟨rfl,trivial⟩ (by decide)⟩,trivial⟩ (by decide),.mk (tj heap31) (by decide),.mk ⟨⟨_,rfl,.mk (tj (List.replicate 24 0)) (by decide)⟩,trivial⟩ (by decide),.mk ⟨rfl,trivial⟩ (by decide),.mk ⟨.mk ⟨rfl,trivial⟩ (by decide),trivial⟩ (by decide),.mk ⟨.mk ⟨rfl,trivial⟩ (by decide),trivial⟩ (by decide)⟩
end Go.Proofs.W
end
section
namespace Go.Proofs.W
open Go.Vs
attribute [local go_sem high] zm zT
attribute [local go_sem ↓] w06 w0d
attribute [local go_sem low] Yc Yt Yf Yut Yuf yy yz yw yx
attribute [local go_sem 2000] zK
attribute [local go_sem] x6 x5 x9 x8 zR zu y7 zP zW zt yq yn ym hd kep yj w02 AV.bool.injEq AV.int.injEq not_true_eq_false not_false_eq_true true_implies false_implies and_true true_and implies_true zl zI zH zk zJ zw zc z8 zj zB zA zi zC zy zb z9 w07 zD zE zZ w18 evShift IntKind.bits zL zF zG z6 za zQ zx w0c yu yr allLen zd AV.tup.injEq List.cons.injEq AV.agg.injEq zV zU evBuild yo zN zn zM eqC0 eqC1 eqC2 zO w17 w16
attribute [go_sem] xI
theorem z5R:ok28 ex31=true:=by
 have h1:err09 ex31.image=0:=V1
 have h2:(faultS ex31.image).2.2=0:=z2U
 have h3:findR ex31.image 256=(0,0,0):=by
  unfold findR
  rw[if_pos h1,if_neg (by decide)]
  rfl
 have h4:partsOk ex31=true:=by decide
 have h5:lensOk ex31=true:=by decide
 simp only[ok28,h1,h2,h4,h5,Bool.true_and,and_self,decide_true]
 rw[y8]
 intro j hj
 obtain rfl:j=0:=by simp[ex31] at hj;omega
 have h3:findR leastI 256=(0,0,0):=h3
 simp[rowOk,ex31,headed,h3]
theorem z0M:sizeR ex31.image 256=(24,0):=by
 have h3:findR ex31.image 256=(0,0,0):=by
  unfold findR
  rw[if_pos (show err09 ex31.image=0 from V1),if_neg (by decide)]
  rfl
 have:sizeN ex31.image 0 0=24:=by decide
 simp[sizeR,h3,this]
theorem VU (a:Int) (h:a=16777216∨a=16777224∨a=16777232):wordD ex31 a=0:=by
 rcases h with rfl|rfl|rfl<;>decide
def fr31:DFrame:=⟨16777216,0,0,256,24,0,0,0⟩
theorem Uy:framesR ex31 0=([fr31],0):=by
 have h3:findR ex31.image 256=(0,0,0):=by
  unfold findR
  rw[if_pos (show err09 ex31.image=0 from V1),if_neg (by decide)]
  rfl
 have hf:frameD ex31 256 16777240=fr31:=by
  unfold frameD
  rw[z0M,h3]
  simp only[show(16777240:Int)-24=16777216 by decide,show(16777216:Int)+8=16777224 by decide,show(16777216:Int)+16=16777232 by decide,VU _ (.inl rfl),VU _ (.inr (.inl rfl)),VU _ (.inr (.inr rfl))]
  rfl
 have hs:stepR ex31 16777216 256 16777240 none=some fr31:=by
  unfold stepR
  rw[if_pos (show frameOk ex31 16777216 256 16777240=true by unfold frameOk;rw[hf,z0M];decide),hf]
 unfold framesR
 rw[if_neg (by rw[z5R];decide),if_neg (by decide),if_neg (by decide)]
 have hw:walkN ex31 16777216 200 256 16777240 none=some [fr31]:=by
  unfold walkN
  rw[hs]
  rfl
 show(match walkN ex31 16777216 200 256 16777240 none with|none=>(([]:List DFrame),(12:Int))|some l=>(l,0))=_
 rw[hw]
theorem z1Y:WfDump ex31:=by
 refine⟨z8o,⟨by unfold inU8;decide,by unfold in64;decide,by unfold in64;decide⟩,⟨by unfold inU64;decide,by decide⟩,fun x hx=> ?_,fun x hx=> ?_,by simp[ex31,inU64],by simp[ex31,inU64]⟩
 ·obtain rfl:=w1c.1 hx
  exact⟨by unfold inU64;decide,by decide⟩
 ·obtain rfl:=w1c.1 hx
  exact⟨by unfold inU8;decide,by unfold inU64;decide,by unfold inU64;decide,by unfold inU64;decide,by unfold inU64;decide,by unfold in64;decide⟩
theorem Wi:large28 ex31=false:=by decide
theorem UA:defersR ex31 0=([⟨65536,0,16777216,0,false,0⟩],0):=by
 unfold defersR
 rw[Uy,if_neg (by decide),if_neg (by decide),if_pos (by decide)]
 exact congrArg (fun x=>([x],(0:Int))) (show deferD ex31 65536=_ by decide)
theorem Ux:panicsR ex31 0=([⟨65576,0,1,5,0,0,0,0⟩],0):=by
 unfold panicsR
 rw[Uy,if_neg (by decide),if_neg (by decide),if_pos (by decide)]
 exact congrArg (fun x=>([x],(0:Int))) (show panicD ex31 65576=_ by decide)
theorem Uz:followR ex31 0 0=([],0):=by
 unfold followR
 rw[z5R,if_neg (by decide),if_neg (by decide)]
 rfl
theorem Vv (m:Mem) (hf:m.floor≤m.stk.length+1):Okv tab 41 [] m (.bool true):=by
 refine okz (tT xI) fun s c x v fl e=> ?_
 subst e
 simp at hf
 refine ot (Yn _ (by simp;omega)) fun r t k hr=> ?_
 refine op (qa ex31 r hr (SmD.of z1Y Wi) 0 _ (by simp;omega)) fun y1 t1 k1 o1=> ?_
 simp only[UA] at o1⊢
 have f:=o1.co
 refine ot (Yn _ (by simp;omega)) fun r t k hr=> ?_
 refine op (tZ ex31 r hr (SmD.of z1Y Wi) 0 _ (by simp;omega)) fun y2 t2 k2 o2=> ?_
 simp only[Ux] at o2⊢
 have f:=nd f o2.co
 refine ot (Yn _ (by simp;omega)) fun r t k hr=> ?_
 refine op (Yq ex31 r hr (SmD.of z1Y Wi) 0 0 (by omega) _ (by simp;omega)) fun y3 t3 k3 o3=> ?_
 simp only[Uz] at o3⊢
 have f:=nd (show(defersR ex31 0).2=0 from congrArg Prod.snd UA)<|nd (show(panicsR ex31 0).2=0 from congrArg Prod.snd Ux)<|nd (show(followR ex31 0 0).2=0 from congrArg Prod.snd Uz)<|nd f (nd o3.co (nd (o3.sl (by simp)).z (nd (fun m=>(W0 _ [⟨65536,0,16777216,0,false,0⟩] _ (.list 6 .full [dfA ⟨65536,0,16777216,0,false,0⟩]) (o1.sl (by simp)) (.mk ⟨rfl,trivial⟩ (by decide)) m).eq) fun m=>(XZ _ [⟨65576,0,1,5,0,0,0,0⟩] _ (.list 8 .full [pnA ⟨65576,0,1,5,0,0,0,0⟩]) (o2.sl (by simp)) (.mk ⟨rfl,trivial⟩ (by decide)) m).eq)))
 refine st ?_
 simp
end Go.Proofs.W
end
section
namespace Go.Proofs.W
open Go.Vs Go.Vs.Cd
def mk (f:Nat):List (List Nat):=if f=73 then [[777777,1500016,1500021,1500022]] else if f=108 then [[888888,40,3],[777777,1500018,1250016]] else if f=118 then [[888888,43,4],[777777,1500034,1500035,1250029,31]] else if f=301 then [[777777,31]] else if f=336 then [[777777,10]] else if f=375 then [[777777,28]] else []
theorem tie0:Ties Tryz.prog mk 3 C0:=by
 repeat' first|exact trivial|refine⟨by kernel_rfl,?_⟩
theorem tie1:Ties Tryz.prog mk 63 C1:=by
 repeat' first|exact trivial|refine⟨by kernel_rfl,?_⟩
theorem tie2:Ties Tryz.prog mk 123 C2:=by
 repeat' first|exact trivial|refine⟨by kernel_rfl,?_⟩
theorem tie3:Ties Tryz.prog mk 183 C3:=by
 repeat' first|exact trivial|refine⟨by kernel_rfl,?_⟩
theorem tie4:Ties Tryz.prog mk 243 C4:=by
 repeat' first|exact trivial|refine⟨by kernel_rfl,?_⟩
theorem tie5:Ties Tryz.prog mk 303 C5:=by
 repeat' first|exact trivial|refine⟨by kernel_rfl,?_⟩
theorem tie6:Ties Tryz.prog mk 363 C6:=by
 repeat' first|exact trivial|refine⟨by kernel_rfl,?_⟩
theorem tabOk:TabOk Tryz.prog tab:=z9F (((((((tie0).app rfl tie1).app rfl tie2).app rfl tie3).app rfl tie4).app rfl tie5).app rfl tie6)
end Go.Proofs.W
end
section
namespace Go.Proofs.W
open Go.Vs
theorem rd5 (n:Nat) (xs:List AV) (h:Typed Tryz.prog n 5 xs): ∃d y,xs=[y]∧IsK .u8 d y∧inU8 d:=by
 cases n with
 |zero=>exact absurd h zY
 |succ n=>obtain⟨i,rfl,hw⟩:=Z7 h Tryz.underlying5;exact⟨i,_,rfl,rfl,zac hw⟩
theorem rd3 (n:Nat) (xs:List AV) (h:Typed Tryz.prog n 3 xs): ∃d y,xs=[y]∧IsK .i64 d y∧in64 d:=by
 cases n with
 |zero=>exact absurd h zY
 |succ n=>obtain⟨i,rfl,hw⟩:=Z7 h Tryz.underlying3;exact⟨i,_,rfl,rfl,z5J hw⟩
theorem rd9 (n:Nat) (xs:List AV) (h:Typed Tryz.prog n 9 xs): ∃d y,xs=[y]∧IsStr d y∧strOk d:=by
 cases n with
 |zero=>exact absurd h zY
 |succ n=>obtain⟨i,rfl,hw⟩:=z6d h Tryz.underlying9;exact⟨i,_,rfl,rfl,hw⟩
theorem cells214:Tryz.prog.cellsOf 214=2:=by kernel_rfl
theorem rd214 (n:Nat) (xs:List AV) (h:Typed Tryz.prog n 214 xs): ∃d,IsField d (.agg xs)∧WfField d:=by
 cases n with
 |zero=>exact absurd h zY
 |succ n=>
  have hl:=vQ h (by kernel_rfl) cells214
  match xs,hl with
  | [c0,c1],_=>
   have k0:=rd9 n _ (zo h (i:=0) (ft:=9) (off:=0) (c:=1) (by kernel_rfl) (by kernel_rfl))
   simp only[w14,w19,w10,w1a] at k0
   obtain⟨d0,y0,e0,p0,w0⟩:=k0
   injection e0 with e0 _
   subst e0
   cases p0
   have k1:=rd3 n _ (zo h (i:=1) (ft:=3) (off:=1) (c:=1) (by kernel_rfl) (by kernel_rfl))
   simp only[w14,w19,w10,w1a] at k1
   obtain⟨d1,y1,e1,p1,w1⟩:=k1
   injection e1 with e1 _
   subst e1
   cases p1
   exact⟨⟨d0,d1⟩,rfl,⟨w0,w1⟩⟩
theorem z3r:Tryz.prog.cellsOf 214=2:=by kernel_rfl
theorem rd64 (n:Nat) (xs:List AV) (h:Typed Tryz.prog n 64 xs): ∃d y,xs=[y]∧IsSl IsField 2 d y∧ ∀x∈d,WfField x:=by
 cases n with
 |zero=>exact absurd h zY
 |succ n=>
  obtain⟨d,y,h1,h2⟩:=xb (R:=fun d y=>IsField d y∧WfField d) h Tryz.underlying64 z3r (fun y h1 h2=>by
   obtain⟨cs,rfl⟩:=qM h1 (by kernel_rfl)
   exact rd214 n cs h2)
  exact⟨d,y,h1,vc h2⟩
theorem cells271:Tryz.prog.cellsOf 271=4:=by kernel_rfl
theorem rd271 (n:Nat) (xs:List AV) (h:Typed Tryz.prog n 271 xs): ∃d,IsTyp d (.agg xs)∧WfTyp d:=by
 cases n with
 |zero=>exact absurd h zY
 |succ n=>
  have hl:=vQ h (by kernel_rfl) cells271
  match xs,hl with
  | [c0,c1,c2,c3],_=>
   have k0:=rd5 n _ (zo h (i:=0) (ft:=5) (off:=0) (c:=1) (by kernel_rfl) (by kernel_rfl))
   simp only[w14,w19,w10,w1a] at k0
   obtain⟨d0,y0,e0,p0,w0⟩:=k0
   injection e0 with e0 _
   subst e0
   cases p0
   have k1:=rd3 n _ (zo h (i:=1) (ft:=3) (off:=1) (c:=1) (by kernel_rfl) (by kernel_rfl))
   simp only[w14,w19,w10,w1a] at k1
   obtain⟨d1,y1,e1,p1,w1⟩:=k1
   injection e1 with e1 _
   subst e1
   cases p1
   have k2:=rd3 n _ (zo h (i:=2) (ft:=3) (off:=2) (c:=1) (by kernel_rfl) (by kernel_rfl))
   simp only[w14,w19,w10,w1a] at k2
   obtain⟨d2,y2,e2,p2,w2⟩:=k2
   injection e2 with e2 _
   subst e2
   cases p2
   have k3:=rd64 n _ (zo h (i:=3) (ft:=64) (off:=3) (c:=1) (by kernel_rfl) (by kernel_rfl))
   simp only[w14,w19,w10,w1a] at k3
   obtain⟨d3,y3,e3,p3,w3⟩:=k3
   injection e3 with e3 _
   subst e3
   exact⟨⟨d0,d1,d2,d3⟩,⟨_,rfl,p3⟩,⟨w0,w1,w2,w3⟩⟩
theorem z3s:Tryz.prog.cellsOf 271=4:=by kernel_rfl
theorem rd22 (n:Nat) (xs:List AV) (h:Typed Tryz.prog n 22 xs): ∃d y,xs=[y]∧IsSl IsTyp 4 d y∧ ∀x∈d,WfTyp x:=by
 cases n with
 |zero=>exact absurd h zY
 |succ n=>
  obtain⟨d,y,h1,h2⟩:=xb (R:=fun d y=>IsTyp d y∧WfTyp d) h Tryz.underlying22 z3s (fun y h1 h2=>by
   obtain⟨cs,rfl⟩:=qM h1 (by kernel_rfl)
   exact rd271 n cs h2)
  exact⟨d,y,h1,vc h2⟩
theorem z7a:Tryz.prog.cellsOf 9=1:=by kernel_rfl
theorem rd23 (n:Nat) (xs:List AV) (h:Typed Tryz.prog n 23 xs): ∃d y,xs=[y]∧IsSl IsStr 1 d y∧ ∀x∈d,strOk x:=by
 cases n with
 |zero=>exact absurd h zY
 |succ n=>
  obtain⟨d,y,h1,h2⟩:=xb (R:=fun d y=>IsStr d y∧strOk d) h Tryz.underlying23 z7a (fun y h1 h2=>by
   have hc:=qL h1 (by kernel_rfl)
   rw[hc] at h2
   obtain⟨d,z,e,hd⟩:=rd9 n _ h2
   injection e with e _
   subst e
   exact⟨d,hd⟩)
  exact⟨d,y,h1,vc h2⟩
theorem cells63:Tryz.prog.cellsOf 63=4:=by kernel_rfl
theorem rd63 (n:Nat) (xs:List AV) (h:Typed Tryz.prog n 63 xs): ∃d,IsInstr d (.agg xs)∧WfInstr d:=by
 cases n with
 |zero=>exact absurd h zY
 |succ n=>
  have hl:=vQ h (by kernel_rfl) cells63
  match xs,hl with
  | [c0,c1,c2,c3],_=>
   have k0:=rd5 n _ (zo h (i:=0) (ft:=5) (off:=0) (c:=1) (by kernel_rfl) (by kernel_rfl))
   simp only[w14,w19,w10,w1a] at k0
   obtain⟨d0,y0,e0,p0,w0⟩:=k0
   injection e0 with e0 _
   subst e0
   cases p0
   have k1:=rd3 n _ (zo h (i:=1) (ft:=3) (off:=1) (c:=1) (by kernel_rfl) (by kernel_rfl))
   simp only[w14,w19,w10,w1a] at k1
   obtain⟨d1,y1,e1,p1,w1⟩:=k1
   injection e1 with e1 _
   subst e1
   cases p1
   have k2:=rd3 n _ (zo h (i:=2) (ft:=3) (off:=2) (c:=1) (by kernel_rfl) (by kernel_rfl))
   simp only[w14,w19,w10,w1a] at k2
   obtain⟨d2,y2,e2,p2,w2⟩:=k2
   injection e2 with e2 _
   subst e2
   cases p2
   have k3:=rd3 n _ (zo h (i:=3) (ft:=3) (off:=3) (c:=1) (by kernel_rfl) (by kernel_rfl))
   simp only[w14,w19,w10,w1a] at k3
   obtain⟨d3,y3,e3,p3,w3⟩:=k3
   injection e3 with e3 _
   subst e3
   cases p3
   exact⟨⟨d0,d1,d2,d3⟩,rfl,⟨w0,w1,w2,w3⟩⟩
theorem z4Y:Tryz.prog.cellsOf 63=4:=by kernel_rfl
theorem rd65 (n:Nat) (xs:List AV) (h:Typed Tryz.prog n 65 xs): ∃d y,xs=[y]∧IsSl IsInstr 4 d y∧ ∀x∈d,WfInstr x:=by
 cases n with
 |zero=>exact absurd h zY
 |succ n=>
  obtain⟨d,y,h1,h2⟩:=xb (R:=fun d y=>IsInstr d y∧WfInstr d) h Tryz.underlying65 z4Y (fun y h1 h2=>by
   obtain⟨cs,rfl⟩:=qM h1 (by kernel_rfl)
   exact rd63 n cs h2)
  exact⟨d,y,h1,vc h2⟩
theorem rd29 (n:Nat) (xs:List AV) (h:Typed Tryz.prog n 29 xs): ∃d y,xs=[y]∧IsK .u64 d y∧inU64 d:=by
 cases n with
 |zero=>exact absurd h zY
 |succ n=>obtain⟨i,rfl,hw⟩:=Z7 h Tryz.underlying29;exact⟨i,_,rfl,rfl,z8A hw⟩
theorem cells227:Tryz.prog.cellsOf 227=2:=by kernel_rfl
theorem rd227 (n:Nat) (xs:List AV) (h:Typed Tryz.prog n 227 xs): ∃d,IsRun d (.agg xs)∧WfRun d:=by
 cases n with
 |zero=>exact absurd h zY
 |succ n=>
  have hl:=vQ h (by kernel_rfl) cells227
  match xs,hl with
  | [c0,c1],_=>
   have k0:=rd3 n _ (zo h (i:=0) (ft:=3) (off:=0) (c:=1) (by kernel_rfl) (by kernel_rfl))
   simp only[w14,w19,w10,w1a] at k0
   obtain⟨d0,y0,e0,p0,w0⟩:=k0
   injection e0 with e0 _
   subst e0
   cases p0
   have k1:=rd29 n _ (zo h (i:=1) (ft:=29) (off:=1) (c:=1) (by kernel_rfl) (by kernel_rfl))
   simp only[w14,w19,w10,w1a] at k1
   obtain⟨d1,y1,e1,p1,w1⟩:=k1
   injection e1 with e1 _
   subst e1
   cases p1
   exact⟨⟨d0,d1⟩,rfl,⟨w0,w1⟩⟩
theorem z3q:Tryz.prog.cellsOf 227=2:=by kernel_rfl
theorem rd66 (n:Nat) (xs:List AV) (h:Typed Tryz.prog n 66 xs): ∃d y,xs=[y]∧IsSl IsRun 2 d y∧ ∀x∈d,WfRun x:=by
 cases n with
 |zero=>exact absurd h zY
 |succ n=>
  obtain⟨d,y,h1,h2⟩:=xb (R:=fun d y=>IsRun d y∧WfRun d) h Tryz.underlying66 z3q (fun y h1 h2=>by
   obtain⟨cs,rfl⟩:=qM h1 (by kernel_rfl)
   exact rd227 n cs h2)
  exact⟨d,y,h1,vc h2⟩
theorem cells68:Tryz.prog.cellsOf 68=7:=by kernel_rfl
theorem rd68 (n:Nat) (xs:List AV) (h:Typed Tryz.prog n 68 xs): ∃d,IsFunc d (.agg xs)∧WfFunc d:=by
 cases n with
 |zero=>exact absurd h zY
 |succ n=>
  have hl:=vQ h (by kernel_rfl) cells68
  match xs,hl with
  | [c0,c1,c2,c3,c4,c5,c6],_=>
   have k0:=rd9 n _ (zo h (i:=0) (ft:=9) (off:=0) (c:=1) (by kernel_rfl) (by kernel_rfl))
   simp only[w14,w19,w10,w1a] at k0
   obtain⟨d0,y0,e0,p0,w0⟩:=k0
   injection e0 with e0 _
   subst e0
   cases p0
   have k1:=rd3 n _ (zo h (i:=1) (ft:=3) (off:=1) (c:=1) (by kernel_rfl) (by kernel_rfl))
   simp only[w14,w19,w10,w1a] at k1
   obtain⟨d1,y1,e1,p1,w1⟩:=k1
   injection e1 with e1 _
   subst e1
   cases p1
   have k2:=rd3 n _ (zo h (i:=2) (ft:=3) (off:=2) (c:=1) (by kernel_rfl) (by kernel_rfl))
   simp only[w14,w19,w10,w1a] at k2
   obtain⟨d2,y2,e2,p2,w2⟩:=k2
   injection e2 with e2 _
   subst e2
   cases p2
   have k3:=rd64 n _ (zo h (i:=3) (ft:=64) (off:=3) (c:=1) (by kernel_rfl) (by kernel_rfl))
   simp only[w14,w19,w10,w1a] at k3
   obtain⟨d3,y3,e3,p3,w3⟩:=k3
   injection e3 with e3 _
   subst e3
   have k4:=rd65 n _ (zo h (i:=4) (ft:=65) (off:=4) (c:=1) (by kernel_rfl) (by kernel_rfl))
   simp only[w14,w19,w10,w1a] at k4
   obtain⟨d4,y4,e4,p4,w4⟩:=k4
   injection e4 with e4 _
   subst e4
   have k5:=rd66 n _ (zo h (i:=5) (ft:=66) (off:=5) (c:=1) (by kernel_rfl) (by kernel_rfl))
   simp only[w14,w19,w10,w1a] at k5
   obtain⟨d5,y5,e5,p5,w5⟩:=k5
   injection e5 with e5 _
   subst e5
   have k6:=rd66 n _ (zo h (i:=6) (ft:=66) (off:=6) (c:=1) (by kernel_rfl) (by kernel_rfl))
   simp only[w14,w19,w10,w1a] at k6
   obtain⟨d6,y6,e6,p6,w6⟩:=k6
   injection e6 with e6 _
   subst e6
   exact⟨⟨d0,d1,d2,d3,d4,d5,d6⟩,⟨_,_,_,_,rfl,p3,p4,p5,p6⟩,⟨w0,w1,w2,w3,w4,w5,w6⟩⟩
theorem z52:Tryz.prog.cellsOf 68=7:=by kernel_rfl
theorem rd24 (n:Nat) (xs:List AV) (h:Typed Tryz.prog n 24 xs): ∃d y,xs=[y]∧IsSl IsFunc 7 d y∧ ∀x∈d,WfFunc x:=by
 cases n with
 |zero=>exact absurd h zY
 |succ n=>
  obtain⟨d,y,h1,h2⟩:=xb (R:=fun d y=>IsFunc d y∧WfFunc d) h Tryz.underlying24 z52 (fun y h1 h2=>by
   obtain⟨cs,rfl⟩:=qM h1 (by kernel_rfl)
   exact rd68 n cs h2)
  exact⟨d,y,h1,vc h2⟩
theorem cells26:Tryz.prog.cellsOf 26=3:=by kernel_rfl
theorem rd26 (n:Nat) (xs:List AV) (h:Typed Tryz.prog n 26 xs): ∃d,IsImage d (.agg xs)∧WfImage d:=by
 cases n with
 |zero=>exact absurd h zY
 |succ n=>
  have hl:=vQ h (by kernel_rfl) cells26
  match xs,hl with
  | [c0,c1,c2],_=>
   have k0:=rd22 n _ (zo h (i:=0) (ft:=22) (off:=0) (c:=1) (by kernel_rfl) (by kernel_rfl))
   simp only[w14,w19,w10,w1a] at k0
   obtain⟨d0,y0,e0,p0,w0⟩:=k0
   injection e0 with e0 _
   subst e0
   have k1:=rd23 n _ (zo h (i:=1) (ft:=23) (off:=1) (c:=1) (by kernel_rfl) (by kernel_rfl))
   simp only[w14,w19,w10,w1a] at k1
   obtain⟨d1,y1,e1,p1,w1⟩:=k1
   injection e1 with e1 _
   subst e1
   have k2:=rd24 n _ (zo h (i:=2) (ft:=24) (off:=2) (c:=1) (by kernel_rfl) (by kernel_rfl))
   simp only[w14,w19,w10,w1a] at k2
   obtain⟨d2,y2,e2,p2,w2⟩:=k2
   injection e2 with e2 _
   subst e2
   exact⟨⟨d0,d1,d2⟩,⟨_,_,_,rfl,p0,p1,p2⟩,⟨w0,w1,w2⟩⟩
theorem cells28:Tryz.prog.cellsOf 28=3:=by kernel_rfl
theorem rd28 (n:Nat) (xs:List AV) (h:Typed Tryz.prog n 28 xs): ∃d,IsEnded d (.agg xs)∧WfEnded d:=by
 cases n with
 |zero=>exact absurd h zY
 |succ n=>
  have hl:=vQ h (by kernel_rfl) cells28
  match xs,hl with
  | [c0,c1,c2],_=>
   have k0:=rd5 n _ (zo h (i:=0) (ft:=5) (off:=0) (c:=1) (by kernel_rfl) (by kernel_rfl))
   simp only[w14,w19,w10,w1a] at k0
   obtain⟨d0,y0,e0,p0,w0⟩:=k0
   injection e0 with e0 _
   subst e0
   cases p0
   have k1:=rd3 n _ (zo h (i:=1) (ft:=3) (off:=1) (c:=1) (by kernel_rfl) (by kernel_rfl))
   simp only[w14,w19,w10,w1a] at k1
   obtain⟨d1,y1,e1,p1,w1⟩:=k1
   injection e1 with e1 _
   subst e1
   cases p1
   have k2:=rd3 n _ (zo h (i:=2) (ft:=3) (off:=2) (c:=1) (by kernel_rfl) (by kernel_rfl))
   simp only[w14,w19,w10,w1a] at k2
   obtain⟨d2,y2,e2,p2,w2⟩:=k2
   injection e2 with e2 _
   subst e2
   cases p2
   exact⟨⟨d0,d1,d2⟩,rfl,⟨w0,w1,w2⟩⟩
theorem rdb30 (n:Nat) (y:AV) (h1:IsElem Tryz.prog 5 y) (h:Typed Tryz.prog n 5 y.cells): ∃d,IsByte d y∧True:=by
 have hc:=qL h1 (by kernel_rfl)
 cases n with
 |zero=>exact absurd h zY
 |succ n=>
  obtain⟨i,hi,hw⟩:=Z7 h Tryz.underlying5
  rw[hc] at hi
  injection hi with hi _
  subst hi
  obtain⟨h0,h1⟩:0≤i∧i<256:=by simp[Lit.wf,IntKind.min,IntKind.max,IntKind.signed,IntKind.bits] at hw;omega
  exact⟨UInt8.ofNat i.toNat,by unfold IsByte;simp;omega,trivial⟩
theorem z79:Tryz.prog.cellsOf 5=1:=by kernel_rfl
theorem rd30 (n:Nat) (xs:List AV) (h:Typed Tryz.prog n 30 xs): ∃d y,xs=[y]∧IsSl IsByte 1 d y∧ ∀x∈d,(fun _=>True) x:=by
 cases n with
 |zero=>exact absurd h zY
 |succ n=>
  obtain⟨d,y,h1,h2⟩:=xb (R:=fun d y=>IsByte d y∧(fun _=>True) d) h Tryz.underlying30 z79 (fun y h1 h2=>rdb30 n y h1 h2)
  exact⟨d,y,h1,vc h2⟩
theorem cells32:Tryz.prog.cellsOf 32=2:=by kernel_rfl
theorem rd32 (n:Nat) (xs:List AV) (h:Typed Tryz.prog n 32 xs): ∃d,IsRegion d (.agg xs)∧WfRegion d:=by
 cases n with
 |zero=>exact absurd h zY
 |succ n=>
  have hl:=vQ h (by kernel_rfl) cells32
  match xs,hl with
  | [c0,c1],_=>
   have k0:=rd29 n _ (zo h (i:=0) (ft:=29) (off:=0) (c:=1) (by kernel_rfl) (by kernel_rfl))
   simp only[w14,w19,w10,w1a] at k0
   obtain⟨d0,y0,e0,p0,w0⟩:=k0
   injection e0 with e0 _
   subst e0
   cases p0
   have k1:=rd30 n _ (zo h (i:=1) (ft:=30) (off:=1) (c:=1) (by kernel_rfl) (by kernel_rfl))
   simp only[w14,w19,w10,w1a] at k1
   obtain⟨d1,y1,e1,p1,w1⟩:=k1
   injection e1 with e1 _
   subst e1
   exact⟨⟨d0,d1⟩,⟨_,rfl,p1⟩,⟨w0,w1⟩⟩
theorem z51:Tryz.prog.cellsOf 32=2:=by kernel_rfl
theorem rd33 (n:Nat) (xs:List AV) (h:Typed Tryz.prog n 33 xs): ∃d y,xs=[y]∧IsSl IsRegion 2 d y∧ ∀x∈d,WfRegion x:=by
 cases n with
 |zero=>exact absurd h zY
 |succ n=>
  obtain⟨d,y,h1,h2⟩:=xb (R:=fun d y=>IsRegion d y∧WfRegion d) h Tryz.underlying33 z51 (fun y h1 h2=>by
   obtain⟨cs,rfl⟩:=qM h1 (by kernel_rfl)
   exact rd32 n cs h2)
  exact⟨d,y,h1,vc h2⟩
theorem rd2 (n:Nat) (xs:List AV) (h:Typed Tryz.prog n 2 xs): ∃d y,xs=[y]∧IsK .i64 d y∧in64 d:=by
 cases n with
 |zero=>exact absurd h zY
 |succ n=>obtain⟨i,rfl,hw⟩:=Z7 h Tryz.underlying2;exact⟨i,_,rfl,rfl,z5J hw⟩
theorem cells52:Tryz.prog.cellsOf 52=6:=by kernel_rfl
theorem rd52 (n:Nat) (xs:List AV) (h:Typed Tryz.prog n 52 xs): ∃d,IsRoutine d (.agg xs)∧WfRoutine d:=by
 cases n with
 |zero=>exact absurd h zY
 |succ n=>
  have hl:=vQ h (by kernel_rfl) cells52
  match xs,hl with
  | [c0,c1,c2,c3,c4,c5],_=>
   have k0:=rd5 n _ (zo h (i:=0) (ft:=5) (off:=0) (c:=1) (by kernel_rfl) (by kernel_rfl))
   simp only[w14,w19,w10,w1a] at k0
   obtain⟨d0,y0,e0,p0,w0⟩:=k0
   injection e0 with e0 _
   subst e0
   cases p0
   have k1:=rd29 n _ (zo h (i:=1) (ft:=29) (off:=1) (c:=1) (by kernel_rfl) (by kernel_rfl))
   simp only[w14,w19,w10,w1a] at k1
   obtain⟨d1,y1,e1,p1,w1⟩:=k1
   injection e1 with e1 _
   subst e1
   cases p1
   have k2:=rd29 n _ (zo h (i:=2) (ft:=29) (off:=2) (c:=1) (by kernel_rfl) (by kernel_rfl))
   simp only[w14,w19,w10,w1a] at k2
   obtain⟨d2,y2,e2,p2,w2⟩:=k2
   injection e2 with e2 _
   subst e2
   cases p2
   have k3:=rd29 n _ (zo h (i:=3) (ft:=29) (off:=3) (c:=1) (by kernel_rfl) (by kernel_rfl))
   simp only[w14,w19,w10,w1a] at k3
   obtain⟨d3,y3,e3,p3,w3⟩:=k3
   injection e3 with e3 _
   subst e3
   cases p3
   have k4:=rd29 n _ (zo h (i:=4) (ft:=29) (off:=4) (c:=1) (by kernel_rfl) (by kernel_rfl))
   simp only[w14,w19,w10,w1a] at k4
   obtain⟨d4,y4,e4,p4,w4⟩:=k4
   injection e4 with e4 _
   subst e4
   cases p4
   have k5:=rd2 n _ (zo h (i:=5) (ft:=2) (off:=5) (c:=1) (by kernel_rfl) (by kernel_rfl))
   simp only[w14,w19,w10,w1a] at k5
   obtain⟨d5,y5,e5,p5,w5⟩:=k5
   injection e5 with e5 _
   subst e5
   cases p5
   exact⟨⟨d0,d1,d2,d3,d4,d5⟩,rfl,⟨w0,w1,w2,w3,w4,w5⟩⟩
theorem z50:Tryz.prog.cellsOf 52=6:=by kernel_rfl
theorem rd34 (n:Nat) (xs:List AV) (h:Typed Tryz.prog n 34 xs): ∃d y,xs=[y]∧IsSl IsRoutine 6 d y∧ ∀x∈d,WfRoutine x:=by
 cases n with
 |zero=>exact absurd h zY
 |succ n=>
  obtain⟨d,y,h1,h2⟩:=xb (R:=fun d y=>IsRoutine d y∧WfRoutine d) h Tryz.underlying34 z50 (fun y h1 h2=>by
   obtain⟨cs,rfl⟩:=qM h1 (by kernel_rfl)
   exact rd52 n cs h2)
  exact⟨d,y,h1,vc h2⟩
theorem z4X:Tryz.prog.cellsOf 29=1:=by kernel_rfl
theorem rd99 (n:Nat) (xs:List AV) (h:Typed Tryz.prog n 99 xs): ∃d y,xs=[y]∧IsSl (IsK .u64) 1 d y∧ ∀x∈d,inU64 x:=by
 cases n with
 |zero=>exact absurd h zY
 |succ n=>
  obtain⟨d,y,h1,h2⟩:=xb (R:=fun d y=>(IsK .u64) d y∧inU64 d) h Tryz.underlying99 z4X (fun y h1 h2=>by
   have hc:=qL h1 (by kernel_rfl)
   rw[hc] at h2
   obtain⟨d,z,e,hd⟩:=rd29 n _ h2
   injection e with e _
   subst e
   exact⟨d,hd⟩)
  exact⟨d,y,h1,vc h2⟩
theorem z4Z:Tryz.prog.cellsOf 99=1:=by kernel_rfl
theorem rd35 (n:Nat) (xs:List AV) (h:Typed Tryz.prog n 35 xs): ∃d y,xs=[y]∧IsSl (IsSl (IsK .u64) 1) 1 d y∧ ∀x∈d,(fun l=> ∀x∈l,inU64 x) x:=by
 cases n with
 |zero=>exact absurd h zY
 |succ n=>
  obtain⟨d,y,h1,h2⟩:=xb (R:=fun d y=>(IsSl (IsK .u64) 1) d y∧(fun l=> ∀x∈l,inU64 x) d) h Tryz.underlying35 z4Z (fun y h1 h2=>by
   have hc:=qL h1 (by kernel_rfl)
   rw[hc] at h2
   obtain⟨d,z,e,hd⟩:=rd99 n _ h2
   injection e with e _
   subst e
   exact⟨d,hd⟩)
  exact⟨d,y,h1,vc h2⟩
theorem cells37:Tryz.prog.cellsOf 37=12:=by kernel_rfl
theorem rd37 (n:Nat) (xs:List AV) (h:Typed Tryz.prog n 37 xs): ∃d,IsDump d (.agg xs)∧WfDump d:=by
 cases n with
 |zero=>exact absurd h zY
 |succ n=>
  have hl:=vQ h (by kernel_rfl) cells37
  match xs,hl with
  | [c0,c1,c2,c3,c4,c5,c6,c7,c8,c9,c10,c11],_=>
   have k0:=rd26 n _ (zo h (i:=0) (ft:=26) (off:=0) (c:=3) (by kernel_rfl) (by kernel_rfl))
   simp only[w14,w19,w10,w1a] at k0
   obtain⟨d0,hh0,w0⟩:=k0
   obtain⟨u0_0,u0_1,u0_2,e0,p0_0,p0_1,p0_2⟩:=hh0
   simp only[IsImage,AV.agg.injEq,List.cons.injEq,and_true] at e0
   obtain⟨rfl,rfl,rfl⟩:=e0
   have k1:=rd28 n _ (zo h (i:=1) (ft:=28) (off:=3) (c:=3) (by kernel_rfl) (by kernel_rfl))
   simp only[w14,w19,w10,w1a] at k1
   obtain⟨d1,hh1,w1⟩:=k1
   have e1:=hh1
   simp only[IsEnded,AV.agg.injEq,List.cons.injEq,and_true] at e1
   obtain⟨rfl,rfl,rfl⟩:=e1
   have k2:=rd32 n _ (zo h (i:=2) (ft:=32) (off:=6) (c:=2) (by kernel_rfl) (by kernel_rfl))
   simp only[w14,w19,w10,w1a] at k2
   obtain⟨d2,hh2,w2⟩:=k2
   obtain⟨u2_0,e2,p2_0⟩:=hh2
   simp only[IsRegion,AV.agg.injEq,List.cons.injEq,and_true] at e2
   obtain⟨rfl,rfl⟩:=e2
   have k3:=rd33 n _ (zo h (i:=3) (ft:=33) (off:=8) (c:=1) (by kernel_rfl) (by kernel_rfl))
   simp only[w14,w19,w10,w1a] at k3
   obtain⟨d3,y3,e3,p3,w3⟩:=k3
   injection e3 with e3 _
   subst e3
   have k4:=rd34 n _ (zo h (i:=4) (ft:=34) (off:=9) (c:=1) (by kernel_rfl) (by kernel_rfl))
   simp only[w14,w19,w10,w1a] at k4
   obtain⟨d4,y4,e4,p4,w4⟩:=k4
   injection e4 with e4 _
   subst e4
   have k5:=rd35 n _ (zo h (i:=5) (ft:=35) (off:=10) (c:=1) (by kernel_rfl) (by kernel_rfl))
   simp only[w14,w19,w10,w1a] at k5
   obtain⟨d5,y5,e5,p5,w5⟩:=k5
   injection e5 with e5 _
   subst e5
   have k6:=rd35 n _ (zo h (i:=6) (ft:=35) (off:=11) (c:=1) (by kernel_rfl) (by kernel_rfl))
   simp only[w14,w19,w10,w1a] at k6
   obtain⟨d6,y6,e6,p6,w6⟩:=k6
   injection e6 with e6 _
   subst e6
   exact⟨⟨d0,d1,d2,d3,d4,d5,d6⟩,⟨_,_,_,_,_,_,_,_,rfl,p0_0,p0_1,p0_2,p2_0,p3,p4,p5,p6⟩,⟨w0,w1,w2,w3,w4,w5,w6⟩⟩
theorem arg37 (y:AV) (h:ArgT Tryz.prog 37 y): ∃d,IsDump d y∧WfDump d:=by
 obtain⟨h1,n,h2⟩:=h
 obtain⟨cs,rfl⟩:=qM h1 (by kernel_rfl)
 exact rd37 n cs h2
theorem Yv:plainAll Tryz.prog [54,99,35,2,52,34,33,30,32,28,29,227,66,63,65,68,24,23,9,214,64,3,5,271,22,26,37]=true:=by kernel_rfl
end Go.Proofs.W
end
