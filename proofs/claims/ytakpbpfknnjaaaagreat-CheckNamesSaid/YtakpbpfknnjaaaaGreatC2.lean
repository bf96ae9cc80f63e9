/-
  Part 3 of the proof, shared by claims of this seat: NVsr, NVss, NVst, NVsu, NVsx, NVsy.
-/
import Derived.Test.YtakpbpfknnjaaaaGreatC1
set_option maxHeartbeats 64000000
set_option linter.unusedVariables false
set_option linter.unusedSimpArgs false
open Nat renaming le_refl → w0e, zero_add → w1b
open List renaming getD_eq_getElem?_getD → w03, getElem?_eq_some_iff → w07, mem_append → w08, getElem?_append_left → w09, getElem?_eq_getElem → w0b, getElem?_append_right → w0d, eq_nil_of_length_eq_zero → w10, append_assoc → w11, getElem?_map → w13, length_append → w18, getElem?_eq_none → w19, mem_cons_of_mem → w1c, map_cons → w1d, map_append → w1f, nodup_append → w22, mem_of_getElem? → w23, mem_map → w25, mem_singleton → w27, mem_cons_self → w28, getElem?_cons_zero → w2a
open Option renaming map_eq_some_iff → w01, bind_eq_some_iff → w02, map_some → w05, getD_some → w15, bind_some → w16
open Bool renaming and_eq_true → w04, false_eq_true → w0c, or_eq_true → w14
open Array renaming getD_eq_getD_getElem? → w06, getElem?_eq_getElem → w0a, getElem?_eq_some_iff → w12
section
namespace Go.Vs
open Go.RowKit
section
variable {P : Program} {C : Ctx} {O : Oracle} {ops : Array Oper} {ds : List Nat} {al : List AOper} {m0 : Mem} {S : Nat → St} {W : Nat → Watch} {Q : Exit → Act → World → Prop}
theorem QI {rs0:Nat→Bool} {X:Nat→Bool} {g:G} {w:World} {a:Act} (D:Dr P C O ops al m0 S W) (M:Mid ops al S rs0 m0.stk.length X g w a) (hX: ∀i,i<ops.size→X i=true):
  Inv g w (S ops.size).m∧Reps g w (S ops.size).ρ a.tmps.toList∧g.rs=rs0:=by
 have cut: ∀p,Cut ops.size X p ops.size:=fun p i hi _=>⟨fun _=>hi,fun _=>hX i hi⟩
 have nx:Nxt al ops.size X ops.size:=⟨w0e _,cut _,.inl rfl⟩
 refine⟨M.mem _ nx,⟨by simp[M.len,D.reg_len ops.size (w0e _)],fun t c v h1 h2=> ?_⟩,?_⟩
 ·obtain⟨v',h3,h4⟩:=M.reg t ops.size c (w0e _) (cut _) h1
  have h2':a.tmps[t]? =some v:=by simpa using h2
  rw[h3] at h2'
  injection h2' with h2'
  rw[←h2'];exact h4
 ·funext st
  have:=M.rsv _ nx st
  have h2:(∃i,Pend al S X ops.size i∧st=(S i).m.nx)↔False:=by
   refine⟨fun⟨i,⟨h1,_,_,h4⟩,_⟩=> ?_,False.elim⟩
   rw[hX i h1] at h4;cases h4
  rw[h2,or_false] at this
  cases h:g.rs st with
  |true=>exact(this.1 h).symm
  |false=>cases h':rs0 st with
   |false=>rfl
   |true=>rw[this.2 h'] at h;cases h
theorem Vv (D:Dr P C O ops al m0 S W) (listed:Array Bool) (hsz:listed.size=ops.size): ∀j,j<ops.size→listed.getD j false=false→ ∃i,i∈Region.ready .any ops listed:=by
 intro j
 induction j using Nat.strongRecOn with
 |_ j ih=>
  intro hj hl
  by_cases hall: ∀i,i<j→listed.getD i false=true
  ·refine⟨j,?_⟩
   unfold Region.ready
   rw[List.mem_filter]
   refine⟨List.mem_range.2 hj,?_⟩
   have hoj:ops[j]? =some ops[j]:=w0a hj
   have h1:listed.getD j true=false:=by
    have:j<listed.size:=by omega
    rw[w06,w0a this] at hl⊢
    exact hl
   simp only[h1,Bool.not_false,Bool.true_and,hoj,w05,w15]
   rw[Array.all_eq_true_iff_forall_mem]
   intro e he
   cases hb:Region.binds .any e with
   |false=>rfl
   |true=>simp[hall e.on (D.edge hoj he hb)]
  ·have: ∃i,i<j∧listed.getD i false=false:=by
    refine Classical.byContradiction fun hne=>hall fun i hi=> ?_
    cases h:listed.getD i false with
    |true=>rfl
    |false=>exact absurd ⟨i,hi,h⟩ hne
   obtain⟨i,hi,hli⟩:=this
   exact ih i hi (by omega) hli
theorem kj {l:List Bool} (h:l.count false=0): ∀i,i<l.length→l.getD i false=true:=by
 intro i hi
 rw[w03,w0b hi,w15]
 cases hq:l[i] with
 |true=>rfl
 |false=>
  have:false∈l:=by rw[←hq];exact List.getElem_mem hi
  rw[List.count_eq_zero] at h
  exact absurd this h
theorem V0 {N:Nat} {rr:Option Nat} (D:Dr P C O ops al m0 S W) (g0:G) (w0:World) (hz:C.Z g0 w0) (d0:List Deferred) (hrs0: ∀st,g0.rs st=true→st<(S 0).m.nx) (hQ: ∀g a w,Ext g0 w0 g w→Inv g w (S ops.size).m→Reps g w (S ops.size).ρ a.tmps.toList→a.defers=d0→Q .normal a w):
  ∀(fuel:Nat) (listed:Array Bool) (g:G) (w:World) (a:Act),listed.size=ops.size→listed.toList.count false=fuel→Closed ops (fun i=>listed.getD i false)→ExtW g0 w0 g w→Mid ops al S g0.rs m0.stk.length (fun i=>listed.getD i false) g w a→a.defers=d0→
   wpAnyIn (FW rr) N P .any ops Q fuel listed a w
 |0,listed,g,w,a,hsz,hcnt,hX,hx,M,hd=>by
  have hall: ∀i,i<ops.size→listed.getD i false=true:=by
   intro i hi
   have:=kj hcnt i (by simp;omega)
   rw[w03] at this
   rw[w06]
   simpa using this
  obtain⟨h1,h2,h3⟩:=QI D M hall
  refine⟨?_,hQ g a w ⟨hx,h3⟩ h1 h2 hd⟩
  unfold Region.ready
  rw[List.filter_eq_nil_iff]
  intro i hi
  have hlt:i<ops.size:=List.mem_range.1 hi
  have hl:=hall i hlt
  have:listed.getD i true=true:=by
   have hh:i<listed.size:=by omega
   rw[w06,w0a hh] at hl⊢
   exact hl
  simp[this]
 |fuel+1,listed,g,w,a,hsz,hcnt,hX,hx,M,hd=>by
  refine⟨fun hnil=> ?_,fun j hj=> ?_⟩
  ·exfalso
   have: ∃j,j<ops.size∧listed.getD j false=false:=by
    refine Classical.byContradiction fun hne=> ?_
    have:listed.toList.count false=0:=by
     rw[List.count_eq_zero]
     intro hm
     obtain⟨i,hi⟩:=List.getElem?_of_mem hm
     have hlt:i<listed.size:=by simpa using (w07.1 hi).1
     refine hne ⟨i,by omega,?_⟩
     rw[w06]
     have:listed[i]? =some false:=by simpa using hi
     rw[this];rfl
    omega
   obtain⟨j,hj,hl⟩:=this
   obtain⟨i,hi⟩:=Vv D listed hsz j hj hl
   rw[hnil] at hi;cases hi
  ·unfold Region.ready at hj
   rw[List.mem_filter] at hj
   obtain⟨h1,h2⟩:=hj
   have hjlt:j<ops.size:=List.mem_range.1 h1
   have hoj:ops[j]? =some ops[j]:=w0a hjlt
   simp only[hoj,w05,w15,w04,Bool.not_eq_true'] at h2
   obtain⟨h3,h4⟩:=h2
   have hjl:j<listed.size:=by omega
   have hXj:listed.getD j false=false:=by
    rw[w06,w0a hjl] at h3⊢
    exact h3
   have hset:(fun i=>(listed.setIfInBounds j true).getD i false)=fun i=>listed.getD i false||i==j:=by
    funext i
    rw[w06,w06]
    by_cases hij:i=j
    ·subst hij
     rw[Array.getElem?_setIfInBounds_self_of_lt hjl]
     simp
    ·rw[Array.getElem?_setIfInBounds_ne (fun h=>hij h.symm)]
     simp[hij]
   have hX':Closed ops fun i=>listed.getD i false||i==j:=by
    intro k o hk hXk e he hb
    simp only[w14,beq_iff_eq] at hXk⊢
    left
    rcases hXk with hXk|rfl
    ·exact hX k o hk hXk e he hb
    ·rw[hk] at hoj
     injection hoj with hoj
     subst hoj
     rw[Array.all_eq_true_iff_forall_mem] at h4
     have:=h4 e he
     rw[hb] at this
     simpa using this
   refine M.next D hrs0 (C.mono hx hz) hoj hXj hX hX' _ fun g' a' w' hx' M' hd'=> ?_
   refine V0 D g0 w0 hz d0 hrs0 hQ fuel (listed.setIfInBounds j true) g' w' a' (by simpa using hsz) ?_ (by rw[hset];exact hX') (hx.trans hx') (by rw[hset];exact M') (hd'.trans hd)
   rw[Array.toList_setIfInBounds]
   have hget:listed.toList[j]'(by simpa using hjl)=false:=by
    rw[w06,w0a hjl] at hXj
    simpa using hXj
   have:=List.count_set (a:=true) (b:=false) (l:=listed.toList) (i:=j) (by simpa using hjl)
   rw[this,hget,hcnt]
   simp
theorem Qc {N:Nat} {rr:Option Nat} (hO:OracleOk P C O) (hA:OracleAbove O) (hc:compDraw P ds ops=some al)
  {σ σ':St} (hf:σ.m.floor≤σ.m.stk.length) (he:evDraw O σ.m [] al ⟨σ.ρ,{σ.m with floor:=max σ.m.floor (σ.m.stk.length+1)}⟩=some σ') {g:G} {w:World} {a:Act} (hz:C.Z g w) (hR:Reps g w σ.ρ a.tmps.toList) (I:Inv g w σ.m)
  (hK:Goes g w a σ'.ρ σ'.m (Q .normal)):wpAnyIn (FW rr) N P .any ops Q ops.size (Array.replicate ops.size false) a {w with drawn:=w.drawn+1}:=by
 obtain⟨S,W,h0,_,h1,h2⟩:=Zv he
 obtain⟨hd,hn,hop⟩:=XV hc
 have D:Dr P C O ops al σ.m S W:=⟨hO,hA,hd,hop,h2,by rw[h0];simp only;rw[Nat.max_eq_right (by omega)],hf⟩
 have hrep:(fun i=>(Array.replicate ops.size false).getD i false)=fun _=>false:=by
  funext i
  rw[w06,Array.getElem?_replicate]
  split<;>rfl
 have hcut0: ∀p k,k≤ops.size→Cut ops.size (fun _=>false) p k→ ∀i,i<k→p i=false:=by
  intro p k hk h i hi
  cases hp:p i with
  |false=>rfl
  |true=>have:=(h i (by omega) hp).2 hi;cases this
 have hnx:(S 0).m.nx=σ.m.nx:=by rw[D.h0]
 obtain⟨k,hk⟩:=D.nxt (X:=fun _=>false) (fun j o _ h=>by cases h)
 have I0:Inv g w.drew (S 0).m:=by rw[D.h0];exact qd _ I.drew
 obtain⟨g1,e1,e2,e3⟩:=D.reserve 0 k (Nat.zero_le _) hk.1 (fun i _ hi=>hcut0 _ k hk.1 hk.2.1 i hi) I0
 have hx1:ExtW g w g1 w.drew:=(Ext.drew g w).toExtW.trans e1
 refine V0 D g w hz a.defers (fun st h=>by rw[hnx];exact(I.rsv st h).2) (fun g' a' w' hx hI hR' hd'=> ?_) ops.size _ g1 _ a (by simp) ?_ (by rw[hrep];intro j o _ h;cases h) hx1 ?_ rfl
 ·rw[←hn,h1] at hI hR'
  exact hK g' a' w' hx hI hR' hd'
 ·simp[List.count_replicate]
 ·rw[hrep]
  refine⟨fun q hq=> ?_,fun q hq st=> ?_,fun q hq i hp=> ?_,fun t k x hk hcut hx=> ?_,by rw[h0];simpa using hR.1⟩
  ·rw[hq.uniq hk];exact e2
  ·rw[hq.uniq hk,e3 st]
   constructor
   ·rintro(h|⟨i,_,b1,b2,b3,b4⟩)
    ·exact .inl h
    ·exact .inr ⟨i,⟨b1,b2,b3,rfl⟩,b4⟩
   ·rintro(h|⟨i,⟨b1,b2,b3,_⟩,b4⟩)
    ·exact .inl h
    ·exact .inr ⟨i,Nat.zero_le _,b1,b2,b3,b4⟩
  ·rw[hq.uniq hk] at hp⊢
   obtain⟨b1,b2,b3,_⟩:=hp
   have hg2:=D.grew (i+1) k (by omega) hk.1 (fun q _ a2=>hcut0 _ k hk.1 hk.2.1 q a2)
   exact hg2.blk (D.made_blk (by have:=hk.1;omega) b2 b3)
  ·have:=D.reg_const t 0 k (Nat.zero_le _) hk (fun i _ hi=>hcut0 _ k hk hcut i hi)
   rw[this,h0] at hx
   obtain⟨v,h3,h4⟩:=hR.get hx
   exact⟨v,by simpa using h3,h4.monoW hx1⟩
theorem z0b {N:Nat} {rr:Option Nat} {id:Nat} (hM:P.follows .mixedOrders=true) (hO:OracleOk P C O) (hA:OracleAbove O) (hc:compDraw P ds (permOps ops)=some al)
  {σ σ':St} (hf:σ.m.floor≤σ.m.stk.length) (he:evDraw O σ.m [] al ⟨σ.ρ,{σ.m with floor:=max σ.m.floor (σ.m.stk.length+1)}⟩=some σ') {g:G} {w:World} {a:Act} (hz:C.Z g w) (hR:Reps g w σ.ρ a.tmps.toList) (I:Inv g w σ.m)
  (hK:Goes g w a σ'.ρ σ'.m (Q .normal)):(Code.region id ops true).wpIn (FW rr) N P Q a w:=by
 refine wpIn_region_any hM ?_
 have hp:=Vy ops
 have hfalse: ∀n i,(Array.replicate n false).getD i false=false:=by
  intro n i
  rw[w06,Array.getElem?_replicate]
  split<;>rfl
 have h0:=Qc (N:=N) (rr:=rr) (Q:=Q) hO hA hc hf he hz hR I hK
 rw[hp.size] at h0
 exact hp.wpAny ops.size _ _ a _ (by simp) (by simp) (fun i _=>by rw[hfalse,hfalse]) h0
theorem v6 (hA:OracleAbove O) {m1:Mem}: ∀{l:List AOper} {ws:Watch} {σ σ':St},m1.floor≤m1.stk.length→σ.m.stk.length=m1.stk.length→σ.m.floor=m1.stk.length+1→evDraw O m1 ws l σ=some σ'→
  σ'.m.stk.length=m1.stk.length∧(∀l k st cs,l<m1.floor→σ.m.blk l k st=some cs→σ'.m.blk l k st=some cs)∧σ.m.nx≤σ'.m.nx
 | [],ws,σ,σ',_,h1,_,h=>by simp[evDraw] at h;subst h;exact⟨h1,fun _ _ _ _ _ h=>h,w0e _⟩
 |o::r,ws,σ,σ',hf,h1,h2,h=>by
  simp only[evDraw] at h
  split at h
  ·split at h
   ·rename_i q hq
    exact v6 hA (σ:=⟨q.ρ,σ.m⟩) hf h1 h2 h
   ·cases h
  ·split at h
   ·split at h
    ·split at h
     ·rename_i q hq
      have hq:=(yJ hq).1
      have k:=v5 hA (σ:=⟨σ.ρ,{σ.m with floor:=m1.floor}⟩) (by simp only;omega) (fun _=>by simp only;omega) hq
      obtain⟨a1,a2,a3⟩:=v6 hA (σ:=⟨q.ρ,{q.m with floor:=σ.m.floor}⟩) hf (by simp only;rw[k.len];exact h1) (by simp only;exact h2) h
      exact⟨a1,fun l i st cs hl hb=>a2 l i st cs hl (k.blk l i st cs hl hb),Nat.le_trans k.nx a3⟩
     ·cases h
    ·cases h
   ·split at h
    ·rename_i q hq
     have k:=v5 hA (by rw[h1,h2];omega) (fun hh=>by simp_all) hq
     obtain⟨a1,a2,a3⟩:=v6 hA (σ:=q) hf (k.len.trans h1) (k.floor.trans h2) h
     exact⟨a1,fun l i st cs hl hb=>a2 l i st cs hl (k.blk l i st cs (by rw[h2];omega) hb),Nat.le_trans k.nx a3⟩
    ·cases h
end
def Out.exit':Out→Exit
 | .normal=> .normal
 | .exit id=> .exit id
 | .ret=> .ret
 | .goto l=> .goto l
theorem yF (l l' k:Nat): ∀(xs:List AV) (j:Nat),(shiftAll l l' k xs)[j]? =(xs[j]?).map fun x=>x.shift l l' k
 | [],j=>by simp[shiftAll]
 |x::r,0=>by simp[shiftAll]
 |x::r,j+1=>by simpa [shiftAll] using yF l l' k r j
theorem zL (l l' k:Nat): ∀(xs:List AV),(shiftAll l l' k xs).length=xs.length
 | []=>rfl
 |x::r=>by simp[shiftAll,zL l l' k r]
theorem Rep.shift {g:G} {w:World} {x:AV} {v:Value} (l l' k:Nat) (h:Rep g w x v):Rep g w (x.shift l l' k) v:=by
 induction h with
 |bool b=>exact .bool b
 |int k n=>exact .int k n
 |str s b h=>exact .str s b h
 |nils=>exact .nils
 |list s tk xs b o cap f hs hcap htk hc hr ih=>exact .list s tk xs b o cap f hs hcap htk hc hr
 |empty s tk a cap h=>exact .empty s tk a cap h
 |arr a i st off len b o e' cap hb hcap=>
  simp only[AV.shift]
  split
  ·exact .arr _ _ _ _ _ _ _ _ _ hb hcap
  ·exact .arr _ _ _ _ _ _ _ _ _ hb hcap
 |arr0 a i st off ad cap=>
  simp only[AV.shift]
  split
  ·exact .arr0 _ _ _ _ _ _
  ·exact .arr0 _ _ _ _ _ _
 |grow s a i st len b o e' cap hb hcap he=>
  simp only[AV.shift]
  split
  ·exact .grow _ _ _ _ _ _ _ _ _ hb hcap he
  ·exact .grow _ _ _ _ _ _ _ _ _ hb hcap he
 |ptr a i st off b o e' hb=>
  simp only[AV.shift]
  split
  ·exact .ptr _ _ _ _ _ _ _ hb
  ·exact .ptr _ _ _ _ _ _ _ hb
 |ro cs b o f hc hr ih=>exact .ro cs b o f hc hr
 |nilptr=>exact .nilptr
 |mapR a i st b h=>
  simp only[AV.shift]
  split
  ·exact .mapR _ _ _ _ h
  ·exact .mapR _ _ _ _ h
 |yld a i st b h=>
  simp only[AV.shift]
  split
  ·exact .yld _ _ _ _ h
  ·exact .yld _ _ _ _ h
 |fn f first caps first' caps' h1 h2 h3 h4 ih3 ih4=>
  refine .fn f _ _ _ _ (by rw[zL];exact h1) (by rw[zL];exact h2) (fun j c v a1 a2=> ?_) (fun j c v a1 a2=> ?_)
  ·rw[yF,w01] at a1
   obtain⟨y,hy,rfl⟩:=a1
   exact ih3 j y v hy a2
  ·rw[yF,w01] at a1
   obtain⟨y,hy,rfl⟩:=a1
   exact ih4 j y v hy a2
 |nilfn=>exact .nilfn
 |agg cs vs hl h ih=>
  refine .agg _ _ (by rw[zL];exact hl) (fun j c v a1 a2=> ?_)
  rw[yF,w01] at a1
  obtain⟨y,hy,rfl⟩:=a1
  exact ih j y v hy a2
 |tup cs vs hl h ih=>
  refine .tup _ _ (by rw[zL];exact hl) (fun j c v a1 a2=> ?_)
  rw[yF,w01] at a1
  obtain⟨y,hy,rfl⟩:=a1
  exact ih j y v hy a2
 |undef v=>exact .undef v
theorem Reps.shift {g:G} {w:World} {xs:List AV} {vs:List Value} (l l' k:Nat) (h:Reps g w xs vs):Reps g w (shiftAll l l' k xs) vs:=by
 refine⟨by rw[zL];exact h.1,fun j c v a1 a2=> ?_⟩
 rw[yF,w01] at a1
 obtain⟨y,hy,rfl⟩:=a1
 exact(h.2 j y v hy a2).shift l l' k
theorem jI (l l' k:Nat) {x:AV} {v:Value} (h:PRep x v):x.shift l l' k=x:=by
 cases h<;>rfl
theorem VX (l l' k:Nat) {ps:List AV} {es:List MapEntry} (h:EntsOk ps es):shiftAll l l' k ps=ps:=by
 induction h with
 |nil=>rfl
 |cons h1 h2 _ ih=>simp only[shiftAll,AV.shift,jI l l' k h1,jI l l' k h2,ih]
theorem Xh (m:Mem):(enter m).all=m.all:=by simp[enter,Mem.all]
theorem Xf {g:G} {w:World} {m:Mem} (I:Inv g w m):Inv g w (enter m):=
 I.sub (fun bl h=>by rw[Xh] at h;exact h) (by rw[Xh];exact I.nd) (w0e _) (by simp[enter])
theorem jL {g:G} {w:World} {m0 m m':Mem} {r r':AV} {v:Value} (I:Inv g w m) (h:leave m0 m r=some (r',m')) (hr:Rep g w r v):Inv g w m'∧Rep g w r' v:=by
 unfold leave at h
 simp only at h
 split at h
 ·cases h
 ·cases h
 ·rename_i c own rest hc hown
  have hstk:m.stk=m.stk.dropLast++[c]:=by
   obtain⟨hne,hl⟩:=List.getLast?_eq_some_iff.1 hc|>fun⟨ys,h⟩=>(⟨by rw[h];simp,⟨ys,h⟩⟩:m.stk≠[]∧ ∃ys,m.stk=ys++[c])
   obtain⟨ys,hys⟩:=hl
   rw[hys];simp
  have hlive:(pushToks (own.filter fun t=>r.toks.contains t) rest).flatten.Sublist m.live.flatten:=by
   rw[Y9,hown]
   exact List.Sublist.append List.filter_sublist (List.Sublist.refl _)
  have hall:m.all=m.stk.dropLast.flatten++c++m.cur:=by
   unfold Mem.all
   rw[hstk];simp
  split at h
  ·injection h with h
   injection h with h1 h2
   subst h1;subst h2
   refine⟨⟨fun bl hb hrs=> ?_,?_,I.stlt,I.tklt,fun t ht=>I.live t (hlive.subset ht),I.ownb,I.hbase,I.lnd.sublist hlive,I.rsv,I.mpk⟩,hr.shift _ _ _⟩
   ·simp only[Mem.all,w08,w25] at hb
    rcases hb with hb|hb|⟨b0,hb0,rfl⟩
    ·exact I.blk bl (by rw[hall];simp only[w08];exact .inl (.inl hb)) hrs
    ·exact I.blk bl (by rw[hall];simp only[w08];exact .inl (.inr hb)) hrs
    ·rcases I.blk b0 (by rw[hall];simp only[w08];exact .inr hb0) hrs with⟨b,o,e,k1,k2,k3,vs,k4,k5⟩|⟨b,ps,es,clock,k1,k2,k3,k4,k5⟩|⟨b,r,n,k1,k2,k3,k4,k5⟩
     rotate_left
     ·exact .inr (.inl ⟨b,ps,es,clock,k1,k2,by simp only[k3,shiftAll,AV.shift,VX _ _ _ k5],k4,k5⟩)
     ·exact .inr (.inr ⟨b,r,n,k1,k2,by simp only[k3,shiftAll,AV.shift],k4,k5⟩)
     exact .inl ⟨b,o,e,k1,by simp only[zL];exact k2,k3,vs,k4.shift _ _ _,k5⟩
   ·have:=I.nd
    rw[hall] at this
    simp only[Mem.all,w1f,List.map_map] at this⊢
    simpa [w11,Function.comp_def] using this
  ·injection h with h
   injection h with h1 h2
   subst h1;subst h2
   refine⟨I.sub (fun bl hb=> ?_) ?_ (w0e _) hlive,hr⟩
   ·simp only[Mem.all,w08] at hb
    rw[hall]
    simp only[w08]
    exact .inl hb
   ·have:=I.nd
    rw[hall] at this
    refine List.Nodup.sublist ?_ this
    simp only[Mem.all]
    exact(List.sublist_append_left _ _).map _
theorem kb {F:Fence} {N:Nat} {P:Program} {c:Code} {Q:Exit→Act→World→Prop} (R:Nat→Act→World→Prop) (round: ∀n a w,R n a w→c.wpIn F N P (Exit.then (fun a' w'=> ∃m,m<n∧R m a' w') Q) a w) {n:Nat} {a:Act} {w:World} (h:R n a w):
  (Code.loop c).wpIn F N P Q a w:=by
 intro b k cs hro hb hr
 have key: ∀n a w,R n a w→ ∃e a' w',Q e a' w'∧ArrivesIn (Machine.fenced P F) P (lone (b.atR a (.code c:: .inLoop c::k)) cs w) b k cs e a' w':=by
  intro n
  induction n using Nat.strongRecOn with
  |_ n ih=>
   intro a w hI
   obtain⟨e,a₁,w₁,hq,harr⟩:=round n a w hI b (.inLoop c::k) cs hro hb hr
   cases e with
   |normal=>
    obtain⟨m,hlt,hI₁⟩:=hq
    obtain⟨e₂,a₂,w₂,hq₂,harr₂⟩:=ih m hlt a₁ w₁ hI₁
    exact⟨e₂,a₂,w₂,hq₂,.of_steps (StepsIn.trans harr (.one (fenced_calm hb hr rfl) stepR_inLoop)) harr₂⟩
   |exit id=>exact⟨_,a₁,w₁,hq,.pass (x:= .inLoop c) rfl (fun _ _=> .inl (by simp)) harr⟩
   |goto l=>exact⟨_,a₁,w₁,hq,.pass (x:= .inLoop c) rfl (fun _ _=> .inl (by simp)) harr⟩
   |ret=>exact⟨_,a₁,w₁,hq,.pass (x:= .inLoop c) rfl (fun _ _=> .inl (by simp)) harr⟩
   |panic ch=>exact⟨_,a₁,w₁,hq,.pass (x:= .inLoop c) rfl (fun _ _=> .inl (by simp)) harr⟩
   |outgrown=>exact⟨_,a₁,w₁,hq,.pass (x:= .inLoop c) rfl (fun _ _=> .inl (by simp)) harr⟩
 obtain⟨e,a',w',hq,harr⟩:=key n a w h
 exact⟨e,a',w',hq,.of_steps (.one (fenced_calm hb hr rfl) stepR_loop) harr⟩
theorem Wd {P:Program} {b:Frame} {a:Act} {k:List Item} {cs:List Frame} {w:World} {c:Code}:step P (lone (b.atR a (.code (.scope c)::k)) cs w)= .next (lone (b.atR a (.code c:: .inScope c::k)) cs w):=
 step_lone_go (by simp[stepG,stepG.exec,Frame.atR])
theorem Y6 {P:Program} {b:Frame} {a:Act} {k:List Item} {cs:List Frame} {w:World} {c:Code}:step P (lone (b.atR a (.inScope c::k)) cs w)= .next (lone (b.atR a k) cs w):=
 step_lone_go (by simp[stepG,stepG.exec,Frame.atR])
theorem jj {F:Fence} {N:Nat} {P:Program} {c:Code} {Q:Exit→Act→World→Prop} (R:Nat→Option Nat→Act→World→Prop)
  (round: ∀n s a w,R n s a w→ ∀x,(match s with|none=>x=c|some l=>findLabel c l=some x)→x.wpIn F N P (fun e a' w'=>match e with
   | .goto l=>if(findLabel c l).isSome then∃m,m<n∧R m (some l) a' w' else Q (.goto l) a' w'
   |e=>Q e a' w') a w) {n:Nat} {a:Act} {w:World} (h:R n none a w):
  (Code.scope c).wpIn F N P Q a w:=by
 intro b k cs hro hb hr
 have key: ∀n s a w,R n s a w→ ∀x,(match s with|none=>x=c|some l=>findLabel c l=some x)→
   ∃e a' w',Q e a' w'∧ArrivesIn (Machine.fenced P F) P (lone (b.atR a (.code x:: .inScope c::k)) cs w) b k cs e a' w':=by
  intro n
  induction n using Nat.strongRecOn with
  |_ n ih=>
   intro s a w hI x hx
   obtain⟨e,a₁,w₁,hq,harr⟩:=round n s a w hI x hx b (.inScope c::k) cs hro hb hr
   cases e with
   |normal=>exact⟨.normal,a₁,w₁,hq,StepsIn.trans harr (.one (fenced_calm hb hr rfl) Y6)⟩
   |exit id=>exact⟨.exit id,a₁,w₁,hq,fun k' hk=>harr.1 k' (by simpa [exitTo] using hk),fun h1 h2=>harr.2 h1 (by simpa [exitTo] using h2)⟩
   |goto l=>
    simp only at hq
    split at hq
    ·rename_i hl
     obtain⟨m,hlt,hI₁⟩:=hq
     obtain⟨y,hy⟩:=Option.isSome_iff_exists.1 hl
     obtain⟨e₂,a₂,w₂,hq₂,harr₂⟩:=ih m hlt (some l) a₁ w₁ hI₁ y hy
     exact⟨e₂,a₂,w₂,hq₂,.of_steps (harr.1 _ (by simp[gotoIn,hy])) harr₂⟩
    ·rename_i hl
     have hn:findLabel c l=none:=by cases h:findLabel c l with|none=>rfl|some y=>rw[h] at hl;exact absurd rfl hl
     exact⟨.goto l,a₁,w₁,hq,fun k' hk=>harr.1 k' (by simpa [gotoIn,hn] using hk),fun h1 h2=>harr.2 h1 (by simpa [gotoIn,hn] using h2)⟩
   |ret=>exact⟨_,a₁,w₁,hq,harr⟩
   |panic ch=>exact⟨_,a₁,w₁,hq,harr⟩
   |outgrown=>exact⟨_,a₁,w₁,hq,harr⟩
 obtain⟨e,a',w',hq,harr⟩:=key n none a w h c rfl
 exact⟨e,a',w',hq,.of_steps (.one (fenced_calm hb hr rfl) Wd) harr⟩
theorem k8 (live:List Nat) (nb:Nat) (σ:St) (h:σ.m.floor≤σ.m.stk.length):Above σ.m (heads live nb σ).m:=by
 refine⟨rfl,rfl,fun l k st cs hl hb=>yA hb fun x hx=> ?_,w0e _⟩
 unfold Mem.row heads at*
 simp only at hx⊢
 have: ¬(l==σ.m.stk.length)=true:=by simp;omega
 rw[if_neg this] at hx⊢
 exact hx
theorem Zk {f:St→Option (Out×St)} {live:List Nat} {nb:Nat} (hf: ∀σ out σ',σ.m.floor≤σ.m.stk.length→f σ=some (out,σ')→Above σ.m σ'.m):
  ∀(n:Nat) (σ:St) (out:Out) (σ':St),σ.m.floor≤σ.m.stk.length→iter f (heads live nb) n σ=some (out,σ')→Above σ.m σ'.m
 |0,σ,out,σ',_,h=>by simp[iter] at h
 |n+1,σ,out,σ',hl,h=>by
  simp only[iter] at h
  have k0:=k8 live nb σ hl
  split at h
  ·rename_i σ1 h1
   have k1:=hf _ _ _ (by rw[k0.len,k0.floor];exact hl) h1
   have k01:=k0.trans k1
   exact k01.trans (Zk hf n σ1 out σ' (by rw[k01.len,k01.floor];exact hl) h)
  ·exact k0.trans (hf _ _ _ (by rw[k0.len,k0.floor];exact hl) h)
theorem Wo {O:Ora} {n:Nat} {x:Option ACode} {σ:St} {r:Out×St} (h:ev O n (orBad x) σ=some r): ∃c,x=some c∧ev O n c σ=some r:=by
 cases x with
 |none=>simp[orBad,ev] at h
 |some c=>exact⟨c,rfl,h⟩
theorem jY (m:Mem) (hf:m.floor≤m.stk.length+1): ∀l k st cs,l<m.floor→m.blk l k st=some cs→(enter m).blk l k st=some cs:=by
 intro l k st cs hl hb
 refine yA hb fun x hx=> ?_
 unfold Mem.row enter at*
 simp only[w18,List.length_cons,List.length_nil,w1b]
 rw[if_neg (by simp;omega),w03]
 by_cases h:l=m.stk.length
 ·subst h
  rw[if_pos (by simp)] at hx
  rw[w0d (w0e _)]
  simpa using hx
 ·rw[if_neg (by simpa using h),w03] at hx
  rw[w09 (by omega)]
  exact hx
theorem jM {m0 m m':Mem} {r r':AV} (hlen:m.stk.length=m0.stk.length+1) (hf:m0.floor≤m0.stk.length+1) (hk: ∀l k st cs,l<m0.floor→m0.blk l k st=some cs→m.blk l k st=some cs) (hnx:m0.nx≤m.nx) (h:leave m0 m r=some (r',m')):Above m0 m':=by
 unfold leave at h
 simp only at h
 split at h
 ·cases h
 ·cases h
 ·rename_i c own rest hc hown
  have hlast:m.stk[m0.stk.length]? =some c:=by
   rw[List.getLast?_eq_getElem?,hlen] at hc
   simpa using hc
  have key: ∀(extra:List Blk) (nx:Nat) (live:List (List Nat)),m0.nx≤nx→Above m0 {stk:=m.stk.dropLast,cur:=c++extra,nx:=nx,live:=live,floor:=m0.floor}:=by
   intro extra nx live hn
   refine⟨by simp[hlen],rfl,fun l k st cs hl hb=>yA (hk l k st cs hl hb) fun x hx=> ?_,hn⟩
   unfold Mem.row at hx⊢
   have hl1: ¬(l==m.stk.length)=true:=by simp;omega
   rw[if_neg hl1,w03] at hx
   simp only[List.length_dropLast,hlen,Nat.add_sub_cancel]
   by_cases hl2:l=m0.stk.length
   ·subst hl2
    rw[hlast,w15] at hx
    rw[if_pos (by simp)]
    have hk':k<c.length:=(w07.1 hx).1
    rw[w09 hk'];exact hx
   ·rw[if_neg (by simpa using hl2),w03,List.getElem?_dropLast]
    rw[if_pos (by omega)]
    exact hx
  split at h
  ·injection h with h
   injection h with _ h2
   subst h2
   exact key _ _ _ hnx
  ·injection h with h
   injection h with _ h2
   subst h2
   have:=key [] m.nx (pushToks (own.filter fun t=>r.toks.contains t) rest) hnx
   simpa using this
def YAbove (Y:YH):Prop:= ∀args m r m',Y args m=some (r,m')→m.floor≤m.stk.length+1→Above m m'
def OraAbove (O:Ora):Prop:=OracleAbove O.call∧ ∀Y,YAbove Y→OracleAbove (O.iter Y)
theorem qO {RA RB:St→Option (Out×St)} (hA: ∀σ out σ',σ.m.floor≤σ.m.stk.length→RA σ=some (out,σ')→Above σ.m σ'.m) (hB: ∀σ out σ',σ.m.floor≤σ.m.stk.length→RB σ=some (out,σ')→Above σ.m σ'.m)
  {ps:List Nat} {ρ:List AV} {l k st:Nat} {aS:List AV} {m m':Mem} {r:AV} (h:roundV RA RB ps ρ l k st aS m=some (r,m')) (hf:m.floor≤m.stk.length+1):Above m m':=by
 unfold roundV at h
 split at h
 ·rename_i hc
  obtain⟨_,_,hfl,_⟩:=hc
  split at h
  ·rename_i σ1 h1
   have k1:=hA _ _ _ (by simp only[enter];simp;exact hf) h1
   split at h
   ·split at h
    ·rename_i out σ2 h2
     have k2:=yc σ1.m l k st [.int .i64 (.ofNat 1)] (by rw[k1.floor];exact hfl)
     have k3:=hB _ _ _ (by simp only;rw[k2.len,k2.floor,k1.len,k1.floor];simp only[enter];simp;exact hf) h2
     split at h
     ·split at h
      ·rename_i n _
       have k4:=yc σ2.m l k st [.int .i64 (.ofNat n)] (by rw[k3.floor,k2.floor,k1.floor];exact hfl)
       have kk:=((k1.trans k2).trans k3).trans k4
       have hl:=kk.len
       simp only[enter,w18,List.length_cons,List.length_nil,w1b] at hl
       exact jM hl hf (fun l i st cs hl hb=>kk.blk l i st cs hl (jY m hf l i st cs hl hb)) kk.nx h
      ·cases h
     ·cases h
    ·cases h
   ·cases h
  ·cases h
 ·cases h
theorem Y8 {I:YH→Oracle} (hI: ∀Y,YAbove Y→OracleAbove (I Y)) {RA RB:St→Option (Out×St)} (hA: ∀σ out σ',σ.m.floor≤σ.m.stk.length→RA σ=some (out,σ')→Above σ.m σ'.m) (hB: ∀σ out σ',σ.m.floor≤σ.m.stk.length→RB σ=some (out,σ')→Above σ.m σ'.m)
  {f:AV} {ps:List Nat} {σ σ':St} {out:Out} (h:rangeEv I RA RB f ps σ=some (out,σ')) (hf:σ.m.floor≤σ.m.stk.length):Above σ.m σ'.m:=by
 unfold rangeEv at h
 split at h
 ·split at h
  ·rename_i m2 h1
   have k0:=xb σ.m [⟨σ.m.nx,[.int .i64 (.ofNat 0)]⟩] (σ.m.nx+1) σ.m.live
   have k1:=hI _ (fun args m r m' hy hf=>by
    unfold yieldV at hy
    split at hy
    ·split at hy
     ·exact qO hA hB hy hf
     ·cases hy
    ·cases hy) _ _ _ _ _ h1 (by simp only;omega)
   split at h
   ·simp only[w01,Prod.mk.injEq] at h
    obtain⟨o,_,_,rfl⟩:=h
    have k01:=k0.trans k1
    exact k01.trans (yc _ _ _ _ _ (by rw[k01.floor];exact hf))
   ·cases h
  ·cases h
 ·cases h
theorem qq {run:St→Option (Out×St)} {from_:Nat→St→Option (Out×St)} {has:Nat→Bool} (hr: ∀σ out σ',σ.m.floor≤σ.m.stk.length→run σ=some (out,σ')→Above σ.m σ'.m) (hs: ∀l σ out σ',σ.m.floor≤σ.m.stk.length→from_ l σ=some (out,σ')→Above σ.m σ'.m):
  ∀(n:Nat) (s:Option Nat) (σ:St) (out:Out) (σ':St),σ.m.floor≤σ.m.stk.length→scopeIt run from_ has n s σ=some (out,σ')→Above σ.m σ'.m
 |0,s,σ,out,σ',_,h=>by simp[scopeIt] at h
 |n+1,s,σ,out,σ',hf,h=>by
  have one: ∀out σ',(match s with|none=>run σ|some l=>from_ l σ)=some (out,σ')→Above σ.m σ'.m:=by
   intro out σ' h
   cases s with
   |none=>exact hr _ _ _ hf h
   |some l=>exact hs _ _ _ _ hf h
  simp only[scopeIt] at h
  split at h
  ·rename_i l σ1 h1
   have k1:=one _ _ h1
   split at h
   ·exact k1.trans (qq hr hs n (some l) σ1 out σ' (by rw[k1.len,k1.floor];exact hf) h)
   ·injection h with h;injection h with _ h;rw[←h];exact k1
  ·exact one _ _ h
theorem qG {f:Mem→AV→Option (AV×Mem)} (hf: ∀{m x x' m'},f m x=some (x',m')→Above m m'): ∀{cs cs':List AV} {m m':Mem},frzL f m cs=some (cs',m')→Above m m'
 | [],cs',m,m',h=>by
  simp only[frzL,Option.some.injEq,Prod.mk.injEq] at h
  rw[←h.2];exact Above.refl _
 |c::r,cs',m,m',h=>by
  simp only[frzL,w02,w01] at h
  obtain⟨⟨c',m1⟩,h1,⟨r',m2⟩,h2,h3⟩:=h
  simp only[Prod.mk.injEq] at h3
  obtain⟨_,rfl⟩:=h3
  exact(hf h1).trans (qG hf h2)
theorem Zo: ∀(n:Nat) {m:Mem} {x x':AV} {m':Mem},frzV n m x=some (x',m')→Above m m':=by
 intro n
 induction n with
 |zero=>
  intro m x x' m' h
  unfold frzV at h
  split at h
  ·cases h
  ·rename_i h0;cases h0
  ·injection h with h;injection h with h1 h2;subst h2;exact Above.refl _
 |succ n ih=>
  intro m x x' m' h
  unfold frzV at h
  split at h
  ·cases h
  ·rename_i n' s l k st len hn
   injection hn with hn;subst hn
   split at h
   ·split at h
    ·rename_i hc
     simp only[w02] at h
     obtain⟨⟨cs',m1⟩,h1,h⟩:=h
     simp only at h
     split at h
     ·injection h with h;injection h with e1 e2
      subst e2
      have kk:=qG ih h1
      exact kk.trans (ZH m1 l k m1.nx [] _ (by rw[kk.floor];exact hc.1))
     ·cases h
    ·cases h
   ·cases h
  ·injection h with h;injection h with h1 h2;subst h2;exact Above.refl _
theorem uD: ∀(ts:List Nat) {σ σ':St},frzT ts σ=some σ'→Above σ.m σ'.m
 | [],σ,σ',h=>by
  simp only[frzT,Option.some.injEq] at h
  rw[h];exact Above.refl _
 |t::r,σ,σ',h=>by
  simp only[frzT] at h
  split at h
  ·split at h
   ·split at h
    ·rename_i hl
     simp only[w02] at h
     obtain⟨⟨cs',m1⟩,h1,h⟩:=h
     simp only at h
     split at h
     ·have k:=qG (Zo 3) h1
      exact(k.trans (yc _ _ _ _ _ (by rw[k.floor];exact hl))).trans (uD r h)
     ·cases h
    ·cases h
   ·cases h
  ·simp only[w02] at h
   obtain⟨⟨v',m1⟩,h1,h⟩:=h
   exact(Zo 3 h1).trans (uD r h)
theorem UJ {O:Ora} {n:Nat} {ts:List Nat} {l:List AOper} {σ:St} {r:Out×St} (h:ev O n (regOps ts l) σ=some r): ∃σ0,frzT ts σ=some σ0∧ev O n (.ops l) σ0=some r:=by
 cases ts with
 |nil=>exact⟨σ,rfl,h⟩
 |cons t ts=>
  simp only[regOps,ev] at h
  cases hq:frzT (t::ts) σ with
  |none=>rw[hq] at h;simp at h
  |some σ0=>
   rw[hq] at h
   exact⟨σ0,rfl,by simpa [ev] using h⟩
theorem Yq (ts:List Nat) (al:List AOper) (l:Nat):hasLbl (regOps ts al) l=false:=by cases ts<;>rfl
theorem qe {O:Ora} (hA:OraAbove O) {n:Nat}: ∀(c:ACode),(∀(σ:St) (out:Out) (σ':St),σ.m.floor≤σ.m.stk.length→ev O n c σ=some (out,σ')→Above σ.m σ'.m)∧
  ∀(l:Nat) (σ:St) (out:Out) (σ':St),σ.m.floor≤σ.m.stk.length→evF O n c l σ=some (out,σ')→Above σ.m σ'.m:=by
 intro c
 induction c with
 |bad=>exact⟨(by intro σ out σ' _ h;simp[ev] at h),fun l σ out σ' _ h=>by simp[evF] at h⟩
 |const v=>exact⟨(by
   intro σ out σ' _ h
   simp only[ev] at h
   split at h
   ·injection h with h;injection h with _ h;rw[←h];exact Above.refl _
   ·cases h),fun l σ out σ' _ h=>by simp[evF] at h⟩
 |skip=>exact⟨(by intro σ out σ' _ h;simp[ev] at h;rw[←h.2];exact Above.refl _),fun l σ out σ' _ h=>by simp[evF] at h⟩
 |ret=>exact⟨(by intro σ out σ' _ h;simp[ev] at h;rw[←h.2];exact Above.refl _),fun l σ out σ' _ h=>by simp[evF] at h⟩
 |exit id=>exact⟨(by intro σ out σ' _ h;simp[ev] at h;rw[←h.2];exact Above.refl _),fun l σ out σ' _ h=>by simp[evF] at h⟩
 |ops l=>exact⟨(by
   intro σ out σ' hf h
   simp only[ev,w01,Prod.mk.injEq] at h
   obtain⟨σ1,h1,_,rfl⟩:=h
   exact jU hA.1 hf h1),fun l σ out σ' _ h=>by simp[evF] at h⟩
 |draw l=>exact⟨(by
   intro σ out σ' hf h
   simp only[ev,w01,Prod.mk.injEq] at h
   obtain⟨σ1,h1,_,rfl⟩:=h
   obtain⟨a1,a2,a3⟩:=v6 hA.1 (σ:=⟨σ.ρ,{σ.m with floor:=max σ.m.floor (σ.m.stk.length+1)}⟩) hf rfl (by simp only;rw[Nat.max_eq_right (by omega)]) h1
   exact⟨a1,rfl,a2,a3⟩),fun l σ out σ' _ h=>by simp[evF] at h⟩
 |seq a b iha ihb=>exact⟨(by
   intro σ out σ' hf h
   simp only[ev] at h
   split at h
   ·rename_i σ1 h1
    have k:=iha.1 σ _ σ1 hf h1
    exact k.trans (ihb.1 σ1 out σ' (by rw[k.len,k.floor];exact hf) h)
   ·exact iha.1 σ out σ' hf h),fun l σ out σ' hf h=>by
   simp only[evF] at h
   split at h
   ·split at h
    ·rename_i σ1 h1
     have k:=iha.2 l σ _ σ1 hf h1
     exact k.trans (ihb.1 σ1 out σ' (by rw[k.len,k.floor];exact hf) h)
    ·exact iha.2 l σ out σ' hf h
   ·exact ihb.2 l σ out σ' hf h⟩
 |cond c a b iha ihb=>exact⟨(by
   intro σ out σ' hf h
   simp only[ev] at h
   split at h
   ·split at h
    ·exact iha.1 σ out σ' hf h
    ·exact ihb.1 σ out σ' hf h
   ·cases h),fun l σ out σ' _ h=>by simp[evF] at h⟩
 |block id a iha=>exact⟨(by
   intro σ out σ' hf h
   simp only[ev] at h
   split at h
   ·rename_i i σ1 h1
    have k:=iha.1 σ _ σ1 hf h1
    split at h
    ·injection h with h;injection h with _ h;rw[←h];exact k
    ·injection h with h;injection h with _ h;rw[←h];exact k
   ·exact iha.1 σ out σ' hf h),fun l σ out σ' _ h=>by simp[evF] at h⟩
 |loop live a iha=>exact⟨(by
   intro σ out σ' hf h
   simp only[ev] at h
   exact Zk (fun σ out σ' hl h=>iha.1 σ out σ' hl h) n σ out σ' hf h),fun l σ out σ' _ h=>by simp[evF] at h⟩
 |scope a iha=>exact⟨fun σ out σ' hf h=>by
   simp only[ev] at h
   exact qq iha.1 iha.2 n none σ out σ' hf h,fun l σ out σ' _ h=>by simp[evF] at h⟩
 |label l=>exact⟨fun σ out σ' _ h=>by simp[ev] at h;rw[←h.2];exact Above.refl _,fun l σ out σ' _ h=>by simp[evF] at h;rw[←h.2];exact Above.refl _⟩
 |goto l=>exact⟨fun σ out σ' _ h=>by simp[ev] at h;rw[←h.2];exact Above.refl _,fun l σ out σ' _ h=>by simp[evF] at h⟩
 |rangeF f ps a b iha ihb=>exact⟨fun σ out σ' hf h=>by
   simp only[ev] at h
   exact Y8 hA.2 iha.1 ihb.1 h hf,fun l σ out σ' _ h=>by simp[evF] at h⟩
 |frz ts=>exact⟨fun σ out σ' _ h=>by
   simp only[ev,w01,Prod.mk.injEq] at h
   obtain⟨σ1,h1,_,rfl⟩:=h
   exact uD ts h1,fun l σ out σ' _ h=>by simp[evF] at h⟩
theorem uf {O:Ora} (hA:OraAbove O) {n:Nat} (c:ACode) (σ:St) (out:Out) (σ':St) (hf:σ.m.floor≤σ.m.stk.length) (h:ev O n c σ=some (out,σ')):Above σ.m σ'.m:=(qe hA c).1 σ out σ' hf h
section
variable {P : Program} {O : Ora}
theorem Zl {g:G} {w:World} {live:List Nat} {ρ:List AV} {vs:List Value} (h:Reps g w ρ vs):Reps g w (clean live ρ) vs:=by
 refine⟨by simp[clean,h.1],fun j c v h1 h2=> ?_⟩
 unfold clean at h1
 rw[w13,List.getElem?_zipIdx] at h1
 cases hq:ρ[j]? with
 |none=>rw[hq] at h1;simp at h1
 |some x=>
  rw[hq] at h1
  simp only[w05,w1b,Option.some.injEq] at h1
  split at h1
  ·subst h1;exact h.2 j x v hq h2
  ·subst h1;exact .undef v
theorem Uy (live:List Nat) (nb:Nat) (cur:List Blk):(cut live nb cur).Sublist cur:=by
 unfold cut
 split
 ·exact List.Sublist.refl _
 ·exact List.take_sublist _ _
theorem X4 {g:G} {w:World} {live:List Nat} {nb:Nat} {σ:St} (I:Inv g w σ.m):Inv g w (heads live nb σ).m:=by
 refine I.sub (fun bl hb=> ?_) ?_ (w0e _) (List.Sublist.refl _)
 ·simp only[heads,Mem.all,w08] at hb⊢
  rcases hb with hb|hb
  ·exact .inl hb
  ·exact .inr ((Uy _ _ _).subset hb)
 ·refine List.Nodup.sublist ?_ I.nd
  simp only[heads,Mem.all]
  exact((List.Sublist.refl _).append (Uy _ _ _)).map _
def markD (D:Nat):Deferred:={target:= .collected D,args:= #[]}
def Marks (w:World) (ds:List Deferred) (w':World):Prop:= ∃Ds:List Nat,ds=Ds.map markD∧Ds.Nodup∧ ∀D∈Ds,w.heap.size≤D∧w'.heap[D]? =some (.deferred (some []))
theorem Marks.nil (w w':World):Marks w [] w':=⟨[],rfl,List.nodup_nil,fun D h=>by cases h⟩
theorem ExtW.size {g g':G} {w w':World} (h:ExtW g w g' w'):w.heap.size≤w'.heap.size:=h.below.size
theorem Marks.trans {g1 g2:G} {w w1 w2:World} {d1 d2:List Deferred} (h1:Marks w d1 w1) (hx:ExtW g1 w1 g2 w2) (hs:w.heap.size≤w1.heap.size) (h2:Marks w1 d2 w2):Marks w (d2++d1) w2:=by
 obtain⟨D1,rfl,n1,a1⟩:=h1
 obtain⟨D2,rfl,n2,a2⟩:=h2
 refine⟨D2++D1,by simp,w22.2 ⟨n2,n1,fun x hx2 y hy e=> ?_⟩,fun D hD=> ?_⟩
 ·have:=(a2 x hx2).1
  have h3:=(w12.1 (a1 y hy).2).1
  omega
 ·rcases w08.1 hD with h|h
  ·exact⟨by have:=(a2 D h).1;omega,(a2 D h).2⟩
  ·exact⟨(a1 D h).1,hx.oth _ _ (a1 D h).2⟩
def GoesD (g:G) (w:World) (a:Act) (ρ:List AV) (m:Mem) (K:Act→World→Prop):Prop:=
 ∀g' a' w' ds,Ext g w g' w'→Inv g' w' m→Reps g' w' ρ a'.tmps.toList→a'.defers=ds++a.defers→Marks w ds w'→K a' w'
theorem GoesD.goes {g:G} {w:World} {a:Act} {ρ:List AV} {m:Mem} {K:Act→World→Prop} (h:GoesD g w a ρ m K):Goes g w a ρ m K:=
 fun g' a' w' h1 h2 h3 h4=>h g' a' w' [] h1 h2 h3 h4 (Marks.nil _ _)
theorem GoesD.step {g g1:G} {w w1:World} {a a1:Act} {ρ:List AV} {m:Mem} {K:Act→World→Prop} (h:GoesD g w a ρ m K) (hx:Ext g w g1 w1) {d:List Deferred} (hd:a1.defers=d++a.defers) (hm:Marks w d w1):GoesD g1 w1 a1 ρ m K:=
 fun g' a' w' ds h1 h2 h3 h4 h5=>h g' a' w' (ds++d) (hx.trans h1) h2 h3 (by rw[h4,hd,w11]) (hm.trans h1.toExtW hx.toExtW.size h5)
theorem jQ: ∀(c:Code) (ann:List (List Nat)) (ac:ACode) (rest:List (List Nat)),comp P c ann=some (ac,rest)→ ∀l,hasLbl ac l=(findLabel c l).isSome:=by
 have bad: ∀(x:Option ACode),(∀c,x=some c→ ∀l,hasLbl c l=false)→ ∀l,hasLbl (orBad x) l=false:=by
  intro x h l
  cases x with
  |none=>rfl
  |some c=>exact h c rfl l
 intro c
 induction c with
 |skip=>intro ann ac rest hc l;simp[comp] at hc;rw[←hc.1];rfl
 |ret=>intro ann ac rest hc l;simp[comp] at hc;rw[←hc.1];rfl
 |exit id=>intro ann ac rest hc l;simp[comp] at hc;rw[←hc.1];rfl
 |goto id=>intro ann ac rest hc l;simp[comp] at hc;rw[←hc.1];rfl
 |refuse id=>intro ann ac rest hc l;simp[comp] at hc;rw[←hc.1];rfl
 |label l'=>intro ann ac rest hc l;simp[comp] at hc;rw[←hc.1];simp only[hasLbl,findLabel];cases l'==l<;>rfl
 |region id ops draw=>
  intro ann ac rest hc l
  cases draw with
  |false=>
   simp only[comp,Option.some.injEq,Prod.mk.injEq] at hc
   obtain⟨rfl,rfl⟩:=hc
   rw[bad _ (fun c h l=>by simp only[w01] at h;obtain⟨_,_,rfl⟩:=h;exact Yq _ _ _)];rfl
  |true=>
   simp only[comp,Option.some.injEq,Prod.mk.injEq] at hc
   obtain⟨rfl,rfl⟩:=hc
   rw[bad _ (fun c h l=>by simp only[w01] at h;obtain⟨_,_,rfl⟩:=h;rfl)];rfl
 |seq x y ihx ihy=>
  intro ann ac rest hc l
  simp only[comp,w02,w01,Prod.mk.injEq] at hc
  obtain⟨⟨ax,r1⟩,hx,⟨ay,r2⟩,hy,rfl,rfl⟩:=hc
  simp only[hasLbl,findLabel,ihx _ _ _ hx l,ihy _ _ _ hy l]
  cases findLabel x l<;>simp
 |cond c x y ihx ihy=>
  intro ann ac rest hc l
  simp only[comp,w02,w01,Prod.mk.injEq] at hc
  obtain⟨d,hd,⟨ax,r1⟩,hx,⟨ay,r2⟩,hy,rfl,rfl⟩:=hc
  rfl
 |block id x ihx=>
  intro ann ac rest hc l
  simp only[comp,w01,Prod.mk.injEq] at hc
  obtain⟨_,_,rfl,_⟩:=hc
  rfl
 |scope x ihx=>
  intro ann ac rest hc l
  simp only[comp,w01,Prod.mk.injEq] at hc
  obtain⟨_,_,rfl,_⟩:=hc
  rfl
 |loop x ihx=>
  intro ann ac rest hc l
  cases ann with
  |nil=>simp[comp] at hc
  |cons live ann'=>
   simp only[comp,w01,Prod.mk.injEq] at hc
   obtain⟨_,_,rfl,_⟩:=hc
   rfl
 |rangeFunc f ps x y ihx ihy=>
  intro ann ac rest hc l
  simp only[comp,w02,w01,Prod.mk.injEq] at hc
  obtain⟨⟨ax,r1⟩,hx,⟨ay,r2⟩,hy,rfl,rfl⟩:=hc
  simp only[findLabel]
  split
  ·split<;>rfl
  ·rfl
theorem jG {g:G} {w:World}: ∀(ps:List Nat) (aS:List AV) (vs:List Value) (ρ:List AV) (tm:Array Value),Reps g w ρ tm.toList→Reps g w aS vs→
  Reps g w (setAll ρ ps aS) ((ps.zip vs).foldl (fun tmps (t,a)=>tmps.setIfInBounds t a) tm).toList
 | [],aS,vs,ρ,tm,h,_=>by simp[setAll];exact h
 |p::ps,[],vs,ρ,tm,h,ha=>by
  have:vs=[]:=w10 ha.1
  subst this;simp[setAll];exact h
 |p::ps,x::aS,vs,ρ,tm,h,ha=>by
  obtain⟨v,r,rfl,h1,h2⟩:=ha.head
  simp only[setAll,List.zip_cons_cons,List.foldl_cons]
  refine jG ps aS r _ _ ?_ h2
  rw[Array.toList_setIfInBounds]
  exact h.set h1 p
theorem uz {m:Mem} {l k st n:Nat} (h:loopSt m l k st=some n):m.blk l k st=some [.int .i64 (.ofNat n)]:=by
 unfold loopSt at h
 split at h
 ·rename_i n' hb;injection h with h;subst h;exact hb
 ·cases h
theorem Z8 {g:G} {w:World} {m:Mem} (I:Inv g w m) {l k st n L:Nat} (h:loopSt m l k st=some n) (hm:g.mp st=some L): ∃r,w.heap[L]? =some (.loop r)∧LoopSt n r:=by
 have hb:=uz h
 obtain⟨b,r,n',h1,h2,h3,h4,h5⟩:=I.loop (zj hb) hm rfl
 simp only at h1 h3
 rw[hm] at h1
 injection h1 with h1;subst h1
 have:n=n':=by injection h3 with h3 _;injection h3 with _ h3;injection h3
 subst this
 exact⟨r,h4,h5⟩
def OraOk (P:Program) (O:Ora):Prop:= ∀C Y,(∀args m r m',Y args m=some (r,m')→m.floor≤m.stk.length+1→YieldOk P C args m r m')→YAbove Y→
 ∀f args m r m',O.iter Y (some f) args m=some (r,m')→m.floor≤m.stk.length+1→CallOk P C f args m r m'
def loopCtx (C:Ctx) (st L:Nat) (ρ:List AV) (r0:Loop):Ctx where
 Z g w:=C.Z g w∧g.mp st=some L∧Reps g w ρ r0.tmps.toList∧ ∃s p,w.heap[L]? =some (.loop {r0 with state:=s,pending:=p})
 mono:=fun{g w g' w'} hx ⟨h1,h2,h3,s,p,h4⟩=>⟨C.mono hx h1,hx.mp _ _ h2,h3.monoW hx,by
  obtain⟨s',p',h5⟩:=hx.oth _ _ h4
  exact⟨s',p',h5⟩⟩
theorem Xp {RA RB:St→Option (Out×St)} (hA: ∀σ out σ',σ.m.floor≤σ.m.stk.length→RA σ=some (out,σ')→Above σ.m σ'.m) (hB: ∀σ out σ',σ.m.floor≤σ.m.stk.length→RB σ=some (out,σ')→Above σ.m σ'.m)
  {ps:List Nat} {ρ:List AV} {l k st:Nat}:YAbove (yieldV RA RB ps ρ l k st):=by
 intro args m r m' hy hf
 unfold yieldV at hy
 split at hy
 ·split at hy
  ·exact qO hA hB hy hf
  ·cases hy
 ·cases hy
theorem UG {C:Ctx} {x y:Code} {RA RB:St→Option (Out×St)} {L:Nat} (hA0: ∀σ out σ',σ.m.floor≤σ.m.stk.length→RA σ=some (out,σ')→Above σ.m σ'.m)
  (hA: ∀{σ:St} {out:Out} {σ':St} {g:G} {w:World} {a:Act} {Q:Exit→Act→World→Prop},C.Z g w→RA σ=some (out,σ')→σ.m.floor≤σ.m.stk.length→Reps g w σ.ρ a.tmps.toList→Inv g w σ.m→GoesD g w a σ'.ρ σ'.m (Q out.exit')→x.wpIn (FW (some L)) 0 P Q a w)
  (hB: ∀{σ:St} {out:Out} {σ':St} {g:G} {w:World} {a:Act} {Q:Exit→Act→World→Prop},C.Z g w→RB σ=some (out,σ')→σ.m.floor≤σ.m.stk.length→Reps g w σ.ρ a.tmps.toList→Inv g w σ.m→GoesD g w a σ'.ρ σ'.m (Q out.exit')→y.wpIn (FW (some L)) 0 P Q a w)
  {ρ:List AV} {l k st:Nat} {r0:Loop} (hr1:r0.assign=x) (hr2:r0.body=y) {args:List AV} {m m':Mem} {r:AV} (h:yieldV RA RB r0.params.toList ρ l k st args m=some (r,m')) (hf:m.floor≤m.stk.length+1):YieldOk P (loopCtx C st L ρ r0) args m r m':=by
 intro yv aS hargs g w v vs hZ I hv hvs
 subst hargs
 unfold yieldV at h
 split at h
 rotate_left
 ·cases h
 rename_i l' k' st' as' heq
 injection heq with e1 e2
 subst e1;subst e2
 split at h
 rotate_left
 ·cases h
 rename_i hc
 obtain⟨q1,q2,q3⟩:=hc
 replace q1:=q1.symm;replace q2:=q2.symm;replace q3:=q3.symm
 subst q1;subst q2;subst q3
 obtain⟨hz,hmp,hρ,s,p,hL⟩:=hZ
 have hvL:v= .func (.yield L) #[] #[]:=by
  cases hv with
  |yld _ _ _ b hb=>rw[hmp] at hb;injection hb with hb;subst hb;rfl
 unfold roundV at h
 split at h
 rotate_left
 ·cases h
 rename_i hcond
 obtain⟨hst0,hlen,hfl,hl⟩:=hcond
 obtain⟨r1,hr1',hs1⟩:=Z8 I hst0 hmp
 rw[hL] at hr1'
 injection hr1' with hr1';injection hr1' with hr1';subst hr1'
 split at h
 rotate_left
 ·cases h
 rename_i σ1 hRA
 split at h
 rotate_left
 ·cases h
 rename_i hst1
 split at h
 rotate_left
 ·cases h
 rename_i out σ2 hRB
 split at h
 rotate_left
 ·cases h
 rename_i hst2
 split at h
 rotate_left
 ·cases h
 rename_i n hn
 have hvsl:vs.toArray.size=r0.params.size:=by
  have:=hvs.1;simp only[List.size_toArray];rw[this,hlen];simp
 refine⟨L,_,_,_,_,hvL,run_yield hL hvsl,?_⟩
 have hzip:(r0.params.zip vs.toArray).foldl (fun tmps (t,a)=>tmps.setIfInBounds t a) r0.tmps=(r0.params.toList.zip vs).foldl (fun tmps (t,a)=>tmps.setIfInBounds t a) r0.tmps:=by
  rw[←Array.foldl_toList];simp
 have hreps:=jG r0.params.toList aS vs ρ r0.tmps hρ hvs
 rw[←hzip] at hreps
 have hflE:(enter m).floor≤(enter m).stk.length:=by simp only[enter];simp;exact hf
 have k1:=hA0 _ _ _ hflE hRA
 refine roundIn_of_wpIn (F:=Fence.wide) trivial ?_
 simp only[hr1,hr2]
 refine hA (σ:=⟨setAll ρ r0.params.toList aS,enter m⟩) hz hRA hflE hreps (Xf I) fun g1 a1 w1 ds1 hx1 I1 hR1 _ _=> ?_
 obtain⟨s1,p1,hL1⟩:=hx1.toExtW.oth _ _ hL
 have hmp1:=hx1.mp _ _ hmp
 obtain⟨r1,hr1',hs1'⟩:=Z8 I1 hst1 hmp1
 rw[hL1] at hr1'
 injection hr1' with hr1';injection hr1' with hr1';subst hr1'
 have hready:s1= .ready:=by
  rcases hs1' with⟨_,h,_⟩|⟨h,_⟩|⟨h,_⟩|⟨_,h,_⟩
  ·exact h
  ·cases h
  ·cases h
  ·omega
 refine⟨_,run_beginRound hL1 hready,?_⟩
 obtain⟨e2,I2⟩:=I1.put_loop (n':=1) (s':= .busy) (p':=p1) (uz hst1) hmp1 hL1 (.inr (.inl ⟨rfl,.inl rfl⟩))
 refine hB (σ:=⟨σ1.ρ,σ1.m.put l k st [.int .i64 (.ofNat 1)]⟩) (C.mono e2.toExtW (C.mono hx1.toExtW hz)) hRB ?_ (hR1.mono e2) I2 fun g3 a3 w3 ds3 hx3 I3 hR3 _ _=> ?_
 ·have k2:=yc σ1.m l k st [.int .i64 (.ofNat 1)] (by rw[k1.floor];exact hfl)
  simp only
  rw[k2.len,k2.floor,k1.len,k1.floor];exact hflE
 have hL2:(setMap w1 L (.loop {r0 with state:= .busy,pending:=p1})).heap[L]? =some (.loop {r0 with state:= .busy,pending:=p1}):=by
  have:L<w1.heap.size:=(w12.1 hL1).1
  simp[setMap,this]
 obtain⟨s3,p3,hL3⟩:=hx3.toExtW.oth _ _ hL2
 have hmp3:=hx3.mp _ _ (e2.mp _ _ hmp1)
 have fin: ∀(jump:Option Code),LoopSt n {r0 with state:=(if jump.isNone then .ready else .done),pending:=jump}→(n==0)=jump.isNone→
   ∃v w',(Instr.endRound L jump).run P w3= .ok v w'∧ ∃v' g',Ending.returned v= .returned v'∧Ext g w g' w'∧Inv g' w' m'∧Rep g' w' r v':=by
  intro jump hst hj
  obtain⟨e4,I4⟩:=I3.put_loop (n':=n) (s':=if jump.isNone then .ready else .done) (p':=jump) (uz hst2) hmp3 hL3 hst
  obtain⟨I5,hr5⟩:=jL I4 h (.bool (n==0))
  refine⟨_,_,run_endRound jump hL3,_,g3,rfl,((hx1.trans e2).trans hx3).trans e4,I5,?_⟩
  rw[hj] at hr5;exact hr5
 cases out with
 |normal=>
  injection hn with hn;subst hn
  exact fin none (.inl ⟨rfl,rfl,rfl⟩) rfl
 |ret=>
  injection hn with hn;subst hn
  exact fin (some .ret) (.inr (.inr (.inl ⟨rfl,rfl,rfl⟩))) rfl
 |exit id=>
  injection hn with hn;subst hn
  exact fin (some (.exit id)) (.inr (.inr (.inr ⟨id,rfl,rfl,rfl⟩))) (by simp)
 |goto l=>cases hn
theorem Vw {C:Ctx} {x y:Code} {RA RB:St→Option (Out×St)} (hO:OraOk P O) (hA0: ∀σ out σ',σ.m.floor≤σ.m.stk.length→RA σ=some (out,σ')→Above σ.m σ'.m) (hB0: ∀σ out σ',σ.m.floor≤σ.m.stk.length→RB σ=some (out,σ')→Above σ.m σ'.m)
  (hA: ∀(L:Nat) {σ:St} {out:Out} {σ':St} {g:G} {w:World} {a:Act} {Q:Exit→Act→World→Prop},C.Z g w→RA σ=some (out,σ')→σ.m.floor≤σ.m.stk.length→Reps g w σ.ρ a.tmps.toList→Inv g w σ.m→GoesD g w a σ'.ρ σ'.m (Q out.exit')→x.wpIn (FW (some L)) 0 P Q a w)
  (hB: ∀(L:Nat) {σ:St} {out:Out} {σ':St} {g:G} {w:World} {a:Act} {Q:Exit→Act→World→Prop},C.Z g w→RB σ=some (out,σ')→σ.m.floor≤σ.m.stk.length→Reps g w σ.ρ a.tmps.toList→Inv g w σ.m→GoesD g w a σ'.ρ σ'.m (Q out.exit')→y.wpIn (FW (some L)) 0 P Q a w)
  {f:Operand} {d:Opd} (hd:compOpd f=some d) {ps:Array Tmp} {N:Nat} {σ σ':St} {out:Out} {g:G} {w:World} {a:Act} {Q:Exit→Act→World→Prop} (hz:C.Z g w) (h:rangeEv O.iter RA RB (d.ev σ.ρ) ps.toList σ=some (out,σ'))
  (hf:σ.m.floor≤σ.m.stk.length) (hR:Reps g w σ.ρ a.tmps.toList) (I:Inv g w σ.m) (hK:GoesD g w a σ'.ρ σ'.m (Q out.exit')):(Code.rangeFunc f ps x y).wpIn (FW none) N P Q a w:=by
 unfold rangeEv at h
 split at h
 rotate_left
 ·cases h
 rename_i gi caps hfe
 split at h
 rotate_left
 ·cases h
 rename_i v2 m2 hcall
 split at h
 rotate_left
 ·cases h
 rename_i n hn
 simp only[w01,Prod.mk.injEq] at h
 obtain⟨o,hjump,rfl,rfl⟩:=h
 obtain⟨f1,c1,hv,k1,k2⟩:=Xj hR hd hfe
 have hf1:f1=[]:=w10 k1.1
 subst hf1
 refine wpIn_rangeFunc fun fn _=> ?_
 have hI1:=(I.alloc_sealed (.deferred (some []))).2
 have hx0:=(I.alloc_sealed (.deferred (some []))).1
 let r0:Loop:={state:= .ready,pending:=none,fn,tmps:=a.tmps,params:=ps,assign:=x,body:=y,defers:=w.heap.size}
 obtain⟨g1,hx1,I1,hmp1⟩:=hI1.alloc_loop r0 (.inl ⟨rfl,rfl,rfl⟩)
 have hsz:(w.alloc (.deferred (some []))).heap.size=w.heap.size+1:=by simp
 rw[hsz] at hmp1
 have hx01:=hx0.trans hx1
 have hL1:((w.alloc (.deferred (some []))).alloc (.loop r0)).heap[w.heap.size+1]? =some (.loop r0):=by
  have:=xo (w.alloc (.deferred (some []))) (.loop r0);rwa [hsz] at this
 have hD0:(w.alloc (.deferred (some []))).heap[w.heap.size]? =some (.deferred (some [])):=xo w _
 have hC:=hO (loopCtx C σ.m.nx (w.heap.size+1) σ.ρ r0) _ (fun args m r m' hy hfl=>UG (P:=P) (C:=C) (r0:=r0) (L:=w.heap.size+1) (x:=x) (y:=y) hA0 (hA _) (hB _) rfl rfl hy hfl) (Xp hA0 hB0) gi _ _ _ _ hcall (by simp only;omega)
 obtain⟨⟨fn',hfn,hname,hbody⟩,hcalls⟩:=hC
 have hargs:Reps g1 ((w.alloc (.deferred (some []))).alloc (.loop r0)) (.yld σ.m.stk.length σ.m.cur.length σ.m.nx::caps) (.func (.yield (w.heap.size+1)) #[] #[]::c1):=
  Reps.cons (.yld _ _ _ _ hmp1) (k2.mono hx01)
 have hcall1:=hcalls g1 _ _ ⟨C.mono hx01.toExtW hz,hmp1,hR.mono hx01,.ready,none,hL1⟩ I1 hargs
 refine⟨w.heap.size+1,[markD w.heap.size],_,{target:= .fn (.func gi) c1.toArray,args:= #[.func (.yield (w.heap.size+1)) #[] #[]]},(w.alloc (.deferred (some []))).alloc (.loop r0),gi,(.func (.yield (w.heap.size+1)) #[] #[]::c1).toArray,_,run_enterLoop_outer _ _ _ _ _,?_,fun _ _=>trivial,?_,fun h=>by simp[FW,Fence.wide] at h,(Zy hcall1).mono ?_⟩
 ·simp only[resolve,rangeCall,hv]
  simp[Deferred.ofValue,Act.eval]
  try rfl
 ·have harr: #[Value.func (Fn.yield (w.heap.size+1)) #[] #[]]++c1.toArray=(Value.func (Fn.yield (w.heap.size+1)) #[] #[]::c1).toArray:=by simp
  simp only[invoke,callFunc,Sem.run_bind,Result.andThen_ok,run_program,hfn,hname,hbody,w0c,if_false,harr]
  rfl
 rintro e w3 ⟨v,g3,rfl,hx3,I3,_⟩
 have hmp3:=hx3.mp _ _ hmp1
 obtain⟨r3,hr3,hs3⟩:=Z8 I3 hn hmp3
 obtain⟨s3,p3,hL3⟩:=hx3.toExtW.oth _ _ hL1
 rw[hL3] at hr3
 injection hr3 with hr3;injection hr3 with hr3;subst hr3
 have hb3:({r0 with state:=s3,pending:=p3}:Loop).state≠ .busy:=by
  intro e
  have e:s3= .busy:=e
  subst e
  rcases hs3 with⟨_,h,_⟩|⟨h,_⟩|⟨_,h,_⟩|⟨_,_,h,_⟩
  ·cases h
  ·subst h;cases hjump
  ·cases h
  ·cases h
 obtain⟨e4,I4⟩:=I3.put_loop (n':=1) (s':= .exhausted) (p':=p3) (uz hn) hmp3 hL3 (.inr (.inl ⟨rfl,.inr rfl⟩))
 have hxx:=(hx01.trans hx3).trans e4
 have hfinal: ∀w4,w4=setMap w3 (w.heap.size+1) (.loop {r0 with state:= .exhausted,pending:=p3})→Q o.exit' {a with defers:=[markD w.heap.size]++a.defers} w4:=by
  rintro w4 rfl
  refine hK g3 {a with defers:=[markD w.heap.size]++a.defers} _ [markD w.heap.size] hxx I4 (hR.mono hxx) rfl ⟨[w.heap.size],rfl,by simp,fun D hD=> ?_⟩
  simp only[w27] at hD
  subst hD
  refine⟨w0e _,?_⟩
  have h1:((w.alloc (.deferred (some []))).alloc (.loop r0)).heap[w.heap.size]? =some (.deferred (some [])):=hx1.toExtW.oth _ _ hD0
  exact e4.toExtW.oth _ _ (hx3.toExtW.oth _ _ h1)
 refine⟨p3,_,run_endLoop hL3 hb3,?_⟩
 rcases hs3 with⟨rfl,_,hp⟩|⟨rfl,_⟩|⟨rfl,_,hp⟩|⟨id,rfl,_,hp⟩
 ·have hp:p3=none:=hp
  have ho:o= .normal:=by injection hjump with h;exact h.symm
  subst ho
  have:=hfinal _ rfl
  subst hp
  exact this
 ·cases hjump
 ·have hp:p3=some .ret:=hp
  have ho:o= .ret:=by injection hjump with h;exact h.symm
  subst ho
  have:=hfinal _ rfl
  subst hp
  exact wpIn_ret this
 ·have hp:p3=some (.exit id):=hp
  have ho:o= .exit id:=by
   rw[show 3+id=id+3 by omega] at hjump
   injection hjump with h;exact h.symm
  subst ho
  have:=hfinal _ rfl
  subst hp
  exact wpIn_exit this
theorem z0J (hM:P.follows .mixedOrders=true) (hI:OraOk P O) (hA:OraAbove O) (n:Nat): ∀(c:Code) (ann:List (List Nat)) (ac:ACode) (rest:List (List Nat)),comp P c ann=some (ac,rest)→
  (∀{C:Ctx} {rr:Option Nat} {N:Nat},OracleOk P C O.call→(rr=none∨noRange ac=true)→ ∀(σ:St) (out:Out) (σ':St) (g:G) (w:World) (a:Act) (Q:Exit→Act→World→Prop),C.Z g w→ev O n ac σ=some (out,σ')→σ.m.floor≤σ.m.stk.length→Reps g w σ.ρ a.tmps.toList→Inv g w σ.m→
   GoesD g w a σ'.ρ σ'.m (Q out.exit')→c.wpIn (FW rr) N P Q a w)∧
  (∀{C:Ctx} {rr:Option Nat} {N:Nat},OracleOk P C O.call→(rr=none∨noRange ac=true)→ ∀(l:Nat) (cl:Code),findLabel c l=some cl→ ∀(σ:St) (out:Out) (σ':St) (g:G) (w:World) (a:Act) (Q:Exit→Act→World→Prop),C.Z g w→evF O n ac l σ=some (out,σ')→σ.m.floor≤σ.m.stk.length→Reps g w σ.ρ a.tmps.toList→Inv g w σ.m→
   GoesD g w a σ'.ρ σ'.m (Q out.exit')→cl.wpIn (FW rr) N P Q a w):=by
 intro c
 induction c with
 |skip=>
  intro ann ac rest hc
  simp[comp] at hc
  obtain⟨rfl,rfl⟩:=hc
  refine⟨?_,fun _ _ l cl h=>by simp[findLabel] at h⟩
  intro C rr N hO _ σ out σ' g w a Q hz he _ hR I hK
  simp[ev] at he
  obtain⟨rfl,rfl⟩:=he
  exact wpIn_skip (hK.goes g a w (Ext.refl g w) I hR rfl)
 |ret=>
  intro ann ac rest hc
  simp[comp] at hc
  obtain⟨rfl,rfl⟩:=hc
  refine⟨?_,fun _ _ l cl h=>by simp[findLabel] at h⟩
  intro C rr N hO _ σ out σ' g w a Q hz he _ hR I hK
  simp[ev] at he
  obtain⟨rfl,rfl⟩:=he
  exact wpIn_ret (hK.goes g a w (Ext.refl g w) I hR rfl)
 |exit id=>
  intro ann ac rest hc
  simp[comp] at hc
  obtain⟨rfl,rfl⟩:=hc
  refine⟨?_,fun _ _ l cl h=>by simp[findLabel] at h⟩
  intro C rr N hO _ σ out σ' g w a Q hz he _ hR I hK
  simp[ev] at he
  obtain⟨rfl,rfl⟩:=he
  exact wpIn_exit (hK.goes g a w (Ext.refl g w) I hR rfl)
 |goto id=>
  intro ann ac rest hc
  simp[comp] at hc
  obtain⟨rfl,rfl⟩:=hc
  refine⟨?_,fun _ _ l cl h=>by simp[findLabel] at h⟩
  intro C rr N hO _ σ out σ' g w a Q hz he _ hR I hK
  simp[ev] at he
  obtain⟨rfl,rfl⟩:=he
  exact wpIn_goto (hK.goes g a w (Ext.refl g w) I hR rfl)
 |label id=>
  intro ann ac rest hc
  simp[comp] at hc
  obtain⟨rfl,rfl⟩:=hc
  refine⟨?_,?_⟩
  ·intro C rr N hO _ σ out σ' g w a Q hz he _ hR I hK
   simp[ev] at he
   obtain⟨rfl,rfl⟩:=he
   exact wpIn_label (hK.goes g a w (Ext.refl g w) I hR rfl)
  ·intro C rr N hO _ l cl h σ out σ' g w a Q hz he _ hR I hK
   simp[evF] at he
   obtain⟨rfl,rfl⟩:=he
   simp only[findLabel] at h
   split at h
   ·injection h with h;subst h
    exact wpIn_skip (hK.goes g a w (Ext.refl g w) I hR rfl)
   ·cases h
 |refuse why=>
  intro ann ac rest hc
  simp[comp] at hc
  obtain⟨rfl,rfl⟩:=hc
  refine⟨?_,fun _ _ l cl h=>by simp[findLabel] at h⟩
  intro C rr N hO _ σ out σ' g w a Q hz he
  simp[ev] at he
 |region id ops draw=>
  intro ann ac rest hc
  refine⟨?_,fun _ _ l cl h=>by simp[findLabel] at h⟩
  intro C rr N hO _ σ out σ' g w a Q hz he hf hR I hK
  cases draw with
  |false=>
   simp only[comp,Option.some.injEq,Prod.mk.injEq] at hc
   obtain⟨rfl,rfl⟩:=hc
   obtain⟨c,hc,he⟩:=Wo he
   simp only[w01] at hc
   obtain⟨l,hl,rfl⟩:=hc
   obtain⟨σ0,hfz,he⟩:=UJ he
   obtain⟨g1,x1,I1,r1⟩:=uC _ hfz I hR
   have kf:=uD _ hfz
   simp only[ev,w01,Prod.mk.injEq] at he
   obtain⟨σ1,h1,rfl,rfl⟩:=he
   exact wpIn_region_list (XD hO hA.1 (C.mono x1.toExtW hz) hl (by rw[kf.floor,kf.len];exact hf) h1 r1 I1 (hK.step x1 (a1:=a) (d:=[]) rfl (Marks.nil _ _)).goes)
  |true=>
   simp only[comp,Option.some.injEq,Prod.mk.injEq] at hc
   obtain⟨rfl,rfl⟩:=hc
   obtain⟨c,hc,he⟩:=Wo he
   simp only[w01] at hc
   obtain⟨l,hl,rfl⟩:=hc
   simp only[ev,w01,Prod.mk.injEq] at he
   obtain⟨σ1,h1,rfl,rfl⟩:=he
   exact z0b hM hO hA.1 hl hf h1 hz hR I (fun g' a' w' hx hI hR' hd'=>hK.goes g' a' w' hx (qd _ hI) hR' hd')
 |seq x y ihx ihy=>
  intro ann ac rest hc
  have hlx: ∀l,(∀ax,∀r1,comp P x ann=some (ax,r1)→hasLbl ax l=(findLabel x l).isSome):=fun l ax r1 h=>jQ x ann ax r1 h l
  simp only[comp,w02,w01,Prod.mk.injEq] at hc
  obtain⟨⟨ax,r1⟩,hx,⟨ay,r2⟩,hy,rfl,rfl⟩:=hc
  have hsplit: ∀{rr:Option Nat},(rr=none∨noRange (.seq ax ay)=true)→(rr=none∨noRange ax=true)∧(rr=none∨noRange ay=true):=by
   intro rr h
   rcases h with h|h
   ·exact⟨.inl h,.inl h⟩
   ·simp only[noRange,w04] at h
    exact⟨.inr h.1,.inr h.2⟩
  have two: ∀{C:Ctx} {rr:Option Nat} {N:Nat},OracleOk P C O.call→(rr=none∨noRange ay=true)→ ∀(z:Code) (r:Option (Out×St)) (σ:St) (out:Out) (σ':St) (g:G) (w:World) (a:Act) (Q:Exit→Act→World→Prop),C.Z g w→σ.m.floor≤σ.m.stk.length→
    (match r with|some (.normal,σ1)=>ev O n ay σ1|r=>r)=some (out,σ')→(∀out σ1,r=some (out,σ1)→Above σ.m σ1.m)→
    (∀out σ1 (Q:Exit→Act→World→Prop),r=some (out,σ1)→GoesD g w a σ1.ρ σ1.m (Q out.exit')→z.wpIn (FW rr) N P Q a w)→GoesD g w a σ'.ρ σ'.m (Q out.exit')→(Code.seq z y).wpIn (FW rr) N P Q a w:=by
   intro C rr N hO hr z r σ out σ' g w a Q hz hf he hab hz1 hK
   refine wpIn_seq ?_
   split at he
   ·rename_i σ1
    have k:=hab _ _ rfl
    refine hz1 _ _ _ rfl fun g1 a1 w1 d1 hx1 hI1 hR1 hd1 hm1=> ?_
    exact(ihy _ _ _ hy).1 hO hr σ1 out σ' g1 w1 a1 Q (C.mono hx1.toExtW hz) he (by rw[k.len,k.floor];exact hf) hR1 hI1 (hK.step hx1 hd1 hm1)
   ·rename_i hne
    refine hz1 _ _ _ he fun g1 a1 w1 d1 hx1 hI1 hR1 hd1 hm1=> ?_
    cases out with
    |normal=>exact absurd he (hne σ')
    |exit id=>exact hK g1 a1 w1 d1 hx1 hI1 hR1 hd1 hm1
    |ret=>exact hK g1 a1 w1 d1 hx1 hI1 hR1 hd1 hm1
    |goto l=>exact hK g1 a1 w1 d1 hx1 hI1 hR1 hd1 hm1
  refine⟨?_,?_⟩
  ·intro C rr N hO hr σ out σ' g w a Q hz he hf hR I hK
   obtain⟨hr1,hr2⟩:=hsplit hr
   simp only[ev] at he
   exact two hO hr2 x (ev O n ax σ) σ out σ' g w a Q hz hf he (fun o σ1 h=>uf hA ax σ o σ1 hf h) (fun o σ1 Q h hk=>(ihx _ _ _ hx).1 hO hr1 σ o σ1 g w a Q hz h hf hR I hk) hK
  ·intro C rr N hO hr l cl h σ out σ' g w a Q hz he hf hR I hK
   obtain⟨hr1,hr2⟩:=hsplit hr
   simp only[evF,hlx l _ _ hx] at he
   simp only[findLabel] at h
   cases hq:findLabel x l with
   |none=>
    rw[hq] at h he
    simp only[Option.isSome_none,w0c,if_false] at he
    exact(ihy _ _ _ hy).2 hO hr2 l cl h σ out σ' g w a Q hz he hf hR I hK
   |some z=>
    rw[hq] at h he
    simp only[Option.isSome_some,if_true] at he
    injection h with h;subst h
    exact two hO hr2 z (evF O n ax l σ) σ out σ' g w a Q hz hf he (fun o σ1 h=>(qe hA ax).2 l σ o σ1 hf h) (fun o σ1 Q h hk=>(ihx _ _ _ hx).2 hO hr1 l z hq σ o σ1 g w a Q hz h hf hR I hk) hK
 |cond c x y ihx ihy=>
  intro ann ac rest hc
  simp only[comp,w02,w01,Prod.mk.injEq] at hc
  obtain⟨d,hd,⟨ax,r1⟩,hx,⟨ay,r2⟩,hy,rfl,rfl⟩:=hc
  refine⟨?_,fun _ _ l cl h=>by simp[findLabel] at h⟩
  intro C rr N hO hr σ out σ' g w a Q hz he hf hR I hK
  have hr1:rr=none∨noRange ax=true:=hr.imp id fun h=>by simp only[noRange,w04] at h;exact h.1
  have hr2:rr=none∨noRange ay=true:=hr.imp id fun h=>by simp only[noRange,w04] at h;exact h.2
  simp only[ev] at he
  have h1:=za hR hd
  split at he
  ·rename_i t ht
   rw[ht] at h1
   refine wpIn_cond h1.inv_bool ?_
   split at he
   ·rename_i htt
    rw[if_pos htt]
    exact(ihx _ _ _ hx).1 hO hr1 σ out σ' g w a Q hz he hf hR I hK
   ·rename_i htt
    rw[if_neg htt]
    exact(ihy _ _ _ hy).1 hO hr2 σ out σ' g w a Q hz he hf hR I hK
  ·cases he
 |block id x ihx=>
  intro ann ac rest hc
  simp only[comp,w01,Prod.mk.injEq] at hc
  obtain⟨⟨ax,r1⟩,hx,rfl,rfl⟩:=hc
  refine⟨?_,fun _ _ l cl h=>by simp[findLabel] at h⟩
  intro C rr N hO hr σ out σ' g w a Q hz he hf hR I hK
  simp only[ev] at he
  refine wpIn_block ?_
  split at he
  ·rename_i i σ1 h1
   refine(ihx _ _ _ hx).1 hO hr σ (.exit i) σ1 g w a _ hz h1 hf hR I fun g1 a1 w1 d1 hx1 hI1 hR1 hd1 hm1=> ?_
   simp only[Out.exit',Exit.inBlock]
   split at he
   ·rename_i hi
    injection he with he
    injection he with e1 e2
    subst e1;subst e2
    rw[if_pos hi]
    exact hK g1 a1 w1 d1 hx1 hI1 hR1 hd1 hm1
   ·rename_i hi
    injection he with he
    injection he with e1 e2
    subst e1;subst e2
    rw[if_neg hi]
    exact hK g1 a1 w1 d1 hx1 hI1 hR1 hd1 hm1
  ·rename_i hne
   refine(ihx _ _ _ hx).1 hO hr σ out σ' g w a _ hz he hf hR I fun g1 a1 w1 d1 hx1 hI1 hR1 hd1 hm1=> ?_
   cases out with
   |normal=>exact hK g1 a1 w1 d1 hx1 hI1 hR1 hd1 hm1
   |exit i=>exact absurd he (hne i σ')
   |ret=>exact hK g1 a1 w1 d1 hx1 hI1 hR1 hd1 hm1
   |goto l=>exact hK g1 a1 w1 d1 hx1 hI1 hR1 hd1 hm1
 |loop x ihx=>
  intro ann ac rest hc
  refine⟨?_,fun _ _ l cl h=>by simp[findLabel] at h⟩
  intro C rr N hO hr σ out σ' g w a Q hz he hf hR I hK
  cases ann with
  |nil=>simp[comp] at hc
  |cons live ann'=>
   simp only[comp,w01,Prod.mk.injEq] at hc
   obtain⟨⟨ax,r1⟩,hx,rfl,rfl⟩:=hc
   simp only[ev] at he
   refine kb (fun k a1 w1=> ∃σ1 g1 d1,iter (ev O n ax) (heads live σ.m.cur.length) k σ1=some (out,σ')∧σ1.m.floor≤σ1.m.stk.length∧Ext g w g1 w1∧Inv g1 w1 σ1.m∧Reps g1 w1 σ1.ρ a1.tmps.toList∧a1.defers=d1++a.defers∧Marks w d1 w1) ?_ (n:=n)
    ⟨σ,g,[],he,hf,Ext.refl g w,I,hR,rfl,Marks.nil _ _⟩
   rintro k a1 w1 ⟨σ1,g1,d1,hit,hf1,hx1,hI1,hR1,hd1,hm1⟩
   cases k with
   |zero=>simp[iter] at hit
   |succ k=>
    simp only[iter] at hit
    have k0:=k8 live σ.m.cur.length σ1 hf1
    have hf0:(heads live σ.m.cur.length σ1).m.floor≤(heads live σ.m.cur.length σ1).m.stk.length:=by rw[k0.len,k0.floor];exact hf1
    split at hit
    ·rename_i σ2 h2
     have k1:=uf hA ax _ _ _ hf0 h2
     refine(ihx _ _ _ hx).1 hO hr (heads live σ.m.cur.length σ1) .normal σ2 g1 w1 a1 _ (C.mono hx1.toExtW hz) h2 hf0 (Zl hR1) (X4 hI1) fun g2 a2 w2 d2 hx2 hI2 hR2 hd2 hm2=> ?_
     exact⟨k,Nat.lt_succ_self k,σ2,g2,d2++d1,hit,by rw[k1.len,k1.floor];exact hf0,hx1.trans hx2,hI2,hR2,by rw[hd2,hd1,w11],hm1.trans hx2.toExtW hx1.toExtW.size hm2⟩
    ·rename_i hne
     refine(ihx _ _ _ hx).1 hO hr (heads live σ.m.cur.length σ1) out σ' g1 w1 a1 _ (C.mono hx1.toExtW hz) hit hf0 (Zl hR1) (X4 hI1) fun g2 a2 w2 d2 hx2 hI2 hR2 hd2 hm2=> ?_
     have fin:=(hK.step hx1 hd1 hm1) g2 a2 w2 d2 hx2 hI2 hR2 hd2 hm2
     cases out with
     |normal=>exact absurd hit (hne σ')
     |exit i=>exact fin
     |ret=>exact fin
     |goto l=>exact fin
 |scope x ihx=>
  intro ann ac rest hc
  have hl: ∀ax r1,comp P x ann=some (ax,r1)→ ∀l,hasLbl ax l=(findLabel x l).isSome:=fun ax r1 h l=>jQ x ann ax r1 h l
  simp only[comp,w01,Prod.mk.injEq] at hc
  obtain⟨⟨ax,r1⟩,hx,rfl,rfl⟩:=hc
  refine⟨?_,fun _ _ l cl h=>by simp[findLabel] at h⟩
  intro C rr N hO hr σ out σ' g w a Q hz he hf hR I hK
  simp only[ev] at he
  refine jj (fun k s a1 w1=> ∃σ1 g1 d1,scopeIt (ev O n ax) (evF O n ax) (hasLbl ax) k s σ1=some (out,σ')∧σ1.m.floor≤σ1.m.stk.length∧Ext g w g1 w1∧Inv g1 w1 σ1.m∧Reps g1 w1 σ1.ρ a1.tmps.toList∧a1.defers=d1++a.defers∧Marks w d1 w1) ?_ (n:=n)
   ⟨σ,g,[],he,hf,Ext.refl g w,I,hR,rfl,Marks.nil _ _⟩
  rintro k s a1 w1 ⟨σ1,g1,d1,hit,hf1,hx1,hI1,hR1,hd1,hm1⟩ z hzc
  cases k with
  |zero=>simp[scopeIt] at hit
  |succ k=>
   simp only[scopeIt] at hit
   have one: ∀o σ2 (Q:Exit→Act→World→Prop),(match s with|none=>ev O n ax σ1|some l=>evF O n ax l σ1)=some (o,σ2)→GoesD g1 w1 a1 σ2.ρ σ2.m (Q o.exit')→z.wpIn (FW rr) N P Q a1 w1:=by
    intro o σ2 Q h hk
    cases s with
    |none=>subst hzc;exact(ihx _ _ _ hx).1 hO hr σ1 o σ2 g1 w1 a1 Q (C.mono hx1.toExtW hz) h hf1 hR1 hI1 hk
    |some l=>exact(ihx _ _ _ hx).2 hO hr l z hzc σ1 o σ2 g1 w1 a1 Q (C.mono hx1.toExtW hz) h hf1 hR1 hI1 hk
   have ab: ∀o σ2,(match s with|none=>ev O n ax σ1|some l=>evF O n ax l σ1)=some (o,σ2)→Above σ1.m σ2.m:=by
    intro o σ2 h
    cases s with
    |none=>exact(qe hA ax).1 _ _ _ hf1 h
    |some l=>exact(qe hA ax).2 _ _ _ _ hf1 h
   split at hit
   ·rename_i l σ2 h2
    have k1:=ab _ _ h2
    refine one _ _ _ h2 fun g2 a2 w2 d2 hx2 hI2 hR2 hd2 hm2=> ?_
    simp only[Out.exit']
    rw[←hl ax r1 hx l]
    split at hit
    ·rename_i hh
     rw[if_pos hh]
     exact⟨k,Nat.lt_succ_self k,σ2,g2,d2++d1,hit,by rw[k1.len,k1.floor];exact hf1,hx1.trans hx2,hI2,hR2,by rw[hd2,hd1,w11],hm1.trans hx2.toExtW hx1.toExtW.size hm2⟩
    ·rename_i hh
     rw[if_neg hh]
     injection hit with hit
     injection hit with e1 e2
     subst e1;subst e2
     exact(hK.step hx1 hd1 hm1) g2 a2 w2 d2 hx2 hI2 hR2 hd2 hm2
   ·rename_i hne
    refine one _ _ _ hit fun g2 a2 w2 d2 hx2 hI2 hR2 hd2 hm2=> ?_
    have fin:=(hK.step hx1 hd1 hm1) g2 a2 w2 d2 hx2 hI2 hR2 hd2 hm2
    cases out with
    |normal=>exact fin
    |exit i=>exact fin
    |ret=>exact fin
    |goto l=>exact absurd hit (hne l σ')
 |rangeFunc f ps x y ihx ihy=>
  intro ann ac rest hc
  simp only[comp,w02,w01,Prod.mk.injEq] at hc
  obtain⟨⟨ax,r1⟩,hx,⟨ay,r2⟩,hy,rfl,rfl⟩:=hc
  refine⟨?_,fun _ _ l cl h=>by simp[findLabel] at h⟩
  intro C rr N hO hr σ out σ' g w a Q hz he hf hR I hK
  split at he
  rotate_left
  ·simp[ev] at he
  rename_i d hd
  split at he
  rotate_left
  ·simp[ev] at he
  rename_i hnr
  simp only[w04] at hnr
  have hrr:rr=none:=by
   rcases hr with h|h
   ·exact h
   ·rw[hd] at h
    simp only[hnr.1,hnr.2,Bool.and_self,if_true,noRange] at h
    cases h
  subst hrr
  simp only[ev] at he
  exact Vw (C:=C) hI (fun σ o σ' hf h=>uf hA ax σ o σ' hf h) (fun σ o σ' hf h=>uf hA ay σ o σ' hf h)
   (fun L {σ out σ' g w a Q} hz h hf hR I hk=>(ihx _ _ _ hx).1 hO (.inr hnr.1) σ out σ' g w a Q hz h hf hR I hk)
   (fun L {σ out σ' g w a Q} hz h hf hR I hk=>(ihy _ _ _ hy).1 hO (.inr hnr.2) σ out σ' g w a Q hz h hf hR I hk) hd hz he hf hR I hK
end
theorem kL {g:G} {w w':World} {m:Mem} (I:Inv g w m) (hb:Below w.heap.size w w'):Ext g w g w'∧Inv g w' m:=by
 have hc: ∀b o v,w.cell? ⟨b,o,none⟩=some v→w'.cell? ⟨b,o,none⟩=some v:=fun b o v h=>by
  have:b<w.heap.size:=World.block_lt_of_cell? _ _ h
  rw[hb.cell (p:=⟨b,o,none⟩) this];exact h
 have e:Ext g w g w':=⟨⟨fun _ _ h=>h,fun _ _ h=>h,fun b o v h1 h2=>⟨hc b o v h1,h2⟩,rfl,fun _ _ h=>h,hb.mono I.hbase,fun b ob h=>by rw[hb.block b (w12.1 h).1,h];exact OthKept.refl ob⟩,rfl⟩
 have hh: ∀{x b p q},Held g w x b p q→Held g w' x b p q:=fun{x b p q} h j h1 h2=>by
  obtain⟨k1,k2,k3⟩:=h j h1 h2
  have hlt:b<w.heap.size:=(I.ownb b j x k1).2
  obtain⟨v,hv⟩:=Option.isSome_iff_exists.1 k3
  exact⟨k1,by rw[hb.frozen (p:=⟨b,j,none⟩) hlt];exact k2,by rw[hc b j v hv];rfl⟩
 refine⟨e,⟨fun bl h hrs=> ?_,I.nd,I.stlt,I.tklt,fun t h=> ?_,fun b o x h=> ?_,Nat.le_trans I.hbase hb.size,I.lnd,I.rsv,I.mpk⟩⟩
 ·rcases I.blk bl h hrs with⟨b,o,q,k1,k2,k3,vs,k4,k5⟩|⟨b,ps,es,clock,k1,k2,k3,k4,k5⟩|⟨b,r,n,k1,k2,k3,k4,k5⟩
  ·exact .inl ⟨b,o,q,k1,k2,hh k3,vs,k4.mono e,fun j v h=>hc _ _ _ (k5 j v h)⟩
  ·refine .inr (.inl ⟨b,ps,es,clock,k1,k2,k3,?_,k5⟩)
   rw[hb.block b (I.ownb b 0 _ (k2 0)).2];exact k4
  ·refine .inr (.inr ⟨b,r,n,k1,k2,k3,?_,k5⟩)
   rw[hb.block b (I.ownb b 0 _ (k2 0)).2];exact k4
 ·obtain⟨b,p,q,k1,k2⟩:=I.live t h
  exact⟨b,p,q,k1,hh k2⟩
 ·obtain⟨k1,k2⟩:=I.ownb b o x h
  exact⟨k1,Nat.lt_of_lt_of_le k2 hb.size⟩
def Known (P:Program) (f:Nat) (b:Bool):Prop:=
 (∃fn,P.funcs[f]? =some fn∧(fn.name== "runtime.NumGoroutine")=false∧fn.body.isNone=false)∧
 ∀w,Calls P f #[] w fun e w'=>e= .returned (.bool b)∧Below w.heap.size w w'
def constFn (b:Bool):AFunc:=⟨0,[.tmp 0],.const (.bool b)⟩
def TabOk (P:Program) (tab:Nat→Option AFunc):Prop:= ∀f afn,tab f=some afn→(∃fn ann,P.funcs[f]? =some fn∧compFn P fn ann=some afn)∨ ∃b,afn=constFn b∧Known P f b
theorem WJ (m:Mem) (b:Bool):leave m (enter m) (.bool b)=some (.bool b,m):=by
 simp[leave,enter,AV.refs,AV.toks,pushToks]
theorem Qd {O:Ora} {n:Nat} {b:Bool} {args:List AV} {m m':Mem} {r:AV} (h:evFn O n (constFn b) args m=some (r,m')):args=[]∧r= .bool b∧m'=m:=by
 cases args with
 |cons x l=>simp[evFn,constFn,ev] at h
 |nil=>
  simp only[evFn,constFn,ev,List.length_nil,Nat.sub_self,List.replicate_zero,List.append_nil,evRess,evRes,w16,w05,w03,w2a,w15,packRes] at h
  rw[WJ] at h
  injection h with h;injection h with h1 h2
  exact⟨rfl,h1.symm,h2.symm⟩
theorem WK {P:Program} {C:Ctx} {f:Nat} {b:Bool} (h:Known P f b) (m:Mem):CallOk P C f [] m (.bool b) m:=by
 refine⟨h.1,fun g w vs _ I hA=> ?_⟩
 obtain rfl:vs=[]:=w10 hA.1
 refine(h.2 w).mono fun e w' ⟨he,hb⟩=> ?_
 obtain⟨k1,k2⟩:=kL I hb
 exact⟨.bool b,g,he,k1,k2,.bool b⟩
theorem VW {O:Ora} (hA:OraAbove O) {n:Nat} {fn:AFunc} {args:List AV} {m m':Mem} {r:AV} (h:evFn O n fn args m=some (r,m')) (hf:m.floor≤m.stk.length+1):Above m m':=by
 unfold evFn at h
 split at h
 ·cases h
 ·cases h
 ·rename_i out σ hne hne2 he
  simp only[w02] at h
  obtain⟨vs,_,h⟩:=h
  have k:=uf hA fn.body _ _ _ (by simp only[enter];simp;exact hf) he
  have hl:=k.len
  simp only[enter,w18,List.length_cons,List.length_nil,w1b] at hl
  exact jM hl hf (fun l i st cs hl hb=>k.blk l i st cs hl (jY m hf l i st cs hl hb)) k.nx h
 ·cases h
theorem jE {O:Oracle} {Y:YH} (hO:OracleAbove O) (hY:YAbove Y):OracleAbove (withY O Y):=by
 intro c args m r m' h hf
 unfold withY at h
 cases c with
 |some f=>exact hO _ _ _ _ _ h hf
 |none=>exact hY _ _ _ _ h hf
section
variable {P : Program}
def oneRes (tmps:Array Value):ResultVar→Sem Value
 | .tmp t=>pure (tmps.getD t Go.undef)
 | .cell ad t=>do loadVar t (←asAddr (tmps.getD ad Go.undef))
theorem kM (fn:Func) (tmps:Array Value):results fn tmps=(fn.results.mapM (oneRes tmps))>>=fun vs=>pure (if h:vs.size=1 then vs[0] else .tuple vs):=by
 unfold results
 congr 1
theorem tz {g:G} {w:World} {σ:St} {a:Act} (hR:Reps g w σ.ρ a.tmps.toList) (I:Inv g w σ.m): ∀{l:List ResultVar} {al:List ARes} {vs:List AV},compRes P l=some al→evRess σ al=some vs→
  ∃us:List Value,(l.mapM (oneRes a.tmps)).run P w= .ok us w∧Reps g w vs us
 | [],al,vs,hc,he=>by
  simp[compRes] at hc;subst hc
  simp[evRess] at he;subst he
  exact⟨[],rfl,Reps.nil g w⟩
 | .tmp t::l,al,vs,hc,he=>by
  simp only[compRes,w01] at hc
  obtain⟨al',h1,rfl⟩:=hc
  simp only[evRess,evRes,w02,w01,Option.some.injEq] at he
  obtain⟨v,rfl,vs',h2,rfl⟩:=he
  obtain⟨us,k1,k2⟩:=tz hR I h1 h2
  refine⟨a.tmps.getD t Go.undef::us,?_,Reps.cons (uB hR t) k2⟩
  rw[List.mapM_cons]
  simp only[oneRes,Sem.run_bind,Sem.run_pure,Result.andThen_ok,k1]
 | .cell ad t::l,al,vs,hc,he=>by
  simp only[compRes] at hc
  split at hc
  ·rename_i b n al' hb hn h1
   split at hc
   ·injection hc with hc;subst hc
    simp only[evRess,evRes,w02,w01] at he
    obtain⟨v,⟨cs,hcs,htk⟩,vs',h2,rfl⟩:=he
    obtain⟨us,k1,k2⟩:=tz hR I h1 h2
    obtain⟨u,k3,k4⟩:=qs (P:=P) I (uB hR ad) hb hn hcs htk
    obtain⟨bb,oo,us',hv,_,_⟩:=Vb I (uB hR ad) hcs
    refine⟨u::us,?_,Reps.cons k4 k2⟩
    rw[hv] at k3
    have k5:(loadVar t ⟨bb,oo,none⟩).run P w= .ok u w:=by simpa [Instr.loadAt,Instr.sureAddr] using k3
    rw[List.mapM_cons]
    simp only[oneRes,Sem.run_bind,Sem.run_pure,Result.andThen_ok,hv,asAddr,k5,k1]
   ·cases hc
  ·cases hc
theorem UD {w:World} {D:Nat} {x:Option (List Deferred)} (hD:w.heap[D]? =some (.deferred x)) (b j:Nat):(setMap w D (.deferred none)).cell? ⟨b,j,none⟩=w.cell? ⟨b,j,none⟩:=by
 by_cases h:b=D
 ·subst h
  have hlt:b<w.heap.size:=(w12.1 hD).1
  have h1:(setMap w b (.deferred none)).heap[b]? =some (.deferred none):=by simp[setMap,hlt]
  unfold World.cell?
  simp only[h1,hD]
 ·exact vl _ _ _ h j
theorem Wf {w:World} {D:Nat} {x:Option (List Deferred)} (hD:w.heap[D]? =some (.deferred x)) (b j:Nat):(setMap w D (.deferred none)).frozen? ⟨b,j,none⟩=w.frozen? ⟨b,j,none⟩:=by
 by_cases h:b=D
 ·subst h
  have hlt:b<w.heap.size:=(w12.1 hD).1
  have h1:(setMap w b (.deferred none)).heap[b]? =some (.deferred none):=by simp[setMap,hlt]
  unfold World.frozen?
  simp only[h1,hD]
 ·exact uE _ _ _ h j
theorem Qz {g0:G} {w0:World} {m0:Mem} (I0:Inv g0 w0 m0) {g:G} {w:World} {m:Mem} (hx:Ext g0 w0 g w) (I:Inv g w m) {D:Nat} {x:Option (List Deferred)} (hD:w.heap[D]? =some (.deferred x)) (hs:w0.heap.size≤D):
  Ext g0 w0 g (setMap w D (.deferred none))∧Inv g (setMap w D (.deferred none)) m∧ ∀ρ vs,Reps g w ρ vs→Reps g (setMap w D (.deferred none)) ρ vs:=by
 have hc:=UD hD
 have hfz:=Wf hD
 have eV:ExtV g w g (setMap w D (.deferred none)):=⟨fun _ _ h=>h,fun _ _ h=>h,fun b o v h1 h2=>⟨by rw[hc];exact h1,h2⟩,fun _ _ h=>h⟩
 have hoth: ∀{b:Nat} {ob:Obj},w.heap[b]? =some ob→b≠D→(setMap w D (.deferred none)).heap[b]? =some ob:=fun{b ob} h hne=>by rw[zB _ _ _ hne];exact h
 have hh: ∀{y b p q},Held g w y b p q→Held g (setMap w D (.deferred none)) y b p q:=fun{y b p q} h j h1 h2=>by
  obtain⟨k1,k2,k3⟩:=h j h1 h2
  exact⟨k1,by rw[hfz];exact k2,by rw[hc];exact k3⟩
 have hne: ∀{b:Nat} {ob:Obj},w.heap[b]? =some ob→(∀d,ob≠ .deferred d)→b≠D:=fun{b ob} h hn e=>by subst e;rw[hD] at h;injection h with h;exact hn _ h.symm
 refine⟨⟨⟨hx.bt,hx.tk,fun b o v h1 h2=> ?_,hx.base,hx.mp,?_,fun b ob h=> ?_⟩,hx.rs⟩,⟨fun bl h hrs=> ?_,I.nd,I.stlt,I.tklt,fun t h=> ?_,fun b o y h=> ?_,?_,I.lnd,I.rsv,I.mpk⟩,fun ρ vs h=>⟨h.1,fun j c v a b=>(h.2 j c v a b).monoV eV⟩⟩
 ·have:=hx.seal_ b o v h1 h2
  exact⟨by rw[hc];exact this.1,this.2⟩
 ·have hb:g0.base≤D:=Nat.le_trans I0.hbase hs
  exact hx.below.trans ⟨rfl,rfl,rfl,by simp[setMap],fun q hq=>zB _ _ _ (by omega)⟩
 ·have hlt:b<w0.heap.size:=(w12.1 h).1
  rw[zB _ _ _ (by omega)]
  exact hx.oth b ob h
 ·rcases I.blk bl h hrs with⟨b,o,q,k1,k2,k3,vs,k4,k5⟩|⟨b,ps,es,clock,k1,k2,k3,k4,k5⟩|⟨b,r,n,k1,k2,k3,k4,k5⟩
  ·exact .inl ⟨b,o,q,k1,k2,hh k3,vs,⟨k4.1,fun j c v a b=>(k4.2 j c v a b).monoV eV⟩,fun j v h=>by rw[hc];exact k5 j v h⟩
  ·exact .inr (.inl ⟨b,ps,es,clock,k1,k2,k3,hoth k4 (hne k4 (fun d e=>by cases e)),k5⟩)
  ·exact .inr (.inr ⟨b,r,n,k1,k2,k3,hoth k4 (hne k4 (fun d e=>by cases e)),k5⟩)
 ·obtain⟨b,p,q,k1,k2⟩:=I.live t h
  exact⟨b,p,q,k1,hh k2⟩
 ·have:=I.ownb b o y h
  exact⟨this.1,by simp[setMap];exact this.2⟩
 ·simp[setMap];exact I.hbase
theorem qT {F:Fence} {N:Nat} {fn:Func} {tmps:Array Value} {R:Ending→World→Prop} {g0:G} {w0:World} {m0:Mem} (I0:Inv g0 w0 m0): ∀(Ds:List Nat) {g:G} {w:World} {m:Mem},Ds.Nodup→(∀D∈Ds,w0.heap.size≤D∧w.heap[D]? =some (.deferred (some [])))→Ext g0 w0 g w→Inv g w m→
  (∀w',Ext g0 w0 g w'→Inv g w' m→(∀ρ vs,Reps g w ρ vs→Reps g w' ρ vs)→LeavesIn F N P fn tmps R [] .returning w')→LeavesInM F N P fn tmps R (Ds.map markD) .returning w
 | [],g,w,m,_,_,hx,I,h=>h w hx I (fun _ _ h=>h)
 |D::Ds,g,w,m,hn,hD,hx,I,h=>by
  obtain⟨h1,h2⟩:=hD D w28
  obtain⟨n1,n2⟩:=List.nodup_cons.1 hn
  obtain⟨e1,e2,e3⟩:=Qz I0 hx I h2 h1
  refine⟨by simp,.inl ⟨D,_,rfl,run_takeDeferred h2,qT I0 Ds n2 (fun D' hD'=> ?_) e1 e2 (fun w' a b c=>h w' a b (fun ρ vs q=>c ρ vs (e3 ρ vs q)))⟩⟩
  obtain⟨q1,q2⟩:=hD D' (w1c _ hD')
  exact⟨q1,(zB _ _ _ (fun e:D'=D=>n1 (by rw[←e];exact hD'))).trans q2⟩
noncomputable def bodyV (O:Ora) (n:Nat) (fn:AFunc) (args:List AV) (m1:Mem) (fin:Mem→AV→Option (AV×Mem)):Option (AV×Mem):=
 match ev O n fn.body ⟨args++List.replicate (fn.ntmps-args.length) (.tup []),m1⟩ with
 |some (.exit _,_)=>none
 |some (.goto _,_)=>none
 |some (_,σ)=>(evRess σ fn.res).bind fun vs=>fin σ.m (packRes vs)
 |none=>none
theorem z0r (hM:P.follows .mixedOrders=true) {C:Ctx} {O:Ora} (hO:OracleOk P C O.call) (hI:OraOk P O) (hA0:OraAbove O) {n f:Nat} {fn:Func} {ann:List (List Nat)} {afn:AFunc} (hfn:P.funcs[f]? =some fn) (hcomp:compFn P fn ann=some afn)
  {args:List AV} {m m1 m':Mem} {r:AV} {fin:Mem→AV→Option (AV×Mem)} (h:bodyV O n afn args m1 fin=some (r,m')) (hf:m1.floor≤m1.stk.length) (hE: ∀{g w},Inv g w m→Inv g w m1)
  (hL: ∀{g w m2 v u r' m3},Inv g w m2→fin m2 v=some (r',m3)→Rep g w v u→Inv g w m3∧Rep g w r' u):CallOk P C f args m r m':=by
 unfold compFn at hcomp
 split at hcomp
 ·rename_i c hbody
  split at hcomp
  ·rename_i b rest res hc hres
   split at hcomp
   ·cases hcomp
   ·rename_i hname
    injection hcomp with hcomp
    subst hcomp
    refine⟨⟨fn,hfn,by simpa using hname,by rw[hbody];rfl⟩,fun g w vs hz I hA=> ?_⟩
    unfold bodyV at h
    simp only at h
    have fin_: ∀(out:Out) (σ:St),(out= .normal∨out= .ret)→ev O n b ⟨args++List.replicate (fn.ntmps-args.length) (.tup []),m1⟩=some (out,σ)→((evRess σ res).bind fun vs=>fin σ.m (packRes vs))=some (r,m')→
      Calls P f vs.toArray w fun e w'=> ∃v g',e= .returned v∧Ext g w g' w'∧Inv g' w' m'∧Rep g' w' r v:=by
     intro out σ hout he hlv
     simp only[w02] at hlv
     obtain⟨rs,hrs,hlv⟩:=hlv
     refine V8 (rr:=none) (N:=0) (callsIn_of_wp_marks hfn hbody trivial ((z0J hM hI hA0 n c ann b rest hc).1 (rr:=none) (N:=0) hO (.inl rfl) _ out σ g w _ _ hz he hf ?_ (hE I) fun g1 a1 w1 ds hx1 hI1 hR1 hd1 hm1=> ?_))
     ·have hl:vs.length=args.length:=hA.1
      have:(vs.toArray++Array.replicate (fn.ntmps-vs.toArray.size) Go.undef).toList=vs++List.replicate (fn.ntmps-args.length) Go.undef:=by
       simp[hl]
      rw[this]
      refine hA.append ⟨by simp,fun j x v h1 h2=> ?_⟩
      have e1:=List.eq_of_mem_replicate (w23 h1)
      have e2:=List.eq_of_mem_replicate (w23 h2)
      subst e1;subst e2
      exact zZ g w
     ·obtain⟨Ds,rfl,hnd,hDs⟩:=hm1
      have hdd:a1.defers=Ds.map markD:=by rw[hd1];simp
      have key:LeavesInM (FW none) 0 P fn a1.tmps (fun e w'=> ∃v g',e= .returned v∧Ext g w g' w'∧Inv g' w' m'∧Rep g' w' r v) a1.defers .returning w1:=by
       rw[hdd]
       refine qT I Ds hnd hDs hx1 hI1 fun w2 hx2 hI2 hRR=> ?_
       have hR2:=hRR _ _ hR1
       obtain⟨us,k1,k2⟩:=tz (P:=P) hR2 hI2 hres hrs
       have hval: ∃v,(results fn a1.tmps).run P w2= .ok v w2∧Rep g1 w2 (packRes rs) v:=by
        have hm:(fn.results.mapM (oneRes a1.tmps)).run P w2= .ok us.toArray w2:=by
         rw[Array.mapM_eq_mapM_toList]
         simp only[Functor.map,Sem.run_bind',k1,Result.andThen_ok]
         rfl
        by_cases h1:us.length=1
        ·obtain⟨u,rfl⟩:=List.length_eq_one_iff.1 h1
         have hr1:rs.length=1:=by rw[←k2.1];rfl
         obtain⟨x,rfl⟩:=List.length_eq_one_iff.1 hr1
         refine⟨u,?_,k2.2 0 x u rfl rfl⟩
         rw[kM,Sem.run_bind,hm]
         rfl
        ·refine⟨.tuple us.toArray,?_,?_⟩
         ·rw[kM,Sem.run_bind,hm]
          simp only[Result.andThen_ok,List.size_toArray,h1,dif_neg,not_false_eq_true,Sem.run_pure]
         ·have:packRes rs= .tup rs:=by
           unfold packRes
           split
           ·rename_i x
            have:=k2.1
            exact absurd this h1
           ·rfl
          rw[this]
          exact k2.tup
       obtain⟨v,hv,hrep⟩:=hval
       obtain⟨hI3,hr3⟩:=hL hI2 hlv hrep
       exact⟨v,hv,v,g1,rfl,hx2,hI3,hr3⟩
      rcases hout with rfl|rfl
      ·exact key
      ·exact key
    split at h
    ·cases h
    ·cases h
    ·rename_i out σ hne hne2 he
     refine fin_ out σ ?_ he h
     cases out with
     |normal=>exact .inl rfl
     |ret=>exact .inr rfl
     |exit id=>exact absurd rfl (hne id)
     |goto l=>exact absurd rfl (hne2 l)
    ·cases h
  ·cases hcomp
 ·cases hcomp
theorem z0a (hM:P.follows .mixedOrders=true) {C:Ctx} {O:Ora} (hO:OracleOk P C O.call) (hI:OraOk P O) (hA0:OraAbove O) {n f:Nat} {fn:Func} {ann:List (List Nat)} {afn:AFunc} (hfn:P.funcs[f]? =some fn) (hcomp:compFn P fn ann=some afn)
  {args:List AV} {m m':Mem} {r:AV} (h:evFn O n afn args m=some (r,m')) (hf:m.floor≤m.stk.length+1):CallOk P C f args m r m':=
 z0r hM hO hI hA0 hfn hcomp (m1:=enter m) (fin:=fun m2 v=>leave m m2 v) (by rw[←h];rfl) (by simp only[enter];simp;exact hf) Xf jL
theorem Ts {C:Ctx} {O:Oracle} {Y:YH} (hO: ∀C,OracleOk P C O) (hY: ∀args m r m',Y args m=some (r,m')→m.floor≤m.stk.length+1→YieldOk P C args m r m'):OracleOk P C (withY O Y):=by
 intro c args m r m' h hf
 unfold withY at h
 cases c with
 |some f=>exact hO C (some f) _ _ _ _ h hf
 |none=>exact hY _ _ _ _ h hf
end
end Go.Vs
end
section
namespace Go.Vs
def Le (O O':Oracle):Prop:= ∀f a m r,O f a m=some r→O' f a m=some r
theorem Le.refl (O:Oracle):Le O O:=fun _ _ _ _ h=>h
theorem Tf {O O':Oracle} (h:Le O O') {ρ:List AV} {m:Mem} {op:AOp} {r:AV×Mem} (he:evOp O ρ m op=some r):evOp O' ρ m op=some r:=by
 cases op<;>try exact he
 rename_i f args
 simp only[evOp,evCall] at he⊢
 split at he
 ·exact h _ _ _ _ he
 ·exact h _ _ _ _ he
 ·cases he
theorem x8 {O O':Oracle} (h:Le O O') {o:AOper} {σ σ':St} (he:evOper O o σ=some σ'):evOper O' o σ=some σ':=by
 unfold evOper at he⊢
 split at he
 ·simp only[w01] at he⊢
  obtain⟨r,h1,h2⟩:=he
  exact⟨r,Tf h h1,h2⟩
 ·exact he
 ·cases he
theorem vk {O O':Oracle} (h:Le O O'): ∀{l:List AOper} {σ σ':St},evOps O l σ=some σ'→evOps O' l σ=some σ'
 | [],σ,σ',he=>he
 |o::l,σ,σ',he=>by
  simp only[evOps,w02] at he⊢
  obtain⟨σ1,h1,h2⟩:=he
  exact⟨σ1,x8 h h1,vk h h2⟩
theorem yy {O O':Oracle} (h:Le O O') {m0:Mem}: ∀{l:List AOper} {ws:Watch} {σ σ':St},evDraw O m0 ws l σ=some σ'→evDraw O' m0 ws l σ=some σ'
 | [],ws,σ,σ',he=>he
 |o::l,ws,σ,σ',he=>by
  simp only[evDraw] at he⊢
  split at he
  ·split at he
   ·rename_i q hq;rw[x8 h hq];exact yy h he
   ·cases he
  ·split at he
   ·split at he
    ·split at he
     ·rename_i q hq;rw[qK (x8 h (yJ hq).1) (yJ hq).2];exact yy h he
     ·cases he
    ·cases he
   ·split at he
    ·rename_i q hq;rw[x8 h hq];exact yy h he
    ·cases he
theorem X2 {f f':St→Option (Out×St)} {hd:St→St} (h: ∀σ r,f σ=some r→f' σ=some r): ∀{n n':Nat} {σ:St} {r:Out×St},n≤n'→iter f hd n σ=some r→iter f' hd n' σ=some r
 |0,n',σ,r,_,he=>by simp[iter] at he
 |n+1,0,σ,r,hn,he=>by omega
 |n+1,n'+1,σ,r,hn,he=>by
  simp only[iter] at he⊢
  split at he
  ·rename_i σ1 h1
   rw[h _ _ h1]
   exact X2 h (by omega) he
  ·rename_i hne
   rw[h _ _ he]
   split
   ·rename_i σ1 h1;injection h1 with h1;rw[h1] at he;exact absurd he (hne σ1)
   ·rfl
def YLe (Y Y':YH):Prop:= ∀a m r,Y a m=some r→Y' a m=some r
structure OraLe (O O':Ora):Prop where
 call:Le O.call O'.call
 iter: ∀Y Y',YLe Y Y'→Le (O.iter Y) (O'.iter Y')
theorem Wl {RA RB RA' RB':St→Option (Out×St)} (hA: ∀σ r,RA σ=some r→RA' σ=some r) (hB: ∀σ r,RB σ=some r→RB' σ=some r) {ps:List Nat} {ρ:List AV} {l k st:Nat} {aS:List AV} {m:Mem} {r:AV×Mem}
  (h:roundV RA RB ps ρ l k st aS m=some r):roundV RA' RB' ps ρ l k st aS m=some r:=by
 unfold roundV at h⊢
 split at h
 ·rename_i hc
  rw[if_pos hc]
  split at h
  ·rename_i σ1 h1
   rw[hA _ _ h1]
   simp only
   split at h
   ·rename_i hs
    rw[if_pos hs]
    split at h
    ·rename_i out σ2 h2
     rw[hB _ _ h2]
     exact h
    ·cases h
   ·cases h
  ·cases h
 ·cases h
theorem Xy {I I':YH→Oracle} (hI: ∀Y Y',YLe Y Y'→Le (I Y) (I' Y')) {RA RB RA' RB':St→Option (Out×St)} (hA: ∀σ r,RA σ=some r→RA' σ=some r) (hB: ∀σ r,RB σ=some r→RB' σ=some r) {f:AV} {ps:List Nat} {σ:St} {r:Out×St}
  (h:rangeEv I RA RB f ps σ=some r):rangeEv I' RA' RB' f ps σ=some r:=by
 unfold rangeEv at h⊢
 split at h
 ·split at h
  ·rename_i v m2 h1
   rw[hI _ (yieldV RA' RB' ps σ.ρ σ.m.stk.length σ.m.cur.length σ.m.nx) (fun a m r hy=>by
    unfold yieldV at hy⊢
    split at hy
    ·split at hy
     ·rename_i hc
      rw[if_pos hc]
      exact Wl hA hB hy
     ·cases hy
    ·cases hy) _ _ _ _ h1]
   exact h
  ·cases h
 ·cases h
theorem qM {run run':St→Option (Out×St)} {from_ from_':Nat→St→Option (Out×St)} {has:Nat→Bool} (h1: ∀σ r,run σ=some r→run' σ=some r) (h2: ∀l σ r,from_ l σ=some r→from_' l σ=some r):
  ∀{n n':Nat} {s:Option Nat} {σ:St} {r:Out×St},n≤n'→scopeIt run from_ has n s σ=some r→scopeIt run' from_' has n' s σ=some r
 |0,n',s,σ,r,_,he=>by simp[scopeIt] at he
 |n+1,0,s,σ,r,hn,he=>by omega
 |n+1,n'+1,s,σ,r,hn,he=>by
  have key: ∀x x':Option (Out×St),(∀r,x=some r→x'=some r)→(match x with|some (.goto l,σ')=>if has l then scopeIt run from_ has n (some l) σ' else some (.goto l,σ')|r=>r)=some r→
    (match x' with|some (.goto l,σ')=>if has l then scopeIt run' from_' has n' (some l) σ' else some (.goto l,σ')|r=>r)=some r:=by
   intro x x' one he
   split at he
   ·rename_i l σ1
    rw[one _ rfl]
    simp only
    split at he
    ·rename_i hl;rw[if_pos hl];exact qM h1 h2 (by omega) he
    ·rename_i hl;rw[if_neg hl];exact he
   ·rename_i hne
    rw[one _ he]
    split
    ·rename_i l σ1 hq;injection hq with hq;rw[hq] at he;exact absurd he (hne l σ1)
    ·rfl
  simp only[scopeIt] at he⊢
  cases s with
  |none=>exact key _ _ (h1 σ) he
  |some l=>exact key _ _ (h2 l σ) he
theorem Q8 {O O':Ora} (h:OraLe O O') {n n':Nat} (hn:n≤n'): ∀(c:ACode),(∀{σ:St} {r:Out×St},ev O n c σ=some r→ev O' n' c σ=some r)∧ ∀{l:Nat} {σ:St} {r:Out×St},evF O n c l σ=some r→evF O' n' c l σ=some r:=by
 intro c
 induction c with
 |bad=>exact⟨(by
   intro σ r he
   cases he),fun he=>by simp[evF] at he⟩
 |const v=>exact⟨(by
   intro σ r he
   exact he),fun he=>by simp[evF] at he⟩
 |skip=>exact⟨(by
   intro σ r he
   exact he),fun he=>by simp[evF] at he⟩
 |ret=>exact⟨(by
   intro σ r he
   exact he),fun he=>by simp[evF] at he⟩
 |exit id=>exact⟨(by
   intro σ r he
   exact he),fun he=>by simp[evF] at he⟩
 |ops l=>exact⟨(by
   intro σ r he
   simp only[ev,w01] at he⊢
   obtain⟨σ1,h1,h2⟩:=he
   exact⟨σ1,vk h.call h1,h2⟩),fun he=>by simp[evF] at he⟩
 |draw l=>exact⟨(by
   intro σ r he
   simp only[ev,w01] at he⊢
   obtain⟨σ1,h1,h2⟩:=he
   exact⟨σ1,yy h.call h1,h2⟩),fun he=>by simp[evF] at he⟩
 |seq a b iha ihb=>exact⟨(by
   intro σ r he
   simp only[ev] at he⊢
   split at he
   ·rename_i σ1 h1;rw[iha.1 h1];exact ihb.1 he
   ·rename_i hne
    rw[iha.1 he]
    split
    ·rename_i σ1 h1;injection h1 with h1;rw[h1] at he;exact absurd he (hne σ1)
    ·rfl),fun he=>by
   simp only[evF] at he⊢
   split at he
   ·rename_i hl
    rw[if_pos hl]
    split at he
    ·rename_i σ1 h1;rw[iha.2 h1];exact ihb.1 he
    ·rename_i hne
     rw[iha.2 he]
     split
     ·rename_i σ1 h1;injection h1 with h1;rw[h1] at he;exact absurd he (hne σ1)
     ·rfl
   ·rename_i hl;rw[if_neg hl];exact ihb.2 he⟩
 |cond c a b iha ihb=>exact⟨(by
   intro σ r he
   simp only[ev] at he⊢
   split at he
   ·split at he
    ·rename_i ht;rw[if_pos ht];exact iha.1 he
    ·rename_i ht;rw[if_neg ht];exact ihb.1 he
   ·cases he),fun he=>by simp[evF] at he⟩
 |block id a iha=>exact⟨(by
   intro σ r he
   simp only[ev] at he⊢
   split at he
   ·rename_i i σ1 h1;rw[iha.1 h1];exact he
   ·rename_i hne
    rw[iha.1 he]
    split
    ·rename_i i σ1 h1;injection h1 with h1;rw[h1] at he;exact absurd he (hne i σ1)
    ·rfl),fun he=>by simp[evF] at he⟩
 |loop live a iha=>exact⟨(by
   intro σ r he
   simp only[ev] at he⊢
   exact X2 (fun σ r h=>iha.1 h) hn he),fun he=>by simp[evF] at he⟩
 |scope a iha=>exact⟨(by
   intro σ r he
   simp only[ev] at he⊢
   exact qM (fun _ _ h=>iha.1 h) (fun _ _ _ h=>iha.2 h) hn he),fun he=>by simp[evF] at he⟩
 |label l=>exact⟨fun he=>he,fun he=>he⟩
 |goto l=>exact⟨fun he=>he,fun he=>by simp[evF] at he⟩
 |rangeF f ps a b iha ihb=>exact⟨(by
   intro σ r he
   simp only[ev] at he⊢
   exact Xy h.iter (fun _ _ h=>iha.1 h) (fun _ _ h=>ihb.1 h) he),fun he=>by simp[evF] at he⟩
 |frz ts=>exact⟨fun he=>he,fun he=>by simp[evF] at he⟩
theorem XS {O O':Ora} (h:OraLe O O') {n n':Nat} (hn:n≤n') (c:ACode) {σ:St} {r:Out×St} (he:ev O n c σ=some r):ev O' n' c σ=some r:=(Q8 h hn c).1 he
theorem jt {O O':Ora} (h:OraLe O O') {n n':Nat} (hn:n≤n') {fn:AFunc} {args:List AV} {m:Mem} {r:AV×Mem} (he:evFn O n fn args m=some r):evFn O' n' fn args m=some r:=by
 unfold evFn at he⊢
 split at he
 ·cases he
 ·cases he
 ·rename_i o σ hne hne2 h1
  rw[XS h hn _ h1]
  cases o with
  |exit id=>exact absurd rfl (hne id)
  |goto l=>exact absurd rfl (hne2 l)
  |normal=>exact he
  |ret=>exact he
 ·cases he
theorem kG {O O':Oracle} {Y Y':YH} (h:Le O O') (hy:YLe Y Y'):Le (withY O Y) (withY O' Y'):=by
 intro c a m r he
 unfold withY at he⊢
 cases c with
 |some f=>exact h _ _ _ _ he
 |none=>exact hy _ _ _ he
theorem ZB (tab:Nat→Option AFunc): ∀n,OraLe (callB tab n) (callB tab (n+1))
 |0=>⟨fun c a m r h=>by simp[callB] at h,fun Y Y' _ c a m r h=>by simp[callB] at h⟩
 |n+1=>by
  have ih:=ZB tab n
  refine⟨fun c a m r h=> ?_,fun Y Y' hy c a m r h=> ?_⟩
  ·rw[callB] at h⊢
   simp only at h⊢
   split at h
   ·split at h
    ·exact jt ih (Nat.le_succ n) h
    ·cases h
   ·cases h
  ·rw[callB] at h⊢
   simp only at h⊢
   split at h
   ·split at h
    ·exact jt (O:=⟨withY (callB tab n).call Y,(callB tab n).iter⟩) (O':=⟨withY (callB tab (n+1)).call Y',(callB tab (n+1)).iter⟩) ⟨kG ih.call hy,ih.iter⟩ (Nat.le_succ n) h
    ·cases h
   ·cases h
theorem OraLe.trans {A B C:Ora} (h:OraLe A B) (k:OraLe B C):OraLe A C:=⟨fun c a m r q=>k.call _ _ _ _ (h.call _ _ _ _ q),fun Y Y' hy c a m r q=>k.iter _ _ (fun _ _ _ z=>z) _ _ _ _ (h.iter _ _ hy _ _ _ _ q)⟩
theorem ZC (tab:Nat→Option AFunc): ∀n,OraLe (callB tab n) (callB tab n)
 |0=>⟨Le.refl _,fun Y Y' _ c a m r h=>by simp[callB] at h⟩
 |n+1=>by
  have ih:=ZC tab n
  refine⟨Le.refl _,fun Y Y' hy c a m r h=> ?_⟩
  rw[callB] at h⊢
  simp only at h⊢
  split at h
  ·split at h
   ·exact jt (O:=⟨withY (callB tab n).call Y,(callB tab n).iter⟩) (O':=⟨withY (callB tab n).call Y',(callB tab n).iter⟩) ⟨kG ih.call hy,ih.iter⟩ (w0e n) h
   ·cases h
  ·cases h
theorem ZD (tab:Nat→Option AFunc) {n n':Nat} (h:n≤n'):OraLe (callB tab n) (callB tab n'):=by
 induction h with
 |refl=>exact ZC tab n
 |step _ ih=>exact ih.trans (ZB tab _)
theorem tN (tab:Nat→Option AFunc) {n n':Nat} (h:n≤n'):Le (callN tab n) (callN tab n'):=(ZD tab h).call
noncomputable def lim {α:Type} (F:Nat→Option α):Option α:=open Classical in if h: ∃n r,F n=some r then F h.choose else none
theorem Us {α:Type} {F:Nat→Option α} (hF: ∀n n' r,n≤n'→F n=some r→F n'=some r) {r:α}:lim F=some r↔ ∃n,F n=some r:=by
 unfold lim
 constructor
 ·intro h
  split at h
  ·exact⟨_,h⟩
  ·cases h
 ·rintro⟨n,hn⟩
  have hex: ∃n r,F n=some r:=⟨n,r,hn⟩
  rw[dif_pos hex]
  obtain⟨r',hr'⟩:=hex.choose_spec
  have h1:=hF _ (max hex.choose n) r' (Nat.le_max_left _ _) hr'
  have h2:=hF _ (max hex.choose n) r (Nat.le_max_right _ _) hn
  rw[h1] at h2
  rw[hr',h2]
noncomputable def CALLO (tab:Nat→Option AFunc):Oracle:=fun f args m=>lim fun n=>callN tab n f args m
noncomputable def CALL (tab:Nat→Option AFunc) (f:Nat) (args:List AV) (m:Mem):Option (AV×Mem):=CALLO tab (some f) args m
theorem Uj (tab:Nat→Option AFunc) (f:Nat) (args:List AV) (m:Mem):CALLO tab (some f) args m=CALL tab f args m:=rfl
noncomputable def EV (tab:Nat→Option AFunc) (c:ACode) (σ:St):Option (Out×St):=lim fun n=>ev (callB tab n) n c σ
section
variable {tab : Nat → Option AFunc}
theorem jC {f:Option Nat} {args:List AV} {m:Mem} {r:AV×Mem}:CALLO tab f args m=some r↔ ∃n,callN tab n f args m=some r:=
 Us fun _ _ _ h h1=>tN tab h _ _ _ _ h1
theorem y8 {c:ACode} {σ:St} {r:Out×St}:EV tab c σ=some r↔ ∃n,ev (callB tab n) n c σ=some r:=
 Us fun _ _ _ h h1=>XS (ZD tab h) h c h1
theorem Zz (n:Nat):Le (callN tab n) (CALLO tab):=fun _ _ _ _ h=>jC.2 ⟨n,h⟩
theorem Q9 {ρ:List AV} {m:Mem} {op:AOp} {r:AV×Mem} (h:evOp (CALLO tab) ρ m op=some r): ∃n,evOp (callN tab n) ρ m op=some r:=by
 cases op<;>try exact⟨0,h⟩
 rename_i f args
 simp only[evOp,evCall] at h⊢
 split at h
 ·exact jC.1 h
 ·exact jC.1 h
 ·cases h
theorem Zp {o:AOper} {σ σ':St} (h:evOper (CALLO tab) o σ=some σ'): ∃n,evOper (callN tab n) o σ=some σ':=by
 unfold evOper at h⊢
 split at h
 ·simp only[w01] at h⊢
  obtain⟨r,h1,h2⟩:=h
  obtain⟨n,hn⟩:=Q9 h1
  exact⟨n,r,hn,h2⟩
 ·exact⟨0,h⟩
 ·cases h
theorem X7: ∀{l:List AOper} {σ σ':St},evOps (CALLO tab) l σ=some σ'→ ∃n,evOps (callN tab n) l σ=some σ'
 | [],σ,σ',h=>⟨0,h⟩
 |o::l,σ,σ',h=>by
  simp only[evOps,w02] at h⊢
  obtain⟨σ1,h1,h2⟩:=h
  obtain⟨n,hn⟩:=Zp h1
  obtain⟨k,hk⟩:=X7 h2
  exact⟨max n k,σ1,x8 (tN tab (Nat.le_max_left _ _)) hn,vk (tN tab (Nat.le_max_right _ _)) hk⟩
theorem Zq {m0:Mem}: ∀{l:List AOper} {ws:Watch} {σ σ':St},evDraw (CALLO tab) m0 ws l σ=some σ'→ ∃n,evDraw (callN tab n) m0 ws l σ=some σ'
 | [],ws,σ,σ',h=>⟨0,h⟩
 |o::l,ws,σ,σ',h=>by
  have key: ∀{ws:Watch} {τ q q':St},evOper (CALLO tab) o τ=some q→evDraw (CALLO tab) m0 ws l q'=some σ'→ ∃n,evOper (callN tab n) o τ=some q∧evDraw (callN tab n) m0 ws l q'=some σ':=by
   intro ws τ q q' h1 h2
   obtain⟨n,hn⟩:=Zp h1
   obtain⟨k,hk⟩:=Zq h2
   exact⟨max n k,x8 (tN tab (Nat.le_max_left _ _)) hn,yy (tN tab (Nat.le_max_right _ _)) hk⟩
  simp only[evDraw] at h⊢
  split at h
  ·split at h
   ·rename_i q hq
    obtain⟨n,a,b⟩:=key hq h
    exact⟨n,by rw[a];exact b⟩
   ·cases h
  ·split at h
   ·split at h
    ·split at h
     ·rename_i q hq
      obtain⟨n,a,b⟩:=key (yJ hq).1 h
      exact⟨n,by rw[qK a (yJ hq).2];exact b⟩
     ·cases h
    ·cases h
   ·split at h
    ·rename_i q hq
     obtain⟨n,a,b⟩:=key hq h
     exact⟨n,by rw[a];exact b⟩
    ·cases h
theorem qb {α:Type} {a b:Option α} (h: ∀r,a=some r↔b=some r):a=b:=by
 cases a with
 |none=>
  cases b with
  |none=>rfl
  |some y=>have:=(h y).2 rfl;cases this
 |some x=>exact((h x).1 rfl).symm
theorem z0m (σ:St):EV tab .skip σ=some (.normal,σ):=y8.2 ⟨0,rfl⟩
theorem z0W (σ:St):EV tab .ret σ=some (.ret,σ):=y8.2 ⟨0,rfl⟩
theorem z0o (id:Nat) (σ:St):EV tab (.exit id) σ=some (.exit id,σ):=y8.2 ⟨0,rfl⟩
theorem z0Y (ts:List Nat) (σ:St):EV tab (.frz ts) σ=(frzT ts σ).map fun σ'=>(.normal,σ'):=by
 refine qb fun r=> ?_
 rw[y8]
 exact⟨fun⟨_,h⟩=>h,fun h=>⟨0,h⟩⟩
theorem z0X (l:List AOper) (σ:St):EV tab (.ops l) σ=(evOps (CALLO tab) l σ).map fun σ'=>(.normal,σ'):=by
 refine qb fun r=> ?_
 rw[y8]
 simp only[ev,w01]
 constructor
 ·rintro⟨n,σ1,h1,h2⟩;exact⟨σ1,vk (Zz n) h1,h2⟩
 ·rintro⟨σ1,h1,h2⟩;obtain⟨n,hn⟩:=X7 h1;exact⟨n,σ1,hn,h2⟩
theorem z0p (l:List AOper) (σ:St):EV tab (.draw l) σ=(evDraw (CALLO tab) σ.m [] l ⟨σ.ρ,{σ.m with floor:=max σ.m.floor (σ.m.stk.length+1)}⟩).map fun σ'=>(.normal,⟨σ'.ρ,{σ'.m with floor:=σ.m.floor}⟩):=by
 refine qb fun r=> ?_
 rw[y8]
 simp only[ev,w01]
 constructor
 ·rintro⟨n,σ1,h1,h2⟩;exact⟨σ1,yy (Zz n) h1,h2⟩
 ·rintro⟨σ1,h1,h2⟩;obtain⟨n,hn⟩:=Zq h1;exact⟨n,σ1,hn,h2⟩
theorem z0s {n n':Nat} (h:n≤n') {c:ACode} {σ:St} {r:Out×St} (he:ev (callB tab n) n c σ=some r):ev (callB tab n') n' c σ=some r:=XS (ZD tab h) h c he
theorem z0V (a b:ACode) (σ:St):EV tab (.seq a b) σ=match EV tab a σ with|some (.normal,σ')=>EV tab b σ'|r=>r:=by
 refine qb fun r=> ?_
 rw[y8]
 constructor
 ·rintro⟨n,h⟩
  simp only[ev] at h
  split at h
  ·rename_i σ1 h1
   rw[y8.2 ⟨n,h1⟩]
   exact y8.2 ⟨n,h⟩
  ·rename_i hne
   rw[y8.2 ⟨n,h⟩]
   split
   ·rename_i σ1 h1;injection h1 with h1;rw[h1] at h;exact absurd h (hne σ1)
   ·rfl
 ·intro h
  split at h
  ·rename_i σ1 h1
   obtain⟨n,hn⟩:=y8.1 h1
   obtain⟨k,hk⟩:=y8.1 h
   refine⟨max n k,?_⟩
   simp only[ev]
   rw[z0s (Nat.le_max_left n k) hn]
   exact z0s (Nat.le_max_right n k) hk
  ·rename_i hne
   obtain⟨n,hn⟩:=y8.1 h
   refine⟨n,?_⟩
   simp only[ev]
   rw[hn]
   split
   ·rename_i σ1 h1;injection h1 with h1;rw[h1] at h;exact absurd h (hne σ1)
   ·rfl
theorem Uz (c:Opd) (a b:ACode) (σ:St):EV tab (.cond c a b) σ=match c.ev σ.ρ with| .bool t=>if t then EV tab a σ else EV tab b σ|_=>none:=by
 refine qb fun r=> ?_
 rw[y8]
 simp only[ev]
 cases hv:c.ev σ.ρ with
 |bool t=>
  cases t with
  |true=>simp only[if_true];exact y8.symm
  |false=>simp only[w0c,if_false];exact y8.symm
 |_=>simp
theorem Qv (id:Nat) (a:ACode) (σ:St):EV tab (.block id a) σ=match EV tab a σ with|some (.exit i,σ')=>if i=id then some (.normal,σ') else some (.exit i,σ')|r=>r:=by
 refine qb fun r=> ?_
 rw[y8]
 constructor
 ·rintro⟨n,h⟩
  simp only[ev] at h
  split at h
  ·rename_i i σ1 h1
   rw[y8.2 ⟨n,h1⟩]
   exact h
  ·rename_i hne
   rw[y8.2 ⟨n,h⟩]
   split
   ·rename_i i σ1 h1;injection h1 with h1;rw[h1] at h;exact absurd h (hne i σ1)
   ·rfl
 ·intro h
  split at h
  ·rename_i i σ1 h1
   obtain⟨n,hn⟩:=y8.1 h1
   refine⟨n,?_⟩
   simp only[ev]
   rw[hn];exact h
  ·rename_i hne
   obtain⟨n,hn⟩:=y8.1 h
   refine⟨n,?_⟩
   simp only[ev]
   rw[hn]
   split
   ·rename_i i σ1 h1;injection h1 with h1;rw[h1] at h;exact absurd h (hne i σ1)
   ·rfl
noncomputable def LOOP (tab:Nat→Option AFunc) (live:List Nat) (nb:Nat) (a:ACode) (σ:St):Option (Out×St):=lim fun n=>iter (ev (callB tab n) n a) (heads live nb) n σ
theorem z0n (live:List Nat) (a:ACode) (σ:St):EV tab (.loop live a) σ=LOOP tab live σ.m.cur.length a σ:=rfl
end
def Opt {α:Type} (o:Option α) (Q:α→Prop):Prop:= ∃x,o=some x∧Q x
theorem yd {α:Type} (x:α) (Q:α→Prop):Opt (some x) Q=Q x:=by
 apply propext;constructor
 ·rintro⟨y,h,hq⟩;injection h with h;rw[h];exact hq
 ·exact fun h=>⟨x,rfl,h⟩
theorem Qt {α:Type} (Q:α→Prop):Opt none Q=False:=by
 apply propext;constructor
 ·rintro⟨y,h,_⟩;cases h
 ·exact False.elim
theorem Opt.mono {α:Type} {o:Option α} {Q R:α→Prop} (h:Opt o Q) (k: ∀x,Q x→R x):Opt o R:=let ⟨x,h1,h2⟩:=h;⟨x,h1,k x h2⟩
theorem jf {α β:Type} (o:Option α) (f:α→β) (Q:β→Prop):Opt (o.map f) Q=Opt o (fun x=>Q (f x)):=by cases o<;>simp[Opt]
theorem Qu {α β:Type} (o:Option α) (f:α→Option β) (Q:β→Prop):Opt (o.bind f) Q=Opt o (fun x=>Opt (f x) Q):=by cases o<;>simp[Opt]
section
variable (tab : Nat → Option AFunc)
def Run (c:ACode) (σ:St) (Q:Out→St→Prop):Prop:=Opt (EV tab c σ) (fun r=>Q r.1 r.2)
def RunL (live:List Nat) (nb:Nat) (a:ACode) (σ:St) (Q:Out→St→Prop):Prop:=Opt (LOOP tab live nb a σ) (fun r=>Q r.1 r.2)
def RunOps (l:List AOper) (σ:St) (Q:St→Prop):Prop:=Opt (evOps (CALLO tab) l σ) Q
def Step (o:AOper) (σ:St) (Q:St→Prop):Prop:=Opt (evOper (CALLO tab) o σ) Q
def Out.ends:Out→Prop
 | .normal| .ret=>True
 |_=>False
def onNormal (Q:Out→St→Prop) (R:St→Prop):Out→St→Prop
 | .normal,σ=>R σ
 |o,σ=>Q o σ
def onExit (id:Nat) (Q:Out→St→Prop):Out→St→Prop
 | .exit i,σ=>if i=id then Q .normal σ else Q (.exit i) σ
 |o,σ=>Q o σ
theorem Qp (σ:St) (Q:Out→St→Prop):Run tab .skip σ Q=Q .normal σ:=by unfold Run;rw[z0m,yd]
theorem z0j (σ:St) (Q:Out→St→Prop):Run tab .ret σ Q=Q .ret σ:=by unfold Run;rw[z0W,yd]
theorem Qr (i:Nat) (σ:St) (Q:Out→St→Prop):Run tab (.exit i) σ Q=Q (.exit i) σ:=by unfold Run;rw[z0o,yd]
theorem z0k (l:List AOper) (σ:St) (Q:Out→St→Prop):Run tab (.ops l) σ Q=RunOps tab l σ (Q .normal):=by unfold Run RunOps;rw[z0X,jf]
theorem z0l (ts:List Nat) (σ:St) (Q:Out→St→Prop):Run tab (.frz ts) σ Q=Opt (frzT ts σ) (Q .normal):=by unfold Run;rw[z0Y,jf]
theorem z0i (a b:ACode) (σ:St) (Q:Out→St→Prop):Run tab (.seq a b) σ Q=Run tab a σ (onNormal Q fun σ'=>Run tab b σ' Q):=by
 unfold Run;rw[z0V]
 cases EV tab a σ with
 |none=>simp[Opt]
 |some r=>obtain⟨o,σ'⟩:=r;cases o<;>simp[Opt,onNormal]
theorem Qs (c:Opd) (a b:ACode) (σ:St) (Q:Out→St→Prop) (t:Bool) (h:c.ev σ.ρ= .bool t):Run tab (.cond c a b) σ Q=if t=true then Run tab a σ Q else Run tab b σ Q:=by
 unfold Run;rw[Uz,h];cases t<;>rfl
theorem Tq (id:Nat) (a:ACode) (σ:St) (Q:Out→St→Prop):Run tab (.block id a) σ Q=Run tab a σ (onExit id Q):=by
 unfold Run;rw[Qv]
 cases EV tab a σ with
 |none=>simp[Opt]
 |some r=>
  obtain⟨o,σ'⟩:=r
  cases o with
  |exit i=>simp only[yd,onExit];split<;>rw[yd]
  |normal=>simp[Opt,onExit]
  |ret=>simp[Opt,onExit]
  |goto l=>simp[Opt,onExit]
theorem Qq (live:List Nat) (a:ACode) (σ:St) (Q:Out→St→Prop):Run tab (.loop live a) σ Q=RunL tab live σ.m.cur.length a σ Q:=by unfold Run RunL;rw[z0n]
theorem Ui (σ:St) (Q:St→Prop):RunOps tab [] σ Q=Q σ:=by unfold RunOps;simp[evOps,Opt]
theorem k9 (o:AOper) (l:List AOper) (σ:St) (Q:St→Prop):RunOps tab (o::l) σ Q=Step tab o σ (fun σ'=>RunOps tab l σ' Q):=by
 unfold RunOps Step;rw[evOps,Qu]
theorem Ug (d:Option Nat) (op:AOp) (f:Bool) (σ:St) (Q:St→Prop):Step tab ⟨d,op,none,f⟩ σ Q=Opt (evOp (CALLO tab) σ.ρ σ.m op) (fun r=>Q ⟨setDst σ.ρ d r.1,r.2⟩):=by
 unfold Step evOper;simp only[wanted];rw[jf]
theorem Uh (d:Option Nat) (op:AOp) (g:Nat) (w f t:Bool) (σ:St) (Q:St→Prop) (h:σ.ρ.getD g .undef= .bool t):
  Step tab ⟨d,op,some (g,w),f⟩ σ Q=if t=w then Opt (evOp (CALLO tab) σ.ρ σ.m op) (fun r=>Q ⟨setDst σ.ρ d r.1,r.2⟩) else Q ⟨setDst σ.ρ d (.tup []),σ.m⟩:=by
 unfold Step evOper;simp only[wanted,h]
 cases t<;>cases w<;>simp[jf,yd]
theorem Uf (d:Option Nat) (op:AOp) (g:Nat) (w f:Bool) (σ:St) (Q:St→Prop) (h:σ.ρ.getD g .undef= .tup []):
  Step tab ⟨d,op,some (g,w),f⟩ σ Q=Q ⟨setDst σ.ρ d (.tup []),σ.m⟩:=by
 unfold Step evOper;simp only[wanted,h];simp[Opt]
end
section
variable {tab : Nat → Option AFunc}
end
def Mem.bump (m:Mem) (k:Nat):Mem:={m with nx:=k}
def look:List (Nat×AV)→Nat→AV→AV
 | [],_,df=>df
 |(i,v)::r,j,df=>if i=j then v else look r j df
def mk (n:Nat) (df:AV) (l:List (Nat×AV)):List AV:=(List.range n).map fun j=>look l j df
def tmps (n:Nat) (l:List (Nat×AV)):List AV:=mk n .undef l
theorem TK (j:Nat) (df:AV):look [] j df=df:=rfl
theorem UN (i:Nat) (v:AV) (r:List (Nat×AV)) (j:Nat) (df:AV):look ((i,v)::r) j df=if i=j then v else look r j df:=rfl
theorem z0v (n:Nat) (df:AV) (l:List (Nat×AV)) (d:Nat) (v:AV):(mk n df l).set d v=mk n df ((d,v)::l):=by
 apply List.ext_getElem?
 intro j
 rw[List.getElem?_set]
 simp only[mk,List.length_map,List.length_range,w13,List.getElem?_range']
 by_cases hj:j<n
 ·rw[List.getElem?_range hj]
  by_cases hd:d=j
  ·subst hd;simp[look,hj]
  ·simp[look,hd]
 ·rw[w19 (by simp;omega)]
  by_cases hd:d=j
  ·subst hd;simp[hj]
  ·simp[hd]
theorem UE (n:Nat) (df:AV) (l:List (Nat×AV)) (d:Nat) (v:AV):setDst (mk n df l) (some d) v=mk n df ((d,v)::l):=z0v n df l d v
theorem Wh (ρ:List AV) (v:AV):setDst ρ none v=ρ:=rfl
theorem z05 (n:Nat) (df:AV) (l:List (Nat×AV)) (j:Nat) (x:AV):(mk n df l).getD j x=if j<n then look l j df else x:=by
 rw[w03]
 simp only[mk,w13]
 by_cases hj:j<n
 ·rw[List.getElem?_range hj,if_pos hj];rfl
 ·rw[w19 (by simp;omega),if_neg hj];rfl
theorem UM (live:List Nat) (l:List (Nat×AV)) (df:AV) (j:Nat):look (live.map fun i=>(i,look l i df)) j .undef=if live.contains j then look l j df else .undef:=by
 induction live with
 |nil=>rfl
 |cons i r ih=>
  simp only[w1d,look,ih,List.contains_cons]
  by_cases h:i=j
  ·subst h;simp
  ·simp only[h,if_false]
   have:(j==i)=false:=by simp;exact fun e=>h e.symm
   rw[this,Bool.false_or]
theorem Qf (live:List Nat) (n:Nat) (df:AV) (l:List (Nat×AV)):clean live (mk n df l)=mk n .undef (live.map fun i=>(i,look l i df)):=by
 apply List.ext_getElem?
 intro j
 unfold clean
 rw[w13,List.getElem?_zipIdx]
 simp only[mk,w13]
 by_cases hj:j<n
 ·rw[List.getElem?_range hj]
  simp only[w05,w1b,UM]
 ·rw[w19 (by simp;omega)];rfl
def numb:Nat→List AV→List (Nat×AV)
 |_,[]=>[]
 |i,a::r=>(i,a)::numb (i+1) r
theorem UL (i:Nat) (a:AV) (r:List AV):numb i (a::r)=(i,a)::numb (i+1) r:=rfl
theorem TG (i:Nat):numb i []=[]:=rfl
theorem Qx (n:Nat) (l:List (Nat×AV)):tmps n l=mk n .undef l:=rfl
theorem Tn (cs:List AV):(AV.agg cs).cells=cs:=rfl
theorem U9 (b:Bool):(AV.bool b).cells=[.bool b]:=rfl
theorem Tl (k:IntKind) (n:Int):(AV.int k n).cells=[.int k n]:=rfl
theorem Tj (s:List UInt8):(AV.str s).cells=[.str s]:=rfl
theorem U6:AV.nils.cells=[.nils]:=rfl
theorem U8 (s:Nat) (tk:Tok) (xs:List AV):(AV.list s tk xs).cells=[.list s tk xs]:=rfl
theorem Tm (l k st off len:Nat):(AV.arr l k st off len).cells=[.arr l k st off len]:=rfl
theorem U7 (l k st:Nat):(AV.mapR l k st).cells=[.mapR l k st]:=rfl
theorem TD (l k st:Nat):(AV.mapR l k st).one=true:=rfl
theorem Tk (l k st off:Nat):(AV.ptr l k st off).cells=[.ptr l k st off]:=rfl
theorem Qg (cs:List AV):(AV.ro cs).cells=[.ro cs]:=rfl
theorem XW:AV.nilptr.cells=[.nilptr]:=rfl
theorem Qh (f:Fn) (a b:List AV):(AV.fn f a b).cells=[.fn f a b]:=rfl
theorem V7:AV.nilfn.cells=[.nilfn]:=rfl
theorem TF (b:Bool):(AV.bool b).one=true:=rfl
theorem QF (k:IntKind) (n:Int):(AV.int k n).one=true:=rfl
theorem QD (s:List UInt8):(AV.str s).one=true:=rfl
theorem TC:AV.nils.one=true:=rfl
theorem TE (s:Nat) (tk:Tok) (xs:List AV):(AV.list s tk xs).one=true:=rfl
theorem QG (l k st off len:Nat):(AV.arr l k st off len).one=true:=rfl
theorem QE (l k st off:Nat):(AV.ptr l k st off).one=true:=rfl
theorem z0y (cs:List AV):(AV.ro cs).one=true:=rfl
theorem VA:AV.nilptr.one=true:=rfl
theorem z0z (f:Fn) (a b:List AV):(AV.fn f a b).one=true:=rfl
theorem UK:AV.nilfn.one=true:=rfl
theorem Tv (c:AV) (r:List AV):takeV false 1 (c::r)=some c:=by simp[takeV]
theorem Qy (n:Nat) (cs:List AV) (h:n≤cs.length):takeV true n cs=some (.agg (cs.take n)):=by simp[takeV,h]
theorem T2 (n:Nat) (a x:Opd):(AOp.store n a x).isStore=true:=rfl
theorem QX (e:XOp):(AOp.ext e).isStore=e.isPut:=rfl
theorem QU (x:Opd):(AOp.mov x).isStore=false:=rfl
theorem TZ (c a b:Opd):(AOp.pick c a b).isStore=false:=rfl
theorem Ta (z:List AV):(AOp.alloc z).isStore=false:=rfl
theorem QY (n:Nat) (x:Opd):(AOp.box n x).isStore=false:=rfl
theorem T9 (z:List AV) (ps:List (Nat×Nat×Opd)):(AOp.build z ps).isStore=false:=rfl
theorem QV (s:Nat) (ps:List Opd):(AOp.lit s ps).isStore=false:=rfl
theorem Q2 (g:Bool) (n:Nat) (a:Opd):(AOp.load g n a).isStore=false:=rfl
theorem QZ (o:BinOp) (x y:Opd):(AOp.bin o x y).isStore=false:=rfl
theorem z00 (g:Bool) (x y:Opd):(AOp.beq g x y).isStore=false:=rfl
theorem z0G (o:UnOp) (x:Opd):(AOp.un o x).isStore=false:=rfl
theorem Q4 (k:IntKind) (x:Opd):(AOp.conv k x).isStore=false:=rfl
theorem T7 (x:Opd):(AOp.convS x).isStore=false:=rfl
theorem T1 (x:Opd):(AOp.toStr x).isStore=false:=rfl
theorem WP (x:Opd):(AOp.toBytes x).isStore=false:=rfl
theorem Q0 (f:Fn) (a b:List Opd):(AOp.mkfn f a b).isStore=false:=rfl
theorem T6 (n:Nat) (a:Opd):(AOp.faddr n a).isStore=false:=rfl
theorem T5 (g:Bool) (n o:Nat) (x:Opd):(AOp.field g n o x).isStore=false:=rfl
theorem T4 (s:Nat) (x i:Opd):(AOp.iaddr s x i).isStore=false:=rfl
theorem VR (n s:Nat) (x i:Opd):(AOp.iaddrA n s x i).isStore=false:=rfl
theorem VP (x i:Opd):(AOp.indexS x i).isStore=false:=rfl
theorem VQ (n s:Nat) (g:Bool) (x i:Opd):(AOp.indexA n s g x i).isStore=false:=rfl
theorem QW (x:Opd):(AOp.len x).isStore=false:=rfl
theorem Q3 (x:Opd):(AOp.lenS x).isStore=false:=rfl
theorem z01 (s b:Nat) (x y:Opd):(AOp.app s b x y).isStore=false:=rfl
theorem z0H (x y:Opd):(AOp.mx x y).isStore=false:=rfl
theorem z0I (x y:Opd):(AOp.mn x y).isStore=false:=rfl
theorem T3 (s:Nat) (x:Opd) (lo hi t:Option Opd):(AOp.slice s x lo hi t).isStore=false:=rfl
theorem VO (n s:Nat) (x:Opd) (lo hi:Option Opd):(AOp.sliceA n s x lo hi).isStore=false:=rfl
theorem VN (x:Opd) (lo hi:Option Opd):(AOp.sliceS x lo hi).isStore=false:=rfl
theorem Q1 (s b:Nat) (z:List AV) (n c:Opd):(AOp.make s b z n c).isStore=false:=rfl
theorem WQ (x:Opd) (i:Nat):(AOp.extract x i).isStore=false:=rfl
theorem Q5 (f:Fn) (x y:List AV) (a:List Opd):(AOp.call (.c (.fn f x y)) a).isStore=false:=rfl
theorem T8 (i:Nat) (a:List Opd):(AOp.call (.t i) a).isStore=false:=rfl
theorem z0t (f:Fn) (x y:List AV):unS (.c (.fn f x y))= .c (.fn f x y):=rfl
theorem z0Z (i:Nat):unS (.t i)= .t i:=rfl
theorem Tb (n:Nat) (a x:Opd):(AOp.store n a x).isC=false:=rfl
theorem z03 (e:XOp):(AOp.ext e).isC=false:=rfl
theorem VT (t:Nat) (h:List Nat) (r:List (List Nat)):hasTok t ((t::h)::r)=true:=by simp[hasTok]
theorem WZ (t:Nat) (h:List Nat) (r:List (List Nat)):dropTok t ((t::h)::r)=h::r:=by simp[dropTok]
theorem Xz (l:List (List Nat)):pushToks [] l=l:=by cases l<;>rfl
theorem Ya (ts h:List Nat) (r:List (List Nat)):pushToks ts (h::r)=(ts++h)::r:=by cases ts<;>rfl
inductive Kont where
 |fin (res:List ARes) (m0:Mem) (R:AV→Mem→Prop)
 |seq (b:ACode) (k:Kont)
 |block (id:Nat) (k:Kont)
 |again (J:St→Prop) (k:Kont)
def Kont.go (tab:Nat→Option AFunc):Kont→Out→St→Prop
 | .fin res m0 R=>fun o σ=>o.ends∧Opt (evRess σ res) fun vs=>Opt (leave m0 σ.m (packRes vs)) fun r=>R r.1 r.2
 | .seq b k=>onNormal (k.go tab) fun σ=>Run tab b σ (k.go tab)
 | .block id k=>onExit id (k.go tab)
 | .again J k=>onNormal (k.go tab) J
section
variable (tab : Nat → Option AFunc)
def X (c:ACode) (ρ:List AV) (m:Mem) (k:Kont):Prop:=Run tab c ⟨ρ,m⟩ (k.go tab)
def Xs (l:List AOper) (ρ:List AV) (m:Mem) (k:Kont):Prop:=RunOps tab l ⟨ρ,m⟩ (k.go tab .normal)
def XL (live:List Nat) (nb:Nat) (a:ACode) (ρ:List AV) (m:Mem) (k:Kont):Prop:=RunL tab live nb a ⟨ρ,m⟩ (k.go tab)
def Xv (r:Option (AV×Mem)) (d:Option Nat) (l:List AOper) (ρ:List AV) (k:Kont):Prop:=Opt r fun r=>Xs tab l (setDst ρ d r.1) r.2 k
def Xg (c:AV) (w:Bool) (d:Option Nat) (op:AOp) (l:List AOper) (ρ:List AV) (m:Mem) (k:Kont):Prop:=
 match c with
 | .bool t=>if t=w then Xv tab (evOp (CALLO tab) ρ m op) d l ρ k else Xs tab l (setDst ρ d (.tup [])) m k
 | .tup []=>Xs tab l (setDst ρ d (.tup [])) m k
 |_=>False
def Xc (c:AV) (a b:ACode) (ρ:List AV) (m:Mem) (k:Kont):Prop:=
 match c with
 | .bool t=>if t=true then X tab a ρ m k else X tab b ρ m k
 |_=>False
def Xo (k:Kont) (o:Out) (ρ:List AV) (m:Mem):Prop:=k.go tab o ⟨ρ,m⟩
def Xd (fl:Nat) (m0:Mem) (ws:Watch) (l:List AOper) (ρ:List AV) (m:Mem) (k:Kont):Prop:=Opt (evDraw (CALLO tab) m0 ws l ⟨ρ,m⟩) fun σ=>Xo tab k .normal σ.ρ {σ.m with floor:=fl}
def Xw (r:Option (AV×Mem)) (w:Nat) (fl:Nat) (m0:Mem) (ws:Watch) (d:Option Nat) (l:List AOper) (ρ:List AV) (m:Mem) (k:Kont):Prop:=
 Opt r fun r=>Xd tab fl m0 ws l (setDst ρ d r.1) (match w with|0=>m|1=>{r.2 with floor:=m.floor}|_=>r.2) k
def Xu (c:AV) (w:Bool) (d:Option Nat) (op:AOp) (f:Bool) (fl:Nat) (m0:Mem) (ws:Watch) (l:List AOper) (ρ:List AV) (m:Mem) (k:Kont):Prop:=
 match c with
 | .bool t=>if t=w then Xd tab fl m0 ws (⟨d,op,none,f⟩::l) ρ m k else Xd tab fl m0 ws l (setDst ρ d (.tup [])) m k
 | .tup []=>Xd tab fl m0 ws l (setDst ρ d (.tup [])) m k
 |_=>False
variable (ρ : List AV) (m : Mem) (k : Kont) (a b : ACode) (l : List AOper) (d : Option Nat) (op : AOp)
theorem z0Q:X tab .skip ρ m k=Xo tab k .normal ρ m:=by unfold X;rw[Qp];rfl
theorem z1e:X tab .ret ρ m k=Xo tab k .ret ρ m:=by unfold X;rw[z0j];rfl
theorem z0S (i:Nat):X tab (.exit i) ρ m k=Xo tab k (.exit i) ρ m:=by unfold X;rw[Qr];rfl
theorem z1f:X tab (.ops l) ρ m k=Xs tab l ρ m k:=by unfold X Xs;rw[z0k]
theorem z1g (ts:List Nat):X tab (.frz ts) ρ m k=Opt (frzT ts ⟨ρ,m⟩) fun σ=>Xo tab k .normal σ.ρ σ.m:=by unfold X;rw[z0l];rfl
theorem z1d:X tab (.seq a b) ρ m k=X tab a ρ m (.seq b k):=by unfold X;rw[z0i];rfl
theorem z0h (id:Nat):X tab (.block id a) ρ m k=X tab a ρ m (.block id k):=by unfold X;rw[Tq];rfl
theorem z0R (live:List Nat):X tab (.loop live a) ρ m k=XL tab live m.cur.length a ρ m k:=by unfold X XL;rw[Qq]
theorem z0U (c:Opd):X tab (.cond c a b) ρ m k=Xc tab (c.ev ρ) a b ρ m k:=by
 unfold X Xc
 split
 ·rename_i t h;rw[Qs tab c a b ⟨ρ,m⟩ _ t h];rfl
 ·rename_i hne
  unfold Run;rw[Uz]
  split
  ·rename_i t h;exact absurd h (hne t)
  ·simp[Opt]
theorem z0g:Xc tab (.bool true) a b ρ m k=X tab a ρ m k:=_root_.id rfl
theorem Qo:Xc tab (.bool false) a b ρ m k=X tab b ρ m k:=_root_.id rfl
theorem z0K:Xs tab [] ρ m k=Xo tab k .normal ρ m:=by unfold Xs;rw[Ui];rfl
theorem z0d (f:Bool):Xs tab (⟨d,op,none,f⟩::l) ρ m k=Xv tab (evOp (CALLO tab) ρ m op) d l ρ k:=by unfold Xs;rw[k9,Ug];rfl
theorem Qj (g:Nat) (w f:Bool):Xs tab (⟨d,op,some (g,w),f⟩::l) ρ m k=Xg tab (ρ.getD g .undef) w d op l ρ m k:=by
 unfold Xs Xg;rw[k9]
 split
 ·rename_i t h
  rw[Uh tab d op g w f t ⟨ρ,m⟩ _ h];rfl
 ·rename_i h
  rw[Uf tab d op g w f ⟨ρ,m⟩ _ h];rfl
 ·rename_i h1 h2
  unfold Step evOper
  simp only[wanted]
  rw[Qt]
theorem z19:Xg tab (.bool true) true d op l ρ m k=Xv tab (evOp (CALLO tab) ρ m op) d l ρ k:=_root_.id rfl
theorem z1c:Xg tab (.bool false) false d op l ρ m k=Xv tab (evOp (CALLO tab) ρ m op) d l ρ k:=_root_.id rfl
theorem z1a:Xg tab (.bool true) false d op l ρ m k=Xs tab l (setDst ρ d (.tup [])) m k:=by simp[Xg]
theorem z1b:Xg tab (.bool false) true d op l ρ m k=Xs tab l (setDst ρ d (.tup [])) m k:=by simp[Xg]
theorem z18 (w:Bool):Xg tab (.tup []) w d op l ρ m k=Xs tab l (setDst ρ d (.tup [])) m k:=_root_.id rfl
theorem z0c (v:AV):Xv tab (some (v,m)) d l ρ k=Xs tab l (setDst ρ d v) m k:=by unfold Xv;rw[yd]
theorem z0L (b:ACode):Xo tab (.seq b k) .normal ρ m=X tab b ρ m k:=_root_.id rfl
theorem Ue (b:ACode):Xo tab (.seq b k) .ret ρ m=Xo tab k .ret ρ m:=_root_.id rfl
theorem Vk (b:ACode) (i:Nat):Xo tab (.seq b k) (.exit i) ρ m=Xo tab k (.exit i) ρ m:=_root_.id rfl
theorem Qk (id:Nat):Xo tab (.block id k) .normal ρ m=Xo tab k .normal ρ m:=_root_.id rfl
theorem W4 (id:Nat):Xo tab (.block id k) .ret ρ m=Xo tab k .ret ρ m:=_root_.id rfl
theorem YF (id i:Nat):Xo tab (.block id k) (.exit i) ρ m=if i=id then Xo tab k .normal ρ m else Xo tab k (.exit i) ρ m:=_root_.id rfl
theorem Ql (J:St→Prop):Xo tab (.again J k) .normal ρ m=J ⟨ρ,m⟩:=_root_.id rfl
theorem W5 (J:St→Prop):Xo tab (.again J k) .ret ρ m=Xo tab k .ret ρ m:=_root_.id rfl
theorem YG (J:St→Prop) (i:Nat):Xo tab (.again J k) (.exit i) ρ m=Xo tab k (.exit i) ρ m:=_root_.id rfl
theorem z0M (res:List ARes) (m0:Mem) (R:AV→Mem→Prop):Xo tab (.fin res m0 R) .ret ρ m=Opt (evRess ⟨ρ,m⟩ res) fun vs=>Opt (leave m0 m (packRes vs)) fun r=>R r.1 r.2:=by
 unfold Xo Kont.go;simp[Out.ends]
theorem z0N (res:List ARes) (m0:Mem) (R:AV→Mem→Prop):Xo tab (.fin res m0 R) .normal ρ m=Opt (evRess ⟨ρ,m⟩ res) fun vs=>Opt (leave m0 m (packRes vs)) fun r=>R r.1 r.2:=by
 unfold Xo Kont.go;simp[Out.ends]
variable (ws : Watch)
theorem z0T:X tab (.draw l) ρ m k=Xd tab m.floor m [] l ρ {m with floor:=max m.floor (m.stk.length+1)} k:=by
 unfold X Xd Run;rw[z0p,jf];rfl
theorem z0O (fl:Nat) (m0:Mem):Xd tab fl m0 ws [] ρ m k=Xo tab k .normal ρ {m with floor:=fl}:=by unfold Xd;rw[evDraw,yd]
theorem Qn (fl:Nat) (m0:Mem) (g:Nat) (w f:Bool):Xd tab fl m0 ws (⟨d,op,some (g,w),f⟩::l) ρ m k=Xu tab (ρ.getD g .undef) w d op f fl m0 ws l ρ m k:=by
 have skip:wanted ρ (some (g,w))=some false→Xd tab fl m0 ws (⟨d,op,some (g,w),f⟩::l) ρ m k=Xd tab fl m0 ws l (setDst ρ d (.tup [])) m k:=by
  intro h
  unfold Xd
  simp only[evDraw,evOperS,keptG,evOper,watchG,clearG,h]
  cases f
  ·simp only
   cases op.isStore<;>simp
  ·simp only
 have go:wanted ρ (some (g,w))=some true→Xd tab fl m0 ws (⟨d,op,some (g,w),f⟩::l) ρ m k=Xd tab fl m0 ws (⟨d,op,none,f⟩::l) ρ m k:=by
  intro h
  have h':wanted ρ none=some true:=rfl
  unfold Xd
  simp only[evDraw,evOperS,keptG,evOper,watchG,clearG,h,h']
 have no:wanted ρ (some (g,w))=none→Xd tab fl m0 ws (⟨d,op,some (g,w),f⟩::l) ρ m k=False:=by
  intro h
  unfold Xd
  simp only[evDraw,evOperS,keptG,evOper,watchG,clearG,h]
  cases f
  ·simp only
   cases op.isStore<;>simp[Opt]
  ·simp[Opt]
 unfold Xu
 split
 ·rename_i t h
  simp only[wanted,h] at skip go
  cases t<;>cases w<;>simp at skip go⊢ <;>first|exact skip|exact go
 ·rename_i h;exact skip (by simp only[wanted,h])
 ·rename_i h1 h2
  refine no ?_
  simp only[wanted]
theorem z14 (f:Bool) (fl:Nat) (m0:Mem):Xu tab (.bool true) true d op f fl m0 ws l ρ m k=Xd tab fl m0 ws (⟨d,op,none,f⟩::l) ρ m k:=_root_.id rfl
theorem z17 (f:Bool) (fl:Nat) (m0:Mem):Xu tab (.bool false) false d op f fl m0 ws l ρ m k=Xd tab fl m0 ws (⟨d,op,none,f⟩::l) ρ m k:=_root_.id rfl
theorem z15 (f:Bool) (fl:Nat) (m0:Mem):Xu tab (.bool true) false d op f fl m0 ws l ρ m k=Xd tab fl m0 ws l (setDst ρ d (.tup [])) m k:=by simp[Xu]
theorem z16 (f:Bool) (fl:Nat) (m0:Mem):Xu tab (.bool false) true d op f fl m0 ws l ρ m k=Xd tab fl m0 ws l (setDst ρ d (.tup [])) m k:=by simp[Xu]
theorem z13 (w f:Bool) (fl:Nat) (m0:Mem):Xu tab (.tup []) w d op f fl m0 ws l ρ m k=Xd tab fl m0 ws l (setDst ρ d (.tup [])) m k:=_root_.id rfl
theorem z0P (fl:Nat) (m0:Mem):Xd tab fl m0 ws (⟨d,op,none,true⟩::l) ρ m k=Xw tab (evOp (CALLO tab) ρ m0 op) 0 fl m0 (watch ρ m0 op ws) d l ρ m k:=by
 unfold Xd Xw evDraw
 simp only[evOper,watchG,wanted]
 cases evOp (CALLO tab) ρ m0 op<;>simp[Opt,Xd]
def Xi (s:Bool) (fl:Nat) (m0:Mem) (ws:Watch) (d:Option Nat) (op:AOp) (l:List AOper) (ρ:List AV) (m:Mem) (k:Kont):Prop:=
 match s with
 |true=>clear ρ op ws=true∧(match op.isC with
  |false=>Xw tab (evOp (CALLO tab) ρ {m with floor:=m0.floor} op) 1 fl m0 ws d l ρ m k
  |true=>Opt (evOp (CALLO tab) ρ {m with floor:=m0.floor} op) fun r=>kept op m0 ws m r.2=true∧Xd tab fl m0 ws l (setDst ρ d r.1) {r.2 with floor:=m.floor} k)
 |false=>Xw tab (evOp (CALLO tab) ρ m op) 2 fl m0 ws d l ρ m k
theorem z0e (fl:Nat) (m0:Mem) (h:op.isC=false):Xi tab true fl m0 ws d op l ρ m k=(clear ρ op ws=true∧Xw tab (evOp (CALLO tab) ρ {m with floor:=m0.floor} op) 1 fl m0 ws d l ρ m k):=by unfold Xi;simp only[h]
theorem Qm (fl:Nat) (m0:Mem):Xi tab false fl m0 ws d op l ρ m k=Xw tab (evOp (CALLO tab) ρ m op) 2 fl m0 ws d l ρ m k:=_root_.id rfl
theorem z0f (fl:Nat) (m0:Mem):Xd tab fl m0 ws (⟨d,op,none,false⟩::l) ρ m k=Xi tab op.isStore fl m0 ws d op l ρ m k:=by
 unfold Xd Xi evDraw
 cases h:op.isStore
 ·simp only[evOper,clearG,wanted,Xw,h]
  cases evOp (CALLO tab) ρ m op<;>simp[Opt,Xd]
 ·simp only[clearG,wanted,h]
  cases hc:clear ρ op ws
  ·simp[Opt]
  ·cases hC:op.isC
   ·simp only[qt (o:=⟨d,op,none,false⟩) hC,evOper,wanted,Xw]
    cases evOp (CALLO tab) ρ {m with floor:=m0.floor} op<;>simp[Opt,Xd]
   ·simp only[evOperS,evOper,keptG,wanted]
    cases evOp (CALLO tab) ρ {m with floor:=m0.floor} op with
    |none=>simp[Opt]
    |some r=>
     simp only[w05,yd]
     cases hk:kept op m0 ws m r.2<;>simp[Opt,Xd]
theorem Xw_0 (v:AV) (m1 m0:Mem) (fl:Nat):Xw tab (some (v,m1)) 0 fl m0 ws d l ρ m k=Xd tab fl m0 ws l (setDst ρ d v) m k:=by unfold Xw;rw[yd];rfl
theorem Xw_1 (v:AV) (m1 m0:Mem) (fl:Nat):Xw tab (some (v,m1)) 1 fl m0 ws d l ρ m k=Xd tab fl m0 ws l (setDst ρ d v) {m1 with floor:=m.floor} k:=by unfold Xw;rw[yd];rfl
theorem Xw_2 (v:AV) (m1 m0:Mem) (fl:Nat):Xw tab (some (v,m1)) 2 fl m0 ws d l ρ m k=Xd tab fl m0 ws l (setDst ρ d v) m1 k:=by unfold Xw;rw[yd];rfl
theorem U5 (ρ:List AV) (p:Bool) (s b:Nat) (x y:Opd):clear ρ (.ext (.appB p s b x y)) []=true:=by unfold clear;simp only;split<;>rfl
theorem Ti (ρ:List AV) (n:Nat) (a x:Opd):clear ρ (.store n a x) []=true:=by unfold clear;simp only;split<;>rfl
theorem Vo (ρ:List AV) (m0:Mem) (g:Bool) (n:Nat) (a:Opd) (ws:Watch):watch ρ m0 (.load g n a) ws=ws:=rfl
theorem W9 (ρ:List AV) (m0:Mem) (g:Bool) (n:Nat) (a:Opd) (ws:Watch):watch ρ m0 (.ext (.wload g n a)) ws=match a.ev ρ with| .ptr l k st off=>(l,k,off,n,((m0.at (.ptr l k st off)).getD []).take n)::ws|_=>ws:=rfl
theorem U4 (ρ:List AV) (n:Nat) (a x:Opd) (w:Nat×Nat×Nat×Nat×List AV) (ws:Watch):clear ρ (.store n a x) (w::ws)=match a.ev ρ with| .ptr l k _ off=>((w.1 !=l||w.2.1 !=k||decide (off+n≤w.2.2.1)||decide (w.2.2.1+w.2.2.2.1≤off)||(decide (off=w.2.2.1)&&same (x.ev ρ).cells w.2.2.2.2))&&ws.all fun w=>w.1 !=l||w.2.1 !=k||decide (off+n≤w.2.2.1)||decide (w.2.2.1+w.2.2.2.1≤off)||(decide (off=w.2.2.1)&&same (x.ev ρ).cells w.2.2.2.2))|_=>true:=by unfold clear;rfl
end
section
variable {tab : Nat → Option AFunc} {ρ : List AV} {m : Mem} {k : Kont} {a : ACode}
theorem WI {stk:List (List Blk)} {cur c':List Blk} {nx nx' fl fl':Nat} {live live':List (List Nat)} {own:List Nat} {r:AV} (h1:r.refs (stk++[cur]).length=false) (h2:r.toks=[]):
  leave ⟨stk,cur,nx,live,fl⟩ ⟨stk++[cur],c',nx',own::live',fl'⟩ r=some (r,⟨stk,cur,nx',live',fl⟩):=by
 have e:own.filter (fun _=>false)=[]:=by simp
 unfold leave
 simp only[List.getLast?_append,List.getLast?_singleton,Option.some_or,h1,w0c,if_false,h2,List.contains_nil,e,pushToks,List.dropLast_concat]
end
attribute [go_sem] UF W9 U5 U4 List.all_nil w15 Ti Vo true_and List.set_cons_succ List.set_cons_zero List.getD_cons_succ List.getD_cons_zero List.replicate_succ List.replicate_zero TK UN UE Wh z05 Qf UL TG Qx Bool.not_true Bool.not_false ne_eq not_true_eq_false not_false_eq_true Bool.false_and Bool.and_false Bool.not_not z0Q z1e z0S z1f z1g z1d z0h z0R z0U z0g Qo z0K z0d Qj z19 z1c z1a z1b z18 z0c z0L Ue Vk Qk W4 YF
 Ql W5 YG z0M z0N z0T z0O Qn z14 z17 z15 z16 z13 z0P z0e Qm z0f Xw_0 Xw_1 Xw_2 T2 QU TZ Ta QY
 T9 QV Q2 QZ z00 z0G Q4 T7 T1 WP Q0 T6 T5 T4 VR VP VQ QW Q3 z01 z0H
 z0I T3 VO VN Q1 WQ Q5 T8 z0t z0Z Tb z03 evOp evCall Uj Opd.ev Tn U9
 Tl Tj U6 U8 Tm Tk Qg XW Qh V7 Mem.bump TF QF QD TC TE QG QE z0y VA z0z UK allOne List.length_cons List.length_nil
 List.cons_append List.nil_append List.append_nil w1b Nat.add_zero beq_self_eq_true if_true if_false ite_true ite_false w0c Mem.new enter Mem.at Mem.blk Mem.row Mem.put Mem.putS evFaddr
 Tv Qy evStore splice List.take_succ_cons List.take_zero List.drop_succ_cons List.drop_zero List.drop_nil List.take_nil List.getElem?_cons_succ w2a w05
 w16 Option.map_none Option.bind_none w1d List.map_nil List.head?_cons w0e decide_true decide_false Bool.and_self Bool.and_true Bool.true_and evBin evInt sameKind evMax
 evMin evUn heads cut List.contains_cons List.contains_nil Bool.or_false Bool.or_true Bool.false_or Bool.true_or evRess evRes packRes WI yd
 AV.refs AV.toks VT WZ addTok Xz Ya QX XOp.isPut evX nilOf nilChkV Mem.ents evMput evCopy isKey isPlain mapGet mapPut keyEq TD U7
end Go.Vs
end
section
namespace Go.Vs.U
open Go.Vs
@[go_sem] def m (d s:Nat):AOper:=⟨some d,.mov (.t s),none,false⟩
@[go_sem] def o (d:Nat) (op:AOp):AOper:=⟨some d,op,none,false⟩
@[go_sem] def y (d g:Nat) (op:AOp):AOper:=⟨some d,op,some (g,true),false⟩
@[go_sem] def z (d g:Nat) (op:AOp):AOper:=⟨some d,op,some (g,false),false⟩
@[go_sem] def w (d:Nat) (op:AOp):AOper:=⟨some d,op,none,true⟩
@[go_sem] def s (n a:Nat) (x:Opd):AOper:=⟨none,.store n (.t a) x,none,false⟩
@[go_sem] def ld (n a:Nat):AOp:= .load false n (.t a)
@[go_sem] def lg (n a:Nat):AOp:= .load true n (.t a)
@[go_sem] def fa (n a:Nat):AOp:= .faddr n (.t a)
@[go_sem] def ia (n a b:Nat):AOp:= .iaddr n (.t a) (.t b)
@[go_sem] def le (a:Nat):AOp:= .len (.t a)
@[go_sem] def v (x:Opd):AOp:= .mov x
@[go_sem] def mt (a:Nat):AOp:= .mov (.t a)
@[go_sem] def ki (n:Int):Opd:= .c (.int .i64 n)
@[go_sem] def ku (n:Int):Opd:= .c (.int .u8 n)
@[go_sem] def kf:Opd:= .c (.bool false)
@[go_sem] def kt:Opd:= .c (.bool true)
@[go_sem] def kn:Opd:= .c .nils
@[go_sem] def b (op:BinOp) (x y:Nat):AOp:= .bin op (.t x) (.t y)
@[go_sem] def bi (op:BinOp) (x:Nat) (n:Int):AOp:= .bin op (.t x) (.c (.int .i64 n))
@[go_sem] def bu (op:BinOp) (x:Nat) (n:Int):AOp:= .bin op (.t x) (.c (.int .u8 n))
@[go_sem] def ex (a i:Nat):AOp:= .extract (.t a) i
@[go_sem] def cf (f:Nat) (l:List Opd):AOp:= .call (.c (.fn (.func f) [] [])) l
@[go_sem] def cg (f:Nat) (l:List Nat):AOp:= .call (.c (.fn (.func f) [] [])) (l.map .t)
@[go_sem] def pf (a b:Nat):AOp:= .pick (.t a) (.t b) (.c (.bool false))
@[go_sem] def pt (a b:Nat):AOp:= .pick (.t a) (.c (.bool true)) (.t b)
@[go_sem] def ap (n k a b:Nat):AOp:= .app n k (.t a) (.t b)
@[go_sem] def bx (n a:Nat):AOp:= .box n (.t a)
@[go_sem] def li (n:Nat) (l:List Nat):AOp:= .lit n (l.map .t)
@[go_sem] def q (a b:ACode):ACode:= .seq a b
@[go_sem] def p (l:List AOper):ACode:= .ops l
@[go_sem] def c (t:Nat) (a b:ACode):ACode:= .cond (.t t) a b
@[go_sem] def k:ACode:= .skip
@[go_sem] def r:ACode:= .ret
@[go_sem] def bl (i:Nat) (a:ACode):ACode:= .block i a
@[go_sem] def lo (l:List Nat) (a:ACode):ACode:= .loop l a
@[go_sem] def e (i:Nat):ACode:= .exit i
@[go_sem] def iz:AV:= .int .i64 0
@[go_sem] def g (l:List AOper) (a:ACode):ACode:= .seq (.ops l) a
@[go_sem] def V (d:Nat) (x:Int):AOper:=o d (v (ki x))
@[go_sem] def W (d:Nat) (x:Opd):AOper:=o d (v x)
end Go.Vs.U
namespace Go.Vs
theorem tab1 {P:Go.Program} {f:Nat} {fn:Go.Func} {n:List (List Nat)} {a afn:AFunc} (hf:P.funcs[f]? =some fn) (hc:compFn P fn n=some a) (h:some a=some afn):(∃fn n,P.funcs[f]? =some fn∧compFn P fn n=some afn)∨ ∃b,afn=constFn b∧Known P f b:=by
 injection h with h;subst h;exact .inl ⟨fn,n,hf,hc⟩
end Go.Vs
end
