/-
  Part 5 of the proof, shared by claims of this seat: NVkm, NVkg, NVkh, NVki, D1Pa.
-/
import Derived.Test.YtbgppcjifcladaaGreatD3
import Derived.KernelRfl
set_option maxHeartbeats 64000000
set_option linter.unusedVariables false
set_option linter.unusedSimpArgs false
open Nat renaming eq_of_beq_eq_true → w27
open Option renaming bind_eq_some_iff → w01, map_some → w04, getD_some → w14, bind_some → w1e
open List renaming getD_eq_getElem?_getD → w02, getElem?_eq_getElem → w0b, eq_nil_of_length_eq_zero → w0e, mem_cons_of_mem → w19, mem_cons_self → w25, getElem?_cons_zero → w29
open Bool renaming and_eq_true → w03, false_eq_true → w0a
section
namespace Go.Vs
open Go.RowKit
def Tok.isN:Tok→Bool
 | .none=>true
 |_=>false
def Tok.isT:Tok→Bool
 | .id _=>true
 |_=>false
theorem Tok.isN_eq {t:Tok} (h:t.isN=true):t= .none:=by cases t<;>first|rfl|cases h
theorem Tok.isT_eq {t:Tok} (h:t.isT=true): ∃i,t= .id i:=by cases t<;>first|exact⟨_,rfl⟩|cases h
mutual
def AV.likeB:AV→AV→Bool
 | .bool a,.bool b=>a==b
 | .int k a,.int k' b=>sameKind k k'&&decide (a=b)
 | .str a,.str b=>decide (a=b)
 | .nils,.nils=>true
 | .nilptr,.nilptr=>true
 | .list s _ a,.list s' tk b=>tk.isN&&(Nat.beq s s'&&likesB a b)
 | .agg a,.agg b=>likesB a b
 | .tup a,.tup b=>likesB a b
 |_,_=>false
def likesB:List AV→List AV→Bool
 | [],[]=>true
 |a::r,b::s=>a.likeB b&&likesB r s
 |_,_=>false
end
theorem yW: ∀{a b:List AV},likesB a b=true→a.length=b.length
 | [],[],_=>rfl
 | [],_::_,h=>by simp[likesB] at h
 |_::_,[],h=>by simp[likesB] at h
 |x::a,y::b,h=>by simp only[likesB,w03] at h;simp[yW h.2]
theorem y8: ∀{a b:List AV} {i:Nat} {y:AV},likesB a b=true→b[i]? =some y→ ∃x,a[i]? =some x∧x.likeB y=true
 | [],[],i,y,_,h=>by simp at h
 | [],_::_,_,_,h,_=>by simp[likesB] at h
 |_::_,[],_,_,h,_=>by simp[likesB] at h
 |x::a,z::b,0,y,h,e=>by
  simp only[likesB,w03] at h
  simp only[w29,Option.some.injEq] at e
  exact⟨x,rfl,e▸h.1⟩
 |x::a,z::b,i+1,y,h,e=>by
  simp only[likesB,w03] at h
  simp only[List.getElem?_cons_succ] at e⊢
  exact y8 h.2 e
theorem z1s {x y:AV} (h:x.likeB y=true):likesB [x] [y]=true:=by simp[likesB,h]
theorem qM {x y:AV} (h:x.likeB y=true):likesB x.cells y.cells=true:=by
 cases x<;>cases y<;>first|exact z1s h|(simp[AV.likeB] at h;done)|exact h
theorem z1h {g:G} {w:World} {x:AV} {v:Value} (h:Rep g w x v) (n:Nat): ∀{y:AV},x.likeB y=true→Rep (G.zero n) w y v:=by
 induction h with
 |bool b=>intro y hy;cases y<;>simp[AV.likeB] at hy;subst hy;exact .bool _
 |int k n=>intro y hy;cases y<;>simp[AV.likeB] at hy;rw[←hy.2,←vU hy.1];exact .int _ _
 |str l s h=>intro y hy;cases y<;>simp[AV.likeB] at hy;subst hy;exact .str _ s h
 |nils=>intro y hy;cases y<;>simp[AV.likeB] at hy;exact .nils
 |nilptr=>intro y hy;cases y<;>simp[AV.likeB] at hy;exact .nilptr
 |list s tk xs b o cap f hs hcap htk hc hr ih=>
  intro y hy
  cases y<;>(try (simp only[AV.likeB,w0a] at hy;done))
  rename_i s' tk' ys
  simp only[AV.likeB,w03] at hy
  obtain⟨ht,hs0,hy⟩:=hy
  obtain rfl:=Tok.isN_eq ht
  obtain rfl:=w27 hs0
  rw[yW hy] at hcap⊢
  refine .list s .none ys b o cap f (fun i y e=> ?_) hcap trivial (fun i j y c e1 e2=> ?_) (fun i j y c e1 e2=> ?_)
  ·obtain⟨x,e3,e4⟩:=y8 hy e
   rw[←yW (qM e4)];exact hs i x e3
  ·obtain⟨x,e3,e4⟩:=y8 hy e1
   obtain⟨z,e5,_⟩:=y8 (qM e4) e2
   obtain⟨k1,_,k3⟩:=hc i j x z e3 e5
   exact⟨k1,rfl,k3⟩
  ·obtain⟨x,e3,e4⟩:=y8 hy e1
   obtain⟨z,e5,e6⟩:=y8 (qM e4) e2
   exact ih i j x z e3 e5 e6
 |empty s tk a cap h=>
  intro y hy
  cases y<;>(try (simp only[AV.likeB,w0a] at hy;done))
  rename_i s' tk' ys
  simp only[AV.likeB,w03] at hy
  obtain⟨ht,hs0,hy⟩:=hy
  obtain rfl:=Tok.isN_eq ht
  obtain rfl:=w27 hs0
  obtain rfl:ys=[]:=w0e (yW hy).symm
  exact .empty s .none a cap (.inl rfl)
 |agg cs vs hl h ih=>
  intro y hy
  cases y<;>(try (simp only[AV.likeB,w0a] at hy;done))
  rename_i ys
  refine .agg ys vs (hl.trans (yW hy)) fun j c u e1 e2=> ?_
  obtain⟨x,e3,e4⟩:=y8 hy e1
  exact ih j x u e3 e2 e4
 |tup cs vs hl h ih=>
  intro y hy
  cases y<;>(try (simp only[AV.likeB,w0a] at hy;done))
  rename_i ys
  refine .tup ys vs (hl.trans (yW hy)) fun j c u e1 e2=> ?_
  obtain⟨x,e3,e4⟩:=y8 hy e1
  exact ih j x u e3 e2 e4
 |_=>intro y hy;cases y<;>simp[AV.likeB] at hy
theorem z0k {g:G} {w:World} {xs ys:List AV} {vs:List Value} (h:Reps g w xs vs) (n:Nat) (hl:likesB xs ys=true):Reps (G.zero n) w ys vs:=
 ⟨h.1.trans (yW hl),fun j c v e1 e2=>by
  obtain⟨x,e3,e4⟩:=y8 hl e1
  exact z1h (h.2 j x v e3 e2) n e4⟩
def allPlain:List AV→Bool
 | []=>true
 |x::r=>isPlain x&&allPlain r
theorem jl: ∀{l:List AV} {i:Nat} {x:AV},allPlain l=true→l[i]? =some x→isPlain x=true
 | [],i,x,_,h=>by simp at h
 |y::r,0,x,h,e=>by
  simp only[allPlain,w03] at h
  simp only[w29,Option.some.injEq] at e
  exact e▸h.1
 |y::r,i+1,x,h,e=>by
  simp only[allPlain,w03] at h
  simp only[List.getElem?_cons_succ] at e
  exact jl h.2 e
mutual
def AV.own0:AV→AV→Bool
 | .bool a,.bool b=>a==b
 | .int k a,.int k' b=>sameKind k k'&&decide (a=b)
 | .str a,.str b=>decide (a=b)
 | .nils,.nils=>true
 | .list s tk a,.list s' tk' b=>tk.isT&&(tk'.isN&&(Nat.beq s s'&&(allPlain a&&eqsB a b)))
 | .agg a,.agg b=>owns0 a b
 | .tup a,.tup b=>owns0 a b
 |_,_=>false
def owns0:List AV→List AV→Bool
 | [],[]=>true
 |a::r,b::s=>a.own0 b&&owns0 r s
 |_,_=>false
end
theorem ZG: ∀{a b:List AV},owns0 a b=true→a.length=b.length
 | [],[],_=>rfl
 | [],_::_,h=>by simp[owns0] at h
 |_::_,[],h=>by simp[owns0] at h
 |x::a,y::b,h=>by simp only[owns0,w03] at h;simp[ZG h.2]
theorem ZH: ∀{a b:List AV} {i:Nat} {y:AV},owns0 a b=true→b[i]? =some y→ ∃x,a[i]? =some x∧x.own0 y=true
 | [],[],i,y,_,h=>by simp at h
 | [],_::_,_,_,h,_=>by simp[owns0] at h
 |_::_,[],_,_,h,_=>by simp[owns0] at h
 |x::a,z::b,0,y,h,e=>by
  simp only[owns0,w03] at h
  simp only[w29,Option.some.injEq] at e
  exact⟨x,rfl,e▸h.1⟩
 |x::a,z::b,i+1,y,h,e=>by
  simp only[owns0,w03] at h
  simp only[List.getElem?_cons_succ] at e⊢
  exact ZH h.2 e
theorem km {x:AV} (h:isPlain x=true):x.cells=[x]:=by cases x<;>first|rfl|cases h
theorem z1g {g g':G} {w':World} {x:AV} {v:Value} (h:Rep g' w' x v) (hb: ∀t b p e,g'.tk t=some (b,p,e)→ ∀j,g.own b j=none): ∀{y:AV},x.own0 y=true→Rep g w' y v:=by
 induction h with
 |bool b=>intro y hy;cases y<;>simp[AV.own0] at hy;subst hy;exact .bool _
 |int k n=>intro y hy;cases y<;>simp[AV.own0] at hy;rw[←hy.2,←vU hy.1];exact .int _ _
 |str l s h=>intro y hy;cases y<;>simp[AV.own0] at hy;subst hy;exact .str _ s h
 |nils=>intro y hy;cases y<;>simp[AV.own0] at hy;exact .nils
 |list s tk xs b o cap f hs hcap htk hc hr ih=>
  intro y hy
  cases y<;>(try (simp only[AV.own0,w0a] at hy;done))
  rename_i s' tk' ys
  simp only[AV.own0,w03] at hy
  obtain⟨ht,ht',hs0,hp,hy⟩:=hy
  obtain⟨t,rfl⟩:=Tok.isT_eq ht
  obtain rfl:=Tok.isN_eq ht'
  obtain rfl:=w27 hs0
  obtain rfl:=ji _ _ hy
  refine .list s .none xs b o cap f hs hcap trivial (fun i j y c e1 e2=> ?_) (fun i j y c e1 e2=> ?_)
  ·obtain⟨k1,_,k3⟩:=hc i j y c e1 e2
   exact⟨k1,hb t b _ _ htk _,k3⟩
  ·have hpl:=jl hp e1
   rw[km hpl] at e2
   obtain rfl:y=c:=by
    cases j with
    |zero=>simpa using e2
    |succ j=>simp at e2
   exact((hr i j y y e1 (by rw[km hpl];exact e2)).plain hpl).rep
 |empty s tk a cap h=>
  intro y hy
  cases y<;>(try (simp only[AV.own0,w0a] at hy;done))
  simp only[AV.own0,w03] at hy
  obtain⟨t,rfl⟩:=Tok.isT_eq hy.1
  cases h with
  |inl h=>cases h
  |inr h=>cases h.1
 |agg cs vs hl h ih=>
  intro y hy
  cases y<;>(try (simp only[AV.own0,w0a] at hy;done))
  rename_i ys
  simp only[AV.own0] at hy
  refine .agg ys vs (hl.trans (ZG hy)) fun j c u e1 e2=> ?_
  obtain⟨x,e3,e4⟩:=ZH hy e1
  exact ih j x u e3 e2 e4
 |tup cs vs hl h ih=>
  intro y hy
  cases y<;>(try (simp only[AV.own0,w0a] at hy;done))
  rename_i ys
  simp only[AV.own0] at hy
  refine .tup ys vs (hl.trans (ZG hy)) fun j c u e1 e2=> ?_
  obtain⟨x,e3,e4⟩:=ZH hy e1
  exact ih j x u e3 e2 e4
 |_=>intro y hy;cases y<;>simp[AV.own0] at hy
def MemoFact (P:Program) (f:Nat) (xs:List AV) (r:AV):Prop:=
 (∃fn,P.funcs[f]? =some fn∧(fn.name== "runtime.NumGoroutine")=false∧fn.body.isNone=false)∧
 ∀g w vs m,Inv g w m→Reps (G.zero w.heap.size) w xs vs→Calls P f vs.toArray w fun e w'=> ∃v,e= .returned v∧Below w.heap.size w w'∧Rep g w' r v
theorem VJ {P:Program} {f:Nat} {xs:List AV} {r r0:AV} {m':Mem} (h:CallOk P .top f xs Mem.zero r m') (hr:r.own0 r0=true):MemoFact P f xs r0:=by
 refine⟨h.1,fun g w vs m I hA=>(h.2 (G.zero w.heap.size) w vs trivial (T8 w) hA).mono fun e w' ⟨v,g',he,hx,hI,hv⟩=>⟨v,he,hx.below,?_⟩⟩
 refine z1g hv (fun t b p q ht j=> ?_) hr
 cases ho:g.own b j with
 |none=>rfl
 |some x=>
  have h1:=(I.ownb b j x ho).2
  have h2:=(hI.tklt t _ ht).2
  rw[hx.base] at h2
  have h3:w.heap.size≤b:=h2
  omega
theorem z2t {P:Program} {C:Ctx} {f:Nat} {args xs:List AV} {r:AV} {m:Mem} (h:MemoFact P f xs r) (hl:likesB args xs=true):CallOk P C f args m r m:=by
 refine⟨h.1,fun g w vs _ I hA=>(h.2 g w vs m I (z0k hA _ hl)).mono fun e w' ⟨v,he,hb,hv⟩=> ?_⟩
 obtain⟨k1,k2⟩:=ZD I hb
 exact⟨v,g,he,k1,k2,hv⟩
def lookM:List (List AV×AV)→List AV→Option AV
 | [],_=>none
 |p::t,a=>match likesB a p.1 with
  |true=>some p.2
  |false=>lookM t a
theorem UY {P:Program} {f:Nat}: ∀{l:List (List AV×AV)} {a:List AV} {r:AV},(∀p∈l,MemoFact P f p.1 p.2)→lookM l a=some r→ ∃xs,likesB a xs=true∧MemoFact P f xs r
 | [],a,r,_,h=>by cases h
 |p::t,a,r,hl,h=>by
  simp only[lookM] at h
  split at h
  ·rename_i e
   injection h with h;subst h
   exact⟨p.1,e,hl p w25⟩
  ·exact UY (fun q hq=>hl q (w19 _ hq)) h
structure GM where
 g:Nat→Bool
 memo:Nat→Option (List AV→Mem→Option (AV×Mem))
def MemoAbove (M:Nat→Option (List AV→Mem→Option (AV×Mem))):Prop:= ∀f h a m r m',M f=some h→h a m=some (r,m')→m.floor≤m.stk.length+1→Above m m'
structure MemoOk (P:Program) (M:Nat→Option (List AV→Mem→Option (AV×Mem))):Prop where
 above:MemoAbove M
 ok: ∀f h a m r m',M f=some h→h a m=some (r,m')→m.floor≤m.stk.length+1→ ∀C,CallOk P C f a m r m'
theorem Y1 (P:Program):MemoOk P fun _=>none:=⟨(fun f h a m r m' e=>by cases e),(fun f h a m r m' e=>by cases e)⟩
def memoX (f:Nat) (h:List AV→Mem→Option (AV×Mem)) (M:Nat→Option (List AV→Mem→Option (AV×Mem))):Nat→Option (List AV→Mem→Option (AV×Mem)):=fun i=>match Nat.beq i f with
 |true=>some h
 |false=>M i
theorem z1q {P:Program} {f:Nat} {h:List AV→Mem→Option (AV×Mem)} {M:Nat→Option (List AV→Mem→Option (AV×Mem))} (hA: ∀a m r m',h a m=some (r,m')→m.floor≤m.stk.length+1→Above m m') (hC: ∀a m r m',h a m=some (r,m')→m.floor≤m.stk.length+1→ ∀C,CallOk P C f a m r m') (hM:MemoOk P M):MemoOk P (memoX f h M):=by
 constructor
 ·intro i k a m r m' e1 e2
  unfold memoX at e1
  split at e1
  ·injection e1 with e1;subst e1
   exact hA a m r m' e2
  ·exact hM.above i k a m r m' e1 e2
 ·intro i k a m r m' e1 e2
  unfold memoX at e1
  split at e1
  ·rename_i hi
   have:=w27 hi
   subst this
   injection e1 with e1;subst e1
   exact hC a m r m' e2
  ·exact hM.ok i k a m r m' e1 e2
noncomputable def memoL (l:List (List AV×AV)) (a:List AV) (m:Mem):Option (AV×Mem):=Option.rec none (fun r=>some (r,m)) (lookM l a)
theorem Y2 {l:List (List AV×AV)} {a:List AV} {m m':Mem} {r:AV} (h:memoL l a m=some (r,m')):lookM l a=some r∧m'=m:=by
 unfold memoL at h
 cases hk:lookM l a with
 |none=>rw[hk] at h;cases h
 |some x=>rw[hk] at h;injection h with h;injection h with h1 h2;exact⟨by rw[h1],h2.symm⟩
noncomputable def memoC (f:Nat) (l:List (List AV×AV)) (M:Nat→Option (List AV→Mem→Option (AV×Mem))):Nat→Option (List AV→Mem→Option (AV×Mem)):=memoX f (memoL l) M
theorem UT {P:Program} {f:Nat} {l:List (List AV×AV)} {M:Nat→Option (List AV→Mem→Option (AV×Mem))} (h: ∀p∈l,MemoFact P f p.1 p.2) (hM:MemoOk P M):MemoOk P (memoC f l M):=
 z1q (fun a m r m' e _=>by obtain⟨_,e2⟩:=Y2 e;rw[e2];exact Above.refl m)
  (fun a m r m' e _ C=>by
   obtain⟨e,e3⟩:=Y2 e
   obtain⟨xs,e1,e2⟩:=UY h e
   rw[e3]
   exact z2t e2 e1) hM
end Go.Vs
end
section
namespace Go.Vs
noncomputable def evFnG (O:Ora) (n:Nat) (fn:AFunc) (args:List AV) (m:Mem):Option (AV×Mem):=bodyV O n fn args m fun m2 v=>some (v,m2)
noncomputable def evFnC (b:Bool) (O:Ora) (n:Nat) (fn:AFunc) (args:List AV) (m:Mem):Option (AV×Mem):=
 match b with
 |true=>match Nat.ble m.floor m.stk.length with
  |true=>evFnG O n fn args m
  |false=>evFn O n fn args m
 |false=>evFn O n fn args m
def memoV (G:GM) (f:Nat) (args:List AV) (m:Mem):Option (AV×Mem):=
 match G.memo f with
 |some h=>h args m
 |none=>none
noncomputable def callG (tab:Nat→Option AFunc) (G:GM):Nat→Ora
 |0=>⟨fun _ _ _=>none,fun _ _ _ _=>none⟩
 |n+1=>⟨fun c args m=>match c with
   |some f=>match memoV G f args m with
    |some q=>some q
    |none=>match tab f with
     |some fn=>evFnC (G.g f) (callG tab G n) n fn args m
     |none=>none
   |none=>none,fun Y c args m=>match c with
   |some f=>match tab f with
    |some fn=>evFnC (G.g f) ⟨withY (callG tab G n).call Y,(callG tab G n).iter⟩ n fn args m
    |none=>none
   |none=>none⟩
theorem tp {b:Bool} {O:Ora} {n:Nat} {fn:AFunc} {args:List AV} {m:Mem} {r:AV×Mem} (h:evFnC b O n fn args m=some r):evFn O n fn args m=some r∨(m.floor≤m.stk.length∧evFnG O n fn args m=some r):=by
 unfold evFnC at h
 split at h
 ·split at h
  ·rename_i hb;exact .inr ⟨Nat.le_of_ble_eq_true hb,h⟩
  ·exact .inl h
 ·exact .inl h
theorem Te {O:Ora} (hA:OraAbove O) {n:Nat} {fn:AFunc} {args:List AV} {m m':Mem} {r:AV} (h:evFnG O n fn args m=some (r,m')) (hf:m.floor≤m.stk.length):Above m m':=by
 unfold evFnG bodyV at h
 split at h
 ·cases h
 ·cases h
 ·rename_i out σ hne hne2 he
  simp only[w01,Option.some.injEq,Prod.mk.injEq] at h
  obtain⟨vs,_,_,rfl⟩:=h
  exact vH hA fn.body _ _ _ hf he
 ·cases h
theorem kG {b:Bool} {O:Ora} (hA:OraAbove O) {n:Nat} {fn:AFunc} {args:List AV} {m m':Mem} {r:AV} (h:evFnC b O n fn args m=some (r,m')) (hf:m.floor≤m.stk.length+1):Above m m':=by
 rcases tp h with h|⟨h1,h⟩
 ·exact Qs hA h hf
 ·exact Te hA h h1
theorem yu {tab:Nat→Option AFunc} {G:GM} (hG:MemoAbove G.memo): ∀n,OraAbove (callG tab G n)
 |0=>⟨fun c args m r m' h=>by simp[callG] at h,fun Y hY c args m r m' h=>by simp[callG] at h⟩
 |n+1=>by
  refine⟨fun c args m r m' h hf=> ?_,fun Y hY c args m r m' h hf=> ?_⟩
  ·simp only[callG] at h
   split at h
   ·split at h
    ·rename_i hm
     injection h with h;subst h
     unfold memoV at hm
     split at hm
     ·rename_i hk
      exact hG _ _ _ _ _ _ hk hm hf
     ·cases hm
    ·split at h
     ·exact kG (yu hG n) h hf
     ·cases h
   ·cases h
  ·simp only[callG] at h
   split at h
   ·split at h
    ·exact kG (O:=⟨withY (callG tab G n).call Y,(callG tab G n).iter⟩) ⟨ke (yu hG n).1 hY,(yu hG n).2⟩ h hf
    ·cases h
   ·cases h
section
variable {P : Program}
theorem z1R (hM:P.follows .mixedOrders=true) {b:Bool} {C:Ctx} {O:Ora} (hO:OracleOk P C O.call) (hI:OraOk P O) (hA0:OraAbove O) {n f:Nat} {fn:Func} {ann:List (List Nat)} {afn:AFunc} (hfn:P.funcs[f]? =some fn) (hcomp:compFn P fn ann=some afn)
  {args:List AV} {m m':Mem} {r:AV} (h:evFnC b O n afn args m=some (r,m')) (hf:m.floor≤m.stk.length+1):CallOk P C f args m r m':=by
 rcases tp h with h|⟨h1,h⟩
 ·exact z2U hM hO hI hA0 hfn hcomp h hf
 ·exact z3b hM hO hI hA0 hfn hcomp (m1:=m) (fin:=fun m2 v=>some (v,m2)) h h1 (fun I=>I) (fun I e hr=>by injection e with e;injection e with e1 e2;subst e1;subst e2;exact⟨I,hr⟩)
theorem z0V {O:Ora} {n:Nat} {b:Bool} {args:List AV} {m m':Mem} {r:AV} (h:evFnG O n (constFn b) args m=some (r,m')):args=[]∧r= .bool b∧m'=m:=by
 cases args with
 |cons x l=>simp[evFnG,bodyV,constFn,ev] at h
 |nil=>
  simp only[evFnG,bodyV,constFn,ev,List.length_nil,Nat.sub_self,List.replicate_zero,List.append_nil,evRess,evRes,w1e,w04,w02,w29,w14,packRes] at h
  injection h with h;injection h with h1 h2
  exact⟨rfl,h1.symm,h2.symm⟩
theorem Yv (hM:P.follows .mixedOrders=true) {tab:Nat→Option AFunc} {G:GM} (hT:TabOk P tab) (hG:MemoOk P G.memo): ∀n,(∀C,OracleOk P C (callG tab G n).call)∧OraOk P (callG tab G n)
 |0=>⟨fun C c args m r m' h=>by simp[callG] at h,fun C Y hY hYA f args m r m' h=>by simp[callG] at h⟩
 |n+1=>by
  have ih:=Yv hM (G:=G) hT hG n
  have one: ∀(C:Ctx) (O:Ora),OracleOk P C O.call→OraOk P O→OraAbove O→ ∀b f afn args m r m',tab f=some afn→evFnC b O n afn args m=some (r,m')→m.floor≤m.stk.length+1→CallOk P C f args m r m':=by
   intro C O hO hI hA b f afn args m r m' htab h hf
   rcases hT f afn htab with⟨fn,ann,hfn,hcomp⟩|⟨b,rfl,hk⟩
   ·exact z1R hM hO hI hA hfn hcomp h hf
   ·rcases tp h with h|⟨_,h⟩
    ·obtain⟨rfl,rfl,rfl⟩:=z1U h
     exact T1 hk m'
    ·obtain⟨rfl,rfl,rfl⟩:=z0V h
     exact T1 hk m'
  refine⟨fun C c args m r m' h hf=> ?_,fun C Y hY hYA f args m r m' h hf=> ?_⟩
  ·simp only[callG] at h
   split at h
   ·split at h
    ·rename_i hm
     injection h with h;subst h
     unfold memoV at hm
     split at hm
     ·rename_i hk
      exact hG.ok _ _ _ _ _ _ hk hm hf C
     ·cases hm
    split at h
    ·rename_i htab
     exact one C _ (ih.1 C) ih.2 (yu hG.above n) _ _ _ _ _ _ _ htab h hf
    ·cases h
   ·cases h
  ·simp only[callG] at h
   split at h
   ·rename_i htab
    exact one C ⟨withY (callG tab G n).call Y,(callG tab G n).iter⟩ (z19 ih.1 hY) ih.2 ⟨ke (yu hG.above n).1 hYA,(yu hG.above n).2⟩ _ _ _ _ _ _ _ htab h hf
   ·cases h
end
noncomputable def kEndG (N:Nat) (res:List ARes) (τ:Tr) (m':Mem):KV:=Option.rec .no (fun vs=>kImp (some (packRes vs,m'))) ((kRess N res).run τ m')
noncomputable def kFnG (O:Ora) (n:Nat) (fn:AFunc) (args:List AV) (m:Mem):KV:=
 Bool.rec .no (KE.rec .no (fun τ m'=>kEndG fn.ntmps fn.res τ m') (fun τ m'=>kEndG fn.ntmps fn.res τ m') (fun _ _ _=> .no) (fun _ _ _=> .no) ((kC fn.ntmps fn.body).run O n (kArgs args 0 kNil) m))
  (kAnd (Nat.ble (kLen args) fn.ntmps) (Nat.ble fn.ntmps 1024))
theorem z2C (O O':Ora) (hO:OraLe O O') (n:Nat) (fn:AFunc) (args:List AV) (m:Mem) {r:AV×Mem} (h:(kFnG O n fn args m).toO=some r):evFnG O' n (reliveF fn) args m=some r:=by
 unfold kFnG at h
 rw[u5,zD,zt,zt] at h
 by_cases hb:(decide (args.length≤fn.ntmps)&&decide (fn.ntmps≤1024))=true
 ·rw[hb] at h
  simp only[w03,decide_eq_true_eq] at hb
  have f:=tn args 0 (Zu hb.2) (by omega)
  have e:(List.replicate fn.ntmps (AV.tup [])).take 0++args++(List.replicate fn.ntmps (AV.tup [])).drop (0+args.length)=args++List.replicate (fn.ntmps-args.length) (.tup []):=by simp
  rw[e] at f
  have k:=T5 O O' hO n fn.body f m
  unfold evFnG bodyV reliveF
  simp only
  have fin: ∀ρ τ m',Fr fn.ntmps ρ τ→(kEndG fn.ntmps fn.res τ m').toO=some r→((evRess ⟨ρ,m'⟩ fn.res).bind fun vs=>some (packRes vs,m'))=some r:=by
   intro ρ τ m' hF hE
   unfold kEndG at hE
   rw[Yb hF] at hE
   cases hr:evRess ⟨ρ,m'⟩ fn.res with
   |none=>rw[hr] at hE;cases hE
   |some vs=>rw[hr] at hE;simp only[Zw] at hE;exact hE
  cases hk:(kC fn.ntmps fn.body).run O n (kArgs args 0 kNil) m with
  |no=>rw[hk] at h;cases h
  |nrm τ m'=>
   rw[hk] at h k
   obtain⟨ρ,hF,e⟩:=k
   rw[e]
   exact fin ρ τ m' hF h
  |ret τ m'=>
   rw[hk] at h k
   obtain⟨ρ,hF,e⟩:=k
   rw[e]
   exact fin ρ τ m' hF h
  |exit i τ m'=>rw[hk] at h;cases h
  |goto i τ m'=>rw[hk] at h;cases h
 ·rw[Bool.not_eq_true _|>.mp hb] at h;cases h
noncomputable def kFloorOk (m:Mem):Bool:=Mem.rec (fun stk _ _ _ floor=>Nat.ble floor (kLen stk)) m
theorem T3 (m:Mem):kFloorOk m=Nat.ble m.floor m.stk.length:=by cases m;simp only[kFloorOk,zD]
noncomputable def kFunG (tab:Nat→Option AFunc) (G:Nat→Bool) (f:Nat):KFn:=match tab f with
 |some fn=>match G f with
  |true=>⟨fun O n args m=>Bool.rec (kFn O n fn args m).toO (kFnG O n fn args m).toO (kFloorOk m)⟩
  |false=>⟨fun O n args m=>(kFn O n fn args m).toO⟩
 |none=>⟨fun _ _ _ _=>none⟩
noncomputable def kFunM (tab:Nat→Option AFunc) (G:GM) (f:Nat):KFn:=match G.memo f with
 |some h=>⟨fun O n args m=>Option.rec ((kFunG tab G.g f).run O n args m) (fun q=>some q) (h args m)⟩
 |none=>kFunG tab G.g f
noncomputable def kOraG (tab:Nat→Option AFunc) (G:GM) (n:Nat):Ora:=
 Nat.rec (motive:=fun _=>Ora) ⟨fun _ _ _=>none,fun _ _ _ _=>none⟩ (fun k ih=>⟨fun c args m=>Option.rec none (fun f=>(kFunM tab G f).run ih k args m) c,fun Y c args m=>Option.rec none (fun f=>(kFunG tab G.g f).run ⟨withY ih.call Y,ih.iter⟩ k args m) c⟩) n
theorem T2 {tab:Nat→Option AFunc} {G:Nat→Bool} {O O':Ora} (hO:OraLe O O') {n f:Nat} {a:List AV} {m:Mem} {r:AV×Mem} (h:(kFunG tab G f).run O n a m=some r): ∃fn,tab f=some fn∧evFnC (G f) O' n (reliveF fn) a m=some r:=by
 unfold kFunG at h
 cases hf:tab f with
 |none=>rw[hf] at h;cases h
 |some fn=>
  rw[hf] at h
  refine⟨fn,rfl,?_⟩
  cases hG:G f with
  |false=>rw[hG] at h;exact z1E O O' hO n fn a m h
  |true=>
   rw[hG] at h
   simp only[T3] at h
   unfold evFnC
   cases hb:Nat.ble m.floor m.stk.length with
   |true=>rw[hb] at h;exact z2C O O' hO n fn a m h
   |false=>rw[hb] at h;exact z1E O O' hO n fn a m h
theorem z1D {tab:Nat→Option AFunc} {G:GM} {O O':Ora} (hO:OraLe O O') {n f:Nat} {a:List AV} {m:Mem} {r:AV×Mem} (h:(kFunM tab G f).run O n a m=some r):(match memoV G f a m with
  |some q=>some q
  |none=>match reTab tab f with
   |some fn=>evFnC (G.g f) O' n fn a m
   |none=>none)=some r:=by
 have old:(kFunG tab G.g f).run O n a m=some r→(match reTab tab f with
   |some fn=>evFnC (G.g f) O' n fn a m
   |none=>none)=some r:=fun h=>by
  obtain⟨fn,hf,h2⟩:=T2 hO h
  simp only[reTab,hf,w04]
  exact h2
 unfold kFunM at h
 unfold memoV
 cases hm:G.memo f with
 |none=>rw[hm] at h;exact old h
 |some k=>
  rw[hm] at h
  simp only at h⊢
  cases hk:k a m with
  |none=>rw[hk] at h;exact old h
  |some x=>rw[hk] at h;exact h
theorem jf (tab:Nat→Option AFunc) (G:GM): ∀n,OraLe (kOraG tab G n) (callG (reTab tab) G n)
 |0=>⟨(fun c a m r h=>by cases h),(fun Y Y' _ c a m r h=>by cases h)⟩
 |n+1=>by
  have ih:=jf tab G n
  refine⟨fun c a m r h=> ?_,fun Y Y' hy c a m r h=> ?_⟩
  ·cases c with
   |none=>cases h
   |some f=>
    have h1:(kFunM tab G f).run (kOraG tab G n) n a m=some r:=h
    exact z1D ih h1
  ·cases c with
   |none=>cases h
   |some f=>
    have h1:(kFunG tab G.g f).run ⟨withY (kOraG tab G n).call Y,(kOraG tab G n).iter⟩ n a m=some r:=h
    obtain⟨fn,hf,h2⟩:=T2 (O:=⟨withY (kOraG tab G n).call Y,(kOraG tab G n).iter⟩) (O':=⟨withY (callG (reTab tab) G n).call Y',(callG (reTab tab) G n).iter⟩) ⟨Zz ih.call hy,ih.iter⟩ h1
    simp only[callG,reTab,hf,w04]
    exact h2
section
open Go.RowKit Go.ChangeShapes Go.WideShapes
variable {H : Type} {enc : TypeId × Value → H} {P : Program} {W : World}
theorem z0v (hl:laidOutB P=true) {f:FuncId} {fn:Func} {s:ChangeSpec} {tb:TypeId} (hvars:s.vars=[])
  (hp:fn.params.toList=[]) (hres:fn.resultTypes= #[tb]) (htb:P.underlying tb=some .bool)
  (hspec:s.fn H ([]:List (DataW H))={results:=[.lit (.bool true)],args:=[]}) (K:Known P f true)
  {args:Array Value} {ds gs:List (DataW H)} {before:List MemPlace} {fresh handsOn:Bool}
  (hW:DataW.Whole enc P fn.params.toList s.vars false W args.toList ds gs before):
  Calls P f args W fun e W'=> ∃v,e= .returned v∧s.post enc P fn false fresh handsOn false W args v W':=by
 have hW':=hW
 obtain⟨p,q,hA,hV,rfl,_,_⟩:=hW
 rw[hvars] at hV
 obtain⟨rfl,rfl⟩:=trodVars_none hV
 rw[hp] at hA
 obtain⟨ha,rfl,rfl⟩:=trodAll_nil hA
 have ha2:args= #[]:=by
  cases args with
  |mk l=>simp only at ha;subst ha;rfl
 have hc:=K.2 W
 rw[←ha2] at hc
 refine hc.mono fun e W' ⟨he,hb⟩=> ?_
 have hlt:=hW'.lt
 refine⟨_,he,[],[],_,[],[],[],hW',?_,?_,?_,hb.frame _,fun h=>by cases h⟩
 ·rw[List.append_nil,hspec,hres]
  exact trodAll_mk1 (shut_bool htb true)
 ·rw[List.append_nil,hspec,hp]
  exact kg hl hb [] args.toList [] [] (fun t ht=>by cases ht) (fun x hx=>by cases hx) hA
 ·rw[List.append_nil,hspec,hvars];rfl
end
noncomputable def kList (τ:Tr):Nat→Nat→List AV
 |0,_=>[]
 |n+1,i=>(kGet i).run τ::kList τ n (i+1)
theorem Yd {N:Nat} {ρ:List AV} {τ:Tr} (h:Fr N ρ τ): ∀n i,i+n=N→kList τ n i=ρ.drop i
 |0,i,hi=>by rw[List.drop_of_length_le (by rw[h.len];omega)];rfl
 |n+1,i,hi=>by
  have hl:=h.len
  simp only[kList]
  rw[Yd h n (i+1) (by omega),h.get i (by omega),List.drop_eq_getElem_cons (by omega:i<ρ.length),w02,w0b (by omega),w14]
theorem jh {N:Nat} {ρ:List AV} {τ:Tr} (h:Fr N ρ τ):kList τ N 0=ρ:=by rw[Yd h N 0 (by omega)];rfl
noncomputable def kSnap (N:Nat) (e:KE):Option (Nat×List AV×Mem):=KE.rec none (fun τ m=>some (0,kList τ N 0,m)) (fun τ m=>some (1,kList τ N 0,m)) (fun i τ m=>some (i+2,kList τ N 0,m)) (fun _ _ _=>none) e
def outOf:Nat→Out
 |0=> .normal
 |1=> .ret
 |i+2=> .exit i
theorem t6 {tab:Nat→Option AFunc} {gl:GM} {N n:Nat} {c:ACode} {ρ ρ':List AV} {m m':Mem} {b:Nat} (hN:N≤1024) (hl:ρ.length=N)
  (h:kSnap N ((kC N c).run (kOraG tab gl n) n (kArgs ρ 0 kNil) m)=some (b,ρ',m')):ev (callG (reTab tab) gl n) n (relive N c) ⟨ρ,m⟩=some (outOf b,⟨ρ',m'⟩):=by
 have f:=tn ρ 0 (Zu hN) (by omega)
 have e:(List.replicate N (AV.tup [])).take 0++ρ++(List.replicate N (AV.tup [])).drop (0+ρ.length)=ρ:=by simp[hl]
 rw[e] at f
 have k:=T5 (kOraG tab gl n) (callG (reTab tab) gl n) (jf tab gl n) n c f m
 cases hk:(kC N c).run (kOraG tab gl n) n (kArgs ρ 0 kNil) m with
 |no=>rw[hk] at h;cases h
 |nrm τ m1=>
  rw[hk] at h k
  obtain⟨ρ1,hF,e⟩:=k
  have h:some (0,kList τ N 0,m1)=some (b,ρ',m'):=h
  rw[jh hF] at h
  injection h with h;injection h with h1 h;injection h with h2 h3
  subst h1;subst h2;subst h3
  exact e
 |ret τ m1=>
  rw[hk] at h k
  obtain⟨ρ1,hF,e⟩:=k
  have h:some (1,kList τ N 0,m1)=some (b,ρ',m'):=h
  rw[jh hF] at h
  injection h with h;injection h with h1 h;injection h with h2 h3
  subst h1;subst h2;subst h3
  exact e
 |exit i τ m1=>
  rw[hk] at h k
  obtain⟨ρ1,hF,e⟩:=k
  have h:some (i+2,kList τ N 0,m1)=some (b,ρ',m'):=h
  rw[jh hF] at h
  injection h with h;injection h with h1 h;injection h with h2 h3
  subst h1;subst h2;subst h3
  exact e
 |goto i τ m1=>rw[hk] at h;cases h
theorem z3g {O:Ora} {n:Nat} {a b:ACode} {σ σ':St} {r:Option (Out×St)} (h:ev O n a σ=some (.normal,σ')) (k:ev O n b σ'=r):ev O n (.seq a b) σ=r:=by
 simp only[ev,h];exact k
theorem QG {O:Ora} {n id:Nat} {a:ACode} {σ σ':St} (h:ev O n a σ=some (.exit id,σ')):ev O n (.block id a) σ=some (.normal,σ'):=by simp only[ev,h,if_true]
theorem Uu {f:St→Option (Out×St)} {hd:St→St} {k:Nat} {σ σ1 σ':St} {r:Option (Out×St)} (h0:hd σ=σ1) (h:f σ1=some (.normal,σ')) (g:iter f hd k σ'=r):iter f hd (k+1) σ=r:=by
 simp only[iter,h0,h];exact g
def sL:ACode→ACode
 | .seq a _=>a
 | .block _ a=>a
 | .loop _ a=>a
 |_=> .bad
def sR:ACode→ACode
 | .seq _ b=>b
 |_=> .bad
def isSeq:ACode→Bool
 | .seq _ _=>true
 |_=>false
theorem TX {N:Nat} {c:ACode} (h:isSeq c=true):relive N c= .seq (relive N (sL c)) (relive N (sR c)):=by
 cases c<;>first|(cases h;done)|rfl
end Go.Vs
end
section
namespace Go.Vs
def spT:Nat→ACode→ACode
 |0,_=> .skip
 |k+1,.seq a b=> .seq a (spT k b)
 |_+1,c=>c
def spD:Nat→ACode→ACode
 |0,c=>c
 |k+1,.seq _ b=>spD k b
 |_+1,_=> .skip
theorem QW {O:Ora} {N n:Nat} {r:Option (Out×St)} {σ':St}: ∀(k:Nat) (c:ACode) {σ:St},ev O n (relive N (spT k c)) σ=some (.normal,σ')→ev O n (relive N (spD k c)) σ'=r→ev O n (relive N c) σ=r
 |0,c,σ,h,g=>by
  simp only[spT,relive,ev,Option.some.injEq,Prod.mk.injEq,true_and] at h
  subst h
  simpa only[spD] using g
 |k+1,c,σ,h,g=>by
  cases c<;>first|(simp only[spT,spD,relive,ev,Option.some.injEq,Prod.mk.injEq,reduceCtorEq,false_and,true_and] at h g⊢;first|(rw[h];exact g)|(subst h;exact g)|(cases h;done))|skip
  all_goals try (simp only[spT,spD] at h g;rw[show ev O n (relive N .skip) σ'=some (.normal,σ') by simp only[relive,ev]] at g;rw[h];exact g)
  rename_i a b
  simp only[spT,spD,relive,ev] at h g⊢
  split at h
  ·rename_i σ1 he
   exact QW k b h g
  ·rename_i he
   cases hq:ev O n (relive N a) σ with
   |none=>rw[hq] at h;cases h
   |some q=>
    rw[hq] at h
    injection h with h
    exact absurd (by rw[hq,h]) (he σ')
def sT:Nat→ACode→ACode
 |k,.ops l=> .ops (l.take k)
 |_,_=> .bad
noncomputable def fnEnd (fn:AFunc) (m:Mem) (ρ:List AV) (m1:Mem):Option (AV×Mem):=(evRess ⟨ρ,m1⟩ fn.res).bind fun vs=>leave m m1 (packRes vs)
def fnRegs (fn:AFunc) (av:List AV):List AV:=av++List.replicate (fn.ntmps-av.length) (.tup [])
theorem Zy {tab:Nat→Option AFunc} {gl:GM} {n f:Nat} {fn:AFunc} {av ρ0 ρ1:List AV} {m m0 m1 m':Mem} {r:AV} (b:Nat) (hb:b<2) (hf:tab f=some fn) (hmm:memoV gl f av m=none) (hg:gl.g f=false) (hρ:fnRegs fn av=ρ0) (hm:enter m=m0)
  (h:ev (callG (reTab tab) gl n) n (relive fn.ntmps fn.body) ⟨ρ0,m0⟩=some (outOf b,⟨ρ1,m1⟩)) (hr:fnEnd fn m ρ1 m1=some (r,m')):(callG (reTab tab) gl (n+1)).call (some f) av m=some (r,m'):=by
 subst hρ;subst hm
 have e: ∀o,(o= .normal∨o= .ret)→ev (callG (reTab tab) gl n) n (relive fn.ntmps fn.body) ⟨fnRegs fn av,enter m⟩=some (o,⟨ρ1,m1⟩)→(callG (reTab tab) gl (n+1)).call (some f) av m=some (r,m'):=by
  intro o ho h
  unfold fnRegs at h
  simp only[callG,hmm,reTab,hf,w04,hg,evFnC,evFn,reliveF,h]
  rcases ho with rfl|rfl<;>exact hr
 match b,hb,h with
 |0,_,h=>exact e _ (.inl rfl) h
 |1,_,h=>exact e _ (.inr rfl) h
def blockOf:ACode→Option Nat
 | .block i _=>some i
 |_=>none
theorem z1Z {O:Ora} {N n i:Nat} {c:ACode} {σ σ':St} (hc:blockOf c=some i) (h:ev O n (relive N (sL c)) σ=some (.exit i,σ')):ev O n (relive N c) σ=some (.normal,σ'):=by
 cases c<;>first|(cases hc;done)|(injection hc with hc;subst hc;exact QG h)
def loopOf:ACode→Option (List Nat)
 | .loop l _=>some l
 |_=>none
noncomputable def lpI (O:Ora) (N n nb:Nat) (c:ACode) (live:List Nat) (k:Nat) (σ:St):Option (Out×St):=iter (ev O n (relive N (sL c))) (heads (ren N live) nb) k σ
theorem z2u {O:Ora} {N n nb:Nat} {c:ACode} {live:List Nat} {ρ:List AV} {m:Mem} {r:Option (Out×St)} (hc:loopOf c=some live) (hn:m.cur.length=nb) (h:lpI O N n nb c live n ⟨ρ,m⟩=r):ev O n (relive N c) ⟨ρ,m⟩=r:=by
 cases c<;>first|(cases hc;done)|skip
 injection hc with hc;subst hc;subst hn
 exact h
theorem V0 {N nb:Nat} {live:List Nat} {ρ:List AV} {m:Mem} (hk:loopKind live=2) (hN:N≤1024) (hl:ρ.length=N):heads (ren N live) nb ⟨ρ,m⟩=⟨ρ,{m with cur:=m.cur.take nb}⟩:=by
 have h1: ¬(live.head? =some 777777∨live.head? =some 888888):=by intro h;simp only[loopKind,h,if_true] at hk;cases hk
 have h2: ¬(live.contains 999999=true):=by intro h;simp only[loopKind,h1,h,if_false,if_true] at hk;cases hk
 have e:ren N live=List.range N:=by unfold ren;rw[if_neg h1,if_neg h2]
 unfold heads
 rw[e,vJ (fun i hi=>WN N i hi) hl]
 unfold cut
 by_cases hN:(List.range N).contains 999999=true
 ·exfalso
  simp only[List.contains_iff_mem,List.mem_range] at hN
  omega
 ·rw[if_neg hN]
theorem Qo {N nb:Nat} {live:List Nat} {ρ:List AV} {m:Mem} (hk:loopKind live=1) (hl:ρ.length=N):heads (ren N live) nb ⟨ρ,m⟩=⟨ρ,m⟩:=by
 have h1: ¬(live.head? =some 777777∨live.head? =some 888888):=by intro h;simp only[loopKind,h,if_true] at hk;cases hk
 have h2:live.contains 999999=true:=by
  by_cases h:live.contains 999999=true
  ·exact h
  ·simp only[loopKind,h1,h,if_false] at hk;cases hk
 have e:ren N live=List.range N++[999999]:=by unfold ren;rw[if_neg h1,if_pos h2]
 unfold heads
 rw[e,vJ (fun i hi=>by simp[hi]) hl]
 unfold cut
 rw[if_pos (by simp)]
section
variable {O : Ora} {N n nb k : Nat} {c : ACode} {live : List Nat} {ρ : List AV} {m m1 : Mem} {r : Option (Out × St)}
theorem z1f {σ':St} (hk:loopKind live=2) (hN:N≤1024) (hl:ρ.length=N) (hm:{m with cur:=m.cur.take nb}=m1) (h:ev O n (relive N (sL c)) ⟨ρ,m1⟩=some (.normal,σ')) (g:lpI O N n nb c live k σ'=r):lpI O N n nb c live (k+1) ⟨ρ,m⟩=r:=
 Uu ((V0 hk hN hl).trans (by rw[hm])) h g
theorem z0j {σ':St} (hk:loopKind live=1) (hl:ρ.length=N) (h:ev O n (relive N (sL c)) ⟨ρ,m⟩=some (.normal,σ')) (g:lpI O N n nb c live k σ'=r):lpI O N n nb c live (k+1) ⟨ρ,m⟩=r:=
 Uu (Qo hk hl) h g
theorem z2j {σ':St} (o:Out) (ho:(match o with| .ret=>true| .exit _=>true|_=>false)=true) (hk:loopKind live=2) (hN:N≤1024) (hl:ρ.length=N) (hm:{m with cur:=m.cur.take nb}=m1) (h:ev O n (relive N (sL c)) ⟨ρ,m1⟩=some (o,σ')):lpI O N n nb c live (k+1) ⟨ρ,m⟩=some (o,σ'):=by
 unfold lpI
 simp only[iter,(V0 hk hN hl).trans (by rw[hm]),h]
 cases o<;>first|(cases ho;done)|rfl
end
theorem z2i {O:Ora} {N n:Nat} {c:ACode} {r:Option (Out×St)} {σ σ':St} (hs:isSeq c=true) (h:ev O n (relive N (sL c)) σ=some (.normal,σ')) (g:ev O n (relive N (sR c)) σ'=r):ev O n (relive N c) σ=r:=by
 rw[TX hs];exact z3g h g
noncomputable def kRnds (N:Nat) (f:Tr→Mem→KE) (keep:Bool) (nb j:Nat):Tr→Mem→KE:=
 Nat.rec (motive:=fun _=>Tr→Mem→KE) (fun τ m=> .nrm τ m) (fun _ ih τ m=>KE.rec .no (fun τ' m'=>ih τ' m') (fun _ _=> .no) (fun _ _ _=> .no) (fun _ _ _=> .no) (Bool.rec (kCut nb m (f τ)) (f τ m) keep)) j
theorem Ya {tab:Nat→Option AFunc} {gl:GM} {N n nb k:Nat} {c:ACode} {live:List Nat} {keep:Bool} (hN:N≤1024) (hk:loopKind live=if keep then 1 else 2) {r:Option (Out×St)}: ∀(j:Nat) {τ τ':Tr} {ρ:List AV} {m m':Mem},Fr N ρ τ→
  kRnds N (fun τ m=>(kC N (sL c)).run (kOraG tab gl n) n τ m) keep nb j τ m= .nrm τ' m'→(∀ρ',Fr N ρ' τ'→lpI (callG (reTab tab) gl n) N n nb c live k ⟨ρ',m'⟩=r)→lpI (callG (reTab tab) gl n) N n nb c live (k+j) ⟨ρ,m⟩=r
 |0,τ,τ',ρ,m,m',hF,h,g=>by injection h with h1 h2;subst h1;subst h2;exact g ρ hF
 |j+1,τ,τ',ρ,m,m',hF,h,g=>by
  cases keep with
  |true=>
   have h:KE.rec (motive:=fun _=>KE) .no (fun τ1 m1=>kRnds N (fun τ m=>(kC N (sL c)).run (kOraG tab gl n) n τ m) true nb j τ1 m1) (fun _ _=> .no) (fun _ _ _=> .no) (fun _ _ _=> .no) ((kC N (sL c)).run (kOraG tab gl n) n τ m)= .nrm τ' m':=h
   have q:=T5 (kOraG tab gl n) (callG (reTab tab) gl n) (jf tab gl n) n (sL c) hF m
   cases hq:(kC N (sL c)).run (kOraG tab gl n) n τ m with
   |nrm τ1 m1=>
    rw[hq] at h q
    obtain⟨ρ1,hF1,e⟩:=q
    exact z0j hk hF.len e (Ya hN hk j hF1 h g)
   |_=>rw[hq] at h;cases h
  |false=>
   have h:KE.rec (motive:=fun _=>KE) .no (fun τ1 m1=>kRnds N (fun τ m=>(kC N (sL c)).run (kOraG tab gl n) n τ m) false nb j τ1 m1) (fun _ _=> .no) (fun _ _ _=> .no) (fun _ _ _=> .no) (kCut nb m ((kC N (sL c)).run (kOraG tab gl n) n τ))= .nrm τ' m':=h
   rw[z07] at h
   have q:=T5 (kOraG tab gl n) (callG (reTab tab) gl n) (jf tab gl n) n (sL c) hF {m with cur:=m.cur.take nb}
   cases hq:(kC N (sL c)).run (kOraG tab gl n) n τ {m with cur:=m.cur.take nb} with
   |nrm τ1 m1=>
    rw[hq] at h q
    obtain⟨ρ1,hF1,e⟩:=q
    exact z1f hk hN hF.len rfl e (Ya hN hk j hF1 h g)
   |_=>rw[hq] at h;cases h
theorem v9 {tab:Nat→Option AFunc} {gl:GM} {N n nb k k':Nat} {c:ACode} {live:List Nat} {r:Option (Out×St)} (j:Nat) (keep:Bool) {ρ ρ':List AV} {m m':Mem} (hN:N≤1024) (hl:ρ.length=N) (hk:loopKind live=if keep then 1 else 2) (hj:k+j=k')
  (h:kSnap N (kRnds N (fun τ m=>(kC N (sL c)).run (kOraG tab gl n) n τ m) keep nb j (kArgs ρ 0 kNil) m)=some (0,ρ',m')) (g:lpI (callG (reTab tab) gl n) N n nb c live k ⟨ρ',m'⟩=r):lpI (callG (reTab tab) gl n) N n nb c live k' ⟨ρ,m⟩=r:=by
 subst hj
 have f:=tn ρ 0 (Zu hN) (by omega)
 have e:(List.replicate N (AV.tup [])).take 0++ρ++(List.replicate N (AV.tup [])).drop (0+ρ.length)=ρ:=by simp[hl]
 rw[e] at f
 cases hq:kRnds N (fun τ m=>(kC N (sL c)).run (kOraG tab gl n) n τ m) keep nb j (kArgs ρ 0 kNil) m with
 |nrm τ1 m1=>
  rw[hq] at h
  have h:some (0,kList τ1 N 0,m1)=some (0,ρ',m'):=h
  injection h with h;injection h with h1 h;injection h with h2 h3
  subst h3
  refine Ya hN hk j f hq fun ρ1 hF=> ?_
  have:ρ1=ρ':=(jh hF).symm.trans h2
  subst this
  exact g
 |no=>rw[hq] at h;cases h
 |ret τ1 m1=>rw[hq] at h;injection h with h;injection h with h1 h;cases h1
 |exit i τ1 m1=>rw[hq] at h;injection h with h;injection h with h1 h;cases h1
 |goto i τ1 m1=>rw[hq] at h;cases h
theorem Qh {P:Program} {tab:Nat→Option AFunc} (gl:GM) (hM:P.follows .mixedOrders=true) (hT:TabOk P tab) (hG:MemoOk P gl.memo) {f:Nat} (n:Nat) {m':Mem} (hc:(callG (reTab tab) gl n).call (some f) [] Mem.zero=some (.bool true,m')):Known P f true:=by
 obtain⟨h1,h2⟩:=(show CallOk P .top f [] Mem.zero _ m' from(Yv hM (Ux hT) hG n).1 .top (some f) [] Mem.zero _ m' hc (Nat.zero_le _))
 refine⟨h1,fun w=>(h2 (_root_.Go.Vs.G.zero w.heap.size) w [] trivial (T8 w) (Reps.nil _ _)).mono fun e w' ⟨v,g',he,hx,_,hr⟩=> ?_⟩
 rw[he,hr.inv_bool]
 exact⟨rfl,hx.below⟩
theorem jK {P:Program} {tab:Nat→Option AFunc} (gl:GM) (hM:P.follows .mixedOrders=true) (hT:TabOk P tab) (hG:MemoOk P gl.memo) {f:Nat} (n:Nat) {xs:List AV} {r r0:AV} {m':Mem} (hc:(callG (reTab tab) gl n).call (some f) xs Mem.zero=some (r,m')) (hr:r.own0 r0=true):MemoFact P f xs r0:=
 VJ (show CallOk P .top f xs Mem.zero _ m' from(Yv hM (Ux hT) hG n).1 .top (some f) xs Mem.zero _ m' hc (Nat.zero_le _)) hr
namespace Sn
def i (n:Nat):AV:= .int .i64 (.ofNat n)
def u (n:Nat):AV:= .int .u8 (.ofNat n)
def q (n:Nat):AV:= .int .u64 (.ofNat n)
def T:AV:= .bool true
def F:AV:= .bool false
def e:AV:= .tup []
def p (l k st off:Nat):AV:= .ptr l k st off
def G (l:List AV):AV:= .agg l
def L (s t:Nat) (l:List AV):AV:= .list s (.id t) l
def N (s:Nat) (l:List AV):AV:= .list s .none l
def Fl (s:Nat) (l:List AV):AV:= .list s .full l
end Sn
end Go.Vs
end
section
namespace Go.Proofs.W
open Go.Vs Go.Vs.Sn
set_option maxRecDepth 1000000
noncomputable abbrev E (gm:GM) (lv N:Nat) (c:ACode) (ρ:List AV) (m:Mem):=ev (callG (reTab tab) gm lv) lv (relive N c) ⟨ρ,m⟩
noncomputable abbrev K (gm:GM) (lv N:Nat) (c:ACode) (ρ:List AV) (m:Mem):=kSnap N ((kC N c).run (kOraG tab gm lv) lv (kArgs ρ 0 kNil) m)
noncomputable abbrev KR (gm:GM) (lv N:Nat) (c:ACode) (keep:Bool) (nb j:Nat) (ρ:List AV) (m:Mem):=kSnap N (kRnds N (fun τ m=>(kC N (sL c)).run (kOraG tab gm lv) lv τ m) keep nb j (kArgs ρ 0 kNil) m)
noncomputable abbrev LI (gm:GM) (lv N nb:Nat) (c:ACode) (live:List Nat) (k:Nat) (ρ:List AV) (m:Mem):=lpI (callG (reTab tab) gm lv) N lv nb c live k ⟨ρ,m⟩
noncomputable abbrev C (gm:GM) (lv f:Nat) (xs:List AV) (m:Mem):=(callG (reTab tab) gm lv).call (some f) xs m
noncomputable def g0:GM:=⟨gfun,fun _=>none⟩
def zw0:List AV:=[(u 0),(u 0),(u 1),(u 0),(u 0),(u 0),(u 0),(u 0)]
def zw1:List AV:=[(q 65536),(N 1 zw0)]
def zv2:AV:=(G [(q 16777216),.nils])
def zw3:List AV:=[(G zw1),(N 2 [zv2]),(q 65536)]
def zv4:AV:=(.tup [(q 65536),(i 0)])
def zw5:List AV:=[(G zw1),(N 2 [zv2]),(q 65536),e,e,e,e,e,e,e,e,e,e,e,e,e,e,e,e,e,e,e,e,e]
def zw6:List AV:=[e,e,e,e,e,e,e,e,e,e,e,e,e,e,e,e,e,e]
def zr7:List AV:=zw5++(zw6)
def zm8:Mem:=⟨[[]],[],0,[[]],0⟩
def zc9:ACode:=vk.body
def zv10:AV:=(.tup [(L 1 15 zw0),(i 0)])
def zw11:List AV:=[(G zw1),(N 2 [zv2]),(q 65536),(p 1 0 0 0),e,e,(q 65536),(i 0),(L 1 15 zw0),(i 0),(p 1 1 18 0),(i 0),(p 1 2 22 0),(q 65536),(i 0),zv10,(G zw1),(N 2 [zv2]),(q 65536),zv10,(L 1 15 zw0),(i 0),F,(i 0)]
def zv12:AV:=(G [(L 1 17 zw0),(i 0)])
def zv13:AV:=(G [(L 1 17 zw0),(i 8)])
def zw14:List AV:=[zv13,(q 65536),(i 0)]
def zw15:List AV:=[F,e,F,(q 65536),(q 0),F,(.tup [zv12,(i 0)]),(L 1 15 zw0),(.tup [zv12,(i 0)]),zv12,(i 0),(.tup zw14),zv12,(.tup zw14),zv13,(q 65536),(i 0),(q 65536)]
def zr16:List AV:=zw11++(zw15)
def zb17:List Blk:=[⟨0,zw1⟩,⟨18,[(L 1 17 zw0),(i 0)]⟩,⟨22,[(L 1 17 zw0),(i 8)]⟩]
def zm18:Mem:=⟨[[]],zb17,23,[[17,15]],0⟩
def zm22:Mem:=⟨[],[],23,[],0⟩
def zv25:AV:=(G [(q 65536),.nils])
def zw26:List AV:=[zv25,(N 2 [zv2]),(q 65536)]
def zv27:AV:=(.tup [(q 0),(i 16)])
def zw28:List AV:=[zv25,(N 2 [zv2]),(q 65536),e,e,e,e,e,e,e,e,e,e,e,e,e,e,e,e,e,e,e,e,e]
def zr29:List AV:=zw28++(zw6)
def zv30:AV:=(.tup [.nils,(i 16)])
def zw31:List AV:=[zv25,(N 2 [zv2]),(q 65536),(p 1 0 0 0),e,e,(q 0),(i 16),.nils,(i 16),e,e,e,e,e,zv30,zv25,(N 2 [zv2]),(q 65536),zv30,.nils,(i 16),T,(i 16)]
def zw32:List AV:=[T,(i 16),e,e,e,e,e,e,e,e,e,e,e,e,e,e,e,e]
def zr33:List AV:=zw31++(zw32)
def zb34:List Blk:=[⟨0,[(q 65536),.nils]⟩]
def zm35:Mem:=⟨[[]],zb34,17,[[]],0⟩
def zm39:Mem:=⟨[],[],17,[],0⟩
def zw42:List AV:=[zv25,(N 2 [zv2]),(q 65540)]
def zw43:List AV:=[zv25,(N 2 [zv2]),(q 65540),e,e,e,e,e,e,e,e,e,e,e,e,e,e,e,e,e,e,e,e,e]
def zr44:List AV:=zw43++(zw6)
def zw45:List AV:=[zv25,(N 2 [zv2]),(q 65540),(p 1 0 0 0),e,e,(q 0),(i 16),.nils,(i 16),e,e,e,e,e,zv30,zv25,(N 2 [zv2]),(q 65540),zv30,.nils,(i 16),T,(i 16)]
def zr46:List AV:=zw45++(zw32)
def tg:List (List AV×AV):=[(zw3,zv4),(zw26,zv27),(zw42,zv27)]
noncomputable def g1:GM:=⟨gfun,memoC zh tg (fun _=>none)⟩
def zw52:List AV:=[e,e,e,e,e,e,e,e,e,e,e,e,e,e,e,e,e,e,e,e,e,e,e,e]
def zr53:List AV:=zw52++(zw52++(zw52++(zw52++(zw52++(zw52++(zw52++(zw52++(zw52++(zw52++(zw52++(zw52++([e,e,e,e,e]))))))))))))
def zc54:ACode:=zu.body
def zv55:AV:=(.int .i64 (.negSucc 0))
def zw56:List AV:=[(u 34),zv55,(i 0),(i 0)]
def zv57:AV:=(L 2 662 [(G [(i 0),(q 0)])])
def zv58:AV:=(L 2 677 [(G [(i 0),(q 0)])])
def zw59:List AV:=[(.str [109]),(i 0),zv55,.nils,(L 4 648 [(G zw56)]),zv57,zv58]
def zw60:List AV:=[(u 3),(q 0),(q 16777216),(q 0),(q 0),(i 0)]
def zw61:List AV:=[.nils,.nils,(L 7 679 [(G zw59)]),(u 3),zv55,(i 0),(q 65536),.nils,(L 2 28 [zv2]),(L 6 24 [(G zw60)]),(L 1 31 [.nils]),(L 1 34 [.nils])]
def zv62:AV:=(.tup [(G zw61),(i 0)])
def zv63:AV:=(Fl 2 [(G [(i 0),(q 0)])])
def zw64:List AV:=[(.str [109]),(i 0),zv55,.nils,(Fl 4 [(G zw56)]),zv63,zv63]
def zw65:List AV:=[.nils,.nils,(Fl 7 [(G zw64)]),(i 0),(i 0),(i 0),(i 0),(q 65536),.nils,(Fl 2 [zv2]),(.grow 6 1 1 2 1),(i 0)]
def zv66:AV:=(G [(u 3),zv55,(i 0)])
def zw67:List AV:=[F,(p 1 2 700 0),(i 0),(.arr 1 3 701 0 16),(i 16),e,e,e,e,e,e,e,e,e,e,e,e,e,e,e,zv62,(G zw65),zv66,zv62]
def zw68:List AV:=[(G zw61),(i 0),(i 0),F,F,(p 1 2 700 9),(L 6 24 [(G zw60)]),(i 1),F,F,F,(p 1 2 700 8),(L 2 28 [zv2]),(i 1),F,F,F,(p 1 2 700 10),(L 1 31 [.nils]),(i 1),F,F,F,(p 1 2 700 11)]
def zv69:AV:=(.grow 7 1 206 936 1)
def zv70:AV:=(.grow 2 1 208 938 1)
def zv71:AV:=(.grow 6 1 209 939 1)
def zv72:AV:=(.grow 1 1 210 940 1)
def zv73:AV:=(.grow 1 1 211 941 1)
def zw74:List AV:=[.nils,(Fl 1 []),zv69,(u 3),zv55,(i 0),(q 65536),(Fl 1 []),zv70,zv71,zv72,zv73]
def zw75:List AV:=[.nils,.nils,.nils,(u 0),(i 0),(i 0),(q 0),.nils,.nils,.nils,.nils,.nils]
def zw76:List AV:=[(L 1 34 [.nils]),(i 1),F,F,(.arr 1 3 701 0 16),(i 16),(.arr 1 3 701 0 16),(i 16),F,(i 15),(i 16),(.arr 1 3 701 0 16),(i 15),(G zw61),(G zw74),(p 1 3 701 180),(.arr 1 3 701 0 16),(G zw75),(p 1 3 701 0),(.arr 1 3 701 0 16),(p 1 3 701 12),(p 1 3 701 12),(p 1 3 701 14),(.arr 1 3 701 0 16)]
def zv77:AV:=(.grow 1 1 107 821 1)
def zw78:List AV:=[(p 1 3 701 24),(p 1 3 701 27),(p 1 3 701 27),(.arr 1 3 701 0 16),(p 1 3 701 36),(p 1 3 701 42),(p 1 3 701 42),(.arr 1 3 701 0 16),(p 1 3 701 48),(p 1 3 701 56),(.arr 1 3 701 0 16),(p 1 3 701 60),(p 1 3 701 69),(.grow 6 1 79 789 1),(p 1 79 789 0),(p 1 79 789 0),(.arr 1 3 701 0 16),(p 1 3 701 72),(p 1 3 701 82),(.arr 1 3 701 0 16),(.arr 1 3 701 0 16),(p 1 3 701 84),(p 1 3 701 95),zv77]
def zv79:AV:=(.grow 1 1 107 942 2)
def zv80:AV:=(.grow 2 1 117 833 1)
def zv81:AV:=(G [(u 2),(i 1),(i 0)])
def zv82:AV:=(.grow 6 1 144 864 1)
def zw83:List AV:=[(u 1),(q 257),(q 16777216),(q 0),(q 0),(i 0)]
def zw84:List AV:=[(Fl 1 [.nils]),zv79,(p 1 3 701 84),(p 1 3 701 95),(.arr 1 3 701 0 16),(p 1 3 701 96),(p 1 3 701 104),zv80,(.arr 1 212 943 0 8),(p 1 117 833 0),(p 1 117 833 1),(.arr 1 3 701 0 16),zv81,(p 1 3 701 108),(p 1 3 701 111),(.arr 1 3 701 0 16),(p 1 3 701 120),(p 1 3 701 129),zv82,(G zw83),(p 1 144 864 0),(.arr 1 3 701 0 16),(p 1 3 701 132),(p 1 3 701 141)]
def zv85:AV:=(.grow 6 1 157 879 1)
def zw86:List AV:=[(u 1),(q 256),(q 16777216),(q 65536),(q 0),(i 0)]
def zv87:AV:=(.grow 1 1 171 895 1)
def zv88:AV:=(.grow 1 1 185 911 1)
def zv89:AV:=(.grow 6 1 196 924 1)
def zw90:List AV:=[(u 1),(q 0),(q 16777216),(q 0),(q 0),(i 0)]
def zw91:List AV:=[zv85,(G zw86),(p 1 157 879 0),(.arr 1 3 701 0 16),(p 1 3 701 144),(p 1 3 701 154),zv87,(Fl 1 [(q 65536)]),(p 1 171 895 0),(.arr 1 3 701 0 16),(p 1 3 701 156),(p 1 3 701 167),zv88,(Fl 1 [(q 65536)]),(p 1 185 911 0),(.arr 1 3 701 0 16),(p 1 3 701 168),(p 1 3 701 177),zv89,(G zw90),(p 1 196 924 0),(.arr 1 3 701 0 16),(p 1 3 701 180),(p 1 3 701 180)]
def zv92:AV:=(.grow 4 1 205 933 1)
def zw93:List AV:=[(p 1 3 701 182),zv69,(p 1 206 936 0),(p 1 206 936 4),zv92,(p 1 205 933 0),(p 1 205 933 1),e,e,e,e,e,e,e,e,e,e,e,e,e,e,e,e,e]
def zr94:List AV:=zw67++(zw68++(zw76++(zw78++(zw84++(zw91++(zw93++(zw52++(zw52++(zw52++(zw52++(zw52++([e,e,e,e,e]))))))))))))
def zw95:List AV:=[.nils,.nils,.nils,(u 0),(i 0),(i 0),(q 0),.nils,.nils,.nils,.nils,.nils,.nils,(Fl 1 []),.nils,(u 3),zv55,(i 0),(q 65536),(Fl 1 []),(.grow 2 1 26 728 1),(.grow 6 1 27 729 1),(.grow 1 1 28 730 1),(.grow 1 1 29 731 1)]
def zw96:List AV:=[.nils,(Fl 1 []),(.grow 7 1 37 741 1),(u 1),zv55,(i 0),(q 65536),(Fl 1 []),(.grow 2 1 39 743 1),(.grow 6 1 40 744 1),(.grow 1 1 41 745 1),(.grow 1 1 42 746 1),.nils,(Fl 1 []),(.grow 7 1 50 756 1),(u 3),zv55,(i 0),(q 0),(Fl 1 []),(.grow 2 1 52 758 1),(.grow 6 1 53 759 1),(.grow 1 1 54 760 1),(.grow 1 1 55 761 1)]
def zw97:List AV:=[.nils,(Fl 1 []),(.grow 7 1 63 771 1),(u 3),zv55,(i 0),(q 65536),(Fl 1 []),.nils,(.grow 6 1 66 774 1),(.grow 1 1 67 775 1),(.grow 1 1 68 776 1),.nils,(Fl 1 []),(.grow 7 1 76 786 1),(u 3),zv55,(i 0),(q 65536),(Fl 1 []),(.grow 2 1 78 788 1),(.grow 6 1 79 789 1),(.grow 1 1 80 790 1),(.grow 1 1 81 791 1)]
def zv98:AV:=(.grow 7 1 102 816 1)
def zv99:AV:=(.grow 2 1 104 818 1)
def zv100:AV:=(.grow 6 1 105 819 1)
def zv101:AV:=(.grow 1 1 106 820 1)
def zw102:List AV:=[.nils,(Fl 1 []),(.grow 7 1 89 801 1),(u 3),zv55,(i 0),(q 65536),(Fl 1 []),(.grow 2 1 91 803 1),(.grow 6 1 92 804 1),.nils,(.grow 1 1 94 806 1),.nils,(Fl 1 []),zv98,(u 3),zv55,(i 0),(q 65536),(Fl 1 []),zv99,zv100,zv101,zv79]
def zv103:AV:=(.grow 7 1 115 831 1)
def zv104:AV:=(.grow 6 1 118 834 1)
def zv105:AV:=(.grow 1 1 119 835 1)
def zv106:AV:=(.grow 1 1 120 836 1)
def zv107:AV:=(.grow 7 1 128 846 1)
def zv108:AV:=(.grow 2 1 130 848 1)
def zv109:AV:=(.grow 6 1 131 849 1)
def zv110:AV:=(.grow 1 1 132 850 1)
def zv111:AV:=(.grow 1 1 133 851 1)
def zw112:List AV:=[.nils,(Fl 1 []),zv103,(u 3),zv55,(i 0),(q 65536),(Fl 1 []),zv80,zv104,zv105,zv106,.nils,(Fl 1 []),zv107,(u 2),(i 1),(i 0),(q 65536),(Fl 1 []),zv108,zv109,zv110,zv111]
def zv113:AV:=(.grow 7 1 141 861 1)
def zv114:AV:=(.grow 2 1 143 863 1)
def zv115:AV:=(.grow 1 1 145 865 1)
def zv116:AV:=(.grow 1 1 146 866 1)
def zv117:AV:=(.grow 7 1 154 876 1)
def zv118:AV:=(.grow 2 1 156 878 1)
def zv119:AV:=(.grow 1 1 158 880 1)
def zv120:AV:=(.grow 1 1 159 881 1)
def zw121:List AV:=[.nils,(Fl 1 []),zv113,(u 3),zv55,(i 0),(q 65536),(Fl 1 []),zv114,zv82,zv115,zv116,.nils,(Fl 1 []),zv117,(u 3),zv55,(i 0),(q 65536),(Fl 1 []),zv118,zv85,zv119,zv120]
def zv122:AV:=(.grow 7 1 167 891 1)
def zv123:AV:=(.grow 2 1 169 893 1)
def zv124:AV:=(.grow 6 1 170 894 1)
def zv125:AV:=(.grow 1 1 172 896 1)
def zv126:AV:=(.grow 7 1 180 906 1)
def zv127:AV:=(.grow 2 1 182 908 1)
def zv128:AV:=(.grow 6 1 183 909 1)
def zv129:AV:=(.grow 1 1 184 910 1)
def zw130:List AV:=[.nils,(Fl 1 []),zv122,(u 3),zv55,(i 0),(q 65536),(Fl 1 []),zv123,zv124,zv87,zv125,.nils,(Fl 1 []),zv126,(u 3),zv55,(i 0),(q 65536),(Fl 1 []),zv127,zv128,zv129,zv88]
def zv131:AV:=(.grow 7 1 193 921 1)
def zv132:AV:=(.grow 2 1 195 923 1)
def zv133:AV:=(.grow 1 1 197 925 1)
def zv134:AV:=(.grow 1 1 198 926 1)
def zw135:List AV:=[.nils,(Fl 1 []),zv131,(u 3),zv55,(i 0),(q 65536),(Fl 1 []),zv132,zv89,zv133,zv134,.nils,(Fl 1 []),zv69,(u 3),zv55,(i 0),(q 65536),(Fl 1 []),zv70,zv71,zv72,zv73]
def zw136:List AV:=zw95++(zw96++(zw97++(zw102++(zw112++(zw121++(zw130++(zw135)))))))
def zw137:List AV:=[.nils,(Fl 1 []),(.grow 7 1 11 711 1),(u 3),zv55,(i 0),(q 65536),(Fl 1 []),(.grow 2 1 13 713 1),(.grow 6 1 14 714 1),(.grow 1 1 15 715 1),(.grow 1 1 16 716 1)]
def zw138:List AV:=[.nils,.nils,(L 7 679 [(G zw59)])]
def zw139:List AV:=[.nils,(Fl 1 []),(.grow 7 1 11 711 1)]
def zb140:List Blk:=[⟨0,zw65⟩,⟨2,zw60⟩,⟨700,zw61⟩,⟨701,zw136⟩,⟨702,zw61⟩,⟨703,zw137⟩,⟨704,zw138⟩,⟨705,zw139⟩]
def zv141:AV:=(L 2 709 [(G [(i 0),(q 0)])])
def zv142:AV:=(L 2 710 [(G [(i 0),(q 0)])])
def zw143:List AV:=[(.str [109]),(i 0),zv55,(Fl 2 []),(.grow 4 1 10 708 1),zv141,zv142]
def zw144:List AV:=[(q 65536),(Fl 1 [])]
def zw145:List AV:=[(q 16777216),(Fl 1 [])]
def zb146:List Blk:=[⟨706,zw139⟩,⟨707,zw143⟩,⟨708,zw56⟩,⟨711,zw143⟩,⟨712,zw144⟩,⟨713,zw145⟩,⟨714,zw60⟩,⟨715,[(Fl 1 [])]⟩]
def zw147:List AV:=[.nils,(Fl 1 []),(.grow 7 1 24 726 1),(u 3),zv55,(i 0),(q 65536),(Fl 1 []),(.grow 2 1 26 728 1),(.grow 6 1 27 729 1),(.grow 1 1 28 730 1),(.grow 1 1 29 731 1)]
def zw148:List AV:=[.nils,(Fl 1 []),(.grow 7 1 24 726 1)]
def zv149:AV:=(L 2 724 [(G [(i 0),(q 0)])])
def zv150:AV:=(L 2 725 [(G [(i 0),(q 0)])])
def zw151:List AV:=[(.str [109]),(i 0),zv55,(Fl 2 []),(.grow 4 1 23 723 1),zv149,zv150]
def zb152:List Blk:=[⟨716,[(Fl 1 [])]⟩,⟨717,zw61⟩,⟨718,zw147⟩,⟨719,zw138⟩,⟨720,zw148⟩,⟨721,zw148⟩,⟨722,zw151⟩,⟨723,zw56⟩]
def zw153:List AV:=[.nils,(Fl 1 []),(.grow 7 1 37 741 1),(u 3),zv55,(i 0),(q 65536),(Fl 1 []),(.grow 2 1 39 743 1),(.grow 6 1 40 744 1),(.grow 1 1 41 745 1),(.grow 1 1 42 746 1)]
def zb154:List Blk:=[⟨726,zw151⟩,⟨727,zw144⟩,⟨728,zw145⟩,⟨729,zw60⟩,⟨730,[(Fl 1 [])]⟩,⟨731,[(Fl 1 [])]⟩,⟨732,zw61⟩,⟨733,zw153⟩]
def zw155:List AV:=[.nils,(Fl 1 []),(.grow 7 1 37 741 1)]
def zv156:AV:=(L 2 739 [(G [(i 0),(q 0)])])
def zv157:AV:=(L 2 740 [(G [(i 0),(q 0)])])
def zw158:List AV:=[(.str [109]),(i 0),zv55,(Fl 2 []),(.grow 4 1 36 738 1),zv156,zv157]
def zb159:List Blk:=[⟨734,zw138⟩,⟨735,zw155⟩,⟨736,zw155⟩,⟨737,zw158⟩,⟨738,zw56⟩,⟨741,zw158⟩,⟨742,zw144⟩,⟨743,zw145⟩]
def zw160:List AV:=[.nils,(Fl 1 []),(.grow 7 1 50 756 1),(u 3),zv55,(i 0),(q 65536),(Fl 1 []),(.grow 2 1 52 758 1),(.grow 6 1 53 759 1),(.grow 1 1 54 760 1),(.grow 1 1 55 761 1)]
def zw161:List AV:=[.nils,(Fl 1 []),(.grow 7 1 50 756 1)]
def zb162:List Blk:=[⟨744,zw60⟩,⟨745,[(Fl 1 [])]⟩,⟨746,[(Fl 1 [])]⟩,⟨747,zw61⟩,⟨748,zw160⟩,⟨749,zw138⟩,⟨750,zw161⟩,⟨751,zw161⟩]
def zv163:AV:=(L 2 754 [(G [(i 0),(q 0)])])
def zv164:AV:=(L 2 755 [(G [(i 0),(q 0)])])
def zw165:List AV:=[(.str [109]),(i 0),zv55,(Fl 2 []),(.grow 4 1 49 753 1),zv163,zv164]
def zb166:List Blk:=[⟨752,zw165⟩,⟨753,zw56⟩,⟨756,zw165⟩,⟨757,zw144⟩,⟨758,zw145⟩,⟨759,zw60⟩,⟨760,[(Fl 1 [])]⟩,⟨761,[(Fl 1 [])]⟩]
def zw167:List AV:=[.nils,(Fl 1 []),(.grow 7 1 63 771 1),(u 3),zv55,(i 0),(q 65536),(Fl 1 []),(.grow 2 1 65 773 1),(.grow 6 1 66 774 1),(.grow 1 1 67 775 1),(.grow 1 1 68 776 1)]
def zw168:List AV:=[.nils,(Fl 1 []),(.grow 7 1 63 771 1)]
def zv169:AV:=(L 2 769 [(G [(i 0),(q 0)])])
def zv170:AV:=(L 2 770 [(G [(i 0),(q 0)])])
def zw171:List AV:=[(.str [109]),(i 0),zv55,(Fl 2 []),(.grow 4 1 62 768 1),zv169,zv170]
def zb172:List Blk:=[⟨762,zw61⟩,⟨763,zw167⟩,⟨764,zw138⟩,⟨765,zw168⟩,⟨766,zw168⟩,⟨767,zw171⟩,⟨768,zw56⟩,⟨771,zw171⟩]
def zw173:List AV:=[.nils,(Fl 1 []),(.grow 7 1 76 786 1),(u 3),zv55,(i 0),(q 65536),(Fl 1 []),(.grow 2 1 78 788 1),(.grow 6 1 79 789 1),(.grow 1 1 80 790 1),(.grow 1 1 81 791 1)]
def zb174:List Blk:=[⟨772,zw144⟩,⟨773,zw145⟩,⟨774,zw60⟩,⟨775,[(Fl 1 [])]⟩,⟨776,[(Fl 1 [])]⟩,⟨777,zw61⟩,⟨778,zw173⟩,⟨779,zw138⟩]
def zw175:List AV:=[.nils,(Fl 1 []),(.grow 7 1 76 786 1)]
def zv176:AV:=(L 2 784 [(G [(i 0),(q 0)])])
def zv177:AV:=(L 2 785 [(G [(i 0),(q 0)])])
def zw178:List AV:=[(.str [109]),(i 0),zv55,(Fl 2 []),(.grow 4 1 75 783 1),zv176,zv177]
def zw179:List AV:=[(u 0),(q 0),(q 16777216),(q 0),(q 0),(i 0)]
def zb180:List Blk:=[⟨780,zw175⟩,⟨781,zw175⟩,⟨782,zw178⟩,⟨783,zw56⟩,⟨786,zw178⟩,⟨787,zw144⟩,⟨788,zw145⟩,⟨789,zw179⟩]
def zw181:List AV:=[.nils,(Fl 1 []),(.grow 7 1 89 801 1),(u 3),zv55,(i 0),(q 65536),(Fl 1 []),(.grow 2 1 91 803 1),(.grow 6 1 92 804 1),(.grow 1 1 93 805 1),(.grow 1 1 94 806 1)]
def zw182:List AV:=[.nils,(Fl 1 []),(.grow 7 1 89 801 1)]
def zv183:AV:=(L 2 799 [(G [(i 0),(q 0)])])
def zv184:AV:=(L 2 800 [(G [(i 0),(q 0)])])
def zw185:List AV:=[(.str [109]),(i 0),zv55,(Fl 2 []),(.grow 4 1 88 798 1),zv183,zv184]
def zb186:List Blk:=[⟨790,[(Fl 1 [])]⟩,⟨791,[(Fl 1 [])]⟩,⟨792,zw61⟩,⟨793,zw181⟩,⟨794,zw138⟩,⟨795,zw182⟩,⟨796,zw182⟩,⟨797,zw185⟩]
def zb187:List Blk:=[⟨798,zw56⟩,⟨801,zw185⟩,⟨802,zw144⟩,⟨803,zw145⟩,⟨804,zw60⟩,⟨805,[(Fl 1 [])]⟩,⟨806,[(Fl 1 [])]⟩,⟨807,zw61⟩]
def zw188:List AV:=[.nils,(Fl 1 []),zv98,(u 3),zv55,(i 0),(q 65536),(Fl 1 []),zv99,zv100,zv101,zv77]
def zw189:List AV:=[.nils,(Fl 1 []),zv98]
def zv190:AV:=(.grow 4 1 101 813 1)
def zv191:AV:=(L 2 814 [(G [(i 0),(q 0)])])
def zv192:AV:=(L 2 815 [(G [(i 0),(q 0)])])
def zw193:List AV:=[(.str [109]),(i 0),zv55,(Fl 2 []),zv190,zv191,zv192]
def zb194:List Blk:=[⟨808,zw188⟩,⟨809,zw138⟩,⟨810,zw189⟩,⟨811,zw189⟩,⟨812,zw193⟩,⟨813,zw56⟩,⟨816,zw193⟩,⟨817,zw144⟩]
def zw195:List AV:=[.nils,(Fl 1 []),zv103,(u 3),zv55,(i 0),(q 65536),(Fl 1 []),zv80,zv104,zv105,zv106]
def zw196:List AV:=[.nils,(Fl 1 []),zv103]
def zb197:List Blk:=[⟨818,zw145⟩,⟨819,zw60⟩,⟨820,[(Fl 1 [])]⟩,⟨942,[(Fl 1 []),.nils]⟩,⟨822,zw61⟩,⟨823,zw195⟩,⟨824,zw138⟩,⟨825,zw196⟩]
def zv198:AV:=(.grow 4 1 114 828 1)
def zv199:AV:=(L 2 829 [(G [(i 0),(q 0)])])
def zv200:AV:=(L 2 830 [(G [(i 0),(q 0)])])
def zw201:List AV:=[(.str [109]),(i 0),zv55,(Fl 2 []),zv198,zv199,zv200]
def zw202:List AV:=[(q 16777216),(.arr 1 212 943 0 8)]
def zb203:List Blk:=[⟨826,zw196⟩,⟨827,zw201⟩,⟨828,zw56⟩,⟨831,zw201⟩,⟨832,zw144⟩,⟨833,zw202⟩,⟨834,zw60⟩,⟨835,[(Fl 1 [])]⟩]
def zw204:List AV:=[.nils,(Fl 1 []),zv107,(u 3),zv55,(i 0),(q 65536),(Fl 1 []),zv108,zv109,zv110,zv111]
def zw205:List AV:=[.nils,(Fl 1 []),zv107]
def zv206:AV:=(.grow 4 1 127 843 1)
def zv207:AV:=(L 2 844 [(G [(i 0),(q 0)])])
def zv208:AV:=(L 2 845 [(G [(i 0),(q 0)])])
def zw209:List AV:=[(.str [109]),(i 0),zv55,(Fl 2 []),zv206,zv207,zv208]
def zb210:List Blk:=[⟨836,[(Fl 1 [])]⟩,⟨837,zw61⟩,⟨838,zw204⟩,⟨839,zw138⟩,⟨840,zw205⟩,⟨841,zw205⟩,⟨842,zw209⟩,⟨843,zw56⟩]
def zw211:List AV:=[.nils,(Fl 1 []),zv113,(u 3),zv55,(i 0),(q 65536),(Fl 1 []),zv114,zv82,zv115,zv116]
def zb212:List Blk:=[⟨846,zw209⟩,⟨847,zw144⟩,⟨848,zw145⟩,⟨849,zw60⟩,⟨850,[(Fl 1 [])]⟩,⟨851,[(Fl 1 [])]⟩,⟨852,zw61⟩,⟨853,zw211⟩]
def zw213:List AV:=[.nils,(Fl 1 []),zv113]
def zv214:AV:=(.grow 4 1 140 858 1)
def zv215:AV:=(L 2 859 [(G [(i 0),(q 0)])])
def zv216:AV:=(L 2 860 [(G [(i 0),(q 0)])])
def zw217:List AV:=[(.str [109]),(i 0),zv55,(Fl 2 []),zv214,zv215,zv216]
def zb218:List Blk:=[⟨854,zw138⟩,⟨855,zw213⟩,⟨856,zw213⟩,⟨857,zw217⟩,⟨858,zw56⟩,⟨861,zw217⟩,⟨862,zw144⟩,⟨863,zw145⟩]
def zw219:List AV:=[.nils,(Fl 1 []),zv117,(u 3),zv55,(i 0),(q 65536),(Fl 1 []),zv118,zv85,zv119,zv120]
def zw220:List AV:=[.nils,(Fl 1 []),zv117]
def zb221:List Blk:=[⟨864,zw83⟩,⟨865,[(Fl 1 [])]⟩,⟨866,[(Fl 1 [])]⟩,⟨867,zw61⟩,⟨868,zw219⟩,⟨869,zw138⟩,⟨870,zw220⟩,⟨871,zw220⟩]
def zv222:AV:=(.grow 4 1 153 873 1)
def zv223:AV:=(L 2 874 [(G [(i 0),(q 0)])])
def zv224:AV:=(L 2 875 [(G [(i 0),(q 0)])])
def zw225:List AV:=[(.str [109]),(i 0),zv55,(Fl 2 []),zv222,zv223,zv224]
def zb226:List Blk:=[⟨872,zw225⟩,⟨873,zw56⟩,⟨876,zw225⟩,⟨877,zw144⟩,⟨878,zw145⟩,⟨879,zw86⟩,⟨880,[(Fl 1 [])]⟩,⟨881,[(Fl 1 [])]⟩]
def zw227:List AV:=[.nils,(Fl 1 []),zv122,(u 3),zv55,(i 0),(q 65536),(Fl 1 []),zv123,zv124,zv87,zv125]
def zw228:List AV:=[.nils,(Fl 1 []),zv122]
def zv229:AV:=(.grow 4 1 166 888 1)
def zv230:AV:=(L 2 889 [(G [(i 0),(q 0)])])
def zv231:AV:=(L 2 890 [(G [(i 0),(q 0)])])
def zw232:List AV:=[(.str [109]),(i 0),zv55,(Fl 2 []),zv229,zv230,zv231]
def zb233:List Blk:=[⟨882,zw61⟩,⟨883,zw227⟩,⟨884,zw138⟩,⟨885,zw228⟩,⟨886,zw228⟩,⟨887,zw232⟩,⟨888,zw56⟩,⟨891,zw232⟩]
def zw234:List AV:=[.nils,(Fl 1 []),zv126,(u 3),zv55,(i 0),(q 65536),(Fl 1 []),zv127,zv128,zv129,zv88]
def zb235:List Blk:=[⟨892,zw144⟩,⟨893,zw145⟩,⟨894,zw60⟩,⟨895,[(Fl 1 [(q 65536)])]⟩,⟨896,[(Fl 1 [])]⟩,⟨897,zw61⟩,⟨898,zw234⟩,⟨899,zw138⟩]
def zw236:List AV:=[.nils,(Fl 1 []),zv126]
def zv237:AV:=(.grow 4 1 179 903 1)
def zv238:AV:=(L 2 904 [(G [(i 0),(q 0)])])
def zv239:AV:=(L 2 905 [(G [(i 0),(q 0)])])
def zw240:List AV:=[(.str [109]),(i 0),zv55,(Fl 2 []),zv237,zv238,zv239]
def zb241:List Blk:=[⟨900,zw236⟩,⟨901,zw236⟩,⟨902,zw240⟩,⟨903,zw56⟩,⟨906,zw240⟩,⟨907,zw144⟩,⟨908,zw145⟩,⟨909,zw60⟩]
def zw242:List AV:=[.nils,(Fl 1 []),zv131,(u 3),zv55,(i 0),(q 65536),(Fl 1 []),zv132,zv89,zv133,zv134]
def zw243:List AV:=[.nils,(Fl 1 []),zv131]
def zv244:AV:=(.grow 4 1 192 918 1)
def zv245:AV:=(L 2 919 [(G [(i 0),(q 0)])])
def zv246:AV:=(L 2 920 [(G [(i 0),(q 0)])])
def zw247:List AV:=[(.str [109]),(i 0),zv55,(Fl 2 []),zv244,zv245,zv246]
def zb248:List Blk:=[⟨910,[(Fl 1 [])]⟩,⟨911,[(Fl 1 [(q 65536)])]⟩,⟨912,zw61⟩,⟨913,zw242⟩,⟨914,zw138⟩,⟨915,zw243⟩,⟨916,zw243⟩,⟨917,zw247⟩]
def zb249:List Blk:=[⟨918,zw56⟩,⟨921,zw247⟩,⟨922,zw144⟩,⟨923,zw145⟩,⟨924,zw90⟩,⟨925,[(Fl 1 [])]⟩,⟨926,[(Fl 1 [])]⟩,⟨927,zw61⟩]
def zw250:List AV:=[.nils,(Fl 1 []),zv69]
def zv251:AV:=(L 2 934 [(G [(i 0),(q 0)])])
def zv252:AV:=(L 2 935 [(G [(i 0),(q 0)])])
def zw253:List AV:=[(.str [109]),(i 0),zv55,(Fl 2 []),zv92,zv251,zv252]
def zw254:List AV:=[(u 34),(i 0),(i 0),(i 0)]
def zb255:List Blk:=[⟨928,zw74⟩,⟨929,zw138⟩,⟨930,zw250⟩,⟨931,zw250⟩,⟨932,zw253⟩,⟨933,zw254⟩,⟨936,zw253⟩,⟨937,zw144⟩]
def zw256:List AV:=[(u 0),(u 0),(u 0),(u 0),(u 0),(u 0),(u 0),(u 0)]
def zb257:List Blk:=[⟨938,zw145⟩,⟨939,zw60⟩,⟨940,[(Fl 1 [])]⟩,⟨941,[(Fl 1 [])]⟩,⟨943,zw256⟩]
def zb258:List Blk:=zb140++(zb146++(zb152++(zb154++(zb159++(zb162++(zb166++(zb172++(zb174++(zb180++(zb186++(zb187++(zb194++(zb197++(zb203++(zb210++(zb212++(zb218++(zb221++(zb226++(zb233++(zb235++(zb241++(zb248++(zb249++(zb255++(zb257))))))))))))))))))))))))))
def zm259:Mem:=⟨[[]],zb258,944,[[679,34,31,28,24]],0⟩
def zc263:ACode:=spD 21 zc54
def zc264:ACode:=sL zc263
def zw265:List AV:=[F,(p 1 2 700 0),(i 0),(.arr 1 3 701 0 16),(i 16),(i 0),e,e,e,e,e,e,e,e,e,e,e,e,e,e,zv62,(G zw65),zv66,zv62]
def zr266:List AV:=zw265++(zw68++(zw76++(zw78++(zw84++(zw91++(zw93++(zw52++(zw52++(zw52++(zw52++(zw52++([e,e,e,e,e]))))))))))))
def zc270:ACode:=spD 1 zc264
def zw271:List AV:=[F,(p 1 2 700 0),(i 0),(.arr 1 3 701 0 16),(i 16),(i 7),.nils,(i 8),.nils,(i 8),e,e,e,e,e,e,e,e,e,e,zv62,(G zw65),zv66,zv62]
def zw272:List AV:=[.nils,(Fl 1 []),(.grow 7 1 89 801 1),(u 3),zv55,(i 0),(q 65536),(Fl 1 []),(.grow 2 1 91 803 1),(.grow 6 1 92 804 1),.nils,(.grow 1 1 94 806 1)]
def zw273:List AV:=[(p 1 3 701 182),zv69,(p 1 206 936 0),(p 1 206 936 4),zv92,(p 1 205 933 0),(p 1 205 933 1),(i 6),(.arr 1 3 701 0 16),(i 16),T,(i 6),(i 7),(.tup [.nils,(i 8)]),(.arr 1 3 701 0 16),(i 6),(p 1 3 701 72),(G zw272),(.tup [.nils,(i 8)]),.nils,(i 8),(.tup [.nils,(i 8)]),(.arr 1 3 701 0 16),(i 6)]
def zw274:List AV:=[(p 1 3 701 72),(G zw272),(.tup [.nils,(i 8)]),.nils,(i 8),(.arr 1 3 701 0 16),(i 6),(p 1 3 701 72),(G zw272),(i 8),F,F,(i 8),F,F,F,(i 8),F,F,e,e,e,e,e]
def zr275:List AV:=zw271++(zw68++(zw76++(zw78++(zw84++(zw91++(zw273++(zw274++(zw52++(zw52++(zw52++(zw52++([e,e,e,e,e]))))))))))))
def zm276:Mem:=⟨[[]],zb258,2864,[[679,34,31,28,24]],0⟩
def zw279:List AV:=[F,(p 1 2 700 0),(i 0),(.arr 1 3 701 0 16),(i 16),(i 8),.nils,(i 8),.nils,(i 8),e,e,e,e,e,e,e,e,e,e,zv62,(G zw65),zv66,zv62]
def zw280:List AV:=[.nils,(Fl 1 []),zv98,(u 3),zv55,(i 0),(q 65536),(Fl 1 []),zv99,zv100,zv101,zv79]
def zw281:List AV:=[(p 1 3 701 182),zv69,(p 1 206 936 0),(p 1 206 936 4),zv92,(p 1 205 933 0),(p 1 205 933 1),(i 7),(.arr 1 3 701 0 16),(i 16),T,(i 7),(i 8),(.tup [.nils,(i 8)]),(.arr 1 3 701 0 16),(i 7),(p 1 3 701 84),(G zw280),(.tup [.nils,(i 8)]),.nils,(i 8),(.tup [.nils,(i 8)]),(.arr 1 3 701 0 16),(i 7)]
def zw282:List AV:=[(p 1 3 701 84),(G zw280),(.tup [.nils,(i 8)]),.nils,(i 8),(.arr 1 3 701 0 16),(i 7),(p 1 3 701 84),(G zw280),(i 8),F,F,(i 8),F,F,F,(i 8),F,F,e,e,e,e,e]
def zr283:List AV:=zw279++(zw68++(zw76++(zw78++(zw84++(zw91++(zw281++(zw282++(zw52++(zw52++(zw52++(zw52++([e,e,e,e,e]))))))))))))
def zm284:Mem:=⟨[[]],zb258,3983,[[679,34,31,28,24]],0⟩
def zw287:List AV:=[F,(p 1 2 700 0),(i 0),(.arr 1 3 701 0 16),(i 16),(i 10),.nils,(i 8),.nils,(i 8),e,e,e,e,e,e,e,e,e,e,zv62,(G zw65),zv66,zv62]
def zw288:List AV:=[.nils,(Fl 1 []),zv107,(u 2),(i 1),(i 0),(q 65536),(Fl 1 []),zv108,zv109,zv110,zv111]
def zw289:List AV:=[(p 1 3 701 182),zv69,(p 1 206 936 0),(p 1 206 936 4),zv92,(p 1 205 933 0),(p 1 205 933 1),(i 9),(.arr 1 3 701 0 16),(i 16),T,(i 9),(i 10),(.tup [.nils,(i 8)]),(.arr 1 3 701 0 16),(i 9),(p 1 3 701 108),(G zw288),(.tup [.nils,(i 8)]),.nils,(i 8),(.tup [.nils,(i 8)]),(.arr 1 3 701 0 16),(i 9)]
def zw290:List AV:=[(p 1 3 701 108),(G zw288),(.tup [.nils,(i 8)]),.nils,(i 8),(.arr 1 3 701 0 16),(i 9),(p 1 3 701 108),(G zw288),(i 8),F,F,(i 8),F,F,F,(i 8),F,F,e,e,e,e,e]
def zr291:List AV:=zw287++(zw68++(zw76++(zw78++(zw84++(zw91++(zw289++(zw290++(zw52++(zw52++(zw52++(zw52++([e,e,e,e,e]))))))))))))
def zm292:Mem:=⟨[[]],zb258,6209,[[679,34,31,28,24]],0⟩
def zw295:List AV:=[F,(p 1 2 700 0),(i 0),(.arr 1 3 701 0 16),(i 16),(i 11),.nils,(i 8),.nils,(i 8),e,e,e,e,e,e,e,e,e,e,zv62,(G zw65),zv66,zv62]
def zw296:List AV:=[(p 1 3 701 182),zv69,(p 1 206 936 0),(p 1 206 936 4),zv92,(p 1 205 933 0),(p 1 205 933 1),(i 10),(.arr 1 3 701 0 16),(i 16),T,(i 10),(i 11),(.tup [.nils,(i 8)]),(.arr 1 3 701 0 16),(i 10),(p 1 3 701 120),(G zw211),(.tup [.nils,(i 8)]),.nils,(i 8),(.tup [.nils,(i 8)]),(.arr 1 3 701 0 16),(i 10)]
def zw297:List AV:=[(p 1 3 701 120),(G zw211),(.tup [.nils,(i 8)]),.nils,(i 8),(.arr 1 3 701 0 16),(i 10),(p 1 3 701 120),(G zw211),(i 8),F,F,(i 8),F,F,F,(i 8),F,F,e,e,e,e,e]
def zr298:List AV:=zw295++(zw68++(zw76++(zw78++(zw84++(zw91++(zw296++(zw297++(zw52++(zw52++(zw52++(zw52++([e,e,e,e,e]))))))))))))
def zm299:Mem:=⟨[[]],zb258,7601,[[679,34,31,28,24]],0⟩
def zw302:List AV:=[F,(p 1 2 700 0),(i 0),(.arr 1 3 701 0 16),(i 16),(i 12),.nils,(i 8),.nils,(i 8),e,e,e,e,e,e,e,e,e,e,zv62,(G zw65),zv66,zv62]
def zw303:List AV:=[(p 1 3 701 182),zv69,(p 1 206 936 0),(p 1 206 936 4),zv92,(p 1 205 933 0),(p 1 205 933 1),(i 11),(.arr 1 3 701 0 16),(i 16),T,(i 11),(i 12),(.tup [.nils,(i 8)]),(.arr 1 3 701 0 16),(i 11),(p 1 3 701 132),(G zw219),(.tup [.nils,(i 8)]),.nils,(i 8),(.tup [.nils,(i 8)]),(.arr 1 3 701 0 16),(i 11)]
def zw304:List AV:=[(p 1 3 701 132),(G zw219),(.tup [.nils,(i 8)]),.nils,(i 8),(.arr 1 3 701 0 16),(i 11),(p 1 3 701 132),(G zw219),(i 8),F,F,(i 8),F,F,F,(i 8),F,F,e,e,e,e,e]
def zr305:List AV:=zw302++(zw68++(zw76++(zw78++(zw84++(zw91++(zw303++(zw304++(zw52++(zw52++(zw52++(zw52++([e,e,e,e,e]))))))))))))
def zm306:Mem:=⟨[[]],zb258,8720,[[679,34,31,28,24]],0⟩
def zw309:List AV:=[F,(p 1 2 700 0),(i 0),(.arr 1 3 701 0 16),(i 16),(i 13),.nils,(i 8),.nils,(i 8),e,e,e,e,e,e,e,e,e,e,zv62,(G zw65),zv66,zv62]
def zw310:List AV:=[(p 1 3 701 182),zv69,(p 1 206 936 0),(p 1 206 936 4),zv92,(p 1 205 933 0),(p 1 205 933 1),(i 12),(.arr 1 3 701 0 16),(i 16),T,(i 12),(i 13),(.tup [.nils,(i 8)]),(.arr 1 3 701 0 16),(i 12),(p 1 3 701 144),(G zw227),(.tup [.nils,(i 8)]),.nils,(i 8),(.tup [.nils,(i 8)]),(.arr 1 3 701 0 16),(i 12)]
def zw311:List AV:=[(p 1 3 701 144),(G zw227),(.tup [.nils,(i 8)]),.nils,(i 8),(.arr 1 3 701 0 16),(i 12),(p 1 3 701 144),(G zw227),(i 8),F,F,(i 8),F,F,F,(i 8),F,F,e,e,e,e,e]
def zr312:List AV:=zw309++(zw68++(zw76++(zw78++(zw84++(zw91++(zw310++(zw311++(zw52++(zw52++(zw52++(zw52++([e,e,e,e,e]))))))))))))
def zm313:Mem:=⟨[[]],zb258,9845,[[679,34,31,28,24]],0⟩
def zw316:List AV:=[F,(p 1 2 700 0),(i 0),(.arr 1 3 701 0 16),(i 16),(i 14),.nils,(i 8),.nils,(i 8),e,e,e,e,e,e,e,e,e,e,zv62,(G zw65),zv66,zv62]
def zw317:List AV:=[(p 1 3 701 182),zv69,(p 1 206 936 0),(p 1 206 936 4),zv92,(p 1 205 933 0),(p 1 205 933 1),(i 13),(.arr 1 3 701 0 16),(i 16),T,(i 13),(i 14),(.tup [.nils,(i 8)]),(.arr 1 3 701 0 16),(i 13),(p 1 3 701 156),(G zw234),(.tup [.nils,(i 8)]),.nils,(i 8),(.tup [.nils,(i 8)]),(.arr 1 3 701 0 16),(i 13)]
def zw318:List AV:=[(p 1 3 701 156),(G zw234),(.tup [.nils,(i 8)]),.nils,(i 8),(.arr 1 3 701 0 16),(i 13),(p 1 3 701 156),(G zw234),(i 8),F,F,(i 8),F,F,F,(i 8),F,F,e,e,e,e,e]
def zr319:List AV:=zw316++(zw68++(zw76++(zw78++(zw84++(zw91++(zw317++(zw318++(zw52++(zw52++(zw52++(zw52++([e,e,e,e,e]))))))))))))
def zm320:Mem:=⟨[[]],zb258,10970,[[679,34,31,28,24]],0⟩
def zw323:List AV:=[F,(p 1 2 700 0),(i 0),(.arr 1 3 701 0 16),(i 16),(i 16),.nils,(i 8),.nils,(i 8),e,e,e,e,e,e,e,e,e,e,zv62,(G zw65),zv66,zv62]
def zw324:List AV:=[(p 1 3 701 182),zv69,(p 1 206 936 0),(p 1 206 936 4),zv92,(p 1 205 933 0),(p 1 205 933 1),(i 15),(.arr 1 3 701 0 16),(i 16),T,(i 15),(i 16),(.tup [.nils,(i 8)]),(.arr 1 3 701 0 16),(i 15),(p 1 3 701 180),(G zw74),(.tup [.nils,(i 8)]),.nils,(i 8),(.tup [.nils,(i 8)]),(.arr 1 3 701 0 16),(i 15)]
def zw325:List AV:=[(p 1 3 701 180),(G zw74),(.tup [.nils,(i 8)]),.nils,(i 8),(.arr 1 3 701 0 16),(i 15),(p 1 3 701 180),(G zw74),(i 8),F,F,(i 8),F,F,F,(i 8),F,F,e,e,e,e,e]
def zr326:List AV:=zw323++(zw68++(zw76++(zw78++(zw84++(zw91++(zw324++(zw325++(zw52++(zw52++(zw52++(zw52++([e,e,e,e,e]))))))))))))
def zm327:Mem:=⟨[[]],zb258,13166,[[679,34,31,28,24]],0⟩
def zw330:List AV:=[(p 1 3 701 182),zv69,(p 1 206 936 0),(p 1 206 936 4),zv92,(p 1 205 933 0),(p 1 205 933 1),(i 16),(.arr 1 3 701 0 16),(i 16),F,(i 15),(i 16),(.tup [.nils,(i 8)]),(.arr 1 3 701 0 16),(i 15),(p 1 3 701 180),(G zw74),(.tup [.nils,(i 8)]),.nils,(i 8),(.tup [.nils,(i 8)]),(.arr 1 3 701 0 16),(i 15)]
def zr331:List AV:=zw323++(zw68++(zw76++(zw78++(zw84++(zw91++(zw330++(zw325++(zw52++(zw52++(zw52++(zw52++([e,e,e,e,e]))))))))))))
def zc347:ACode:=sR zc263
def zv348:AV:=(.grow 12 1 241 13203 7)
def zw349:List AV:=[(i 8),(i 8),(i 8),(i 16),(i 40),(i 16),(i 8)]
def zw350:List AV:=[F,(p 1 2 700 0),(i 0),(.arr 1 3 701 0 16),(i 16),(i 16),.nils,(i 8),.nils,(i 8),(p 1 226 13181 0),zv348,(Fl 1 zw349),(i 7),(p 1 242 14288 0),(i 8),.nils,(i 8),(p 1 244 14511 0),(i 8),zv62,(G zw65),zv66,zv62]
def zv351:AV:=(.grow 7 1 220 13175 1)
def zv352:AV:=(.grow 2 1 222 13177 1)
def zv353:AV:=(.grow 6 1 223 13178 1)
def zv354:AV:=(.grow 1 1 224 13179 1)
def zv355:AV:=(.grow 1 1 225 13180 1)
def zw356:List AV:=[.nils,(Fl 1 []),zv351,(u 3),zv55,(i 0),(q 65536),(Fl 1 []),zv352,zv353,zv354,zv355]
def zw357:List AV:=[(u 1),(q 256),(q 16777216),(q 0),(q 0),(i 0)]
def zw358:List AV:=[(p 1 3 701 180),(G zw74),(.tup [.nils,(i 8)]),.nils,(i 8),(.arr 1 3 701 0 16),(i 15),(p 1 3 701 180),(G zw74),(i 8),F,F,(i 8),F,F,F,(i 8),F,F,(G zw61),(G zw356),(p 1 226 13181 9),zv353,(G zw357)]
def zv359:AV:=(.grow 6 1 228 13184 1)
def zw360:List AV:=[.nils,.nils,(Fl 7 [(G zw64)]),(i 0),(i 0),(i 0),(i 0),(q 65536),.nils,(Fl 2 [zv2]),zv359,(i 0)]
def zv361:AV:=(.grow 6 1 230 13187 1)
def zw362:List AV:=[.nils,.nils,(Fl 7 [(G zw64)]),(i 0),(i 0),(i 0),(i 0),(q 65536),.nils,(Fl 2 [zv2]),zv361,(i 0)]
def zv363:AV:=(.grow 6 1 232 13190 1)
def zw364:List AV:=[.nils,.nils,(Fl 7 [(G zw64)]),(i 0),(i 0),(i 0),(i 0),(q 65536),.nils,(Fl 2 [zv2]),zv363,(i 0)]
def zv365:AV:=(.grow 6 1 234 13193 1)
def zw366:List AV:=[.nils,.nils,(Fl 7 [(G zw64)]),(i 0),(i 0),(i 0),(i 0),(q 65536),.nils,(Fl 2 [zv2]),zv365,(i 0)]
def zv367:AV:=(.grow 6 1 236 13196 1)
def zw368:List AV:=[.nils,.nils,(Fl 7 [(G zw64)]),(i 0),(i 0),(i 0),(i 0),(q 65536),.nils,(Fl 2 [zv2]),zv367,(i 0)]
def zv369:AV:=(.grow 6 1 238 13199 1)
def zw370:List AV:=[.nils,.nils,(Fl 7 [(G zw64)]),(i 0),(i 0),(i 0),(i 0),(q 65536),.nils,(Fl 2 [zv2]),zv369,(i 0)]
def zv371:AV:=(.grow 6 1 240 13202 1)
def zw372:List AV:=[.nils,.nils,(Fl 7 [(G zw64)]),(i 0),(i 0),(i 0),(i 0),(q 65536),.nils,(Fl 2 [zv2]),zv371,(i 0)]
def zw373:List AV:=[(p 1 223 13178 0),(G zw360),(G zw362),(G zw364),(G zw366),(G zw368),(G zw370),(G zw372),zv348,zv348,(p 1 241 13203 0),(p 1 241 13203 7),(p 1 241 13203 7),zv348,(p 1 241 13203 12),(p 1 241 13203 21),zv348,(p 1 241 13203 24),(p 1 241 13203 34),zv348,(p 1 241 13203 36),(p 1 241 13203 46),zv365,(p 1 234 13193 0)]
def zv374:AV:=(G [.nils,.nils,.nils])
def zw375:List AV:=[(p 1 234 13193 3),zv348,(Fl 1 zw0),(p 1 241 13203 48),(p 1 241 13203 55),(p 1 241 13203 56),zv348,(p 1 241 13203 48),(p 1 241 13203 58),zv367,(p 1 236 13196 0),(p 1 236 13196 4),zv348,(p 1 241 13203 60),(p 1 241 13203 70),zv369,(p 1 238 13199 0),(p 1 238 13199 3),zv348,zv374,(p 1 241 13203 72),(p 1 241 13203 72),(Fl 1 zw349),(i 7)]
def zv376:AV:=(.tup [(G zw75),(i 8)])
def zw377:List AV:=[.nils,.nils,.nils,(i 0),(i 0),(i 0),(i 0),(q 65536),.nils,(Fl 2 [zv2]),zv371,(i 0)]
def zw378:List AV:=[zv348,(i 7),F,(i 6),(i 7),zv376,zv348,(i 6),(p 1 241 13203 72),(G zw377),zv66,zv376,(G zw75),(i 8),(.tup [.nils,(i 8)]),zv348,(i 6),(p 1 241 13203 72),(G zw377),zv66,(.tup [.nils,(i 8)]),.nils,(i 8),(i 8)]
def zv379:AV:=(.grow 6 1 243 14380 1)
def zw380:List AV:=[.nils,.nils,(Fl 7 [(G zw64)]),(i 0),(i 0),(i 0),(i 0),(q 65536),.nils,(Fl 2 [zv2]),zv379,(i 0)]
def zv381:AV:=(G [(u 0),(i 0),(i 0)])
def zw382:List AV:=[(Fl 1 zw349),(i 6),(.ro [(i 8)]),(i 8),F,F,(i 8),(Fl 1 zw349),(i 6),(.ro [(i 8)]),(i 8),F,F,zv376,(G zw380),zv381,zv376,(G zw75),(i 8),e,e,e,e,e]
def zr383:List AV:=zw350++(zw68++(zw76++(zw78++(zw84++(zw91++(zw330++(zw358++(zw373++(zw375++(zw378++(zw382++([e,e,e,e,e]))))))))))))
def zb384:List Blk:=[⟨938,zw145⟩,⟨939,zw60⟩,⟨940,[(Fl 1 [])]⟩,⟨941,[(Fl 1 [])]⟩,⟨943,zw256⟩,⟨13166,zw61⟩,⟨13167,zw356⟩,⟨13168,zw138⟩]
def zw385:List AV:=[.nils,(Fl 1 []),zv351]
def zv386:AV:=(.grow 4 1 219 13172 1)
def zv387:AV:=(L 2 13173 [(G [(i 0),(q 0)])])
def zv388:AV:=(L 2 13174 [(G [(i 0),(q 0)])])
def zw389:List AV:=[(.str [109]),(i 0),zv55,(Fl 2 []),zv386,zv387,zv388]
def zb390:List Blk:=[⟨13169,zw385⟩,⟨13170,zw385⟩,⟨13171,zw389⟩,⟨13172,zw56⟩,⟨13175,zw389⟩,⟨13176,zw144⟩,⟨13177,zw145⟩,⟨13178,zw357⟩]
def zb391:List Blk:=[⟨13179,[(Fl 1 [])]⟩,⟨13180,[(Fl 1 [])]⟩,⟨13181,zw356⟩,⟨13182,zw360⟩,⟨13184,zw60⟩,⟨13185,zw362⟩,⟨13187,zw60⟩,⟨13188,zw364⟩]
def zw392:List AV:=[(u 3),(q 0),(q 16777216),(q 65536),(q 0),(i 0)]
def zw393:List AV:=[(u 3),(q 0),(q 16777216),(q 0),(q 65536),(i 0)]
def zw394:List AV:=[(u 3),(q 0),(q 16777216),(q 65540),(q 0),(i 0)]
def zb395:List Blk:=[⟨13190,zw60⟩,⟨13191,zw366⟩,⟨13193,zw392⟩,⟨13194,zw368⟩,⟨13196,zw393⟩,⟨13197,zw370⟩,⟨13199,zw394⟩,⟨13200,zw372⟩]
def zw396:List AV:=[.nils,.nils,(Fl 7 [(G zw64)]),(i 0),(i 0),(i 0),(i 0),(q 8),.nils,(Fl 2 [zv2]),zv359,(i 0),.nils,.nils,(Fl 7 [(G zw64)]),(i 0),(i 0),(i 0),(i 0),(q 65536),.nils,.nils,zv361,(i 0)]
def zw397:List AV:=[.nils,.nils,(Fl 7 [(G zw64)]),(i 0),(i 0),(i 0),(i 0),(q 65536),.nils,(Fl 2 [zv2]),.nils,(i 0),.nils,.nils,(Fl 7 [(G zw64)]),(i 0),(i 0),(i 0),(i 0),(q 65536),.nils,(Fl 2 [zv2]),zv365,(i 0)]
def zw398:List AV:=[.nils,.nils,(Fl 7 [(G zw64)]),(i 0),(i 0),(i 0),(i 0),(q 65536),(Fl 1 zw0),(Fl 2 [zv2]),zv367,(i 0),.nils,.nils,(Fl 7 [(G zw64)]),(i 0),(i 0),(i 0),(i 0),(q 65536),.nils,(Fl 2 [zv2]),zv369,(i 0)]
def zw399:List AV:=zw396++(zw397++(zw398++(zw377)))
def zb400:List Blk:=[⟨13202,zw60⟩,⟨13203,zw399⟩,⟨14378,zw380⟩,⟨14380,zw60⟩,⟨14511,zw75⟩]
def zb401:List Blk:=zb140++(zb146++(zb152++(zb154++(zb159++(zb162++(zb166++(zb172++(zb174++(zb180++(zb186++(zb187++(zb194++(zb197++(zb203++(zb210++(zb212++(zb218++(zb221++(zb226++(zb233++(zb235++(zb241++(zb248++(zb249++(zb255++(zb384++(zb390++(zb391++(zb395++(zb400))))))))))))))))))))))))))))))
def zm402:Mem:=⟨[[]],zb401,14512,[[679,34,31,28,24]],0⟩
def zc406:ACode:=spD 14 zc347
def zw407:List AV:=[T,(p 1 2 700 0),(i 0),(.arr 1 3 701 0 16),(i 16),(i 16),.nils,(i 8),.nils,(i 8),(p 1 226 13181 0),zv348,(Fl 1 zw349),(i 7),(p 1 242 14288 0),(i 8),.nils,(i 8),(p 1 244 14511 0),(i 8),zv62,(G zw65),zv66,zv62]
def zw408:List AV:=[(Fl 1 zw349),(i 6),(.ro [(i 8)]),(i 8),F,F,(i 8),(Fl 1 zw349),(i 6),(.ro [(i 8)]),(i 8),F,F,zv376,(G zw380),zv381,zv376,(G zw75),(i 8),T,T,(G zw356),(i 0),T]
def zr409:List AV:=zw407++(zw68++(zw76++(zw78++(zw84++(zw91++(zw330++(zw358++(zw373++(zw375++(zw378++(zw408++([T,T,(i 8),T,T]))))))))))))
def zm410:Mem:=⟨[[]],zb401,16308,[[679,34,31,28,24]],0⟩
def zm417:Mem:=⟨[],[],16308,[],0⟩
end Go.Proofs.W
end
