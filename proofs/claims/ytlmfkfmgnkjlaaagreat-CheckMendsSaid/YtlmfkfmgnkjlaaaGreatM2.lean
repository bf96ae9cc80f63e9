/-
  Part 3 of the proof, shared by claims of this seat: NVsu, NVsx, NVsy, R8Code, NVsv, NVsw, NVd, NVb, R8S1, R8S16.
-/
import Derived.Test.YtlmfkfmgnkjlaaaGreatM1
import Derived.DataReads
import Derived.Carry
import Derived.ChangeOld
import Derived.ProofKit
set_option maxHeartbeats 64000000
set_option linter.unusedVariables false
set_option linter.unusedSimpArgs false
open Nat renaming reduceEqDiff → G0, reduceBEq → G1, reduceLT → G2, reduceAdd → G3, le_refl → w0b, zero_le → w0c, zero_add → w39, add_mul → w3d
open Option renaming map_eq_some_iff → w00, bind_eq_some_iff → w04, map_some → w0d, bind_some → w29, getD_some → w2a
open List renaming getD_eq_getElem?_getD → w02, length_append → w05, getElem?_eq_some_iff → w06, mem_append → w08, getElem?_append_left → w09, take_length → w0a, append_assoc → w0f, getElem?_eq_getElem → w10, mem_singleton → w13, getElem?_append_right → w14, take_succ_eq_append_getElem → w15, getElem?_eq_none → w16, getElem?_map → w17, eq_nil_of_length_eq_zero → w18, mem_cons_self → w1b, mem_cons_of_mem → w1c, take_succ_cons → w1d, drop_succ_cons → w1e, append_nil → w20, length_take → w21, take_zero → w22, drop_zero → w24, length_cons → w26, ext_getElem? → w2b, getElem?_set → w2c, length_nil → w2f, cons_append → w31, map_cons → w32, mem_cons → w35, take_of_length_le → w37, getElem?_replicate → w38, mem_append_left → w3a, getElem?_range → w3c, mem_of_getElem? → w3e, flatten_cons → w40, getLast?_singleton → w42, mem_append_right → w43, mem_range → w44, modify_eq_take_cons_drop → w47, nil_append → w48, all_eq_true → w49, getLast?_append → w4b, dropLast_concat → w4c, set_cons_succ → w4d, length_map → w4e, mem_filter → w50, length_drop → w51, replicate_succ → w52, set_cons_zero → w53, take_append_of_le_length → w55, set_eq_take_append_cons_drop → w56
open Bool renaming and_eq_true → w0e, false_eq_true → w1f, or_eq_true → w33
section
namespace Go.Vs
def Le (O O':Oracle):Prop:= ∀f a m r,O f a m=some r→O' f a m=some r
theorem Le.refl (O:Oracle):Le O O:=fun _ _ _ _ h=>h
theorem z8b {O O':Oracle} (h:Le O O') {ρ:List AV} {m:Mem} {op:AOp} {r:AV×Mem} (he:evOp O ρ m op=some r):evOp O' ρ m op=some r:=by
 cases op<;>try exact he
 rename_i f args
 simp only[evOp,evCall] at he⊢
 split at he
 ·exact h _ _ _ _ he
 ·exact h _ _ _ _ he
 ·cases he
theorem tK {O O':Oracle} (h:Le O O') {o:AOper} {σ σ':St} (he:evOper O o σ=some σ'):evOper O' o σ=some σ':=by
 unfold evOper at he⊢
 split at he
 ·simp only[w00] at he⊢
  obtain⟨r,h1,h2⟩:=he
  exact⟨r,z8b h h1,h2⟩
 ·exact he
 ·cases he
theorem jK {O O':Oracle} (h:Le O O'): ∀{l:List AOper} {σ σ':St},evOps O l σ=some σ'→evOps O' l σ=some σ'
 | [],σ,σ',he=>he
 |o::l,σ,σ',he=>by
  simp only[evOps,w04] at he⊢
  obtain⟨σ1,h1,h2⟩:=he
  exact⟨σ1,tK h h1,jK h h2⟩
theorem uo {O O':Oracle} (h:Le O O') {m0:Mem}: ∀{l:List AOper} {ws:Watch} {σ σ':St},evDraw O m0 ws l σ=some σ'→evDraw O' m0 ws l σ=some σ'
 | [],ws,σ,σ',he=>he
 |o::l,ws,σ,σ',he=>by
  simp only[evDraw] at he⊢
  split at he
  ·split at he
   ·rename_i q hq;rw[tK h hq];exact uo h he
   ·cases he
  ·split at he
   ·split at he
    ·split at he
     ·rename_i q hq;rw[tK h hq];exact uo h he
     ·cases he
    ·cases he
   ·split at he
    ·rename_i q hq;rw[tK h hq];exact uo h he
    ·cases he
theorem ZB {f f':St→Option (Out×St)} {hd:St→St} (h: ∀σ r,f σ=some r→f' σ=some r): ∀{n n':Nat} {σ:St} {r:Out×St},n≤n'→iter f hd n σ=some r→iter f' hd n' σ=some r
 |0,n',σ,r,_,he=>by simp[iter] at he
 |n+1,0,σ,r,hn,he=>by omega
 |n+1,n'+1,σ,r,hn,he=>by
  simp only[iter] at he⊢
  split at he
  ·rename_i σ1 h1
   rw[h _ _ h1]
   exact ZB h (by omega) he
  ·rename_i hne
   rw[h _ _ he]
   split
   ·rename_i σ1 h1;injection h1 with h1;rw[h1] at he;exact absurd he (hne σ1)
   ·rfl
def YLe (Y Y':YH):Prop:= ∀a m r,Y a m=some r→Y' a m=some r
structure OraLe (O O':Ora):Prop where
 call:Le O.call O'.call
 iter: ∀Y Y',YLe Y Y'→Le (O.iter Y) (O'.iter Y')
theorem z43 {RA RB RA' RB':St→Option (Out×St)} (hA: ∀σ r,RA σ=some r→RA' σ=some r) (hB: ∀σ r,RB σ=some r→RB' σ=some r) {ps:List Nat} {ρ:List AV} {l k st:Nat} {as:List AV} {m:Mem} {r:AV×Mem}
  (h:roundV RA RB ps ρ l k st as m=some r):roundV RA' RB' ps ρ l k st as m=some r:=by
 unfold roundV at h⊢
 split at h
 ·rename_i hc
  rw[if_pos hc]
  split at h
  ·rename_i σ1 h1
   rw[hA _ _ h1]
   simp only
   split at h
   ·rename_i hs
    rw[if_pos hs]
    split at h
    ·rename_i out σ2 h2
     rw[hB _ _ h2]
     exact h
    ·cases h
   ·cases h
  ·cases h
 ·cases h
theorem z2N {I I':YH→Oracle} (hI: ∀Y Y',YLe Y Y'→Le (I Y) (I' Y')) {RA RB RA' RB':St→Option (Out×St)} (hA: ∀σ r,RA σ=some r→RA' σ=some r) (hB: ∀σ r,RB σ=some r→RB' σ=some r) {f:AV} {ps:List Nat} {σ:St} {r:Out×St}
  (h:rangeEv I RA RB f ps σ=some r):rangeEv I' RA' RB' f ps σ=some r:=by
 unfold rangeEv at h⊢
 split at h
 ·split at h
  ·rename_i v m2 h1
   rw[hI _ (yieldV RA' RB' ps σ.ρ σ.m.stk.length σ.m.cur.length σ.m.nx) (fun a m r hy=>by
    unfold yieldV at hy⊢
    split at hy
    ·split at hy
     ·rename_i hc
      rw[if_pos hc]
      exact z43 hA hB hy
     ·cases hy
    ·cases hy) _ _ _ _ h1]
   exact h
  ·cases h
 ·cases h
theorem VV {run run':St→Option (Out×St)} {from_ from_':Nat→St→Option (Out×St)} {has:Nat→Bool} (h1: ∀σ r,run σ=some r→run' σ=some r) (h2: ∀l σ r,from_ l σ=some r→from_' l σ=some r):
  ∀{n n':Nat} {s:Option Nat} {σ:St} {r:Out×St},n≤n'→scopeIt run from_ has n s σ=some r→scopeIt run' from_' has n' s σ=some r
 |0,n',s,σ,r,_,he=>by simp[scopeIt] at he
 |n+1,0,s,σ,r,hn,he=>by omega
 |n+1,n'+1,s,σ,r,hn,he=>by
  have key: ∀x x':Option (Out×St),(∀r,x=some r→x'=some r)→(match x with|some (.goto l,σ')=>if has l then scopeIt run from_ has n (some l) σ' else some (.goto l,σ')|r=>r)=some r→
    (match x' with|some (.goto l,σ')=>if has l then scopeIt run' from_' has n' (some l) σ' else some (.goto l,σ')|r=>r)=some r:=by
   intro x x' one he
   split at he
   ·rename_i l σ1
    rw[one _ rfl]
    simp only
    split at he
    ·rename_i hl;rw[if_pos hl];exact VV h1 h2 (by omega) he
    ·rename_i hl;rw[if_neg hl];exact he
   ·rename_i hne
    rw[one _ he]
    split
    ·rename_i l σ1 hq;injection hq with hq;rw[hq] at he;exact absurd he (hne l σ1)
    ·rfl
  simp only[scopeIt] at he⊢
  cases s with
  |none=>exact key _ _ (h1 σ) he
  |some l=>exact key _ _ (h2 l σ) he
theorem z9X {O O':Ora} (h:OraLe O O') {n n':Nat} (hn:n≤n'): ∀(c:ACode),(∀{σ:St} {r:Out×St},ev O n c σ=some r→ev O' n' c σ=some r)∧ ∀{l:Nat} {σ:St} {r:Out×St},evF O n c l σ=some r→evF O' n' c l σ=some r:=by
 intro c
 induction c with
 |bad=>exact⟨(by
   intro σ r he
   cases he),fun he=>by simp[evF] at he⟩
 |const v=>exact⟨(by
   intro σ r he
   exact he),fun he=>by simp[evF] at he⟩
 |skip=>exact⟨(by
   intro σ r he
   exact he),fun he=>by simp[evF] at he⟩
 |ret=>exact⟨(by
   intro σ r he
   exact he),fun he=>by simp[evF] at he⟩
 |exit id=>exact⟨(by
   intro σ r he
   exact he),fun he=>by simp[evF] at he⟩
 |ops l=>exact⟨(by
   intro σ r he
   simp only[ev,w00] at he⊢
   obtain⟨σ1,h1,h2⟩:=he
   exact⟨σ1,jK h.call h1,h2⟩),fun he=>by simp[evF] at he⟩
 |draw l=>exact⟨(by
   intro σ r he
   simp only[ev,w00] at he⊢
   obtain⟨σ1,h1,h2⟩:=he
   exact⟨σ1,uo h.call h1,h2⟩),fun he=>by simp[evF] at he⟩
 |seq a b iha ihb=>exact⟨(by
   intro σ r he
   simp only[ev] at he⊢
   split at he
   ·rename_i σ1 h1;rw[iha.1 h1];exact ihb.1 he
   ·rename_i hne
    rw[iha.1 he]
    split
    ·rename_i σ1 h1;injection h1 with h1;rw[h1] at he;exact absurd he (hne σ1)
    ·rfl),fun he=>by
   simp only[evF] at he⊢
   split at he
   ·rename_i hl
    rw[if_pos hl]
    split at he
    ·rename_i σ1 h1;rw[iha.2 h1];exact ihb.1 he
    ·rename_i hne
     rw[iha.2 he]
     split
     ·rename_i σ1 h1;injection h1 with h1;rw[h1] at he;exact absurd he (hne σ1)
     ·rfl
   ·rename_i hl;rw[if_neg hl];exact ihb.2 he⟩
 |cond c a b iha ihb=>exact⟨(by
   intro σ r he
   simp only[ev] at he⊢
   split at he
   ·split at he
    ·rename_i ht;rw[if_pos ht];exact iha.1 he
    ·rename_i ht;rw[if_neg ht];exact ihb.1 he
   ·cases he),fun he=>by simp[evF] at he⟩
 |block id a iha=>exact⟨(by
   intro σ r he
   simp only[ev] at he⊢
   split at he
   ·rename_i i σ1 h1;rw[iha.1 h1];exact he
   ·rename_i hne
    rw[iha.1 he]
    split
    ·rename_i i σ1 h1;injection h1 with h1;rw[h1] at he;exact absurd he (hne i σ1)
    ·rfl),fun he=>by simp[evF] at he⟩
 |loop live a iha=>exact⟨(by
   intro σ r he
   simp only[ev] at he⊢
   exact ZB (fun σ r h=>iha.1 h) hn he),fun he=>by simp[evF] at he⟩
 |scope a iha=>exact⟨(by
   intro σ r he
   simp only[ev] at he⊢
   exact VV (fun _ _ h=>iha.1 h) (fun _ _ _ h=>iha.2 h) hn he),fun he=>by simp[evF] at he⟩
 |label l=>exact⟨fun he=>he,fun he=>he⟩
 |goto l=>exact⟨fun he=>he,fun he=>by simp[evF] at he⟩
 |rangeF f ps a b iha ihb=>exact⟨(by
   intro σ r he
   simp only[ev] at he⊢
   exact z2N h.iter (fun _ _ h=>iha.1 h) (fun _ _ h=>ihb.1 h) he),fun he=>by simp[evF] at he⟩
 |frz ts=>exact⟨fun he=>he,fun he=>by simp[evF] at he⟩
theorem z3i {O O':Ora} (h:OraLe O O') {n n':Nat} (hn:n≤n') (c:ACode) {σ:St} {r:Out×St} (he:ev O n c σ=some r):ev O' n' c σ=some r:=(z9X h hn c).1 he
theorem UQ {O O':Ora} (h:OraLe O O') {n n':Nat} (hn:n≤n') {fn:AFunc} {args:List AV} {m:Mem} {r:AV×Mem} (he:evFn O n fn args m=some r):evFn O' n' fn args m=some r:=by
 unfold evFn at he⊢
 split at he
 ·cases he
 ·cases he
 ·rename_i o σ hne hne2 h1
  rw[z3i h hn _ h1]
  cases o with
  |exit id=>exact absurd rfl (hne id)
  |goto l=>exact absurd rfl (hne2 l)
  |normal=>exact he
  |ret=>exact he
 ·cases he
theorem TZ {O O':Oracle} {Y Y':YH} (h:Le O O') (hy:YLe Y Y'):Le (withY O Y) (withY O' Y'):=by
 intro c a m r he
 unfold withY at he⊢
 cases c with
 |some f=>exact h _ _ _ _ he
 |none=>exact hy _ _ _ he
theorem z0p (tab:Nat→Option AFunc): ∀n,OraLe (callB tab n) (callB tab (n+1))
 |0=>⟨fun c a m r h=>by simp[callB] at h,fun Y Y' _ c a m r h=>by simp[callB] at h⟩
 |n+1=>by
  have ih:=z0p tab n
  refine⟨fun c a m r h=> ?_,fun Y Y' hy c a m r h=> ?_⟩
  ·rw[callB] at h⊢
   simp only at h⊢
   split at h
   ·split at h
    ·exact UQ ih (Nat.le_succ n) h
    ·cases h
   ·cases h
  ·rw[callB] at h⊢
   simp only at h⊢
   split at h
   ·split at h
    ·exact UQ (O:=⟨withY (callB tab n).call Y,(callB tab n).iter⟩) (O':=⟨withY (callB tab (n+1)).call Y',(callB tab (n+1)).iter⟩) ⟨TZ ih.call hy,ih.iter⟩ (Nat.le_succ n) h
    ·cases h
   ·cases h
theorem OraLe.trans {A B C:Ora} (h:OraLe A B) (k:OraLe B C):OraLe A C:=⟨fun c a m r q=>k.call _ _ _ _ (h.call _ _ _ _ q),fun Y Y' hy c a m r q=>k.iter _ _ (fun _ _ _ z=>z) _ _ _ _ (h.iter _ _ hy _ _ _ _ q)⟩
theorem z0q (tab:Nat→Option AFunc): ∀n,OraLe (callB tab n) (callB tab n)
 |0=>⟨Le.refl _,fun Y Y' _ c a m r h=>by simp[callB] at h⟩
 |n+1=>by
  have ih:=z0q tab n
  refine⟨Le.refl _,fun Y Y' hy c a m r h=> ?_⟩
  rw[callB] at h⊢
  simp only at h⊢
  split at h
  ·split at h
   ·exact UQ (O:=⟨withY (callB tab n).call Y,(callB tab n).iter⟩) (O':=⟨withY (callB tab n).call Y',(callB tab n).iter⟩) ⟨TZ ih.call hy,ih.iter⟩ (w0b n) h
   ·cases h
  ·cases h
theorem z0r (tab:Nat→Option AFunc) {n n':Nat} (h:n≤n'):OraLe (callB tab n) (callB tab n'):=by
 induction h with
 |refl=>exact z0q tab n
 |step _ ih=>exact ih.trans (z0p tab _)
theorem Wz (tab:Nat→Option AFunc) {n n':Nat} (h:n≤n'):Le (callN tab n) (callN tab n'):=(z0r tab h).call
noncomputable def lim {α:Type} (F:Nat→Option α):Option α:=open Classical in if h: ∃n r,F n=some r then F h.choose else none
theorem z38 {α:Type} {F:Nat→Option α} (hF: ∀n n' r,n≤n'→F n=some r→F n'=some r) {r:α}:lim F=some r↔ ∃n,F n=some r:=by
 unfold lim
 constructor
 ·intro h
  split at h
  ·exact⟨_,h⟩
  ·cases h
 ·rintro⟨n,hn⟩
  have hex: ∃n r,F n=some r:=⟨n,r,hn⟩
  rw[dif_pos hex]
  obtain⟨r',hr'⟩:=hex.choose_spec
  have h1:=hF _ (max hex.choose n) r' (Nat.le_max_left _ _) hr'
  have h2:=hF _ (max hex.choose n) r (Nat.le_max_right _ _) hn
  rw[h1] at h2
  rw[hr',h2]
noncomputable def CALLO (tab:Nat→Option AFunc):Oracle:=fun f args m=>lim fun n=>callN tab n f args m
noncomputable def CALL (tab:Nat→Option AFunc) (f:Nat) (args:List AV) (m:Mem):Option (AV×Mem):=CALLO tab (some f) args m
theorem z6B (tab:Nat→Option AFunc) (f:Nat) (args:List AV) (m:Mem):CALLO tab (some f) args m=CALL tab f args m:=rfl
noncomputable def EV (tab:Nat→Option AFunc) (c:ACode) (σ:St):Option (Out×St):=lim fun n=>ev (callB tab n) n c σ
section
variable {tab : Nat → Option AFunc}
theorem V3 {f:Option Nat} {args:List AV} {m:Mem} {r:AV×Mem}:CALLO tab f args m=some r↔ ∃n,callN tab n f args m=some r:=
 z38 fun _ _ _ h h1=>Wz tab h _ _ _ _ h1
theorem Ur {f:Nat} {args:List AV} {m:Mem} {r:AV×Mem}:CALL tab f args m=some r↔ ∃n,callN tab n (some f) args m=some r:=V3
theorem yM {c:ACode} {σ:St} {r:Out×St}:EV tab c σ=some r↔ ∃n,ev (callB tab n) n c σ=some r:=
 z38 fun _ _ _ h h1=>z3i (z0r tab h) h c h1
theorem z0o (n:Nat):Le (callN tab n) (CALLO tab):=fun _ _ _ _ h=>V3.2 ⟨n,h⟩
theorem z9Z {ρ:List AV} {m:Mem} {op:AOp} {r:AV×Mem} (h:evOp (CALLO tab) ρ m op=some r): ∃n,evOp (callN tab n) ρ m op=some r:=by
 cases op<;>try exact⟨0,h⟩
 rename_i f args
 simp only[evOp,evCall] at h⊢
 split at h
 ·exact V3.1 h
 ·exact V3.1 h
 ·cases h
theorem z0d {o:AOper} {σ σ':St} (h:evOper (CALLO tab) o σ=some σ'): ∃n,evOper (callN tab n) o σ=some σ':=by
 unfold evOper at h⊢
 split at h
 ·simp only[w00] at h⊢
  obtain⟨r,h1,h2⟩:=h
  obtain⟨n,hn⟩:=z9Z h1
  exact⟨n,r,hn,h2⟩
 ·exact⟨0,h⟩
 ·cases h
theorem z1Z: ∀{l:List AOper} {σ σ':St},evOps (CALLO tab) l σ=some σ'→ ∃n,evOps (callN tab n) l σ=some σ'
 | [],σ,σ',h=>⟨0,h⟩
 |o::l,σ,σ',h=>by
  simp only[evOps,w04] at h⊢
  obtain⟨σ1,h1,h2⟩:=h
  obtain⟨n,hn⟩:=z0d h1
  obtain⟨k,hk⟩:=z1Z h2
  exact⟨max n k,σ1,tK (Wz tab (Nat.le_max_left _ _)) hn,jK (Wz tab (Nat.le_max_right _ _)) hk⟩
theorem z0f {m0:Mem}: ∀{l:List AOper} {ws:Watch} {σ σ':St},evDraw (CALLO tab) m0 ws l σ=some σ'→ ∃n,evDraw (callN tab n) m0 ws l σ=some σ'
 | [],ws,σ,σ',h=>⟨0,h⟩
 |o::l,ws,σ,σ',h=>by
  have key: ∀{ws:Watch} {τ q q':St},evOper (CALLO tab) o τ=some q→evDraw (CALLO tab) m0 ws l q'=some σ'→ ∃n,evOper (callN tab n) o τ=some q∧evDraw (callN tab n) m0 ws l q'=some σ':=by
   intro ws τ q q' h1 h2
   obtain⟨n,hn⟩:=z0d h1
   obtain⟨k,hk⟩:=z0f h2
   exact⟨max n k,tK (Wz tab (Nat.le_max_left _ _)) hn,uo (Wz tab (Nat.le_max_right _ _)) hk⟩
  simp only[evDraw] at h⊢
  split at h
  ·split at h
   ·rename_i q hq
    obtain⟨n,a,b⟩:=key hq h
    exact⟨n,by rw[a];exact b⟩
   ·cases h
  ·split at h
   ·split at h
    ·split at h
     ·rename_i q hq
      obtain⟨n,a,b⟩:=key hq h
      exact⟨n,by rw[a];exact b⟩
     ·cases h
    ·cases h
   ·split at h
    ·rename_i q hq
     obtain⟨n,a,b⟩:=key hq h
     exact⟨n,by rw[a];exact b⟩
    ·cases h
theorem kp {α:Type} {a b:Option α} (h: ∀r,a=some r↔b=some r):a=b:=by
 cases a with
 |none=>
  cases b with
  |none=>rfl
  |some y=>have:=(h y).2 rfl;cases this
 |some x=>exact((h x).1 rfl).symm
theorem zc2 (σ:St):EV tab .skip σ=some (.normal,σ):=yM.2 ⟨0,rfl⟩
theorem zd3 (σ:St):EV tab .ret σ=some (.ret,σ):=yM.2 ⟨0,rfl⟩
theorem zc4 (id:Nat) (σ:St):EV tab (.exit id) σ=some (.exit id,σ):=yM.2 ⟨0,rfl⟩
theorem zd5 (ts:List Nat) (σ:St):EV tab (.frz ts) σ=(frzT ts σ).map fun σ'=>(.normal,σ'):=by
 refine kp fun r=> ?_
 rw[yM]
 exact⟨fun⟨_,h⟩=>h,fun h=>⟨0,h⟩⟩
theorem zd4 (l:List AOper) (σ:St):EV tab (.ops l) σ=(evOps (CALLO tab) l σ).map fun σ'=>(.normal,σ'):=by
 refine kp fun r=> ?_
 rw[yM]
 simp only[ev,w00]
 constructor
 ·rintro⟨n,σ1,h1,h2⟩;exact⟨σ1,jK (z0o n) h1,h2⟩
 ·rintro⟨σ1,h1,h2⟩;obtain⟨n,hn⟩:=z1Z h1;exact⟨n,σ1,hn,h2⟩
theorem zc5 (l:List AOper) (σ:St):EV tab (.draw l) σ=(evDraw (CALLO tab) σ.m [] l ⟨σ.ρ,{σ.m with floor:=max σ.m.floor (σ.m.stk.length+1)}⟩).map fun σ'=>(.normal,⟨σ'.ρ,{σ'.m with floor:=σ.m.floor}⟩):=by
 refine kp fun r=> ?_
 rw[yM]
 simp only[ev,w00]
 constructor
 ·rintro⟨n,σ1,h1,h2⟩;exact⟨σ1,uo (z0o n) h1,h2⟩
 ·rintro⟨σ1,h1,h2⟩;obtain⟨n,hn⟩:=z0f h1;exact⟨n,σ1,hn,h2⟩
theorem z1Y {n n':Nat} (h:n≤n') {c:ACode} {σ:St} {r:Out×St} (he:ev (callB tab n) n c σ=some r):ev (callB tab n') n' c σ=some r:=z3i (z0r tab h) h c he
theorem zd2 (a b:ACode) (σ:St):EV tab (.seq a b) σ=match EV tab a σ with|some (.normal,σ')=>EV tab b σ'|r=>r:=by
 refine kp fun r=> ?_
 rw[yM]
 constructor
 ·rintro⟨n,h⟩
  simp only[ev] at h
  split at h
  ·rename_i σ1 h1
   rw[yM.2 ⟨n,h1⟩]
   exact yM.2 ⟨n,h⟩
  ·rename_i hne
   rw[yM.2 ⟨n,h⟩]
   split
   ·rename_i σ1 h1;injection h1 with h1;rw[h1] at h;exact absurd h (hne σ1)
   ·rfl
 ·intro h
  split at h
  ·rename_i σ1 h1
   obtain⟨n,hn⟩:=yM.1 h1
   obtain⟨k,hk⟩:=yM.1 h
   refine⟨max n k,?_⟩
   simp only[ev]
   rw[z1Y (Nat.le_max_left n k) hn]
   exact z1Y (Nat.le_max_right n k) hk
  ·rename_i hne
   obtain⟨n,hn⟩:=yM.1 h
   refine⟨n,?_⟩
   simp only[ev]
   rw[hn]
   split
   ·rename_i σ1 h1;injection h1 with h1;rw[h1] at h;exact absurd h (hne σ1)
   ·rfl
theorem z7d (c:Opd) (a b:ACode) (σ:St):EV tab (.cond c a b) σ=match c.ev σ.ρ with| .bool t=>if t then EV tab a σ else EV tab b σ|_=>none:=by
 refine kp fun r=> ?_
 rw[yM]
 simp only[ev]
 cases hv:c.ev σ.ρ with
 |bool t=>
  cases t with
  |true=>simp only[if_true];exact yM.symm
  |false=>simp only[w1f,if_false];exact yM.symm
 |_=>simp
theorem zau (id:Nat) (a:ACode) (σ:St):EV tab (.block id a) σ=match EV tab a σ with|some (.exit i,σ')=>if i=id then some (.normal,σ') else some (.exit i,σ')|r=>r:=by
 refine kp fun r=> ?_
 rw[yM]
 constructor
 ·rintro⟨n,h⟩
  simp only[ev] at h
  split at h
  ·rename_i i σ1 h1
   rw[yM.2 ⟨n,h1⟩]
   exact h
  ·rename_i hne
   rw[yM.2 ⟨n,h⟩]
   split
   ·rename_i i σ1 h1;injection h1 with h1;rw[h1] at h;exact absurd h (hne i σ1)
   ·rfl
 ·intro h
  split at h
  ·rename_i i σ1 h1
   obtain⟨n,hn⟩:=yM.1 h1
   refine⟨n,?_⟩
   simp only[ev]
   rw[hn];exact h
  ·rename_i hne
   obtain⟨n,hn⟩:=yM.1 h
   refine⟨n,?_⟩
   simp only[ev]
   rw[hn]
   split
   ·rename_i i σ1 h1;injection h1 with h1;rw[h1] at h;exact absurd h (hne i σ1)
   ·rfl
noncomputable def LOOP (tab:Nat→Option AFunc) (live:List Nat) (nb:Nat) (a:ACode) (σ:St):Option (Out×St):=lim fun n=>iter (ev (callB tab n) n a) (heads live nb) n σ
theorem z0B {live:List Nat} {nb:Nat} {a:ACode} {σ:St} {r:Out×St}:LOOP tab live nb a σ=some r↔ ∃n,iter (ev (callB tab n) n a) (heads live nb) n σ=some r:=
 z38 (F:=fun n=>iter (ev (callB tab n) n a) (heads live nb) n σ) fun _ _ _ h h1=>ZB (fun _ _ h2=>z1Y h h2) h h1
theorem zc3 (live:List Nat) (a:ACode) (σ:St):EV tab (.loop live a) σ=LOOP tab live σ.m.cur.length a σ:=rfl
theorem zc0 (live:List Nat) (nb:Nat) (a:ACode) (σ:St):LOOP tab live nb a σ=match EV tab a (heads live nb σ) with|some (.normal,σ')=>LOOP tab live nb a σ'|r=>r:=by
 refine kp fun r=> ?_
 rw[z0B]
 constructor
 ·rintro⟨n,h⟩
  cases n with
  |zero=>simp[iter] at h
  |succ n=>
   simp only[iter] at h
   split at h
   ·rename_i σ1 h1
    rw[yM.2 ⟨n+1,h1⟩]
    refine z0B.2 ⟨n+1,?_⟩
    exact ZB (fun _ _ h=>h) (Nat.le_succ n) h
   ·rename_i hne
    rw[yM.2 ⟨n+1,h⟩]
    split
    ·rename_i σ1 h1;injection h1 with h1;rw[h1] at h;exact absurd h (hne σ1)
    ·rfl
 ·intro h
  split at h
  ·rename_i σ1 h1
   obtain⟨n,hn⟩:=yM.1 h1
   obtain⟨k,hk⟩:=z0B.1 h
   refine⟨max n k+1,?_⟩
   simp only[iter]
   rw[z1Y (n':=max n k+1) (by have:=Nat.le_max_left n k;omega) hn]
   exact ZB (fun _ _ h2=>z1Y (by have:=Nat.le_max_right n k;omega) h2) (Nat.le_max_right n k) hk
  ·rename_i hne
   obtain⟨n,hn⟩:=yM.1 h
   refine⟨n+1,?_⟩
   simp only[iter]
   rw[z1Y (n':=n+1) (Nat.le_succ n) hn]
   split
   ·rename_i σ1 h1;injection h1 with h1;rw[h1] at h;exact absurd h (hne σ1)
   ·rfl
theorem zc7 {f:Nat} {fn:AFunc} (h:tab f=some fn) (args:List AV) (m:Mem):CALL tab f args m=match EV tab fn.body ⟨args++List.replicate (fn.ntmps-args.length) (.tup []),enter m⟩ with
  |some (.exit _,_)=>none
  |some (.goto _,_)=>none
  |some (_,σ)=>(evRess σ fn.res).bind fun vs=>leave m σ.m (packRes vs)
  |none=>none:=by
 refine kp fun r=> ?_
 rw[Ur]
 constructor
 ·rintro⟨n,hn⟩
  cases n with
  |zero=>simp[callN,callB] at hn
  |succ n=>
   simp only[callN,callB,h,evFn] at hn
   split at hn
   ·cases hn
   ·cases hn
   ·rename_i o σ hne hne2 h1
    rw[yM.2 ⟨n,h1⟩]
    cases o with
    |exit id=>exact absurd rfl (hne id)
    |goto l=>exact absurd rfl (hne2 l)
    |normal=>exact hn
    |ret=>exact hn
   ·cases hn
 ·intro hr
  split at hr
  ·cases hr
  ·cases hr
  ·rename_i o σ hne hne2 h1
   obtain⟨n,hn⟩:=yM.1 h1
   refine⟨n+1,?_⟩
   simp only[callN,callB,h,evFn]
   rw[hn]
   cases o with
   |exit id=>exact absurd rfl (hne id)
   |goto l=>exact absurd rfl (hne2 l)
   |normal=>exact hr
   |ret=>exact hr
  ·cases hr
theorem zc6 {P:Program} (hM:P.follows .mixedOrders=true) (hT:TabOk P tab) {C:Ctx} {f:Nat} {args:List AV} {m m':Mem} {r:AV} (h:CALL tab f args m=some (r,m')) (hf:m.floor≤m.stk.length+1):CallOk P C f args m r m':=by
 obtain⟨n,hn⟩:=Ur.1 h
 exact z50 hM hT n C (some f) args m r m' hn hf
end
def Opt {α:Type} (o:Option α) (Q:α→Prop):Prop:= ∃x,o=some x∧Q x
theorem z8 {α:Type} (x:α) (Q:α→Prop):Opt (some x) Q=Q x:=by
 apply propext;constructor
 ·rintro⟨y,h,hq⟩;injection h with h;rw[h];exact hq
 ·exact fun h=>⟨x,rfl,h⟩
theorem zaq {α:Type} (Q:α→Prop):Opt none Q=False:=by
 apply propext;constructor
 ·rintro⟨y,h,_⟩;cases h
 ·exact False.elim
theorem Opt.mono {α:Type} {o:Option α} {Q R:α→Prop} (h:Opt o Q) (k: ∀x,Q x→R x):Opt o R:=let ⟨x,h1,h2⟩:=h;⟨x,h1,k x h2⟩
theorem Up {α β:Type} (o:Option α) (f:α→β) (Q:β→Prop):Opt (o.map f) Q=Opt o (fun x=>Q (f x)):=by cases o<;>simp[Opt]
theorem z0A {α β:Type} (o:Option α) (f:α→Option β) (Q:β→Prop):Opt (o.bind f) Q=Opt o (fun x=>Opt (f x) Q):=by cases o<;>simp[Opt]
section
variable (tab : Nat → Option AFunc)
def Run (c:ACode) (σ:St) (Q:Out→St→Prop):Prop:=Opt (EV tab c σ) (fun r=>Q r.1 r.2)
def RunL (live:List Nat) (nb:Nat) (a:ACode) (σ:St) (Q:Out→St→Prop):Prop:=Opt (LOOP tab live nb a σ) (fun r=>Q r.1 r.2)
def RunOps (l:List AOper) (σ:St) (Q:St→Prop):Prop:=Opt (evOps (CALLO tab) l σ) Q
def Step (o:AOper) (σ:St) (Q:St→Prop):Prop:=Opt (evOper (CALLO tab) o σ) Q
def Out.ends:Out→Prop
 | .normal| .ret=>True
 |_=>False
def onNormal (Q:Out→St→Prop) (R:St→Prop):Out→St→Prop
 | .normal,σ=>R σ
 |o,σ=>Q o σ
def onExit (id:Nat) (Q:Out→St→Prop):Out→St→Prop
 | .exit i,σ=>if i=id then Q .normal σ else Q (.exit i) σ
 |o,σ=>Q o σ
theorem zam (σ:St) (Q:Out→St→Prop):Run tab .skip σ Q=Q .normal σ:=by unfold Run;rw[zc2,z8]
theorem zbX (σ:St) (Q:Out→St→Prop):Run tab .ret σ Q=Q .ret σ:=by unfold Run;rw[zd3,z8]
theorem zao (i:Nat) (σ:St) (Q:Out→St→Prop):Run tab (.exit i) σ Q=Q (.exit i) σ:=by unfold Run;rw[zc4,z8]
theorem zbY (l:List AOper) (σ:St) (Q:Out→St→Prop):Run tab (.ops l) σ Q=RunOps tab l σ (Q .normal):=by unfold Run RunOps;rw[zd4,Up]
theorem zbZ (ts:List Nat) (σ:St) (Q:Out→St→Prop):Run tab (.frz ts) σ Q=Opt (frzT ts σ) (Q .normal):=by unfold Run;rw[zd5,Up]
theorem zbW (a b:ACode) (σ:St) (Q:Out→St→Prop):Run tab (.seq a b) σ Q=Run tab a σ (onNormal Q fun σ'=>Run tab b σ' Q):=by
 unfold Run;rw[zd2]
 cases EV tab a σ with
 |none=>simp[Opt]
 |some r=>obtain⟨o,σ'⟩:=r;cases o<;>simp[Opt,onNormal]
theorem zap (c:Opd) (a b:ACode) (σ:St) (Q:Out→St→Prop) (t:Bool) (h:c.ev σ.ρ= .bool t):Run tab (.cond c a b) σ Q=if t=true then Run tab a σ Q else Run tab b σ Q:=by
 unfold Run;rw[z7d,h];cases t<;>rfl
theorem z8w (id:Nat) (a:ACode) (σ:St) (Q:Out→St→Prop):Run tab (.block id a) σ Q=Run tab a σ (onExit id Q):=by
 unfold Run;rw[zau]
 cases EV tab a σ with
 |none=>simp[Opt]
 |some r=>
  obtain⟨o,σ'⟩:=r
  cases o with
  |exit i=>simp only[z8,onExit];split<;>rw[z8]
  |normal=>simp[Opt,onExit]
  |ret=>simp[Opt,onExit]
  |goto l=>simp[Opt,onExit]
theorem zan (live:List Nat) (a:ACode) (σ:St) (Q:Out→St→Prop):Run tab (.loop live a) σ Q=RunL tab live σ.m.cur.length a σ Q:=by unfold Run RunL;rw[zc3]
theorem z3w (live:List Nat) (nb:Nat) (a:ACode) (σ:St) (Q:Out→St→Prop):RunL tab live nb a σ Q=Run tab a (heads live nb σ) (onNormal Q fun σ'=>RunL tab live nb a σ' Q):=by
 unfold RunL Run;rw[zc0]
 cases EV tab a (heads live nb σ) with
 |none=>simp[Opt]
 |some r=>obtain⟨o,σ'⟩:=r;cases o<;>simp[Opt,onNormal]
theorem z6A (σ:St) (Q:St→Prop):RunOps tab [] σ Q=Q σ:=by unfold RunOps;simp[evOps,Opt]
theorem Tw (o:AOper) (l:List AOper) (σ:St) (Q:St→Prop):RunOps tab (o::l) σ Q=Step tab o σ (fun σ'=>RunOps tab l σ' Q):=by
 unfold RunOps Step;rw[evOps,z0A]
theorem z6y (d:Option Nat) (op:AOp) (f:Bool) (σ:St) (Q:St→Prop):Step tab ⟨d,op,none,f⟩ σ Q=Opt (evOp (CALLO tab) σ.ρ σ.m op) (fun r=>Q ⟨setDst σ.ρ d r.1,r.2⟩):=by
 unfold Step evOper;simp only[wanted];rw[Up]
theorem z6z (d:Option Nat) (op:AOp) (g:Nat) (w f t:Bool) (σ:St) (Q:St→Prop) (h:σ.ρ.getD g .undef= .bool t):
  Step tab ⟨d,op,some (g,w),f⟩ σ Q=if t=w then Opt (evOp (CALLO tab) σ.ρ σ.m op) (fun r=>Q ⟨setDst σ.ρ d r.1,r.2⟩) else Q ⟨setDst σ.ρ d (.tup []),σ.m⟩:=by
 unfold Step evOper;simp only[wanted,h]
 cases t<;>cases w<;>simp[Up,z8]
theorem z6x (d:Option Nat) (op:AOp) (g:Nat) (w f:Bool) (σ:St) (Q:St→Prop) (h:σ.ρ.getD g .undef= .tup []):
  Step tab ⟨d,op,some (g,w),f⟩ σ Q=Q ⟨setDst σ.ρ d (.tup []),σ.m⟩:=by
 unfold Step evOper;simp only[wanted,h];simp[Opt]
theorem zar {f:Nat} {fn:AFunc} (h:tab f=some fn) (args:List AV) (m:Mem) (Q:AV×Mem→Prop):
  Opt (CALL tab f args m) Q=Run tab fn.body ⟨args++List.replicate (fn.ntmps-args.length) (.tup []),enter m⟩ (fun o σ=>o.ends∧Opt (evRess σ fn.res) fun vs=>Opt (leave m σ.m (packRes vs)) Q):=by
 unfold Run;rw[zc7 h]
 cases EV tab fn.body _ with
 |none=>simp[Opt]
 |some r=>
  obtain⟨o,σ⟩:=r
  cases o with
  |exit i=>simp[Opt,Out.ends]
  |goto l=>simp[Opt,Out.ends]
  |normal=>simp only[z8];rw[z0A];simp[Out.ends]
  |ret=>simp only[z8];rw[z0A];simp[Out.ends]
end
section
variable {tab : Nat → Option AFunc}
theorem z8x {live:List Nat} {nb:Nat} {a:ACode} {σ:St} {Q:Out→St→Prop} {α:Type} (I:α→St→Prop) (r:α→Nat) (x0:α) (h0:I x0 σ)
  (h: ∀x σ,I x σ→Run tab a (heads live nb σ) (onNormal Q fun σ'=> ∃y,r y<r x∧I y σ')):RunL tab live nb a σ Q:=by
 have key: ∀n x σ,r x≤n→I x σ→RunL tab live nb a σ Q:=by
  intro n
  induction n with
  |zero=>
   intro x σ hx hI
   rw[z3w]
   obtain⟨⟨o,σ'⟩,h1,h2⟩:=h x σ hI
   refine⟨⟨o,σ'⟩,h1,?_⟩
   cases o with
   |normal=>obtain⟨y,hy,_⟩:=h2;omega
   |exit i=>exact h2
   |goto i=>exact h2
   |ret=>exact h2
  |succ n ih=>
   intro x σ hx hI
   rw[z3w]
   obtain⟨⟨o,σ'⟩,h1,h2⟩:=h x σ hI
   refine⟨⟨o,σ'⟩,h1,?_⟩
   cases o with
   |normal=>obtain⟨y,hy,hI'⟩:=h2;exact ih y σ' (by omega) hI'
   |exit i=>exact h2
   |goto i=>exact h2
   |ret=>exact h2
 exact key _ x0 σ (w0b _) h0
end
def Mem.bump (m:Mem) (k:Nat):Mem:={m with nx:=k}
def look:List (Nat×AV)→Nat→AV→AV
 | [],_,df=>df
 |(i,v)::r,j,df=>if i=j then v else look r j df
def mk (n:Nat) (df:AV) (l:List (Nat×AV)):List AV:=(List.range n).map fun j=>look l j df
def tmps (n:Nat) (l:List (Nat×AV)):List AV:=mk n .undef l
theorem z9m (j:Nat) (df:AV):look [] j df=df:=rfl
theorem z7G (i:Nat) (v:AV) (r:List (Nat×AV)) (j:Nat) (df:AV):look ((i,v)::r) j df=if i=j then v else look r j df:=rfl
theorem zcs (n:Nat) (df:AV) (l:List (Nat×AV)) (d:Nat) (v:AV):(mk n df l).set d v=mk n df ((d,v)::l):=by
 apply w2b
 intro j
 rw[w2c]
 simp only[mk,w4e,List.length_range,w17,List.getElem?_range']
 by_cases hj:j<n
 ·rw[w3c hj]
  by_cases hd:d=j
  ·subst hd;simp[look,hj]
  ·simp[look,hd]
 ·rw[w16 (by simp;omega)]
  by_cases hd:d=j
  ·subst hd;simp[hj]
  ·simp[hd]
theorem z7t (n:Nat) (df:AV) (l:List (Nat×AV)) (d:Nat) (v:AV):setDst (mk n df l) (some d) v=mk n df ((d,v)::l):=zcs n df l d v
theorem z40 (ρ:List AV) (v:AV):setDst ρ none v=ρ:=rfl
theorem zbB (n:Nat) (df:AV) (l:List (Nat×AV)) (j:Nat) (x:AV):(mk n df l).getD j x=if j<n then look l j df else x:=by
 rw[w02]
 simp only[mk,w17]
 by_cases hj:j<n
 ·rw[w3c hj,if_pos hj];rfl
 ·rw[w16 (by simp;omega),if_neg hj];rfl
theorem z7F (live:List Nat) (l:List (Nat×AV)) (df:AV) (j:Nat):look (live.map fun i=>(i,look l i df)) j .undef=if live.contains j then look l j df else .undef:=by
 induction live with
 |nil=>rfl
 |cons i r ih=>
  simp only[w32,look,ih,List.contains_cons]
  by_cases h:i=j
  ·subst h;simp
  ·simp only[h,if_false]
   have:(j==i)=false:=by simp;exact fun e=>h e.symm
   rw[this,Bool.false_or]
theorem za6 (live:List Nat) (n:Nat) (df:AV) (l:List (Nat×AV)):clean live (mk n df l)=mk n .undef (live.map fun i=>(i,look l i df)):=by
 apply w2b
 intro j
 unfold clean
 rw[w17,List.getElem?_zipIdx]
 simp only[mk,w17]
 by_cases hj:j<n
 ·rw[w3c hj]
  simp only[w0d,w39,z7F]
 ·rw[w16 (by simp;omega)];rfl
def numb:Nat→List AV→List (Nat×AV)
 |_,[]=>[]
 |i,a::r=>(i,a)::numb (i+1) r
theorem z1M: ∀(args:List AV) (i j:Nat) (df:AV),look (numb i args) j df=if i≤j then args.getD (j-i) df else df
 | [],i,j,df=>by simp[numb,look]
 |a::r,i,j,df=>by
  simp only[numb,look,z1M r]
  by_cases h:i=j
  ·subst h;simp
  ·by_cases h2:i≤j
   ·have:i+1≤j:=by omega
    simp only[h,h2,this,if_true,if_false]
    rw[show j-i=(j-(i+1))+1 by omega,List.getD_cons_succ]
   ·have: ¬i+1≤j:=by omega
    simp[h,h2,this]
theorem zbx (n:Nat) (args:List AV) (h:args.length≤n):args++List.replicate (n-args.length) (.tup [])=mk n (.tup []) (numb 0 args):=by
 apply w2b
 intro j
 simp only[mk,w17,z1M,w0c,if_true,Nat.sub_zero]
 by_cases hj:j<n
 ·rw[w3c hj,w0d]
  by_cases ha:j<args.length
  ·rw[w09 ha,w02,w10 ha];rfl
  ·rw[w14 (by omega),w38,if_pos (by omega),w02,w16 (by omega)];rfl
 ·rw[w16 (by simp;omega),w16 (by simp;omega)];rfl
theorem z7D (i:Nat) (a:AV) (r:List AV):numb i (a::r)=(i,a)::numb (i+1) r:=rfl
theorem z9g (i:Nat):numb i []=[]:=rfl
theorem zaM (n:Nat) (l:List (Nat×AV)):tmps n l=mk n .undef l:=rfl
theorem z8l (cs:List AV):(AV.agg cs).cells=cs:=rfl
theorem z6l (b:Bool):(AV.bool b).cells=[.bool b]:=rfl
theorem z8j (k:IntKind) (n:Int):(AV.int k n).cells=[.int k n]:=rfl
theorem z8h (s:List UInt8):(AV.str s).cells=[.str s]:=rfl
theorem z6i:AV.nils.cells=[.nils]:=rfl
theorem z6k (s:Nat) (tk:Tok) (xs:List AV):(AV.list s tk xs).cells=[.list s tk xs]:=rfl
theorem z8k (l k st off len:Nat):(AV.arr l k st off len).cells=[.arr l k st off len]:=rfl
theorem z6j (l k st:Nat):(AV.mapR l k st).cells=[.mapR l k st]:=rfl
theorem z9b (l k st:Nat):(AV.mapR l k st).one=true:=rfl
theorem z8i (l k st off:Nat):(AV.ptr l k st off).cells=[.ptr l k st off]:=rfl
theorem za7 (cs:List AV):(AV.ro cs).cells=[.ro cs]:=rfl
theorem z3o:AV.nilptr.cells=[.nilptr]:=rfl
theorem za8 (f:Fn) (a b:List AV):(AV.fn f a b).cells=[.fn f a b]:=rfl
theorem z4Y:AV.nilfn.cells=[.nilfn]:=rfl
theorem z9d (b:Bool):(AV.bool b).one=true:=rfl
theorem zb3 (k:IntKind) (n:Int):(AV.int k n).one=true:=rfl
theorem zb1 (s:List UInt8):(AV.str s).one=true:=rfl
theorem z9a:AV.nils.one=true:=rfl
theorem z9c (s:Nat) (tk:Tok) (xs:List AV):(AV.list s tk xs).one=true:=rfl
theorem zb4 (l k st off len:Nat):(AV.arr l k st off len).one=true:=rfl
theorem zb2 (l k st off:Nat):(AV.ptr l k st off).one=true:=rfl
theorem zcz (cs:List AV):(AV.ro cs).one=true:=rfl
theorem z5F:AV.nilptr.one=true:=rfl
theorem zcA (f:Fn) (a b:List AV):(AV.fn f a b).one=true:=rfl
theorem z7B:AV.nilfn.one=true:=rfl
theorem Qa (c:AV) (r:List AV):takeV false 1 (c::r)=some c:=by simp[takeV]
theorem zaN (n:Nat) (cs:List AV) (h:n≤cs.length):takeV true n cs=some (.agg (cs.take n)):=by simp[takeV,h]
theorem z7W (n:Nat) (a x:Opd):(AOp.store n a x).isStore=true:=rfl
theorem zbs (e:XOp):(AOp.ext e).isStore=e.isPut:=rfl
theorem zbp (x:Opd):(AOp.mov x).isStore=false:=rfl
theorem z9F (c a b:Opd):(AOp.pick c a b).isStore=false:=rfl
theorem z83 (z:List AV):(AOp.alloc z).isStore=false:=rfl
theorem zbt (n:Nat) (x:Opd):(AOp.box n x).isStore=false:=rfl
theorem z82 (z:List AV) (ps:List (Nat×Nat×Opd)):(AOp.build z ps).isStore=false:=rfl
theorem zbq (s:Nat) (ps:List Opd):(AOp.lit s ps).isStore=false:=rfl
theorem z9I (g:Bool) (n:Nat) (a:Opd):(AOp.load g n a).isStore=false:=rfl
theorem zbu (o:BinOp) (x y:Opd):(AOp.bin o x y).isStore=false:=rfl
theorem zbv (g:Bool) (x y:Opd):(AOp.beq g x y).isStore=false:=rfl
theorem zcK (o:UnOp) (x:Opd):(AOp.un o x).isStore=false:=rfl
theorem z9K (k:IntKind) (x:Opd):(AOp.conv k x).isStore=false:=rfl
theorem z81 (x:Opd):(AOp.convS x).isStore=false:=rfl
theorem z7V (x:Opd):(AOp.toStr x).isStore=false:=rfl
theorem z4E (x:Opd):(AOp.toBytes x).isStore=false:=rfl
theorem z9G (f:Fn) (a b:List Opd):(AOp.mkfn f a b).isStore=false:=rfl
theorem z80 (n:Nat) (a:Opd):(AOp.faddr n a).isStore=false:=rfl
theorem z7Z (g:Bool) (n o:Nat) (x:Opd):(AOp.field g n o x).isStore=false:=rfl
theorem z7Y (s:Nat) (x i:Opd):(AOp.iaddr s x i).isStore=false:=rfl
theorem z64 (n s:Nat) (x i:Opd):(AOp.iaddrA n s x i).isStore=false:=rfl
theorem z62 (x i:Opd):(AOp.indexS x i).isStore=false:=rfl
theorem z63 (n s:Nat) (g:Bool) (x i:Opd):(AOp.indexA n s g x i).isStore=false:=rfl
theorem zbr (x:Opd):(AOp.len x).isStore=false:=rfl
theorem z9J (x:Opd):(AOp.lenS x).isStore=false:=rfl
theorem zbw (s b:Nat) (x y:Opd):(AOp.app s b x y).isStore=false:=rfl
theorem zcL (x y:Opd):(AOp.mx x y).isStore=false:=rfl
theorem zcM (x y:Opd):(AOp.mn x y).isStore=false:=rfl
theorem z7X (s:Nat) (x:Opd) (lo hi t:Option Opd):(AOp.slice s x lo hi t).isStore=false:=rfl
theorem z61 (n s:Nat) (x:Opd) (lo hi:Option Opd):(AOp.sliceA n s x lo hi).isStore=false:=rfl
theorem z60 (x:Opd) (lo hi:Option Opd):(AOp.sliceS x lo hi).isStore=false:=rfl
theorem z9H (s b:Nat) (z:List AV) (n c:Opd):(AOp.make s b z n c).isStore=false:=rfl
theorem z4F (x:Opd) (i:Nat):(AOp.extract x i).isStore=false:=rfl
theorem z9L (f:Opd) (a:List Opd):(AOp.call f a).isStore=false:=rfl
theorem z65 (t:Nat) (h:List Nat) (r:List (List Nat)):hasTok t ((t::h)::r)=true:=by simp[hasTok]
theorem z4U (t:Nat) (h:List Nat) (r:List (List Nat)):dropTok t ((t::h)::r)=h::r:=by simp[dropTok]
theorem z2O (l:List (List Nat)):pushToks [] l=l:=by cases l<;>rfl
theorem yx (ts h:List Nat) (r:List (List Nat)):pushToks ts (h::r)=(ts++h)::r:=by cases ts<;>rfl
inductive Kont where
 |fin (res:List ARes) (m0:Mem) (R:AV→Mem→Prop)
 |seq (b:ACode) (k:Kont)
 |block (id:Nat) (k:Kont)
 |again (J:St→Prop) (k:Kont)
def Kont.go (tab:Nat→Option AFunc):Kont→Out→St→Prop
 | .fin res m0 R=>fun o σ=>o.ends∧Opt (evRess σ res) fun vs=>Opt (leave m0 σ.m (packRes vs)) fun r=>R r.1 r.2
 | .seq b k=>onNormal (k.go tab) fun σ=>Run tab b σ (k.go tab)
 | .block id k=>onExit id (k.go tab)
 | .again J k=>onNormal (k.go tab) J
section
variable (tab : Nat → Option AFunc)
def X (c:ACode) (ρ:List AV) (m:Mem) (k:Kont):Prop:=Run tab c ⟨ρ,m⟩ (k.go tab)
def Xs (l:List AOper) (ρ:List AV) (m:Mem) (k:Kont):Prop:=RunOps tab l ⟨ρ,m⟩ (k.go tab .normal)
def XL (live:List Nat) (nb:Nat) (a:ACode) (ρ:List AV) (m:Mem) (k:Kont):Prop:=RunL tab live nb a ⟨ρ,m⟩ (k.go tab)
def Xv (r:Option (AV×Mem)) (d:Option Nat) (l:List AOper) (ρ:List AV) (k:Kont):Prop:=Opt r fun r=>Xs tab l (setDst ρ d r.1) r.2 k
def Xg (c:AV) (w:Bool) (d:Option Nat) (op:AOp) (l:List AOper) (ρ:List AV) (m:Mem) (k:Kont):Prop:=
 match c with
 | .bool t=>if t=w then Xv tab (evOp (CALLO tab) ρ m op) d l ρ k else Xs tab l (setDst ρ d (.tup [])) m k
 | .tup []=>Xs tab l (setDst ρ d (.tup [])) m k
 |_=>False
def Xc (c:AV) (a b:ACode) (ρ:List AV) (m:Mem) (k:Kont):Prop:=
 match c with
 | .bool t=>if t=true then X tab a ρ m k else X tab b ρ m k
 |_=>False
def Xo (k:Kont) (o:Out) (ρ:List AV) (m:Mem):Prop:=k.go tab o ⟨ρ,m⟩
def Xd (fl:Nat) (m0:Mem) (ws:Watch) (l:List AOper) (ρ:List AV) (m:Mem) (k:Kont):Prop:=Opt (evDraw (CALLO tab) m0 ws l ⟨ρ,m⟩) fun σ=>Xo tab k .normal σ.ρ {σ.m with floor:=fl}
def Xw (r:Option (AV×Mem)) (w:Nat) (fl:Nat) (m0:Mem) (ws:Watch) (d:Option Nat) (l:List AOper) (ρ:List AV) (m:Mem) (k:Kont):Prop:=
 Opt r fun r=>Xd tab fl m0 ws l (setDst ρ d r.1) (match w with|0=>m|1=>{r.2 with floor:=m.floor}|_=>r.2) k
def Xu (c:AV) (w:Bool) (d:Option Nat) (op:AOp) (f:Bool) (fl:Nat) (m0:Mem) (ws:Watch) (l:List AOper) (ρ:List AV) (m:Mem) (k:Kont):Prop:=
 match c with
 | .bool t=>if t=w then Xd tab fl m0 ws (⟨d,op,none,f⟩::l) ρ m k else Xd tab fl m0 ws l (setDst ρ d (.tup [])) m k
 | .tup []=>Xd tab fl m0 ws l (setDst ρ d (.tup [])) m k
 |_=>False
variable (ρ : List AV) (m : Mem) (k : Kont) (a b : ACode) (l : List AOper) (d : Option Nat) (op : AOp)
theorem zcX:X tab .skip ρ m k=Xo tab k .normal ρ m:=by unfold X;rw[zam];rfl
theorem zdg:X tab .ret ρ m k=Xo tab k .ret ρ m:=by unfold X;rw[zbX];rfl
theorem zcZ (i:Nat):X tab (.exit i) ρ m k=Xo tab k (.exit i) ρ m:=by unfold X;rw[zao];rfl
theorem zdh:X tab (.ops l) ρ m k=Xs tab l ρ m k:=by unfold X Xs;rw[zbY]
theorem zdi (ts:List Nat):X tab (.frz ts) ρ m k=Opt (frzT ts ⟨ρ,m⟩) fun σ=>Xo tab k .normal σ.ρ σ.m:=by unfold X;rw[zbZ];rfl
theorem zdf:X tab (.seq a b) ρ m k=X tab a ρ m (.seq b k):=by unfold X;rw[zbW];rfl
theorem zbV (id:Nat):X tab (.block id a) ρ m k=X tab a ρ m (.block id k):=by unfold X;rw[z8w];rfl
theorem zcY (live:List Nat):X tab (.loop live a) ρ m k=XL tab live m.cur.length a ρ m k:=by unfold X XL;rw[zan]
theorem zd1 (c:Opd):X tab (.cond c a b) ρ m k=Xc tab (c.ev ρ) a b ρ m k:=by
 unfold X Xc
 split
 ·rename_i t h;rw[zap tab c a b ⟨ρ,m⟩ _ t h];rfl
 ·rename_i hne
  unfold Run;rw[z7d]
  split
  ·rename_i t h;exact absurd h (hne t)
  ·simp[Opt]
theorem zbU:Xc tab (.bool true) a b ρ m k=X tab a ρ m k:=_root_.id rfl
theorem zal:Xc tab (.bool false) a b ρ m k=X tab b ρ m k:=_root_.id rfl
theorem zcR:Xs tab [] ρ m k=Xo tab k .normal ρ m:=by unfold Xs;rw[z6A];rfl
theorem zbR (f:Bool):Xs tab (⟨d,op,none,f⟩::l) ρ m k=Xv tab (evOp (CALLO tab) ρ m op) d l ρ k:=by unfold Xs;rw[Tw,z6y];rfl
theorem zag (g:Nat) (w f:Bool):Xs tab (⟨d,op,some (g,w),f⟩::l) ρ m k=Xg tab (ρ.getD g .undef) w d op l ρ m k:=by
 unfold Xs Xg;rw[Tw]
 split
 ·rename_i t h
  rw[z6z tab d op g w f t ⟨ρ,m⟩ _ h];rfl
 ·rename_i h
  rw[z6x tab d op g w f ⟨ρ,m⟩ _ h];rfl
 ·rename_i h1 h2
  unfold Step evOper
  simp only[wanted]
  rw[zaq]
theorem zcd:Xg tab (.bool true) true d op l ρ m k=Xv tab (evOp (CALLO tab) ρ m op) d l ρ k:=_root_.id rfl
theorem zcg:Xg tab (.bool false) false d op l ρ m k=Xv tab (evOp (CALLO tab) ρ m op) d l ρ k:=_root_.id rfl
theorem zce:Xg tab (.bool true) false d op l ρ m k=Xs tab l (setDst ρ d (.tup [])) m k:=by simp[Xg]
theorem zcf:Xg tab (.bool false) true d op l ρ m k=Xs tab l (setDst ρ d (.tup [])) m k:=by simp[Xg]
theorem zde (w:Bool):Xg tab (.tup []) w d op l ρ m k=Xs tab l (setDst ρ d (.tup [])) m k:=_root_.id rfl
theorem uU (v:AV):Xv tab (some (v,m)) d l ρ k=Xs tab l (setDst ρ d v) m k:=by unfold Xv;rw[z8]
theorem zcS (b:ACode):Xo tab (.seq b k) .normal ρ m=X tab b ρ m k:=_root_.id rfl
theorem z6w (b:ACode):Xo tab (.seq b k) .ret ρ m=Xo tab k .ret ρ m:=_root_.id rfl
theorem z56 (b:ACode) (i:Nat):Xo tab (.seq b k) (.exit i) ρ m=Xo tab k (.exit i) ρ m:=_root_.id rfl
theorem zah (id:Nat):Xo tab (.block id k) .normal ρ m=Xo tab k .normal ρ m:=_root_.id rfl
theorem z3u (id:Nat):Xo tab (.block id k) .ret ρ m=Xo tab k .ret ρ m:=_root_.id rfl
theorem z1o (id i:Nat):Xo tab (.block id k) (.exit i) ρ m=if i=id then Xo tab k .normal ρ m else Xo tab k (.exit i) ρ m:=_root_.id rfl
theorem zai (J:St→Prop):Xo tab (.again J k) .normal ρ m=J ⟨ρ,m⟩:=_root_.id rfl
theorem z3v (J:St→Prop):Xo tab (.again J k) .ret ρ m=Xo tab k .ret ρ m:=_root_.id rfl
theorem z1p (J:St→Prop) (i:Nat):Xo tab (.again J k) (.exit i) ρ m=Xo tab k (.exit i) ρ m:=_root_.id rfl
theorem zcT (res:List ARes) (m0:Mem) (R:AV→Mem→Prop):Xo tab (.fin res m0 R) .ret ρ m=Opt (evRess ⟨ρ,m⟩ res) fun vs=>Opt (leave m0 m (packRes vs)) fun r=>R r.1 r.2:=by
 unfold Xo Kont.go;simp[Out.ends]
theorem zcU (res:List ARes) (m0:Mem) (R:AV→Mem→Prop):Xo tab (.fin res m0 R) .normal ρ m=Opt (evRess ⟨ρ,m⟩ res) fun vs=>Opt (leave m0 m (packRes vs)) fun r=>R r.1 r.2:=by
 unfold Xo Kont.go;simp[Out.ends]
variable (ws : Watch)
theorem zd0:X tab (.draw l) ρ m k=Xd tab m.floor m [] l ρ {m with floor:=max m.floor (m.stk.length+1)} k:=by
 unfold X Xd Run;rw[zc5,Up];rfl
theorem zcV (fl:Nat) (m0:Mem):Xd tab fl m0 ws [] ρ m k=Xo tab k .normal ρ {m with floor:=fl}:=by unfold Xd;rw[evDraw,z8]
theorem zak (fl:Nat) (m0:Mem) (g:Nat) (w f:Bool):Xd tab fl m0 ws (⟨d,op,some (g,w),f⟩::l) ρ m k=Xu tab (ρ.getD g .undef) w d op f fl m0 ws l ρ m k:=by
 have skip:wanted ρ (some (g,w))=some false→Xd tab fl m0 ws (⟨d,op,some (g,w),f⟩::l) ρ m k=Xd tab fl m0 ws l (setDst ρ d (.tup [])) m k:=by
  intro h
  unfold Xd
  simp only[evDraw,evOper,watchG,clearG,h]
  cases f
  ·simp only
   cases op.isStore<;>simp
  ·simp only
 have go:wanted ρ (some (g,w))=some true→Xd tab fl m0 ws (⟨d,op,some (g,w),f⟩::l) ρ m k=Xd tab fl m0 ws (⟨d,op,none,f⟩::l) ρ m k:=by
  intro h
  have h':wanted ρ none=some true:=rfl
  unfold Xd
  simp only[evDraw,evOper,watchG,clearG,h,h']
 have no:wanted ρ (some (g,w))=none→Xd tab fl m0 ws (⟨d,op,some (g,w),f⟩::l) ρ m k=False:=by
  intro h
  unfold Xd
  simp only[evDraw,evOper,watchG,clearG,h]
  cases f
  ·simp only
   cases op.isStore<;>simp[Opt]
  ·simp[Opt]
 unfold Xu
 split
 ·rename_i t h
  simp only[wanted,h] at skip go
  cases t<;>cases w<;>simp at skip go⊢ <;>first|exact skip|exact go
 ·rename_i h;exact skip (by simp only[wanted,h])
 ·rename_i h1 h2
  refine no ?_
  simp only[wanted]
theorem zc9 (f:Bool) (fl:Nat) (m0:Mem):Xu tab (.bool true) true d op f fl m0 ws l ρ m k=Xd tab fl m0 ws (⟨d,op,none,f⟩::l) ρ m k:=_root_.id rfl
theorem zcc (f:Bool) (fl:Nat) (m0:Mem):Xu tab (.bool false) false d op f fl m0 ws l ρ m k=Xd tab fl m0 ws (⟨d,op,none,f⟩::l) ρ m k:=_root_.id rfl
theorem zca (f:Bool) (fl:Nat) (m0:Mem):Xu tab (.bool true) false d op f fl m0 ws l ρ m k=Xd tab fl m0 ws l (setDst ρ d (.tup [])) m k:=by simp[Xu]
theorem zcb (f:Bool) (fl:Nat) (m0:Mem):Xu tab (.bool false) true d op f fl m0 ws l ρ m k=Xd tab fl m0 ws l (setDst ρ d (.tup [])) m k:=by simp[Xu]
theorem zdd (w f:Bool) (fl:Nat) (m0:Mem):Xu tab (.tup []) w d op f fl m0 ws l ρ m k=Xd tab fl m0 ws l (setDst ρ d (.tup [])) m k:=_root_.id rfl
theorem zcW (fl:Nat) (m0:Mem):Xd tab fl m0 ws (⟨d,op,none,true⟩::l) ρ m k=Xw tab (evOp (CALLO tab) ρ m0 op) 0 fl m0 (watch ρ m0 op ws) d l ρ m k:=by
 unfold Xd Xw evDraw
 simp only[evOper,watchG,wanted]
 cases evOp (CALLO tab) ρ m0 op<;>simp[Opt,Xd]
def Xi (s:Bool) (fl:Nat) (m0:Mem) (ws:Watch) (d:Option Nat) (op:AOp) (l:List AOper) (ρ:List AV) (m:Mem) (k:Kont):Prop:=
 match s with
 |true=>clear ρ op ws=true∧Xw tab (evOp (CALLO tab) ρ {m with floor:=m0.floor} op) 1 fl m0 ws d l ρ m k
 |false=>Xw tab (evOp (CALLO tab) ρ m op) 2 fl m0 ws d l ρ m k
theorem zbS (fl:Nat) (m0:Mem):Xi tab true fl m0 ws d op l ρ m k=(clear ρ op ws=true∧Xw tab (evOp (CALLO tab) ρ {m with floor:=m0.floor} op) 1 fl m0 ws d l ρ m k):=_root_.id rfl
theorem zaj (fl:Nat) (m0:Mem):Xi tab false fl m0 ws d op l ρ m k=Xw tab (evOp (CALLO tab) ρ m op) 2 fl m0 ws d l ρ m k:=_root_.id rfl
theorem zbT (fl:Nat) (m0:Mem):Xd tab fl m0 ws (⟨d,op,none,false⟩::l) ρ m k=Xi tab op.isStore fl m0 ws d op l ρ m k:=by
 unfold Xd Xi evDraw
 simp only[evOper,clearG,wanted]
 cases h:op.isStore
 ·simp only[Xw]
  cases evOp (CALLO tab) ρ m op<;>simp[Opt,Xd]
 ·simp only[Xw]
  cases hc:clear ρ op ws
  ·simp[Opt]
  ·cases evOp (CALLO tab) ρ {m with floor:=m0.floor} op<;>simp[Opt,Xd]
theorem Xw_0 (v:AV) (m1 m0:Mem) (fl:Nat):Xw tab (some (v,m1)) 0 fl m0 ws d l ρ m k=Xd tab fl m0 ws l (setDst ρ d v) m k:=by unfold Xw;rw[z8];rfl
theorem Xw_1 (v:AV) (m1 m0:Mem) (fl:Nat):Xw tab (some (v,m1)) 1 fl m0 ws d l ρ m k=Xd tab fl m0 ws l (setDst ρ d v) {m1 with floor:=m.floor} k:=by unfold Xw;rw[z8];rfl
theorem zbQ (v:AV) (m1 m0:Mem) (fl:Nat):Xw tab (some (v,m1)) 2 fl m0 ws d l ρ m k=Xd tab fl m0 ws l (setDst ρ d v) m1 k:=by unfold Xw;rw[z8];rfl
theorem z8g (ρ:List AV) (n:Nat) (a x:Opd):clear ρ (.store n a x) []=true:=by unfold clear;simp only;split<;>rfl
theorem z5d (ρ:List AV) (m0:Mem) (g:Bool) (n:Nat) (a:Opd) (ws:Watch):watch ρ m0 (.load g n a) ws=ws:=rfl
theorem z3y (ρ:List AV) (m0:Mem) (g:Bool) (n:Nat) (a:Opd) (ws:Watch):watch ρ m0 (.ext (.wload g n a)) ws=match a.ev ρ with| .ptr l k st off=>(l,k,off,n,((m0.at (.ptr l k st off)).getD []).take n)::ws|_=>ws:=rfl
theorem z6h (ρ:List AV) (n:Nat) (a x:Opd) (w:Nat×Nat×Nat×Nat×List AV) (ws:Watch):clear ρ (.store n a x) (w::ws)=match a.ev ρ with| .ptr l k _ off=>((w.1 !=l||w.2.1 !=k||decide (off+n≤w.2.2.1)||decide (w.2.2.1+w.2.2.2.1≤off)||(decide (off=w.2.2.1)&&same (x.ev ρ).cells w.2.2.2.2))&&ws.all fun w=>w.1 !=l||w.2.1 !=k||decide (off+n≤w.2.2.1)||decide (w.2.2.1+w.2.2.2.1≤off)||(decide (off=w.2.2.1)&&same (x.ev ρ).cells w.2.2.2.2))|_=>true:=by unfold clear;rfl
theorem X_fn {f:Nat} {fn:AFunc} (h:tab f=some fn) (args:List AV) (m:Mem) (R:AV→Mem→Prop):
  Opt (CALL tab f args m) (fun r=>R r.1 r.2)=X tab fn.body (args++List.replicate (fn.ntmps-args.length) (.tup [])) (enter m) (.fin fn.res m R):=by
 rw[zar tab h];rfl
end
section
variable {tab : Nat → Option AFunc} {ρ : List AV} {m : Mem} {k : Kont} {a : ACode}
theorem zc {live:List Nat} {nb:Nat} {α:Type} (I:α→St→Prop) (r:α→Nat) (x0:α) (h0:I x0 ⟨ρ,m⟩)
  (h: ∀x σ,I x σ→X tab a (heads live nb σ).ρ (heads live nb σ).m (.again (fun σ'=> ∃y,r y<r x∧I y σ') k)):XL tab live nb a ρ m k:=
 z8x I r x0 h0 h
def Does (tab:Nat→Option AFunc) (f:Nat) (args:List AV) (m:Mem) (R:AV→Mem→Prop):Prop:=Opt (CALL tab f args m) fun r=>R r.1 r.2
theorem zV {f:Nat} {fn:AFunc} (h:tab f=some fn) {args:List AV} {m:Mem} {R:AV→Mem→Prop} (hx:X tab fn.body (mk fn.ntmps (.tup []) (numb 0 args)) (enter m) (.fin fn.res m R)) (hn:args.length≤fn.ntmps):Does tab f args m R:=by
 unfold Does;rw[X_fn tab h,zbx _ _ hn];exact hx
theorem z6 {stk:List (List Blk)} {cur c':List Blk} {nx nx' fl fl':Nat} {live live':List (List Nat)} {own:List Nat} {r:AV} (h1:r.refs (stk++[cur]).length=false) (h2:r.toks=[]):
  leave ⟨stk,cur,nx,live,fl⟩ ⟨stk++[cur],c',nx',own::live',fl'⟩ r=some (r,⟨stk,cur,nx',live',fl⟩):=by
 have e:own.filter (fun _=>false)=[]:=by simp
 unfold leave
 simp only[w4b,w42,Option.some_or,h1,w1f,if_false,h2,List.contains_nil,e,pushToks,w4c]
theorem Zz {stk:List (List Blk)} {cur c':List Blk} {nx nx' fl fl':Nat} {live live':List (List Nat)} {own:List Nat} {r:AV} (h1:r.refs (stk++[cur]).length=false):
  leave ⟨stk,cur,nx,live,fl⟩ ⟨stk++[cur],c',nx',own::live',fl'⟩ r=some (r,⟨stk,cur,nx',pushToks (own.filter fun t=>r.toks.contains t) live',fl⟩):=by
 unfold leave
 simp only[w4b,w42,Option.some_or,h1,w1f,if_false,w4c]
end
attribute [go_sem] z7u z3y z6h List.all_nil w2a z8g z5d true_and w4d w53 List.getD_cons_succ List.getD_cons_zero w52 List.replicate_zero z9m z7G z7t z40 zbB za6 z7D z9g zaM Bool.not_true Bool.not_false ne_eq not_true_eq_false not_false_eq_true Bool.false_and Bool.and_false Bool.not_not zcX zdg zcZ zdh zdi zdf zbV zcY zd1 zbU zal zcR zbR zag zcd zcg zce zcf zde uU zcS z6w z56 zah z3u z1o
 zai z3v z1p zcT zcU zd0 zcV zak zc9 zcc zca zcb zdd zcW zbS zaj zbT Xw_0 Xw_1 zbQ z7W zbp z9F z83 zbt
 z82 zbq z9I zbu zbv zcK z9K z81 z7V z4E z9G z80 z7Z z7Y z64 z62 z63 zbr z9J zbw zcL
 zcM z7X z61 z60 z9H z4F z9L evOp evCall z6B Opd.ev z8l z6l
 z8j z8h z6i z6k z8k z8i za7 z3o za8 z4Y Mem.bump z9d zb3 zb1 z9a z9c zb4 zb2 zcz z5F zcA z7B allOne w26 w2f
 w31 w48 w20 w39 Nat.add_zero beq_self_eq_true if_true if_false ite_true ite_false w1f Mem.new enter Mem.at Mem.blk Mem.row Mem.put Mem.putS evFaddr
 Qa zaN evStore splice w1d w22 w1e w24 List.drop_nil List.take_nil List.getElem?_cons_succ List.getElem?_cons_zero w0d
 w29 Option.map_none Option.bind_none w32 List.map_nil List.head?_cons w0b decide_true decide_false Bool.and_self Bool.and_true Bool.true_and evBin evInt sameKind evMax
 evMin evUn heads cut List.contains_cons List.contains_nil Bool.or_false Bool.or_true Bool.false_or Bool.true_or evRess evRes packRes z6 z8
 AV.refs AV.toks z65 z4U addTok z2O yx zbs XOp.isPut evX nilOf nilChkV Mem.ents evMput evCopy isKey isPlain mapGet mapPut keyEq z9b z6j
end Go.Vs
end
section
namespace Go.Vs.V
open Go.Vs
@[go_sem] def m (d s:Nat):AOper:=⟨some d,.mov (.t s),none,false⟩
@[go_sem] def o (d:Nat) (op:AOp):AOper:=⟨some d,op,none,false⟩
@[go_sem] def y (d g:Nat) (op:AOp):AOper:=⟨some d,op,some (g,true),false⟩
@[go_sem] def z (d g:Nat) (op:AOp):AOper:=⟨some d,op,some (g,false),false⟩
@[go_sem] def w (d:Nat) (op:AOp):AOper:=⟨some d,op,none,true⟩
@[go_sem] def s (n a:Nat) (x:Opd):AOper:=⟨none,.store n (.t a) x,none,false⟩
@[go_sem] def ld (n a:Nat):AOp:= .load false n (.t a)
@[go_sem] def lg (n a:Nat):AOp:= .load true n (.t a)
@[go_sem] def fa (n a:Nat):AOp:= .faddr n (.t a)
@[go_sem] def ia (n a b:Nat):AOp:= .iaddr n (.t a) (.t b)
@[go_sem] def le (a:Nat):AOp:= .len (.t a)
@[go_sem] def v (x:Opd):AOp:= .mov x
@[go_sem] def mt (a:Nat):AOp:= .mov (.t a)
@[go_sem] def ki (n:Int):Opd:= .c (.int .i64 n)
@[go_sem] def ku (n:Int):Opd:= .c (.int .u8 n)
@[go_sem] def kf:Opd:= .c (.bool false)
@[go_sem] def kt:Opd:= .c (.bool true)
@[go_sem] def kn:Opd:= .c .nils
@[go_sem] def b (op:BinOp) (x y:Nat):AOp:= .bin op (.t x) (.t y)
@[go_sem] def bi (op:BinOp) (x:Nat) (n:Int):AOp:= .bin op (.t x) (.c (.int .i64 n))
@[go_sem] def bu (op:BinOp) (x:Nat) (n:Int):AOp:= .bin op (.t x) (.c (.int .u8 n))
@[go_sem] def ex (a i:Nat):AOp:= .extract (.t a) i
@[go_sem] def cf (f:Nat) (l:List Opd):AOp:= .call (.c (.fn (.func f) [] [])) l
@[go_sem] def cg (f:Nat) (l:List Nat):AOp:= .call (.c (.fn (.func f) [] [])) (l.map .t)
@[go_sem] def pf (a b:Nat):AOp:= .pick (.t a) (.t b) (.c (.bool false))
@[go_sem] def pt (a b:Nat):AOp:= .pick (.t a) (.c (.bool true)) (.t b)
@[go_sem] def ap (n k a b:Nat):AOp:= .app n k (.t a) (.t b)
@[go_sem] def bx (n a:Nat):AOp:= .box n (.t a)
@[go_sem] def li (n:Nat) (l:List Nat):AOp:= .lit n (l.map .t)
@[go_sem] def q (a b:ACode):ACode:= .seq a b
@[go_sem] def p (l:List AOper):ACode:= .ops l
@[go_sem] def c (t:Nat) (a b:ACode):ACode:= .cond (.t t) a b
@[go_sem] def k:ACode:= .skip
@[go_sem] def r:ACode:= .ret
@[go_sem] def bl (i:Nat) (a:ACode):ACode:= .block i a
@[go_sem] def lo (l:List Nat) (a:ACode):ACode:= .loop l a
@[go_sem] def e (i:Nat):ACode:= .exit i
@[go_sem] def iz:AV:= .int .i64 0
end Go.Vs.V
namespace Go.Vs
theorem tab1 {P:Go.Program} {f:Nat} {fn:Go.Func} {n:List (List Nat)} {a afn:AFunc} (hf:P.funcs[f]? =some fn) (hc:compFn P fn n=some a) (h:some a=some afn):(∃fn n,P.funcs[f]? =some fn∧compFn P fn n=some afn)∨ ∃b,afn=constFn b∧Known P f b:=by
 injection h with h;subst h;exact .inl ⟨fn,n,hf,hc⟩
theorem tab2 {P:Go.Program} {f:Nat} {b:Bool} {afn:AFunc} (hk:Known P f b) (h:some (constFn b)=some afn):(∃fn n,P.funcs[f]? =some fn∧compFn P fn n=some afn)∨ ∃b,afn=constFn b∧Known P f b:=by
 injection h with h;subst h;exact .inr ⟨b,rfl,hk⟩
end Go.Vs
end
section
namespace Go.Proofs.W
open Go.Vs Go.Vs.V
set_option maxRecDepth 100000
def uN:Nat:=5
def vZ:Nat:=10
def zR:Nat:=11
def uG:Nat:=12
def jb:Nat:=13
def xX:Nat:=14
def qM:Nat:=15
def xm:Nat:=16
def yH:Nat:=17
def ka:Nat:=30
def yf:Nat:=31
def uH:Nat:=32
def qq:Nat:=34
def qp:Nat:=36
def zm:Nat:=41
def x5:Nat:=42
def yS:Nat:=43
def zu:Nat:=44
def x7:Nat:=45
def u4:Nat:=46
def xn:Nat:=47
def uM:Nat:=48
def vG:Nat:=49
def jn:Nat:=50
def zZ:Nat:=51
def u7:Nat:=52
def uI:Nat:=53
def u5:Nat:=54
def yW:Nat:=56
def uc:Nat:=58
def zL:Nat:=59
def j0:Nat:=60
def zl:Nat:=61
def xo:Nat:=62
def yO:Nat:=63
def xp:Nat:=64
def yn:Nat:=67
def ym:Nat:=68
def yB:Nat:=69
def uJ:Nat:=70
def xD:Nat:=71
def xy:Nat:=72
def vx:Nat:=77
def jZ:Nat:=78
def qi:Nat:=79
def xV:Nat:=80
def Yx:Nat:=81
def qK:Nat:=82
def xr:Nat:=83
def xS:Nat:=84
def uK:Nat:=85
def yg:Nat:=86
def uS:Nat:=87
def ua:Nat:=88
def xU:Nat:=89
def zI:Nat:=90
def zF:Nat:=91
def zt:Nat:=92
def xT:Nat:=93
def yX:Nat:=94
def ye:Nat:=95
def vA:Nat:=96
def tN:Nat:=97
def qZ:Nat:=98
def uP:Nat:=99
def yP:Nat:=100
def vy:Nat:=101
def jm:Nat:=112
def xF:Nat:=113
def zk:Nat:=114
def yF:Nat:=115
def yV:Nat:=116
def xG:Nat:=117
def tl:Nat:=118
def vf:Nat:=119
def ub:Nat:=120
def WN:Nat:=121
def vz:Nat:=122
def x8:Nat:=123
def kF:Nat:=124
def qj:Nat:=125
def uV:Nat:=126
def uL:Nat:=127
def x6:Nat:=128
def xq:Nat:=129
def yD:Nat:=130
def xE:Nat:=131
def yE:Nat:=132
def yT:Nat:=133
def xW:Nat:=134
def zH:Nat:=135
def yU:Nat:=136
def WM:Nat:=137
def x9:Nat:=138
def yo:Nat:=139
def vF:Nat:=141
def tj:Nat:=142
def qB:Nat:=143
def yJ:Nat:=144
def vj:Nat:=145
def qJ:Nat:=146
def Yv:Nat:=147
def j8:Nat:=148
def qL:Nat:=149
def yI:Nat:=150
def jY:Nat:=151
def u6:Nat:=152
def yC:Nat:=153
def xi:Nat:=154
def Yw:Nat:=155
def qh:Nat:=156
def uQ:Nat:=157
def vE:Nat:=158
def Zj:Nat:=159
def uO:Nat:=160
def th:Nat:=161
def xu:Nat:=162
def zQ:Nat:=163
def uR:Nat:=164
def yj:Nat:=165
def uW:Nat:=166
def zO:Nat:=167
def xB:Nat:=168
def Zi:Nat:=169
def zU:Nat:=170
def ja:Nat:=171
def ve:Nat:=172
def jl:Nat:=173
def zX:Nat:=174
def yw:Nat:=175
def qk:Nat:=181
def Uq:Nat:=184
def qg:Nat:=185
def tp:Nat:=191
def j9:Nat:=176
def tQ:Nat:=177
def ql:Nat:=178
def qf:Nat:=179
def u9:Nat:=180
def tF:Nat:=182
def qY:Nat:=183
def xe:AFunc:=⟨91,[.tmp 2],(q (p [o 1 (bx 3 0),o 2 (v kf)]) (q (q (p [o 10 (lg 3 1),o 11 (cg xm [10]),m 12 11,z 13 12 (lg 3 1),z 14 12 (cg yH [13]),z 15 12 (bi .neq 14 0),o 16 (pt 12 15)]) (c 16 (q (p [o 17 (cg zR []),m 2 17]) r) k)) (q (p [o 18 (lg 3 1),o 19 (cg uG [18]),o 3 (.alloc [.nils,.nils,.nils]),s 3 3 (.t 19)]) (q (p [o 4 (v kt)]) (q (q (p [o 5 (v (ki 0))]) (bl 0 (lo [1,3,4,5] (q (q (p [m 20 5,o 21 (fa 2 1),o 22 (ld 1 21),o 23 (le 22),o 24 (b .lss 20 23)]) (c 24 k (e 0))) (q (bl 1 (q (p [o 28 (lg 3 1),m 29 5,o 30 (cg ka [28,29]),m 27 30,o 31 (ex 27 0),o 32 (ex 27 1),o 6 (.alloc [.str [],iz,iz,.nils,.nils,.nils,.nils]),s 7 6 (.t 31),m 7 32]) (q (q (p [m 33 7,o 34 (bi .neq 33 0)]) (c 34 (q (p [o 4 (v kf)]) (e 1)) k)) (q (p [o 35 (fa 2 1),o 36 (ld 1 35),m 37 5,o 38 (ia 7 36 37),o 39 (lg 7 38),o 8 (.alloc [.str [],iz,iz,.nils,.nils,.nils,.nils]),s 7 8 (.t 39)]) (q (.draw [o 40 (fa 5 6),o 41 (ld 1 40),o 42 (fa 6 6),w 43 (.ext (.wload false 1 (.t 42))),o 44 (fa 5 8),s 1 44 (.t 41),o 45 (fa 6 8),s 1 45 (.t 43)]) (q (q (p [o 46 (lg 7 6),o 47 (lg 7 8),o 48 (cg yf [46,47]),o 49 (.un .not (.t 48))]) (c 49 (q (p [o 2 (v kf)]) r) k)) (p [o 50 (fa 2 3),o 51 (ld 1 50),m 52 5,o 53 (lg 7 6),o 54 (ia 7 51 52),s 7 54 (.t 53)]))))))) (p [m 25 5,o 26 (bi .add 25 1),m 5 26])))))) (q (q (.frz [3]) (p [o 55 (lg 3 1),o 56 (cg xX [55]),m 9 56])) (q (q (p [m 57 4,m 58 57,y 59 58 (lg 3 3),y 60 58 (cg yH [59]),y 61 58 (bi .eql 60 0),o 62 (pf 58 61),m 63 62,y 64 63 (lg 3 3),y 65 63 (cg xX [64]),y 66 63 (bi .neq 65 0),o 67 (pf 63 66),m 68 67,z 69 68 (mt 4),z 70 68 (.un .not (.t 69)),z 71 68 (mt 70),y 72 71 (mt 9),y 73 71 (bi .eql 72 0),y 74 71 (mt 73),z 75 74 (lg 3 3),z 76 74 (cg xX [75]),z 77 74 (bi .eql 76 0),y 78 71 (pt 74 77),z 79 68 (pf 71 78),o 80 (pt 68 79)]) (c 80 (q (p [o 2 (v kf)]) r) k)) (q (p [m 81 9,o 82 (bi .neq 81 0),m 83 82,z 84 83 (lg 3 1),z 85 83 (lg 3 3),z 86 83 (cg uH [84,85]),o 87 (pt 83 86),m 88 87,y 89 88 (cg zR []),o 90 (pf 88 89),m 2 90]) r))))))))⟩
def jF:List (List Nat):=[[1,3,4,5],[888888,56,3]]
def vI:AFunc:=⟨148,[.tmp 2],(q (p [o 1 (bx 3 0),o 2 (v kn)]) (q (p [o 10 (fa 0 1),o 11 (ld 1 10),o 12 (le 11),o 13 (cg zm [12]),m 3 13]) (q (q (p [o 4 (v (ki 0))]) (bl 0 (lo [1,3,4] (q (q (p [m 14 4,o 15 (fa 0 1),o 16 (ld 1 15),o 17 (le 16),o 18 (b .lss 14 17)]) (c 18 k (e 0))) (q (bl 1 (q (p [o 21 (fa 0 1),o 22 (ld 1 21),m 23 4,o 24 (ia 4 22 23),o 25 (lg 4 24),o 5 (.alloc [.int .u8 (0),iz,iz,.nils]),s 4 5 (.t 25)]) (q (p [m 26 3,o 27 (fa 0 5),o 28 (ld 1 27),o 29 (li 1 [28]),o 30 (ap 1 1 26 29),m 3 30]) (q (p [o 31 (fa 0 5),o 32 (ld 1 31)]) (bl 2 (q (q (p [o 34 (bu .eql 32 4),m 33 34]) (c 33 k (p [o 35 (bu .eql 32 7),m 33 35]))) (c 33 (p [m 36 3,o 37 (fa 1 5),o 38 (ld 1 37),o 39 (cg zm [38]),o 40 (ap 1 1 36 39),m 3 40]) (q (p [o 42 (bu .eql 32 6),m 41 42]) (c 41 (.draw [m 43 3,o 44 (fa 1 5),o 45 (ld 1 44),o 46 (cg zm [45]),o 47 (ap 1 1 43 46),o 48 (fa 2 5),w 49 (ld 1 48),o 50 (cg zm [49]),o 51 (ap 1 1 47 50),m 3 51]) (q (p [o 53 (bu .eql 32 5),m 52 53]) (c 52 (p [m 54 3,o 55 (fa 3 5),o 56 (ld 1 55),o 57 (cg x5 [56]),o 58 (ap 1 1 54 57),m 3 58]) k))))))))))) (p [m 19 4,o 20 (bi .add 19 1),m 4 20])))))) (q (p [m 59 3,o 60 (fa 1 1),o 61 (ld 1 60),o 62 (le 61),o 63 (cg zm [62]),o 64 (ap 1 1 59 63),m 3 64]) (q (q (p [o 6 (v (ki 0))]) (bl 3 (lo [1,3,6] (q (q (p [m 65 6,o 66 (fa 1 1),o 67 (ld 1 66),o 68 (le 67),o 69 (b .lss 65 68)]) (c 69 k (e 3))) (q (bl 4 (p [m 72 3,o 73 (fa 1 1),o 74 (ld 1 73),m 75 6,o 76 (ia 1 74 75),o 77 (ld 1 76),o 78 (cg yS [77]),o 79 (ap 1 1 72 78),m 3 79])) (p [m 70 6,o 71 (bi .add 70 1),m 6 71])))))) (q (p [m 80 3,o 81 (fa 2 1),o 82 (ld 1 81),o 83 (le 82),o 84 (cg zm [83]),o 85 (ap 1 1 80 84),m 3 85]) (q (q (p [o 7 (v (ki 0))]) (bl 5 (lo [1,3,7] (q (q (p [m 86 7,o 87 (fa 2 1),o 88 (ld 1 87),o 89 (le 88),o 90 (b .lss 86 89)]) (c 90 k (e 5))) (q (bl 6 (q (p [o 93 (fa 2 1),o 94 (ld 1 93),m 95 7,o 96 (ia 7 94 95),o 97 (lg 7 96),o 8 (.alloc [.str [],iz,iz,.nils,.nils,.nils,.nils]),s 7 8 (.t 97)]) (q (.draw [m 98 3,o 99 (fa 0 8),o 100 (ld 1 99),o 101 (cg yS [100]),o 102 (ap 1 1 98 101),o 103 (fa 1 8),w 104 (ld 1 103),o 105 (cg zm [104]),o 106 (ap 1 1 102 105),m 3 106]) (q (p [m 107 3,o 108 (fa 2 8),o 109 (ld 1 108),o 110 (cg x7 [109]),o 111 (cg zu [110]),o 112 (ap 1 1 107 111),m 3 112]) (q (.draw [m 113 3,o 114 (fa 3 8),o 115 (ld 1 114),o 116 (cg x5 [115]),o 117 (ap 1 1 113 116),o 118 (fa 4 8),w 119 (ld 1 118),o 120 (le 119),o 121 (cg zm [120]),o 122 (ap 1 1 117 121),m 3 122]) (q (q (p [o 9 (v (ki 0))]) (bl 7 (lo [1,3,7,8,9] (q (q (p [m 123 9,o 124 (fa 4 8),o 125 (ld 1 124),o 126 (le 125),o 127 (b .lss 123 126)]) (c 127 k (e 7))) (q (bl 8 (p [m 130 3,o 131 (fa 4 8),o 132 (ld 1 131),m 133 9,o 134 (ia 4 132 133),o 135 (lg 4 134),o 136 (cg u4 [135]),o 137 (ap 1 1 130 136),m 3 137])) (p [m 128 9,o 129 (bi .add 128 1),m 9 129])))))) (.draw [m 138 3,o 139 (fa 5 8),o 140 (ld 1 139),o 141 (cg xn [140]),o 142 (ap 1 1 138 141),o 143 (fa 6 8),w 144 (ld 1 143),o 145 (cg xn [144]),o 146 (ap 1 1 142 145),m 3 146]))))))) (p [m 91 7,o 92 (bi .add 91 1),m 7 92])))))) (q (p [m 147 3,m 2 147]) r))))))))⟩
def X1:List (List Nat):=[[1,3,4],[1,3,6],[1,3,7],[1,3,7,8,9]]
def XB:AFunc:=⟨9,[.tmp 0],(q (p [o 0 (v kf)]) (q (p [o 1 (.build [.int .u8 (0),iz,iz,iz] [(0,1,(ku 24))]),o 2 (cg qp [1]),o 3 (cf qq [(.t 2),(ki 0),(ki 0),(ki 0)]),m 4 3,y 5 4 (.build [.int .u8 (0),iz,iz,iz] [(0,1,(ku 31))]),y 6 4 (cg qp [5]),y 7 4 (cf qq [(.t 6),(ki 0),(ki (-1)),(ki 36)]),o 8 (pf 4 7),m 0 8]) r))⟩
def Xh:List (List Nat):=[]
def uv:AFunc:=⟨53,[.cell 2 true 3],(q (p [o 1 (bx 3 0),o 2 (.alloc [.nils,.nils,.nils])]) (q (.draw [o 3 (.alloc [.nils,.nils,.nils]),o 6 (fa 0 1),o 7 (ld 1 6),o 8 (cg uM [7]),o 9 (li 1 []),o 10 (fa 1 1),w 11 (ld 1 10),o 12 (ap 1 16 9 11),o 13 (.build [.nils,.nils,.nils] [(0,1,(.t 8)),(1,1,(.t 12))]),s 3 3 (.t 13)]) (q (q (p [o 4 (v (ki 0))]) (bl 0 (lo [1,2,3,4,999999] (q (q (p [m 14 4,o 15 (fa 2 1),o 16 (ld 1 15),o 17 (le 16),o 18 (b .lss 14 17)]) (c 18 k (e 0))) (q (bl 1 (q (p [o 21 (fa 2 1),o 22 (ld 1 21),m 23 4,o 24 (ia 7 22 23),o 25 (lg 7 24),o 5 (.alloc [.str [],iz,iz,.nils,.nils,.nils,.nils]),s 7 5 (.t 25)]) (q (p [o 26 (li 2 []),o 27 (fa 3 5),o 28 (ld 1 27),o 29 (ap 2 24 26 28),o 30 (fa 3 5),s 1 30 (.t 29)]) (q (p [o 31 (li 4 []),o 32 (fa 4 5),o 33 (ld 1 32),o 34 (ap 4 32 31 33),o 35 (fa 4 5),s 1 35 (.t 34)]) (q (p [o 36 (li 2 []),o 37 (fa 5 5),o 38 (ld 1 37),o 39 (ap 2 16 36 38),o 40 (fa 5 5),s 1 40 (.t 39)]) (q (p [o 41 (li 2 []),o 42 (fa 6 5),o 43 (ld 1 42),o 44 (ap 2 16 41 43),o 45 (fa 6 5),s 1 45 (.t 44)]) (p [o 46 (fa 2 3),o 47 (ld 1 46),o 48 (lg 7 5),o 49 (li 7 [48]),o 50 (.ext (.appB 7 128 (.t 47) (.t 49))),o 51 (fa 2 3),s 1 51 (.t 50)]))))))) (p [m 19 4,o 20 (bi .add 19 1),m 4 20])))))) (q (p [o 52 (lg 3 3),s 3 2 (.t 52)]) r))))⟩
def Wa:List (List Nat):=[[1,2,3,4,999999],[777777,50]]
def V9:AFunc:=⟨2,[.cell 0 true 4],(q (p [o 0 (.alloc [.int .u8 (0),iz,iz,iz])]) (q (p [o 1 (.build [.int .u8 (0),iz,iz,iz] [(0,1,(ku 34)),(1,1,(ki (-1)))]),s 4 0 (.t 1)]) r))⟩
def V6:List (List Nat):=[]
def Zh:AFunc:=⟨13,[.tmp 2],(q (p [o 1 (bx 3 0),o 2 (v (ki 0))]) (q (p [o 7 (lg 3 1),o 8 (cg qM [7]),m 6 8,o 9 (ex 6 0),o 10 (ex 6 1),o 11 (ex 6 2),m 3 9,m 4 10,m 5 11]) (q (p [m 12 5,m 2 12]) r)))⟩
def z1i:List (List Nat):=[]
def Zg:AFunc:=⟨55,[.tmp 2,.tmp 3,.tmp 4],(q (p [o 1 (bx 3 0),o 2 (v (ki 0)),o 3 (v (ki 0)),o 4 (v (ki 0))]) (q (q (p [o 9 (lg 3 1),o 10 (cg vG [9]),m 5 10]) (q (p [m 11 5,o 12 (bi .neq 11 0)]) (c 12 (q (p [m 13 5,o 2 (v (ki 0)),o 3 (v (ki 0)),m 4 13]) r) k))) (q (q (p [o 14 (fa 2 1),o 15 (ld 1 14),o 16 (le 15),o 17 (v (ki 0))]) (bl 0 (lo [1,15,16,17] (q (p [o 18 (b .lss 17 16)]) (q (c 18 k (e 0)) (q (bl 1 (q (p [m 19 17,o 20 (ia 7 15 17),o 21 (lg 7 20),o 7 (.alloc [.str [],iz,iz,.nils,.nils,.nils,.nils]),m 6 19,s 7 7 (.t 21)]) (q (p [o 22 (lg 3 1),m 23 6,o 24 (cg jn [22,23]),o 8 (.alloc [.nils,.nils,iz,iz]),s 4 8 (.t 24)]) (q (q (p [o 25 (fa 3 8),o 26 (ld 1 25),o 27 (bi .eql 26 0),m 28 27,y 29 28 (fa 0 8),y 30 28 (ld 1 29),y 31 28 (fa 5 7),y 32 28 (ld 1 31),y 33 28 (cg zZ [30,32]),y 34 28 (.un .not (.t 33)),y 35 28 (mt 34),z 36 35 (fa 1 8),z 37 35 (ld 1 36),z 38 35 (fa 6 7),z 39 35 (ld 1 38),z 40 35 (cg zZ [37,39]),z 41 35 (.un .not (.t 40)),y 42 28 (pt 35 41),o 43 (pf 28 42)]) (c 43 (p [o 44 (fa 2 8),s 1 44 (ki (-1)),o 45 (fa 3 8),s 1 45 (ki 32)]) k)) (q (p [o 46 (fa 3 8),o 47 (ld 1 46),o 48 (bi .neq 47 0)]) (c 48 (q (.draw [m 49 6,o 50 (fa 2 8),o 51 (ld 1 50),o 52 (fa 3 8),o 53 (ld 1 52),m 2 49,m 3 51,m 4 53]) r) k)))))) (p [o 54 (bi .add 17 1),m 17 54]))))))) (q (p [o 2 (v (ki 0)),o 3 (v (ki 0)),o 4 (v (ki 0))]) r))))⟩
def z1h:List (List Nat):=[[1,15,16,17]]
def vH:AFunc:=⟨101,[.tmp 2],(q (p [o 1 (bx 3 0),o 2 (v kf)]) (q (q (p [o 8 (fa 0 1),o 9 (ld 1 8),o 10 (cg u7 [9]),m 11 10,z 12 11 (fa 1 1),z 13 11 (ld 1 12),z 14 11 (le 13),z 15 11 (bi .gtr 14 40),o 16 (pt 11 15),m 17 16,z 18 17 (fa 2 1),z 19 17 (ld 1 18),z 20 17 (le 19),z 21 17 (bi .gtr 20 40),o 22 (pt 17 21)]) (c 22 (q (p [o 2 (v kt)]) r) k)) (q (q (p [o 3 (v (ki 0))]) (bl 0 (lo [1,3] (q (q (p [m 23 3,o 24 (fa 1 1),o 25 (ld 1 24),o 26 (le 25),o 27 (b .lss 23 26)]) (c 27 k (e 0))) (q (bl 1 (q (p [o 30 (fa 1 1),o 31 (ld 1 30),m 32 3,o 33 (ia 1 31 32),o 34 (ld 1 33),o 35 (.lenS (.t 34)),o 36 (bi .gtr 35 100)]) (c 36 (q (p [o 2 (v kt)]) r) k))) (p [m 28 3,o 29 (bi .add 28 1),m 3 29])))))) (q (p [o 4 (v (ki 0))]) (q (q (p [o 5 (v (ki 0))]) (bl 2 (lo [1,4,5] (q (q (p [m 37 5,o 38 (fa 2 1),o 39 (ld 1 38),o 40 (le 39),o 41 (b .lss 37 40)]) (c 41 k (e 2))) (q (bl 3 (q (p [o 44 (fa 2 1),o 45 (ld 1 44),m 46 5,o 47 (ia 7 45 46),o 48 (lg 7 47),o 6 (.alloc [.str [],iz,iz,.nils,.nils,.nils,.nils]),s 7 6 (.t 48)]) (q (p [m 49 4,o 50 (fa 4 6),o 51 (ld 1 50),o 52 (le 51),o 53 (b .add 49 52),m 4 53]) (q (q (p [o 54 (fa 0 6),o 55 (ld 1 54),o 56 (.lenS (.t 55)),o 57 (bi .gtr 56 100),m 58 57,z 59 58 (fa 3 6),z 60 58 (ld 1 59),z 61 58 (le 60),z 62 58 (bi .gtr 61 20),o 63 (pt 58 62),m 64 63,z 65 64 (fa 4 6),z 66 64 (ld 1 65),z 67 64 (le 66),z 68 64 (bi .gtr 67 210),o 69 (pt 64 68),m 70 69,z 71 70 (fa 5 6),z 72 70 (ld 1 71),z 73 70 (le 72),z 74 70 (bi .gtr 73 210),o 75 (pt 70 74),m 76 75,z 77 76 (fa 6 6),z 78 76 (ld 1 77),z 79 76 (le 78),z 80 76 (bi .gtr 79 210),o 81 (pt 76 80),m 82 81,z 83 82 (mt 4),z 84 82 (bi .gtr 83 1000),o 85 (pt 82 84)]) (c 85 (q (p [o 2 (v kt)]) r) k)) (q (p [o 7 (v (ki 0))]) (bl 4 (lo [1,4,5,6,7] (q (q (p [m 86 7,o 87 (fa 3 6),o 88 (ld 1 87),o 89 (le 88),o 90 (b .lss 86 89)]) (c 90 k (e 4))) (q (bl 5 (q (p [o 93 (fa 3 6),o 94 (ld 1 93),m 95 7,o 96 (ia 2 94 95),o 97 (fa 0 96),o 98 (ld 1 97),o 99 (.lenS (.t 98)),o 100 (bi .gtr 99 100)]) (c 100 (q (p [o 2 (v kt)]) r) k))) (p [m 91 7,o 92 (bi .add 91 1),m 7 92])))))))))) (p [m 42 5,o 43 (bi .add 42 1),m 5 43])))))) (q (p [o 2 (v kf)]) r))))))⟩
def X0:List (List Nat):=[[1,3],[1,4,5],[1,4,5,6,7]]
def xk:AFunc:=⟨10,[.tmp 2],(q (p [o 1 (bx 3 0),o 2 (v (ki 0))]) (q (q (p [o 3 (lg 3 1),o 4 (cg uI [3]),o 5 (.un .not (.t 4))]) (c 5 (q (p [o 2 (v (ki 8))]) r) k)) (q (q (p [o 6 (lg 3 1),o 7 (cg vZ [6]),o 8 (le 7),o 9 (bi .gtr 8 20000)]) (c 9 (q (p [o 2 (v (ki 4))]) r) k)) (q (p [o 2 (v (ki 0))]) r))))⟩
def X2:List (List Nat):=[]
def jX:AFunc:=⟨50,[.cell 4 true 7,.tmp 5],(q (p [o 2 (bx 3 0),o 4 (.alloc [.str [],iz,iz,.nils,.nils,.nils,.nils]),o 5 (v (ki 0))]) (q (q (p [o 9 (lg 3 2),o 10 (cg vG [9]),m 6 10]) (q (p [m 11 6,o 12 (bi .neq 11 0)]) (c 12 (q (p [o 13 (.build [.str [],iz,iz,.nils,.nils,.nils,.nils] []),m 14 6,s 7 4 (.t 13),m 5 14]) r) k))) (q (q (p [o 15 (fa 2 2),o 16 (ld 1 15),m 17 1,o 18 (cg yW [16,17]),o 19 (.un .not (.t 18))]) (c 19 (q (p [o 20 (.build [.str [],iz,iz,.nils,.nils,.nils,.nils] []),s 7 4 (.t 20),o 5 (v (ki 2))]) r) k)) (q (p [o 21 (lg 3 2),m 22 1,o 23 (cg jn [21,22]),o 7 (.alloc [.nils,.nils,iz,iz]),s 4 7 (.t 23)]) (q (q (p [o 24 (fa 3 7),o 25 (ld 1 24),o 26 (bi .neq 25 0)]) (c 26 (q (.draw [o 27 (.build [.str [],iz,iz,.nils,.nils,.nils,.nils] []),o 28 (fa 3 7),w 29 (.ext (.wload false 1 (.t 28))),s 7 4 (.t 27),m 5 29]) r) k)) (q (p [o 30 (fa 2 2),o 31 (ld 1 30),m 32 1,o 33 (ia 7 31 32),o 34 (lg 7 33),o 8 (.alloc [.str [],iz,iz,.nils,.nils,.nils,.nils]),s 7 8 (.t 34)]) (q (.draw [o 35 (fa 3 8),o 36 (ld 1 35),o 37 (cg yn [36]),o 38 (fa 4 8),w 39 (ld 1 38),o 40 (cg ym [39]),o 41 (fa 3 8),s 1 41 (.t 37),o 42 (fa 4 8),s 1 42 (.t 40)]) (q (.draw [o 43 (fa 0 7),o 44 (ld 1 43),o 45 (fa 1 7),w 46 (.ext (.wload false 1 (.t 45))),o 47 (fa 5 8),s 1 47 (.t 44),o 48 (fa 6 8),s 1 48 (.t 46)]) (q (p [o 49 (lg 7 8),s 7 4 (.t 49),o 5 (v (ki 0))]) r)))))))))⟩
def QH:List (List Nat):=[]
def xK:AFunc:=⟨52,[.tmp 4],(q (p [o 2 (bx 7 0),o 3 (bx 7 1),o 4 (v kf)]) (q (p [o 5 (fa 0 2),o 6 (ld 1 5),o 7 (fa 0 3),o 8 (ld 1 7),o 9 (b .eql 6 8),m 10 9,y 11 10 (fa 1 2),y 12 10 (ld 1 11),y 13 10 (fa 1 3),y 14 10 (ld 1 13),y 15 10 (b .eql 12 14),o 16 (pf 10 15),m 17 16,y 18 17 (fa 2 2),y 19 17 (ld 1 18),y 20 17 (fa 2 3),y 21 17 (ld 1 20),y 22 17 (b .eql 19 21),o 23 (pf 17 22),m 24 23,y 25 24 (fa 3 2),y 26 24 (ld 1 25),y 27 24 (fa 3 3),y 28 24 (ld 1 27),y 29 24 (cg yB [26,28]),o 30 (pf 24 29),m 31 30,y 32 31 (fa 4 2),y 33 31 (ld 1 32),y 34 31 (fa 4 3),y 35 31 (ld 1 34),y 36 31 (cg uJ [33,35]),o 37 (pf 31 36),m 38 37,y 39 38 (fa 5 2),y 40 38 (ld 1 39),y 41 38 (fa 5 3),y 42 38 (ld 1 41),y 43 38 (cg xD [40,42]),o 44 (pf 38 43),m 45 44,y 46 45 (fa 6 2),y 47 45 (ld 1 46),y 48 45 (fa 6 3),y 49 45 (ld 1 48),y 50 45 (cg xD [47,49]),o 51 (pf 45 50),m 4 51]) r))⟩
def kV:List (List Nat):=[]
def uw:AFunc:=⟨68,[.tmp 4],(q (p [o 2 (bx 3 0),o 3 (bx 3 1),o 4 (v kf)]) (q (q (p [o 7 (fa 0 2),o 8 (ld 1 7),o 9 (fa 0 3),o 10 (ld 1 9),o 11 (cg xy [8,10]),o 12 (.un .not (.t 11)),m 13 12,z 14 13 (fa 1 2),z 15 13 (ld 1 14),z 16 13 (le 15),z 17 13 (fa 1 3),z 18 13 (ld 1 17),z 19 13 (le 18),z 20 13 (b .neq 16 19),o 21 (pt 13 20),m 22 21,z 23 22 (fa 2 2),z 24 22 (ld 1 23),z 25 22 (le 24),z 26 22 (fa 2 3),z 27 22 (ld 1 26),z 28 22 (le 27),z 29 22 (b .neq 25 28),o 30 (pt 22 29)]) (c 30 (q (p [o 4 (v kf)]) r) k)) (q (q (p [o 5 (v (ki 0))]) (bl 0 (lo [2,3,5] (q (q (p [m 31 5,o 32 (fa 1 2),o 33 (ld 1 32),o 34 (le 33),o 35 (b .lss 31 34)]) (c 35 k (e 0))) (q (bl 1 (q (.draw [o 38 (fa 1 2),o 39 (ld 1 38),m 40 5,o 41 (ia 1 39 40),o 42 (ld 1 41),o 43 (fa 1 3),o 44 (ld 1 43),m 45 5,o 46 (ia 1 44 45),o 47 (ld 1 46),o 48 (b .neq 42 47)]) (c 48 (q (p [o 4 (v kf)]) r) k))) (p [m 36 5,o 37 (bi .add 36 1),m 5 37])))))) (q (q (p [o 6 (v (ki 0))]) (bl 2 (lo [2,3,6] (q (q (p [m 49 6,o 50 (fa 2 2),o 51 (ld 1 50),o 52 (le 51),o 53 (b .lss 49 52)]) (c 53 k (e 2))) (q (bl 3 (q (.draw [o 56 (fa 2 2),o 57 (ld 1 56),m 58 6,o 59 (ia 7 57 58),o 60 (lg 7 59),o 61 (fa 2 3),o 62 (ld 1 61),m 63 6,o 64 (ia 7 62 63),o 65 (lg 7 64),o 66 (cg yf [60,65]),o 67 (.un .not (.t 66))]) (c 67 (q (p [o 4 (v kf)]) r) k))) (p [m 54 6,o 55 (bi .add 54 1),m 6 55])))))) (q (p [o 4 (v kt)]) r)))))⟩
def Wb:List (List Nat):=[[2,3,5],[2,3,6]]
def XA:AFunc:=⟨37,[.tmp 8],(q (p [o 4 (bx 3 0),o 8 (v kf)]) (q (p [o 13 (lg 3 4),o 14 (cg qM [13]),m 12 14,o 15 (ex 12 0),o 16 (ex 12 1),o 17 (ex 12 2),m 9 15,m 10 16,m 11 17]) (q (p [m 18 9,m 19 1,o 20 (b .eql 18 19),m 21 20,y 22 21 (mt 10),y 23 21 (mt 2),y 24 21 (b .eql 22 23),o 25 (pf 21 24),m 26 25,y 27 26 (mt 11),y 28 26 (mt 3),y 29 26 (b .eql 27 28),o 30 (pf 26 29),m 31 30,y 32 31 (lg 3 4),y 33 31 (cg xX [32]),y 34 31 (mt 3),y 35 31 (b .eql 33 34),o 36 (pf 31 35),m 8 36]) r)))⟩
def Xf:List (List Nat):=[]
def Xz:AFunc:=⟨32,[.cell 2 true 3],(q (p [o 1 (bx 4 0),o 2 (.alloc [.nils,.nils,.nils])]) (q (.draw [o 3 (.build [.int .u8 (0),iz,iz,.nils] [(0,1,(ku 2))]),o 4 (li 4 [3]),o 5 (.build [.str [],iz] [(0,1,(.c (.str [110])))]),o 6 (li 2 [5]),o 7 (.build [.int .u8 (0),iz,iz,iz] [(0,1,(ku 1)),(2,1,(ki 7))]),w 8 (lg 4 1),o 9 (.build [.int .u8 (0),iz,iz,iz] [(0,1,(ku 25)),(1,1,(ki (-1))),(2,1,(ki 1))]),o 10 (cg jb []),o 11 (li 4 [7,8,9,10]),o 12 (.build [iz,.int .u64 (0)] []),o 13 (.build [iz,.int .u64 (0)] [(0,1,(ki 2)),(1,1,(.c (.int .u64 (8))))]),o 14 (.build [iz,.int .u64 (0)] [(0,1,(ki 3))]),o 15 (li 2 [12,13,14]),o 16 (.build [iz,.int .u64 (0)] []),o 17 (.build [iz,.int .u64 (0)] [(0,1,(ki 1)),(1,1,(.c (.int .u64 (1))))]),o 18 (.build [iz,.int .u64 (0)] [(0,1,(ki 3))]),o 19 (li 2 [16,17,18]),o 20 (.build [.str [],iz,iz,.nils,.nils,.nils,.nils] [(0,1,(.c (.str [109,97,105,110]))),(2,1,(ki (-1))),(3,1,(.t 6)),(4,1,(.t 11)),(5,1,(.t 15)),(6,1,(.t 19))]),o 21 (.build [.str [],iz] [(0,1,(.c (.str [97])))]),o 22 (li 2 [21]),o 23 (cg jb []),o 24 (li 4 [23]),o 25 (.build [iz,.int .u64 (0)] []),o 26 (li 2 [25]),o 27 (.build [iz,.int .u64 (0)] []),o 28 (li 2 [27]),o 29 (.build [.str [],iz,iz,.nils,.nils,.nils,.nils] [(0,1,(.c (.str [102]))),(1,1,(ki 1)),(2,1,(ki (-1))),(3,1,(.t 22)),(4,1,(.t 24)),(5,1,(.t 26)),(6,1,(.t 28))]),o 30 (li 7 [20,29]),o 31 (.build [.nils,.nils,.nils] [(0,1,(.t 4)),(2,1,(.t 30))]),s 3 2 (.t 31)]) r))⟩
def Xe:List (List Nat):=[]
def vl:AFunc:=⟨6,[.tmp 2],(q (p [o 2 (v kn)]) (q (p [m 3 0,o 4 (.conv .u64 (.t 3)),o 5 (cg zu [4]),m 2 5]) r))⟩
def Y1:List (List Nat):=[]
def vm:AFunc:=⟨30,[.tmp 2],(q (p [o 2 (v kn)]) (q (p [m 5 0,o 6 (le 5),o 7 (cg zm [6]),m 3 7]) (q (q (p [o 4 (v (ki 0))]) (bl 0 (lo [0,3,4] (q (q (p [m 8 4,m 9 0,o 10 (le 9),o 11 (b .lss 8 10)]) (c 11 k (e 0))) (q (bl 1 (.draw [m 14 3,m 15 0,m 16 4,o 17 (ia 2 15 16),o 18 (fa 0 17),o 19 (ld 1 18),o 20 (cg yS [19]),o 21 (ap 1 1 14 20),m 22 0,m 23 4,o 24 (ia 2 22 23),o 25 (fa 1 24),w 26 (ld 1 25),o 27 (cg zm [26]),o 28 (ap 1 1 21 27),m 3 28])) (p [m 12 4,o 13 (bi .add 12 1),m 4 13])))))) (q (p [m 29 3,m 2 29]) r))))⟩
def Y2:List (List Nat):=[[0,3,4]]
def uE:AFunc:=⟨9,[.tmp 2],(q (p [o 2 (v kn)]) (q (p [m 3 0,o 4 (.lenS (.t 3)),o 5 (.conv .u64 (.t 4)),o 6 (cg zu [5]),m 7 0,o 8 (ap 1 1 6 7),m 2 8]) r))⟩
def Wj:List (List Nat):=[]
def va:AFunc:=⟨20,[.tmp 2],(q (p [o 2 (v kn)]) (q (p [o 3 (v kn)]) (q (bl 0 (lo [0,3] (q (q (p [m 4 0,o 5 (.bin .geq (.t 4) (.c (.int .u64 (128))))]) (c 5 k (e 0))) (bl 1 (q (p [m 6 3,m 7 0,o 8 (.bin .rem (.t 7) (.c (.int .u64 (128)))),o 9 (.conv .u8 (.t 8)),o 10 (bu .add 9 128),o 11 (li 1 [10]),o 12 (ap 1 1 6 11),m 3 12]) (p [m 13 0,o 14 (.bin .quo (.t 13) (.c (.int .u64 (128)))),m 0 14])))))) (q (p [m 15 3,m 16 0,o 17 (.conv .u8 (.t 16)),o 18 (li 1 [17]),o 19 (ap 1 1 15 18),m 2 19]) r))))⟩
def Zv:List (List Nat):=[[0,3]]
def vq:AFunc:=⟨14,[.tmp 2],(q (p [o 2 (v (.c (.int .u64 (0))))]) (q (q (p [m 3 0,o 4 (bi .geq 3 0)]) (c 4 (q (p [m 5 0,o 6 (.conv .u64 (.t 5)),o 7 (.bin .mul (.t 6) (.c (.int .u64 (2)))),m 2 7]) r) k)) (q (p [m 8 0,o 9 (bi .add 8 1),o 10 (.un .neg (.t 9)),o 11 (.conv .u64 (.t 10)),o 12 (.bin .mul (.t 11) (.c (.int .u64 (2)))),o 13 (.bin .add (.t 12) (.c (.int .u64 (1)))),m 2 13]) r)))⟩
def Y7:List (List Nat):=[]
def vL:AFunc:=⟨42,[.tmp 2],(q (p [o 1 (bx 4 0),o 2 (v kn)]) (q (p [o 7 (fa 0 1),o 8 (ld 1 7),o 9 (li 1 [8]),m 3 9]) (q (.draw [o 5 (.alloc [iz,iz,iz]),o 10 (fa 0 1),o 11 (ld 1 10),o 12 (cg xo [11]),w 13 (lg 4 1),o 14 (cg yO [13]),m 4 12,s 3 5 (.t 14)]) (q (q (p [o 6 (v (ki 0))]) (bl 0 (lo [3,4,5,6] (q (q (p [m 15 6,o 16 (bi .lss 15 3)]) (c 16 k (e 0))) (q (bl 1 (q (q (p [m 19 4,m 20 6,o 21 (.indexS (.t 19) (.t 20)),o 22 (bu .eql 21 45)]) (c 22 (e 1) k)) (q (p [m 23 4,m 24 6,o 25 (.indexS (.t 23) (.t 24)),o 26 (cg vx [25])]) (c 26 (p [m 27 3,m 28 6,o 29 (.iaddrA 3 1 (.t 5) (.t 28)),o 30 (ld 1 29),o 31 (cg x7 [30]),o 32 (cg zu [31]),o 33 (ap 1 1 27 32),m 3 33]) (p [m 34 3,m 35 6,o 36 (.iaddrA 3 1 (.t 5) (.t 35)),o 37 (ld 1 36),o 38 (.conv .u64 (.t 37)),o 39 (cg zu [38]),o 40 (ap 1 1 34 39),m 3 40]))))) (p [m 17 6,o 18 (bi .add 17 1),m 6 18])))))) (q (p [m 41 3,m 2 41]) r)))))⟩
def X5:List (List Nat):=[[3,4,5,6]]
def vJ:AFunc:=⟨41,[.tmp 2],(q (p [o 2 (v kn)]) (q (p [m 6 0,o 7 (le 6),o 8 (.conv .u64 (.t 7)),o 9 (cg zu [8]),m 3 9]) (q (p [o 4 (v (ki 0))]) (q (q (p [o 5 (v (ki 0))]) (bl 0 (lo [0,3,4,5] (q (q (p [m 10 5,m 11 0,o 12 (le 11),o 13 (b .lss 10 12)]) (c 13 k (e 0))) (q (bl 1 (q (p [m 16 3,m 17 0,m 18 5,o 19 (ia 2 17 18),o 20 (fa 0 19),o 21 (ld 1 20),m 22 4,o 23 (b .sub 21 22),o 24 (.conv .u64 (.t 23)),o 25 (cg zu [24]),o 26 (ap 1 1 16 25),m 3 26]) (q (p [m 27 3,m 28 0,m 29 5,o 30 (ia 2 28 29),o 31 (fa 1 30),o 32 (ld 1 31),o 33 (cg zu [32]),o 34 (ap 1 1 27 33),m 3 34]) (p [m 35 0,m 36 5,o 37 (ia 2 35 36),o 38 (fa 0 37),o 39 (ld 1 38),m 4 39])))) (p [m 14 5,o 15 (bi .add 14 1),m 5 15])))))) (q (p [m 40 3,m 2 40]) r)))))⟩
def X3:List (List Nat):=[[0,3,4,5]]
def uD:AFunc:=⟨29,[.tmp 2],(q (p [o 2 (v kn)]) (q (p [o 3 (v kn)]) (q (q (p [o 4 (v (ki 0))]) (bl 0 (lo [0,3,4] (q (q (p [m 6 4,m 7 0,o 8 (le 7),o 9 (b .lss 6 8)]) (c 9 k (e 0))) (q (bl 1 (q (p [m 12 0,m 13 4,o 14 (ia 4 12 13),o 15 (lg 4 14),o 5 (.alloc [.int .u8 (0),iz,iz,.nils]),s 4 5 (.t 15)]) (q (p [o 16 (li 2 []),m 17 0,m 18 4,o 19 (ia 4 17 18),o 20 (fa 3 19),o 21 (ld 1 20),o 22 (ap 2 24 16 21),o 23 (fa 3 5),s 1 23 (.t 22)]) (p [m 24 3,o 25 (lg 4 5),o 26 (li 4 [25]),o 27 (ap 4 48 24 26),m 3 27])))) (p [m 10 4,o 11 (bi .add 10 1),m 4 11])))))) (q (p [m 28 3,m 2 28]) r))))⟩
def Wi:List (List Nat):=[[0,3,4]]
def Zd:AFunc:=⟨11,[.tmp 2],(q (p [o 1 (bx 3 0),o 2 (v (ki 0))]) (q (p [o 6 (lg 3 1),o 7 (cg jZ [6]),m 5 7,o 8 (ex 5 0),o 9 (ex 5 1),m 3 8,m 4 9]) (q (p [m 10 4,m 2 10]) r)))⟩
def z1e:List (List Nat):=[]
def jk:AFunc:=⟨162,[.cell 4 true 4],(q (p [o 2 (bx 3 0),o 4 (.alloc [.nils,.nils,iz,iz])]) (q (.draw [o 5 (.alloc [.nils,.nils,.nils,.str [],iz,iz,.nils,.nils,.nils,.nils]),o 22 (lg 3 2),o 23 (fa 2 2),o 24 (ld 1 23),m 25 1,o 26 (ia 7 24 25),o 27 (lg 7 26),o 28 (.build [.nils,.nils,.nils,.str [],iz,iz,.nils,.nils,.nils,.nils] [(0,3,(.t 22)),(3,7,(.t 27))]),s 10 5 (.t 28)]) (q (p [o 29 (fa 3 5),o 30 (fa 4 29),o 31 (ld 1 30),m 6 31]) (q (p [m 33 6,o 34 (cg qi [33]),m 32 34,o 35 (ex 32 0),o 36 (ex 32 1),m 7 35,m 8 36]) (q (q (p [m 37 8,o 38 (bi .neq 37 0)]) (c 38 (q (p [o 39 (.build [.nils,.nils,iz,iz] [(2,1,(ki (-1))),(3,1,(ki 12))]),s 4 4 (.t 39)]) r) k)) (q (q (p [m 40 1,o 41 (bi .eql 40 0),m 42 41,y 43 42 (fa 3 5),y 44 42 (fa 1 43),y 45 42 (ld 1 44),y 46 42 (bi .gtr 45 0),y 47 42 (mt 46),z 48 47 (fa 3 5),z 49 47 (fa 2 48),z 50 47 (ld 1 49),z 51 47 (bi .geq 50 0),y 52 42 (pt 47 51),o 53 (pf 42 52)]) (c 53 (q (p [o 54 (.build [.nils,.nils,iz,iz] [(2,1,(ki (-1))),(3,1,(ki 30))]),s 4 4 (.t 54)]) r) k)) (q (q (p [m 55 6,o 56 (le 55),o 57 (v (ki 0))]) (bl 0 (lo [4,5,6,7,55,56,57] (q (p [o 58 (b .lss 57 56)]) (q (c 58 k (e 0)) (q (bl 1 (q (p [m 59 57,o 60 (ia 4 55 57),o 61 (lg 4 60),o 10 (.alloc [.int .u8 (0),iz,iz,iz]),m 9 59,s 4 10 (.t 61)]) (bl 2 (q (p [o 63 (lg 10 5),o 64 (lg 4 10),o 65 (cg uc [63,64]),o 66 (bi .neq 65 0),m 62 66]) (c 62 (q (p [m 67 9,o 68 (.build [.nils,.nils,iz,iz] [(2,1,(.t 67)),(3,1,(ki 16))]),s 4 4 (.t 68)]) r) (q (p [m 70 7,m 71 9,o 72 (ia 1 70 71),o 73 (ld 1 72),o 74 (.un .not (.t 73)),m 69 74]) (c 69 (q (p [m 75 9,o 76 (.build [.nils,.nils,iz,iz] [(2,1,(.t 75)),(3,1,(ki 6))]),s 4 4 (.t 76)]) r) (q (p [o 78 (lg 10 5),o 79 (lg 4 10),o 80 (cg zL [78,79]),o 81 (.un .not (.t 80)),m 77 81]) (c 77 (q (p [m 82 9,o 83 (.build [.nils,.nils,iz,iz] [(2,1,(.t 82)),(3,1,(ki 30))]),s 4 4 (.t 83)]) r) k))))))))) (p [o 84 (bi .add 57 1),m 57 84]))))))) (q (p [o 86 (lg 10 5),o 87 (cg xV [86]),m 85 87,o 88 (ex 85 0),o 89 (ex 85 1),m 11 88,m 12 89]) (q (q (p [m 90 12,o 91 (.un .not (.t 90))]) (c 91 (q (p [o 92 (.build [.nils,.nils,iz,iz] [(2,1,(ki (-1))),(3,1,(ki 36))]),s 4 4 (.t 92)]) r) k)) (q (p [m 94 6,o 95 (fa 3 5),o 96 (fa 1 95),o 97 (ld 1 96),o 98 (fa 3 5),o 99 (fa 3 98),o 100 (ld 1 99),o 101 (le 100),o 102 (cg Yx [94,97,101]),m 93 102,o 103 (ex 93 0),o 104 (ex 93 1),m 13 103,m 8 104]) (q (q (p [m 105 8,o 106 (bi .neq 105 0)]) (c 106 (q (p [m 107 8,o 108 (.build [.nils,.nils,iz,iz] [(2,1,(ki (-1))),(3,1,(.t 107))]),s 4 4 (.t 108)]) r) k)) (q (q (p [m 109 6,o 110 (le 109),o 111 (v (ki 0))]) (bl 3 (lo [4,11,13,109,110,111] (q (p [o 112 (b .lss 111 110)]) (q (c 112 k (e 3)) (q (bl 4 (q (p [m 113 111,o 114 (ia 4 109 111),o 115 (lg 4 114),o 15 (.alloc [.int .u8 (0),iz,iz,iz]),m 14 113,s 4 15 (.t 115)]) (q (p [o 117 (lg 4 15),o 118 (cg j0 [117]),m 116 118,o 119 (ex 116 0),o 120 (ex 116 1),o 121 (ex 116 2),m 16 119,m 17 120,m 18 121]) (q (p [m 122 16,o 123 (le 122),o 124 (v (ki 0))]) (bl 5 (lo [4,11,13,14,18,109,110,111,122,123,124] (q (p [o 125 (b .lss 124 123)]) (q (c 125 k (e 5)) (q (bl 6 (q (p [o 126 (ia 1 122 124),o 127 (ld 1 126),m 20 127]) (q (p [m 128 18,o 129 (bi .neq 128 0),m 130 129,z 131 130 (mt 13),z 132 130 (mt 14),z 133 130 (ia 1 131 132),z 134 130 (ld 1 133),z 135 130 (mt 20),z 136 130 (b .shr 134 135),z 137 130 (.bin .and (.t 136) (.c (.int .u64 (1)))),z 138 130 (.bin .eql (.t 137) (.c (.int .u64 (0)))),o 139 (pt 130 138)]) (c 139 (q (p [m 140 14,o 141 (.build [.nils,.nils,iz,iz] [(2,1,(.t 140)),(3,1,(ki 38))]),s 4 4 (.t 141)]) r) k)))) (p [o 142 (bi .add 124 1),m 124 142])))))))))) (p [o 143 (bi .add 111 1),m 111 143]))))))) (q (p [o 21 (.alloc [.nils,.nils,iz,iz])]) (q (p [m 145 11,o 146 (cg qK [145]),m 144 146,o 147 (ex 144 0),o 148 (ex 144 1),o 149 (fa 0 21),s 1 149 (.t 147),o 150 (fa 3 21),s 1 150 (.t 148)]) (q (q (p [o 151 (fa 3 21),o 152 (ld 1 151),o 153 (bi .eql 152 0)]) (c 153 (p [m 155 13,o 156 (cg qK [155]),m 154 156,o 157 (ex 154 0),o 158 (ex 154 1),o 159 (fa 1 21),s 1 159 (.t 157),o 160 (fa 3 21),s 1 160 (.t 158)]) k)) (q (p [o 161 (lg 4 21),s 4 4 (.t 161)]) r))))))))))))))))⟩
def z33:List (List Nat):=[[4,5,6,7,55,56,57],[4,11,13,109,110,111],[4,11,13,14,18,109,110,111,122,123,124]]
def yL:AFunc:=⟨26,[.tmp 4],(q (p [o 4 (v kf)]) (q (q (p [m 6 0,o 7 (le 6),m 8 1,o 9 (le 8),o 10 (b .neq 7 9)]) (c 10 (q (p [o 4 (v kf)]) r) k)) (q (q (p [m 11 0,o 12 (le 11),o 13 (v (ki 0))]) (bl 0 (lo [0,1,12,13] (q (p [o 14 (b .lss 13 12)]) (q (c 14 k (e 0)) (q (bl 1 (q (p [m 15 13,m 5 15]) (q (.draw [m 16 0,m 17 5,o 18 (ia 2 16 17),o 19 (lg 2 18),m 20 1,m 21 5,o 22 (ia 2 20 21),o 23 (lg 2 22),o 24 (.ext (.eqA true 2 [(0,1),(1,1)] (.t 19) (.t 23)))]) (c 24 (q (p [o 4 (v kf)]) r) k)))) (p [o 25 (bi .add 13 1),m 13 25]))))))) (q (p [o 4 (v kt)]) r))))⟩
def qu:List (List Nat):=[[0,1,12,13]]
def vQ:AFunc:=⟨42,[.tmp 2],(q (p [o 2 (v kf)]) (q (q (p [m 5 0,o 6 (le 5),o 7 (bi .gtr 6 40)]) (c 7 (q (p [o 2 (v kt)]) r) k)) (q (q (p [o 3 (v (ki 0))]) (bl 0 (lo [0,3] (q (q (p [m 8 3,m 9 0,o 10 (le 9),o 11 (b .lss 8 10)]) (c 11 k (e 0))) (q (bl 1 (q (q (p [m 14 0,m 15 3,o 16 (ia 4 14 15),o 17 (fa 3 16),o 18 (ld 1 17),o 19 (le 18),o 20 (bi .gtr 19 20)]) (c 20 (q (p [o 2 (v kt)]) r) k)) (q (p [o 4 (v (ki 0))]) (bl 2 (lo [0,3,4] (q (q (p [m 21 4,m 22 0,m 23 3,o 24 (ia 4 22 23),o 25 (fa 3 24),o 26 (ld 1 25),o 27 (le 26),o 28 (b .lss 21 27)]) (c 28 k (e 2))) (q (bl 3 (q (p [m 31 0,m 32 3,o 33 (ia 4 31 32),o 34 (fa 3 33),o 35 (ld 1 34),m 36 4,o 37 (ia 2 35 36),o 38 (fa 0 37),o 39 (ld 1 38),o 40 (.lenS (.t 39)),o 41 (bi .gtr 40 100)]) (c 41 (q (p [o 2 (v kt)]) r) k))) (p [m 29 4,o 30 (bi .add 29 1),m 4 30])))))))) (p [m 12 3,o 13 (bi .add 12 1),m 3 13])))))) (q (p [o 2 (v kf)]) r))))⟩
def Xa:List (List Nat):=[[0,3],[0,3,4]]
def ux:AFunc:=⟨96,[.tmp 2],(q (p [o 1 (bx 3 0),o 2 (v kf)]) (q (q (p [o 9 (fa 0 1),o 10 (ld 1 9),o 11 (cg xr [10]),o 12 (bi .neq 11 0),m 13 12,z 14 13 (fa 1 1),z 15 13 (ld 1 14),z 16 13 (le 15),z 17 13 (bi .gtr 16 32),o 18 (pt 13 17),m 19 18,z 20 19 (fa 2 1),z 21 19 (ld 1 20),z 22 19 (le 21),z 23 19 (bi .lss 22 1),o 24 (pt 19 23),m 25 24,z 26 25 (fa 2 1),z 27 25 (ld 1 26),z 28 25 (le 27),z 29 25 (bi .gtr 28 32),o 30 (pt 25 29)]) (c 30 (q (p [o 2 (v kf)]) r) k)) (q (p [o 32 (fa 0 1),o 33 (ld 1 32),o 34 (cg xp [33]),m 31 34,o 35 (ex 31 0),o 36 (ex 31 1),m 3 35,m 4 36]) (q (q (p [o 5 (v (ki 0))]) (bl 0 (lo [1,3,5] (q (q (p [m 37 5,m 38 3,o 39 (le 38),o 40 (b .lss 37 39)]) (c 40 k (e 0))) (q (bl 1 (q (p [m 43 3,m 44 5,o 45 (ia 1 43 44),o 46 (ld 1 45),o 47 (bi .gtr 46 256)]) (c 47 (q (p [o 2 (v kf)]) r) k))) (p [m 41 5,o 42 (bi .add 41 1),m 5 42])))))) (q (q (p [o 6 (v (ki 0))]) (bl 2 (lo [1,6] (q (q (p [m 48 6,o 49 (fa 1 1),o 50 (ld 1 49),o 51 (le 50),o 52 (b .lss 48 51)]) (c 52 k (e 2))) (q (bl 3 (q (p [o 55 (fa 1 1),o 56 (ld 1 55),m 57 6,o 58 (ia 1 56 57),o 59 (ld 1 58),o 60 (.lenS (.t 59)),o 61 (bi .gtr 60 64)]) (c 61 (q (p [o 2 (v kf)]) r) k))) (p [m 53 6,o 54 (bi .add 53 1),m 6 54])))))) (q (q (p [o 7 (v (ki 0))]) (bl 4 (lo [1,7] (q (q (p [m 62 7,o 63 (fa 2 1),o 64 (ld 1 63),o 65 (le 64),o 66 (b .lss 62 65)]) (c 66 k (e 4))) (q (bl 5 (q (q (.draw [o 69 (fa 0 1),o 70 (ld 1 69),o 71 (fa 2 1),o 72 (ld 1 71),m 73 7,o 74 (ia 7 72 73),o 75 (lg 7 74),o 76 (cg xS [70,75]),o 77 (.un .not (.t 76))]) (c 77 (q (p [o 2 (v kf)]) r) k)) (q (p [o 8 (v (ki 0))]) (bl 6 (lo [1,7,8] (q (q (p [m 78 8,m 79 7,o 80 (b .lss 78 79)]) (c 80 k (e 6))) (q (bl 7 (q (.draw [o 83 (fa 2 1),o 84 (ld 1 83),m 85 8,o 86 (ia 7 84 85),o 87 (fa 0 86),o 88 (ld 1 87),o 89 (fa 2 1),o 90 (ld 1 89),m 91 7,o 92 (ia 7 90 91),o 93 (fa 0 92),o 94 (ld 1 93),o 95 (b .eql 88 94)]) (c 95 (q (p [o 2 (v kf)]) r) k))) (p [m 81 8,o 82 (bi .add 81 1),m 8 82])))))))) (p [m 67 7,o 68 (bi .add 67 1),m 7 68])))))) (q (p [o 2 (v kt)]) r)))))))⟩
def Wc:List (List Nat):=[[1,3,5],[1,6],[1,7],[1,7,8]]
def vM:AFunc:=⟨26,[.tmp 2],(q (p [o 1 (bx 4 0),o 2 (v (ki 0))]) (q (.draw [o 4 (.alloc [iz,iz,iz]),o 6 (fa 0 1),o 7 (ld 1 6),o 8 (cg xo [7]),w 9 (lg 4 1),o 10 (cg yO [9]),m 3 8,s 3 4 (.t 10)]) (q (q (p [m 11 3,o 12 (.lenS (.t 11)),o 13 (bi .neq 12 3)]) (c 13 (q (p [o 2 (v (ki 8))]) r) k)) (q (q (p [o 5 (v (ki 0))]) (bl 0 (lo [3,4,5] (q (q (p [m 14 5,o 15 (bi .lss 14 3)]) (c 15 k (e 0))) (q (bl 1 (q (.draw [m 18 3,m 19 5,o 20 (.indexS (.t 18) (.t 19)),m 21 5,o 22 (.iaddrA 3 1 (.t 4) (.t 21)),o 23 (ld 1 22),o 24 (cg uK [20,23]),o 25 (.un .not (.t 24))]) (c 25 (q (p [o 2 (v (ki 8))]) r) k))) (p [m 16 5,o 17 (bi .add 16 1),m 5 17])))))) (q (p [o 2 (v (ki 0))]) r)))))⟩
def X6:List (List Nat):=[[3,4,5]]
def vc:AFunc:=⟨13,[.tmp 4],(q (p [o 4 (v kf)]) (q (p [m 5 1,o 6 (bi .geq 5 0),m 7 6,y 8 7 (mt 1),y 9 7 (mt 0),y 10 7 (le 9),y 11 7 (b .lss 8 10),o 12 (pf 7 11),m 4 12]) r))⟩
def Zx:List (List Nat):=[]
def vX:AFunc:=⟨57,[.tmp 4],(q (p [o 2 (bx 10 0),o 3 (bx 4 1),o 4 (v (ki 0))]) (q (p [o 12 (lg 4 3),o 13 (cg j0 [12]),m 11 13,o 14 (ex 11 0),o 15 (ex 11 1),o 16 (ex 11 2),m 5 14,m 6 15,m 7 16]) (q (q (p [m 17 7,o 18 (bi .neq 17 0)]) (c 18 (q (p [m 19 7,m 4 19]) r) k)) (q (q (p [m 20 5,m 21 6,o 22 (ap 1 8 20 21),o 23 (le 22),o 24 (v (ki 0))]) (bl 0 (lo [2,3,22,23,24] (q (p [o 25 (b .lss 24 23)]) (q (c 25 k (e 0)) (q (bl 1 (q (p [o 26 (ia 1 22 24),o 27 (ld 1 26),m 9 27]) (q (p [o 28 (fa 3 2),o 29 (fa 3 28),o 30 (ld 1 29),m 31 9,o 32 (cg yg [30,31]),o 33 (.un .not (.t 32))]) (c 33 (q (p [o 4 (v (ki 16))]) r) k)))) (p [o 34 (bi .add 24 1),m 24 34]))))))) (q (q (p [o 35 (lg 4 3),o 36 (cg uS [35]),m 10 36]) (q (p [m 37 10,o 38 (fa 0 2),o 39 (fa 2 38),o 40 (ld 1 39),o 41 (le 40),o 42 (b .geq 37 41),m 43 42,z 44 43 (fa 0 3),z 45 43 (ld 1 44),z 46 43 (bu .eql 45 2),z 47 43 (mt 46),y 48 47 (fa 0 2),y 49 47 (fa 1 48),y 50 47 (ld 1 49),y 51 47 (fa 2 3),y 52 47 (ld 1 51),y 53 47 (cg ua [50,52]),y 54 47 (.un .not (.t 53)),z 55 43 (pf 47 54),o 56 (pt 43 55)]) (c 56 (q (p [o 4 (v (ki 16))]) r) k))) (q (p [o 4 (v (ki 0))]) r))))))⟩
def Xr:List (List Nat):=[[2,3,22,23,24]]
def zY:AFunc:=⟨244,[.tmp 4],(q (p [o 2 (bx 10 0),o 3 (bx 4 1),o 4 (v kf)]) (q (.draw [o 10 (lg 10 2),o 11 (fa 1 3),o 12 (ld 1 11),o 13 (cg zl [10,12]),w 14 (lg 10 2),o 15 (fa 2 3),w 16 (ld 1 15),o 17 (cg zl [14,16]),w 18 (lg 10 2),o 19 (fa 3 3),w 20 (ld 1 19),o 21 (cg zl [18,20]),m 5 13,m 6 17,m 7 21]) (q (p [o 22 (.mkfn (.func xU) [] [(.t 2)]),m 8 22]) (q (p [o 23 (.mkfn (.func xT) [] [(.t 2)]),m 9 23]) (q (q (p [o 24 (fa 0 3),o 25 (ld 1 24)]) (bl 0 (q (q (p [o 27 (bu .eql 25 1),m 26 27]) (c 26 k (p [o 28 (bu .eql 25 32),m 26 28]))) (c 26 (q (p [m 29 8,m 30 5,o 31 (li 1 [30]),o 32 (.call (.t 29) [(.t 31)]),m 4 32]) r) (q (p [o 34 (bu .eql 25 2),m 33 34]) (c 33 (q (p [o 35 (lg 10 2),m 36 5,o 37 (.lit 1 [(ku 3)]),o 38 (cg zt [35,36,37]),m 4 38]) r) (q (q (p [o 40 (bu .eql 25 3),m 39 40]) (c 39 k (p [o 41 (bu .eql 25 23),m 39 41]))) (c 39 (q (p [m 42 9,m 43 5,o 44 (.call (.t 42) [(.t 43)]),m 4 44]) r) (q (p [o 46 (bu .eql 25 5),m 45 46]) (c 45 (q (p [m 47 5,m 48 6,o 49 (b .eql 47 48),m 4 49]) r) (q (q (p [o 51 (bu .eql 25 6),m 50 51]) (c 50 k (q (p [o 52 (bu .eql 25 7),m 50 52]) (c 50 k (q (p [o 53 (bu .eql 25 8),m 50 53]) (c 50 k (p [o 54 (bu .eql 25 9),m 50 54]))))))) (c 50 (q (p [m 55 8,m 56 5,m 57 6,m 58 7,o 59 (li 1 [56,57,58]),o 60 (.call (.t 55) [(.t 59)]),m 4 60]) r) (q (p [o 62 (bu .eql 25 10),m 61 62]) (c 61 (q (p [m 63 9,m 64 5,o 65 (.call (.t 63) [(.t 64)]),m 66 65,y 67 66 (mt 8),y 68 66 (mt 6),y 69 66 (mt 7),y 70 66 (li 1 [68,69]),y 71 66 (.call (.t 67) [(.t 70)]),o 72 (pf 66 71),m 4 72]) r) (q (p [o 74 (bu .eql 25 11),m 73 74]) (c 73 (q (p [m 75 9,m 76 5,o 77 (.call (.t 75) [(.t 76)]),m 78 77,y 79 78 (mt 6),y 80 78 (mt 7),y 81 78 (b .eql 79 80),o 82 (pf 78 81),m 83 82,y 84 83 (lg 10 2),y 85 83 (mt 6),y 86 83 (.lit 1 [(ku 2),(ku 1),(ku 4)]),y 87 83 (cg zt [84,85,86]),o 88 (pf 83 87),m 4 88]) r) (q (p [o 90 (bu .eql 25 12),m 89 90]) (c 89 (q (p [m 91 9,m 92 5,o 93 (.call (.t 91) [(.t 92)]),m 94 93,y 95 94 (mt 9),y 96 94 (mt 6),y 97 94 (.call (.t 95) [(.t 96)]),o 98 (pf 94 97),m 4 98]) r) (q (p [o 100 (bu .eql 25 13),m 99 100]) (c 99 (q (p [o 101 (lg 10 2),m 102 6,o 103 (fa 3 3),o 104 (ld 1 103),m 105 5,o 106 (cg yX [101,102,104,105]),m 4 106]) r) (q (p [o 108 (bu .eql 25 14),m 107 108]) (c 107 (q (p [o 109 (lg 10 2),m 110 5,o 111 (fa 2 3),o 112 (ld 1 111),m 113 7,o 114 (cg yX [109,110,112,113]),m 4 114]) r) (q (p [o 116 (bu .eql 25 15),m 115 116]) (c 115 (q (p [o 117 (lg 10 2),m 118 5,o 119 (.lit 1 [(ku 4)]),o 120 (cg zt [117,118,119]),m 4 120]) r) (q (p [o 122 (bu .eql 25 16),m 121 122]) (c 121 (q (p [o 123 (lg 10 2),m 124 6,m 125 5,o 126 (.lit 1 [(ku 4)]),o 127 (cg ye [123,124,125,126]),m 4 127]) r) (q (p [o 129 (bu .eql 25 17),m 128 129]) (c 128 (q (p [o 130 (lg 10 2),m 131 5,m 132 6,o 133 (.lit 1 [(ku 4)]),o 134 (cg ye [130,131,132,133]),m 4 134]) r) (q (p [o 136 (bu .eql 25 18),m 135 136]) (c 135 (q (p [o 137 (lg 10 2),m 138 5,o 139 (.lit 1 [(ku 7)]),o 140 (cg zt [137,138,139]),m 141 140,y 142 141 (mt 8),y 143 141 (mt 6),y 144 141 (li 1 [143]),y 145 141 (.call (.t 142) [(.t 144)]),o 146 (pf 141 145),m 4 146]) r) (q (p [o 148 (bu .eql 25 19),m 147 148]) (c 147 (q (p [o 149 (lg 10 2),m 150 6,m 151 5,o 152 (.lit 1 [(ku 7),(ku 6)]),o 153 (cg ye [149,150,151,152]),m 154 153,y 155 154 (mt 8),y 156 154 (mt 7),y 157 154 (li 1 [156]),y 158 154 (.call (.t 155) [(.t 157)]),o 159 (pf 154 158),m 4 159]) r) (q (p [o 161 (bu .eql 25 20),m 160 161]) (c 160 (q (p [o 162 (lg 10 2),m 163 5,m 164 7,o 165 (.lit 1 [(ku 7),(ku 6)]),o 166 (cg ye [162,163,164,165]),m 167 166,y 168 167 (mt 8),y 169 167 (mt 6),y 170 167 (li 1 [169]),y 171 167 (.call (.t 168) [(.t 170)]),o 172 (pf 167 171),m 4 172]) r) (q (p [o 174 (bu .eql 25 21),m 173 174]) (c 173 (q (p [m 175 8,m 176 5,o 177 (li 1 [176]),o 178 (.call (.t 175) [(.t 177)]),m 179 178,y 180 179 (lg 10 2),y 181 179 (mt 6),y 182 179 (.lit 1 [(ku 3),(ku 7),(ku 6)]),y 183 179 (cg zt [180,181,182]),o 184 (pf 179 183),m 4 184]) r) (q (p [o 186 (bu .eql 25 25),m 185 186]) (c 185 (q (p [o 187 (fa 1 3),o 188 (ld 1 187),o 189 (bi .lss 188 0),m 190 189,z 191 190 (fa 0 2),z 192 190 (fa 2 191),z 193 190 (ld 1 192),z 194 190 (fa 2 3),z 195 190 (ld 1 194),z 196 190 (ia 7 193 195),z 197 190 (fa 2 196),z 198 190 (ld 1 197),z 199 190 (mt 5),z 200 190 (b .eql 198 199),o 201 (pt 190 200),m 4 201]) r) (q (q (p [o 203 (bu .eql 25 26),m 202 203]) (c 202 k (p [o 204 (bu .eql 25 27),m 202 204]))) (c 202 (q (.draw [o 205 (lg 10 2),o 206 (fa 0 2),o 207 (fa 2 206),o 208 (ld 1 207),o 209 (fa 1 3),o 210 (ld 1 209),o 211 (ia 7 208 210),o 212 (lg 7 211),o 213 (cg vA [205,212]),m 4 213]) r) (q (p [o 215 (bu .eql 25 28),m 214 215]) (c 214 (q (p [o 216 (lg 10 2),m 217 5,o 218 (.lit 1 [(ku 2),(ku 1),(ku 3)]),o 219 (cg zt [216,217,218]),m 4 219]) r) (q (q (p [o 221 (bu .eql 25 29),m 220 221]) (c 220 k (p [o 222 (bu .eql 25 33),m 220 222]))) (c 220 (q (p [m 223 9,m 224 5,o 225 (.call (.t 223) [(.t 224)]),m 226 225,y 227 226 (mt 8),y 228 226 (mt 6),y 229 226 (li 1 [228]),y 230 226 (.call (.t 227) [(.t 229)]),o 231 (pf 226 230),m 4 231]) r) (q (p [o 233 (bu .eql 25 34),m 232 233]) (c 232 (q (p [o 234 (fa 1 3),o 235 (ld 1 234),o 236 (bi .lss 235 0),m 237 236,z 238 237 (fa 3 2),z 239 237 (fa 2 238),z 240 237 (ld 1 239),z 241 237 (mt 5),z 242 237 (b .eql 240 241),o 243 (pt 237 242),m 4 243]) r) k)))))))))))))))))))))))))))))))))))))))))))))) (q (p [o 4 (v kt)]) r))))))⟩
def Y9:List (List Nat):=[]
def WI:AFunc:=⟨54,[.tmp 2,.tmp 3,.tmp 4],(q (p [o 1 (bx 4 0),o 2 (v kn),o 3 (v kn),o 4 (v (ki 0))]) (q (q (p [o 10 (lg 4 1),o 11 (cg tN [10]),m 5 11]) (q (p [m 12 5,o 13 (bi .neq 12 0)]) (c 13 (q (p [m 14 5,o 2 (v kn),o 3 (v kn),m 4 14]) r) k))) (q (p [o 16 (fa 0 1),o 17 (ld 1 16),o 18 (cg qZ [17]),m 15 18,o 19 (ex 15 0),o 20 (ex 15 1),o 6 (.alloc [iz,iz,.bool false,.bool false,iz,iz,.bool false,.bool false,iz,iz,.bool false,.bool false]),s 12 6 (.t 19),m 7 20]) (q (q (p [o 21 (lg 4 1),o 22 (cg uP [21]),o 23 (v (ki 0))]) (bl 0 (lo [2,3,6,22,23] (q (p [o 24 (bi .lss 23 3)]) (q (c 24 k (e 0)) (q (bl 1 (q (p [m 25 23,o 26 (.indexA 3 1 false (.t 22) (.t 23)),m 8 25,m 9 26]) (q (q (p [m 27 8,o 28 (.iaddrA 3 4 (.t 6) (.t 27)),o 29 (fa 2 28),o 30 (ld 1 29),m 31 30,y 32 31 (mt 9),y 33 31 (bi .geq 32 0),o 34 (pf 31 33)]) (c 34 (p [m 35 2,m 36 9,o 37 (li 1 [36]),o 38 (ap 1 8 35 37),m 2 38]) k)) (q (p [m 39 8,o 40 (.iaddrA 3 4 (.t 6) (.t 39)),o 41 (fa 3 40),o 42 (ld 1 41),m 43 42,y 44 43 (mt 9),y 45 43 (bi .geq 44 0),o 46 (pf 43 45)]) (c 46 (p [m 47 3,m 48 9,o 49 (li 1 [48]),o 50 (ap 1 8 47 49),m 3 50]) k))))) (p [o 51 (bi .add 23 1),m 23 51]))))))) (q (p [m 52 2,m 53 3,m 2 52,m 3 53,o 4 (v (ki 0))]) r)))))⟩
def z4m:List (List Nat):=[[2,3,6,22,23]]
def vW:AFunc:=⟨18,[.tmp 4],(q (p [o 2 (bx 10 0),o 4 (v (ki 0))]) (q (q (p [o 5 (fa 3 2),o 6 (fa 3 5),o 7 (ld 1 6),m 8 1,o 9 (cg yg [7,8]),o 10 (.un .not (.t 9))]) (c 10 (q (p [o 4 (v (ki (-1)))]) r) k)) (q (p [o 11 (fa 3 2),o 12 (fa 3 11),o 13 (ld 1 12),m 14 1,o 15 (ia 2 13 14),o 16 (fa 1 15),o 17 (ld 1 16),m 4 17]) r)))⟩
def Xq:List (List Nat):=[]
def vK:AFunc:=⟨57,[.tmp 2],(q (p [o 2 (v (.c (.str [])))]) (q (q (p [m 3 0]) (bl 0 (q (p [o 5 (bu .eql 3 1),m 4 5]) (c 4 (q (p [o 2 (v (.c (.str [119,110,45])))]) r) (q (p [o 7 (bu .eql 3 2),m 6 7]) (c 6 (q (p [o 2 (v (.c (.str [119,116,45])))]) r) (q (p [o 9 (bu .eql 3 3),m 8 9]) (c 8 (q (p [o 2 (v (.c (.str [119,98,45])))]) r) (q (q (p [o 11 (bu .eql 3 4),m 10 11]) (c 10 k (p [o 12 (bu .eql 3 15),m 10 12]))) (c 10 (q (p [o 2 (v (.c (.str [119,45,45])))]) r) (q (q (p [o 14 (bu .eql 3 5),m 13 14]) (c 13 k (q (p [o 15 (bu .eql 3 12),m 13 15]) (c 13 k (q (p [o 16 (bu .eql 3 16),m 13 16]) (c 13 k (q (p [o 17 (bu .eql 3 18),m 13 17]) (c 13 k (p [o 18 (bu .eql 3 21),m 13 18]))))))))) (c 13 (q (p [o 2 (v (.c (.str [119,114,45])))]) r) (q (q (p [o 20 (bu .eql 3 6),m 19 20]) (c 19 k (q (p [o 21 (bu .eql 3 7),m 19 21]) (c 19 k (q (p [o 22 (bu .eql 3 8),m 19 22]) (c 19 k (q (p [o 23 (bu .eql 3 9),m 19 23]) (c 19 k (q (p [o 24 (bu .eql 3 10),m 19 24]) (c 19 k (q (p [o 25 (bu .eql 3 11),m 19 25]) (c 19 k (p [o 26 (bu .eql 3 19),m 19 26]))))))))))))) (c 19 (q (p [o 2 (v (.c (.str [119,114,114])))]) r) (q (p [o 28 (bu .eql 3 13),m 27 28]) (c 27 (q (p [o 2 (v (.c (.str [119,114,102])))]) r) (q (p [o 30 (bu .eql 3 14),m 29 30]) (c 29 (q (p [o 2 (v (.c (.str [114,102,114])))]) r) (q (p [o 32 (bu .eql 3 17),m 31 32]) (c 31 (q (p [o 2 (v (.c (.str [114,114,45])))]) r) (q (p [o 34 (bu .eql 3 20),m 33 34]) (c 33 (q (p [o 2 (v (.c (.str [114,114,114])))]) r) (q (p [o 36 (bu .eql 3 22),m 35 36]) (c 35 (q (p [o 2 (v (.c (.str [105,45,45])))]) r) (q (p [o 38 (bu .eql 3 23),m 37 38]) (c 37 (q (p [o 2 (v (.c (.str [114,105,45])))]) r) (q (q (p [o 40 (bu .eql 3 24),m 39 40]) (c 39 k (q (p [o 41 (bu .eql 3 28),m 39 41]) (c 39 k (p [o 42 (bu .eql 3 32),m 39 42]))))) (c 39 (q (p [o 2 (v (.c (.str [114,45,45])))]) r) (q (p [o 44 (bu .eql 3 25),m 43 44]) (c 43 (q (p [o 2 (v (.c (.str [103,99,45])))]) r) (q (q (p [o 46 (bu .eql 3 26),m 45 46]) (c 45 k (p [o 47 (bu .eql 3 27),m 45 47]))) (c 45 (q (p [o 2 (v (.c (.str [99,45,45])))]) r) (q (p [o 49 (bu .eql 3 29),m 48 49]) (c 48 (q (p [o 2 (v (.c (.str [119,119,45])))]) r) (q (q (p [o 51 (bu .eql 3 30),m 50 51]) (c 50 k (p [o 52 (bu .eql 3 31),m 50 52]))) (c 50 (q (p [o 2 (v (.c (.str [45,45,45])))]) r) (q (p [o 54 (bu .eql 3 33),m 53 54]) (c 53 (q (p [o 2 (v (.c (.str [119,114,45])))]) r) (q (p [o 56 (bu .eql 3 34),m 55 56]) (c 55 (q (p [o 2 (v (.c (.str [101,45,45])))]) r) k)))))))))))))))))))))))))))))))))))))))) (q (p [o 2 (v (.c (.str [])))]) r)))⟩
def X4:List (List Nat):=[]
def xL:AFunc:=⟨10,[.cell 2 true 3],(q (p [o 1 (bx 4 0),o 2 (.alloc [iz,iz,iz])]) (q (p [o 3 (fa 1 1),o 4 (ld 1 3),o 5 (fa 2 1),o 6 (ld 1 5),o 7 (fa 3 1),o 8 (ld 1 7),o 9 (.build [iz,iz,iz] [(0,1,(.t 4)),(1,1,(.t 6)),(2,1,(.t 8))]),s 3 2 (.t 9)]) r))⟩
def kW:List (List Nat):=[]
def vN:AFunc:=⟨75,[.tmp 2,.tmp 3],(q (p [o 2 (v kn),o 3 (v kn)]) (q (p [o 4 (v kn),o 5 (v kn)]) (q (q (p [o 6 (v (ki 0))]) (bl 0 (lo [0,4,5,6] (q (q (p [m 9 6,m 10 0,o 11 (le 10),o 12 (b .lss 9 11)]) (c 12 k (e 0))) (q (bl 1 (q (p [o 7 (v (ki 8)),o 8 (v (ki 8))]) (q (q (p [m 15 0,m 16 6,o 17 (ia 4 15 16),o 18 (fa 0 17),o 19 (ld 1 18)]) (bl 2 (q (p [o 21 (bu .eql 19 1),m 20 21]) (c 20 (p [o 7 (v (ki 1)),o 8 (v (ki 1))]) (q (p [o 23 (bu .eql 19 3),m 22 23]) (c 22 (p [o 7 (v (ki 16))]) (q (p [o 25 (bu .eql 19 7),m 24 25]) (c 24 (p [o 7 (v (ki 24))]) (q (p [o 27 (bu .eql 19 6),m 26 27]) (c 26 (.draw [m 28 0,m 29 6,o 30 (ia 4 28 29),o 31 (fa 2 30),o 32 (ld 1 31),m 33 4,m 34 0,m 35 6,o 36 (ia 4 34 35),o 37 (fa 1 36),o 38 (ld 1 37),o 39 (ia 1 33 38),o 40 (ld 1 39),o 41 (b .mul 32 40),o 42 (.mn (ki 1000000) (.t 41)),m 43 5,m 44 0,m 45 6,o 46 (ia 4 44 45),o 47 (fa 1 46),o 48 (ld 1 47),o 49 (ia 1 43 48),o 50 (ld 1 49),m 7 42,m 8 50]) (q (p [o 52 (bu .eql 19 5),m 51 52]) (c 51 (p [m 54 4,m 55 5,m 56 0,m 57 6,o 58 (ia 4 56 57),o 59 (fa 3 58),o 60 (ld 1 59),o 61 (cg yP [54,55,60]),m 53 61,o 62 (ex 53 0),o 63 (ex 53 1),o 64 (ex 53 2),m 7 63,m 8 64]) k)))))))))))) (p [m 65 4,m 66 7,o 67 (li 1 [66]),o 68 (ap 1 8 65 67),m 69 5,m 70 8,o 71 (li 1 [70]),o 72 (ap 1 8 69 71),m 4 68,m 5 72])))) (p [m 13 6,o 14 (bi .add 13 1),m 6 14])))))) (q (p [m 73 4,m 74 5,m 2 73,m 3 74]) r))))⟩
def X7:List (List Nat):=[[0,4,5,6]]
def zK:AFunc:=⟨8,[.tmp 2],(q (p [o 2 (v kn)]) (q (q (p [m 3 0,o 4 (.ext (.isNil false 0 (.t 3)))]) (c 4 (q (p [o 2 (v kn)]) r) k)) (q (p [o 5 (li 2 []),m 6 0,o 7 (ap 2 24 5 6),m 2 7]) r)))⟩
def tB:List (List Nat):=[]
def zJ:AFunc:=⟨8,[.tmp 2],(q (p [o 2 (v kn)]) (q (q (p [m 3 0,o 4 (.ext (.isNil false 0 (.t 3)))]) (c 4 (q (p [o 2 (v kn)]) r) k)) (q (p [o 5 (li 4 []),m 6 0,o 7 (ap 4 32 5 6),m 2 7]) r)))⟩
def tA:List (List Nat):=[]
def xd:AFunc:=⟨26,[.tmp 4],(q (p [o 4 (v kf)]) (q (q (p [m 6 0,o 7 (le 6),m 8 1,o 9 (le 8),o 10 (b .neq 7 9)]) (c 10 (q (p [o 4 (v kf)]) r) k)) (q (q (p [o 5 (v (ki 0))]) (bl 0 (lo [0,1,5] (q (q (p [m 11 5,m 12 0,o 13 (le 12),o 14 (b .lss 11 13)]) (c 14 k (e 0))) (q (bl 1 (q (.draw [m 17 0,m 18 5,o 19 (ia 2 17 18),o 20 (lg 2 19),m 21 1,m 22 5,o 23 (ia 2 21 22),o 24 (lg 2 23),o 25 (.ext (.eqA true 2 [(0,2),(1,1)] (.t 20) (.t 24)))]) (c 25 (q (p [o 4 (v kf)]) r) k))) (p [m 15 5,o 16 (bi .add 15 1),m 5 16])))))) (q (p [o 4 (v kt)]) r))))⟩
def jE:List (List Nat):=[[0,1,5]]
def uA:AFunc:=⟨26,[.tmp 4],(q (p [o 4 (v kf)]) (q (q (p [m 6 0,o 7 (le 6),m 8 1,o 9 (le 8),o 10 (b .neq 7 9)]) (c 10 (q (p [o 4 (v kf)]) r) k)) (q (q (p [o 5 (v (ki 0))]) (bl 0 (lo [0,1,5] (q (q (p [m 11 5,m 12 0,o 13 (le 12),o 14 (b .lss 11 13)]) (c 14 k (e 0))) (q (bl 1 (q (.draw [m 17 0,m 18 5,o 19 (ia 4 17 18),o 20 (lg 4 19),m 21 1,m 22 5,o 23 (ia 4 21 22),o 24 (lg 4 23),o 25 (.ext (.eqA true 4 [(0,1),(1,1),(2,1),(3,1)] (.t 20) (.t 24)))]) (c 25 (q (p [o 4 (v kf)]) r) k))) (p [m 15 5,o 16 (bi .add 15 1),m 5 16])))))) (q (p [o 4 (v kt)]) r))))⟩
def Wf:List (List Nat):=[[0,1,5]]
def uy:AFunc:=⟨26,[.tmp 4],(q (p [o 4 (v kf)]) (q (q (p [m 6 0,o 7 (le 6),m 8 1,o 9 (le 8),o 10 (b .neq 7 9)]) (c 10 (q (p [o 4 (v kf)]) r) k)) (q (q (p [o 5 (v (ki 0))]) (bl 0 (lo [0,1,5] (q (q (p [m 11 5,m 12 0,o 13 (le 12),o 14 (b .lss 11 13)]) (c 14 k (e 0))) (q (bl 1 (q (.draw [m 17 0,m 18 5,o 19 (ia 2 17 18),o 20 (lg 2 19),m 21 1,m 22 5,o 23 (ia 2 21 22),o 24 (lg 2 23),o 25 (.ext (.eqA true 2 [(0,1),(1,1)] (.t 20) (.t 24)))]) (c 25 (q (p [o 4 (v kf)]) r) k))) (p [m 15 5,o 16 (bi .add 15 1),m 5 16])))))) (q (p [o 4 (v kt)]) r))))⟩
def Wd:List (List Nat):=[[0,1,5]]
def xx:AFunc:=⟨68,[.tmp 4],(q (p [o 4 (v kf)]) (q (q (p [m 6 0,o 7 (le 6),m 8 1,o 9 (le 8),o 10 (b .neq 7 9)]) (c 10 (q (p [o 4 (v kf)]) r) k)) (q (q (p [o 5 (v (ki 0))]) (bl 0 (lo [0,1,5] (q (q (p [m 11 5,m 12 0,o 13 (le 12),o 14 (b .lss 11 13)]) (c 14 k (e 0))) (q (bl 1 (q (.draw [m 17 0,m 18 5,o 19 (ia 4 17 18),o 20 (fa 0 19),o 21 (ld 1 20),m 22 1,m 23 5,o 24 (ia 4 22 23),o 25 (fa 0 24),o 26 (ld 1 25),o 27 (b .neq 21 26),m 28 27,z 29 28 (mt 0),z 30 28 (mt 5),z 31 28 (ia 4 29 30),z 32 28 (fa 1 31),z 33 28 (ld 1 32),z 34 28 (mt 1),z 35 28 (mt 5),z 36 28 (ia 4 34 35),z 37 28 (fa 1 36),z 38 28 (ld 1 37),z 39 28 (b .neq 33 38),o 40 (pt 28 39),m 41 40,z 42 41 (mt 0),z 43 41 (mt 5),z 44 41 (ia 4 42 43),z 45 41 (fa 2 44),z 46 41 (ld 1 45),z 47 41 (mt 1),z 48 41 (mt 5),z 49 41 (ia 4 47 48),z 50 41 (fa 2 49),z 51 41 (ld 1 50),z 52 41 (b .neq 46 51),o 53 (pt 41 52),m 54 53,z 55 54 (mt 0),z 56 54 (mt 5),z 57 54 (ia 4 55 56),z 58 54 (fa 3 57),z 59 54 (ld 1 58),z 60 54 (mt 1),z 61 54 (mt 5),z 62 54 (ia 4 60 61),z 63 54 (fa 3 62),z 64 54 (ld 1 63),z 65 54 (cg yB [59,64]),z 66 54 (.un .not (.t 65)),o 67 (pt 54 66)]) (c 67 (q (p [o 4 (v kf)]) r) k))) (p [m 15 5,o 16 (bi .add 15 1),m 5 16])))))) (q (p [o 4 (v kt)]) r))))⟩
def kg:List (List Nat):=[[0,1,5]]
def vn:AFunc:=⟨13,[.tmp 2],(q (p [o 2 (v kf)]) (q (p [m 3 0,o 4 (bu .eql 3 110),m 5 4,z 6 5 (mt 0),z 7 5 (bu .eql 6 103),o 8 (pt 5 7),m 9 8,z 10 9 (mt 0),z 11 9 (bu .eql 10 101),o 12 (pt 9 11),m 2 12]) r))⟩
def Y3:List (List Nat):=[]
def jU:AFunc:=⟨53,[.tmp 2,.tmp 3],(q (p [o 1 (bx 3 0),o 2 (v kn),o 3 (v (ki 0))]) (q (q (p [o 10 (lg 3 1),o 11 (cg jm [10]),o 12 (.un .not (.t 11))]) (c 12 (q (p [o 2 (v kn),o 3 (v (ki 8))]) r) k)) (q (p [o 4 (.alloc [.nils])]) (q (p [o 13 (fa 0 1),o 14 (ld 1 13),o 15 (cg xF [4,14])]) (q (p [o 16 (fa 1 1),o 17 (ld 1 16),o 18 (le 17),o 19 (cg zk [4,18])]) (q (q (p [o 20 (fa 1 1),o 21 (ld 1 20),o 22 (le 21),o 23 (v (ki 0))]) (bl 0 (lo [1,4,21,22,23] (q (p [o 24 (b .lss 23 22)]) (q (c 24 k (e 0)) (q (bl 1 (q (p [o 25 (ia 1 21 23),o 26 (ld 1 25),m 6 26]) (p [m 27 6,o 28 (cg yF [4,27])]))) (p [o 29 (bi .add 23 1),m 23 29]))))))) (q (p [o 30 (fa 2 1),o 31 (ld 1 30),o 32 (le 31),o 33 (cg zk [4,32])]) (q (q (p [o 34 (fa 2 1),o 35 (ld 1 34),o 36 (le 35),o 37 (v (ki 0))]) (bl 2 (lo [4,35,36,37] (q (p [o 38 (b .lss 37 36)]) (q (c 38 k (e 2)) (q (bl 3 (q (p [o 39 (ia 7 35 37),o 40 (lg 7 39),o 8 (.alloc [.str [],iz,iz,.nils,.nils,.nils,.nils]),s 7 8 (.t 40)]) (q (p [o 41 (lg 7 8),o 42 (cg yV [4,41]),m 9 42]) (q (p [m 43 9,o 44 (bi .neq 43 0)]) (c 44 (q (p [m 45 9,o 2 (v kn),m 3 45]) r) k))))) (p [o 46 (bi .add 37 1),m 37 46]))))))) (q (q (p [o 47 (fa 0 4),o 48 (ld 1 47),o 49 (le 48),o 50 (bi .gtr 49 20000)]) (c 50 (q (p [o 2 (v kn),o 3 (v (ki 4))]) r) k)) (q (p [o 51 (fa 0 4),o 52 (ld 1 51),m 2 52,o 3 (v (ki 0))]) r))))))))))⟩
def QC:List (List Nat):=[[1,4,21,22,23],[4,35,36,37]]
def qd:AFunc:=⟨23,[.tmp 2,.tmp 3],(q (p [o 2 (v kn),o 3 (v (ki 0))]) (q (q (p [m 6 0,o 7 (cg xG [6]),m 4 7]) (q (p [m 8 4,o 9 (bi .neq 8 0)]) (c 9 (q (p [m 10 4,o 2 (v kn),m 3 10]) r) k))) (q (p [m 11 0,o 12 (le 11),o 13 (.make 1 1 [.bool false] (.t 12) (.t 12)),o 5 (.alloc [.nils]),s 1 5 (.t 13)]) (q (p [m 14 0,o 15 (.mkfn (.func vf) [] [(.t 5)]),o 16 (cg tl [14,15])]) (q (p [o 17 (ld 1 5),o 18 (ld 1 5),o 19 (le 18),o 20 (bi .sub 19 1),o 21 (ia 1 17 20),s 1 21 kt]) (q (p [o 22 (ld 1 5),m 2 22,o 3 (v (ki 0))]) r))))))⟩
def QD:List (List Nat):=[]
def xQ:AFunc:=⟨136,[.tmp 2,.tmp 3],(q (p [o 1 (bx 10 0),o 2 (v kn),o 3 (v kf)]) (q (p [o 20 (fa 3 1),o 21 (fa 4 20),o 22 (ld 1 21),m 4 22]) (q (.draw [m 23 4,o 24 (le 23),o 25 (.make 1 24 [.nils] (.t 24) (.t 24)),m 26 4,o 27 (le 26),o 28 (.make 1 1 [.bool false] (.t 27) (.t 27)),m 5 25,m 6 28]) (q (p [m 29 6,o 30 (.iaddr 1 (.t 29) (ki 0)),s 1 30 kt]) (q (q (p [o 31 (.ext (.litB 1 [(ki 0)])),m 7 31]) (bl 0 (lo [1,4,5,6,7] (q (q (p [m 32 7,o 33 (le 32),o 34 (bi .gtr 33 0)]) (c 34 k (e 0))) (bl 1 (q (p [m 35 7,m 36 7,o 37 (le 36),o 38 (bi .sub 37 1),o 39 (ia 1 35 38),o 40 (ld 1 39),m 8 40]) (q (p [m 41 7,m 42 7,o 43 (le 42),o 44 (bi .sub 43 1),o 45 (.slice 1 (.t 41) none (some (.t 44)) none),m 7 45]) (q (.draw [o 47 (lg 10 1),m 48 4,m 49 8,o 50 (ia 4 48 49),o 51 (lg 4 50),m 52 5,m 53 8,o 54 (ia 1 52 53),o 55 (ld 1 54),o 56 (cg ub [47,51,55]),m 46 56,o 57 (ex 46 0),o 58 (ex 46 1),m 9 57,m 10 58]) (q (p [m 60 4,m 61 8,o 62 (cg WN [60,61]),m 59 62,o 63 (ex 59 0),o 64 (ex 59 1),m 11 63,m 12 64]) (q (q (p [m 65 10,o 66 (.un .not (.t 65)),m 67 66,z 68 67 (mt 12),z 69 67 (bi .neq 68 0),o 70 (pt 67 69)]) (c 70 (q (p [o 2 (v kn),o 3 (v kf)]) r) k)) (q (p [m 71 11,o 72 (le 71),o 73 (v (ki 0))]) (bl 2 (lo [1,4,5,6,7,9,71,72,73] (q (p [o 74 (b .lss 73 72)]) (q (c 74 k (e 2)) (q (bl 3 (q (p [o 75 (ia 1 71 73),o 76 (ld 1 75),m 14 76]) (bl 4 (q (p [m 78 6,m 79 14,o 80 (ia 1 78 79),o 81 (ld 1 80),o 82 (.un .not (.t 81)),m 77 82]) (c 77 (p [m 83 5,m 84 14,m 85 6,m 86 14,m 87 9,m 88 7,m 89 14,o 90 (li 1 [89]),o 91 (ap 1 8 88 90),o 92 (ia 1 83 84),s 1 92 (.t 87),o 93 (ia 1 85 86),s 1 93 kt,m 7 91]) (q (p [m 95 5,m 96 14,o 97 (ia 1 95 96),o 98 (ld 1 97),m 99 9,o 100 (cg vz [98,99]),o 101 (.un .not (.t 100)),m 94 101]) (c 94 (q (p [o 2 (v kn),o 3 (v kf)]) r) k))))))) (p [o 102 (bi .add 73 1),m 73 102]))))))))))))))))) (q (p [m 103 4,o 104 (le 103),o 105 (.make 1 8 [.int .u64 (0)] (.t 104) (.t 104)),m 15 105]) (q (q (p [m 106 5,o 107 (le 106),o 108 (v (ki 0))]) (bl 5 (lo [1,4,5,15,106,107,108] (q (p [o 109 (b .lss 108 107)]) (q (c 109 k (e 5)) (q (bl 6 (q (p [m 110 108,o 111 (ia 1 106 108),o 112 (ld 1 111),m 16 110,m 17 112]) (q (p [o 114 (lg 10 1),m 115 17,o 116 (cg x8 [114,115]),m 113 116,o 117 (ex 113 0),o 118 (ex 113 1),m 18 117,m 19 118]) (q (q (p [m 119 19,o 120 (bi .neq 119 0)]) (c 120 (q (p [o 2 (v kn),o 3 (v kf)]) r) k)) (p [m 121 15,m 122 16,m 123 18,o 124 (.conv .u64 (.t 123)),o 125 (ia 1 121 122),s 1 125 (.t 124)]))))) (p [o 126 (bi .add 108 1),m 108 126]))))))) (q (.draw [m 127 15,m 128 5,m 129 4,o 130 (le 129),o 131 (bi .sub 130 1),o 132 (ia 1 128 131),o 133 (ld 1 132),o 134 (le 133),o 135 (bi .eql 134 0),m 2 127,m 3 135]) r))))))))⟩
def Z3:List (List Nat):=[[1,4,5,6,7],[1,4,5,6,7,9,71,72,73],[1,4,5,15,106,107,108],[777777,31]]
def Yt:AFunc:=⟨87,[.tmp 6,.tmp 7],(q (p [o 4 (bx 1 1),o 6 (v kn),o 7 (v (ki 0))]) (q (q (p [m 17 0,o 18 (cg xG [17]),m 8 18]) (q (p [m 19 8,o 20 (bi .neq 19 0)]) (c 20 (q (p [m 21 8,o 6 (v kn),m 7 21]) r) k))) (q (q (p [m 22 2,o 23 (bi .lss 22 0),m 24 23,z 25 24 (mt 2),z 26 24 (bi .gtr 25 16),o 27 (pt 24 26),m 28 27,z 29 28 (ld 1 4),z 30 28 (bi .lss 29 0),o 31 (pt 28 30),m 32 31,z 33 32 (ld 1 4),z 34 32 (mt 2),z 35 32 (b .gtr 33 34),o 36 (pt 32 35)]) (c 36 (q (p [o 6 (v kn),o 7 (v (ki 2))]) r) k)) (q (p [m 37 0,o 38 (le 37),o 39 (.make 1 8 [.int .u64 (0)] (.t 38) (.t 38)),o 9 (.alloc [.nils]),s 1 9 (.t 39)]) (q (q (p [m 40 0,o 41 (le 40),o 42 (v (ki 0))]) (bl 0 (lo [0,2,4,9,40,41,42] (q (p [o 43 (b .lss 42 41)]) (q (c 43 k (e 0)) (q (bl 1 (q (p [m 44 42,o 45 (ia 4 40 42),o 46 (lg 4 45),o 11 (.alloc [.int .u8 (0),iz,iz,iz]),m 10 44,s 4 11 (.t 46)]) (q (p [o 48 (lg 4 11),o 49 (cg j0 [48]),m 47 49,o 50 (ex 47 0),o 51 (ex 47 1),o 52 (ex 47 2),m 12 50,m 13 51,m 14 52]) (q (q (p [m 53 14,o 54 (bi .neq 53 0)]) (c 54 (q (p [m 55 14,o 6 (v kn),m 7 55]) r) k)) (q (.draw [w 56 (ld 1 9),m 57 10,m 58 13,o 59 (cg kF [58]),o 60 (ia 1 56 57),s 1 60 (.t 59)]) (q (.draw [m 61 12,o 62 (cg kF [61]),w 63 (ld 1 9),m 64 10,o 65 (ia 1 63 64),w 66 (ld 1 65),o 67 (b .or 62 66),m 68 2,o 69 (b .shr 67 68),o 70 (.bin .neq (.t 69) (.c (.int .u64 (0))))]) (c 70 (q (p [o 6 (v kn),o 7 (v (ki 16))]) r) k))))))) (p [o 71 (bi .add 42 1),m 42 71]))))))) (q (.draw [o 15 (.alloc [.nils]),o 16 (.alloc [.nils]),m 72 0,o 73 (le 72),o 74 (.make 1 8 [.int .u64 (0)] (.t 73) (.t 73)),m 75 0,o 76 (le 75),o 77 (.make 1 1 [.bool false] (.t 76) (.t 76)),s 1 15 (.t 74),s 1 16 (.t 77)]) (q (p [m 78 0,o 79 (.mkfn (.func qj) [] [(.t 4),(.t 16),(.t 15),(.t 9)]),o 80 (cg tl [78,79])]) (q (p [o 81 (ld 1 15),o 82 (ld 1 15),o 83 (le 82),o 84 (bi .sub 83 1),o 85 (ia 1 81 84),s 1 85 (.c (.int .u64 (0)))]) (q (p [o 86 (ld 1 15),m 6 86,o 7 (v (ki 0))]) r)))))))))⟩
def z31:List (List Nat):=[[0,2,4,9,40,41,42]]
def Z9:AFunc:=⟨43,[.tmp 2,.tmp 3],(q (p [o 2 (v kn),o 3 (v (ki 0))]) (q (q (p [m 7 0,o 8 (le 7),o 9 (cg uV [8]),m 4 9]) (q (p [m 10 4,o 11 (bi .neq 10 0)]) (c 11 (q (p [m 12 4,o 2 (v kn),m 3 12]) r) k))) (q (p [o 5 (v kn)]) (q (q (p [m 13 0,o 14 (le 13),o 15 (v (ki 0))]) (bl 0 (lo [0,5,14,15] (q (p [o 16 (b .lss 15 14)]) (q (c 16 k (e 0)) (q (bl 1 (q (p [m 17 15,m 6 17]) (q (q (.draw [m 18 6,o 19 (bi .gtr 18 0),m 20 19,y 21 20 (mt 0),y 22 20 (mt 6),y 23 20 (ia 1 21 22),y 24 20 (ld 1 23),y 25 20 (mt 0),y 26 20 (mt 6),y 27 20 (bi .sub 26 1),y 28 20 (ia 1 25 27),y 29 20 (ld 1 28),y 30 20 (b .eql 24 29),o 31 (pf 20 30)]) (c 31 (e 1) k)) (p [m 32 5,m 33 6,m 34 0,m 35 6,o 36 (ia 1 34 35),o 37 (ld 1 36),o 38 (.build [iz,.int .u64 (0)] [(0,1,(.t 33)),(1,1,(.t 37))]),o 39 (li 2 [38]),o 40 (ap 2 16 32 39),m 5 40])))) (p [o 41 (bi .add 15 1),m 15 41]))))))) (q (p [m 42 5,m 2 42,o 3 (v (ki 0))]) r)))))⟩
def z18:List (List Nat):=[[0,5,14,15]]
def vR:AFunc:=⟨32,[.tmp 2],(q (p [o 2 (v (ki 0))]) (q (q (p [m 6 0,o 7 (le 6),o 8 (bi .gtr 7 32)]) (c 8 (q (p [o 2 (v (ki 8))]) r) k)) (q (q (p [o 3 (v (ki 0))]) (bl 0 (lo [0,3] (q (q (p [m 9 3,m 10 0,o 11 (le 10),o 12 (b .lss 9 11)]) (c 12 k (e 0))) (q (bl 1 (q (p [m 15 0,m 16 3,o 17 (cg uL [15,16]),o 18 (.un .not (.t 17))]) (c 18 (q (p [o 2 (v (ki 8))]) r) k))) (p [m 13 3,o 14 (bi .add 13 1),m 3 14])))))) (q (p [m 19 0,o 20 (cf x6 [(.t 19),(ki 3)]),m 4 20]) (q (q (p [o 5 (v (ki 0))]) (bl 2 (lo [0,4,5] (q (q (p [m 21 5,m 22 0,o 23 (le 22),o 24 (b .lss 21 23)]) (c 24 k (e 2))) (q (bl 3 (q (p [m 27 4,m 28 5,o 29 (ia 1 27 28),o 30 (ld 1 29),o 31 (bi .gtr 30 5000)]) (c 31 (q (p [o 2 (v (ki 8))]) r) k))) (p [m 25 5,o 26 (bi .add 25 1),m 5 26])))))) (q (p [o 2 (v (ki 0))]) r))))))⟩
def Xb:List (List Nat):=[[0,3],[0,4,5]]
def xJ:AFunc:=⟨107,[.tmp 4],(q (p [o 3 (bx 7 1),o 4 (v kf)]) (q (q (p [o 7 (fa 0 3),o 8 (ld 1 7),o 9 (cg xq [8]),o 10 (.un .not (.t 9)),m 11 10,z 12 11 (fa 3 3),z 13 11 (ld 1 12),z 14 11 (cf yD [(.t 13),(ki 16)]),z 15 11 (.un .not (.t 14)),o 16 (pt 11 15),m 17 16,z 18 17 (fa 1 3),z 19 17 (ld 1 18),z 20 17 (bi .lss 19 0),o 21 (pt 17 20),m 22 21,z 23 22 (fa 1 3),z 24 22 (ld 1 23),z 25 22 (fa 3 3),z 26 22 (ld 1 25),z 27 22 (le 26),z 28 22 (b .gtr 24 27),o 29 (pt 22 28),m 30 29,z 31 30 (fa 2 3),z 32 30 (ld 1 31),z 33 30 (bi .lss 32 (-1)),o 34 (pt 30 33),m 35 34,z 36 35 (fa 2 3),z 37 35 (ld 1 36),z 38 35 (mt 0),z 39 35 (le 38),z 40 35 (b .geq 37 39),o 41 (pt 35 40),m 42 41,z 43 42 (fa 4 3),z 44 42 (ld 1 43),z 45 42 (le 44),z 46 42 (bi .lss 45 1),o 47 (pt 42 46),m 48 47,z 49 48 (fa 4 3),z 50 48 (ld 1 49),z 51 48 (le 50),z 52 48 (bi .gtr 51 200),o 53 (pt 48 52)]) (c 53 (q (p [o 4 (v kf)]) r) k)) (q (q (p [o 5 (v (ki 0))]) (bl 0 (lo [0,3,5] (q (q (p [m 54 5,o 55 (fa 3 3),o 56 (ld 1 55),o 57 (le 56),o 58 (b .lss 54 57)]) (c 58 k (e 0))) (q (bl 1 (q (p [o 61 (fa 3 3),o 62 (ld 1 61),m 63 5,o 64 (ia 2 62 63),o 65 (fa 1 64),o 66 (ld 1 65),o 67 (bi .lss 66 0),m 68 67,z 69 68 (fa 3 3),z 70 68 (ld 1 69),z 71 68 (mt 5),z 72 68 (ia 2 70 71),z 73 68 (fa 1 72),z 74 68 (ld 1 73),z 75 68 (mt 0),z 76 68 (le 75),z 77 68 (b .geq 74 76),o 78 (pt 68 77)]) (c 78 (q (p [o 4 (v kf)]) r) k))) (p [m 59 5,o 60 (bi .add 59 1),m 5 60])))))) (q (q (p [o 6 (v (ki 0))]) (bl 2 (lo [3,6] (q (q (p [m 79 6,o 80 (fa 4 3),o 81 (ld 1 80),o 82 (le 81),o 83 (b .lss 79 82)]) (c 83 k (e 2))) (q (bl 3 (q (p [o 86 (fa 4 3),o 87 (ld 1 86),m 88 6,o 89 (ia 4 87 88),o 90 (lg 4 89),o 91 (cg u5 [90]),o 92 (bi .neq 91 0)]) (c 92 (q (p [o 4 (v kf)]) r) k))) (p [m 84 6,o 85 (bi .add 84 1),m 6 85])))))) (q (p [o 93 (fa 5 3),o 94 (ld 1 93),o 95 (fa 4 3),o 96 (ld 1 95),o 97 (le 96),o 98 (cg xE [94,97]),m 99 98,y 100 99 (fa 6 3),y 101 99 (ld 1 100),y 102 99 (fa 4 3),y 103 99 (ld 1 102),y 104 99 (le 103),y 105 99 (cg xE [101,104]),o 106 (pf 99 105),m 4 106]) r)))))⟩
def kU:List (List Nat):=[[0,3,5],[3,6]]
def uB:AFunc:=⟨61,[.tmp 4],(q (p [o 4 (v kf)]) (q (q (p [m 5 0]) (bl 0 (q (p [o 7 (bu .eql 5 45),m 6 7]) (c 6 (q (p [m 8 1,o 9 (bi .eql 8 0),m 4 9]) r) (q (q (p [o 11 (bu .eql 5 119),m 10 11]) (c 10 k (p [o 12 (bu .eql 5 114),m 10 12]))) (c 10 (q (p [m 13 1,o 14 (bi .geq 13 0),m 15 14,y 16 15 (mt 1),y 17 15 (bi .lss 16 16),o 18 (pf 15 17),m 4 18]) r) (q (q (p [o 20 (bu .eql 5 103),m 19 20]) (c 19 k (p [o 21 (bu .eql 5 101),m 19 21]))) (c 19 (q (p [m 22 1,o 23 (bi .geq 22 (-1)),m 24 23,y 25 24 (mt 1),y 26 24 (bi .lss 25 16),o 27 (pf 24 26),m 4 27]) r) (q (q (p [o 29 (bu .eql 5 116),m 28 29]) (c 28 k (p [o 30 (bu .eql 5 99),m 28 30]))) (c 28 (q (p [m 31 1,o 32 (bi .geq 31 0),m 33 32,y 34 33 (mt 1),y 35 33 (bi .lss 34 32),o 36 (pf 33 35),m 4 36]) r) (q (p [o 38 (bu .eql 5 98),m 37 38]) (c 37 (q (p [m 39 1,o 40 (bi .geq 39 0),m 41 40,y 42 41 (mt 1),y 43 41 (bi .lss 42 2),o 44 (pf 41 43),m 4 44]) r) (q (p [o 46 (bu .eql 5 102),m 45 46]) (c 45 (q (p [m 47 1,o 48 (bi .geq 47 0),m 49 48,y 50 49 (mt 1),y 51 49 (bi .lss 50 8),o 52 (pf 49 51),m 4 52]) r) (q (p [o 54 (bu .eql 5 105),m 53 54]) (c 53 (q (p [m 55 1,o 56 (bi .geq 55 0),m 57 56,y 58 57 (mt 1),y 59 57 (bi .lss 58 200),o 60 (pf 57 59),m 4 60]) r) k)))))))))))))))) (q (p [o 4 (v kt)]) r)))⟩
def Wg:List (List Nat):=[]
def xN:AFunc:=⟨13,[.tmp 4],(q (p [o 4 (v kf)]) (q (p [m 5 1,o 6 (bi .geq 5 0),m 7 6,y 8 7 (mt 1),y 9 7 (mt 0),y 10 7 (le 9),y 11 7 (b .lss 8 10),o 12 (pf 7 11),m 4 12]) r))⟩
def Z0:List (List Nat):=[]
def jW:AFunc:=⟨14,[.tmp 2],(q (p [o 1 (bx 4 0),o 2 (v (ki 0))]) (q (q (p [o 3 (fa 0 1),o 4 (ld 1 3)]) (bl 0 (q (p [o 6 (bu .eql 4 25),m 5 6]) (c 5 (q (p [o 7 (fa 2 1),o 8 (ld 1 7),m 2 8]) r) (q (q (p [o 10 (bu .eql 4 26),m 9 10]) (c 9 k (p [o 11 (bu .eql 4 27),m 9 11]))) (c 9 (q (p [o 12 (fa 1 1),o 13 (ld 1 12),m 2 13]) r) k)))))) (q (p [o 2 (v (ki (-1)))]) r)))⟩
def QG:List (List Nat):=[]
def vV:AFunc:=⟨13,[.tmp 4],(q (p [o 4 (v kf)]) (q (p [m 5 1,o 6 (bi .geq 5 0),m 7 6,y 8 7 (mt 1),y 9 7 (mt 0),y 10 7 (le 9),y 11 7 (b .lss 8 10),o 12 (pf 7 11),m 4 12]) r))⟩
def Xn:List (List Nat):=[]
def xP:AFunc:=⟨8,[.tmp 3],(q (p [o 3 (v kf)]) (q (p [m 4 0,o 5 (.mkfn (.func zF) [] [(.t 1)]),o 6 (cg zI [4,5]),o 7 (.un .not (.t 6)),m 3 7]) r))⟩
def Z2:List (List Nat):=[]
def yc:AFunc:=⟨9,[.tmp 4],(q (p [o 4 (v kf)]) (q (p [m 5 0,m 6 1,o 7 (cg yE [5,6]),o 8 (bi .geq 7 0),m 4 8]) r))⟩
def qR:List (List Nat):=[]
def xh:AFunc:=⟨9,[.tmp 3],(q (p [o 3 (v kf)]) (q (p [o 4 (lg 10 1),m 5 0,o 6 (.lit 1 [(ku 2)]),o 7 (cg zt [4,5,6]),o 8 (.un .not (.t 7)),m 3 8]) r))⟩
def jI:List (List Nat):=[]
def t6:AFunc:=⟨20,[.tmp 6],(q (p [o 3 (bx 10 0),o 6 (v kf)]) (q (p [m 7 1,o 8 (bi .geq 7 0),m 9 8,y 10 9 (mt 2),y 11 9 (fa 0 3),y 12 9 (fa 0 11),y 13 9 (ld 1 12),y 14 9 (mt 1),y 15 9 (ia 4 13 14),y 16 9 (fa 0 15),y 17 9 (ld 1 16),y 18 9 (cg yT [10,17]),o 19 (pf 9 18),m 6 19]) r))⟩
def V8:List (List Nat):=[]
def xO:AFunc:=⟨8,[.tmp 3],(q (p [o 3 (v kf)]) (q (p [o 4 (lg 10 1),m 5 0,o 6 (.lit 1 [(ku 1)]),o 7 (cg zt [4,5,6]),m 3 7]) r))⟩
def Z1:List (List Nat):=[]
def vd:AFunc:=⟨39,[.tmp 8],(q (p [o 4 (bx 10 0),o 8 (v kf)]) (q (p [o 9 (lg 10 4),m 10 1,o 11 (.lit 1 [(ku 5)]),o 12 (cg zt [9,10,11]),m 13 12,y 14 13 (fa 0 4),y 15 13 (fa 0 14),y 16 13 (ld 1 15),y 17 13 (mt 1),y 18 13 (ia 4 16 17),y 19 13 (fa 3 18),y 20 13 (ld 1 19),y 21 13 (mt 2),y 22 13 (cg yg [20,21]),o 23 (pf 13 22),m 24 23,y 25 24 (fa 0 4),y 26 24 (fa 0 25),y 27 24 (ld 1 26),y 28 24 (mt 1),y 29 24 (ia 4 27 28),y 30 24 (fa 3 29),y 31 24 (ld 1 30),y 32 24 (mt 2),y 33 24 (ia 2 31 32),y 34 24 (fa 1 33),y 35 24 (ld 1 34),y 36 24 (mt 3),y 37 24 (b .eql 35 36),o 38 (pf 24 37),m 8 38]) r))⟩
def Zy:List (List Nat):=[]
def vY:AFunc:=⟨24,[.tmp 8],(q (p [o 4 (bx 10 0),o 8 (v kf)]) (q (p [o 9 (lg 10 4),m 10 1,m 11 3,o 12 (cg zt [9,10,11]),m 13 12,y 14 13 (fa 0 4),y 15 13 (fa 0 14),y 16 13 (ld 1 15),y 17 13 (mt 1),y 18 13 (ia 4 16 17),y 19 13 (fa 1 18),y 20 13 (ld 1 19),y 21 13 (mt 2),y 22 13 (b .eql 20 21),o 23 (pf 13 22),m 8 23]) r))⟩
def Xt:List (List Nat):=[]
def vu:AFunc:=⟨29,[.tmp 4],(q (p [o 2 (bx 10 0),o 3 (bx 7 1),o 4 (v kf)]) (q (p [o 6 (.mkfn (.func xW) [] [(.t 2)]),m 5 6]) (q (p [o 7 (fa 2 3),o 8 (ld 1 7),o 9 (bi .lss 8 0),m 10 9,y 11 10 (fa 1 3),y 12 10 (ld 1 11),y 13 10 (bi .eql 12 0),y 14 10 (mt 13),z 15 14 (fa 1 3),z 16 14 (ld 1 15),z 17 14 (bi .eql 16 1),z 18 14 (mt 17),y 19 18 (mt 5),y 20 18 (fa 3 3),y 21 18 (ld 1 20),y 22 18 (.iaddr 2 (.t 21) (ki 0)),y 23 18 (fa 1 22),y 24 18 (ld 1 23),y 25 18 (.call (.t 19) [(.t 24)]),z 26 14 (pf 18 25),y 27 10 (pt 14 26),o 28 (pf 10 27),m 4 28]) r)))⟩
def Ya:List (List Nat):=[]
def WJ:AFunc:=⟨36,[.tmp 2],(q (p [o 1 (bx 4 0),o 2 (v (ki 0))]) (q (p [o 8 (fa 0 1),o 9 (ld 1 8),o 10 (cg qZ [9]),m 7 10,o 11 (ex 7 0),o 12 (ex 7 1),o 3 (.alloc [iz,iz,.bool false,.bool false,iz,iz,.bool false,.bool false,iz,iz,.bool false,.bool false]),s 12 3 (.t 11),m 4 12]) (q (q (p [m 13 4,o 14 (bi .lss 13 0)]) (c 14 (q (p [o 2 (v (ki 8))]) r) k)) (q (q (p [o 15 (lg 4 1),o 16 (cg uP [15]),o 17 (v (ki 0))]) (bl 0 (lo [3,16,17] (q (p [o 18 (bi .lss 17 3)]) (q (c 18 k (e 0)) (q (bl 1 (q (p [m 19 17,o 20 (.indexA 3 1 false (.t 16) (.t 17)),m 5 19,m 6 20]) (q (p [m 21 6,m 22 5,o 23 (.iaddrA 3 4 (.t 3) (.t 22)),o 24 (fa 0 23),o 25 (ld 1 24),o 26 (b .lss 21 25),m 27 26,z 28 27 (mt 6),z 29 27 (mt 5),z 30 27 (.iaddrA 3 4 (.t 3) (.t 29)),z 31 27 (fa 1 30),z 32 27 (ld 1 31),z 33 27 (b .gtr 28 32),o 34 (pt 27 33)]) (c 34 (q (p [o 2 (v (ki 8))]) r) k)))) (p [o 35 (bi .add 17 1),m 17 35]))))))) (q (p [o 2 (v (ki 0))]) r)))))⟩
def z4n:List (List Nat):=[[3,16,17]]
def WG:AFunc:=⟨147,[.cell 2 true 12,.cell 3 false 1],(q (p [o 2 (.alloc [iz,iz,.bool false,.bool false,iz,iz,.bool false,.bool false,iz,iz,.bool false,.bool false]),o 3 (.alloc [iz])]) (q (p [o 5 (.mkfn (.func zH) [] [(.t 2),(.t 3)]),m 4 5]) (q (q (p [m 6 0]) (bl 0 (q (bl 19 (q (bl 18 (q (bl 17 (q (bl 16 (q (bl 15 (q (bl 14 (q (bl 13 (q (bl 12 (q (bl 11 (q (bl 10 (q (bl 9 (q (bl 8 (q (bl 7 (q (bl 6 (q (bl 5 (q (bl 4 (q (bl 3 (q (bl 2 (q (bl 1 (q (q (q (q (p [o 8 (bu .eql 6 30),m 7 8]) (c 7 k (p [o 9 (bu .eql 6 31),m 7 9]))) (c 7 (e 1) k)) (q (q (p [o 11 (bu .eql 6 1),m 10 11]) (c 10 (e 2) k)) (q (q (p [o 13 (bu .eql 6 2),m 12 13]) (c 12 (e 3) k)) (q (q (p [o 15 (bu .eql 6 3),m 14 15]) (c 14 (e 4) k)) (q (q (q (p [o 17 (bu .eql 6 4),m 16 17]) (c 16 k (p [o 18 (bu .eql 6 15),m 16 18]))) (c 16 (e 5) k)) (q (q (q (p [o 20 (bu .eql 6 6),m 19 20]) (c 19 k (q (p [o 21 (bu .eql 6 7),m 19 21]) (c 19 k (q (p [o 22 (bu .eql 6 8),m 19 22]) (c 19 k (q (p [o 23 (bu .eql 6 9),m 19 23]) (c 19 k (q (p [o 24 (bu .eql 6 10),m 19 24]) (c 19 k (q (p [o 25 (bu .eql 6 11),m 19 25]) (c 19 k (p [o 26 (bu .eql 6 19),m 19 26]))))))))))))) (c 19 (e 6) k)) (q (q (q (p [o 28 (bu .eql 6 5),m 27 28]) (c 27 k (q (p [o 29 (bu .eql 6 12),m 27 29]) (c 27 k (q (p [o 30 (bu .eql 6 16),m 27 30]) (c 27 k (q (p [o 31 (bu .eql 6 18),m 27 31]) (c 27 k (q (p [o 32 (bu .eql 6 21),m 27 32]) (c 27 k (p [o 33 (bu .eql 6 33),m 27 33]))))))))))) (c 27 (e 7) k)) (q (q (p [o 35 (bu .eql 6 13),m 34 35]) (c 34 (e 8) k)) (q (q (p [o 37 (bu .eql 6 14),m 36 37]) (c 36 (e 9) k)) (q (q (p [o 39 (bu .eql 6 20),m 38 39]) (c 38 (e 10) k)) (q (q (p [o 41 (bu .eql 6 17),m 40 41]) (c 40 (e 11) k)) (q (q (p [o 43 (bu .eql 6 22),m 42 43]) (c 42 (e 12) k)) (q (q (p [o 45 (bu .eql 6 23),m 44 45]) (c 44 (e 13) k)) (q (q (q (p [o 47 (bu .eql 6 24),m 46 47]) (c 46 k (q (p [o 48 (bu .eql 6 28),m 46 48]) (c 46 k (p [o 49 (bu .eql 6 32),m 46 49]))))) (c 46 (e 14) k)) (q (q (p [o 51 (bu .eql 6 25),m 50 51]) (c 50 (e 15) k)) (q (q (q (p [o 53 (bu .eql 6 26),m 52 53]) (c 52 k (p [o 54 (bu .eql 6 27),m 52 54]))) (c 52 (e 16) k)) (q (q (p [o 56 (bu .eql 6 29),m 55 56]) (c 55 (e 17) k)) (q (p [o 58 (bu .eql 6 34),m 57 58]) (c 57 (e 18) k))))))))))))))))))) (e 19))) (e 0))) (q (p [m 59 4,o 60 (cg yU []),o 61 (cg WM []),o 62 (li 4 [60,61]),o 63 (.call (.t 59) [(.t 62)])]) (e 0)))) (q (p [m 64 4,o 65 (cg yU []),o 66 (cf x9 [(ki 32)]),o 67 (li 4 [65,66]),o 68 (.call (.t 64) [(.t 67)])]) (e 0)))) (q (p [m 69 4,o 70 (cg yU []),o 71 (cf x9 [(ki 2)]),o 72 (li 4 [70,71]),o 73 (.call (.t 69) [(.t 72)])]) (e 0)))) (q (p [m 74 4,o 75 (cg yU []),o 76 (li 4 [75]),o 77 (.call (.t 74) [(.t 76)])]) (e 0)))) (p [o 78 (cg yo []),o 79 (.iaddrA 3 4 (.t 2) (ki 2)),s 4 79 (.t 78)]))) (q (q (p [o 80 (cg yU []),o 81 (cg yo []),o 82 (.iaddrA 3 4 (.t 2) (ki 0)),s 4 82 (.t 80),o 83 (.iaddrA 3 4 (.t 2) (ki 1)),s 4 83 (.t 81),s 1 3 (ki 2)]) (q (p [o 84 (.iaddrA 3 4 (.t 2) (ki 2)),o 85 (fa 2 84),o 86 (ld 1 85)]) (c 86 (p [s 1 3 (ki 3)]) k))) (e 0)))) (q (p [m 87 4,o 88 (cg yU []),o 89 (cg yo []),o 90 (cf x9 [(ki 8)]),o 91 (li 4 [88,89,90]),o 92 (.call (.t 87) [(.t 91)])]) (e 0)))) (q (p [m 93 4,o 94 (cg yo []),o 95 (cf x9 [(ki 8)]),o 96 (cg yo []),o 97 (li 4 [94,95,96]),o 98 (.call (.t 93) [(.t 97)])]) (e 0)))) (q (p [m 99 4,o 100 (cg yo []),o 101 (cg yo []),o 102 (cg yo []),o 103 (li 4 [100,101,102]),o 104 (.call (.t 99) [(.t 103)])]) (e 0)))) (q (p [m 105 4,o 106 (cg yo []),o 107 (cg yo []),o 108 (li 4 [106,107]),o 109 (.call (.t 105) [(.t 108)])]) (e 0)))) (q (p [m 110 4,o 111 (cf x9 [(ki 200)]),o 112 (li 4 [111]),o 113 (.call (.t 110) [(.t 112)])]) (e 0)))) (q (p [m 114 4,o 115 (cg yo []),o 116 (cf x9 [(ki 200)]),o 117 (li 4 [115,116]),o 118 (.call (.t 114) [(.t 117)])]) (e 0)))) (q (p [m 119 4,o 120 (cg yo []),o 121 (li 4 [120]),o 122 (.call (.t 119) [(.t 121)])]) (e 0)))) (q (q (p [m 123 4,o 124 (cg yU []),o 125 (cf x9 [(ki 32)]),o 126 (li 4 [124,125]),o 127 (.call (.t 123) [(.t 126)])]) (p [o 128 (.iaddrA 3 4 (.t 2) (ki 0)),o 129 (fa 0 128),s 1 129 (ki (-1))])) (e 0)))) (q (p [m 130 4,o 131 (cf x9 [(ki 32)]),o 132 (li 4 [131]),o 133 (.call (.t 130) [(.t 132)])]) (e 0)))) (q (p [m 134 4,o 135 (cg yU []),o 136 (cg yU []),o 137 (li 4 [135,136]),o 138 (.call (.t 134) [(.t 137)])]) (e 0)))) (q (q (p [m 139 4,o 140 (cg yo []),o 141 (li 4 [140]),o 142 (.call (.t 139) [(.t 141)])]) (p [o 143 (.iaddrA 3 4 (.t 2) (ki 0)),o 144 (fa 0 143),s 1 144 (ki (-1))])) (e 0)))) (q (p [s 1 3 (ki (-1))]) (e 0))))) (q (.draw [o 145 (lg 12 2),w 146 (.ext (.wload false 1 (.t 3))),s 12 2 (.t 145),s 1 3 (.t 146)]) r))))⟩
def z4k:List (List Nat):=[]
def jP:AFunc:=⟨10,[.cell 2 true 3],(q (p [o 1 (bx 4 0),o 2 (.alloc [iz,iz,iz])]) (q (p [o 3 (fa 1 1),o 4 (ld 1 3),o 5 (fa 2 1),o 6 (ld 1 5),o 7 (fa 3 1),o 8 (ld 1 7),o 9 (.build [iz,iz,iz] [(0,1,(.t 4)),(1,1,(.t 6)),(2,1,(.t 8))]),s 3 2 (.t 9)]) r))⟩
def Qw:List (List Nat):=[]
def xM:AFunc:=⟨55,[.tmp 6,.tmp 7,.tmp 8],(q (p [o 6 (v kn),o 7 (v (ki 0)),o 8 (v (ki 0))]) (q (p [o 9 (v kn)]) (q (p [o 10 (v (ki 0)),o 11 (v (ki 1))]) (q (q (p [o 12 (v (ki 0))]) (bl 0 (lo [0,1,2,9,10,11,12] (q (q (p [m 15 12,m 16 2,o 17 (le 16),o 18 (b .lss 15 17)]) (c 18 k (e 0))) (q (bl 1 (q (p [m 21 2,m 22 12,o 23 (ia 2 21 22),o 24 (fa 1 23),o 25 (ld 1 24),m 13 25]) (q (p [m 26 10,m 27 1,m 28 13,o 29 (ia 1 27 28),o 30 (ld 1 29),o 31 (cg vy [26,30]),m 14 31]) (q (p [m 32 9,m 33 14,o 34 (li 1 [33]),o 35 (ap 1 8 32 34),m 9 35]) (q (p [m 36 14,m 37 0,m 38 13,o 39 (ia 1 37 38),o 40 (ld 1 39),o 41 (b .add 36 40),o 42 (.mn (ki 1000000) (.t 41)),m 10 42]) (p [m 43 11,m 44 1,m 45 13,o 46 (ia 1 44 45),o 47 (ld 1 46),o 48 (.mx (.t 43) (.t 47)),m 11 48])))))) (p [m 19 12,o 20 (bi .add 19 1),m 12 20])))))) (q (p [m 49 9,m 50 10,m 51 11,o 52 (cg vy [50,51]),o 53 (.mn (ki 1000000) (.t 52)),m 54 11,m 6 49,m 7 53,m 8 54]) r)))))⟩
def kY:List (List Nat):=[[0,1,2,9,10,11,12]]
def tE:AFunc:=⟨13,[.tmp 4],(q (p [o 4 (v (ki 0))]) (q (p [m 5 0,m 6 1,o 7 (b .add 5 6),o 8 (bi .sub 7 1),m 9 1,o 10 (b .quo 8 9),m 11 1,o 12 (b .mul 10 11),m 4 12]) r))⟩
def Vy:List (List Nat):=[]
def Ys:AFunc:=⟨85,[.tmp 2],(q (p [o 1 (bx 3 0),o 2 (v kf)]) (q (q (p [o 12 (fa 0 1),o 13 (ld 1 12),o 14 (cg vF [13]),o 15 (bi .neq 14 0),m 16 15,z 17 16 (fa 1 1),z 18 16 (ld 1 17),z 19 16 (le 18),z 20 16 (bi .gtr 19 32),o 21 (pt 16 20),m 22 21,z 23 22 (fa 2 1),z 24 22 (ld 1 23),z 25 22 (le 24),z 26 22 (bi .eql 25 0),o 27 (pt 22 26),m 28 27,z 29 28 (fa 2 1),z 30 28 (ld 1 29),z 31 28 (le 30),z 32 28 (bi .gtr 31 32),o 33 (pt 28 32)]) (c 33 (q (p [o 2 (v kf)]) r) k)) (q (q (p [o 34 (fa 0 1),o 35 (ld 1 34),o 36 (le 35),o 37 (v (ki 0))]) (bl 0 (lo [1,36,37] (q (p [o 38 (b .lss 37 36)]) (q (c 38 k (e 0)) (q (bl 1 (q (p [m 39 37,m 3 39]) (q (p [o 41 (fa 0 1),o 42 (ld 1 41),m 43 3,o 44 (cg tj [42,43]),m 40 44,o 45 (ex 40 0),o 46 (ex 40 1),o 47 (ex 40 2),m 4 45,m 5 46,m 6 47]) (q (p [m 48 6,o 49 (bi .neq 48 0)]) (c 49 (q (p [o 2 (v kf)]) r) k))))) (p [o 50 (bi .add 37 1),m 37 50]))))))) (q (q (p [o 51 (fa 1 1),o 52 (ld 1 51),o 53 (le 52),o 54 (v (ki 0))]) (bl 2 (lo [1,52,53,54] (q (p [o 55 (b .lss 54 53)]) (q (c 55 k (e 2)) (q (bl 3 (q (p [o 56 (ia 1 52 54),o 57 (ld 1 56),m 8 57]) (q (p [m 58 8,o 59 (.lenS (.t 58)),o 60 (bi .gtr 59 64)]) (c 60 (q (p [o 2 (v kf)]) r) k)))) (p [o 61 (bi .add 54 1),m 54 61]))))))) (q (p [o 62 (.ext .mkmap),m 9 62]) (q (q (p [o 63 (fa 2 1),o 64 (ld 1 63),o 65 (le 64),o 66 (v (ki 0))]) (bl 4 (lo [1,9,64,65,66] (q (p [o 67 (b .lss 66 65)]) (q (c 67 k (e 4)) (q (bl 5 (q (p [o 68 (ia 7 64 66),o 69 (lg 7 68),o 11 (.alloc [.str [],iz,iz,.nils,.nils,.nils,.nils]),s 7 11 (.t 69)]) (q (q (p [m 70 9,o 71 (fa 0 11),o 72 (ld 1 71),o 73 (.ext (.mget true (.bool false) (.t 70) (.t 72))),m 74 73,z 75 74 (fa 0 1),z 76 74 (ld 1 75),z 77 74 (lg 7 11),z 78 74 (cg qB [76,77]),z 79 74 (.un .not (.t 78)),o 80 (pt 74 79)]) (c 80 (q (p [o 2 (v kf)]) r) k)) (p [m 81 9,o 82 (fa 0 11),o 83 (ld 1 82),⟨none,.ext (.mput true (.t 81) (.t 83) kt),none,false⟩])))) (p [o 84 (bi .add 66 1),m 66 84]))))))) (q (p [o 2 (v kt)]) r)))))))⟩
def z30:List (List Nat):=[[1,36,37],[1,52,53,54],[1,9,64,65,66]]
def uF:AFunc:=⟨53,[],(q (p [m 6 0,m 7 1,o 8 (le 7),o 9 (cg zk [6,8])]) (q (p [m 10 1,o 11 (le 10),o 12 (v (ki 0))]) (bl 0 (lo [0,10,11,12] (q (p [o 13 (b .lss 12 11)]) (q (c 13 k (e 0)) (q (bl 1 (q (p [o 14 (ia 4 10 12),o 15 (lg 4 14),o 5 (.alloc [.int .u8 (0),iz,iz,.nils]),s 4 5 (.t 15)]) (q (.draw [m 16 0,m 17 0,o 18 (.ext (.nilChk (.t 17))),o 19 (fa 0 18),o 20 (ld 1 19),o 21 (fa 0 5),o 22 (ld 1 21),o 23 (li 1 [22]),o 24 (ap 1 1 20 23),o 25 (.ext (.nilChk (.t 16))),o 26 (fa 0 25),s 1 26 (.t 24)]) (q (p [o 27 (fa 0 5),o 28 (ld 1 27)]) (bl 2 (q (q (p [o 30 (bu .eql 28 4),m 29 30]) (c 29 k (p [o 31 (bu .eql 28 7),m 29 31]))) (c 29 (p [m 32 0,o 33 (fa 1 5),o 34 (ld 1 33),o 35 (cg zk [32,34])]) (q (p [o 37 (bu .eql 28 6),m 36 37]) (c 36 (q (p [m 38 0,o 39 (fa 1 5),o 40 (ld 1 39),o 41 (cg zk [38,40])]) (p [m 42 0,o 43 (fa 2 5),o 44 (ld 1 43),o 45 (cg zk [42,44])])) (q (p [o 47 (bu .eql 28 5),m 46 47]) (c 46 (p [m 48 0,o 49 (fa 3 5),o 50 (ld 1 49),o 51 (cg yJ [48,50])]) k))))))))))) (p [o 52 (bi .add 12 1),m 12 52]))))))))⟩
def Wk:List (List Nat):=[[0,10,11,12]]
def vT:AFunc:=⟨15,[],(.draw [m 4 0,m 5 0,o 6 (.ext (.nilChk (.t 5))),o 7 (fa 0 6),w 8 (ld 1 7),m 9 1,o 10 (.conv .u64 (.t 9)),o 11 (cg vj [10]),o 12 (ap 1 1 8 11),o 13 (.ext (.nilChk (.t 4))),o 14 (fa 0 13),s 1 14 (.t 12)])⟩
def Xl:List (List Nat):=[]
def uZ:AFunc:=⟨17,[],(q (p [m 4 0,m 5 1,o 6 (.lenS (.t 5)),o 7 (cg zk [4,6])]) (p [m 8 0,m 9 0,o 10 (.ext (.nilChk (.t 9))),o 11 (fa 0 10),o 12 (ld 1 11),m 13 1,o 14 (ap 1 1 12 13),o 15 (.ext (.nilChk (.t 8))),o 16 (fa 0 15),s 1 16 (.t 14)]))⟩
def V7:List (List Nat):=[]
def vb:AFunc:=⟨97,[.tmp 4],(q (p [o 3 (bx 7 1),o 4 (v (ki 0))]) (q (p [m 13 0,o 14 (fa 0 3),o 15 (ld 1 14),o 16 (cg yF [13,15])]) (q (p [m 17 0,o 18 (fa 1 3),o 19 (ld 1 18),o 20 (cg zk [17,19])]) (q (.draw [m 21 0,m 22 0,o 23 (.ext (.nilChk (.t 22))),o 24 (fa 0 23),w 25 (ld 1 24),o 26 (fa 2 3),o 27 (ld 1 26),o 28 (cg qJ [27]),o 29 (ap 1 1 25 28),o 30 (.ext (.nilChk (.t 21))),o 31 (fa 0 30),s 1 31 (.t 29)]) (q (p [m 32 0,o 33 (fa 3 3),o 34 (ld 1 33),o 35 (cg yJ [32,34])]) (q (p [m 36 0,o 37 (fa 4 3),o 38 (ld 1 37),o 39 (le 38),o 40 (cg zk [36,39])]) (q (q (p [o 41 (fa 4 3),o 42 (ld 1 41),o 43 (le 42),o 44 (v (ki 0))]) (bl 0 (lo [0,3,42,43,44] (q (p [o 45 (b .lss 44 43)]) (q (c 45 k (e 0)) (q (bl 1 (q (p [o 46 (ia 4 42 44),o 47 (lg 4 46),o 6 (.alloc [.int .u8 (0),iz,iz,iz]),s 4 6 (.t 47)]) (q (p [o 49 (lg 4 6),o 50 (cg Yv [49]),m 48 50,o 51 (ex 48 0),o 52 (ex 48 1),m 7 51,m 8 52]) (q (q (p [m 53 8,o 54 (bi .neq 53 0)]) (c 54 (q (p [m 55 8,m 4 55]) r) k)) (p [m 56 0,m 57 0,o 58 (.ext (.nilChk (.t 57))),o 59 (fa 0 58),o 60 (ld 1 59),m 61 7,o 62 (ap 1 1 60 61),o 63 (.ext (.nilChk (.t 56))),o 64 (fa 0 63),s 1 64 (.t 62)]))))) (p [o 65 (bi .add 44 1),m 44 65]))))))) (q (q (p [o 66 (fa 5 3),o 67 (ld 1 66),o 68 (fa 6 3),o 69 (ld 1 68),o 70 (li 1 [67,69]),o 71 (le 70),o 72 (v (ki 0))]) (bl 2 (lo [0,3,70,71,72] (q (p [o 73 (b .lss 72 71)]) (q (c 73 k (e 2)) (q (bl 3 (q (p [o 74 (ia 1 70 72),o 75 (ld 1 74),m 10 75]) (q (p [m 77 10,o 78 (fa 4 3),o 79 (ld 1 78),o 80 (le 79),o 81 (cg j8 [77,80]),m 76 81,o 82 (ex 76 0),o 83 (ex 76 1),m 11 82,m 12 83]) (q (q (p [m 84 12,o 85 (bi .neq 84 0)]) (c 85 (q (p [m 86 12,m 4 86]) r) k)) (p [m 87 0,m 88 0,o 89 (.ext (.nilChk (.t 88))),o 90 (fa 0 89),o 91 (ld 1 90),m 92 11,o 93 (ap 1 1 91 92),o 94 (.ext (.nilChk (.t 87))),o 95 (fa 0 94),s 1 95 (.t 93)]))))) (p [o 96 (bi .add 72 1),m 72 96]))))))) (q (p [o 4 (v (ki 0))]) r)))))))))⟩
def Zw:List (List Nat):=[[0,3,42,43,44],[0,3,70,71,72]]
def Yu:AFunc:=⟨53,[.tmp 2],(q (p [o 2 (v (ki 0))]) (q (p [m 6 0,o 7 (le 6),m 3 7]) (q (q (p [m 8 3,o 9 (bi .eql 8 0),m 10 9,z 11 10 (mt 3),z 12 10 (bi .gtr 11 200),o 13 (pt 10 12),m 14 13,z 15 14 (mt 0),z 16 14 (mt 3),z 17 14 (bi .sub 16 1),z 18 14 (ia 4 15 17),z 19 14 (lg 4 18),z 20 14 (.build [.int .u8 (0),iz,iz,iz] [(0,1,(ku 34)),(1,1,(ki (-1)))]),z 21 14 (.ext (.eqA true 4 [(0,1),(1,1),(2,1),(3,1)] (.t 19) (.t 20))),o 22 (pt 14 21)]) (c 22 (q (p [o 2 (v (ki 8))]) r) k)) (q (q (p [m 23 0,o 24 (le 23),o 25 (v (ki 0))]) (bl 0 (lo [3,23,24,25] (q (p [o 26 (b .lss 25 24)]) (q (c 26 k (e 0)) (q (bl 1 (q (p [o 27 (ia 4 23 25),o 28 (lg 4 27),o 5 (.alloc [.int .u8 (0),iz,iz,iz]),s 4 5 (.t 28)]) (q (q (p [o 29 (lg 4 5),o 30 (cg tN [29]),o 31 (bi .neq 30 0)]) (c 31 (q (p [o 2 (v (ki 8))]) r) k)) (q (p [o 32 (fa 0 5),o 33 (ld 1 32),o 34 (bu .eql 33 22),m 35 34,y 36 35 (fa 1 5),y 37 35 (ld 1 36),y 38 35 (mt 3),y 39 35 (b .geq 37 38),o 40 (pf 35 39),m 41 40,z 42 41 (fa 0 5),z 43 41 (ld 1 42),z 44 41 (bu .eql 43 23),z 45 41 (mt 44),y 46 45 (fa 2 5),y 47 45 (ld 1 46),y 48 45 (mt 3),y 49 45 (b .geq 47 48),z 50 41 (pf 45 49),o 51 (pt 41 50)]) (c 51 (q (p [o 2 (v (ki 8))]) r) k))))) (p [o 52 (bi .add 25 1),m 25 52]))))))) (q (p [o 2 (v (ki 0))]) r)))))⟩
def z32:List (List Nat):=[[3,23,24,25]]
def Ze:AFunc:=⟨42,[],(q (p [m 8 1,o 9 (.call (.t 8) [(ki 0),(ki (-1))])]) (q (p [o 10 (.ext (.litB 1 [(ki 0)])),m 4 10]) (bl 0 (lo [0,1,4] (q (q (p [m 11 4,o 12 (le 11),o 13 (bi .gtr 12 0)]) (c 13 k (e 0))) (bl 1 (q (p [m 14 4,m 15 4,o 16 (le 15),o 17 (bi .sub 16 1),o 18 (ia 1 14 17),o 19 (ld 1 18),m 5 19]) (q (p [m 20 4,m 21 4,o 22 (le 21),o 23 (bi .sub 22 1),o 24 (.slice 1 (.t 20) none (some (.t 23)) none),m 4 24]) (q (p [m 25 0,m 26 5,o 27 (cg qL [25,26]),o 28 (le 27),o 29 (v (ki 0))]) (bl 2 (lo [0,1,4,5,27,28,29] (q (p [o 30 (b .lss 29 28)]) (q (c 30 k (e 2)) (q (bl 3 (q (p [o 31 (ia 1 27 29),o 32 (ld 1 31),m 7 32]) (q (p [m 33 1,m 34 7,m 35 5,o 36 (.call (.t 33) [(.t 34),(.t 35)])]) (c 36 (p [m 37 4,m 38 7,o 39 (li 1 [38]),o 40 (ap 1 8 37 39),m 4 40]) k)))) (p [o 41 (bi .add 29 1),m 29 41])))))))))))))))⟩
def z1f:List (List Nat):=[[0,1,4],[0,1,4,5,27,28,29],[777777,10]]
def qA:AFunc:=⟨16,[.tmp 5],(q (p [o 5 (v kf)]) (q (p [o 7 (ld 1 2),m 8 0,o 9 (ia 1 7 8),o 10 (ld 1 9),m 6 10]) (q (p [o 11 (ld 1 2),m 12 0,o 13 (ia 1 11 12),s 1 13 kt]) (q (p [m 14 6,o 15 (.un .not (.t 14)),m 5 15]) r))))⟩
def UJ:List (List Nat):=[]
def yd:AFunc:=⟨77,[.tmp 6,.tmp 7],(q (p [o 3 (bx 10 0),o 4 (bx 4 1),o 6 (v kn),o 7 (v kf)]) (q (q (p [o 15 (fa 0 4),o 16 (ld 1 15),o 17 (bu .eql 16 24)]) (c 17 (.draw [m 18 2,o 19 (cg yI [18]),w 20 (lg 10 3),o 21 (fa 1 4),w 22 (ld 1 21),o 23 (cg zl [20,22]),o 24 (li 1 [23]),o 25 (ap 1 8 19 24),m 2 25]) k)) (q (q (p [o 26 (lg 4 4),o 27 (cg uS [26]),m 8 27]) (q (p [m 28 8,o 29 (bi .geq 28 0)]) (c 29 (q (p [o 30 (fa 0 3),o 31 (fa 2 30),o 32 (ld 1 31),m 33 8,o 34 (ia 7 32 33),o 35 (lg 7 34),o 9 (.alloc [.str [],iz,iz,.nils,.nils,.nils,.nils]),s 7 9 (.t 35)]) (q (p [m 36 2,o 37 (le 36),o 38 (fa 1 9),o 39 (ld 1 38),o 40 (b .sub 37 39),m 10 40]) (q (q (p [m 41 10,o 42 (bi .lss 41 0)]) (c 42 (q (p [o 6 (v kn),o 7 (v kf)]) r) k)) (q (q (p [m 43 2,m 44 10,o 45 (.slice 1 (.t 43) (some (.t 44)) none none),o 46 (le 45),o 47 (v (ki 0))]) (bl 0 (lo [2,3,9,10,45,46,47] (q (p [o 48 (b .lss 47 46)]) (q (c 48 k (e 0)) (q (bl 1 (q (p [m 49 47,o 50 (ia 1 45 47),o 51 (ld 1 50),m 11 49,m 12 51]) (q (p [o 52 (fa 3 9),o 53 (ld 1 52),m 54 11,o 55 (ia 2 53 54),o 56 (fa 1 55),o 57 (ld 1 56),m 58 12,o 59 (b .neq 57 58)]) (c 59 (q (p [o 6 (v kn),o 7 (v kf)]) r) k)))) (p [o 60 (bi .add 47 1),m 47 60]))))))) (p [m 61 2,m 62 10,o 63 (.slice 1 (.t 61) none (some (.t 62)) none),m 2 63]))))) k))) (q (p [o 65 (lg 10 3),m 66 2,o 67 (cg x8 [65,66]),m 64 67,o 68 (ex 64 0),o 69 (ex 64 1),m 13 68,m 14 69]) (q (p [m 70 2,m 71 14,o 72 (bi .eql 71 0),m 73 72,y 74 73 (mt 13),y 75 73 (bi .leq 74 4096),o 76 (pf 73 75),m 6 70,m 7 76]) r)))))⟩
def Xp:List (List Nat):=[[2,3,9,10,45,46,47]]
def WL:AFunc:=⟨23,[.tmp 4,.tmp 5],(q (p [o 4 (v kn),o 5 (v (ki 0))]) (q (q (p [m 7 0,o 8 (cg xG [7]),m 6 8]) (q (p [m 9 6,o 10 (bi .neq 9 0)]) (c 10 (q (p [m 11 6,o 4 (v kn),m 5 11]) r) k))) (q (q (p [m 12 1,o 13 (bi .lss 12 0),m 14 13,z 15 14 (mt 1),z 16 14 (mt 0),z 17 14 (le 16),z 18 14 (b .geq 15 17),o 19 (pt 14 18)]) (c 19 (q (p [o 4 (v kn),o 5 (v (ki 2))]) r) k)) (q (p [m 20 0,m 21 1,o 22 (cg qL [20,21]),m 4 22,o 5 (v (ki 0))]) r))))⟩
def z4p:List (List Nat):=[]
def vt:AFunc:=⟨26,[.tmp 4],(q (p [o 4 (v kf)]) (q (q (p [m 6 0,o 7 (le 6),m 8 1,o 9 (le 8),o 10 (b .neq 7 9)]) (c 10 (q (p [o 4 (v kf)]) r) k)) (q (q (p [m 11 0,o 12 (le 11),o 13 (v (ki 0))]) (bl 0 (lo [0,1,12,13] (q (p [o 14 (b .lss 13 12)]) (q (c 14 k (e 0)) (q (bl 1 (q (p [m 15 13,m 5 15]) (q (.draw [m 16 0,m 17 5,o 18 (ia 1 16 17),o 19 (ld 1 18),m 20 1,m 21 5,o 22 (ia 1 20 21),o 23 (ld 1 22),o 24 (b .neq 19 23)]) (c 24 (q (p [o 4 (v kf)]) r) k)))) (p [o 25 (bi .add 13 1),m 13 25]))))))) (q (p [o 4 (v kt)]) r))))⟩
def Y8:List (List Nat):=[[0,1,12,13]]
def vw:AFunc:=⟨43,[.tmp 4,.tmp 5],(q (p [o 2 (bx 10 0),o 4 (v (ki 0)),o 5 (v (ki 0))]) (q (p [o 6 (v (ki 0))]) (q (q (p [m 12 1,o 13 (le 12),o 14 (v (ki 0))]) (bl 0 (lo [2,6,12,13,14] (q (p [o 15 (b .lss 14 13)]) (q (c 15 k (e 0)) (q (bl 1 (q (p [o 16 (ia 1 12 14),o 17 (ld 1 16),m 8 17]) (q (p [o 19 (fa 0 2),o 20 (fa 0 19),o 21 (ld 1 20),m 22 8,o 23 (cg tj [21,22]),m 18 23,o 24 (ex 18 0),o 25 (ex 18 1),o 26 (ex 18 2),m 9 24,m 10 25,m 11 26]) (q (q (p [m 27 11,o 28 (bi .neq 27 0)]) (c 28 (q (p [m 29 11,o 4 (v (ki 0)),m 5 29]) r) k)) (q (p [m 31 9,o 32 (cg jY [31]),m 30 32,o 33 (ex 30 0),o 34 (ex 30 1),m 9 33,m 11 34]) (q (q (p [m 35 11,o 36 (bi .neq 35 0)]) (c 36 (q (p [m 37 11,o 4 (v (ki 0)),m 5 37]) r) k)) (p [m 38 6,m 39 9,o 40 (b .add 38 39),m 6 40]))))))) (p [o 41 (bi .add 14 1),m 14 41]))))))) (q (p [m 42 6,m 4 42,o 5 (v (ki 0))]) r))))⟩
def Yb:List (List Nat):=[[2,6,12,13,14]]
def WK:AFunc:=⟨18,[.tmp 2],(q (p [o 2 (v (.c (.int .u64 (0))))]) (q (p [o 3 (v (.c (.int .u64 (0))))]) (q (q (p [m 6 0,o 7 (le 6),o 8 (v (ki 0))]) (bl 0 (lo [3,6,7,8] (q (p [o 9 (b .lss 8 7)]) (q (c 9 k (e 0)) (q (bl 1 (q (p [o 10 (ia 1 6 8),o 11 (ld 1 10),m 5 11]) (p [m 12 3,m 13 5,o 14 (.bin .shl (.c (.int .u64 (1))) (.t 13)),o 15 (b .or 12 14),m 3 15]))) (p [o 16 (bi .add 8 1),m 8 16]))))))) (q (p [m 17 3,m 2 17]) r))))⟩
def z4o:List (List Nat):=[[3,6,7,8]]
def qe:AFunc:=⟨60,[.tmp 8],(q (p [o 8 (v kf)]) (q (q (p [m 11 1,o 12 (bi .lss 11 0)]) (c 12 (q (.draw [o 13 (ld 1 3),m 14 0,w 15 (.ext (.wload false 1 (.t 4))),m 16 0,w 17 (.ext (.wload false 1 (.t 2))),o 18 (.bin .shl (.c (.int .u64 (1))) (.t 17)),o 19 (.bin .sub (.t 18) (.c (.int .u64 (1)))),o 20 (ia 1 13 14),s 1 20 kt,o 21 (ia 1 15 16),s 1 21 (.t 19)]) (q (p [o 8 (v kt)]) r)) k)) (q (.draw [o 22 (ld 1 4),m 23 1,o 24 (ia 1 22 23),o 25 (ld 1 24),o 26 (ld 1 5),m 27 1,o 28 (ia 1 26 27),o 29 (ld 1 28),o 30 (b .or 25 29),m 9 30]) (q (q (p [o 31 (ld 1 3),m 32 0,o 33 (ia 1 31 32),o 34 (ld 1 33),o 35 (.un .not (.t 34))]) (c 35 (q (.draw [o 36 (ld 1 3),m 37 0,w 38 (.ext (.wload false 1 (.t 4))),m 39 0,m 40 9,o 41 (ia 1 36 37),s 1 41 kt,o 42 (ia 1 38 39),s 1 42 (.t 40)]) (q (p [o 8 (v kt)]) r)) k)) (q (p [o 43 (ld 1 4),m 44 0,o 45 (ia 1 43 44),o 46 (ld 1 45),m 10 46]) (q (p [o 47 (ld 1 4),m 48 0,o 49 (ia 1 47 48),o 50 (ld 1 49),m 51 9,o 52 (b .and 50 51),o 53 (ia 1 47 48),s 1 53 (.t 52)]) (q (p [o 54 (ld 1 4),m 55 0,o 56 (ia 1 54 55),o 57 (ld 1 56),m 58 10,o 59 (b .neq 57 58),m 8 59]) r)))))))⟩
def QE:List (List Nat):=[]
def qx:AFunc:=⟨9,[.tmp 2],(q (p [o 2 (v (ki 0))]) (q (q (p [m 3 0,o 4 (bi .lss 3 1),m 5 4,z 6 5 (mt 0),z 7 5 (bi .gtr 6 200),o 8 (pt 5 7)]) (c 8 (q (p [o 2 (v (ki 2))]) r) k)) (q (p [o 2 (v (ki 0))]) r)))⟩
def UG:List (List Nat):=[]
def uC:AFunc:=⟨127,[.tmp 4],(q (p [o 4 (v kf)]) (q (p [m 7 0,m 8 1,o 9 (ia 4 7 8),o 10 (lg 4 9),o 5 (.alloc [.int .u8 (0),iz,iz,.nils]),s 4 5 (.t 10)]) (q (q (p [o 11 (fa 0 5),o 12 (ld 1 11)]) (bl 0 (q (q (p [o 14 (bu .eql 12 1),m 13 14]) (c 13 k (q (p [o 15 (bu .eql 12 2),m 13 15]) (c 13 k (p [o 16 (bu .eql 12 3),m 13 16]))))) (c 13 (q (p [o 17 (fa 1 5),o 18 (ld 1 17),o 19 (bi .eql 18 0),m 20 19,y 21 20 (fa 2 5),y 22 20 (ld 1 21),y 23 20 (bi .eql 22 0),o 24 (pf 20 23),m 25 24,y 26 25 (fa 3 5),y 27 25 (ld 1 26),y 28 25 (le 27),y 29 25 (bi .eql 28 0),o 30 (pf 25 29),m 4 30]) r) (q (q (p [o 32 (bu .eql 12 4),m 31 32]) (c 31 k (p [o 33 (bu .eql 12 7),m 31 33]))) (c 31 (q (p [o 34 (fa 1 5),o 35 (ld 1 34),o 36 (bi .geq 35 0),m 37 36,y 38 37 (fa 1 5),y 39 37 (ld 1 38),y 40 37 (mt 0),y 41 37 (le 40),y 42 37 (b .lss 39 41),o 43 (pf 37 42),m 44 43,y 45 44 (fa 2 5),y 46 44 (ld 1 45),y 47 44 (bi .eql 46 0),o 48 (pf 44 47),m 49 48,y 50 49 (fa 3 5),y 51 49 (ld 1 50),y 52 49 (le 51),y 53 49 (bi .eql 52 0),o 54 (pf 49 53),m 4 54]) r) (q (p [o 56 (bu .eql 12 6),m 55 56]) (c 55 (q (p [o 57 (fa 1 5),o 58 (ld 1 57),o 59 (bi .geq 58 0),m 60 59,y 61 60 (fa 1 5),y 62 60 (ld 1 61),y 63 60 (mt 1),y 64 60 (b .lss 62 63),o 65 (pf 60 64),m 66 65,y 67 66 (fa 2 5),y 68 66 (ld 1 67),y 69 66 (bi .geq 68 1),o 70 (pf 66 69),m 71 70,y 72 71 (fa 2 5),y 73 71 (ld 1 72),y 74 71 (bi .leq 73 16),o 75 (pf 71 74),m 76 75,y 77 76 (fa 3 5),y 78 76 (ld 1 77),y 79 76 (le 78),y 80 76 (bi .eql 79 0),o 81 (pf 76 80),m 4 81]) r) (q (p [o 83 (bu .eql 12 5),m 82 83]) (c 82 (q (q (p [o 6 (v (ki 0))]) (bl 1 (lo [1,5,6] (q (q (p [m 84 6,o 85 (fa 3 5),o 86 (ld 1 85),o 87 (le 86),o 88 (b .lss 84 87)]) (c 88 k (e 1))) (q (bl 2 (q (p [o 91 (fa 3 5),o 92 (ld 1 91),m 93 6,o 94 (ia 2 92 93),o 95 (fa 1 94),o 96 (ld 1 95),o 97 (bi .lss 96 0),m 98 97,z 99 98 (fa 3 5),z 100 98 (ld 1 99),z 101 98 (mt 6),z 102 98 (ia 2 100 101),z 103 98 (fa 1 102),z 104 98 (ld 1 103),z 105 98 (mt 1),z 106 98 (b .geq 104 105),o 107 (pt 98 106)]) (c 107 (q (p [o 4 (v kf)]) r) k))) (p [m 89 6,o 90 (bi .add 89 1),m 6 90])))))) (q (p [o 108 (fa 1 5),o 109 (ld 1 108),o 110 (bi .eql 109 0),m 111 110,y 112 111 (fa 2 5),y 113 111 (ld 1 112),y 114 111 (bi .eql 113 0),o 115 (pf 111 114),m 116 115,y 117 116 (fa 3 5),y 118 116 (ld 1 117),y 119 116 (le 118),y 120 116 (bi .gtr 119 0),o 121 (pf 116 120),m 122 121,y 123 122 (fa 3 5),y 124 122 (ld 1 123),y 125 122 (cf yD [(.t 124),(ki 8)]),o 126 (pf 122 125),m 4 126]) r)) k)))))))))) (q (p [o 4 (v kf)]) r))))⟩
def Wh:List (List Nat):=[[1,5,6]]
def yZ:AFunc:=⟨106,[.tmp 4],(q (p [o 4 (v kn)]) (q (p [o 5 (v kn)]) (q (q (p [m 12 1,o 13 (bi .gtr 12 0)]) (c 13 (p [m 14 0,m 15 1,o 16 (bi .sub 15 1),o 17 (cg x6 [14,16]),m 5 17]) k)) (q (p [o 6 (v kn)]) (q (q (p [o 7 (v (ki 0))]) (bl 0 (lo [0,1,5,6,7] (q (q (p [m 18 7,m 19 0,o 20 (le 19),o 21 (b .lss 18 20)]) (c 21 k (e 0))) (q (bl 1 (q (p [m 24 0,m 25 7,o 26 (ia 4 24 25),o 27 (lg 4 26),o 28 (cg u6 [27]),o 8 (v (ki 1)),m 9 28]) (q (q (p [o 10 (v (ki 0))]) (bl 2 (lo [0,1,5,6,7,8,9,10] (q (q (p [m 29 10,m 30 9,o 31 (le 30),o 32 (b .lss 29 31)]) (c 32 k (e 2))) (q (bl 3 (q (p [o 11 (v (ki 1))]) (q (q (p [m 35 0,m 36 7,o 37 (ia 4 35 36),o 38 (fa 0 37),o 39 (ld 1 38),o 40 (bu .eql 39 6)]) (c 40 (p [m 41 0,m 42 7,o 43 (ia 4 41 42),o 44 (fa 2 43),o 45 (ld 1 44),m 11 45]) k)) (p [m 46 8,m 47 11,m 48 6,m 49 9,m 50 10,o 51 (ia 1 49 50),o 52 (ld 1 51),o 53 (ia 1 48 52),o 54 (ld 1 53),o 55 (b .mul 47 54),o 56 (b .add 46 55),o 57 (.mn (.t 56) (ki 5001)),m 8 57])))) (p [m 33 10,o 34 (bi .add 33 1),m 10 34])))))) (q (q (p [m 58 1,o 59 (bi .gtr 58 0),m 60 59,y 61 60 (mt 0),y 62 60 (mt 7),y 63 60 (ia 4 61 62),y 64 60 (fa 0 63),y 65 60 (ld 1 64),y 66 60 (bu .eql 65 4),o 67 (pf 60 66)]) (c 67 (p [m 68 8,m 69 5,m 70 0,m 71 7,o 72 (ia 4 70 71),o 73 (fa 1 72),o 74 (ld 1 73),o 75 (ia 1 69 74),o 76 (ld 1 75),o 77 (b .add 68 76),o 78 (.mn (.t 77) (ki 5001)),m 8 78]) k)) (q (q (p [m 79 1,o 80 (bi .gtr 79 0),m 81 80,y 82 81 (mt 0),y 83 81 (mt 7),y 84 81 (ia 4 82 83),y 85 81 (fa 0 84),y 86 81 (ld 1 85),y 87 81 (bu .eql 86 7),o 88 (pf 81 87)]) (c 88 (p [m 89 8,m 90 5,m 91 0,m 92 7,o 93 (ia 4 91 92),o 94 (fa 1 93),o 95 (ld 1 94),o 96 (ia 1 90 95),o 97 (ld 1 96),o 98 (.bin .mul (ki 16) (.t 97)),o 99 (b .add 89 98),o 100 (.mn (.t 99) (ki 5001)),m 8 100]) k)) (p [m 101 6,m 102 8,o 103 (li 1 [102]),o 104 (ap 1 8 101 103),m 6 104])))))) (p [m 22 7,o 23 (bi .add 22 1),m 7 23])))))) (q (p [m 105 6,m 4 105]) r))))))⟩
def Y4:List (List Nat):=[[0,1,5,6,7],[0,1,5,6,7,8,9,10]]
def vP:AFunc:=⟨41,[.tmp 2],(q (p [o 2 (v kf)]) (q (q (p [m 4 0,o 5 (.lenS (.t 4)),o 6 (bi .lss 5 1),m 7 6,z 8 7 (mt 0),z 9 7 (.lenS (.t 8)),z 10 7 (bi .gtr 9 16),o 11 (pt 7 10),m 12 11,z 13 12 (mt 0),z 14 12 (.indexS (.t 13) (ki 0)),z 15 12 (cg yC [14]),z 16 12 (.un .not (.t 15)),o 17 (pt 12 16)]) (c 17 (q (p [o 2 (v kf)]) r) k)) (q (q (p [o 3 (v (ki 0))]) (bl 0 (lo [0,3] (q (q (p [m 18 3,m 19 0,o 20 (.lenS (.t 19)),o 21 (b .lss 18 20)]) (c 21 k (e 0))) (q (bl 1 (q (p [m 24 0,m 25 3,o 26 (.indexS (.t 24) (.t 25)),o 27 (cg yC [26]),o 28 (.un .not (.t 27)),m 29 28,y 30 29 (mt 0),y 31 29 (mt 3),y 32 29 (.indexS (.t 30) (.t 31)),y 33 29 (bu .lss 32 48),y 34 29 (mt 33),z 35 34 (mt 0),z 36 34 (mt 3),z 37 34 (.indexS (.t 35) (.t 36)),z 38 34 (bu .gtr 37 57),y 39 29 (pt 34 38),o 40 (pf 29 39)]) (c 40 (q (p [o 2 (v kf)]) r) k))) (p [m 22 3,o 23 (bi .add 22 1),m 3 23])))))) (q (p [o 2 (v kt)]) r))))⟩
def X9:List (List Nat):=[[0,3]]
def vp:AFunc:=⟨40,[.tmp 4],(q (p [o 4 (v kf)]) (q (q (p [m 7 0,o 8 (le 7),m 9 1,o 10 (b .gtr 8 9)]) (c 10 (q (p [o 4 (v kf)]) r) k)) (q (q (p [o 5 (v (ki 0))]) (bl 0 (lo [0,5] (q (q (p [m 11 5,m 12 0,o 13 (le 12),o 14 (b .lss 11 13)]) (c 14 k (e 0))) (q (bl 1 (q (q (p [m 17 0,m 18 5,o 19 (ia 2 17 18),o 20 (fa 0 19),o 21 (ld 1 20),o 22 (cg xq [21]),o 23 (.un .not (.t 22))]) (c 23 (q (p [o 4 (v kf)]) r) k)) (q (p [o 6 (v (ki 0))]) (bl 2 (lo [0,5,6] (q (q (p [m 24 6,m 25 5,o 26 (b .lss 24 25)]) (c 26 k (e 2))) (q (bl 3 (q (.draw [m 29 0,m 30 6,o 31 (ia 2 29 30),o 32 (fa 0 31),o 33 (ld 1 32),m 34 0,m 35 5,o 36 (ia 2 34 35),o 37 (fa 0 36),o 38 (ld 1 37),o 39 (b .eql 33 38)]) (c 39 (q (p [o 4 (v kf)]) r) k))) (p [m 27 6,o 28 (bi .add 27 1),m 6 28])))))))) (p [m 15 5,o 16 (bi .add 15 1),m 5 16])))))) (q (p [o 4 (v kt)]) r))))⟩
def Y6:List (List Nat):=[[0,5],[0,5,6]]
def uz:AFunc:=⟨61,[.tmp 4],(q (p [o 4 (v kf)]) (q (q (p [m 6 0,o 7 (le 6),o 8 (bi .lss 7 1),m 9 8,z 10 9 (mt 0),z 11 9 (.iaddr 2 (.t 10) (ki 0)),z 12 9 (fa 0 11),z 13 9 (ld 1 12),z 14 9 (bi .neq 13 0),o 15 (pt 9 14)]) (c 15 (q (p [o 4 (v kf)]) r) k)) (q (q (p [o 5 (v (ki 0))]) (bl 0 (lo [0,1,5] (q (q (p [m 16 5,m 17 0,o 18 (le 17),o 19 (b .lss 16 18)]) (c 19 k (e 0))) (q (bl 1 (q (.draw [m 22 0,m 23 5,o 24 (ia 2 22 23),o 25 (fa 0 24),o 26 (ld 1 25),m 27 1,o 28 (b .geq 26 27),m 29 28,z 30 29 (mt 5),z 31 29 (bi .gtr 30 0),z 32 29 (mt 31),y 33 32 (mt 0),y 34 32 (mt 5),y 35 32 (bi .sub 34 1),y 36 32 (ia 2 33 35),y 37 32 (fa 0 36),y 38 32 (ld 1 37),y 39 32 (mt 0),y 40 32 (mt 5),y 41 32 (ia 2 39 40),y 42 32 (fa 0 41),y 43 32 (ld 1 42),y 44 32 (b .geq 38 43),y 45 32 (mt 44),z 46 45 (mt 0),z 47 45 (mt 5),z 48 45 (bi .sub 47 1),z 49 45 (ia 2 46 48),z 50 45 (fa 1 49),z 51 45 (ld 1 50),z 52 45 (mt 0),z 53 45 (mt 5),z 54 45 (ia 2 52 53),z 55 45 (fa 1 54),z 56 45 (ld 1 55),z 57 45 (b .eql 51 56),y 58 32 (pt 45 57),z 59 29 (pf 32 58),o 60 (pt 29 59)]) (c 60 (q (p [o 4 (v kf)]) r) k))) (p [m 20 5,o 21 (bi .add 20 1),m 5 21])))))) (q (p [o 4 (v kt)]) r))))⟩
def We:List (List Nat):=[[0,1,5]]
def yA:AFunc:=⟨19,[.tmp 4],(q (p [o 4 (v (ki 0))]) (q (q (p [m 6 0,o 7 (le 6),o 8 (v (ki 0))]) (bl 0 (lo [0,1,7,8] (q (p [o 9 (b .lss 8 7)]) (q (c 9 k (e 0)) (q (bl 1 (q (p [m 10 8,m 5 10]) (q (p [m 11 1,m 12 0,m 13 5,o 14 (ia 1 12 13),o 15 (ld 1 14),o 16 (.call (.t 11) [(.t 15)])]) (c 16 (q (p [m 17 5,m 4 17]) r) k)))) (p [o 18 (bi .add 8 1),m 8 18]))))))) (q (p [o 4 (v (ki (-1)))]) r)))⟩
def jH:List (List Nat):=[[0,1,7,8]]
def yR:AFunc:=⟨9,[.tmp 4],(q (p [o 4 (v kf)]) (q (p [m 5 0,m 6 1,o 7 (cg xi [5,6]),o 8 (bi .geq 7 0),m 4 8]) r))⟩
def qQ:List (List Nat):=[]
def xR:AFunc:=⟨8,[.tmp 3],(q (p [o 3 (v kf)]) (q (p [o 4 (lg 10 1),m 5 0,o 6 (.lit 1 [(ku 1),(ku 2),(ku 4)]),o 7 (cg zt [4,5,6]),m 3 7]) r))⟩
def Z4:List (List Nat):=[]
def tg:AFunc:=⟨7,[],(p [o 4 (.sliceA 3 4 (.t 1) none none),m 5 0,o 6 (.ext (.copy 4 (.t 4) (.t 5))),s 1 2 (.t 6)])⟩
def z19:List (List Nat):=[]
def WE:AFunc:=⟨2,[.cell 0 true 4],(q (p [o 0 (.alloc [iz,iz,.bool false,.bool false])]) (q (p [o 1 (.build [iz,iz,.bool false,.bool false] [(0,1,(ki 0)),(1,1,(ki 15)),(2,1,kf),(3,1,kt)]),s 4 0 (.t 1)]) r))⟩
def z4i:List (List Nat):=[]
def WF:AFunc:=⟨2,[.cell 0 true 4],(q (p [o 0 (.alloc [iz,iz,.bool false,.bool false])]) (q (p [o 1 (.build [iz,iz,.bool false,.bool false] [(0,1,(ki (-9223372036854775808))),(1,1,(ki 9223372036854775807)),(2,1,kf),(3,1,kf)]),s 4 0 (.t 1)]) r))⟩
def z4j:List (List Nat):=[]
def WH:AFunc:=⟨6,[.cell 2 true 4],(q (p [o 2 (.alloc [iz,iz,.bool false,.bool false])]) (q (p [m 3 0,o 4 (bi .sub 3 1),o 5 (.build [iz,iz,.bool false,.bool false] [(0,1,(ki 0)),(1,1,(.t 4)),(2,1,kf),(3,1,kf)]),s 4 2 (.t 5)]) r))⟩
def z4l:List (List Nat):=[]
def VK:AFunc:=⟨2,[.cell 0 true 4],(q (p [o 0 (.alloc [iz,iz,.bool false,.bool false])]) (q (p [o 1 (.build [iz,iz,.bool false,.bool false] [(0,1,(ki 0)),(1,1,(ki 15)),(2,1,kt),(3,1,kf)]),s 4 0 (.t 1)]) r))⟩
def z5I:List (List Nat):=[]
def Zb:AFunc:=⟨29,[.tmp 2],(q (p [o 2 (v (ki 0))]) (q (q (p [m 6 0,o 7 (le 6),o 8 (bi .gtr 7 32)]) (c 8 (q (p [o 2 (v (ki 8))]) r) k)) (q (q (p [m 9 0,o 10 (le 9),o 11 (v (ki 0))]) (bl 0 (lo [0,10,11] (q (p [o 12 (b .lss 11 10)]) (q (c 12 k (e 0)) (q (bl 1 (q (p [m 13 11,m 3 13]) (q (p [m 14 0,m 15 3,o 16 (cg Yw [14,15]),o 17 (.un .not (.t 16))]) (c 17 (q (p [o 2 (v (ki 8))]) r) k)))) (p [o 18 (bi .add 11 1),m 11 18]))))))) (q (q (p [m 19 0,o 20 (cg qh [19]),o 21 (le 20),o 22 (v (ki 0))]) (bl 2 (lo [20,21,22] (q (p [o 23 (b .lss 22 21)]) (q (c 23 k (e 2)) (q (bl 3 (q (p [o 24 (ia 1 20 22),o 25 (ld 1 24),m 5 25]) (q (p [m 26 5,o 27 (bi .gtr 26 5000)]) (c 27 (q (p [o 2 (v (ki 8))]) r) k)))) (p [o 28 (bi .add 22 1),m 22 28]))))))) (q (p [o 2 (v (ki 0))]) r)))))⟩
def z1c:List (List Nat):=[[0,10,11],[20,21,22]]
def qI:AFunc:=⟨27,[.tmp 4,.tmp 5,.tmp 6],(q (p [o 4 (v (ki 0)),o 5 (v (ki 0)),o 6 (v (ki 0))]) (q (p [m 9 0,m 10 1,o 11 (cg uQ [9,10]),m 8 11,o 12 (ex 8 0),o 13 (ex 8 1),m 7 12,m 6 13]) (q (q (p [m 14 6,o 15 (bi .neq 14 0)]) (c 15 (q (p [m 16 6,o 4 (v (ki 0)),o 5 (v (ki 0)),m 6 16]) r) k)) (q (.draw [m 17 7,m 18 1,o 19 (ia 2 17 18),o 20 (fa 0 19),o 21 (ld 1 20),m 22 7,m 23 1,o 24 (ia 2 22 23),o 25 (fa 1 24),o 26 (ld 1 25),m 4 21,m 5 26,o 6 (v (ki 0))]) r))))⟩
def z1a:List (List Nat):=[]
def qz:AFunc:=⟨95,[.tmp 4],(q (p [o 3 (bx 7 1),o 4 (v kf)]) (q (q (p [o 9 (fa 0 3),o 10 (ld 1 9),o 11 (cg vE [10]),o 12 (.un .not (.t 11)),m 13 12,z 14 13 (fa 3 3),z 15 13 (ld 1 14),z 16 13 (le 15),z 17 13 (bi .gtr 16 16),o 18 (pt 13 17),m 19 18,z 20 19 (fa 3 3),z 21 19 (ld 1 20),z 22 19 (cg Zj [21]),z 23 19 (.un .not (.t 22)),o 24 (pt 19 23),m 25 24,z 26 25 (fa 1 3),z 27 25 (ld 1 26),z 28 25 (bi .lss 27 0),o 29 (pt 25 28),m 30 29,z 31 30 (fa 1 3),z 32 30 (ld 1 31),z 33 30 (fa 3 3),z 34 30 (ld 1 33),z 35 30 (le 34),z 36 30 (b .gtr 32 35),o 37 (pt 30 36),m 38 37,z 39 38 (fa 2 3),z 40 38 (ld 1 39),z 41 38 (bi .lss 40 (-1)),o 42 (pt 38 41),m 43 42,z 44 43 (fa 2 3),z 45 43 (ld 1 44),z 46 43 (mt 0),z 47 43 (le 46),z 48 43 (b .geq 45 47),o 49 (pt 43 48)]) (c 49 (q (p [o 4 (v kf)]) r) k)) (q (q (p [o 50 (fa 3 3),o 51 (ld 1 50),o 52 (le 51),o 53 (v (ki 0))]) (bl 0 (lo [0,3,51,52,53] (q (p [o 54 (b .lss 53 52)]) (q (c 54 k (e 0)) (q (bl 1 (q (p [o 55 (ia 2 51 53),o 56 (lg 2 55),o 6 (.alloc [.str [],iz]),s 2 6 (.t 56)]) (q (p [o 57 (fa 1 6),o 58 (ld 1 57),o 59 (bi .lss 58 0),m 60 59,z 61 60 (fa 1 6),z 62 60 (ld 1 61),z 63 60 (mt 0),z 64 60 (le 63),z 65 60 (b .geq 62 64),o 66 (pt 60 65)]) (c 66 (q (p [o 4 (v kf)]) r) k)))) (p [o 67 (bi .add 53 1),m 53 67]))))))) (q (q (p [o 68 (fa 4 3),o 69 (ld 1 68),o 70 (le 69),o 71 (v (ki 0))]) (bl 2 (lo [3,69,70,71] (q (p [o 72 (b .lss 71 70)]) (q (c 72 k (e 2)) (q (bl 3 (q (p [o 73 (ia 4 69 71),o 74 (lg 4 73),o 8 (.alloc [.int .u8 (0),iz,iz,iz]),s 4 8 (.t 74)]) (q (p [o 75 (lg 4 8),o 76 (cg tN [75]),o 77 (bi .neq 76 0)]) (c 77 (q (p [o 4 (v kf)]) r) k)))) (p [o 78 (bi .add 71 1),m 71 78]))))))) (q (p [o 79 (fa 5 3),o 80 (ld 1 79),o 81 (fa 4 3),o 82 (ld 1 81),o 83 (le 82),o 84 (cg uO [80,83]),o 85 (bi .eql 84 0),m 86 85,y 87 86 (fa 6 3),y 88 86 (ld 1 87),y 89 86 (fa 4 3),y 90 86 (ld 1 89),y 91 86 (le 90),y 92 86 (cg uO [88,91]),y 93 86 (bi .eql 92 0),o 94 (pf 86 93),m 4 94]) r)))))⟩
def UI:List (List Nat):=[[0,3,51,52,53],[3,69,70,71]]
def vU:AFunc:=⟨25,[],(q (p [m 6 0,m 7 1,o 8 (le 7),o 9 (cg zk [6,8])]) (q (p [m 10 1,o 11 (le 10),o 12 (v (ki 0))]) (bl 0 (lo [0,10,11,12] (q (p [o 13 (b .lss 12 11)]) (q (c 13 k (e 0)) (q (bl 1 (q (p [o 14 (ia 2 10 12),o 15 (lg 2 14),o 5 (.alloc [.str [],iz]),s 2 5 (.t 15)]) (q (p [m 16 0,o 17 (fa 0 5),o 18 (ld 1 17),o 19 (cg yF [16,18])]) (p [m 20 0,o 21 (fa 1 5),o 22 (ld 1 21),o 23 (cg zk [20,22])])))) (p [o 24 (bi .add 12 1),m 12 24]))))))))⟩
def Xm:List (List Nat):=[[0,10,11,12]]
def WD:AFunc:=⟨20,[.tmp 2],(q (p [o 2 (v kn)]) (q (p [o 3 (.alloc [.nils])]) (q (p [o 5 (.mkfn (.func th) [] [(.t 3)]),m 4 5]) (q (bl 0 (lo [0,3,4] (q (q (p [m 6 0,o 7 (.bin .geq (.t 6) (.c (.int .u64 (128))))]) (c 7 k (e 0))) (q (bl 1 (p [m 10 4,m 11 0,o 12 (.conv .u8 (.t 11)),o 13 (bu .or 12 128),o 14 (.call (.t 10) [(.t 13)])])) (p [m 8 0,o 9 (.bin .shr (.t 8) (.c (.int .u64 (7)))),m 0 9]))))) (q (p [m 15 4,m 16 0,o 17 (.conv .u8 (.t 16)),o 18 (.call (.t 15) [(.t 17)])]) (q (p [o 19 (ld 1 3),m 2 19]) r))))))⟩
def z4h:List (List Nat):=[[0,3,4]]
def Z7:AFunc:=⟨11,[.tmp 2],(q (p [o 2 (v kn)]) (q (p [m 3 0,o 4 (.conv .u64 (.t 3)),o 5 (.bin .shl (.t 4) (.c (.int .u64 (1)))),m 6 0,o 7 (.bin .shr (.t 6) (.c (.int .u64 (63)))),o 8 (.conv .u64 (.t 7)),o 9 (b .xor 5 8),o 10 (cg vj [9]),m 2 10]) r))⟩
def z16:List (List Nat):=[]
def Yo:AFunc:=⟨51,[.tmp 2,.tmp 3],(q (p [o 1 (bx 4 0),o 2 (v kn),o 3 (v (ki 0))]) (q (q (p [o 10 (lg 4 1),o 11 (cg tN [10]),m 4 11]) (q (p [m 12 4,o 13 (bi .neq 12 0)]) (c 13 (q (p [m 14 4,o 2 (v kn),m 3 14]) r) k))) (q (p [o 16 (fa 0 1),o 17 (ld 1 16),o 18 (cg qZ [17]),m 15 18,o 19 (ex 15 0),o 20 (ex 15 1),o 5 (.alloc [iz,iz,.bool false,.bool false,iz,iz,.bool false,.bool false,iz,iz,.bool false,.bool false]),s 12 5 (.t 19),m 6 20]) (q (p [o 21 (fa 0 1),o 22 (ld 1 21),o 23 (li 1 [22]),m 7 23]) (q (q (p [o 24 (lg 4 1),o 25 (cg uP [24]),o 26 (v (ki 0))]) (bl 0 (lo [5,6,7,25,26] (q (p [o 27 (bi .lss 26 3)]) (q (c 27 k (e 0)) (q (bl 1 (q (p [m 28 26,o 29 (.indexA 3 1 false (.t 25) (.t 26)),m 8 28,m 9 29]) (bl 2 (q (p [m 36 8,m 37 6,o 38 (b .geq 36 37),m 35 38]) (c 35 k (q (p [m 40 8,o 41 (.iaddrA 3 4 (.t 5) (.t 40)),o 42 (fa 0 41),o 43 (ld 1 42),o 44 (bi .lss 43 0),m 39 44]) (c 39 (p [m 45 7,m 46 9,o 47 (cg qJ [46]),o 48 (ap 1 1 45 47),m 7 48]) (p [m 30 7,m 31 9,o 32 (.conv .u64 (.t 31)),o 33 (cg vj [32]),o 34 (ap 1 1 30 33),m 7 34])))))))) (p [o 49 (bi .add 26 1),m 26 49]))))))) (q (p [m 50 7,m 2 50,o 3 (v (ki 0))]) r))))))⟩
def z2W:List (List Nat):=[[5,6,7,25,26]]
def j4:AFunc:=⟨44,[.tmp 4,.tmp 5],(q (p [o 4 (v kn),o 5 (v (ki 0))]) (q (q (p [m 11 0,m 12 1,o 13 (cg uO [11,12]),m 6 13]) (q (p [m 14 6,o 15 (bi .neq 14 0)]) (c 15 (q (p [m 16 6,o 4 (v kn),m 5 16]) r) k))) (q (p [m 17 0,o 18 (le 17),o 19 (.conv .u64 (.t 18)),o 20 (cg vj [19]),m 7 20]) (q (p [o 8 (v (ki 0))]) (q (q (p [m 21 0,o 22 (le 21),o 23 (v (ki 0))]) (bl 0 (lo [7,8,21,22,23] (q (p [o 24 (b .lss 23 22)]) (q (c 24 k (e 0)) (q (bl 1 (q (p [o 25 (ia 2 21 23),o 26 (lg 2 25),o 10 (.alloc [iz,.int .u64 (0)]),s 2 10 (.t 26)]) (q (p [m 27 7,o 28 (fa 0 10),o 29 (ld 1 28),m 30 8,o 31 (b .sub 29 30),o 32 (.conv .u64 (.t 31)),o 33 (cg vj [32]),o 34 (ap 1 1 27 33),m 7 34]) (q (p [m 35 7,o 36 (fa 1 10),o 37 (ld 1 36),o 38 (cg vj [37]),o 39 (ap 1 1 35 38),m 7 39]) (p [o 40 (fa 0 10),o 41 (ld 1 40),m 8 41]))))) (p [o 42 (bi .add 23 1),m 23 42]))))))) (q (p [m 43 7,m 4 43,o 5 (v (ki 0))]) r))))))⟩
def TE:List (List Nat):=[[7,8,21,22,23]]
def Zf:AFunc:=⟨36,[.tmp 4],(q (p [o 4 (v kn)]) (q (q (p [m 7 0,m 8 1,o 9 (ia 4 7 8),o 10 (lg 4 9),o 5 (.alloc [.int .u8 (0),iz,iz,iz]),s 4 5 (.t 10)]) (q (p [o 11 (fa 0 5),o 12 (ld 1 11)]) (bl 0 (q (q (p [o 14 (bu .eql 12 34),m 13 14]) (c 13 k (q (p [o 15 (bu .eql 12 28),m 13 15]) (c 13 k (p [o 16 (bu .eql 12 30),m 13 16]))))) (c 13 (q (p [o 4 (v kn)]) r) (q (p [o 18 (bu .eql 12 22),m 17 18]) (c 17 (q (p [o 19 (fa 1 5),o 20 (ld 1 19),o 21 (li 1 [20]),m 4 21]) r) (q (p [o 23 (bu .eql 12 23),m 22 23]) (c 22 (q (p [m 24 1,o 25 (bi .add 24 1),o 26 (fa 2 5),o 27 (ld 1 26),o 28 (.ext (.litB 1 [(.t 25),(.t 27)])),m 6 28]) (q (p [m 29 6,o 30 (cg xu [29])]) (q (p [m 31 6,o 32 (cg zQ [31]),m 4 32]) r))) k))))))))) (q (p [m 33 1,o 34 (bi .add 33 1),o 35 (li 1 [34]),m 4 35]) r)))⟩
def z1g:List (List Nat):=[[777777,28]]
def xl:AFunc:=⟨9,[.tmp 2],(q (p [o 2 (v kn)]) (q (p [m 3 0,m 4 0,o 5 (le 4),m 6 0,o 7 (le 6),o 8 (.slice 1 (.t 3) none (some (.t 5)) (some (.t 7))),m 2 8]) r))⟩
def Xk:List (List Nat):=[]
def jQ:AFunc:=⟨13,[.tmp 2,.tmp 3],(q (p [o 2 (v (ki 0)),o 3 (v (ki 0))]) (q (q (p [m 4 0,o 5 (bi .lss 4 0),m 6 5,z 7 6 (mt 0),z 8 6 (bi .gtr 7 1073741824),o 9 (pt 6 8)]) (c 9 (q (p [o 2 (v (ki 0)),o 3 (v (ki 2))]) r) k)) (q (p [m 10 0,o 11 (bi .add 10 7),o 12 (bi .andNot 11 7),m 2 12,o 3 (v (ki 0))]) r)))⟩
def Qy:List (List Nat):=[]
def vO:AFunc:=⟨30,[.tmp 2],(q (p [o 1 (bx 4 0),o 2 (v kn)]) (q (p [o 3 (v kn)]) (q (q (p [o 5 (fa 0 1),o 6 (ld 1 5),o 7 (bu .eql 6 6)]) (c 7 (p [m 8 3,o 9 (fa 1 1),o 10 (ld 1 9),o 11 (li 1 [10]),o 12 (ap 1 8 8 11),m 3 12]) k)) (q (q (p [o 4 (v (ki 0))]) (bl 0 (lo [1,3,4] (q (q (p [m 13 4,o 14 (fa 3 1),o 15 (ld 1 14),o 16 (le 15),o 17 (b .lss 13 16)]) (c 17 k (e 0))) (q (bl 1 (p [m 20 3,o 21 (fa 3 1),o 22 (ld 1 21),m 23 4,o 24 (ia 2 22 23),o 25 (fa 1 24),o 26 (ld 1 25),o 27 (li 1 [26]),o 28 (ap 1 8 20 27),m 3 28])) (p [m 18 4,o 19 (bi .add 18 1),m 4 19])))))) (q (p [m 29 3,m 2 29]) r)))))⟩
def X8:List (List Nat):=[[1,3,4]]
def vo:AFunc:=⟨17,[.tmp 2],(q (p [o 2 (v kf)]) (q (p [m 3 0,o 4 (bu .geq 3 97),m 5 4,y 6 5 (mt 0),y 7 5 (bu .leq 6 122),o 8 (pf 5 7),m 9 8,z 10 9 (mt 0),z 11 9 (bu .geq 10 65),z 12 9 (mt 11),y 13 12 (mt 0),y 14 12 (bu .leq 13 90),z 15 9 (pf 12 14),o 16 (pt 9 15),m 2 16]) r))⟩
def Y5:List (List Nat):=[]
def xg:AFunc:=⟨19,[.tmp 4],(q (p [o 4 (v (ki 0))]) (q (q (p [m 6 0,o 7 (le 6),o 8 (v (ki 0))]) (bl 0 (lo [0,1,7,8] (q (p [o 9 (b .lss 8 7)]) (q (c 9 k (e 0)) (q (bl 1 (q (p [m 10 8,m 5 10]) (q (p [m 11 1,m 12 0,m 13 5,o 14 (ia 1 12 13),o 15 (ld 1 14),o 16 (b .eql 11 15)]) (c 16 (q (p [m 17 5,m 4 17]) r) k)))) (p [o 18 (bi .add 8 1),m 8 18]))))))) (q (p [o 4 (v (ki (-1)))]) r)))⟩
def jG:List (List Nat):=[[0,1,7,8]]
def Yr:AFunc:=⟨118,[.tmp 4],(q (p [o 4 (v kf)]) (q (p [m 10 0,m 11 1,o 12 (ia 4 10 11),o 13 (lg 4 12),o 5 (.alloc [.int .u8 (0),iz,iz,.nils]),s 4 5 (.t 13)]) (q (p [o 6 (v (.c (.fn (.func uR) [] [])))]) (q (q (p [o 14 (fa 0 5),o 15 (ld 1 14)]) (bl 0 (q (q (p [o 17 (bu .eql 15 1),m 16 17]) (c 16 k (q (p [o 18 (bu .eql 15 2),m 16 18]) (c 16 k (p [o 19 (bu .eql 15 3),m 16 19]))))) (c 16 (q (p [o 20 (fa 1 5),o 21 (ld 1 20),o 22 (fa 2 5),o 23 (ld 1 22),o 24 (fa 3 5),o 25 (ld 1 24),o 26 (le 25),o 27 (li 1 [21,23,26]),o 28 (cg yj [27]),m 4 28]) r) (q (q (p [o 30 (bu .eql 15 4),m 29 30]) (c 29 k (p [o 31 (bu .eql 15 7),m 29 31]))) (c 29 (q (p [m 32 6,o 33 (fa 1 5),o 34 (ld 1 33),m 35 0,o 36 (le 35),o 37 (.call (.t 32) [(.t 34),(.t 36)]),m 38 37,y 39 38 (fa 2 5),y 40 38 (ld 1 39),y 41 38 (fa 3 5),y 42 38 (ld 1 41),y 43 38 (le 42),y 44 38 (li 1 [40,43]),y 45 38 (cg yj [44]),o 46 (pf 38 45),m 4 46]) r) (q (p [o 48 (bu .eql 15 6),m 47 48]) (c 47 (q (p [m 49 6,o 50 (fa 1 5),o 51 (ld 1 50),m 52 1,o 53 (.call (.t 49) [(.t 51),(.t 52)]),m 54 53,y 55 54 (mt 6),y 56 54 (fa 2 5),y 57 54 (ld 1 56),y 58 54 (bi .sub 57 1),y 59 54 (.call (.t 55) [(.t 58),(ki 16)]),o 60 (pf 54 59),m 61 60,y 62 61 (fa 3 5),y 63 61 (ld 1 62),y 64 61 (le 63),y 65 61 (li 1 [64]),y 66 61 (cg yj [65]),o 67 (pf 61 66),m 4 67]) r) (q (p [o 69 (bu .eql 15 5),m 68 69]) (c 68 (q (p [o 70 (.ext .mkmap),m 7 70]) (q (q (p [o 71 (fa 3 5),o 72 (ld 1 71),o 73 (le 72),o 74 (v (ki 0))]) (bl 1 (lo [1,5,6,7,72,73,74] (q (p [o 75 (b .lss 74 73)]) (q (c 75 k (e 1)) (q (bl 2 (q (p [o 76 (ia 2 72 74),o 77 (lg 2 76),o 9 (.alloc [.str [],iz]),s 2 9 (.t 77)]) (q (q (p [o 78 (fa 0 9),o 79 (ld 1 78),o 80 (cg vE [79]),o 81 (.un .not (.t 80)),m 82 81,z 83 82 (mt 7),z 84 82 (fa 0 9),z 85 82 (ld 1 84),z 86 82 (.ext (.mget true (.bool false) (.t 83) (.t 85))),o 87 (pt 82 86),m 88 87,z 89 88 (mt 6),z 90 88 (fa 1 9),z 91 88 (ld 1 90),z 92 88 (mt 1),z 93 88 (.call (.t 89) [(.t 91),(.t 92)]),z 94 88 (.un .not (.t 93)),o 95 (pt 88 94)]) (c 95 (q (p [o 4 (v kf)]) r) k)) (p [m 96 7,o 97 (fa 0 9),o 98 (ld 1 97),⟨none,.ext (.mput true (.t 96) (.t 98) kt),none,false⟩])))) (p [o 99 (bi .add 74 1),m 74 99]))))))) (q (p [o 100 (fa 1 5),o 101 (ld 1 100),o 102 (fa 2 5),o 103 (ld 1 102),o 104 (li 1 [101,103]),o 105 (cg yj [104]),m 106 105,y 107 106 (fa 3 5),y 108 106 (ld 1 107),y 109 106 (le 108),y 110 106 (bi .gtr 109 0),o 111 (pf 106 110),m 112 111,y 113 112 (fa 3 5),y 114 112 (ld 1 113),y 115 112 (le 114),y 116 112 (bi .leq 115 8),o 117 (pf 112 116),m 4 117]) r))) k)))))))))) (q (p [o 4 (v kf)]) r)))))⟩
def z2Z:List (List Nat):=[[1,5,6,7,72,73,74]]
def jS:AFunc:=⟨82,[.tmp 2],(q (p [o 2 (v kn)]) (q (p [m 10 0,o 11 (le 10),o 12 (.make 1 8 [iz] (.t 11) (.t 11)),m 3 12]) (q (q (p [o 13 (v (ki 0))]) (bl 0 (lo [0,3,13,999999] (q (p [o 14 (bi .lss 13 4)]) (q (c 14 k (e 0)) (q (bl 1 (q (p [m 15 0,o 16 (le 15),o 17 (.make 1 8 [iz] (.t 16) (.t 16)),m 4 17]) (q (q (p [m 18 0,o 19 (le 18),o 20 (v (ki 0))]) (bl 2 (lo [0,3,4,13,18,19,20] (q (p [o 21 (b .lss 20 19)]) (q (c 21 k (e 2)) (q (bl 3 (q (p [m 22 20,o 23 (ia 4 18 20),o 24 (lg 4 23),o 6 (.alloc [.int .u8 (0),iz,iz,.nils]),m 5 22,s 4 6 (.t 24)]) (q (p [o 7 (v (ki 1))]) (q (q (p [o 25 (fa 0 6),o 26 (ld 1 25)]) (bl 4 (q (p [o 28 (bu .eql 26 4),m 27 28]) (c 27 (p [m 29 7,m 30 3,o 31 (fa 1 6),o 32 (ld 1 31),o 33 (ia 1 30 32),o 34 (ld 1 33),o 35 (b .add 29 34),m 7 35]) (q (p [o 37 (bu .eql 26 7),m 36 37]) (c 36 (p [m 38 7,m 39 3,o 40 (fa 1 6),o 41 (ld 1 40),o 42 (ia 1 39 41),o 43 (ld 1 42),o 44 (.bin .mul (ki 16) (.t 43)),o 45 (b .add 38 44),m 7 45]) (q (p [o 47 (bu .eql 26 6),m 46 47]) (c 46 (.draw [m 48 7,o 49 (fa 2 6),o 50 (ld 1 49),m 51 4,o 52 (fa 1 6),o 53 (ld 1 52),o 54 (ia 1 51 53),o 55 (ld 1 54),o 56 (b .mul 50 55),o 57 (b .add 48 56),m 7 57]) k)))))))) (q (q (p [o 58 (fa 3 6),o 59 (ld 1 58),o 60 (le 59),o 61 (v (ki 0))]) (bl 5 (lo [0,3,4,5,7,13,18,19,20,59,60,61] (q (p [o 62 (b .lss 61 60)]) (q (c 62 k (e 5)) (q (bl 6 (q (p [o 63 (ia 2 59 61),o 64 (lg 2 63),o 9 (.alloc [.str [],iz]),s 2 9 (.t 64)]) (p [m 65 7,m 66 4,o 67 (fa 1 9),o 68 (ld 1 67),o 69 (ia 1 66 68),o 70 (ld 1 69),o 71 (b .add 65 70),m 7 71]))) (p [o 72 (bi .add 61 1),m 61 72]))))))) (p [m 73 4,m 74 5,m 75 7,o 76 (.mn (.t 75) (ki 5001)),o 77 (ia 1 73 74),s 1 77 (.t 76)])))))) (p [o 78 (bi .add 20 1),m 20 78]))))))) (p [m 79 4,m 3 79])))) (p [o 80 (bi .add 13 1),m 13 80]))))))) (q (p [m 81 3,m 2 81]) r))))⟩
def QA:List (List Nat):=[[0,3,13,999999],[0,3,4,13,18,19,20],[0,3,4,5,7,13,18,19,20,59,60,61]]
def qc:AFunc:=⟨30,[.tmp 4,.tmp 5],(q (p [o 4 (v kn),o 5 (v (ki 0))]) (q (q (p [m 8 0,o 9 (cg vF [8]),m 6 9]) (q (p [m 10 6,o 11 (bi .neq 10 0)]) (c 11 (q (p [m 12 6,o 4 (v kn),m 5 12]) r) k))) (q (q (p [m 13 1,o 14 (bi .lss 13 0),m 15 14,z 16 15 (mt 1),z 17 15 (mt 0),z 18 15 (le 17),z 19 15 (b .geq 16 18),o 20 (pt 15 19)]) (c 20 (q (p [o 4 (v kn),o 5 (v (ki 2))]) r) k)) (q (p [m 21 0,o 22 (cg uW [21]),m 7 22]) (q (q (p [m 23 7,m 24 1,o 25 (ia 2 23 24),o 26 (fa 0 25),o 27 (ld 1 26),o 28 (bi .gtr 27 256)]) (c 28 (q (p [o 4 (v kn),o 5 (v (ki 16))]) r) k)) (q (p [m 29 7,m 4 29,o 5 (v (ki 0))]) r))))))⟩
def Qx:List (List Nat):=[]
def Za:AFunc:=⟨47,[.tmp 2],(q (p [o 2 (v kf)]) (q (q (p [m 5 0,o 6 (.lenS (.t 5)),o 7 (bi .eql 6 0),m 8 7,z 9 8 (mt 0),z 10 8 (.lenS (.t 9)),z 11 8 (bi .gtr 10 16),o 12 (pt 8 11),m 13 12,z 14 13 (mt 0),z 15 13 (.indexS (.t 14) (ki 0)),z 16 13 (bu .leq 15 57),o 17 (pt 13 16)]) (c 17 (q (p [o 2 (v kf)]) r) k)) (q (q (p [m 18 0,o 19 (.toBytes (.t 18)),o 20 (le 19),o 21 (v (ki 0))]) (bl 0 (lo [19,20,21] (q (p [o 22 (b .lss 21 20)]) (q (c 22 k (e 0)) (q (bl 1 (q (p [o 23 (ia 1 19 21),o 24 (ld 1 23),m 4 24]) (q (p [m 25 4,o 26 (bu .or 25 32),o 27 (bu .lss 26 97),m 28 27,z 29 28 (mt 4),z 30 28 (bu .or 29 32),z 31 28 (bu .gtr 30 122),o 32 (pt 28 31),m 33 32,z 34 33 (mt 4),z 35 33 (bu .and 34 64),z 36 33 (bu .eql 35 0),o 37 (pt 33 36),m 38 37,y 39 38 (mt 4),y 40 38 (bu .lss 39 48),y 41 38 (mt 40),z 42 41 (mt 4),z 43 41 (bu .gtr 42 57),y 44 38 (pt 41 43),o 45 (pf 38 44)]) (c 45 (q (p [o 2 (v kf)]) r) k)))) (p [o 46 (bi .add 21 1),m 21 46]))))))) (q (p [o 2 (v kt)]) r))))⟩
def z1b:List (List Nat):=[[19,20,21]]
def Zc:AFunc:=⟨24,[.tmp 2],(q (p [o 2 (v kf)]) (q (q (p [m 5 0,o 6 (le 5),o 7 (v (ki 0))]) (bl 0 (lo [0,5,6,7] (q (p [o 8 (b .lss 7 6)]) (q (c 8 k (e 0)) (q (bl 1 (q (p [m 9 7,o 10 (ia 2 5 7),o 11 (lg 2 10),o 4 (.alloc [.str [],iz]),m 3 9,s 2 4 (.t 11)]) (q (p [o 12 (fa 0 4),o 13 (ld 1 12),o 14 (cg vE [13]),o 15 (.un .not (.t 14)),m 16 15,z 17 16 (mt 0),z 18 16 (mt 3),z 19 16 (.slice 2 (.t 17) none (some (.t 18)) none),z 20 16 (.mkfn (.func xB) [] [(.t 4)]),z 21 16 (cg zO [19,20]),o 22 (pt 16 21)]) (c 22 (q (p [o 2 (v kf)]) r) k)))) (p [o 23 (bi .add 7 1),m 7 23]))))))) (q (p [o 2 (v kt)]) r)))⟩
def z1d:List (List Nat):=[[0,5,6,7]]
def jO:AFunc:=⟨15,[.tmp 4],(q (p [o 4 (v (ki 0))]) (q (q (p [m 6 1,o 7 (cg uV [6]),m 5 7]) (q (p [m 8 5,o 9 (bi .neq 8 0)]) (c 9 (q (p [m 10 5,m 4 10]) r) k))) (q (q (p [m 11 0,m 12 1,o 13 (cg Zi [11,12]),o 14 (.un .not (.t 13))]) (c 14 (q (p [o 4 (v (ki 8))]) r) k)) (q (p [o 4 (v (ki 0))]) r))))⟩
def Qv:List (List Nat):=[]
def Z6:AFunc:=⟨7,[],(p [o 3 (ld 1 1),m 4 0,o 5 (li 1 [4]),o 6 (ap 1 1 3 5),s 1 1 (.t 6)])⟩
def z15:List (List Nat):=[]
def vS:AFunc:=⟨11,[],(q (p [m 3 0,o 4 (le 3),m 2 4]) (p [m 5 0,m 6 2,m 7 2,o 8 (.conv .u64 (.t 7)),o 9 (cg ja [8]),o 10 (cf zU [(.t 5),(ki 0),(.t 6),(.t 9)])]))⟩
def Xj:List (List Nat):=[]
def yN:AFunc:=⟨61,[.tmp 2],(q (p [o 2 (v kn)]) (q (q (p [m 6 0,o 7 (le 6),o 8 (bi .lss 7 2)]) (c 8 (q (p [m 9 0,m 2 9]) r) k)) (q (q (p [o 3 (v (ki 1))]) (bl 0 (lo [0,3] (q (q (p [m 10 3,m 11 0,o 12 (le 11),o 13 (b .lss 10 12)]) (c 13 k (e 0))) (q (bl 1 (q (.draw [m 16 0,m 17 3,o 18 (ia 1 16 17),o 19 (ld 1 18),m 20 0,m 21 3,o 22 (bi .sub 21 1),o 23 (ia 1 20 22),o 24 (ld 1 23),o 25 (b .eql 19 24)]) (c 25 (q (p [m 26 0,m 27 3,o 28 (.slice 1 (.t 26) (some (.t 27)) none none),m 4 28]) (q (q (p [o 5 (v (ki 1))]) (bl 2 (lo [0,3,4,5] (q (q (p [m 29 5,m 30 4,o 31 (le 30),o 32 (b .lss 29 31)]) (c 32 k (e 2))) (q (bl 3 (q (.draw [m 35 4,m 36 5,o 37 (ia 1 35 36),o 38 (ld 1 37),m 39 4,m 40 5,o 41 (bi .sub 40 1),o 42 (ia 1 39 41),o 43 (ld 1 42),o 44 (b .neq 38 43)]) (c 44 (q (p [m 45 0,m 46 3,m 47 4,m 48 5,o 49 (ia 1 47 48),o 50 (ld 1 49),o 51 (ia 1 45 46),s 1 51 (.t 50)]) (p [m 52 3,o 53 (bi .add 52 1),m 3 53])) k))) (p [m 33 5,o 34 (bi .add 33 1),m 5 34])))))) (q (p [m 54 0,m 55 3,o 56 (.slice 1 (.t 54) (some (.t 55)) none none),⟨none,.ext (.clr [iz] (.t 56)),none,false⟩]) (q (p [m 57 0,m 58 3,o 59 (.slice 1 (.t 57) none (some (.t 58)) none),m 2 59]) r)))) k))) (p [m 14 3,o 15 (bi .add 14 1),m 3 15])))))) (q (p [m 60 0,m 2 60]) r))))⟩
def kZ:List (List Nat):=[[0,3],[0,3,4,5]]
def jT:AFunc:=⟨12,[.tmp 4],(q (p [o 4 (v kf)]) (q (p [m 5 0,o 6 (bi .geq 5 0),m 7 6,y 8 7 (mt 0),y 9 7 (mt 1),y 10 7 (b .lss 8 9),o 11 (pf 7 10),m 4 11]) r))⟩
def QB:List (List Nat):=[]
def Yq:AFunc:=⟨6,[.tmp 2],(q (p [o 2 (v kf)]) (q (p [m 3 0,o 4 (cf zI [(.t 3),(.c (.fn (.func ve) [] []))]),o 5 (.un .not (.t 4)),m 2 5]) r))⟩
def z2Y:List (List Nat):=[]
def qy:AFunc:=⟨77,[.tmp 2],(q (p [o 2 (v kn)]) (q (p [m 7 0,o 8 (le 7),o 9 (.make 2 16 [iz,iz] (.t 8) (.t 8)),m 3 9]) (q (q (p [m 10 0,o 11 (le 10),o 12 (v (ki 0))]) (bl 0 (lo [3,10,11,12] (q (p [o 13 (b .lss 12 11)]) (q (c 13 k (e 0)) (q (bl 1 (q (p [m 14 12,o 15 (ia 4 10 12),o 16 (lg 4 15),o 5 (.alloc [.int .u8 (0),iz,iz,.nils]),m 4 14,s 4 5 (.t 16)]) (q (p [o 17 (fa 0 5),o 18 (ld 1 17)]) (bl 2 (q (p [o 20 (bu .eql 18 1),m 19 20]) (c 19 (p [m 21 3,m 22 4,o 23 (.build [iz,iz] [(0,1,(ki 1)),(1,1,(ki 1))]),o 24 (ia 2 21 22),s 2 24 (.t 23)]) (q (q (p [o 26 (bu .eql 18 2),m 25 26]) (c 25 k (p [o 27 (bu .eql 18 4),m 25 27]))) (c 25 (p [m 28 3,m 29 4,o 30 (.build [iz,iz] [(0,1,(ki 8)),(1,1,(ki 8))]),o 31 (ia 2 28 29),s 2 31 (.t 30)]) (q (p [o 33 (bu .eql 18 3),m 32 33]) (c 32 (p [m 34 3,m 35 4,o 36 (.build [iz,iz] [(0,1,(ki 16)),(1,1,(ki 8))]),o 37 (ia 2 34 35),s 2 37 (.t 36)]) (q (p [o 39 (bu .eql 18 7),m 38 39]) (c 38 (p [m 40 3,m 41 4,o 42 (.build [iz,iz] [(0,1,(ki 24)),(1,1,(ki 8))]),o 43 (ia 2 40 41),s 2 43 (.t 42)]) (q (p [o 45 (bu .eql 18 6),m 44 45]) (c 44 (q (p [m 46 3,o 47 (fa 1 5),o 48 (ld 1 47),o 49 (ia 2 46 48),o 50 (lg 2 49),o 6 (.alloc [iz,iz]),s 2 6 (.t 50)]) (p [m 51 3,m 52 4,o 53 (fa 2 5),o 54 (ld 1 53),o 55 (fa 0 6),o 56 (ld 1 55),o 57 (b .mul 54 56),o 58 (.mn (ki 1048576) (.t 57)),o 59 (fa 1 6),o 60 (ld 1 59),o 61 (.build [iz,iz] [(0,1,(.t 58)),(1,1,(.t 60))]),o 62 (ia 2 51 52),s 2 62 (.t 61)])) (q (p [o 64 (bu .eql 18 5),m 63 64]) (c 63 (p [m 66 3,m 67 4,m 68 3,o 69 (fa 3 5),o 70 (ld 1 69),o 71 (cg jl [68,70]),m 65 71,o 72 (ex 65 0),o 73 (ex 65 1),o 74 (ia 2 66 67),s 2 74 (.t 73)]) k)))))))))))))))) (p [o 75 (bi .add 12 1),m 12 75]))))))) (q (p [m 76 3,m 2 76]) r))))⟩
def UH:List (List Nat):=[[3,10,11,12]]
def zN:AFunc:=⟨9,[.tmp 4],(q (p [o 4 (v kf)]) (q (p [m 5 0,m 6 1,o 7 (cg zX [5,6]),o 8 (bi .geq 7 0),m 4 8]) r))⟩
def vC:List (List Nat):=[]
def j6:AFunc:=⟨9,[.tmp 3],(q (p [o 2 (bx 2 0),o 3 (v kf)]) (q (p [o 4 (fa 0 2),o 5 (ld 1 4),o 6 (fa 0 1),o 7 (ld 1 6),o 8 (b .eql 5 7),m 3 8]) r))⟩
def TG:List (List Nat):=[]
def Z8:AFunc:=⟨55,[.tmp 4],(q (p [o 4 (v kf)]) (q (q (p [m 8 0,o 9 (le 8),o 10 (bi .eql 9 0),m 11 10,z 12 11 (mt 0),z 13 11 (.iaddr 2 (.t 12) (ki 0)),z 14 11 (fa 0 13),z 15 11 (ld 1 14),z 16 11 (bi .neq 15 0),o 17 (pt 11 16),m 18 17,z 19 18 (mt 0),z 20 18 (mt 0),z 21 18 (le 20),z 22 18 (bi .sub 21 1),z 23 18 (ia 2 19 22),z 24 18 (fa 0 23),z 25 18 (ld 1 24),z 26 18 (mt 1),z 27 18 (b .geq 25 26),o 28 (pt 18 27)]) (c 28 (q (p [o 4 (v kf)]) r) k)) (q (p [m 29 0,o 30 (.iaddr 2 (.t 29) (ki 0)),o 31 (lg 2 30),o 5 (.alloc [iz,.int .u64 (0)]),s 2 5 (.t 31)]) (q (q (p [m 32 0,o 33 (.slice 2 (.t 32) (some (ki 1)) none none),o 34 (le 33),o 35 (v (ki 0))]) (bl 0 (lo [5,33,34,35] (q (p [o 36 (b .lss 35 34)]) (q (c 36 k (e 0)) (q (bl 1 (q (p [o 37 (ia 2 33 35),o 38 (lg 2 37),o 7 (.alloc [iz,.int .u64 (0)]),s 2 7 (.t 38)]) (q (q (p [o 39 (fa 0 7),o 40 (ld 1 39),o 41 (fa 0 5),o 42 (ld 1 41),o 43 (b .leq 40 42),m 44 43,z 45 44 (lg 2 7),z 46 44 (fa 0 7),z 47 44 (ld 1 46),z 48 44 (fa 1 5),z 49 44 (ld 1 48),z 50 44 (.build [iz,.int .u64 (0)] [(0,1,(.t 47)),(1,1,(.t 49))]),z 51 44 (.ext (.eqA false 2 [(0,1),(1,1)] (.t 45) (.t 50))),o 52 (pt 44 51)]) (c 52 (q (p [o 4 (v kf)]) r) k)) (p [o 53 (lg 2 7),s 2 5 (.t 53)])))) (p [o 54 (bi .add 35 1),m 35 54]))))))) (q (p [o 4 (v kt)]) r)))))⟩
def z17:List (List Nat):=[[5,33,34,35]]
def x4:AFunc:=⟨134,[],(q (p [o 8 (v kt)]) (q (p [o 9 (v kt)]) (bl 0 (lo [0,1,2,3,8,9] (bl 1 (q (p [m 19 2,m 20 1,o 21 (b .sub 19 20),m 10 21]) (q (q (p [m 22 10,o 23 (bi .leq 22 12)]) (c 23 (q (p [m 24 0,m 25 1,m 26 2,o 27 (cg yw [24,25,26])]) r) k)) (q (q (p [m 28 3,o 29 (bi .eql 28 0)]) (c 29 (q (p [m 30 0,m 31 1,m 32 2,o 33 (cg j9 [30,31,32])]) r) k)) (q (q (p [m 34 8,o 35 (.un .not (.t 34))]) (c 35 (q (p [m 36 0,m 37 1,m 38 2,o 39 (cg tQ [36,37,38])]) (p [m 40 3,o 41 (bi .sub 40 1),m 3 41])) k)) (q (p [m 43 0,m 44 1,m 45 2,o 46 (cg ql [43,44,45]),m 42 46,o 47 (ex 42 0),o 48 (ex 42 1),m 11 47,m 12 48]) (q (q (p [m 49 12,o 50 (bi .eql 49 2)]) (c 50 (q (p [m 51 0,m 52 1,m 53 2,o 54 (cg qf [51,52,53])]) (q (p [m 55 2,o 56 (bi .sub 55 1),m 57 11,m 58 1,o 59 (b .sub 57 58),o 60 (b .sub 56 59),m 11 60]) (p [o 12 (v (ki 1))]))) k)) (q (q (p [m 61 8,m 62 61,y 63 62 (mt 9),o 64 (pf 62 63),m 65 64,y 66 65 (mt 12),y 67 65 (bi .eql 66 1),o 68 (pf 65 67)]) (c 68 (q (p [m 69 0,m 70 1,m 71 2,o 72 (cg u9 [69,70,71])]) (c 72 r k)) k)) (q (q (.draw [m 73 1,o 74 (bi .gtr 73 0),m 75 74,y 76 75 (mt 0),y 77 75 (mt 1),y 78 75 (bi .sub 77 1),y 79 75 (ia 1 76 78),y 80 75 (ld 1 79),y 81 75 (mt 0),y 82 75 (mt 11),y 83 75 (ia 1 81 82),y 84 75 (ld 1 83),y 85 75 (cg qk [80,84]),y 86 75 (.un .not (.t 85)),o 87 (pf 75 86)]) (c 87 (q (p [m 88 0,m 89 1,m 90 2,m 91 11,o 92 (cg tF [88,89,90,91]),m 13 92]) (q (p [m 93 13,m 1 93]) (e 1))) k)) (q (p [m 95 0,m 96 1,m 97 2,m 98 11,o 99 (cg qY [95,96,97,98]),m 94 99,o 100 (ex 94 0),o 101 (ex 94 1),m 14 100,m 15 101]) (q (p [m 102 15,m 9 102]) (q (p [m 103 14,m 104 1,o 105 (b .sub 103 104),m 106 2,m 107 14,o 108 (b .sub 106 107),m 16 105,m 17 108]) (q (p [m 109 10,o 110 (bi .quo 109 8),m 18 110]) (q (p [m 111 16,m 112 17,o 113 (b .lss 111 112)]) (c 113 (q (p [m 114 16,m 115 18,o 116 (b .geq 114 115),m 8 116]) (q (p [m 117 0,m 118 1,m 119 14,m 120 3,o 121 (cg zU [117,118,119,120])]) (p [m 122 14,o 123 (bi .add 122 1),m 1 123]))) (q (p [m 124 17,m 125 18,o 126 (b .geq 124 125),m 8 126]) (q (p [m 127 0,m 128 14,o 129 (bi .add 128 1),m 130 2,m 131 3,o 132 (cg zU [127,129,130,131])]) (p [m 133 14,m 2 133]))))))))))))))))))))))⟩
def je:List (List Nat):=[[0,1,2,3,8,9]]
def j5:AFunc:=⟨8,[.tmp 2],(q (p [o 2 (v (ki 0))]) (q (.cond kf (q (p [m 3 0,o 4 (.conv .u32 (.t 3)),o 5 (cg Uq [4]),m 2 5]) r) k) (q (p [m 6 0,o 7 (cg qg [6]),m 2 7]) r)))⟩
def TF:List (List Nat):=[]
def jR:AFunc:=⟨5,[.tmp 2],(q (p [o 2 (v kf)]) (q (p [m 3 0,o 4 (bi .neq 3 0),m 2 4]) r))⟩
def Qz:List (List Nat):=[]
def Yp:AFunc:=⟨68,[.tmp 4,.cell 5 true 2],(q (p [o 4 (v kn),o 5 (.alloc [iz,iz])]) (q (p [m 11 1,o 12 (le 11),o 13 (.make 1 8 [iz] (.t 12) (.t 12)),o 14 (.build [iz,iz] [(0,1,(ki 0)),(1,1,(ki 1))]),o 7 (.alloc [iz,iz]),m 6 13,s 2 7 (.t 14)]) (q (q (p [m 15 1,o 16 (le 15),o 17 (v (ki 0))]) (bl 0 (lo [0,5,6,7,15,16,17] (q (p [o 18 (b .lss 17 16)]) (q (c 18 k (e 0)) (q (bl 1 (q (p [m 19 17,o 20 (ia 2 15 17),o 21 (lg 2 20),o 9 (.alloc [.str [],iz]),m 8 19,s 2 9 (.t 21)]) (q (p [m 22 0,o 23 (fa 1 9),o 24 (ld 1 23),o 25 (ia 2 22 24),o 26 (lg 2 25),o 10 (.alloc [iz,iz]),s 2 10 (.t 26)]) (q (p [m 27 6,m 28 8,o 29 (fa 0 7),o 30 (ld 1 29),o 31 (fa 1 10),o 32 (ld 1 31),o 33 (b .add 30 32),o 34 (bi .sub 33 1),o 35 (fa 1 10),o 36 (ld 1 35),o 37 (bi .sub 36 1),o 38 (b .andNot 34 37),o 39 (ia 1 27 28),s 1 39 (.t 38)]) (.draw [m 40 6,m 41 8,o 42 (ia 1 40 41),o 43 (ld 1 42),o 44 (fa 0 10),o 45 (ld 1 44),o 46 (b .add 43 45),o 47 (.mn (ki 1048576) (.t 46)),o 48 (fa 1 7),o 49 (ld 1 48),o 50 (fa 1 10),o 51 (ld 1 50),o 52 (.mx (.t 49) (.t 51)),o 53 (.build [iz,iz] [(0,1,(.t 47)),(1,1,(.t 52))]),s 2 7 (.t 53)]))))) (p [o 54 (bi .add 17 1),m 17 54]))))))) (q (p [o 55 (fa 0 7),o 56 (ld 1 55),o 57 (fa 1 7),o 58 (ld 1 57),o 59 (b .add 56 58),o 60 (bi .sub 59 1),o 61 (fa 1 7),o 62 (ld 1 61),o 63 (bi .sub 62 1),o 64 (b .andNot 60 63),o 65 (fa 0 7),s 1 65 (.t 64)]) (q (.draw [m 66 6,o 67 (lg 2 7),m 4 66,s 2 5 (.t 67)]) r)))))⟩
def z2X:List (List Nat):=[[0,5,6,7,15,16,17]]
def zW:AFunc:=⟨19,[.tmp 4],(q (p [o 4 (v (ki 0))]) (q (q (p [m 6 0,o 7 (le 6),o 8 (v (ki 0))]) (bl 0 (lo [0,1,7,8] (q (p [o 9 (b .lss 8 7)]) (q (c 9 k (e 0)) (q (bl 1 (q (p [m 10 8,m 5 10]) (q (p [m 11 1,m 12 0,m 13 5,o 14 (ia 2 12 13),o 15 (lg 2 14),o 16 (.call (.t 11) [(.t 15)])]) (c 16 (q (p [m 17 5,m 4 17]) r) k)))) (p [o 18 (bi .add 8 1),m 8 18]))))))) (q (p [o 4 (v (ki (-1)))]) r)))⟩
def uk:List (List Nat):=[[0,1,7,8]]
def yu:AFunc:=⟨49,[],(q (p [m 8 1,o 9 (bi .add 8 1),m 6 9]) (bl 0 (lo [0,1,2,6] (q (q (p [m 10 6,m 11 2,o 12 (b .lss 10 11)]) (c 12 k (e 0))) (q (bl 1 (q (p [m 15 6,m 7 15]) (bl 2 (lo [0,1,2,6,7] (q (q (.draw [m 16 7,m 17 1,o 18 (b .gtr 16 17),m 19 18,y 20 19 (mt 0),y 21 19 (mt 7),y 22 19 (ia 1 20 21),y 23 19 (ld 1 22),y 24 19 (mt 0),y 25 19 (mt 7),y 26 19 (bi .sub 25 1),y 27 19 (ia 1 24 26),y 28 19 (ld 1 27),y 29 19 (cg qk [23,28]),o 30 (pf 19 29)]) (c 30 k (e 2))) (q (bl 3 (.draw [m 33 0,m 34 7,m 35 0,m 36 7,o 37 (bi .sub 36 1),m 38 0,m 39 7,o 40 (bi .sub 39 1),o 41 (ia 1 38 40),o 42 (ld 1 41),m 43 0,m 44 7,o 45 (ia 1 43 44),o 46 (ld 1 45),o 47 (ia 1 33 34),s 1 47 (.t 42),o 48 (ia 1 35 37),s 1 48 (.t 46)])) (p [m 31 7,o 32 (bi .sub 31 1),m 7 32]))))))) (p [m 13 6,o 14 (bi .add 13 1),m 6 14]))))))⟩
def tP:List (List Nat):=[[0,1,2,6],[0,1,2,6,7]]
def jV:AFunc:=⟨17,[.tmp 4],(q (p [o 4 (v kf)]) (q (p [m 5 0,o 6 (cg tp [5]),m 7 6,y 8 7 (mt 1),y 9 7 (cg tp [8]),y 10 7 (.un .not (.t 9)),o 11 (pf 7 10),m 12 11,z 13 12 (mt 0),z 14 12 (mt 1),z 15 12 (b .lss 13 14),o 16 (pt 12 15),m 4 16]) r))⟩
def QF:List (List Nat):=[]
def Uo:AFunc:=⟨19,[.tmp 2],(q (p [o 2 (v (ki 0))]) (q (q (p [m 3 0,o 4 (.bin .geq (.t 3) (.c (.int .u32 (65536))))]) (c 4 (q (p [m 5 0,o 6 (.bin .shr (.t 5) (.c (.int .u64 (16)))),m 0 6]) (p [o 2 (v (ki 16))])) k)) (q (q (p [m 7 0,o 8 (.bin .geq (.t 7) (.c (.int .u32 (256))))]) (c 8 (q (p [m 9 0,o 10 (.bin .shr (.t 9) (.c (.int .u64 (8)))),m 0 10]) (p [m 11 2,o 12 (bi .add 11 8),m 2 12])) k)) (q (p [m 13 2,m 14 0,o 15 (.conv .u8 (.t 14)),o 16 (.indexS (.c (.str [0,1,2,2,3,3,3,3,4,4,4,4,4,4,4,4,5,5,5,5,5,5,5,5,5,5,5,5,5,5,5,5,6,6,6,6,6,6,6,6,6,6,6,6,6,6,6,6,6,6,6,6,6,6,6,6,6,6,6,6,6,6,6,6,7,7,7,7,7,7,7,7,7,7,7,7,7,7,7,7,7,7,7,7,7,7,7,7,7,7,7,7,7,7,7,7,7,7,7,7,7,7,7,7,7,7,7,7,7,7,7,7,7,7,7,7,7,7,7,7,7,7,7,7,7,7,7,7,8,8,8,8,8,8,8,8,8,8,8,8,8,8,8,8,8,8,8,8,8,8,8,8,8,8,8,8,8,8,8,8,8,8,8,8,8,8,8,8,8,8,8,8,8,8,8,8,8,8,8,8,8,8,8,8,8,8,8,8,8,8,8,8,8,8,8,8,8,8,8,8,8,8,8,8,8,8,8,8,8,8,8,8,8,8,8,8,8,8,8,8,8,8,8,8,8,8,8,8,8,8,8,8,8,8,8,8,8,8,8,8,8,8,8,8,8,8,8,8,8,8,8,8,8,8,8,8])) (.t 15)),o 17 (.conv .i64 (.t 16)),o 18 (b .add 13 17),m 2 18]) r))))⟩
def U3:List (List Nat):=[]
def qb:AFunc:=⟨25,[.tmp 2],(q (p [o 2 (v (ki 0))]) (q (q (p [m 3 0,o 4 (.bin .geq (.t 3) (.c (.int .u64 (4294967296))))]) (c 4 (q (p [m 5 0,o 6 (.bin .shr (.t 5) (.c (.int .u64 (32)))),m 0 6]) (p [o 2 (v (ki 32))])) k)) (q (q (p [m 7 0,o 8 (.bin .geq (.t 7) (.c (.int .u64 (65536))))]) (c 8 (q (p [m 9 0,o 10 (.bin .shr (.t 9) (.c (.int .u64 (16)))),m 0 10]) (p [m 11 2,o 12 (bi .add 11 16),m 2 12])) k)) (q (q (p [m 13 0,o 14 (.bin .geq (.t 13) (.c (.int .u64 (256))))]) (c 14 (q (p [m 15 0,o 16 (.bin .shr (.t 15) (.c (.int .u64 (8)))),m 0 16]) (p [m 17 2,o 18 (bi .add 17 8),m 2 18])) k)) (q (p [m 19 2,m 20 0,o 21 (.conv .u8 (.t 20)),o 22 (.indexS (.c (.str [0,1,2,2,3,3,3,3,4,4,4,4,4,4,4,4,5,5,5,5,5,5,5,5,5,5,5,5,5,5,5,5,6,6,6,6,6,6,6,6,6,6,6,6,6,6,6,6,6,6,6,6,6,6,6,6,6,6,6,6,6,6,6,6,7,7,7,7,7,7,7,7,7,7,7,7,7,7,7,7,7,7,7,7,7,7,7,7,7,7,7,7,7,7,7,7,7,7,7,7,7,7,7,7,7,7,7,7,7,7,7,7,7,7,7,7,7,7,7,7,7,7,7,7,7,7,7,7,8,8,8,8,8,8,8,8,8,8,8,8,8,8,8,8,8,8,8,8,8,8,8,8,8,8,8,8,8,8,8,8,8,8,8,8,8,8,8,8,8,8,8,8,8,8,8,8,8,8,8,8,8,8,8,8,8,8,8,8,8,8,8,8,8,8,8,8,8,8,8,8,8,8,8,8,8,8,8,8,8,8,8,8,8,8,8,8,8,8,8,8,8,8,8,8,8,8,8,8,8,8,8,8,8,8,8,8,8,8,8,8,8,8,8,8,8,8,8,8,8,8,8,8,8,8,8,8])) (.t 21)),o 23 (.conv .i64 (.t 22)),o 24 (b .add 19 23),m 2 24]) r)))))⟩
def U2:List (List Nat):=[]
def j7:AFunc:=⟨6,[.tmp 2],(q (p [o 2 (v kf)]) (q (p [m 3 0,m 4 0,o 5 (b .neq 3 4),m 2 5]) r))⟩
def TH:List (List Nat):=[]
def tab0:Nat→Option AFunc|5=>some xe|10=>some vI|11=>some XB|12=>some uv|13=>some V9|14=>some Zh|15=>some Zg|16=>some vH|17=>some xk|30=>some jX|31=>some xK|32=>some uw|34=>some XA|36=>some Xz|41=>some vl|42=>some vm|43=>some uE|44=>some va|45=>some vq|46=>some vL|47=>some vJ|48=>some uD|49=>some Zd|50=>some jk|51=>some yL|52=>some vQ|53=>some ux|54=>some vM|56=>some vc|58=>some vX|59=>some zY|60=>some WI|61=>some vW|62=>some vK|63=>some xL|64=>some vN|67=>some zK|68=>some zJ|69=>some xd|70=>some uA|71=>some uy|72=>some xx|77=>some vn|78=>some jU|79=>some qd|80=>some xQ|81=>some Yt|82=>some Z9|83=>some vR|84=>some xJ|85=>some uB|86=>some xN|87=>some jW|88=>some vV|89=>some xP|90=>some yc|91=>some xh|92=>some t6|93=>some xO|94=>some vd|95=>some vY|96=>some vu|97=>some WJ|98=>some WG|99=>some jP|100=>some xM|101=>some tE|112=>some Ys|113=>some uF|114=>some vT|115=>some uZ|116=>some vb|117=>some Yu|118=>some Ze|119=>some qA|120=>some yd|121=>some WL|122=>some vt|123=>some vw|124=>some WK|125=>some qe|126=>some qx|127=>some uC|128=>some yZ|129=>some vP|130=>some vp|131=>some uz|132=>some yA|133=>some yR|134=>some xR|135=>some tg|136=>some WE|137=>some WF|138=>some WH|139=>some VK|141=>some Zb|142=>some qI|143=>some qz|144=>some vU|145=>some WD|146=>some Z7|147=>some Yo|148=>some j4|149=>some Zf|150=>some xl|151=>some jQ|152=>some vO|153=>some vo|154=>some xg|155=>some Yr|156=>some jS|157=>some qc|158=>some Za|159=>some Zc|160=>some jO|161=>some Z6|162=>some vS|163=>some yN|164=>some jT|165=>some Yq|166=>some qy|167=>some zN|168=>some j6|169=>some Z8|170=>some x4|171=>some j5|172=>some jR|173=>some Yp|174=>some zW|175=>some yu|181=>some jV|184=>some Uo|185=>some qb|191=>some j7|_=>none
def tab (f:Nat):Option AFunc:=if f=11 then some (constFn true) else tab0 f
theorem jy:tab uN=some xe:=rfl
theorem YF:tab vZ=some vI:=rfl
theorem YR:tab zR=some (constFn true):=rfl
theorem XR:tab uG=some uv:=rfl
theorem z0X:tab xX=some Zh:=rfl
theorem z0W:tab qM=some Zg:=rfl
theorem YE:tab xm=some vH:=rfl
theorem YG:tab yH=some xk:=rfl
theorem Ql:tab ka=some jX:=rfl
theorem kJ:tab yf=some xK:=rfl
theorem XS:tab uH=some uw:=rfl
theorem ZR:tab zm=some vl:=rfl
theorem ZS:tab x5=some vm:=rfl
theorem W0:tab yS=some uE:=rfl
theorem Zn:tab zu=some va:=rfl
theorem ZW:tab x7=some vq:=rfl
theorem YK:tab u4=some vL:=rfl
theorem YI:tab xn=some vJ:=rfl
theorem XZ:tab uM=some uD:=rfl
theorem z0T:tab vG=some Zd:=rfl
theorem z2E:tab jn=some jk:=rfl
theorem qs:tab zZ=some yL:=rfl
theorem YP:tab u7=some vQ:=rfl
theorem XT:tab uI=some ux:=rfl
theorem YL:tab u5=some vM:=rfl
theorem Zp:tab yW=some vc:=rfl
theorem YY:tab uc=some vX:=rfl
theorem yY:tab zL=some zY:=rfl
theorem z3O:tab j0=some WI:=rfl
theorem YX:tab zl=some vW:=rfl
theorem YJ:tab xo=some vK:=rfl
theorem kK:tab yO=some xL:=rfl
theorem YM:tab xp=some vN:=rfl
theorem tv:tab yn=some zK:=rfl
theorem tu:tab ym=some zJ:=rfl
theorem jx:tab yB=some xd:=rfl
theorem XW:tab uJ=some uA:=rfl
theorem XU:tab xD=some uy:=rfl
theorem ke:tab xy=some xx:=rfl
theorem ZT:tab vx=some vn:=rfl
theorem Qh:tab jZ=some jU:=rfl
theorem W3:tab qi=some qd:=rfl
theorem kR:tab xV=some xQ:=rfl
theorem z2C:tab Yx=some Yt:=rfl
theorem z0P:tab qK=some Z9:=rfl
theorem YQ:tab xr=some vR:=rfl
theorem kI:tab xS=some xJ:=rfl
theorem XX:tab uK=some uB:=rfl
theorem kN:tab yg=some xN:=rfl
theorem Qk:tab uS=some jW:=rfl
theorem YV:tab ua=some vV:=rfl
theorem kQ:tab xU=some xP:=rfl
theorem vg:tab zI=some yc:=rfl
theorem jA:tab zF=some xh:=rfl
theorem V5:tab zt=some t6:=rfl
theorem kP:tab xT=some xO:=rfl
theorem Zq:tab yX=some vd:=rfl
theorem YZ:tab ye=some vY:=rfl
theorem ZY:tab vA=some vu:=rfl
theorem z3P:tab tN=some WJ:=rfl
theorem z3M:tab qZ=some WG:=rfl
theorem Qc:tab uP=some jP:=rfl
theorem kL:tab yP=some xM:=rfl
theorem Vv:tab vy=some tE:=rfl
theorem z2B:tab jm=some Ys:=rfl
theorem W2:tab xF=some uF:=rfl
theorem YT:tab zk=some vT:=rfl
theorem V4:tab yF=some uZ:=rfl
theorem Zo:tab yV=some vb:=rfl
theorem z2D:tab xG=some Yu:=rfl
theorem z0U:tab tl=some Ze:=rfl
theorem UB:tab vf=some qA:=rfl
theorem YW:tab ub=some yd:=rfl
theorem z3R:tab WN=some WL:=rfl
theorem ZX:tab vz=some vt:=rfl
theorem ZZ:tab x8=some vw:=rfl
theorem z3Q:tab kF=some WK:=rfl
theorem Qi:tab qj=some qe:=rfl
theorem Uy:tab uV=some qx:=rfl
theorem XY:tab uL=some uC:=rfl
theorem tV:tab x6=some yZ:=rfl
theorem YO:tab xq=some vP:=rfl
theorem ZV:tab yD=some vp:=rfl
theorem XV:tab xE=some uz:=rfl
theorem ui:tab yE=some yA:=rfl
theorem qO:tab yT=some yR:=rfl
theorem kS:tab xW=some xR:=rfl
theorem kM:tab zH=some tg:=rfl
theorem z3K:tab yU=some WE:=rfl
theorem z3L:tab WM=some WF:=rfl
theorem z3N:tab x9=some WH:=rfl
theorem z5t:tab yo=some VK:=rfl
theorem z0R:tab vF=some Zb:=rfl
theorem Vf:tab tj=some qI:=rfl
theorem UA:tab qB=some qz:=rfl
theorem YU:tab yJ=some vU:=rfl
theorem z3J:tab vj=some WD:=rfl
theorem z0N:tab qJ=some Z7:=rfl
theorem z2x:tab Yv=some Yo:=rfl
theorem Tz:tab j8=some j4:=rfl
theorem z0V:tab qL=some Zf:=rfl
theorem qo:tab yI=some xl:=rfl
theorem Qd:tab jY=some jQ:=rfl
theorem YN:tab u6=some vO:=rfl
theorem ZU:tab yC=some vo:=rfl
theorem jz:tab xi=some xg:=rfl
theorem z2A:tab Yw=some Yr:=rfl
theorem Qf:tab qh=some jS:=rfl
theorem W1:tab uQ=some qc:=rfl
theorem z0Q:tab vE=some Za:=rfl
theorem z0S:tab Zj=some Zc:=rfl
theorem Qb:tab uO=some jO:=rfl
theorem z0M:tab th=some Z6:=rfl
theorem YS:tab xu=some vS:=rfl
theorem tc:tab zQ=some yN:=rfl
theorem Qg:tab uR=some jT:=rfl
theorem z2z:tab yj=some Yq:=rfl
theorem Uz:tab uW=some qy:=rfl
theorem vB:tab zO=some zN:=rfl
theorem TB:tab xB=some j6:=rfl
theorem z0O:tab Zi=some Z8:=rfl
theorem jd:tab zU=some x4:=rfl
theorem TA:tab ja=some j5:=rfl
theorem Qe:tab ve=some jR:=rfl
theorem z2y:tab jl=some Yp:=rfl
theorem uj:tab zX=some zW:=rfl
theorem tO:tab yw=some yu:=rfl
theorem Qj:tab qk=some jV:=rfl
theorem VT:tab qg=some qb:=rfl
theorem TC:tab tp=some j7:=rfl
end Go.Proofs.W
end
section
namespace Go.Vs
open Go.RowKit
def tiles (P:Program):Nat→List Field→Nat→Bool
 |o,[],e=>o==e
 |o,f::r,e=>f.offset==o&&tiles P (o+P.cellsOf f.type) r e
def plainIn (P:Program) (S:List TypeId) (t:TypeId):Bool:=
 match P.underlying t with
 |some .bool|some (.int _)|some .string=>true
 |some (.slice e)=>S.contains e&&decide (0<P.cellsOf e)
 |some (.struct fs)=>(fs.toList.all fun f=>S.contains f.type)&&tiles P 0 fs.toList (P.cellsOf t)
 |some (.array n e)=>S.contains e&&(P.cellsOf t==n*P.cellsOf e)
 |_=>false
def plainAll (P:Program) (S:List TypeId):Bool:=S.all (plainIn P S)
def IsElem (P:Program) (e:TypeId) (y:AV):Prop:=if aggT P e=some true then∃cs,y= .agg cs else y.cells=[y]
def Typed (P:Program):Nat→TypeId→List AV→Prop
 |0,_,_=>False
 |n+1,t,xs=>
  match P.underlying t with
  |some .bool=> ∃b,xs=[.bool b]
  |some (.int k)=> ∃i,xs=[.int k i]∧(Lit.int k i).wf=true
  |some .string=> ∃l,xs=[.str l]∧l.length≤maxLen
  |some (.slice e)=>xs=[.nils]∨ ∃ys,xs=[.list (P.cellsOf e) .none ys]∧ys.length≤maxLen∧ ∀y∈ys,IsElem P e y∧Typed P n e y.cells
  |some (.struct fs)=>xs.length=P.cellsOf t∧ ∀f∈fs.toList,Typed P n f.type ((xs.drop f.offset).take (P.cellsOf f.type))
  |some (.array k e)=>xs.length=P.cellsOf t∧ ∀i,i<k→Typed P n e ((xs.drop (i*P.cellsOf e)).take (P.cellsOf e))
  |_=>False
section
variable {H : Type} {enc : TypeId × Value → H} {P : Program} {g : G} {w : World}
theorem z1s {n:Nat} {e:TypeId} {xs:List AV} (h:Typed P n e xs) (ha:aggT P e≠some true): ∃y,xs=[y]∧y.cells=[y]:=by
 cases n with
 |zero=>exact h.elim
 |succ n=>
  unfold Typed at h
  unfold aggT at ha
  split at h
  ·obtain⟨b,rfl⟩:=h;exact⟨_,rfl,rfl⟩
  ·obtain⟨i,rfl,_⟩:=h;exact⟨_,rfl,rfl⟩
  ·obtain⟨l,rfl,_⟩:=h;exact⟨_,rfl,rfl⟩
  ·rcases h with rfl|⟨ys,rfl,_⟩<;>exact⟨_,rfl,rfl⟩
  ·rename_i fs hu;rw[hu] at ha;exact absurd rfl ha
  ·rename_i k e hu;rw[hu] at ha;exact absurd rfl ha
  ·exact h.elim
theorem Q9 {n:Nat} {T:TypeId→List Value→Prop} (ih: ∀t cs,T t cs→ ∃xs,Typed P n t xs∧Reps g w xs cs∧ ∀c∈cs,c.oneCell'=true):
  ∀(fs:List Field) (o e:Nat) (cs:List Value),tiles P o fs e=true→cs.length=e→(∀f∈fs,T f.type ((cs.drop f.offset).take (P.cellsOf f.type)))→
   ∃ys,Reps g w ys (cs.drop o)∧(∀c∈cs.drop o,c.oneCell'=true)∧o≤e∧ ∀(xs:List AV),xs.drop o=ys→(∀f∈fs,Typed P n f.type ((xs.drop f.offset).take (P.cellsOf f.type)))
 | [],o,e,cs,ht,hl,_=>by
  have:o=e:=by simpa [tiles] using ht
  subst this
  rw[←hl,List.drop_length]
  exact⟨[],Reps.nil g w,(fun c hc=>by cases hc),w0b _,(fun xs _ f hf=>by cases hf)⟩
 |f::r,o,e,cs,ht,hl,hT=>by
  simp only[tiles,w0e,beq_iff_eq] at ht
  obtain⟨ho,ht⟩:=ht
  obtain⟨zs,k1,k2,k3,k4⟩:=Q9 ih r (o+P.cellsOf f.type) e cs ht hl (fun q hq=>hT q (w1c _ hq))
  obtain⟨xf,h1,h2,h3⟩:=ih _ _ (hT f w1b)
  rw[ho] at h2 h3
  have hsplit:cs.drop o=(cs.drop o).take (P.cellsOf f.type)++cs.drop (o+P.cellsOf f.type):=by
   rw[←List.drop_drop,List.take_append_drop]
  have hxl:xf.length=P.cellsOf f.type:=by
   rw[←h2.1,w21,w51,hl];omega
  refine⟨xf++zs,by rw[hsplit];exact h2.append k1,fun c hc=> ?_,by omega,fun xs hxs q hq=> ?_⟩
  ·rw[hsplit] at hc
   rcases w08.1 hc with hc|hc
   ·exact h3 c hc
   ·exact k2 c hc
  ·rcases w35.1 hq with rfl|hq
   ·rw[ho,hxs,w55 (by omega),w37 (by omega)]
    exact h1
   ·refine k4 xs ?_ q hq
    rw[←List.drop_drop,hxs,List.drop_append_of_le_length (by omega),List.drop_of_length_le (by omega)]
    rfl
theorem T6 {n c:Nat} {e:TypeId} {T:List Value→Prop} (ih: ∀cs,T cs→ ∃xs,Typed P n e xs∧Reps g w xs cs∧ ∀c∈cs,c.oneCell'=true):
  ∀(k:Nat) (cs:List Value),cs.length=k*c→(∀i,i<k→T ((cs.drop (i*c)).take c))→
   ∃xs,Reps g w xs cs∧(∀c∈cs,c.oneCell'=true)∧ ∀i,i<k→Typed P n e ((xs.drop (i*c)).take c)
 |0,cs,hl,_=>by
  have:cs=[]:=w18 (by simpa using hl)
  subst this
  exact⟨[],Reps.nil g w,(fun c hc=>by cases hc),(fun i hi=>by omega)⟩
 |k+1,cs,hl,hT=>by
  have hlen:(cs.drop c).length=k*c:=by rw[w51,hl,w3d];omega
  obtain⟨zs,k1,k2,k3⟩:=T6 (c:=c) ih k (cs.drop c) hlen (fun i hi=>by
   have:=hT (i+1) (by omega)
   rw[List.drop_drop]
   rw[show c+i*c=(i+1)*c by rw[w3d];omega]
   exact this)
  obtain⟨x0,h1,h2,h3⟩:=ih _ (hT 0 (by omega))
  simp only[Nat.zero_mul,w24] at h2 h3
  have hxl:x0.length=c:=by
   rw[←h2.1,w21,hl,w3d];omega
  refine⟨x0++zs,?_,fun v hv=> ?_,fun i hi=> ?_⟩
  ·have:=h2.append k1
   rwa [List.take_append_drop] at this
  ·rw[←List.take_append_drop c cs] at hv
   rcases w08.1 hv with hv|hv
   ·exact h3 v hv
   ·exact k2 v hv
  ·cases i with
   |zero=>
    rw[Nat.zero_mul,w24,w55 (by omega),w37 (by omega)]
    exact h1
   |succ i=>
    have:=k3 i (by omega)
    have hd:(x0++zs).drop c=zs:=by rw[←hxl];simp
    rw[show(i+1)*c=c+i*c by rw[w3d];omega,←List.drop_drop,hd]
    exact this
theorem U8 {α β:Type} {f:α→Option β}: ∀{l:List α} {r:List β},l.mapM f=some r→ ∀x∈l,∃y,f x=some y
 | [],_,_,x,hx=>by cases hx
 |a::l,r,h,x,hx=>by
  rw[List.mapM_cons] at h
  simp only[Option.bind_eq_bind,w04] at h
  obtain⟨y,h1,ys,h2,_⟩:=h
  rcases w35.1 hx with rfl|hx
  ·exact⟨y,h1⟩
  ·exact U8 h2 x hx
theorem z5q {S:List TypeId} (hS:plainAll P S=true) (hg: ∀b o,g.own b o=none) {base:Nat} {spare:Nat→Bool} {held:Bool}: ∀(n:Nat) (t:TypeId) (cs:List Value) (x:DataW H×List MemPlace),t∈S→DataW.trod enc P w base spare held n t cs=some x→
  ∃xs,Typed P n t xs∧Reps g w xs cs∧ ∀c∈cs,c.oneCell'=true:=by
 intro n
 induction n with
 |zero=>intro t cs x _ h;simp[DataW.trod] at h
 |succ n ih=>
  intro t cs x ht h
  have hp:plainIn P S t=true:=w49.1 hS t ht
  unfold plainIn at hp
  have one: ∀(y:AV) (v:Value),Rep g w y v→v.oneCell'=true→Reps g w [y] [v]∧ ∀c∈[v],c.oneCell'=true:=
   fun y v hr hone=>⟨Reps.cons hr (Reps.nil g w),fun c hc=>by rw[w13.1 hc];exact hone⟩
  unfold DataW.trod at h
  split at h
  all_goals (try (rename_i hu;rw[hu] at hp;cases hp;done))
  ·rename_i b hu
   exact⟨[.bool b],by simp only[Typed,hu];exact⟨b,rfl⟩,one _ _ (.bool b) rfl⟩
  ·rename_i k k' i hu
   split at h
   ·rename_i hk
    obtain⟨rfl,hwf⟩:=hk
    exact⟨[.int k' i],by simp only[Typed,hu];exact⟨i,rfl,hwf⟩,one _ _ (.int k' i) rfl⟩
   ·cases h
  ·rename_i s hu
   split at h
   ·rename_i hs
    exact⟨[.str s.data.toList],by simp only[Typed,hu];exact⟨_,rfl,by simpa using hs⟩,one _ _ (.str _ s rfl) rfl⟩
   ·cases h
  ·rename_i e hu
   exact⟨[.nils],by simp[Typed,hu],one _ _ .nils rfl⟩
  ·rename_i e a len cap hu
   simp only at h
   rw[hu] at hp
   simp only[w0e,decide_eq_true_eq] at hp
   obtain⟨heS,hc0⟩:=hp
   have heS':e∈S:=by simpa using heS
   split at h
   ·rename_i hcond
    obtain⟨_,hle,hmax⟩:=hcond
    simp only[w04] at h
    obtain⟨elems,hel,_⟩:=h
    have hall:=U8 hel
    have each: ∀i,i<len→ ∃(cs:List Value) (xs:List AV),cs.length=P.cellsOf e∧(∀j,j<P.cellsOf e→w.cell? ((a.add (i*P.cellsOf e)).add j)=cs[j]?)∧Typed P n e xs∧Reps g w xs cs∧ ∀c∈cs,c.oneCell'=true:=by
     intro i hi
     obtain⟨y,hy⟩:=hall i (w44.2 hi)
     simp only[w04] at hy
     obtain⟨cs,h1,h2⟩:=hy
     obtain⟨_,h3,h4⟩:=World.cells?_some h1
     obtain⟨xs,k1,k2,k3⟩:=ih e cs y heS' h2
     exact⟨cs,xs,h3,h4,k1,k2,k3⟩
    by_cases hlen:len=0
    ·subst hlen
     exact⟨[.list (P.cellsOf e) .none []],by simp only[Typed,hu];exact .inr ⟨[],rfl,by simp,fun y hy=>by cases hy⟩,one _ _ (.empty _ _ _ _ (.inl rfl)) rfl⟩
    ·
     obtain⟨b,o,spot⟩:=a
     have hspot:spot=none:=by
      obtain⟨cs,xs,h1,h2,_⟩:=each 0 (by omega)
      have h3:=h2 0 hc0
      rw[w10 (by omega)] at h3
      have:=World.cell?_spot h3
      simpa [Addr.add] using this
     subst hspot
     have each': ∀i,∃(cs:List Value) (y:AV),i<len→cs.length=P.cellsOf e∧(∀j,j<P.cellsOf e→w.cell? ⟨b,o+(i*P.cellsOf e+j),none⟩=cs[j]?)∧IsElem P e y∧Typed P n e y.cells∧Reps g w y.cells cs∧ ∀c∈cs,c.oneCell'=true:=by
      intro i
      by_cases hi:i<len
      ·obtain⟨cs,xs,h1,h2,h3,h4,h5⟩:=each i hi
       have h2': ∀j,j<P.cellsOf e→w.cell? ⟨b,o+(i*P.cellsOf e+j),none⟩=cs[j]? :=fun j hj=>by
        have:=h2 j hj
        rw[Addr.add_mid,Addr.add_mid,Nat.add_assoc] at this
        exact this
       by_cases ha:aggT P e=some true
       ·exact⟨cs,.agg xs,fun _=>⟨h1,h2',by unfold IsElem;rw[if_pos ha];exact⟨xs,rfl⟩,h3,h4,h5⟩⟩
       ·obtain⟨y,rfl,hy⟩:=z1s h3 ha
        exact⟨cs,y,fun _=>⟨h1,h2',by unfold IsElem;rw[if_neg ha];exact hy,by rw[hy];exact h3,by rw[hy];exact h4,h5⟩⟩
      ·exact⟨[],.undef,fun h=>absurd h hi⟩
     have hf:=fun i=>(each' i).choose_spec
     let fc:Nat→List Value:=fun i=>(each' i).choose
     let fy:Nat→AV:=fun i=>(hf i).choose
     have key: ∀i,i<len→(fc i).length=P.cellsOf e∧(∀j,j<P.cellsOf e→w.cell? ⟨b,o+(i*P.cellsOf e+j),none⟩=(fc i)[j]?)∧IsElem P e (fy i)∧Typed P n e (fy i).cells∧Reps g w (fy i).cells (fc i)∧ ∀c∈fc i,c.oneCell'=true:=
      fun i hi=>(hf i).choose_spec hi
     let ys:=(List.range len).map fy
     have hys:ys.length=len:=by simp[ys]
     have hget: ∀(i:Nat) (y:AV),ys[i]? =some y→i<len∧y=fy i:=by
      intro i y hy
      have hi:i<len:=by rw[←hys];exact(w06.1 hy).1
      simp only[ys,w17,w3c hi,w0d,Option.some.injEq] at hy
      exact⟨hi,hy.symm⟩
     have hcell: ∀(i j:Nat) (y c:AV),ys[i]? =some y→y.cells[j]? =some c→ ∃v,(fc i)[j]? =some v∧w.cell? ⟨b,o+(i*P.cellsOf e+j),none⟩=some v∧Rep g w c v∧v.oneCell'=true:=by
      intro i j y c h1 h2
      obtain⟨hi,rfl⟩:=hget i y h1
      obtain⟨k1,k2,k3,k4,k5,k6⟩:=key i hi
      obtain⟨v,h3,h4⟩:=k5.get h2
      have hj:j<P.cellsOf e:=by rw[←k1];exact(w06.1 h3).1
      exact⟨v,h3,by rw[k2 j hj];exact h3,h4,k6 v (w3e h3)⟩
     have hrep:=Rep.list (g:=g) (w:=w) (P.cellsOf e) .none ys b o cap (fun i j=>((fc i)[j]?).getD Go.undef)
      (fun i y hy=>by obtain⟨hi,rfl⟩:=hget i y hy;obtain⟨k1,_,_,_,k5,_⟩:=key i hi;rw[←k5.1,k1]) (by rw[hys];exact hle) trivial
      (fun i j y c h1 h2=>by
       obtain⟨v,h3,h4,h5,h6⟩:=hcell i j y c h1 h2
       rw[h3]
       exact⟨h4,hg _ _,h6⟩)
      (fun i j y c h1 h2=>by
       obtain⟨v,h3,h4,h5,h6⟩:=hcell i j y c h1 h2
       rw[h3]
       exact h5)
     rw[hys] at hrep
     refine⟨[.list (P.cellsOf e) .none ys],?_,one _ _ hrep rfl⟩
     simp only[Typed,hu]
     refine .inr ⟨ys,rfl,by rw[hys];omega,fun y hy=> ?_⟩
     obtain⟨i,hi⟩:=List.getElem?_of_mem hy
     obtain⟨hil,rfl⟩:=hget i y hi
     obtain⟨_,_,k3,k4,_⟩:=key i hil
     exact⟨k3,k4⟩
   ·cases h
  ·rename_i fs hu
   rw[hu] at hp
   simp only[w0e] at hp
   obtain⟨hfs,htile⟩:=hp
   split at h
   ·rename_i hlen
    simp only[w00] at h
    obtain⟨ys,hm,_⟩:=h
    have hall:=U8 hm
    obtain⟨xs,k1,k2,_,k3⟩:=Q9 (P:=P) (g:=g) (w:=w) (n:=n) (T:=fun t c=>t∈S∧ ∃y,DataW.trod enc P w base spare held n t c=some y)
     (fun t c ⟨ht,y,hy⟩=>ih t c y ht hy) fs.toList 0 (P.cellsOf t) _ htile hlen (fun f hf=>⟨by simpa using w49.1 hfs f hf,hall f hf⟩)
    rw[w24] at k1 k2
    refine⟨xs,?_,k1,k2⟩
    simp only[Typed,hu]
    exact⟨by rw[←k1.1];exact hlen,k3 xs (w24 ..)⟩
   ·cases h
  ·rename_i k e hu
   rw[hu] at hp
   simp only[w0e,beq_iff_eq] at hp
   obtain⟨heS,hsz⟩:=hp
   have heS':e∈S:=by simpa using heS
   split at h
   ·rename_i hlen
    simp only[w00] at h
    obtain⟨ys,hm,_⟩:=h
    have hall:=U8 hm
    obtain⟨xs,k1,k2,k3⟩:=T6 (P:=P) (g:=g) (w:=w) (n:=n) (c:=P.cellsOf e) (e:=e) (T:=fun c=> ∃y,DataW.trod enc P w base spare held n e c=some y)
     (fun c ⟨y,hy⟩=>ih e c y heS' hy) k _ (by rw[hlen,hsz]) (fun i hi=>hall i (w44.2 hi))
    refine⟨xs,?_,k1,k2⟩
    simp only[Typed,hu]
    exact⟨by rw[←k1.1];exact hlen,k3⟩
   ·cases h
  ·cases h
end
end Go.Vs
end
section
namespace Go.Vs
open Go.RowKit Go.ChangeShapes Go.WideShapes
section
variable {H : Type} {enc : TypeId × Value → H} {P : Program} {g : G} {W : World}
theorem z5G {t:TypeId} {r:Reach} {base:Nat} {v:Value} (ha:aggT P t=some true) (h:Value.okWide P W r base t v): ∃cs,v= .agg cs:=by
 unfold aggT at ha
 unfold Value.okWide at h
 split at ha
 ·rename_i fs hu;rw[hu] at h;obtain⟨cs,h,_⟩:=h;exact⟨cs,h⟩
 ·rename_i n e hu;rw[hu] at h;obtain⟨cs,h,_⟩:=h;exact⟨cs,h⟩
 ·cases ha
 ·cases ha
theorem z11 {S:List TypeId} {t:TypeId} {r:Reach} {base:Nat} {v:Value} (hp:plainIn P S t=true) (ha:aggT P t≠some true) (h:Value.okWide P W r base t v):v.cells= #[v]:=by
 unfold plainIn at hp
 unfold aggT at ha
 split at hp
 ·rename_i hu;obtain⟨b,rfl⟩:=okWide_bool hu h;rfl
 ·rename_i hu;obtain⟨b,rfl⟩:=okWide_int hu h;rfl
 ·rename_i hu;obtain⟨b,rfl⟩:=okWide_string hu h;rfl
 ·rename_i hu;obtain⟨a,b,c,rfl⟩:=okWide_slice hu h;rfl
 ·rename_i hu;rw[hu] at ha;exact absurd rfl ha
 ·rename_i hu;rw[hu] at ha;exact absurd rfl ha
 ·cases hp
def ArgT (P:Program) (t:TypeId) (y:AV):Prop:=IsElem P t y∧ ∃n,Typed P n t y.cells
def ArgsT (P:Program):List TypeId→List AV→Prop
 | [],ys=>ys=[]
 |t::ts,ys=> ∃y r,ys=y::r∧ArgT P t y∧ArgsT P ts r
theorem z8s {S:List TypeId} (hS:plainAll P S=true) (hg: ∀b o,g.own b o=none) {r:Reach} {b0 base:Nat} {spare:Nat→Bool} {held:Bool} {t:TypeId} {v:Value} {d:DataW H} {ps:List MemPlace} (ht:t∈S)
  (hok:Value.okWide P W r b0 t v) (h:DataW.Trod enc P W base spare held t v d ps): ∃y,ArgT P t y∧Rep g W y v:=by
 obtain⟨n,hn⟩:=h
 obtain⟨xs,h1,h2,_⟩:=z5q hS hg n t _ _ ht hn
 by_cases ha:aggT P t=some true
 ·obtain⟨cs,rfl⟩:=z5G ha hok
  refine⟨.agg xs,⟨by unfold IsElem;rw[if_pos ha];exact⟨xs,rfl⟩,n,h1⟩,?_⟩
  have:=h2.agg
  simpa [Value.cells] using this
 ·obtain⟨y,rfl,hy⟩:=z1s h1 ha
  rw[z11 (w49.1 hS t ht) ha hok] at h2
  refine⟨y,⟨by unfold IsElem;rw[if_neg ha];exact hy,n,by rw[hy];exact h1⟩,?_⟩
  exact h2.2 0 _ _ rfl rfl
theorem z0v {S:List TypeId} (hS:plainAll P S=true) (hg: ∀b o,g.own b o=none) {r:Reach} {b0 base:Nat} {spare:Nat→Bool} {held:Bool}:
  ∀(ts:List TypeId) (vs:List Value) (ds:List (DataW H)) (ps:List MemPlace),(∀t∈ts,t∈S)→(∀(j:Nat) t v,ts[j]? =some t→vs[j]? =some v→Value.okWide P W r b0 t v)→DataW.TrodAll enc P W base spare held ts vs ds ps→
   (∃ys,ArgsT P ts ys∧Reps g W ys vs)∧ds.length=ts.length
 | [],vs,ds,ps,_,_,h=>by
  obtain⟨rfl,rfl,_⟩:=trodAll_nil h
  exact⟨⟨[],rfl,Reps.nil g W⟩,rfl⟩
 |t::ts,vs,ds,ps,hin,hok,h=>by
  match vs,ds,h with
  |v::vs,d::ds,h=>
   obtain⟨p,q,h1,h2,_⟩:=h
   obtain⟨y,k1,k2⟩:=z8s hS hg (hin t w1b) (hok 0 t v rfl rfl) h1
   obtain⟨⟨ys,k3,k4⟩,k5⟩:=z0v hS hg ts vs ds q (fun u hu=>hin u (w1c _ hu)) (fun j u x hj hx=>hok (j+1) u x hj hx) h2
   exact⟨⟨y::ys,⟨y,ys,rfl,k1,k3⟩,Reps.cons k2 k4⟩,by simp[k5]⟩
def G.zero (b:Nat):G:=⟨fun _=>none,fun _=>none,fun _ _=>none,b,fun _=>false,fun _=>none⟩
def Mem.zero:Mem:=⟨[],[],0,[],0⟩
theorem z4G (W:World):Inv (G.zero W.heap.size) W Mem.zero where
 blk:=fun bl h _=>by simp[Mem.all,Mem.zero] at h
 nd:=by simp[Mem.all,Mem.zero]
 stlt:=fun st x h=>by cases h
 tklt:=fun t x h=>by cases h
 live:=fun t h=>by simp[Mem.zero] at h
 ownb:=fun b o x h=>by cases h
 hbase:=w0b _
 lnd:=List.nodup_nil
 rsv:=fun st h=>by cases h
 mpk:=fun st b h=>by cases h
theorem z9t {tab:Nat→Option AFunc} (hM:P.follows .mixedOrders=true) (hT:TabOk P tab) {f:Nat} {b:Bool} (h: ∃n m',callN tab n (some f) [] Mem.zero=some (.bool b,m')):Known P f b:=by
 obtain⟨n,m',h⟩:=h
 obtain⟨h1,h2⟩:=(show CallOk P .top f [] Mem.zero _ m' from z50 hM hT n .top (some f) [] Mem.zero _ m' h (w0c _))
 refine⟨h1,fun w=>(h2 (G.zero w.heap.size) w [] trivial (z4G w) (Reps.nil _ _)).mono fun e w' ⟨v,g',he,hx,_,hr⟩=> ?_⟩
 rw[he,hr.inv_bool]
 exact⟨rfl,hx.below⟩
def isTrue:Option (AV×Mem)→Bool
 |some (.bool true,_)=>true
 |_=>false
theorem z5W {tab:Nat→Option AFunc} (hM:P.follows .mixedOrders=true) (hT:TabOk P tab) {f:Nat} (n:Nat) (h:isTrue (callN tab n (some f) [] Mem.zero)=true):Known P f true:=by
 refine z9t hM hT ⟨n,?_⟩
 revert h
 cases callN tab n (some f) [] Mem.zero with
 |none=>intro h;cases h
 |some r=>
  obtain⟨v,m'⟩:=r
  intro h
  cases v with
  |bool b=>cases b with
   |true=>exact⟨m',rfl⟩
   |false=>cases h
  |_=>cases h
theorem T5 (hl:laidOutB P=true) {W':World} (hb:Below W.heap.size W W'): ∀(ts:List TypeId) (vs:List Value) (ds:List (DataW H)) (ps:List MemPlace),(∀t∈ts,P.readableRec t=true∧t<P.types.size)→(∀x∈ps,x.block<W.heap.size)→
  DataW.TrodAll enc P W 0 (fun _=>true) true ts vs ds ps→DataW.TrodAll enc P W' 0 (fun b=>decide (b<W.heap.size)) true ts vs ds ps
 | [],vs,ds,ps,_,_,h=>by
  obtain⟨rfl,rfl,rfl⟩:=trodAll_nil h
  rfl
 |t::ts,vs,ds,ps,hin,hlt,h=>by
  match vs,ds,h with
  |v::vs,d::ds,h=>
   obtain⟨p,q,h1,h2,rfl⟩:=h
   have ht:=hin t w1b
   exact⟨p,q,Below.trod hl ht.1 ht.2 h1 hb (fun x hx=>hlt x (w3a _ hx)),T5 hl hb ts vs ds q (fun u hu=>hin u (w1c _ hu)) (fun x hx=>hlt x (w43 _ hx)) h2,rfl⟩
theorem z9o {tab:Nat→Option AFunc} (hM:P.follows .mixedOrders=true) (hT:TabOk P tab) {S:List TypeId} (hS:plainAll P S=true) (hl:laidOutB P=true) {f:FuncId} {fn:Func} {s:ChangeSpec} {tb:TypeId} (hvars:s.vars=[])
  (hparams:(fn.params.toList.all fun t=>S.contains t&&P.readableRec t&&decide (t<P.types.size))=true) (hres:fn.resultTypes= #[tb]) (htb:P.underlying tb=some .bool)
  (hspec: ∀ds:List (DataW H),ds.length=fn.params.toList.length→s.fn H ds={results:=[.lit (.bool true)],args:=ds})
  (K: ∀ys,ArgsT P fn.params.toList ys→ ∃m',CALL tab f ys Mem.zero=some (.bool true,m'))
  {base:Nat} {args:Array Value} {ds gs:List (DataW H)} {before:List MemPlace} {fresh handsOn:Bool}
  (hval: ∀(j:Nat) t v,fn.params[j]? =some t→args[j]? =some v→Value.okWide P W .any base t v)
  (hW:DataW.Whole enc P fn.params.toList s.vars false W args.toList ds gs before):
  Calls P f args W fun e W'=> ∃v,e= .returned v∧s.post enc P fn false fresh handsOn false W args v W':=by
 have hW':=hW
 obtain⟨p,q,hA,hV,rfl,_,_⟩:=hW
 rw[hvars] at hV
 obtain⟨rfl,rfl⟩:=trodVars_none hV
 simp only[w49,w0e,decide_eq_true_eq] at hparams
 obtain⟨⟨ys,h1,h2⟩,h3⟩:=z0v (g:=G.zero W.heap.size) hS (fun _ _=>rfl) fn.params.toList args.toList ds p (fun t ht=>by simpa using (hparams t ht).1.1) (fun j t v hj hv=>hval j t v (by simpa using hj) (by simpa using hv)) hA
 obtain⟨m',hc⟩:=K ys h1
 obtain⟨_,hcall⟩:=zc6 hM hT (C:= .top) hc (w0c _)
 refine(hcall (G.zero W.heap.size) W args.toList trivial (z4G W) h2).mono fun e W' ⟨v,g',he,hx,_,hr⟩=> ?_
 subst he
 have hb:Below W.heap.size W W':=hx.below
 rw[hr.inv_bool]
 have hsp:=hspec ds h3
 have hlt:=hW'.lt
 refine⟨_,rfl,ds,[],_,[],p,[],hW',?_,?_,?_,hb.frame _,fun h=>by cases h⟩
 ·rw[w20,hsp,hres]
  exact trodAll_mk1 (shut_bool htb true)
 ·rw[w20,hsp]
  exact T5 hl hb _ _ _ _ (fun t ht=>⟨(hparams t ht).1.2,(hparams t ht).2⟩) (fun x hx=>hlt x (w3a _ hx)) hA
 ·rw[w20,hsp,hvars];rfl
end
end Go.Vs
end
section
namespace Go.Vs
def All2 {α:Type} (R:α→AV→Prop):List α→List AV→Prop
 | [],[]=>True
 |x::xs,y::ys=>R x y∧All2 R xs ys
 |_,_=>False
section
variable {α : Type} {R : α → AV → Prop}
theorem All2.len: ∀{xs:List α} {ys:List AV},All2 R xs ys→ys.length=xs.length
 | [],[],_=>rfl
 |x::xs,y::ys,h=>by simp[All2.len h.2]
 | [],_::_,h=>h.elim
 |_::_,[],h=>h.elim
theorem All2.get: ∀{xs:List α} {ys:List AV},All2 R xs ys→ ∀(i:Nat) (h:i<xs.length),ys[i]? =some (ys.getD i .undef)∧R xs[i] (ys.getD i .undef)
 | [],[],_,i,h=>by simp at h
 |x::xs,y::ys,h,0,_=>⟨rfl,h.1⟩
 |x::xs,y::ys,h,i+1,hi=>by
  have:=All2.get h.2 i (by simpa using hi)
  simpa using this
 | [],_::_,h,_,_=>h.elim
 |_::_,[],h,_,_=>h.elim
theorem All2.append: ∀{xs xs':List α} {ys ys':List AV},All2 R xs ys→All2 R xs' ys'→All2 R (xs++xs') (ys++ys')
 | [],_,[],_,_,k=>k
 |x::xs,_,y::ys,_,h,k=>⟨h.1,All2.append h.2 k⟩
 | [],_,_::_,_,h,_=>h.elim
 |_::_,_,[],_,h,_=>h.elim
theorem All2.take: ∀(n:Nat) {xs:List α} {ys:List AV},All2 R xs ys→All2 R (xs.take n) (ys.take n)
 |0,_,_,_=>by simp[All2]
 |n+1,[],[],_=>by simp[All2]
 |n+1,x::xs,y::ys,h=>⟨h.1,All2.take n h.2⟩
 |n+1,[],_::_,h=>h.elim
 |n+1,_::_,[],h=>h.elim
theorem All2.drop: ∀(n:Nat) {xs:List α} {ys:List AV},All2 R xs ys→All2 R (xs.drop n) (ys.drop n)
 |0,_,_,h=>h
 |n+1,[],[],_=>by simp[All2]
 |n+1,x::xs,y::ys,h=>All2.drop n h.2
 |n+1,[],_::_,h=>h.elim
 |n+1,_::_,[],h=>h.elim
theorem All2.mono {S:α→AV→Prop}: ∀{xs:List α} {ys:List AV},(∀x y,x∈xs→R x y→S x y)→All2 R xs ys→All2 S xs ys
 | [],[],_,_=>trivial
 |x::xs,y::ys,k,h=>⟨k x y w1b h.1,All2.mono (fun a b ha=>k a b (w1c _ ha)) h.2⟩
 | [],_::_,_,h=>h.elim
 |_::_,[],_,h=>h.elim
theorem All2.of_each: ∀(ys:List AV),(∀y∈ys,∃x,R x y)→ ∃xs:List α,All2 R xs ys
 | [],_=>⟨[],trivial⟩
 |y::ys,h=>by
  obtain⟨x,hx⟩:=h y w1b
  obtain⟨xs,hxs⟩:=All2.of_each ys fun z hz=>h z (w1c _ hz)
  exact⟨x::xs,hx,hxs⟩
def IsSl (R:α→AV→Prop) (s:Nat) (xs:List α) (y:AV):Prop:=
 xs.length≤9223372036854775807∧((xs=[]∧y= .nils)∨ ∃tk ys,y= .list s tk ys∧All2 R xs ys)
def nth (y:AV) (i:Nat):AV:=
 match y with
 | .list _ _ ys=>ys.getD i .undef
 |_=> .undef
theorem IsSl.nil (s:Nat):IsSl R s [] .nils:=⟨by simp,.inl ⟨rfl,rfl⟩⟩
theorem IsSl.mk {s:Nat} {tk:Tok} {xs:List α} {ys:List AV} (h:All2 R xs ys) (hl:xs.length≤9223372036854775807):IsSl R s xs (.list s tk ys):=⟨hl,.inr ⟨tk,ys,rfl,h⟩⟩
theorem IsSl.max {s:Nat} {xs:List α} {y:AV} (h:IsSl R s xs y):xs.length≤9223372036854775807:=h.1
theorem IsSl.len {s:Nat} {xs:List α} {y:AV} (h:IsSl R s xs y):evLen y=some (.int .i64 xs.length):=by
 rcases h with⟨_,⟨rfl,rfl⟩|⟨tk,ys,rfl,h⟩⟩
 ·rfl
 ·simp only[evLen,h.len]
theorem zS (k:IntKind) (i n:Nat) (h:i<n):idx (.int k i) n=some i:=by
 have h1:(0:Int)≤i∧(i:Int)<n:=by omega
 simp only[idx,h1]
 simp
theorem IsSl.at {s:Nat} {xs:List α} {y:AV} (h:IsSl R s xs y) {i:Nat} (k:IntKind) (hi:i<xs.length):evIaddr s y (.int k i)=some (.ro (nth y i).cells):=by
 rcases h with⟨_,⟨rfl,rfl⟩|⟨tk,ys,rfl,h⟩⟩
 ·simp at hi
 ·obtain⟨h1,_⟩:=h.get i hi
  have hl:=h.len
  simp only[evIaddr,beq_self_eq_true,if_true,zS k i ys.length (by omega),w29,h1,w0d,nth]
theorem IsSl.nth {s:Nat} {xs:List α} {y:AV} (h:IsSl R s xs y) {i:Nat} (hi:i<xs.length):R xs[i] (nth y i):=by
 rcases h with⟨_,⟨rfl,rfl⟩|⟨tk,ys,rfl,h⟩⟩
 ·simp at hi
 ·exact(h.get i hi).2
theorem IsSl.refs_cells {s:Nat} {xs:List α} {y:AV} (h:IsSl R s xs y):y.cells=[y]:=by
 rcases h with⟨_,⟨rfl,rfl⟩|⟨tk,ys,rfl,h⟩⟩<;>rfl
theorem IsSl.one {s:Nat} {xs:List α} {y:AV} (h:IsSl R s xs y):y.one=true:=by
 rcases h with⟨_,⟨rfl,rfl⟩|⟨tk,ys,rfl,h⟩⟩<;>rfl
theorem IsSl.mono {S:α→AV→Prop} {s:Nat} {xs:List α} {y:AV} (h:IsSl R s xs y) (k: ∀x y,x∈xs→R x y→S x y):IsSl S s xs y:=by
 rcases h with⟨hm,⟨rfl,rfl⟩|⟨tk,ys,rfl,h⟩⟩
 ·exact .nil s
 ·exact .mk (h.mono k) hm
theorem IsSl.elems_any {s:Nat} {xs:List α} {y:AV} (h:IsSl R s xs y): ∃ys,(∀m:Mem,m.elems s y=some ys)∧All2 R xs ys:=by
 rcases h with⟨_,⟨rfl,rfl⟩|⟨tk,ys,rfl,h⟩⟩
 ·exact⟨[],fun _=>rfl,trivial⟩
 ·exact⟨ys,fun m=>by simp[Mem.elems,elemsOf],h⟩
theorem IsSl.elems {s:Nat} {xs:List α} {y:AV} (h:IsSl R s xs y) (m:Mem): ∃ys,m.elems s y=some ys∧All2 R xs ys:=by
 rcases h with⟨_,⟨rfl,rfl⟩|⟨tk,ys,rfl,h⟩⟩
 ·exact⟨[],rfl,trivial⟩
 ·exact⟨ys,by simp[Mem.elems,elemsOf],h⟩
end
def IsK (k:IntKind) (n:Int) (y:AV):Prop:=y= .int k n
def IsStr (s:List UInt8) (y:AV):Prop:=y= .str s
def IsByte (b:UInt8) (y:AV):Prop:=y= .int .u8 b.toNat
abbrev IsBytes (l:List UInt8) (y:AV):Prop:=IsSl IsByte 1 l y
theorem Vo: ∀{l:List UInt8} {ys:List AV},All2 IsByte l ys→bytesOf ys=some l
 | [],[],_=>rfl
 |b::l,y::ys,h=>by
  obtain⟨h1,h2⟩:=h
  rw[h1]
  simp only[bytesOf,byteOf,Vo h2]
  simp
 | [],_::_,h=>h.elim
 |_::_,[],h=>h.elim
theorem IsBytes.toStr {l:List UInt8} {y:AV} (m:Mem) (h:IsBytes l y):evToStr m y=some (.str l):=by
 rcases h with⟨_,⟨rfl,rfl⟩|⟨tk,ys,rfl,h⟩⟩
 ·rfl
 ·simp only[evToStr,AV.asArr,evToStr0,Vo h,w0d]
theorem jj: ∀l:List UInt8,All2 IsByte l (ofBytes l)
 | []=>trivial
 |b::l=>⟨rfl,jj l⟩
def in64 (n:Int):Prop:= -9223372036854775808≤n∧n≤9223372036854775807
theorem z8C {n:Int} (h:in64 n):IntKind.i64.wrap n=n:=by
 unfold in64 at h
 unfold IntKind.wrap
 simp[IntKind.signed,IntKind.bits]
 omega
theorem zd {n:Int} (h1: -9223372036854775808≤n) (h2:n≤9223372036854775807):IntKind.i64.wrap n=n:=z8C ⟨h1,h2⟩
theorem zM {n:Int} (h1:0≤n) (h2:n<18446744073709551616):IntKind.u64.wrap n=n:=by
 unfold IntKind.wrap
 simp[IntKind.signed,IntKind.bits]
 omega
theorem z6D {n:Int} (h1:0≤n) (h2:n<256):IntKind.u8.wrap n=n:=by
 unfold IntKind.wrap
 simp[IntKind.signed,IntKind.bits]
 omega
theorem zb {i n:Nat} (h:i<n) (hn:n≤9223372036854775807):IntKind.i64.wrap ((i:Int)+1)=((i+1:Nat):Int):=by
 rw[zd (by omega) (by omega)];omega
def Ok (tab:Nat→Option AFunc) (f:Nat) (args:List AV) (m:Mem) (R:AV→Prop):Prop:= ∃r k,CALL tab f args m=some (r,m.bump k)∧R r
theorem z6S {tab:Nat→Option AFunc} {f:Nat} {fn:AFunc} (h:tab f=some fn) {args:List AV} {R:AV→Prop} {m:Mem} (hx:X tab fn.body (mk fn.ntmps (.tup []) (numb 0 args)) (enter m) (.fin fn.res m fun v m'=>(∃k,m'=m.bump k)∧R v)) (hn:args.length≤fn.ntmps:=by exact Nat.le_of_ble_eq_true rfl):
  Ok tab f args m R:=by
 obtain⟨x,h1,⟨k,h2⟩,h3⟩:=zV h hx hn;exact⟨x.1,k,by rw[h1,←h2],h3⟩
def Okv (tab:Nat→Option AFunc) (f:Nat) (args:List AV) (m:Mem) (r:AV):Prop:= ∃k,CALL tab f args m=some (r,m.bump k)
theorem zh {tab:Nat→Option AFunc} {f:Nat} {fn:AFunc} (h:tab f=some fn) {args:List AV} {r:AV} {m:Mem} (hx:X tab fn.body (mk fn.ntmps (.tup []) (numb 0 args)) (enter m) (.fin fn.res m fun v m'=>(∃k,m'=m.bump k)∧v=r)) (hn:args.length≤fn.ntmps:=by exact Nat.le_of_ble_eq_true rfl):
  Okv tab f args m r:=by
 obtain⟨x,h1,⟨k,h2⟩,h3⟩:=zV h hx hn;exact⟨k,by rw[h1,←h2,←h3]⟩
section
variable {α : Type}
theorem xC {xs ys:List α} {i:Nat} (hl:xs.length=ys.length) (h:xs.take i=ys.take i) (hi:i<xs.length) (he:xs[i]=ys[i]'(hl▸hi)):xs.take (i+1)=ys.take (i+1):=by
 rw[w15 hi,w15 (hl▸hi),h,he]
theorem uq {xs ys:List α} (hl:xs.length=ys.length) (h:xs.take xs.length=ys.take xs.length):xs=ys:=by
 rw[w0a,hl,w0a] at h;exact h
theorem tJ {xs ys:List α} {i:Nat} (hi:i<xs.length) (hj:i<ys.length) (he:xs[i]≠ys[i]):xs≠ys:=fun h=>he (by subst h;rfl)
theorem tI {xs ys:List α} (h:xs.length≠ys.length):xs≠ys:=fun e=>h (by rw[e])
end
theorem vh (a b:Nat):((a:Int) !=(b:Int))=decide (a≠b):=by
 by_cases h:a=b
 ·subst h;simp
 ·simp[bne,beq_eq_false_iff_ne.2 (show(a:Int)≠b by omega),h]
theorem Okv.all {tab:Nat→Option AFunc} {f:Nat} {args:List AV} {r:AV} (h: ∀m,Okv tab f args m r): ∃K:Mem→Nat,∀m,CALL tab f args m=some (r,m.bump (K m)):=
 ⟨fun m=>(h m).choose,fun m=>(h m).choose_spec⟩
def Own {α:Type} (R:α→AV→Prop) (s:Nat) (y:AV) (xs:List α) (e:List Nat):Prop:=
 (y= .nils∧xs=[])∨ ∃tk ys,y= .list s tk ys∧All2 R xs ys∧(tk= .full∨ ∃t,t∈e∧tk= .id t)
section
variable {α : Type} {R : α → AV → Prop} {s : Nat} {y : AV} {xs cs : List α} {e : List Nat}
theorem Own.nil (e:List Nat):Own R s .nils [] e:= .inl ⟨rfl,rfl⟩
theorem Own.full {ys:List AV} (h:All2 R xs ys) (e:List Nat):Own R s (.list s .full ys) xs e:= .inr ⟨_,_,rfl,h,.inl rfl⟩
theorem Own.mono {e':List Nat} (h:Own R s y xs e) (k: ∀t∈e,t∈e'):Own R s y xs e':=by
 rcases h with h|⟨tk,ys,h1,h2,h3|⟨t,h3,h4⟩⟩
 ·exact .inl h
 ·exact .inr ⟨tk,ys,h1,h2,.inl h3⟩
 ·exact .inr ⟨tk,ys,h1,h2,.inr ⟨t,k t h3,h4⟩⟩
theorem Own.push (ts:List Nat) (h:Own R s y xs e):Own R s y xs (ts++e):=h.mono fun _ h=>w43 _ h
theorem Own.more (ts:List Nat) (h:Own R s y xs e):Own R s y xs (e++ts):=h.mono fun _ h=>w3a _ h
theorem Own.sl (h:Own R s y xs e) (hl:xs.length≤9223372036854775807):IsSl R s xs y:=by
 rcases h with⟨rfl,rfl⟩|⟨tk,ys,rfl,h2,_⟩
 ·exact .nil s
 ·exact .mk h2 hl
theorem Own.cells (h:Own R s y xs e):y.cells=[y]:=by
 rcases h with⟨rfl,_⟩|⟨tk,ys,rfl,_,_⟩<;>rfl
theorem Own.one (h:Own R s y xs e):y.one=true:=by
 rcases h with⟨rfl,_⟩|⟨tk,ys,rfl,_,_⟩<;>rfl
theorem Own.refs (h:Own R s y xs e) (l:Nat):y.refs l=false:=by
 rcases h with⟨rfl,_⟩|⟨tk,ys,rfl,_,_⟩<;>rfl
theorem Own.len (h:Own R s y xs e):evLen y=some (.int .i64 xs.length):=by
 rcases h with⟨rfl,rfl⟩|⟨tk,ys,rfl,h,_⟩
 ·rfl
 ·simp only[evLen,h.len]
theorem Own.at (h:Own R s y xs e) {i:Nat} (k:IntKind) (hi:i<xs.length):evIaddr s y (.int k i)=some (.ro (nth y i).cells):=by
 rcases h with⟨rfl,rfl⟩|⟨tk,ys,rfl,h,_⟩
 ·simp at hi
 ·obtain⟨h1,_⟩:=h.get i hi
  have hl:=h.len
  simp only[evIaddr,beq_self_eq_true,if_true,zS k i ys.length (by omega),w29,h1,w0d,nth]
theorem Own.nth (h:Own R s y xs e) {i:Nat} (hi:i<xs.length):R xs[i] (nth y i):=by
 rcases h with⟨rfl,rfl⟩|⟨tk,ys,rfl,h,_⟩
 ·simp at hi
 ·exact(h.get i hi).2
theorem Own.filter (h:Own R s y xs e):Own R s y xs (e.filter fun t=>y.toks.contains t):=by
 rcases h with h|⟨tk,ys,rfl,h2,h3|⟨t,h3,rfl⟩⟩
 ·exact .inl h
 ·exact .inr ⟨tk,ys,rfl,h2,.inl h3⟩
 ·exact .inr ⟨_,ys,rfl,h2,.inr ⟨t,w50.2 ⟨h3,by simp[AV.toks]⟩,rfl⟩⟩
theorem Own.elems (h:Own R s y xs e): ∃ys,(∀m:Mem,m.elems s y=some ys)∧All2 R xs ys:=by
 rcases h with⟨rfl,rfl⟩|⟨tk,ys,rfl,h,_⟩
 ·exact⟨[],fun _=>rfl,trivial⟩
 ·exact⟨ys,fun m=>by simp[Mem.elems,elemsOf],h⟩
theorem zi (m:Mem) (s:Nat) (tk:Tok) (ys:List AV):m.elems s (.list s tk ys)=some ys:=by simp[Mem.elems,elemsOf]
theorem z24 (m:Mem) (l:List UInt8):m.elems 1 (.str l)=some (ofBytes l):=by simp[Mem.elems,elemsOf]
theorem z2Q (ts:List Nat) {pre:List (List Nat)} (hp:pre≠[]) (post:List (List Nat)):pushToks ts (pre++post)=pushToks ts pre++post:=by
 cases pre with
 |nil=>exact absurd rfl hp
 |cons h r=>rw[w31,yx,yx];rfl
theorem z2P (ts:List Nat) {pre:List (List Nat)} (hp:pre≠[]):(pushToks ts pre).length=pre.length:=by
 cases pre with
 |nil=>exact absurd rfl hp
 |cons h r=>rw[yx];rfl
theorem Vl {t:Nat}: ∀{l:List (List Nat)},t∈l.flatten→hasTok t l=true
 | [],h=>by simp at h
 |a::r,h=>by
  simp only[w40,w08] at h
  simp only[hasTok,w33]
  rcases h with h|h
  ·exact .inl (by simpa using h)
  ·exact .inr (Vl h)
theorem Wx {t:Nat}: ∀{l r:List (List Nat)},t∈l.flatten→dropTok t (l++r)=dropTok t l++r
 | [],_,h=>by simp at h
 |a::l,r,h=>by
  simp only[w31,dropTok]
  split
  ·rfl
  ·rename_i hc
   simp only[w40,w08] at h
   rcases h with h|h
   ·exact absurd (by simpa using h) hc
   ·rw[Wx h];rfl
theorem kw (t:Nat): ∀l:List (List Nat),(dropTok t l).length=l.length
 | []=>rfl
 |a::l=>by
  simp only[dropTok]
  split
  ·rfl
  ·simp[kw t l]
def Wr (R:α→AV→Prop) (s i:Nat) (y:AV) (xs:List α) (live post:List (List Nat)):Prop:= ∃pre,live=pre++post∧pre.length=i+1∧Own R s y xs pre.flatten
theorem Own.wr (h:Own R s y xs e) (rest:List (List Nat)):Wr R s 0 y xs (e::rest) rest:=⟨[e],rfl,rfl,by simpa using h⟩
theorem Wr.own {rest:List (List Nat)} {live:List (List Nat)} (h:Wr R s 0 y xs live rest): ∃e,live=e::rest∧Own R s y xs e:=by
 obtain⟨pre,rfl,h2,h3⟩:=h
 match pre,h2 with
 | [e],_=>exact⟨e,rfl,by simpa using h3⟩
theorem Wr.enter {i:Nat} {live post:List (List Nat)} (h:Wr R s i y xs live post):Wr R s (i+1) y xs ([]::live) post:=by
 obtain⟨pre,rfl,h2,h3⟩:=h
 exact⟨[]::pre,rfl,by simp[h2],by simpa using h3⟩
theorem Wr.push {i:Nat} {live post:List (List Nat)} (ts:List Nat) (h:Wr R s i y xs live post):Wr R s i y xs (pushToks ts live) post:=by
 obtain⟨pre,rfl,h2,h3⟩:=h
 have hp:pre≠[]:=by intro h;subst h;simp at h2
 exact⟨pushToks ts pre,z2Q ts hp post,by rw[z2P ts hp];exact h2,h3.mono fun t h=>by rw[Vi];exact w43 _ h⟩
theorem Own.app {m:Mem} {z:AV} {zs:List AV} {bytes:Nat} (ho:Own R s y xs m.live.flatten) (hz:m.elems s z=some zs) (hc:All2 R cs zs) (hl:(xs.length+cs.length)*bytes≤140737488355328):
  (cs=[]∧evApp m s bytes y z=some (y,m))∨
  (∃ys,All2 R (xs++cs) ys∧evApp m s bytes y z=some (.list s (.id m.nx) ys,{m with nx:=m.nx+1,live:=addTok m.nx m.live}))∨
  (∃t ys tk0,y= .list s (.id t) tk0∧t∈m.live.flatten∧All2 R (xs++cs) ys∧evApp m s bytes y z=some (.list s (.id m.nx) ys,{m with nx:=m.nx+1,live:=addTok m.nx (dropTok t m.live)})):=by
 match zs,hc with
 | [],hc=>
  match cs,hc with
  | [],_=>
   refine .inl ⟨rfl,?_⟩
   unfold evApp;rw[hz]
   rcases ho with⟨rfl,_⟩|⟨tk,ys,rfl,_,_⟩
   ·rfl
   ·simp
  |_::_,hc=>exact hc.elim
 |a::r,hc=>
  refine .inr ?_
  have hn:(a::r).length=cs.length:=hc.len
  rcases ho with⟨rfl,rfl⟩|⟨tk,ys,rfl,h2,h3⟩
  ·refine .inl ⟨a::r,hc,?_⟩
   unfold evApp;rw[hz]
   simp only
   rw[if_pos (by rw[hn];simpa using hl)]
  ·have hb:(ys.length+(a::r).length)*bytes≤140737488355328:=by rw[hn,h2.len];exact hl
   rcases h3 with rfl|⟨t,ht,rfl⟩
   ·refine .inl ⟨ys++a::r,h2.append hc,?_⟩
    unfold evApp;rw[hz]
    simp only[beq_self_eq_true,Bool.true_and,decide_eq_true_eq]
    rw[if_pos hb]
   ·refine .inr ⟨t,ys++a::r,ys,rfl,ht,h2.append hc,?_⟩
    unfold evApp;rw[hz]
    simp only[beq_self_eq_true,Bool.true_and,decide_eq_true_eq]
    rw[if_pos hb,Vl ht,if_pos rfl]
theorem z0y (t:Nat) {pre:List (List Nat)} (hp:pre≠[]) (post:List (List Nat)):addTok t (pre++post)=addTok t pre++post:=by
 cases pre with
 |nil=>exact absurd rfl hp
 |cons h r=>rfl
theorem z0x (t:Nat) {pre:List (List Nat)} (hp:pre≠[]):(addTok t pre).length=pre.length:=by
 cases pre with
 |nil=>exact absurd rfl hp
 |cons h r=>rfl
theorem Wr.app {i:Nat} {live post:List (List Nat)} {z:AV} {zs:List AV} {bytes:Nat} (h:Wr R s i y xs live post) (hz: ∀m:Mem,m.elems s z=some zs) (hc:All2 R cs zs) (hl:(xs.length+cs.length)*bytes≤140737488355328)
  (stk:List (List Blk)) (cur:List Blk) (nx fl:Nat):
  ∃y' n live',evApp ⟨stk,cur,nx,live,fl⟩ s bytes y z=some (y',⟨stk,cur,n,live',fl⟩)∧Wr R s i y' (xs++cs) live' post:=by
 obtain⟨pre,rfl,h2,h3⟩:=h
 have hp:pre≠[]:=by intro h;subst h;simp at h2
 rcases Own.app (m:=⟨stk,cur,nx,pre++post,fl⟩) (h3.mono fun t h=>by simp only[List.flatten_append,w08];exact .inl h) (hz _) hc hl with⟨h,e⟩|⟨ys,q,e⟩|⟨t,ys,q0,hy,_,q,e⟩
 ·exact⟨_,_,_,e,pre,rfl,h2,by subst h;simpa using h3⟩
 ·refine⟨_,_,_,e,addTok nx pre,z0y nx hp post,by rw[z0x nx hp];exact h2,.inr ⟨_,ys,rfl,q,.inr ⟨nx,?_,rfl⟩⟩⟩
  rw[vi];exact w1b
 ·have ht:t∈pre.flatten:=by
   rcases h3 with⟨rfl,_⟩|⟨tk,ys',e1,_,e2|⟨t',e3,e2⟩⟩
   ·cases hy
   ·rw[e1,e2] at hy;cases hy
   ·rw[e1,e2] at hy;injection hy with _ hy _;injection hy with hy;exact hy▸e3
  have hp':dropTok t pre≠[]:=by intro h;have:=kw t pre;rw[h,h2] at this;simp at this
  simp only[Wx ht,z0y _ hp'] at e
  refine⟨_,_,_,e,addTok nx (dropTok t pre),rfl,by rw[z0x nx hp',kw];exact h2,.inr ⟨_,ys,rfl,q,.inr ⟨nx,?_,rfl⟩⟩⟩
  rw[vi];exact w1b
theorem z2f {t:Nat}: ∀{j:Nat} {pre:List (List Nat)} (post:List (List Nat)),j<pre.length→addAt t j (pre++post)=addAt t j pre++post
 |0,[],_,h=>by simp at h
 |0,a::r,_,_=>rfl
 |j+1,[],_,h=>by simp at h
 |j+1,a::r,post,h=>by simp only[w31,addAt];rw[z2f post (by simpa using h)]
theorem z2d {t:Nat}: ∀{j:Nat} {pre:List (List Nat)},j<pre.length→(addAt t j pre).length=pre.length
 |0,[],h=>by simp at h
 |0,a::r,_=>rfl
 |j+1,[],h=>by simp at h
 |j+1,a::r,h=>by simp[addAt,z2d (by simpa using h)]
theorem z2e {t:Nat}: ∀{j:Nat} {pre:List (List Nat)},j<pre.length→t∈(addAt t j pre).flatten∧ ∀u∈pre.flatten,u∈(addAt t j pre).flatten
 |0,[],h=>by simp at h
 |0,a::r,_=>by simp[addAt,addTok];intro u h;exact .inr h
 |j+1,[],h=>by simp at h
 |j+1,a::r,h=>by
  have:=z2e (t:=t) (j:=j) (pre:=r) (by simpa using h)
  simp only[addAt,w40,w08]
  exact⟨.inr this.1,fun u hu=>hu.elim .inl fun hu=> .inr (this.2 u hu)⟩
theorem Wr.sink {i:Nat} {live post:List (List Nat)} (h:Wr R s (i+1) y xs live post): ∃e live',sink (i+1) y.toks live=e::live'∧Wr R s i y xs live' post:=by
 obtain⟨pre,rfl,h2,h3⟩:=h
 match pre,h2 with
 |a::r,h2=>
  have hr:r.length=i+1:=by simpa using h2
  rcases h3 with⟨rfl,rfl⟩|⟨tk,ys,rfl,q,h3⟩
  ·exact⟨a,r++post,rfl,r,rfl,hr,.inl ⟨rfl,rfl⟩⟩
  ·rcases h3 with rfl|⟨t,ht,rfl⟩
   ·exact⟨a,r++post,rfl,r,rfl,hr,.inr ⟨_,ys,rfl,q,.inl rfl⟩⟩
   ·simp only[AV.toks,Vs.sink,sink1,w31,Nat.add_sub_cancel]
    split
    ·refine⟨_,_,rfl,addAt t i r,z2f post (by omega),by rw[z2d (by omega)];exact hr,.inr ⟨_,ys,rfl,q,.inr ⟨t,(z2e (by omega)).1,rfl⟩⟩⟩
    ·rename_i hc
     refine⟨_,_,rfl,r,rfl,hr,.inr ⟨_,ys,rfl,q,.inr ⟨t,?_,rfl⟩⟩⟩
     simp only[w40,w08] at ht
     rcases ht with ht|ht
     ·exact absurd (by simpa using ht) hc
     ·exact ht
end
section
variable {α : Type} {R : α → AV → Prop} {s : Nat} {xs cs : List α} {tab : Nat → Option AFunc}
def Okl (R:α→AV→Prop) (s:Nat) (tab:Nat→Option AFunc) (f:Nat) (args:List AV) (m:Mem) (xs:List α):Prop:=
 ∃y ts k,CALL tab f args m=some (y,{m with nx:=k,live:=pushToks ts m.live})∧Own R s y xs ts
def Okp (R:α→AV→Prop) (s:Nat) (tab:Nat→Option AFunc) (f:Nat) (args:List AV) (m:Mem) (xs:List α) (r:Int):Prop:=
 ∃y ts k,CALL tab f args m=some (.tup [y,.int .i64 r],{m with nx:=k,live:=pushToks ts m.live})∧Own R s y xs ts
def FinL (R:α→AV→Prop) (s:Nat) (m:Mem) (xs:List α) (v:AV) (m':Mem):Prop:= ∃ts k,m'={m with nx:=k,live:=pushToks ts m.live}∧Own R s v xs ts
def FinP (R:α→AV→Prop) (s:Nat) (m:Mem) (xs:List α) (r:Int) (v:AV) (m':Mem):Prop:= ∃y ts k,v= .tup [y,.int .i64 r]∧m'={m with nx:=k,live:=pushToks ts m.live}∧Own R s y xs ts
theorem qt {f:Nat} {fn:AFunc} (h:tab f=some fn) {args:List AV} {m:Mem} (hx:X tab fn.body (mk fn.ntmps (.tup []) (numb 0 args)) (enter m) (.fin fn.res m (FinL R s m xs))) (hn:args.length≤fn.ntmps:=by exact Nat.le_of_ble_eq_true rfl):
  Okl R s tab f args m xs:=by
 obtain⟨x,h1,ts,k,h2,h3⟩:=zV h hx hn;exact⟨x.1,ts,k,by rw[h1,←h2],h3⟩
theorem z2T {f:Nat} {fn:AFunc} (h:tab f=some fn) {args:List AV} {m:Mem} {r:Int} (hx:X tab fn.body (mk fn.ntmps (.tup []) (numb 0 args)) (enter m) (.fin fn.res m (FinP R s m xs r))) (hn:args.length≤fn.ntmps:=by exact Nat.le_of_ble_eq_true rfl):
  Okp R s tab f args m xs r:=by
 obtain⟨x,h1,y,ts,k,h2,h3,h4⟩:=zV h hx hn;exact⟨y,ts,k,by rw[h1,←h2,←h3],h4⟩
variable {stk : List (List Blk)} {cur c' : List Blk} {nx nx' fl fl' : Nat} {live live' : List (List Nat)} {own : List Nat} {y : AV}
theorem yK {m0:Mem} {r:AV} (h1:r.refs (stk++[cur]).length=false) (h2:r.toks=[]):
  leave m0 ⟨stk++[cur],c',nx',own::live',fl'⟩ r=some (r,⟨stk,cur,nx',live',m0.floor⟩):=by
 have e:own.filter (fun _=>false)=[]:=by simp
 unfold leave
 simp only[w4b,w42,Option.some_or,h1,w1f,if_false,h2,List.contains_nil,e,pushToks,w4c]
theorem z7L (h:Own R s y xs own):leave ⟨stk,cur,nx,live,fl⟩ ⟨stk++[cur],c',nx',own::live',fl'⟩ y=some (y,⟨stk,cur,nx',pushToks (own.filter fun t=>y.toks.contains t) live',fl⟩):=Zz (h.refs _)
theorem ue (h:Own R s y xs own):Opt (leave ⟨stk,cur,nx,live,fl⟩ ⟨stk++[cur],c',nx',own::live,fl'⟩ y) fun r=>FinL R s ⟨stk,cur,nx,live,fl⟩ xs r.1 r.2:=by
 rw[z7L h,z8]
 exact⟨_,nx',rfl,h.filter⟩
theorem ZI {r:Int} (h:Own R s y xs own):Opt (leave ⟨stk,cur,nx,live,fl⟩ ⟨stk++[cur],c',nx',own::live,fl'⟩ (.tup [y,.int .i64 r])) fun q=>FinP R s ⟨stk,cur,nx,live,fl⟩ xs r q.1 q.2:=by
 rw[Zz (by simp only[AV.refs,refsAny,h.refs];rfl),z8]
 refine⟨y,_,nx',rfl,rfl,?_⟩
 simp only[AV.toks,toksAll,w20]
 exact h.filter
variable {ρ : List AV} {m : Mem} {k : Kont} {l : List AOper} {d : Option Nat} {f : Nat} {args : List AV}
theorem Okl.xv (h:Okl R s tab f args m xs) (q: ∀y ts n,Own R s y xs ts→Xs tab l (setDst ρ d y) {m with nx:=n,live:=pushToks ts m.live} k):Xv tab (CALL tab f args m) d l ρ k:=by
 obtain⟨y,ts,n,h1,h2⟩:=h
 rw[h1,uU];exact q y ts n h2
theorem Okp.xv {r:Int} (h:Okp R s tab f args m xs r) (q: ∀y ts n,Own R s y xs ts→Xs tab l (setDst ρ d (.tup [y,.int .i64 r])) {m with nx:=n,live:=pushToks ts m.live} k):Xv tab (CALL tab f args m) d l ρ k:=by
 obtain⟨y,ts,n,h1,h2⟩:=h
 rw[h1,uU];exact q y ts n h2
theorem Okv.xv {r:AV} (h:Okv tab f args m r) (q: ∀n,Xs tab l (setDst ρ d r) (m.bump n) k):Xv tab (CALL tab f args m) d l ρ k:=by
 obtain⟨n,h1⟩:=h
 rw[h1,uU];exact q n
theorem Own.xv {e:List Nat} {rest:List (List Nat)} {z:AV} {zs:List AV} {bytes:Nat} (h:Own R s y xs e) (hz: ∀m:Mem,m.elems s z=some zs) (hc:All2 R cs zs) (hl:(xs.length+cs.length)*bytes≤140737488355328)
  (q: ∀y' n e',Own R s y' (xs++cs) e'→Xs tab l (setDst ρ d y') ⟨stk,cur,n,e'::rest,fl⟩ k):Xv tab (evApp ⟨stk,cur,nx,e::rest,fl⟩ s bytes y z) d l ρ k:=by
 obtain⟨y',n,live',h1,h2⟩:=(h.wr rest).app hz hc hl stk cur nx fl
 obtain⟨e',rfl,h3⟩:=h2.own
 rw[h1,uU];exact q y' n e' h3
theorem Wr.xv {i:Nat} {post:List (List Nat)} {z:AV} {zs:List AV} {bytes:Nat} (h:Wr R s i y xs live post) (hz: ∀m:Mem,m.elems s z=some zs) (hc:All2 R cs zs) (hl:(xs.length+cs.length)*bytes≤140737488355328)
  (q: ∀y' n live',Wr R s i y' (xs++cs) live' post→Xs tab l (setDst ρ d y') ⟨stk,cur,n,live',fl⟩ k):Xv tab (evApp ⟨stk,cur,nx,live,fl⟩ s bytes y z) d l ρ k:=by
 obtain⟨y',n,live',h1,h2⟩:=h.app hz hc hl stk cur nx fl
 rw[h1,uU];exact q y' n live' h2
end
theorem yr {tab:Nat→Option AFunc} {live:List Nat} {nb:Nat} {a:ACode} {ρ:List AV} {m:Mem} {k:Kont}:
  XL tab live nb a ρ m k=X tab a (heads live nb ⟨ρ,m⟩).ρ (heads live nb ⟨ρ,m⟩).m (.again (fun σ'=>XL tab live nb a σ'.ρ σ'.m k) k):=by
 unfold XL X;rw[z3w];rfl
noncomputable def callNx (tab:Nat→Option AFunc) (f:Nat) (args:List AV) (m:Mem):Nat:=match CALL tab f args m with|some (_,m')=>m'.nx|none=>0
theorem Okv.eq {tab:Nat→Option AFunc} {f:Nat} {args:List AV} {m:Mem} {r:AV} (h:Okv tab f args m r):CALL tab f args m=some (r,m.bump (callNx tab f args m)):=by
 obtain⟨k,h⟩:=h
 rw[h]
 unfold callNx
 rw[h];rfl
noncomputable def pb (p:Prop):Bool:= @decide p (Classical.propDecidable p)
theorem zB {p:Prop} (h:p):pb p=true:=by unfold pb;exact @decide_eq_true p (Classical.propDecidable p) h
theorem ze {p:Prop} (h: ¬p):pb p=false:=by unfold pb;exact @decide_eq_false p (Classical.propDecidable p) h
theorem Y0 {p:Prop}:pb p=true↔p:=by
 unfold pb;exact @decide_eq_true_iff p (Classical.propDecidable p)
theorem U1 {p:Prop}:pb p=false↔ ¬p:=⟨fun h hp=>(by rw[zB hp] at h;cases h),ze⟩
theorem ko {p:Prop} {b:Bool} (h:b=true↔p):b=pb p:=by
 cases b
 ·rw[ze fun hp=>by have:=h.2 hp;cases this]
 ·rw[zB (h.1 rfl)]
section
variable {tab : Nat → Option AFunc} {ρ : List AV} {m : Mem} {k : Kont} {l : List AOper} {d : Option Nat} {op : AOp} {t : Bool} {a b : ACode}
theorem zD (h1:t=true→X tab a ρ m k) (h2:t=false→X tab b ρ m k):Xc tab (.bool t) a b ρ m k:=by
 cases t
 ·exact h2 rfl
 ·exact h1 rfl
theorem zq (h1:t=true→Xv tab (evOp (CALLO tab) ρ m op) d l ρ k) (h2:t=false→Xs tab l (setDst ρ d (.tup [])) m k):Xg tab (.bool t) true d op l ρ m k:=by
 cases t
 ·rw[zcf];exact h2 rfl
 ·rw[zcd];exact h1 rfl
theorem zr (h1:t=true→Xs tab l (setDst ρ d (.tup [])) m k) (h2:t=false→Xv tab (evOp (CALLO tab) ρ m op) d l ρ k):Xg tab (.bool t) false d op l ρ m k:=by
 cases t
 ·rw[zcg];exact h2 rfl
 ·rw[zce];exact h1 rfl
theorem zo {f:Bool} {fl:Nat} {m0:Mem} {ws:Watch} (h1:t=true→Xd tab fl m0 ws (⟨d,op,none,f⟩::l) ρ m k) (h2:t=false→Xd tab fl m0 ws l (setDst ρ d (.tup [])) m k):Xu tab (.bool t) true d op f fl m0 ws l ρ m k:=by
 cases t
 ·rw[zcb];exact h2 rfl
 ·rw[zc9];exact h1 rfl
theorem zp {f:Bool} {fl:Nat} {m0:Mem} {ws:Watch} (h1:t=true→Xd tab fl m0 ws l (setDst ρ d (.tup [])) m k) (h2:t=false→Xd tab fl m0 ws (⟨d,op,none,f⟩::l) ρ m k):Xu tab (.bool t) false d op f fl m0 ws l ρ m k:=by
 cases t
 ·rw[zcc];exact h2 rfl
 ·rw[zca];exact h1 rfl
end
attribute [go_sem] allLen
section
variable (L : List Blk) (b c d b' : Blk)
theorem qX:(L++[b]).length=L.length+1:=by simp
theorem Uk {k:Nat} (h:k<L.length):(L++[b]++[c])[k]? =L[k]? :=by rw[w09 (by simp;omega),w09 h]
theorem ji:(L++[b])[L.length]? =some b:=by simp
theorem Yn:(L++[b]++[c])[L.length]? =some b:=by simp
theorem zbP:(L++[b]++[c]++[d])[L.length]? =some b:=by simp
theorem V1:(L++[b]++[c])[L.length+1]? =some c:=by simp
theorem zbO:(L++[b]++[c]++[d])[L.length+2]? =some d:=by simp
theorem kE:(L++[b]).set L.length b'=L++[b']:=by rw[List.set_append];simp
theorem TV:(L++[b]++[c]).set L.length b'=L++[b']++[c]:=by rw[List.set_append];simp
theorem z78:(L++[b]++[c]).set (L.length+1) b'=L++[b]++[b']:=by rw[List.set_append];simp
theorem zbN:(L++[b]++[c]++[d]).set (L.length+2) b'=L++[b]++[c]++[b']:=by rw[List.set_append];simp
theorem z77:(L++[b]).take (L.length+1)=L++[b]:=w37 (by simp)
theorem kD:(L++[b]++[c]).take (L.length+1)=L++[b]:=by rw[w55 (by simp),z77]
theorem Uj:(L++[b]++[c]).take (L.length+2)=L++[b]++[c]:=w37 (by simp)
theorem zbM:(L++[b]++[c]++[d]).take (L.length+2)=L++[b]++[c]:=by rw[w55 (by simp),Uj]
end
def ints (ws:List Nat):List AV:=ws.map fun n:Nat=> .int .i64 (n:Int)
theorem ZE (ws:List Nat):(ints ws).length=ws.length:=by simp[ints]
theorem Uc {ws:List Nat} {j:Nat} (h:j<ws.length):takeV false 1 ((ints ws).drop j)=some (.int .i64 ((ws.getD j 0:Nat):Int)):=by
 have:(ints ws).drop j= .int .i64 ((ws.getD j 0:Nat):Int)::(ints ws).drop (j+1):=by
  rw[List.drop_eq_getElem_cons (by rw[ZE];exact h)]
  simp[ints,w02,h]
 rw[this,Qa]
theorem Wq {ws:List Nat} {j:Nat} (v:Nat) (h:j<ws.length):(ints ws).take j++[.int .i64 (v:Int)]++(ints ws).drop (j+1)=ints (ws.set j v):=by
 unfold ints
 rw[List.map_set,w56,if_pos (by simpa using h)];simp
theorem z4H (n:Nat):flatRep [.int .i64 0] n=ints (List.replicate n 0):=by
 induction n with
 |zero=>rfl
 |succ n ih=>rw[flatRep,ih,w52];rfl
theorem zf (s l k st off len:Nat) (i:AV):evIaddr s (.arr l k st off len) i=(idx i len).map fun j=> .ptr l k st (off+j*s):=rfl
theorem Vw (l l' k:Nat) (ws:List Nat):shiftAll l l' k (ints ws)=ints ws:=by
 induction ws with
 |nil=>rfl
 |cons w r ih=>simp only[ints,w32,shiftAll,AV.shift] at ih⊢;rw[ih]
theorem z7N {m0:Mem} {stk:List (List Blk)} {cur c':List Blk} {nx' fl':Nat} {own:List Nat} {live':List (List Nat)} {k st off len:Nat}:
  ∃bs:List Blk,leave m0 ⟨stk++[cur],c',nx',own::live',fl'⟩ (.arr (stk++[cur]).length k st off len)=some (.arr stk.length (k+cur.length) st off len,⟨stk,cur++bs,nx',live',m0.floor⟩)∧
   ∀ws,c'[k]? =some ⟨st,ints ws⟩→bs[k]? =some ⟨st,ints ws⟩:=by
 have e:own.filter (fun _=>false)=[]:=by simp
 refine⟨c'.map fun b=>⟨b.st,shiftAll (stk++[cur]).length ((stk++[cur]).length-1) cur.length b.cs⟩,?_,?_⟩
 ·unfold leave
  simp only[w4b,w42,Option.some_or,AV.refs,beq_self_eq_true,if_true,AV.toks,List.contains_nil,e,pushToks,w4c,AV.shift]
  simp
 ·intro ws h
  rw[w17,h,w0d,Vw]
theorem uY (k:IntKind) {p:Int} {n:Nat} (h:0≤p∧p<n):idx (.int k p) n=some p.toNat:=by
 unfold idx;simp only[h,and_self,if_true]
end Go.Vs
end
section
namespace Go.Proofs.W
open Go.Vs
set_option linter.unusedSimpArgs false
set_option maxRecDepth 100000
def minimal (n:Nat):List UInt8:=if h:n<128 then [UInt8.ofNat n] else UInt8.ofNat (n%128+128)::minimal (n/128)
 termination_by n
 decreasing_by omega
theorem Yc {n:Nat} (h:n<128):minimal n=[UInt8.ofNat n]:=by rw[minimal,dif_pos h]
theorem Vz {n:Nat} (h: ¬n<128):minimal n=UInt8.ofNat (n%128+128)::minimal (n/128):=by rw[minimal,dif_neg h]
theorem Tb: ∀(k n:Nat),n<128^(k+1)→(minimal n).length≤k+1
 |0,n,h=>by rw[Yc (by omega)];simp
 |k+1,n,h=>by
  by_cases h1:n<128
  ·rw[Yc h1];simp
  ·rw[Vz h1]
   have:=Tb k (n/128) (by rw[Nat.div_lt_iff_lt_mul (by omega)];rw[Nat.pow_succ] at h;exact h)
   simp only[w26];omega
theorem zg {n:Nat} (h:n<18446744073709551616):(minimal n).length≤10:=Tb 9 n (by omega)
theorem ZC {a:Nat} (h:a<256):IsByte (UInt8.ofNat a) (.int .u8 (a:Int)):=by
 have:(UInt8.ofNat a).toNat=a:=by simp;omega
 unfold IsByte;rw[this]
theorem zj {α:Type} {l:List α} {i:Nat} (h:i<l.length) {P:α→Prop} (h1: ∀x∈l.take i,P x) (h2:P l[i]): ∀x∈l.take (i+1),P x:=by
 intro x hx
 rw[w15 h] at hx
 rcases w08.1 hx with hx|hx
 ·exact h1 x hx
 ·simp at hx;rw[hx];exact h2
theorem zE {α:Type} {R:α→AV→Prop} {x:α} {y:AV} (h:R x y):All2 R [x] [y]:=⟨h,trivial⟩
theorem XD {n:Nat}:IntKind.u8.wrap (n:Int)=((n%256:Nat):Int):=by
 unfold IntKind.wrap
 simp[IntKind.signed,IntKind.bits]
theorem z8R (a b:Nat):((a:Int).tdiv (b:Int))=((a/b:Nat):Int):=rfl
theorem zy (n:Nat) (hn:n<18446744073709551616) (m:Mem):Okl IsByte 1 tab zu [.int .u64 n] m (minimal n):=by
 refine qt Zn ?_
 obtain⟨stk,cur,nx,live,fl⟩:=m
 simp only[va,List.map,go_sem]
 refine zc (α:=Nat×List UInt8×AV×List Nat×Nat) (fun z σ=>(z.1<18446744073709551616∧z.2.1++minimal z.1=minimal n∧Own IsByte 1 z.2.2.1 z.2.1 z.2.2.2.1)∧heads [0,3] 0 σ=⟨tmps 20 [(0,.int .u64 z.1),(3,z.2.2.1)],⟨stk++[cur],[],z.2.2.2.2,z.2.2.2.1::live,fl⟩⟩) (fun z=>z.1) (n,[],.nils,[],nx) ?_ ?_
 ·refine⟨⟨hn,rfl,.nil _⟩,?_⟩
  simp only[go_sem,reduceCtorEq,G0,G1]
 ·rintro⟨a,b,y,e,nx⟩ σ ⟨⟨ha,hb,ho⟩,hσ⟩
  rw[hσ]
  dsimp only at ha hb ho⊢
  have hl:=zg hn
  rw[←hb,w05] at hl
  by_cases h:a<128
  ·have h': ¬((a:Int)≥128):=by omega
   rw[Yc h] at hb hl
   simp only[go_sem,reduceCtorEq,G0,G1,G2,h',XD,allLen]
   refine ho.xv (zi · _ _ _) (zE (ZC (Nat.mod_lt _ (by omega)))) (by simp;omega) fun y' n' e' ho'=> ?_
   simp only[go_sem,reduceCtorEq,G0,G2]
   rw[show UInt8.ofNat (a%256)=UInt8.ofNat a by rw[Nat.mod_eq_of_lt (by omega)],hb] at ho'
   exact ue ho'
  ·have h':(a:Int)≥128:=by omega
   rw[Vz h] at hb hl
   have e1:IntKind.u8.wrap (IntKind.u8.wrap (((a:Int).tmod 128))+128)=((a%128+128:Nat):Int):=by
    have:IntKind.u8.wrap ((a:Int).tmod 128)=((a%128:Nat):Int):=by
     rw[show((a:Int).tmod 128)=((a%128:Nat):Int) from rfl,z6D (by omega) (by omega)]
    rw[this,z6D (by omega) (by omega)]
    omega
   have e2:IntKind.u64.wrap ((a:Int).tdiv 128)=((a/128:Nat):Int):=by
    rw[show((a:Int).tdiv 128)=((a/128:Nat):Int) from rfl,zM (by omega) (by omega)]
   simp only[go_sem,reduceCtorEq,G0,G1,G2,h',e1,allLen,(by decide: ¬((128:Int)=0))]
   refine ho.xv (zi · _ _ _) (zE (ZC (by omega))) (by simp;omega) fun y' n' e' ho'=> ?_
   simp only[go_sem,reduceCtorEq,G0,G2,e2,(by decide: ¬((128:Int)=0))]
   exact⟨(a/128,_,y',e',n'),by dsimp only;omega,⟨by dsimp only;omega,by dsimp only;rw[w0f];exact hb,ho'⟩,rfl⟩
def zigzag (n:Int):Nat:=if 0≤n then(2*n).toNat else(-2*n-1).toNat
theorem qr {n:Int} (h:in64 n):zigzag n<18446744073709551616:=by unfold in64 at h;unfold zigzag;split<;>omega
theorem z2h {n:Int} (h1: -18446744073709551616≤n) (h2:n<0):IntKind.u64.wrap n=n+18446744073709551616:=by
 unfold IntKind.wrap
 simp[IntKind.signed,IntKind.bits]
 omega
theorem tU (n:Int) (hn:in64 n) (m:Mem):Okv tab x7 [.int .i64 n] m (.int .u64 (zigzag n)):=by
 refine zh ZW ?_
 obtain⟨stk,cur,nx,live,fl⟩:=m
 simp only[vq,List.map,go_sem,reduceCtorEq,G0,G2]
 unfold in64 at hn
 by_cases h:n≥0
 ·have e1:IntKind.u64.wrap n=n:=zM (by omega) (by omega)
  have e2:IntKind.u64.wrap (n*2)=((zigzag n:Nat):Int):=by rw[zM (by omega) (by omega)];unfold zigzag;rw[if_pos h];omega
  simp only[go_sem,reduceCtorEq,G0,G2,h,e1,e2]
  rw[z6 rfl rfl,z8]
  exact⟨⟨_,rfl⟩,rfl⟩
 ·have e1:IntKind.i64.wrap (n+1)=n+1:=zd (by omega) (by omega)
  have e2:IntKind.i64.wrap (0-(n+1))= -1-n:=by rw[zd (by omega) (by omega)];omega
  have e3:IntKind.u64.wrap (-1-n)= -1-n:=zM (by omega) (by omega)
  have e4:IntKind.u64.wrap ((-1-n)*2)= -2-2*n:=by rw[zM (by omega) (by omega)];omega
  have e5:IntKind.u64.wrap (-2-2*n+1)=((zigzag n:Nat):Int):=by rw[zM (by omega) (by omega)];unfold zigzag;rw[if_neg h];omega
  simp only[go_sem,reduceCtorEq,G0,G2,h,e1,e2,e3,e4,e5]
  rw[z6 rfl rfl,z8]
  exact⟨⟨_,rfl⟩,rfl⟩
theorem zn (n:Nat) (hn:n<9223372036854775808) (m:Mem):Okl IsByte 1 tab zm [.int .i64 n] m (minimal n):=by
 refine qt ZR ?_
 obtain⟨stk,cur,nx,live,fl⟩:=m
 have e:IntKind.u64.wrap (n:Int)=n:=zM (by omega) (by omega)
 simp only[vl,List.map,go_sem,reduceCtorEq,G0,G2,e]
 refine(zy n (by omega) _).xv fun y ts k ho=> ?_
 simp only[go_sem,reduceCtorEq,G0,G2,yx]
 exact ue ho
def said (s:List UInt8):List UInt8:=minimal s.length++s
theorem ug (s:List UInt8) (hs:s.length≤1000000) (m:Mem):Okl IsByte 1 tab yS [.str s] m (said s):=by
 refine qt W0 ?_
 obtain⟨stk,cur,nx,live,fl⟩:=m
 have e:IntKind.u64.wrap (s.length:Int)=s.length:=zM (by omega) (by omega)
 simp only[uE,List.map,go_sem,reduceCtorEq,G0,G2,e]
 have hl:=zg (n:=s.length) (by omega)
 refine(zy s.length (by omega) _).xv fun y ts k ho=> ?_
 simp only[go_sem,reduceCtorEq,G0,G2,yx]
 refine ho.xv (z24 · _) (jj s) (by omega) fun y' n' e' ho'=> ?_
 simp only[go_sem,reduceCtorEq,G0,G2]
 exact ue ho'
theorem zaZ: ∀c:Fin 256,IntKind.u8.wrap ((BitVec.ofInt 8 (c.val:Int)|||BitVec.ofInt 8 128).toNat:Int)=((c.val%128+128:Nat):Int):=by decide+kernel
theorem zcy {c:Nat} (h:c<256):evBits .or .u8 (c:Int) 128=some (.int .u8 ((c%128+128:Nat):Int)):=by
 have:=zaZ ⟨c,h⟩
 exact congrArg (fun x=>some (AV.int .u8 x)) this
theorem Va (b:Nat) (hb:b<256) (y:AV) (l:List UInt8) (hl:l.length≤100) (stk:List (List Blk)) (st nx fl:Nat) (e:List Nat) (rest:List (List Nat)) (hf:fl≤stk.length) (ho:Own IsByte 1 y l e):
  ∃y' n e',CALL tab th [.int .u8 b,.ptr stk.length 0 st 0] ⟨stk,[⟨st,[y]⟩],nx,e::rest,fl⟩=some (.tup [],⟨stk,[⟨st,[y']⟩],n,e'::rest,fl⟩)∧Own IsByte 1 y' (l++[UInt8.ofNat b]) e':=by
 suffices h:Does tab th [.int .u8 b,.ptr stk.length 0 st 0] ⟨stk,[⟨st,[y]⟩],nx,e::rest,fl⟩ fun v m'=> ∃y' n e',v= .tup []∧m'=⟨stk,[⟨st,[y']⟩],n,e'::rest,fl⟩∧Own IsByte 1 y' (l++[UInt8.ofNat b]) e' by
  obtain⟨x,h1,y',n,e',h2,h3,h4⟩:=h
  exact⟨y',n,e',by rw[h1,←h2,←h3],h4⟩
 refine zV z0M ?_ (Nat.le_of_ble_eq_true rfl)
 have hne: ∀z:List Blk,(stk.length==(stk++[z]).length)=false:=fun z=>by simp
 have hg: ∀z:List Blk,(stk++[z]).getD stk.length []=z:=fun z=>by simp
 simp only[Z6,List.map,go_sem,reduceCtorEq,G3,G0,G2,hne,hg,allLen]
 refine(ho.wr rest).enter.xv (zi · _ _ _) (zE (ZC hb)) (by simp;omega) fun y' n' live' hw=> ?_
 have ho': ∃e,Own IsByte 1 y' (l++[UInt8.ofNat b]) e:=let ⟨_,_,_,h⟩:=hw;⟨_,h⟩
 obtain⟨e0,ho'⟩:=ho'
 obtain⟨e1,live1,hs,hw1⟩:=hw.sink
 obtain⟨e2,rfl,ho2⟩:=hw1.own
 have hml: ∀z:List Blk,(stk++[z]).length-stk.length=0+1:=fun z=>by simp
 have hmod: ∀z f,(stk++[z]).modify stk.length f=stk++[f z]:=fun z f=>by
  rw[w47 (by simp)];simp
 simp only[go_sem,reduceCtorEq,G0,G2,hne,hg,ho'.cells,ho'.one,hf,hml,hs,hmod]
 rw[yK rfl rfl,z8]
 exact⟨y',n',e2,rfl,rfl,ho2⟩
theorem tG (n:Nat) (hn:n<18446744073709551616) (stk:List (List Blk)) (cur:List Blk) (nx fl:Nat) (live:List (List Nat)) (hf:fl≤stk.length+1):Okl IsByte 1 tab vj [.int .u64 n] ⟨stk,cur,nx,live,fl⟩ (minimal n):=by
 refine qt z3J ?_
 simp only[WD,List.map,go_sem,reduceCtorEq,G0,G2]
 refine zc (α:=Nat×List UInt8×AV×List Nat×Nat) (fun z σ=>(z.1<18446744073709551616∧z.2.1++minimal z.1=minimal n∧Own IsByte 1 z.2.2.1 z.2.1 z.2.2.2.1)∧heads [0,3,4] 1 σ=⟨tmps 20 [(0,.int .u64 z.1),(3,.ptr (stk++[cur]).length 0 nx 0),(4,.fn (.func th) [] [.ptr (stk++[cur]).length 0 nx 0])],⟨stk++[cur],[⟨nx,[z.2.2.1]⟩],z.2.2.2.2,z.2.2.2.1::live,fl⟩⟩) (fun z=>z.1) (n,[],.nils,[],nx+1) ?_ ?_
 ·refine⟨⟨hn,rfl,.nil _⟩,?_⟩
  simp only[go_sem,reduceCtorEq,G0,G1]
 ·rintro⟨a,b,y,e,nz⟩ σ ⟨⟨ha,hb,ho⟩,hσ⟩
  rw[hσ]
  dsimp only at ha hb ho⊢
  have hl:=zg hn
  rw[←hb,w05] at hl
  have hf':fl≤(stk++[cur]).length:=by simp;omega
  by_cases h:a<128
  ·have h': ¬((a:Int)≥128):=by omega
   rw[Yc h] at hb hl
   obtain⟨y',n',e',hc,ho'⟩:=Va (a%256) (by omega) y b (by omega) (stk++[cur]) nx nz fl e live hf' ho
   simp only[go_sem,reduceCtorEq,G0,G1,G2,h',XD,hc]
   rw[show UInt8.ofNat (a%256)=UInt8.ofNat a by rw[Nat.mod_eq_of_lt (by omega)],hb] at ho'
   exact ue ho'
  ·have h':(a:Int)≥128:=by omega
   rw[Vz h] at hb hl
   have e1:evBits .or .u8 ((a%256:Nat):Int) 128=some (.int .u8 ((a%128+128:Nat):Int)):=by
    rw[zcy (by omega),show a%256%128=a%128 by omega]
   have e2:(a:Int).fdiv (2^min (Int.toNat 7) 64)=((a/128:Nat):Int):=by
    rw[Int.fdiv_eq_ediv_of_nonneg _ (by decide)];simp
   obtain⟨y',n',e',hc,ho'⟩:=Va (a%128+128) (by omega) y b (by omega) (stk++[cur]) nx nz fl e live hf' ho
   simp only[go_sem,reduceCtorEq,G0,G1,G2,h',XD,e1,hc,evShift,IntKind.bits,(by decide: ¬((7:Int)<0)),e2]
   exact⟨(a/128,_,y',e',n'),by dsimp only;omega,⟨by dsimp only;omega,by dsimp only;rw[w0f];exact hb,ho'⟩,rfl⟩
theorem z8y (x:BitVec 64):(x^^^BitVec.ofInt 64 (-1))= ~~~x:=by
 have:BitVec.ofInt 64 (-1)=BitVec.allOnes 64:=by decide
 rw[this,BitVec.xor_allOnes]
theorem Vb (n:Int) (hn:in64 n) (stk:List (List Blk)) (cur:List Blk) (nx fl:Nat) (live:List (List Nat)) (hf:fl≤stk.length+1):Okl IsByte 1 tab qJ [.int .i64 n] ⟨stk,cur,nx,live,fl⟩ (minimal (zigzag n)):=by
 refine qt z0N ?_
 have hz:=qr hn
 unfold in64 at hn
 have key:evBits .xor .u64 (IntKind.u64.wrap (IntKind.u64.wrap n*2^min (Int.toNat 1) 64)) (IntKind.u64.wrap (n.fdiv (2^min (Int.toNat 63) 64)))=some (.int .u64 ((zigzag n:Nat):Int)):=by
  refine congrArg (fun x=>some (AV.int .u64 x)) (?_:IntKind.u64.wrap ((BitVec.ofInt 64 (IntKind.u64.wrap (IntKind.u64.wrap n*2^min (Int.toNat 1) 64))^^^BitVec.ofInt 64 (IntKind.u64.wrap (n.fdiv (2^min (Int.toNat 63) 64)))).toNat:Int)=((zigzag n:Nat):Int))
  rw[show min (Int.toNat 1) 64=1 from rfl,show min (Int.toNat 63) 64=63 from rfl,Int.fdiv_eq_ediv_of_nonneg _ (by decide)]
  by_cases h:0≤n
  ·have e1:IntKind.u64.wrap n=n:=zM (by omega) (by omega)
   have e2:n/2^63=0:=Int.ediv_eq_zero_of_lt h (by omega)
   have e3:IntKind.u64.wrap (n*2^1)=n*2:=zM (by omega) (by omega)
   rw[e1,e2,e3]
   have e4:BitVec.ofInt 64 (IntKind.u64.wrap 0)=0#64:=rfl
   rw[e4,BitVec.xor_zero,BitVec.toNat_ofInt]
   unfold zigzag;rw[if_pos h]
   rw[zM (by omega) (by omega)];omega
  ·have e1:IntKind.u64.wrap n=n+18446744073709551616:=z2h (by omega) (by omega)
   have e2:n/2^63= -1:=by omega
   have e3:IntKind.u64.wrap ((n+18446744073709551616)*2^1)=n*2+18446744073709551616:=by
    unfold IntKind.wrap
    simp[IntKind.signed,IntKind.bits]
    omega
   rw[e1,e2,e3]
   have e4:BitVec.ofInt 64 (IntKind.u64.wrap (-1))=BitVec.ofInt 64 (-1):=rfl
   rw[e4,z8y,BitVec.toNat_not,BitVec.toNat_ofInt]
   unfold zigzag;rw[if_neg h]
   rw[zM (by omega) (by omega)];omega
 simp only[Z7,List.map,go_sem,reduceCtorEq,G0,G2,evShift,(by decide: ¬((1:Int)<0)),(by decide: ¬((63:Int)<0)),IntKind.bits,key]
 have hf':fl≤(stk++[cur]).length+1:=by simp;omega
 refine(tG _ hz _ _ _ _ _ hf').xv fun y ts k ho=> ?_
 simp only[go_sem,reduceCtorEq,G0,G2]
 exact ue ho
def shp (op:Int):List UInt8:=
 if op=1 then [119,110,45] else if op=2 then [119,116,45] else if op=3 then [119,98,45] else if op=4∨op=15 then [119,45,45]
 else if op=5∨op=12∨op=16∨op=18∨op=21∨op=33 then [119,114,45]
 else if op=6∨op=7∨op=8∨op=9∨op=10∨op=11∨op=19 then [119,114,114]
 else if op=13 then [119,114,102] else if op=14 then [114,102,114] else if op=17 then [114,114,45] else if op=20 then [114,114,114]
 else if op=22 then [105,45,45] else if op=23 then [114,105,45] else if op=24∨op=28∨op=32 then [114,45,45] else if op=25 then [103,99,45]
 else if op=26∨op=27 then [99,45,45] else if op=29 then [119,119,45] else if op=30∨op=31 then [45,45,45] else if op=34 then [101,45,45] else []
theorem z2r (op:Int) (m:Mem):Okv tab xo [.int .u8 op] m (.str (shp op)):=by
 refine zh YJ ?_
 obtain⟨stk,cur,nx,live,fl⟩:=m
 simp only[vK,List.map,go_sem,reduceCtorEq,G0,G2]
 repeat' (((first|refine zD ?_ ?_|refine zq ?_ ?_|refine zr ?_ ?_|refine zo ?_ ?_|refine zp ?_ ?_)<;>intro hq)<;>simp only[go_sem,reduceCtorEq,G0,G2,hq])
 all_goals
  rw[z6 rfl rfl,z8]
  refine⟨⟨_,rfl⟩,?_⟩
  simp only[beq_iff_eq,beq_eq_false_iff_ne] at*
  unfold shp
  first|(subst op;rfl)|(simp[*];done)
end Go.Proofs.W
end
