/-
  Vsp: a region that draws its order, the proof.
-/
import Derived.Test.YtbnkcloiaeobmaaVso
namespace Go.Vs
open Go.RowKit

def StepD (O : Oracle) (m0 : Mem) (ao : AOper) (s s' : St) : Prop :=
  match ao.flt with
  | true => ∃ q, evOper O ao ⟨s.ρ, m0⟩ = some q ∧ s' = ⟨q.ρ, s.m⟩
  | false =>
    match ao.op.isStore with
    | true => ∃ q, evOper O ao ⟨s.ρ, { s.m with floor := m0.floor }⟩ = some q ∧ s' = ⟨q.ρ, { q.m with floor := s.m.floor }⟩
    | false => evOper O ao s = some s'

theorem draw_trace {O : Oracle} {m0 : Mem} : ∀ {al : List AOper} {σ σ' : St}, evDraw O m0 al σ = some σ' → ∃ S : Nat → St, S 0 = σ ∧ S al.length = σ' ∧ ∀ (i : Nat) (ao : AOper), al[i]? = some ao → StepD O m0 ao (S i) (S (i + 1))
  | [], σ, σ', h => by
    simp [evDraw] at h
    exact ⟨fun _ => σ, rfl, h, fun i ao hi => by simp at hi⟩
  | o :: r, σ, σ', h => by
    have key : ∃ s1, StepD O m0 o σ s1 ∧ evDraw O m0 r s1 = some σ' := by
      simp only [evDraw] at h
      unfold StepD
      split at h
      · rename_i hf
        split at h
        · rename_i q hq
          exact ⟨_, by rw [hf]; exact ⟨q, hq, rfl⟩, h⟩
        · cases h
      · rename_i hf
        split at h
        · rename_i hs
          split at h
          · rename_i q hq
            exact ⟨_, by rw [hf, hs]; exact ⟨q, hq, rfl⟩, h⟩
          · cases h
        · rename_i hs
          split at h
          · rename_i q hq
            exact ⟨_, by rw [hf, hs]; exact hq, h⟩
          · cases h
    obtain ⟨s1, h1, h2⟩ := key
    obtain ⟨S, k1, k2, k3⟩ := draw_trace h2
    refine ⟨fun i => match i with | 0 => σ | i + 1 => S i, rfl, k2, fun i ao hi => ?_⟩
    cases i with
    | zero => simp at hi; subst hi; show StepD O m0 o σ (S 0); rw [k1]; exact h1
    | succ i => exact k3 i ao (by simpa using hi)

theorem compOpers_get {P : Program} {ops : Array Oper} {flt : Nat → Bool} : ∀ {l : List Oper} {al : List AOper} {i : Nat}, compOpers P ops flt i l = some al →
    al.length = l.length ∧ ∀ (k : Nat) (o : Oper), l[k]? = some o → ∃ ao, al[k]? = some ao ∧ compOper P ops (flt (i + k)) o = some ao
  | [], al, i, h => by simp [compOpers] at h; subst h; exact ⟨rfl, fun k o hk => by simp at hk⟩
  | o :: l, al, i, h => by
    simp only [compOpers] at h
    split at h
    · rename_i a al' h1 h2
      injection h with h; subst h
      obtain ⟨k1, k2⟩ := compOpers_get h2
      refine ⟨by simp [k1], fun k o' hk => ?_⟩
      cases k with
      | zero => simp at hk; subst hk; exact ⟨a, rfl, h1⟩
      | succ k =>
        obtain ⟨ao, q1, q2⟩ := k2 k o' (by simpa using hk)
        exact ⟨ao, by simpa using q1, by rw [show i + (k + 1) = i + 1 + k by omega]; exact q2⟩
    · cases h

theorem readsOk_get {ops : Array Oper} : ∀ {l : List Oper} {al : List AOper}, readsOk ops l al = true → ∀ (k : Nat) (o : Oper) (ao : AOper), l[k]? = some o → al[k]? = some ao →
    readsIn (looksAt ops o) ao.op.reads = true ∧ ao.op.isStore = isStore o.op ∧ (movesMem o.op = true ∨ ao.op.kind ≤ 1) ∧ (movesMem o.op = true ∨ isLoad o.op = true ∨ ao.op.kind = 0)
  | [], _, _, k, o, ao, h, _ => by simp at h
  | _ :: _, [], _, k, o, ao, _, h => by simp at h
  | o :: l, a :: al, h, k, o', ao, h1, h2 => by
    simp only [readsOk, Bool.and_eq_true, Bool.or_eq_true, decide_eq_true_eq, beq_iff_eq] at h
    cases k with
    | zero =>
      simp at h1 h2; subst h1; subst h2
      obtain ⟨⟨⟨⟨a1, a2⟩, a3⟩, a4⟩, _⟩ := h
      refine ⟨a1, a2, a3, ?_⟩
      rcases a4 with (h | h) | h
      · exact .inl h
      · exact .inr (.inl h)
      · exact .inr (.inr h)
    | succ k => exact readsOk_get h.2 k o' ao (by simpa using h1) (by simpa using h2)

theorem readsIn_mem {l : List Nat} : ∀ {r : List Opd}, readsIn l r = true → ∀ i, Opd.t i ∈ r → i ∈ l
  | [], _, i, h => by cases h
  | .t j :: r, h, i, hm => by
    simp only [readsIn, Bool.and_eq_true] at h
    rcases List.mem_cons.1 hm with hm | hm
    · injection hm with hm; subst hm; simpa using h.1
    · exact readsIn_mem h.2 i hm
  | .c v :: r, h, i, hm => by
    simp only [readsIn] at h
    rcases List.mem_cons.1 hm with hm | hm
    · cases hm
    · exact readsIn_mem h i hm

theorem compOper_parts {P : Program} {ops : Array Oper} {flt : Bool} {o : Oper} {ao : AOper} (h : compOper P ops flt o = some ao) : ao.dst = o.dst ∧ ao.flt = flt ∧ compOp P o = some ao.op ∧ compGuard ops o.guard = some ao.guard := by
  unfold compOper at h
  split at h
  · rename_i op gd h1 h2
    injection h with h; subst h
    exact ⟨rfl, rfl, h1, h2⟩
  · cases h

/-- The registers, but for those that an operation looks at unknown. -/
def mask (looks : List Nat) (ρ : List AV) : List AV := ρ.zipIdx.map fun p => if looks.contains p.2 then p.1 else .undef

theorem mask_get (looks : List Nat) (ρ : List AV) (t : Nat) : (mask looks ρ)[t]? = (ρ[t]?).map fun x => if looks.contains t then x else .undef := by
  unfold mask
  rw [List.getElem?_map, List.getElem?_zipIdx]
  cases ρ[t]? <;> simp

theorem mask_length (looks : List Nat) (ρ : List AV) : (mask looks ρ).length = ρ.length := by simp [mask]

theorem mask_getD {looks : List Nat} {ρ : List AV} {t : Nat} (h : t ∈ looks) (d : AV) : (mask looks ρ).getD t d = ρ.getD t d := by
  rw [List.getD_eq_getElem?_getD, List.getD_eq_getElem?_getD, mask_get]
  cases ρ[t]? <;> simp [h]

theorem setDst_get (ρ : List AV) (d : Option Nat) (r : AV) (t : Nat) : (setDst ρ d r)[t]? = if d = some t ∧ t < ρ.length then some r else ρ[t]? := by
  cases d with
  | none => simp [setDst]
  | some d =>
    simp only [setDst, List.getElem?_set, Option.some.injEq]
    by_cases h : d = t
    · subst h
      by_cases h2 : d < ρ.length
      · simp [h2]
      · simp [h2]
    · simp [h]

theorem setDst_length (ρ : List AV) (d : Option Nat) (r : AV) : (setDst ρ d r).length = ρ.length := by cases d <;> simp [setDst]

/-- What the evaluator's walk of a region that draws its order rests on. -/
structure Dr (P : Program) (O : Oracle) (ops : Array Oper) (al : List AOper) (m0 : Mem) (S : Nat → St) : Prop where
  hO : OracleOk P O
  hA : OracleAbove O
  hd : drawOk ops (masks ops.toList []) = true
  hc : compOpers P ops (fltOf ops (masks ops.toList [])) 0 ops.toList = some al
  hr : readsOk ops ops.toList al = true
  hs : ∀ (i : Nat) (ao : AOper), al[i]? = some ao → StepD O m0 ao (S i) (S (i + 1))
  h0 : (S 0).m = { m0 with floor := m0.stk.length + 1 }
  hf : m0.floor ≤ m0.stk.length

section
variable {P : Program} {O : Oracle} {ops : Array Oper} {al : List AOper} {m0 : Mem} {S : Nat → St}

theorem Dr.get (D : Dr P O ops al m0 S) {i : Nat} {o : Oper} (h : ops[i]? = some o) : ∃ ao, al[i]? = some ao ∧ compOper P ops (fltOf ops (masks ops.toList []) i) o = some ao ∧ StepD O m0 ao (S i) (S (i + 1)) ∧
    readsIn (looksAt ops o) ao.op.reads = true ∧ ao.op.isStore = isStore o.op ∧ (movesMem o.op = true ∨ ao.op.kind ≤ 1) ∧ (movesMem o.op = true ∨ isLoad o.op = true ∨ ao.op.kind = 0) := by
  obtain ⟨_, h2⟩ := compOpers_get D.hc
  obtain ⟨ao, h3, h4⟩ := h2 i o (by simpa using h)
  rw [Nat.zero_add] at h4
  have h5 := readsOk_get D.hr i o ao (by simpa using h) h3
  exact ⟨ao, h3, h4, D.hs i ao h3, h5⟩

/-- One step of the walk. -/
theorem Dr.step (D : Dr P O ops al m0 S) {i : Nat} {o : Oper} {ao : AOper} (ho : ops[i]? = some o) (h : compOper P ops (fltOf ops (masks ops.toList []) i) o = some ao) (hs : StepD O m0 ao (S i) (S (i + 1))) :
    ∃ b r, wanted (S i).ρ ao.guard = some b ∧ (S (i + 1)).ρ = setDst (S i).ρ ao.dst r ∧ (b = false → r = .tup [] ∧ (S (i + 1)).m = (S i).m) ∧
      (b = true → (fltOf ops (masks ops.toList []) i = true ∧ (∃ m', evOp O (S i).ρ m0 ao.op = some (r, m')) ∧ (S (i + 1)).m = (S i).m) ∨
        (fltOf ops (masks ops.toList []) i = false ∧ ao.op.isStore = true ∧ ∃ m', evOp O (S i).ρ { (S i).m with floor := m0.floor } ao.op = some (r, m') ∧ (S (i + 1)).m = { m' with floor := (S i).m.floor }) ∨
        (fltOf ops (masks ops.toList []) i = false ∧ ao.op.isStore = false ∧ evOp O (S i).ρ (S i).m ao.op = some (r, (S (i + 1)).m))) := by
  have hflt := (compOper_parts h).2.1
  unfold StepD at hs
  rw [hflt] at hs
  cases hf : fltOf ops (masks ops.toList []) i with
  | true =>
    rw [hf] at hs
    obtain ⟨q, hq, hS⟩ := hs
    unfold evOper at hq
    split at hq
    · rename_i hw
      simp only [Option.map_eq_some_iff] at hq
      obtain ⟨⟨r, m'⟩, h1, rfl⟩ := hq
      exact ⟨true, r, hw, by rw [hS], fun h => by (cases h), fun _ => .inl ⟨rfl, ⟨m', h1⟩, by rw [hS]⟩⟩
    · rename_i hw
      injection hq with hq; subst hq
      exact ⟨false, .tup [], hw, by rw [hS], fun _ => ⟨rfl, by rw [hS]⟩, fun h => by (cases h)⟩
    · cases hq
  | false =>
    rw [hf] at hs
    simp only at hs
    cases hst : ao.op.isStore with
    | true =>
      rw [hst] at hs
      obtain ⟨q, hq, hS⟩ := hs
      unfold evOper at hq
      split at hq
      · rename_i hw
        simp only [Option.map_eq_some_iff] at hq
        obtain ⟨⟨r, m'⟩, h1, rfl⟩ := hq
        exact ⟨true, r, hw, by rw [hS], fun h => by (cases h), fun _ => .inr (.inl ⟨rfl, rfl, m', h1, by rw [hS]⟩)⟩
      · rename_i hw
        injection hq with hq; subst hq
        exact ⟨false, .tup [], hw, by rw [hS], fun _ => ⟨rfl, by rw [hS]⟩, fun h => by (cases h)⟩
      · cases hq
    | false =>
      rw [hst] at hs
      have hs' : evOper O ao (S i) = some (S (i + 1)) := hs
      clear hs
      have hs := hs'
      unfold evOper at hs
      split at hs
      · rename_i hw
        simp only [Option.map_eq_some_iff] at hs
        obtain ⟨⟨r, m'⟩, h1, h2⟩ := hs
        refine ⟨true, r, hw, by rw [← h2], fun h => by (cases h), fun _ => .inr (.inr ⟨rfl, rfl, ?_⟩)⟩
        rw [h1, ← h2]
      · rename_i hw
        injection hs with hs
        exact ⟨false, .tup [], hw, by rw [← hs], fun _ => ⟨rfl, by rw [← hs]⟩, fun h => by (cases h)⟩
      · cases hs

def isE (ops : Array Oper) (i : Nat) : Bool := match ops[i]? with | some o => movesMem o.op | none => false
def isSt (ops : Array Oper) (i : Nat) : Bool := match ops[i]? with | some o => isStore o.op | none => false
def wr (ops : Array Oper) (t i : Nat) : Bool := match ops[i]? with | some o => o.dst == some t | none => false

theorem Dr.lens (D : Dr P O ops al m0 S) : ∀ i, i ≤ ops.size → (S i).m.stk.length = m0.stk.length ∧ (S i).m.floor = m0.stk.length + 1
  | 0, _ => by rw [D.h0]; exact ⟨rfl, rfl⟩
  | i + 1, hi => by
    obtain ⟨k1, k2⟩ := D.lens i (by omega)
    have ho : ops[i]? = some ops[i] := Array.getElem?_eq_getElem (by omega)
    obtain ⟨ao, _, hcomp, hst, _⟩ := D.get ho
    obtain ⟨b, r, _, _, hfalse, htrue⟩ := D.step ho hcomp hst
    cases b with
    | false => rw [(hfalse rfl).2]; exact ⟨k1, k2⟩
    | true =>
      rcases htrue rfl with ⟨_, _, h⟩ | ⟨_, _, m', h1, h2⟩ | ⟨_, hns, h1⟩
      · rw [h]; exact ⟨k1, k2⟩
      · have := evOp_above D.hA (by simp only; rw [k1]; have := D.hf; omega) (fun _ => by simp only; rw [k1]; exact D.hf) h1
        rw [h2]
        exact ⟨by simp only; rw [this.len]; exact k1, k2⟩
      · have := evOp_above D.hA (by rw [k1, k2]; omega) (fun h => by rw [hns] at h; cases h) h1
        exact ⟨this.len.trans k1, this.floor.trans k2⟩

/-- Where no operation moves memory, memory stays. -/
theorem Dr.mem_const (D : Dr P O ops al m0 S) (a : Nat) : ∀ b, a ≤ b → b ≤ ops.size → (∀ i, a ≤ i → i < b → isE ops i = false) → (S b).m = (S a).m
  | 0, h, _, _ => by have : a = 0 := by omega
                     rw [this]
  | b + 1, h, hb, hE => by
    by_cases hab : a = b + 1
    · rw [hab]
    · have ih := D.mem_const a b (by omega) (by omega) (fun i h1 h2 => hE i h1 (by omega))
      have ho : ops[b]? = some ops[b] := Array.getElem?_eq_getElem (by omega)
      have hq := hE b (by omega) (by omega)
      simp only [isE, ho] at hq
      obtain ⟨ao, _, hcomp, hst, _, hs1, hk, _⟩ := D.get ho
      obtain ⟨bb, r, _, _, hfalse, htrue⟩ := D.step ho hcomp hst
      rw [← ih]
      have hk' : ao.op.kind ≤ 1 := by rcases hk with h | h; · rw [hq] at h; cases h
                                      · exact h
      cases bb with
      | false => exact (hfalse rfl).2
      | true =>
        rcases htrue rfl with ⟨_, _, h⟩ | ⟨_, _, m', h1, h2⟩ | ⟨_, _, h1⟩
        · exact h
        · rw [h2, (evOp_load hk' h1).1]
        · exact (evOp_load hk' h1).1

/-- Where nothing is stored, what was there stands. -/
theorem Dr.mem_above (D : Dr P O ops al m0 S) : ∀ b, b ≤ ops.size → (∀ i, i < b → isSt ops i = false) → ∀ l k st cs, m0.blk l k st = some cs → (S b).m.blk l k st = some cs
  | 0, _, _, l, k, st, cs, h => by rw [D.h0]; exact h
  | b + 1, hb, hS, l, k, st, cs, h => by
    have ih := D.mem_above b (by omega) (fun i hi => hS i (by omega)) l k st cs h
    have ho : ops[b]? = some ops[b] := Array.getElem?_eq_getElem (by omega)
    have hq := hS b (by omega)
    simp only [isSt, ho] at hq
    obtain ⟨ao, _, hcomp, hst, _, hs1, hk, _⟩ := D.get ho
    obtain ⟨bb, r, _, _, hfalse, htrue⟩ := D.step ho hcomp hst
    obtain ⟨k1, k2⟩ := D.lens b (by omega)
    have hl : l ≤ m0.stk.length := by
      rcases Nat.lt_or_ge m0.stk.length l with hlt | hle
      · exfalso
        have := blk_row h
        unfold Mem.row at this
        have hnone : m0.stk[l]? = none := List.getElem?_eq_none (by omega)
        rw [if_neg (by simp; omega), List.getD_eq_getElem?_getD, hnone] at this
        simp at this
      · exact hle
    cases bb with
    | false => rw [(hfalse rfl).2]; exact ih
    | true =>
      rcases htrue rfl with ⟨_, _, h⟩ | ⟨_, h1, _⟩ | ⟨_, hns, h1⟩
      · rw [h]; exact ih
      · rw [hs1, hq] at h1; cases h1
      · exact (evOp_above D.hA (by rw [k1, k2]; omega) (fun h => by rw [hns] at h; cases h) h1).blk l k st cs (by rw [k2]; omega) ih

theorem Dr.reg_len (D : Dr P O ops al m0 S) : ∀ i, i ≤ ops.size → (S i).ρ.length = (S 0).ρ.length
  | 0, _ => rfl
  | i + 1, hi => by
    have ho : ops[i]? = some ops[i] := Array.getElem?_eq_getElem (by omega)
    obtain ⟨ao, _, hcomp, hst, _⟩ := D.get ho
    obtain ⟨b, r, _, hρ, _⟩ := D.step ho hcomp hst
    rw [hρ, setDst_length]
    exact D.reg_len i (by omega)

/-- Where nobody writes t, t stays. -/
theorem Dr.reg_const (D : Dr P O ops al m0 S) (t a : Nat) : ∀ b, a ≤ b → b ≤ ops.size → (∀ i, a ≤ i → i < b → wr ops t i = false) → (S b).ρ[t]? = (S a).ρ[t]?
  | 0, h, _, _ => by have : a = 0 := by omega
                     rw [this]
  | b + 1, h, hb, hE => by
    by_cases hab : a = b + 1
    · rw [hab]
    · have ih := D.reg_const t a b (by omega) (by omega) (fun i h1 h2 => hE i h1 (by omega))
      have ho : ops[b]? = some ops[b] := Array.getElem?_eq_getElem (by omega)
      have hq := hE b (by omega) (by omega)
      simp only [wr, ho] at hq
      obtain ⟨ao, _, hcomp, hst, _⟩ := D.get ho
      obtain ⟨bb, r, _, hρ, _⟩ := D.step ho hcomp hst
      rw [hρ, setDst_get, (compOper_parts hcomp).1, if_neg (by intro hh; simp [hh.1] at hq)]
      exact ih

end
end Go.Vs
