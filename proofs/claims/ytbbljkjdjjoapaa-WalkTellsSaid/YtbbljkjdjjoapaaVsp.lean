/-
  Vsp: a region that draws its order, the proof.
-/
import Derived.Test.YtbbljkjdjjoapaaVso
import Derived.Test.YtbbljkjdjjoapaaVsna
namespace Go.Vs
open Go.RowKit

def StepD (O : Oracle) (m0 : Mem) (ws : Watch) (ao : AOper) (s s' : St) : Prop :=
  match ao.flt with
  | true => ∃ q, evOper O ao ⟨s.ρ, m0⟩ = some q ∧ s' = ⟨q.ρ, s.m⟩
  | false =>
    match ao.op.isStore with
    | true => clearG s.ρ ao ws = true ∧ ∃ q, evOper O ao ⟨s.ρ, { s.m with floor := m0.floor }⟩ = some q ∧ s' = ⟨q.ρ, { q.m with floor := s.m.floor }⟩
    | false => evOper O ao s = some s'

theorem clear_store {ρ : List AV} {op : AOp} {ws : Watch} (hs : op.isStore = true) (hc : clear ρ op ws = true) : ∃ n a x, op = .store n a x := by
  cases op <;> first | (cases hs; done) | skip
  · rename_i e
    cases e <;> first | (cases hs; done) | (cases hc)
  · exact ⟨_, _, _, rfl⟩

theorem store_mvB {op : AOp} (hs : op.isStore = true) : mvB op = true := by
  cases op <;> first | (cases hs; done) | skip
  · rename_i e
    cases e <;> first | (cases hs; done) | rfl
  · rfl

def nextW (m0 : Mem) (ao : AOper) (s : St) (ws : Watch) : Watch := if ao.flt then watchG s.ρ m0 ao ws else ws

theorem draw_trace {O : Oracle} {m0 : Mem} : ∀ {al : List AOper} {ws : Watch} {σ σ' : St}, evDraw O m0 ws al σ = some σ' →
    ∃ (S : Nat → St) (W : Nat → Watch), S 0 = σ ∧ W 0 = ws ∧ S al.length = σ' ∧ ∀ (i : Nat) (ao : AOper), al[i]? = some ao → StepD O m0 (W i) ao (S i) (S (i + 1)) ∧ W (i + 1) = nextW m0 ao (S i) (W i)
  | [], ws, σ, σ', h => by
    simp [evDraw] at h
    exact ⟨fun _ => σ, fun _ => ws, rfl, rfl, h, fun i ao hi => by simp at hi⟩
  | o :: r, ws, σ, σ', h => by
    have key : ∃ s1, StepD O m0 ws o σ s1 ∧ evDraw O m0 (nextW m0 o σ ws) r s1 = some σ' := by
      simp only [evDraw] at h
      unfold StepD nextW
      split at h
      · rename_i hf
        split at h
        · rename_i q hq
          exact ⟨_, by rw [hf]; exact ⟨q, hq, rfl⟩, by rw [hf]; exact h⟩
        · cases h
      · rename_i hf
        split at h
        · rename_i hs
          split at h
          · rename_i hcl
            split at h
            · rename_i q hq
              exact ⟨_, by rw [hf, hs]; exact ⟨hcl, q, hq, rfl⟩, by rw [hf]; exact h⟩
            · cases h
          · cases h
        · rename_i hs
          split at h
          · rename_i q hq
            exact ⟨_, by rw [hf, hs]; exact hq, by rw [hf]; exact h⟩
          · cases h
    obtain ⟨s1, h1, h2⟩ := key
    obtain ⟨S, W, k1, k1', k2, k3⟩ := draw_trace h2
    refine ⟨fun i => match i with | 0 => σ | i + 1 => S i, fun i => match i with | 0 => ws | i + 1 => W i, rfl, rfl, k2, fun i ao hi => ?_⟩
    cases i with
    | zero => simp at hi; subst hi; exact ⟨by show StepD O m0 ws o σ (S 0); rw [k1]; exact h1, k1'⟩
    | succ i => exact k3 i ao (by simpa using hi)

theorem compOpers_get {P : Program} {ops : Array Oper} : ∀ {l : List Oper} {al : List AOper} {i : Nat}, compOpers P ops i l = some al →
    al.length = l.length ∧ ∀ (k : Nat) (o : Oper), l[k]? = some o → ∃ ao, al[k]? = some ao ∧ compOper P ops o = some ao
  | [], al, i, h => by simp [compOpers] at h; subst h; exact ⟨rfl, fun k o hk => by simp at hk⟩
  | o :: l, al, i, h => by
    simp only [compOpers] at h
    split at h
    · rename_i a al' h1 h2
      injection h with h; subst h
      obtain ⟨k1, k2⟩ := compOpers_get h2
      refine ⟨by simp [k1], fun k o' hk => ?_⟩
      cases k with
      | zero => simp at hk; subst hk; exact ⟨a, rfl, h1⟩
      | succ k => exact k2 k o' (by simpa using hk)
    · cases h

theorem marked_get (al : List AOper) (n : Nat) (b : List Nat) : ∀ (l : List AOper) (j k : Nat), (marked al n b j l)[k]? = (l[k]?).map (markOne al n b (j + k))
  | [], j, k => by simp [marked]
  | o :: l, j, 0 => by simp [marked]
  | o :: l, j, k + 1 => by
    simp only [marked, List.getElem?_cons_succ, marked_get al n b l (j + 1) k]
    rw [show j + 1 + k = j + (k + 1) by omega]

theorem marked_length (al : List AOper) (n : Nat) (b : List Nat) : ∀ (l : List AOper) (j : Nat), (marked al n b j l).length = l.length
  | [], j => rfl
  | o :: l, j => by simp [marked, marked_length al n b l]

theorem readsOk_get {ops : Array Oper} : ∀ {l : List Oper} {al : List AOper}, readsOk ops l al = true → ∀ (k : Nat) (o : Oper) (ao : AOper), l[k]? = some o → al[k]? = some ao → readsIn (looksAt ops o) ao.op.reads = true
  | [], _, _, k, o, ao, h, _ => by simp at h
  | _ :: _, [], _, k, o, ao, _, h => by simp at h
  | o :: l, a :: al, h, k, o', ao, h1, h2 => by
    simp only [readsOk, Bool.and_eq_true] at h
    cases k with
    | zero => simp at h1 h2; subst h1; subst h2; exact h.1
    | succ k => exact readsOk_get h.2 k o' ao (by simpa using h1) (by simpa using h2)

theorem readsIn_mem {l : List Nat} : ∀ {r : List Opd}, readsIn l r = true → ∀ i, Opd.t i ∈ r → i ∈ l
  | [], _, i, h => by cases h
  | .t j :: r, h, i, hm => by
    simp only [readsIn, Bool.and_eq_true] at h
    rcases List.mem_cons.1 hm with hm | hm
    · injection hm with hm; subst hm; simpa using h.1
    · exact readsIn_mem h.2 i hm
  | .c v :: r, h, i, hm => by
    simp only [readsIn] at h
    rcases List.mem_cons.1 hm with hm | hm
    · cases hm
    · exact readsIn_mem h i hm

theorem compOper_parts {P : Program} {ops : Array Oper} {o : Oper} {ao : AOper} (h : compOper P ops o = some ao) : ao.dst = o.dst ∧ ao.flt = false ∧ compOp P o = some ao.op ∧ compGuard ops o.guard = some ao.guard := by
  unfold compOper at h
  split at h
  · rename_i op gd h1 h2
    injection h with h; subst h
    exact ⟨rfl, rfl, h1, h2⟩
  · cases h

/-- The registers, but for those that an operation looks at unknown. -/
def mask (looks : List Nat) (ρ : List AV) : List AV := ρ.zipIdx.map fun p => if looks.contains p.2 then p.1 else .undef

theorem mask_get (looks : List Nat) (ρ : List AV) (t : Nat) : (mask looks ρ)[t]? = (ρ[t]?).map fun x => if looks.contains t then x else .undef := by
  unfold mask
  rw [List.getElem?_map, List.getElem?_zipIdx]
  cases ρ[t]? <;> simp

theorem mask_length (looks : List Nat) (ρ : List AV) : (mask looks ρ).length = ρ.length := by simp [mask]

theorem mask_getD {looks : List Nat} {ρ : List AV} {t : Nat} (h : t ∈ looks) (d : AV) : (mask looks ρ).getD t d = ρ.getD t d := by
  rw [List.getD_eq_getElem?_getD, List.getD_eq_getElem?_getD, mask_get]
  cases ρ[t]? <;> simp [h]

theorem setDst_get (ρ : List AV) (d : Option Nat) (r : AV) (t : Nat) : (setDst ρ d r)[t]? = if d = some t ∧ t < ρ.length then some r else ρ[t]? := by
  cases d with
  | none => simp [setDst]
  | some d =>
    simp only [setDst, List.getElem?_set, Option.some.injEq]
    by_cases h : d = t
    · subst h
      by_cases h2 : d < ρ.length
      · simp [h2]
      · simp [h2]
    · simp [h]

theorem setDst_length (ρ : List AV) (d : Option Nat) (r : AV) : (setDst ρ d r).length = ρ.length := by cases d <;> simp [setDst]

/-- A load's width. -/
theorem compOp0_load {P : Program} {o : Oper} {g : Bool} {n : Nat} {y : Opd} (h : compOp0 P o = some (.load g n y)) : g = true ∨ n = 1 := by
  unfold compOp0 at h
  split at h
  case h_8 =>
    split at h
    · split at h
      · rename_i hc
        injection h with h
        injection h with h1 h2 h3
        subst h1; subst h2
        simpa using hc
      · cases h
    · cases h
  case h_21 =>
    exfalso
    unfold compCall at h
    repeat' (first | (cases h; done) | (simp at h; done) | (split at h) | (simp only [Option.bind_eq_some_iff, Option.map_eq_some_iff] at h; obtain ⟨_, _, h⟩ := h))
  all_goals
    exfalso
    repeat' (first | (cases h; done) | (simp at h; done) | (split at h) | (simp only [Option.bind_eq_some_iff, Option.map_eq_some_iff] at h; obtain ⟨_, _, h⟩ := h))

/-- What an operation of the walk is. -/
structure IsOp (P : Program) (ops : Array Oper) (o : Oper) (ao : AOper) : Prop where
  dst : ao.dst = o.dst
  guard : compGuard ops o.guard = some ao.guard
  op : ∃ op, compOp P o = some op ∧ (∀ (O : Oracle) (ρ : List AV) (m : Mem), evOp O ρ m ao.op = evOp O ρ m op) ∧ (op = ao.op ∨ ∃ g n y, op = .load g n y ∧ ao.op = .ext (.wload g n y))
  flt : ao.flt = true → ∃ g n y, (ao.op = .load g n y ∨ ao.op = .ext (.wload g n y)) ∧ (g = true ∨ n = 1)

/-- What the evaluator's walk of a region that draws its order rests on. -/
structure Dr (P : Program) (O : Oracle) (ops : Array Oper) (al : List AOper) (m0 : Mem) (S : Nat → St) (W : Nat → Watch) : Prop where
  hO : OracleOk P O
  hA : OracleAbove O
  hd : drawOk ops al (masks ops.toList []) = true
  hop : ∀ (i : Nat) (o : Oper), ops[i]? = some o → ∃ ao, al[i]? = some ao ∧ IsOp P ops o ao ∧ readsIn (looksAt ops o) ao.op.reads = true
  hs : ∀ (i : Nat) (ao : AOper), al[i]? = some ao → StepD O m0 (W i) ao (S i) (S (i + 1)) ∧ W (i + 1) = nextW m0 ao (S i) (W i)
  h0 : (S 0).m = { m0 with floor := m0.stk.length + 1 }
  hf : m0.floor ≤ m0.stk.length

theorem compDraw_ops {P : Program} {ops : Array Oper} {al : List AOper} (h : compDraw P ops = some al) : drawOk ops al (masks ops.toList []) = true ∧ al.length = ops.size ∧
    ∀ (i : Nat) (o : Oper), ops[i]? = some o → ∃ ao, al[i]? = some ao ∧ IsOp P ops o ao ∧ readsIn (looksAt ops o) ao.op.reads = true := by
  unfold compDraw at h
  simp only [Option.bind_eq_some_iff] at h
  obtain ⟨al0, h0, h⟩ := h
  split at h
  · rename_i hc
    simp only [Bool.and_eq_true] at hc
    injection h with h
    subst h
    obtain ⟨k1, k2⟩ := compOpers_get h0
    refine ⟨hc.1, by rw [marked_length, k1]; simp, fun i o ho => ?_⟩
    obtain ⟨a0, h3, h4⟩ := k2 i o (by simpa using ho)
    obtain ⟨p1, p2, p3, p4⟩ := compOper_parts h4
    have hget : (marked al0 ops.size (masks ops.toList []) 0 al0)[i]? = some (markOne al0 ops.size (masks ops.toList []) i a0) := by
      rw [marked_get, h3, Option.map_some, Nat.zero_add]
    refine ⟨_, hget, ?_, readsOk_get hc.2 i o _ (by simpa using ho) hget⟩
    unfold markOne
    split
    · rename_i hf
      unfold fltOf at hf
      simp only [Bool.and_eq_true] at hf
      obtain ⟨hf, _⟩ := hf
      unfold opAt at hf
      rw [h3] at hf
      simp only at hf
      split at hf
      · rename_i g n y hl
        have hw := compOp0_load (compOp_of (by rw [← hl]; exact p3) (fun e he => by cases he))
        refine ⟨p1, p4, ⟨a0.op, p3, fun O ρ m => ?_, ?_⟩, fun _ => ⟨g, n, y, ?_, hw⟩⟩
        · simp only [hl]
          split <;> rfl
        · simp only [hl]
          split
          · exact .inr ⟨g, n, y, rfl, rfl⟩
          · exact .inl rfl
        · simp only [hl]
          split
          · exact .inr rfl
          · exact .inl rfl
      · cases hf
    · exact ⟨p1, p4, ⟨a0.op, p3, fun _ _ _ => rfl, .inl rfl⟩, fun h => by rw [p2] at h; cases h⟩
  · cases h

section
variable {P : Program} {O : Oracle} {ops : Array Oper} {al : List AOper} {m0 : Mem} {S : Nat → St} {W : Nat → Watch}

/-- One step of the walk. -/
theorem Dr.step (D : Dr P O ops al m0 S W) {i : Nat} {ao : AOper} (ha : al[i]? = some ao) :
    ∃ b r, wanted (S i).ρ ao.guard = some b ∧ (S (i + 1)).ρ = setDst (S i).ρ ao.dst r ∧ (b = false → r = .tup [] ∧ (S (i + 1)).m = (S i).m) ∧
      (b = true → (ao.flt = true ∧ (∃ m', evOp O (S i).ρ m0 ao.op = some (r, m')) ∧ (S (i + 1)).m = (S i).m) ∨
        (ao.flt = false ∧ ao.op.isStore = true ∧ clear (S i).ρ ao.op (W i) = true ∧ ∃ m', evOp O (S i).ρ { (S i).m with floor := m0.floor } ao.op = some (r, m') ∧ (S (i + 1)).m = { m' with floor := (S i).m.floor }) ∨
        (ao.flt = false ∧ ao.op.isStore = false ∧ evOp O (S i).ρ (S i).m ao.op = some (r, (S (i + 1)).m))) := by
  have hs := (D.hs i ao ha).1
  unfold StepD at hs
  cases hf : ao.flt with
  | true =>
    rw [hf] at hs
    obtain ⟨q, hq, hS⟩ := hs
    unfold evOper at hq
    split at hq
    · rename_i hw
      simp only [Option.map_eq_some_iff] at hq
      obtain ⟨⟨r, m'⟩, h1, rfl⟩ := hq
      exact ⟨true, r, hw, by rw [hS], fun h => by (cases h), fun _ => .inl ⟨rfl, ⟨m', h1⟩, by rw [hS]⟩⟩
    · rename_i hw
      injection hq with hq; subst hq
      exact ⟨false, .tup [], hw, by rw [hS], fun _ => ⟨rfl, by rw [hS]⟩, fun h => by (cases h)⟩
    · cases hq
  | false =>
    rw [hf] at hs
    simp only at hs
    cases hst : ao.op.isStore with
    | true =>
      rw [hst] at hs
      obtain ⟨hcl, q, hq, hS⟩ := hs
      unfold evOper at hq
      split at hq
      · rename_i hw
        simp only [Option.map_eq_some_iff] at hq
        obtain ⟨⟨r, m'⟩, h1, rfl⟩ := hq
        exact ⟨true, r, hw, by rw [hS], fun h => by (cases h), fun _ => .inr (.inl ⟨rfl, rfl, by unfold clearG at hcl; rw [hw] at hcl; exact hcl, m', h1, by rw [hS]⟩)⟩
      · rename_i hw
        injection hq with hq; subst hq
        exact ⟨false, .tup [], hw, by rw [hS], fun _ => ⟨rfl, by rw [hS]⟩, fun h => by (cases h)⟩
      · cases hq
    | false =>
      rw [hst] at hs
      have hs' : evOper O ao (S i) = some (S (i + 1)) := hs
      clear hs
      have hs := hs'
      unfold evOper at hs
      split at hs
      · rename_i hw
        simp only [Option.map_eq_some_iff] at hs
        obtain ⟨⟨r, m'⟩, h1, h2⟩ := hs
        refine ⟨true, r, hw, by rw [← h2], fun h => by (cases h), fun _ => .inr (.inr ⟨rfl, rfl, ?_⟩)⟩
        rw [h1, ← h2]
      · rename_i hw
        injection hs with hs
        exact ⟨false, .tup [], hw, by rw [← hs], fun _ => ⟨rfl, by rw [← hs]⟩, fun h => by (cases h)⟩
      · cases hs

def isB (al : List AOper) (i : Nat) : Bool := mvB (opAt al i)
def isA (al : List AOper) (i : Nat) : Bool := kindA (opAt al i)
def wr (ops : Array Oper) (t i : Nat) : Bool := match ops[i]? with | some o => o.dst == some t | none => false

theorem opAt_of {i : Nat} {ao : AOper} (h : al[i]? = some ao) : opAt al i = ao.op := by unfold opAt; rw [h]

theorem kind_le (op : AOp) : op.kind ≤ 2 := by
  cases op <;> simp only [AOp.kind] <;> try omega
  rename_i e
  cases e <;> simp [XOp.kind]

theorem kind_rest {op : AOp} (h1 : mvB op = false) (h2 : kindA op = false) : op.kind ≤ 1 := by
  have := kind_le op
  unfold mvB at h1
  rw [h2] at h1
  simp at h1
  omega

theorem Dr.at_ (D : Dr P O ops al m0 S W) {i : Nat} (hi : i < ops.size) : ∃ o ao, ops[i]? = some o ∧ al[i]? = some ao ∧ IsOp P ops o ao ∧ readsIn (looksAt ops o) ao.op.reads = true := by
  have ho : ops[i]? = some ops[i] := Array.getElem?_eq_getElem hi
  obtain ⟨ao, h1, h2, h3⟩ := D.hop i _ ho
  exact ⟨_, ao, ho, h1, h2, h3⟩

theorem Dr.lens (D : Dr P O ops al m0 S W) : ∀ i, i ≤ ops.size → (S i).m.stk.length = m0.stk.length ∧ (S i).m.floor = m0.stk.length + 1
  | 0, _ => by rw [D.h0]; exact ⟨rfl, rfl⟩
  | i + 1, hi => by
    obtain ⟨k1, k2⟩ := D.lens i (by omega)
    obtain ⟨o, ao, _, ha, _⟩ := D.at_ (i := i) (by omega)
    obtain ⟨b, r, _, _, hfalse, htrue⟩ := D.step ha
    cases b with
    | false => rw [(hfalse rfl).2]; exact ⟨k1, k2⟩
    | true =>
      rcases htrue rfl with ⟨_, _, h⟩ | ⟨_, _, _, m', h1, h2⟩ | ⟨_, hns, h1⟩
      · rw [h]; exact ⟨k1, k2⟩
      · have := evOp_above D.hA (by simp only; rw [k1]; have := D.hf; omega) (fun _ => by simp only; rw [k1]; exact D.hf) h1
        rw [h2]
        exact ⟨by simp only; rw [this.len]; exact k1, k2⟩
      · have := evOp_above D.hA (by rw [k1, k2]; omega) (fun h => by rw [hns] at h; cases h) h1
        exact ⟨this.len.trans k1, this.floor.trans k2⟩

/-- Stamps grow. -/
theorem Dr.nx_succ (D : Dr P O ops al m0 S W) {i : Nat} (hi : i < ops.size) : (S i).m.nx ≤ (S (i + 1)).m.nx := by
  obtain ⟨k1, k2⟩ := D.lens i (by omega)
  obtain ⟨o, ao, _, ha, _⟩ := D.at_ hi
  obtain ⟨b, r, _, _, hfalse, htrue⟩ := D.step ha
  cases b with
  | false => rw [(hfalse rfl).2]; exact Nat.le_refl _
  | true =>
    rcases htrue rfl with ⟨_, _, h⟩ | ⟨_, _, _, m', h1, h2⟩ | ⟨_, hns, h1⟩
    · rw [h]; exact Nat.le_refl _
    · have := evOp_above D.hA (by simp only; rw [k1]; have := D.hf; omega) (fun _ => by simp only; rw [k1]; exact D.hf) h1
      rw [h2]
      exact this.nx
    · exact (evOp_above D.hA (by rw [k1, k2]; omega) (fun h => by rw [hns] at h; cases h) h1).nx

theorem Dr.nx_mono (D : Dr P O ops al m0 S W) (a : Nat) : ∀ b, a ≤ b → b ≤ ops.size → (S a).m.nx ≤ (S b).m.nx
  | 0, h, _ => by have : a = 0 := by omega
                  rw [this]; exact Nat.le_refl _
  | b + 1, h, hb => by
    by_cases hab : a = b + 1
    · rw [hab]; exact Nat.le_refl _
    · exact Nat.le_trans (D.nx_mono a b (by omega) (by omega)) (D.nx_succ (by omega))

/-- A step that is no mover leaves memory; one that makes a block adds it. -/
theorem Dr.quiet (D : Dr P O ops al m0 S W) {i : Nat} (hi : i < ops.size) (hB : isB al i = false) : (S (i + 1)).m = (S i).m ∨
    (isA al i = true ∧ ∃ cs, (S (i + 1)).m = { (S i).m with cur := (S i).m.cur ++ [⟨(S i).m.nx, cs⟩], nx := (S i).m.nx + 1 }) := by
  obtain ⟨o, ao, _, ha, _⟩ := D.at_ hi
  obtain ⟨b, r, _, _, hfalse, htrue⟩ := D.step ha
  unfold isB at hB
  rw [opAt_of ha] at hB
  cases b with
  | false => exact .inl (hfalse rfl).2
  | true =>
    cases hA : kindA ao.op with
    | true =>
      rcases htrue rfl with ⟨_, _, h⟩ | ⟨_, hs, _⟩ | ⟨_, _, h1⟩
      · exact .inl h
      · cases hop : ao.op <;> rw [hop] at hs hA <;> first | (cases hs; done) | (cases hA; done)
      · refine .inr ⟨by unfold isA; rw [opAt_of ha]; exact hA, ?_⟩
        exact kindA_mem hA h1
    | false =>
      left
      have hk := kind_rest hB hA
      rcases htrue rfl with ⟨_, _, h⟩ | ⟨_, hs, _⟩ | ⟨_, _, h1⟩
      · exact h
      · cases hop : ao.op <;> rw [hop] at hs hk <;> first | (cases hs; done) | (simp [AOp.kind] at hk; done) | skip
        rename_i e
        cases e <;> first | (cases hs; done) | (simp [AOp.kind, XOp.kind] at hk)
      · exact (evOp_load hk h1).1

/-- Blocks were added, nothing else. -/
structure Grew (m m' : Mem) : Prop where
  stk : m'.stk = m.stk
  cur : ∃ l, m'.cur = m.cur ++ l

theorem Grew.blk {m m' : Mem} (h : Grew m m') {l k st : Nat} {cs : List AV} (hb : m.blk l k st = some cs) : m'.blk l k st = some cs := by
  refine blk_of_row hb fun x hx => ?_
  obtain ⟨add, hc⟩ := h.cur
  unfold Mem.row at hx ⊢
  rw [h.stk]
  split at hx
  · rename_i hl
    rw [if_pos hl, hc, List.getElem?_append_left (List.getElem?_eq_some_iff.1 hx).1]
    exact hx
  · rename_i hl
    rw [if_neg hl]; exact hx

theorem Dr.grew (D : Dr P O ops al m0 S W) (a : Nat) : ∀ b, a ≤ b → b ≤ ops.size → (∀ i, a ≤ i → i < b → isB al i = false) → Grew (S a).m (S b).m
  | 0, h, _, _ => by have : a = 0 := by omega
                     rw [this]; exact ⟨rfl, [], by simp⟩
  | b + 1, h, hb, hE => by
    by_cases hab : a = b + 1
    · rw [hab]; exact ⟨rfl, [], by simp⟩
    · obtain ⟨k1, l, k2⟩ := D.grew a b (by omega) (by omega) (fun i h1 h2 => hE i h1 (by omega))
      rcases D.quiet (by omega) (hE b (by omega) (by omega)) with h | ⟨_, cs, h⟩
      · rw [h]; exact ⟨k1, l, k2⟩
      · rw [h]; exact ⟨k1, l ++ [⟨(S b).m.nx, cs⟩], by simp only; rw [k2, List.append_assoc]⟩

theorem Dr.reg_len (D : Dr P O ops al m0 S W) : ∀ i, i ≤ ops.size → (S i).ρ.length = (S 0).ρ.length
  | 0, _ => rfl
  | i + 1, hi => by
    obtain ⟨o, ao, _, ha, _⟩ := D.at_ (i := i) (by omega)
    obtain ⟨b, r, _, hρ, _⟩ := D.step ha
    rw [hρ, setDst_length]
    exact D.reg_len i (by omega)

/-- Where nobody writes t, t stays. -/
theorem Dr.reg_const (D : Dr P O ops al m0 S W) (t a : Nat) : ∀ b, a ≤ b → b ≤ ops.size → (∀ i, a ≤ i → i < b → wr ops t i = false) → (S b).ρ[t]? = (S a).ρ[t]?
  | 0, h, _, _ => by have : a = 0 := by omega
                     rw [this]
  | b + 1, h, hb, hE => by
    by_cases hab : a = b + 1
    · rw [hab]
    · have ih := D.reg_const t a b (by omega) (by omega) (fun i h1 h2 => hE i h1 (by omega))
      obtain ⟨o, ao, ho, ha, hop, _⟩ := D.at_ (i := b) (by omega)
      have hq := hE b (by omega) (by omega)
      simp only [wr, ho] at hq
      obtain ⟨bb, r, _, hρ, _⟩ := D.step ha
      rw [hρ, setDst_get, hop.dst, if_neg (by intro hh; simp [hh.1] at hq)]
      exact ih

end
end Go.Vs
