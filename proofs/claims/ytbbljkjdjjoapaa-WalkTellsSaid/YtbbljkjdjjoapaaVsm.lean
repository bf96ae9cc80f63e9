/-
  Vsm: calls, lists of operations; what stays of the frames below the floor.
-/
import Derived.Test.YtbbljkjdjjoapaaVsl
import Derived.Tactics
namespace Go.Vs
open Go.RowKit

/-- Below the floor the blocks are as they were. -/
structure Above (m m' : Mem) : Prop where
  len : m'.stk.length = m.stk.length
  floor : m'.floor = m.floor
  blk : ∀ l k st cs, l < m.floor → m.blk l k st = some cs → m'.blk l k st = some cs
  nx : m.nx ≤ m'.nx

theorem Above.refl (m : Mem) : Above m m := ⟨rfl, rfl, fun _ _ _ _ _ h => h, Nat.le_refl _⟩
theorem Above.trans {a b c : Mem} (h : Above a b) (k : Above b c) : Above a c :=
  ⟨k.len.trans h.len, k.floor.trans h.floor, fun l i st cs hl hb => k.blk l i st cs (by rw [h.floor]; exact hl) (h.blk l i st cs hl hb), Nat.le_trans h.nx k.nx⟩

theorem blk_of_row {m m' : Mem} {l k st : Nat} {cs : List AV} (h : m.blk l k st = some cs) (hr : ∀ x, (m.row l)[k]? = some x → (m'.row l)[k]? = some x) : m'.blk l k st = some cs := by
  have h1 := hr _ (blk_row h)
  unfold Mem.blk
  rw [h1]
  simp

theorem above_cur (m : Mem) (x : List Blk) (nx : Nat) (live : List (List Nat)) (hn : m.nx ≤ nx := by simp) : Above m { m with cur := m.cur ++ x, nx := nx, live := live } := by
  refine ⟨rfl, rfl, fun l k st cs _ h => blk_of_row h fun y hy => ?_, hn⟩
  unfold Mem.row at hy ⊢
  split at hy
  · rename_i hl
    rw [if_pos hl]
    have hk : k < m.cur.length := (List.getElem?_eq_some_iff.1 hy).1
    simp only
    rw [List.getElem?_append_left hk]; exact hy
  · rename_i hl
    rw [if_neg hl]; exact hy

theorem above_nx (m : Mem) (nx : Nat) (live : List (List Nat)) (hn : m.nx ≤ nx := by simp) : Above m { m with nx := nx, live := live } := ⟨rfl, rfl, fun _ _ _ _ _ h => h, hn⟩

theorem above_put (m : Mem) (l k st : Nat) (cs : List AV) (h : m.floor ≤ l) : Above m (m.put l k st cs) := by
  unfold Mem.put
  split
  · rename_i hl
    have hl' : l = m.stk.length := eq_of_beq hl
    refine ⟨rfl, rfl, fun l2 k2 st2 cs2 h2 hb => blk_of_row hb fun y hy => ?_, Nat.le_refl _⟩
    unfold Mem.row at hy ⊢
    simp only at hy ⊢
    rw [if_neg (by simp; omega)] at hy ⊢
    exact hy
  · refine ⟨by simp, rfl, fun l2 k2 st2 cs2 h2 hb => blk_of_row hb fun y hy => ?_, Nat.le_refl _⟩
    unfold Mem.row at hy ⊢
    simp only [List.length_modify] at hy ⊢
    split at hy
    · rename_i hq; rw [if_pos hq]; exact hy
    · rename_i hq
      rw [if_neg hq]
      rw [List.getD_eq_getElem?_getD] at hy ⊢
      rw [List.getElem?_modify]
      have : ¬ l = l2 := by omega
      simp only [this, if_false]
      simpa using hy

/-- What an oracle must satisfy. -/
def OracleAbove (O : Oracle) : Prop := ∀ f args m r m', O f args m = some (r, m') → m.floor ≤ m.stk.length + 1 → Above m m'

theorem above_putS (m : Mem) (l k st : Nat) (cs : List AV) (ts : List Nat) (h : m.floor ≤ l) : Above m (m.putS l k st cs ts) := by
  have := above_put m l k st cs h
  rw [putS_eq]
  exact ⟨this.len, this.floor, this.blk, this.nx⟩

theorem evOp_above {O : Oracle} (hO : OracleAbove O) {ρ : List AV} {m m' : Mem} {op : AOp} {r : AV} (hf : m.floor ≤ m.stk.length + 1) (hs : op.isStore = true → m.floor ≤ m.stk.length) (h : evOp O ρ m op = some (r, m')) : Above m m' := by
  have same : ∀ {α : Type} {x : Option α} {f : α → AV}, (x.map fun v => (f v, m)) = some (r, m') → Above m m' := by
    intro α x f h
    cases x with
    | none => simp at h
    | some z => simp at h; rw [← h.2]; exact Above.refl m
  cases op <;> simp only [evOp] at h
  case ext e =>
    cases e <;> simp only [evX] at h
    case bad => cases h
    case eqA =>
      split at h
      · split at h
        · exact same h
        · cases h
      · cases h
    case isNil => exact same h
    case nilChk => exact same h
    case mkmap => injection h with h; injection h with _ h; rw [← h]; exact above_cur m _ _ _
    case mget =>
      split at h
      · split at h
        · exact same h
        · cases h
      · cases h
    case copy =>
      unfold evCopy at h
      split at h
      · cases h
      · split at h
        · split at h
          · rename_i hc
            simp only [Bool.and_eq_true, Bool.or_eq_true, decide_eq_true_eq, beq_iff_eq] at hc
            split at h
            · injection h with h; injection h with _ h; rw [← h]; exact Above.refl m
            · injection h with h; injection h with _ h; rw [← h]
              have hs := hs rfl
              exact above_put m _ _ _ _ (by rcases hc.2 with h | h <;> omega)
          · cases h
        · cases h
      · cases h
    case mput =>
      unfold evMput at h
      split at h
      · split at h
        · split at h
          · rename_i hc
            simp only [Bool.and_eq_true, Bool.or_eq_true, decide_eq_true_eq, beq_iff_eq] at hc
            simp only [Option.map_eq_some_iff, Prod.mk.injEq] at h
            obtain ⟨ps', _, _, h⟩ := h
            rw [← h]
            have hs := hs rfl
            exact above_put m _ _ _ _ (by rcases hc.2 with h | h <;> omega)
          · cases h
        · cases h
      · cases h
    case wload =>
      simp only [Option.bind_eq_some_iff] at h
      obtain ⟨cs, _, h⟩ := h
      exact same h
  case mov => injection h with h; injection h with _ h; rw [← h]; exact Above.refl m
  case pick => split at h <;> first | (cases h; done) | (injection h with h; injection h with _ h; rw [← h]; exact Above.refl m)
  case alloc z => injection h with h; injection h with _ h; rw [← h]; exact above_cur m _ _ _
  case box n x => split at h <;> first | (cases h; done) | (injection h with h; injection h with _ h; rw [← h]; exact above_cur m _ _ _)
  case build z ps => exact same h
  case lit s ps => split at h <;> first | (cases h; done) | (injection h with h; injection h with _ h; rw [← h]; exact Above.refl m)
  case load g n a =>
    simp only [Option.bind_eq_some_iff] at h
    obtain ⟨cs, _, h⟩ := h
    exact same h
  case store n a x =>
    unfold evStore at h
    split at h
    · split at h
      · split at h
        · rename_i hc
          simp only [Bool.and_eq_true, Bool.or_eq_true, decide_eq_true_eq, beq_iff_eq] at hc
          injection h with h; injection h with _ h
          rw [← h]
          have hs := hs rfl
          exact above_putS m _ _ _ _ _ (by rcases hc.2 with h | h <;> omega)
        · cases h
      · cases h
    · cases h
  case bin => exact same h
  case beq => split at h <;> first | (cases h; done) | (injection h with h; injection h with _ h; rw [← h]; exact Above.refl m)
  case un => exact same h
  case conv => split at h <;> first | (cases h; done) | (injection h with h; injection h with _ h; rw [← h]; exact Above.refl m)
  case convS => split at h <;> first | (cases h; done) | (injection h with h; injection h with _ h; rw [← h]; exact Above.refl m)
  case toStr => exact same h
  case toBytes x =>
    split at h
    · split at h
      · injection h with h; injection h with _ h; rw [← h]; exact above_nx m _ _
      · cases h
    · cases h
  case mkfn => injection h with h; injection h with _ h; rw [← h]; exact Above.refl m
  case faddr => exact same h
  case field => split at h <;> first | (cases h; done) | exact same h
  case iaddr => exact same h
  case iaddrA => exact same h
  case indexS =>
    split at h
    · simp only [Option.bind_eq_some_iff] at h
      obtain ⟨j, _, h⟩ := h
      exact same h
    · cases h
  case indexA =>
    split at h
    · simp only [Option.bind_eq_some_iff] at h
      obtain ⟨j, _, h⟩ := h
      exact same h
    · cases h
  case len => exact same h
  case lenS => split at h <;> first | (cases h; done) | (injection h with h; injection h with _ h; rw [← h]; exact Above.refl m)
  case app s b x y =>
    unfold evApp at h
    split at h
    · cases h
    · split at h
      · injection h with h; injection h with _ h; rw [← h]; exact Above.refl m
      · split at h
        · injection h with h; injection h with _ h; rw [← h]; exact Above.refl m
        · cases h
      · cases h
    · split at h
      · split at h
        · injection h with h; injection h with _ h; rw [← h]; exact above_nx m _ _
        · cases h
      · split at h
        · split at h
          · cases h
          · injection h with h; injection h with _ h; rw [← h]; exact above_nx m _ _
          · split at h
            · injection h with h; injection h with _ h; rw [← h]; exact above_nx m _ _
            · cases h
        · cases h
      · cases h
  case mx => exact same h
  case mn => exact same h
  case slice => exact same h
  case sliceA => exact same h
  case sliceS => exact same h
  case make s b z n c =>
    unfold evMake at h
    split at h
    · split at h
      · injection h with h; injection h with _ h; rw [← h]; exact above_cur m _ _ _
      · cases h
    · cases h
  case extract => split at h <;> first | (cases h; done) | exact same h
  case call f args =>
    unfold evCall at h
    split at h
    · exact hO _ _ _ _ _ h hf
    · cases h

def CallOk (P : Program) (f : Nat) (args : List AV) (m : Mem) (r : AV) (m' : Mem) : Prop :=
  (∃ fn, P.funcs[f]? = some fn ∧ (fn.name == "runtime.NumGoroutine") = false ∧ fn.body.isNone = false) ∧
  ∀ g w vs, Inv g w m → Reps g w args vs → Calls P f vs.toArray w fun e w' => ∃ v g', e = .returned v ∧ Ext g w g' w' ∧ Inv g' w' m' ∧ Rep g' w' r v

def OracleOk (P : Program) (O : Oracle) : Prop := ∀ f args m r m', O f args m = some (r, m') → m.floor ≤ m.stk.length + 1 → CallOk P f args m r m'

section
variable {P : Program} {g : G} {w : World} {a : Act} {o : Oper} {ops : Array Oper} {Q : Exit → Act → World → Prop} {K : Act → World → Prop}

theorem Reps.set {ρ : List AV} {vs : List Value} (h : Reps g w ρ vs) {r : AV} {v : Value} (k : Rep g w r v) (d : Nat) : Reps g w (ρ.set d r) (vs.set d v) := by
  refine ⟨by simp [h.1], fun j c u h1 h2 => ?_⟩
  rw [List.getElem?_set] at h1 h2
  split at h1
  · rename_i hd
    rw [if_pos hd] at h2
    split at h1
    · split at h2
      · injection h1 with h1; injection h2 with h2; subst h1; subst h2; exact k
      · cases h2
    · cases h1
  · rename_i hd
    rw [if_neg hd] at h2
    exact h.2 j c u h1 h2

theorem put_reps {ρ : List AV} (h : Reps g w ρ a.tmps.toList) {r : AV} {v : Value} (k : Rep g w r v) (d : Option Nat) : Reps g w (setDst ρ d r) (a.put d v).tmps.toList := by
  cases d with
  | none => exact h
  | some d =>
    simp only [setDst, Act.put, Array.toList_setIfInBounds]
    exact h.set k d

theorem put_defers (d : Option Nat) (v : Value) : (a.put d v).defers = a.defers := by cases d <;> rfl

theorem callee_of {x : Operand} {y : Opd} {ρ : List AV} (hR : Reps g w ρ a.tmps.toList) (hx : compOpd x = some y) {f : Nat} {first caps : List AV} (h : y.ev ρ = .fn (.func f) first caps) :
    ∃ f1 c1 : List Value, a.eval x = .func (.func f) f1.toArray c1.toArray ∧ Reps g w first f1 ∧ Reps g w caps c1 := by
  have h1 := opd_sound hR hx
  rw [h] at h1
  generalize a.eval x = v at h1
  cases h1 with
  | fn _ _ _ first' caps' a1 a2 a3 a4 =>
    exact ⟨first'.toList, caps'.toList, by simp, ⟨by simpa using a1, fun j c v h1 h2 => a3 j c v h1 (by simpa using h2)⟩, ⟨by simpa using a2, fun j c v h1 h2 => a4 j c v h1 (by simpa using h2)⟩⟩

theorem wanted_sound {ao : AOper} (hc : compOper P ops o = some ao) {ρ : List AV} (hR : Reps g w ρ a.tmps.toList) {b : Bool} (h : wanted ρ ao.guard = some b) : Region.wanted o (yielded ops a.tmps) = b := by
  unfold compOper at hc
  split at hc
  · rename_i op gd _ hg
    injection hc with hc
    subst hc
    simp only at h
    unfold compGuard at hg
    split at hg
    · rename_i hgd
      injection hg with hg; subst hg
      simp only [wanted, Option.some.injEq] at h
      subst h
      simp [Region.wanted, hgd]
    · rename_i j want hgd
      split at hg
      · rename_i d hd
        injection hg with hg; subst hg
        simp only [wanted] at h
        have hy : yielded ops a.tmps j = match a.tmps[d]? with | some (.bool b) => some b | _ => none := by
          unfold yielded
          rw [hd]
          rfl
        simp only [Region.wanted, hgd, hy]
        rw [List.getD_eq_getElem?_getD] at h
        cases hρ : ρ[d]? with
        | none => rw [hρ] at h; simp at h
        | some x =>
          obtain ⟨v, h1, h2⟩ := hR.get hρ
          have h1' : a.tmps[d]? = some v := by simpa using h1
          rw [hρ] at h
          simp only [Option.getD_some] at h
          split at h
          · injection h with h
            rw [h1', h2.inv_bool]
            simpa using h
          · injection h with h
            subst h
            rw [h1']
            obtain ⟨us, rfl, _⟩ := Reps.of_tup h2
            rfl
          · cases h
      · cases hg
  · cases hc

end
end Go.Vs
