/-
  Vsna: a block that was set aside is made.
-/
import Derived.Test.YtbbljkjdjjoapaaVsn
namespace Go.Vs
open Go.RowKit

section
variable {P : Program} {g : G} {w : World} {a : Act} {o : Oper} {ops : Array Oper}

/-- What an operation that makes a block does to the memory: whatever is looked at. -/
theorem kindA_mem {O : Oracle} {op : AOp} (hA : kindA op = true) {ρ : List AV} {m m' : Mem} {r : AV} (he : evOp O ρ m op = some (r, m')) : ∃ cs, m' = { m with cur := m.cur ++ [⟨m.nx, cs⟩], nx := m.nx + 1 } := by
  cases op <;> simp only [kindA, Bool.false_eq_true] at hA
  case alloc z => simp only [evOp, Mem.new, Option.some.injEq, Prod.mk.injEq] at he; exact ⟨_, he.2.symm⟩
  case box n x =>
    simp only [evOp] at he
    split at he
    · simp only [Mem.new, Option.some.injEq, Prod.mk.injEq] at he; exact ⟨_, he.2.symm⟩
    · cases he
  case make s b z n c =>
    simp only [evOp, evMake] at he
    split at he
    · split at he
      · simp only [Option.some.injEq, Prod.mk.injEq] at he; exact ⟨_, he.2.symm⟩
      · cases he
    · cases he

theorem compOp_of {op : AOp} (h : compOp P o = some op) (hne : ∀ e, op ≠ .ext e) : compOp0 P o = some op := by
  unfold compOp at h
  split at h
  · injection h with h; exact absurd h.symm (hne _)
  · split at h
    · rename_i h0; injection h with h; rw [h0, h]
    · split at h
      · cases h
      · injection h with h; exact absurd h.symm (hne _)

/-- Which operation it is. -/
theorem compOp0_alloc {z : List AV} (h : compOp0 P o = some (.alloc z)) : ∃ e v, o.op = .alloc e ∧ zeroT P e = some v ∧ 0 < v.cells.length ∧ z = v.cells := by
  unfold compOp0 at h
  split at h
  case h_4 =>
    rename_i e hop
    simp only [Option.bind_eq_some_iff] at h
    obtain ⟨v, hv, h⟩ := h
    split at h
    · rename_i hp
      injection h with h
      injection h with h
      exact ⟨e, v, hop, hv, hp, h.symm⟩
    · cases h
  case h_21 =>
    exfalso
    unfold compCall at h
    repeat' (first | (cases h; done) | (simp at h; done) | (split at h) | (simp only [Option.bind_eq_some_iff, Option.map_eq_some_iff] at h; obtain ⟨_, _, h⟩ := h))
  all_goals
    exfalso
    repeat' (first | (cases h; done) | (simp at h; done) | (split at h) | (simp only [Option.bind_eq_some_iff, Option.map_eq_some_iff] at h; obtain ⟨_, _, h⟩ := h))

theorem compOp0_box {n : Nat} {y : Opd} (h : compOp0 P o = some (.box n y)) : ∃ e x, o.op = .box e x ∧ compOpd x = some y ∧ 0 < n := by
  unfold compOp0 at h
  split at h
  case h_5 =>
    rename_i e x hop
    split at h
    · rename_i n' a' hn hx
      split at h
      · rename_i hp
        injection h with h
        injection h with h1 h2
        subst h1; subst h2
        exact ⟨e, x, hop, hx, hp⟩
      · cases h
    · cases h
  case h_21 =>
    exfalso
    unfold compCall at h
    repeat' (first | (cases h; done) | (simp at h; done) | (split at h) | (simp only [Option.bind_eq_some_iff, Option.map_eq_some_iff] at h; obtain ⟨_, _, h⟩ := h))
  all_goals
    exfalso
    repeat' (first | (cases h; done) | (simp at h; done) | (split at h) | (simp only [Option.bind_eq_some_iff, Option.map_eq_some_iff] at h; obtain ⟨_, _, h⟩ := h))

theorem compOp0_make {s b : Nat} {z : List AV} {n c : Opd} (h : compOp0 P o = some (.make s b z n c)) :
    ∃ t e x y ti v, o.op = .makeSlice t x y ∧ compOpd x = some n ∧ compOpd y = some c ∧ P.underlying t = some (.slice e) ∧ P.info? e = some ti ∧ zeroT P e = some v ∧ 0 < ti.size ∧ (ti.zero.map fun z => z.cells.size) = some ti.size ∧ s = ti.size ∧ b = ti.bytes ∧ z = v.cells := by
  unfold compOp0 at h
  split at h
  case h_19 =>
    rename_i t x y hop
    split at h
    · rename_i e ht
      split at h
      · rename_i ti v n' c' hi hz hn hc
        split at h
        · rename_i hp
          injection h with h
          injection h with h1 h2 h3 h4 h5
          subst h1; subst h2; subst h3; subst h4; subst h5
          exact ⟨t, e, x, y, ti, v, hop, hn, hc, ht, hi, hz, hp.1, hp.2, rfl, rfl, rfl⟩
        · cases h
      · cases h
    · cases h
  case h_21 =>
    exfalso
    unfold compCall at h
    repeat' (first | (cases h; done) | (simp at h; done) | (split at h) | (simp only [Option.bind_eq_some_iff, Option.map_eq_some_iff] at h; obtain ⟨_, _, h⟩ := h))
  all_goals
    exfalso
    repeat' (first | (cases h; done) | (simp at h; done) | (split at h) | (simp only [Option.bind_eq_some_iff, Option.map_eq_some_iff] at h; obtain ⟨_, _, h⟩ := h))

theorem compOp0_store {n : Nat} {y u : Opd} (h : compOp0 P o = some (.store n y u)) : ∃ t x z, o.op = .store t x z ∧ compOpd x = some y ∧ compOpd z = some u := by
  unfold compOp0 at h
  split at h
  case h_9 =>
    rename_i t x z hop
    split at h
    · rename_i n' x' z' hn hx hz
      split at h
      · injection h with h
        injection h with h1 h2 h3
        subst h1; subst h2; subst h3
        exact ⟨t, x, z, hop, hx, hz⟩
      · cases h
    · cases h
  case h_21 =>
    exfalso
    unfold compCall at h
    repeat' (first | (cases h; done) | (simp at h; done) | (split at h) | (simp only [Option.bind_eq_some_iff, Option.map_eq_some_iff] at h; obtain ⟨_, _, h⟩ := h))
  all_goals
    exfalso
    repeat' (first | (cases h; done) | (simp at h; done) | (split at h) | (simp only [Option.bind_eq_some_iff, Option.map_eq_some_iff] at h; obtain ⟨_, _, h⟩ := h))

theorem late_sound {O : Oracle} {op : AOp} (hc : compOp P o = some op) (hA : kindA op = true) {ρ : List AV} {m m' M : Mem} {r : AV} {cs : List AV} (he : evOp O ρ m op = some (r, m')) (hm : m' = { m with cur := m.cur ++ [⟨m.nx, cs⟩], nx := m.nx + 1 })
    (hR : Reps g w ρ a.tmps.toList) (I : Inv g w M) (hin : ∀ bl ∈ M.all, bl.st = m.nx → bl.cs = cs) (hrs : g.rs m.nx = true) :
    ∃ g' w' v, (execOp a.eval o).run P w = .ok (.value v) w' ∧ ExtW g w g' w' ∧ Inv g' w' M ∧ Rep g' w' r v ∧ g'.rs = fun s => g.rs s && s != m.nx := by
  have csEq : ∀ {cs' : List AV}, m' = { m with cur := m.cur ++ [⟨m.nx, cs'⟩], nx := m.nx + 1 } → cs' = cs := by
    intro cs' h
    rw [hm] at h
    have := congrArg Mem.cur h
    simp only [List.append_cancel_left_eq, List.cons.injEq, Blk.mk.injEq, true_and, and_true] at this
    exact this.symm
  cases op <;> simp only [kindA, Bool.false_eq_true] at hA
  case alloc z =>
    obtain ⟨e, v, hop, hz, hz0, rfl⟩ := compOp0_alloc (compOp_of hc (by simp))
    simp only [evOp, Mem.new, Option.some.injEq, Prod.mk.injEq] at he
    obtain ⟨rfl, he2⟩ := he
    have := csEq he2.symm
    subst this
    obtain ⟨u, h1, h2⟩ := zero_of hz w
    have h3 := (avOf_sound (g := g) (w := w) h2).cells hz0
    obtain ⟨g', k1, k2, k3, k4⟩ := I.alloc_late v.cells u.cells.toList e hin hrs h3
    refine ⟨g', _, .pointer (some ⟨w.heap.size, 0, none⟩), ?_, k1, k2, ?_, k4⟩
    · simp [execOp, hop, Instr.alloc, h1, newVar, newRow]
    · have := Rep.ptr (g := g') (w := w.alloc (.cells u.cells.toList.toArray e)) m.stk.length m.cur.length m.nx 0 w.heap.size 0 _ k3
      simpa using this
  case box n x =>
    obtain ⟨e, x', hop, hx, h0⟩ := compOp0_box (compOp_of hc (by simp))
    simp only [evOp] at he
    split at he
    · rename_i hl
      simp only [Mem.new, Option.some.injEq, Prod.mk.injEq] at he
      obtain ⟨rfl, he2⟩ := he
      have := csEq he2.symm
      subst this
      have hl' : (x.ev ρ).cells.length = n := eq_of_beq hl
      have h3 := (opd_sound hR hx).cells (by omega)
      obtain ⟨g', k1, k2, k3, k4⟩ := I.alloc_late (x.ev ρ).cells (a.eval x').cells.toList e hin hrs h3
      refine ⟨g', _, .pointer (some ⟨w.heap.size, 0, none⟩), ?_, k1, k2, ?_, k4⟩
      · simp [execOp, hop, Instr.box, newVar, newRow]
      · have := Rep.ptr (g := g') (w := w.alloc (.cells (a.eval x').cells.toList.toArray e)) m.stk.length m.cur.length m.nx 0 w.heap.size 0 _ k3
        simpa using this
    · cases he
  case make s b z n' c' =>
    obtain ⟨t, e, x, y, ti, v, hop, hx, hy, ht, hi, hz, h0, hzs, rfl, rfl, rfl⟩ := compOp0_make (compOp_of hc (by simp))
    have h1 := opd_sound hR hx
    have h2 := opd_sound hR hy
    simp only [evOp, evMake] at he
    split at he
    · rename_i k n k' n2 e1 e2
      split at he
      · rename_i hcc
        obtain ⟨rfl, c1, c2, c3, c4⟩ := hcc
        injection he with he
        injection he with he1 he2
        have := csEq he2.symm
        subst this
        subst he1
        rw [e1] at h1; rw [e2] at h2
        have hv1 := h1.inv_int
        have hv2 := h2.inv_int
        obtain ⟨zv, hzv, hav⟩ := zero_of hz w
        have hzi : ti.zero = some zv := by
          simp only [zeroT, hi, Option.bind_some, Option.bind_eq_some_iff] at hz
          obtain ⟨v, h3, h4⟩ := hz
          have : (zeroValue e).run P w = .ok v w := by simp [zeroValue, typeInfo, hi, h3]
          rw [this] at hzv
          injection hzv with hzv
          rw [← hzv]; exact h3
        have hsz : zv.cells.size = ti.size := by rw [hzi] at hzs; simpa using hzs
        have hzr := (avOf_sound (g := g) (w := w) hav).cells (by omega)
        have hrun := run_make (P := P) w t e ti zv ht hi hzi k k' n n c1 (Int.le_refl _) c2 c3
        have hcells : madeCells zv.cells (n.toNat * ti.size) = ((List.replicate n.toNat zv.cells.toList).flatten).toArray := by
          unfold madeCells
          exact rangeZ h0 zv.cells hsz n.toNat
        rw [hcells] at hrun
        obtain ⟨g', k1, k2, k3, k4⟩ := I.alloc_late (flatRep v.cells n.toNat) _ e hin hrs (flatRep_sound hzr n.toNat)
        refine ⟨g', _, .slice (some ⟨w.heap.size, 0, none⟩) n.toNat n.toNat, ?_, k1, k2, ?_, k4⟩
        · simp only [execOp, hop, hv1, hv2, Sem.run_bind, hrun, Result.andThen_ok]
          rfl
        · exact .arr _ _ _ 0 _ _ 0 _ _ k3 (Nat.le_refl _)
      · cases he
    · cases he

end
end Go.Vs
