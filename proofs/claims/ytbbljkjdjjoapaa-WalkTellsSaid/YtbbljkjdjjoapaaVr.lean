/-
  Vr: from a row's reading of typed cells to data.
-/
import Derived.Test.YtbbljkjdjjoapaaDt
namespace Go.Vs

section
variable {P : Program} {n t : Nat} {xs : List AV}

/-- Type and place of a struct's field. -/
def fieldI (P : Program) (t i : Nat) : Option (Nat × Nat) :=
  match P.underlying t with
  | some (.struct fs) => (fs[i]?).map fun f => (f.type, f.offset)
  | _ => none

theorem typed_field {i ft off c : Nat} (h : Typed P (n + 1) t xs) (e : fieldI P t i = some (ft, off)) (hc : P.cellsOf ft = c) : Typed P n ft ((xs.drop off).take c) := by
  unfold fieldI at e
  split at e
  · rename_i fs hu
    simp only [Typed, hu] at h
    simp only [Option.map_eq_some_iff, Prod.mk.injEq] at e
    obtain ⟨f, hf, rfl, rfl⟩ := e
    have := h.2 f (by simpa using Array.mem_of_getElem? hf)
    rw [hc] at this
    exact this
  · cases e

theorem typed_len {c : Nat} (h : Typed P (n + 1) t xs) (e : (fieldI P t 0).isSome = true) (hc : P.cellsOf t = c) : xs.length = c := by
  unfold fieldI at e
  split at e
  · rename_i fs hu
    simp only [Typed, hu] at h
    rw [← hc]; exact h.1
  · cases e

theorem typed_int {k : IntKind} (h : Typed P (n + 1) t xs) (hu : P.underlying t = some (.int k)) : ∃ i, xs = [.int k i] ∧ (Lit.int k i).wf = true := by
  simp only [Typed, hu] at h
  exact h

theorem typed_str (h : Typed P (n + 1) t xs) (hu : P.underlying t = some .string) : ∃ s, xs = [.str s] ∧ s.length ≤ maxLen := by
  simp only [Typed, hu] at h
  exact h

theorem typed_bool (h : Typed P (n + 1) t xs) (hu : P.underlying t = some .bool) : ∃ b, xs = [.bool b] := by
  simp only [Typed, hu] at h
  exact h

theorem typed_slice {α : Type} {R : α → AV → Prop} {e s : Nat} (h : Typed P (n + 1) t xs) (hu : P.underlying t = some (.slice e)) (hs : P.cellsOf e = s) (hR : ∀ y, IsElem P e y → Typed P n e y.cells → ∃ d, R d y) : ∃ d y, xs = [y] ∧ IsSl R s d y := by
  simp only [Typed, hu] at h
  rcases h with rfl | ⟨ys, rfl, hl, hy⟩
  · exact ⟨[], _, rfl, .nil s⟩
  · obtain ⟨d, hd⟩ := All2.of_each (R := R) ys fun y hm => hR y (hy y hm).1 (hy y hm).2
    refine ⟨d, _, rfl, ?_⟩
    rw [hs]
    exact .mk hd (by rw [← hd.len]; exact hl)

theorem in64_wf {n : Int} (h : (Lit.int .i64 n).wf = true) : in64 n := by
  simp [Lit.wf, IntKind.min, IntKind.max, IntKind.signed, IntKind.bits] at h
  unfold in64; omega
theorem inU64_wf {n : Int} (h : (Lit.int .u64 n).wf = true) : inU64 n := by
  simp [Lit.wf, IntKind.min, IntKind.max, IntKind.signed, IntKind.bits] at h
  unfold inU64; omega
theorem inU8_wf {n : Int} (h : (Lit.int .u8 n).wf = true) : inU8 n := by
  simp [Lit.wf, IntKind.min, IntKind.max, IntKind.signed, IntKind.bits] at h
  unfold inU8; omega
theorem isl_split {α : Type} {R : α → AV → Prop} {W : α → Prop} {s : Nat} {xs : List α} {y : AV} (h : IsSl (fun d y => R d y ∧ W d) s xs y) : IsSl R s xs y ∧ ∀ x ∈ xs, W x := by
  refine ⟨h.mono fun _ _ _ h => h.1, fun x hx => ?_⟩
  obtain ⟨i, hi, rfl⟩ := List.mem_iff_getElem.1 hx
  exact (h.nth hi).2

theorem typed_zero : ¬ Typed P 0 t xs := fun h => h

theorem elem_agg {e : Nat} {y : AV} (h : IsElem P e y) (ha : aggT P e = some true) : ∃ cs, y = .agg cs := by
  unfold IsElem at h; rw [if_pos ha] at h; exact h
theorem elem_one {e : Nat} {y : AV} (h : IsElem P e y) (ha : aggT P e = some false) : y.cells = [y] := by
  unfold IsElem at h; rw [if_neg (by rw [ha]; simp)] at h; exact h
end
end Go.Vs
