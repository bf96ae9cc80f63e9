/-
  LocalsTells holds for every input: Weight, Reach and Cut of a value that is not heavy are what the reference returns, and the value reads as it did. No condition besides those of the row.
-/
import Derived.Test.YtoalamckcmjmcaaL1F
import Derived.Test.YtoalamckcmjmcaaVsw
import Derived.Test.YtoalamckcmjmcaaRows
namespace Go.Proofs.Ytoalamckcmjmcaa
set_option linter.unusedSimpArgs false
open Go.Vs Go.ChangeShapes Go.WideShapes Go.ChangeAt Go.RowKit Go.Proofs.L1

theorem cells24 : Try.prog.cellsOf 24 = 5 := by kernel_rfl
theorem cells5 : Try.prog.cellsOf 5 = 1 := by kernel_rfl
theorem cells2 : Try.prog.cellsOf 2 = 1 := by kernel_rfl
theorem cells9 : Try.prog.cellsOf 9 = 1 := by kernel_rfl
theorem cells22 : Try.prog.cellsOf 22 = 1 := by kernel_rfl
theorem cells4 : Try.prog.cellsOf 4 = 1 := by kernel_rfl

theorem vals_of : ∀ (ys : List AV), (∀ y ∈ ys, ∃ v, emb v = y ∧ okv v) → ∃ l, embs l = ys ∧ okvs l
  | [], _ => ⟨[], rfl, trivial⟩
  | y :: r, h => by
    obtain ⟨v, h1, h2⟩ := h y List.mem_cons_self
    obtain ⟨l, h3, h4⟩ := vals_of r (fun z hz => h z (List.mem_cons_of_mem _ hz))
    exact ⟨v :: l, by simp only [embs, h1, h3], h2, h4⟩

theorem val_of (n : Nat) : ∀ (xs : List AV), Typed Try.prog n 24 xs → ∃ v, emb v = .agg xs ∧ okv v := by
  induction n using Nat.strongRecOn with
  | ind n ih =>
    intro xs h
    match n, h with
    | 0, h => exact h.elim
    | 1, h =>
      simp only [Typed, Try.underlying24] at h
      have := h.2 ⟨"Kind", 5, 0, false, "", "", 0⟩ (by simp)
      exact this.elim
    | n + 2, h =>
      simp only [Typed, Try.underlying24] at h
      obtain ⟨h1, h2⟩ := h
      rw [cells24] at h1
      match xs, h1 with
      | [a, b, c, d, e], _ =>
        have k1 := h2 ⟨"Kind", 5, 0, false, "", "", 0⟩ (by simp)
        have k2 := h2 ⟨"Int", 2, 1, false, "", "", 8⟩ (by simp)
        have k3 := h2 ⟨"Text", 9, 2, false, "", "", 16⟩ (by simp)
        have k4 := h2 ⟨"List", 22, 3, false, "", "", 32⟩ (by simp)
        have k5 := h2 ⟨"Cut", 4, 4, false, "", "", 56⟩ (by simp)
        simp only [cells5, cells2, cells9, cells22, cells4, Typed, Try.underlying5, Try.underlying2, Try.underlying9, Try.underlying22, Try.underlying4, List.drop_zero, List.drop_succ_cons, List.take_succ_cons, List.take_zero, List.cons.injEq, and_true] at k1 k2 k3 k4 k5
        obtain ⟨kk, rfl, _⟩ := k1
        obtain ⟨ii, rfl, _⟩ := k2
        obtain ⟨s, rfl, _⟩ := k3
        obtain ⟨bb, rfl⟩ := k5
        rcases k4 with rfl | ⟨ys, rfl, hl, hy⟩
        · exact ⟨.mk kk ii s true [] bb, by rw [emb_eq]; rfl, by simp [okv, okvs]⟩
        · obtain ⟨l, h3, h4⟩ := vals_of ys (fun y hm => by
            obtain ⟨hy1, hy2⟩ := hy y hm
            unfold IsElem at hy1
            rw [if_pos (by kernel_rfl)] at hy1
            obtain ⟨cs, rfl⟩ := hy1
            exact ih n (by omega) cs hy2)
          refine ⟨.mk kk ii s false l bb, ?_, ?_, h4⟩
          · rw [emb_eq, lst, Bool.and_false, if_neg (by decide), h3, cells24]
          · rw [← embs_len, h3]; exact hl

theorem law (ys : List AV) (h : ArgsT Try.prog [24] ys) : ∃ m', CALL tab 3 ys Mem.zero = some (.bool true, m') := by
  obtain ⟨y, r, rfl, ⟨h1, n, h2⟩, h3⟩ := h
  have h3 : r = [] := h3
  subst h3
  unfold IsElem at h1
  rw [if_pos (by kernel_rfl)] at h1
  obtain ⟨cs, rfl⟩ := h1
  obtain ⟨v, hv, ho⟩ := val_of n cs h2
  rw [← hv]
  exact w3 v ho Mem.zero (Nat.zero_le _)

theorem Try.own : ownKnob Try.prog.godebug = none := by kernel_rfl
theorem Try.laidOut : laidOutB Try.prog = true := by kernel_rfl

theorem f_lifted (os : Os) (started : os.Started) (H : Type) (enc : TypeId × Value → H) :
    ReturnsInHanded {} Try.checked os 3 .any (Rows.localsTellsSpec.pre6 enc Try.prog Try.f3 Rows.localsTellsRow.domain false) (Rows.localsTellsSpec.post enc Try.prog Try.f3 false true false false) := by
  refine returnsInHanded_of_change (C := Try.checked) Try.own started (by kernel_rfl) Try.func3
    (ChangeSpec.witness6 (enc := enc) (C := Try.checked) false ⟨#[], #[.agg #[.int .u8 0, .int .i64 0, .string ⟨#[]⟩, .slice none 0 0, .bool false]], []⟩ 8 (by kernel_rfl) (by kernel_rfl) (by kernel_rfl) (by kernel_rfl)) ?_
  intro W base args ds gs before hval hW _ _
  exact law_post (P := Try.prog) (tab := tab) (S := [24, 5, 2, 9, 22, 4]) (tb := 4) (by kernel_rfl) tabOk (by kernel_rfl) Try.laidOut rfl (by kernel_rfl) rfl Try.underlying4
    (fun ds hd => by
      match ds, hd with
      | [d], _ => rfl) law hval hW

theorem localsTells_holds : Rows.LocalsTellsSaid :=
  OpenClaim.holds_of_wide 3 Try.f3 rfl rfl rfl rfl rfl rfl rfl ⟨rfl, rfl, rfl, rfl, rfl⟩ rfl rfl rfl rfl rfl (by kernel_rfl) Try.func3 (by kernel_rfl)
    (of_decide_eq_true (by kernel_rfl)) (by unfold Func.isWrapper; first | (rw [if_pos (by decide +kernel)]; kernel_rfl) | (rw [if_neg (by decide +kernel)]; exact ⟨rfl, rfl⟩))
    (fun os started H enc _ => f_lifted os started H enc)

end Go.Proofs.Ytoalamckcmjmcaa
