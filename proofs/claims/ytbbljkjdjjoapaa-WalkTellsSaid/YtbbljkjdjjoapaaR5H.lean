/-
  WalkTells holds for every input: for an image that is not great and at most 200 frames, Code, At and Live return what the reference returns; the arguments read as they did. No condition besides those of the row.
-/
import Derived.Test.YtbbljkjdjjoapaaR5S33
import Derived.Test.YtbbljkjdjjoapaaR5Read
import Derived.Test.YtbbljkjdjjoapaaRows
namespace Go.Proofs.Ytbbljkjdjjoapaa
set_option maxRecDepth 100000
set_option linter.unusedSimpArgs false
open Go.Vs Go.ChangeShapes Go.WideShapes Go.ChangeAt Go.RowKit Go.Proofs.W

theorem law (ys : List AV) (h : ArgsT Try.prog [26, 27, 28, 27, 30] ys) : ∃ m', CALL tab 3 ys Mem.zero = some (.bool true, m') := by
  obtain ⟨x, r, rfl, h1, a, r2, rfl, h2, z, r3, rfl, h3, s, r4, rfl, h4, y, r5, rfl, h5, h6⟩ := h
  have h6 : r5 = [] := h6
  subst h6
  obtain ⟨d, hd, hw⟩ := arg26 x h1
  obtain ⟨f, hf, _⟩ := arg30 y h5
  obtain ⟨e2, n2, t2⟩ := h2
  rw [elem_one e2 (by kernel_rfl)] at t2
  obtain ⟨av, a', ea, ha, hau⟩ := rd27 n2 _ t2
  injection ea with ea _
  subst ea
  obtain ⟨e4, n4, t4⟩ := h4
  rw [elem_one e4 (by kernel_rfl)] at t4
  obtain ⟨sv, s', es, hs, _⟩ := rd27 n4 _ t4
  injection es with es _
  subst es
  obtain ⟨e3, n3, t3⟩ := h3
  rw [elem_one e3 (by kernel_rfl)] at t3
  obtain ⟨l, z', ez, hz, _⟩ := rd28 n3 _ t3
  injection ez with ez _
  subst ez
  obtain rfl := ha
  obtain rfl := hs
  obtain ⟨k, hk⟩ := w_WalkTells d x hd hw av hau l z hz sv f y hf Mem.zero (Nat.zero_le _)
  exact ⟨_, hk⟩

theorem Try.own : ownKnob Try.prog.godebug = none := by kernel_rfl
theorem Try.laidOut : laidOutB Try.prog = true := by kernel_rfl

theorem f_lifted (os : Os) (started : os.Started) (H : Type) (enc : TypeId × Value → H) :
    ReturnsInHanded {} Try.checked os 3 .any (Rows.walkTellsSpec.pre6 enc Try.prog Try.f3 Rows.walkTellsRow.domain false) (Rows.walkTellsSpec.post enc Try.prog Try.f3 false true false false) := by
  refine returnsInHanded_of_change (C := Try.checked) Try.own started (by kernel_rfl) Try.func3
    (ChangeSpec.witness6 (enc := enc) (C := Try.checked) false ⟨#[], #[.agg #[.slice none 0 0, .slice none 0 0, .slice none 0 0], .int .u64 0, .slice none 0 0, .int .u64 0, .agg #[.int .u64 0, .int .i64 0, .int .i64 0, .int .u64 0, .int .i64 0, .int .u64 0, .int .u64 0, .int .u64 0]], []⟩ 12 (by kernel_rfl) (by kernel_rfl) (by kernel_rfl) (by kernel_rfl)) ?_
  intro W base args ds gs before hval hW _ _
  exact law_post (P := Try.prog) (tab := tab) (S := [30, 28, 27, 69, 49, 94, 48, 51, 24, 23, 9, 53, 47, 3, 5, 59, 22, 26]) (tb := 4) (by kernel_rfl) tabOk types_plain Try.laidOut rfl (by kernel_rfl) rfl Try.underlying4
    (fun ds hd => by
      match ds, hd with
      | [d1, d2, d3, d4, d5], _ => rfl) law hval hW

theorem walkTells_holds : Rows.WalkTellsSaid :=
  OpenClaim.holds_of_wide 3 Try.f3 rfl rfl rfl rfl rfl rfl rfl ⟨rfl, rfl, rfl, rfl, rfl⟩ rfl rfl rfl rfl rfl (by kernel_rfl) Try.func3 (by kernel_rfl)
    (of_decide_eq_true (by kernel_rfl)) (by unfold Func.isWrapper; first | (rw [if_pos (by decide +kernel)]; kernel_rfl) | (rw [if_neg (by decide +kernel)]; exact ⟨rfl, rfl⟩))
    (fun os started H enc _ => f_lifted os started H enc)

end Go.Proofs.Ytbbljkjdjjoapaa
