/-
  ParseSame holds for every input: Same of two dumps that are not large is what the reference reports, of a dump with itself true, and the same both ways; the dumps read as they did. No condition besides those of the row.
-/
import Derived.Test.YtbnkcloiaeobmaaR3G
import Derived.Test.YtbnkcloiaeobmaaR3Read
import Derived.Test.YtbnkcloiaeobmaaRows
namespace Go.Proofs.Ytbnkcloiaeobmaa
set_option linter.unusedSimpArgs false
open Go.Vs Go.ChangeShapes Go.WideShapes Go.ChangeAt Go.RowKit Go.Proofs.W

theorem law (ys : List AV) (h : ArgsT Try.prog [37, 37] ys) : ∃ m', CALL tab 3 ys Mem.zero = some (.bool true, m') := by
  obtain ⟨x, r, rfl, h1, y, r2, rfl, h2, h3⟩ := h
  have h3 : r2 = [] := h3
  subst h3
  obtain ⟨a, ha⟩ := arg37 x h1
  obtain ⟨b, hb⟩ := arg37 y h2
  obtain ⟨k, hk⟩ := w_wreckagelaw29_ParseSame a b x y ha hb Mem.zero
  exact ⟨_, hk⟩

theorem Try.own : ownKnob Try.prog.godebug = none := by kernel_rfl
theorem Try.laidOut : laidOutB Try.prog = true := by kernel_rfl

theorem f_lifted (os : Os) (started : os.Started) (H : Type) (enc : TypeId × Value → H) :
    ReturnsInHanded {} Try.checked os 3 .any (Rows.parseSameSpec.pre6 enc Try.prog Try.f3 Rows.parseSameRow.domain false) (Rows.parseSameSpec.post enc Try.prog Try.f3 false true false false) := by
  refine returnsInHanded_of_change (C := Try.checked) Try.own started (by kernel_rfl) Try.func3
    (ChangeSpec.witness6 (enc := enc) (C := Try.checked) false ⟨#[], #[.agg #[.slice none 0 0, .slice none 0 0, .slice none 0 0, .int .u8 0, .int .i64 0, .int .i64 0, .int .u64 0, .slice none 0 0, .slice none 0 0, .slice none 0 0, .slice none 0 0, .slice none 0 0], .agg #[.slice none 0 0, .slice none 0 0, .slice none 0 0, .int .u8 0, .int .i64 0, .int .i64 0, .int .u64 0, .slice none 0 0, .slice none 0 0, .slice none 0 0, .slice none 0 0, .slice none 0 0]], []⟩ 12 (by kernel_rfl) (by kernel_rfl) (by kernel_rfl) (by kernel_rfl)) ?_
  intro W base args ds gs before hval hW _ _
  exact law_post (P := Try.prog) (tab := tab) (S := [61, 35, 2, 59, 34, 33, 30, 32, 28, 29, 76, 51, 73, 50, 53, 24, 23, 9, 69, 44, 3, 5, 46, 22, 26, 37]) (tb := 4) (by kernel_rfl) tabOk types_plain Try.laidOut rfl (by kernel_rfl) rfl Try.underlying4
    (fun ds hd => by
      match ds, hd with
      | [d, e], _ => rfl) law hval hW

theorem parseSame_holds : Rows.ParseSameSaid :=
  OpenClaim.holds_of_wide 3 Try.f3 rfl rfl rfl rfl rfl rfl rfl ⟨rfl, rfl, rfl, rfl, rfl⟩ rfl rfl rfl rfl rfl (by kernel_rfl) Try.func3 (by kernel_rfl)
    (of_decide_eq_true (by kernel_rfl)) (by unfold Func.isWrapper; first | (rw [if_pos (by decide +kernel)]; kernel_rfl) | (rw [if_neg (by decide +kernel)]; exact ⟨rfl, rfl⟩))
    (fun os started H enc _ => f_lifted os started H enc)

end Go.Proofs.Ytbnkcloiaeobmaa
