/-
  DumpNames holds: its law function, which has no arguments, returns true. The kernel reckons it.
-/
import Derived.Test.YtbgppcjifcladaaGreatD8
import Derived.Test.YtbgppcjifcladaaGreatD4
import Derived.Test.YtbgppcjifcladaaGreatRows
import Derived.KernelRfl
set_option maxHeartbeats 64000000
set_option linter.unusedVariables false
set_option linter.unusedSimpArgs false
section
namespace Go.Proofs.YtbgppcjifcladaaGreat
set_option maxRecDepth 100000
open Go.Vs Go.ChangeShapes Go.WideShapes Go.ChangeAt Go.RowKit Go.Proofs.W
theorem z3K:Known Tryz.prog 5 true:=v7
theorem Tryz.own:ownKnob Tryz.prog.godebug=none:=by kernel_rfl
theorem Tryz.laidOut:laidOutB Tryz.prog=true:=by kernel_rfl
theorem z1O (os:Os) (started:os.Started) (H:Type) (enc:TypeId×Value→H):
  ReturnsInHanded {} Tryz.checked os 5 .any (Rows.dumpNamesSpec.pre6 enc Tryz.prog Tryz.f5 Rows.dumpNamesRow.domain false) (Rows.dumpNamesSpec.post enc Tryz.prog Tryz.f5 false true false false):=by
 refine returnsInHanded_of_change (C:=Tryz.checked) Tryz.own started (by kernel_rfl) Tryz.func5
  (ChangeSpec.witness6 (enc:=enc) (C:=Tryz.checked) false ⟨#[],#[],[]⟩ 12 (by kernel_rfl) (by kernel_rfl) (by kernel_rfl) (by kernel_rfl)) ?_
 intro W base args ds gs before hval hW _ _
 exact z0v (P:=Tryz.prog) Tryz.laidOut rfl rfl rfl (by kernel_rfl) rfl z3K hW
theorem dumpNames_holds:Rows.DumpNamesSaid:=
 OpenClaim.holds_of_wide 5 Tryz.f5 rfl rfl rfl rfl rfl rfl rfl ⟨rfl,rfl,rfl,rfl,rfl⟩ rfl rfl rfl rfl rfl (by kernel_rfl) Tryz.func5 (by kernel_rfl)
  (of_decide_eq_true (by kernel_rfl)) (by unfold Func.isWrapper;first|(rw[if_pos (by decide+kernel)];kernel_rfl)|(rw[if_neg (by decide+kernel)];exact⟨rfl,rfl⟩))
  (fun os started H enc _=>z1O os started H enc)
end Go.Proofs.YtbgppcjifcladaaGreat
end
