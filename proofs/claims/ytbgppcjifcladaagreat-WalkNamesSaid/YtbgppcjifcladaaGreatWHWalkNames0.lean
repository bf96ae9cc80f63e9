/-
  WalkNames holds: its law function, which has no arguments, returns true. The kernel reckons it.
-/
import Derived.Test.YtbgppcjifcladaaGreatW4
import Derived.Test.YtbgppcjifcladaaGreatW3
import Derived.Test.YtbgppcjifcladaaGreatRows
import Derived.KernelRfl
set_option maxHeartbeats 64000000
set_option linter.unusedVariables false
set_option linter.unusedSimpArgs false
section
namespace Go.Proofs.YtbgppcjifcladaaGreat
set_option maxRecDepth 100000
open Go.Vs Go.ChangeShapes Go.WideShapes Go.ChangeAt Go.RowKit Go.Proofs.W
theorem z2a:Known Tryz.prog 3 true:=UW gmask (f:=zd) (by kernel_rfl) tabOk 10001 top
theorem Tryz.own:ownKnob Tryz.prog.godebug=none:=by kernel_rfl
theorem Tryz.laidOut:laidOutB Tryz.prog=true:=by kernel_rfl
theorem z0f (os:Os) (started:os.Started) (H:Type) (enc:TypeId×Value→H):
  ReturnsInHanded {} Tryz.checked os 3 .any (Rows.walkNamesSpec.pre6 enc Tryz.prog Tryz.f3 Rows.walkNamesRow.domain false) (Rows.walkNamesSpec.post enc Tryz.prog Tryz.f3 false true false false):=by
 refine returnsInHanded_of_change (C:=Tryz.checked) Tryz.own started (by kernel_rfl) Tryz.func3
  (ChangeSpec.witness6 (enc:=enc) (C:=Tryz.checked) false ⟨#[],#[],[]⟩ 12 (by kernel_rfl) (by kernel_rfl) (by kernel_rfl) (by kernel_rfl)) ?_
 intro W base args ds gs before hval hW _ _
 exact Q5 (P:=Tryz.prog) Tryz.laidOut rfl rfl rfl (by kernel_rfl) rfl z2a hW
theorem walkNames_holds:Rows.WalkNamesSaid:=
 OpenClaim.holds_of_wide 3 Tryz.f3 rfl rfl rfl rfl rfl rfl rfl ⟨rfl,rfl,rfl,rfl,rfl⟩ rfl rfl rfl rfl rfl (by kernel_rfl) Tryz.func3 (by kernel_rfl)
  (of_decide_eq_true (by kernel_rfl)) (by unfold Func.isWrapper;first|(rw[if_pos (by decide+kernel)];kernel_rfl)|(rw[if_neg (by decide+kernel)];exact⟨rfl,rfl⟩))
  (fun os started H enc _=>z0f os started H enc)
end Go.Proofs.YtbgppcjifcladaaGreat
end
