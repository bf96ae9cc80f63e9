/-
  CheckMore holds for every input: its law function returns true, and the arguments read as they did. No condition besides those of the row.
-/
import Derived.Test.YtlmfkfmgnkjlaaaGreatO5
import Derived.Test.YtlmfkfmgnkjlaaaGreatO8
import Derived.Test.YtlmfkfmgnkjlaaaGreatRows
set_option maxHeartbeats 64000000
set_option linter.unusedVariables false
set_option linter.unusedSimpArgs false
open Nat renaming zero_le → w0c
section
namespace Go.Proofs.YtlmfkfmgnkjlaaaGreat
set_option maxRecDepth 100000
set_option linter.unusedSimpArgs false
open Go.Vs Go.ChangeShapes Go.WideShapes Go.ChangeAt Go.RowKit Go.Proofs.W
theorem z8m (m:Mem):CALL tab zE [] m=some (.bool true,m):=z8j Wl m
theorem law (ys:List AV) (h:ArgsT Tryz.prog [26] ys): ∃m',CALL tab 3 ys Mem.zero=some (.bool true,m'):=by
 obtain⟨x0,r0,rfl,g0,gz⟩:=h
 have gz:r0=[]:=gz
 subst gz
 obtain⟨d0,a0,b0⟩:=arg26 x0 g0
 obtain⟨k,hk⟩:=z5t z8m d0 x0 a0 b0 Mem.zero (w0c _)
 exact⟨_,hk⟩
theorem Tryz.own:ownKnob Tryz.prog.godebug=none:=by kernel_rfl
theorem Tryz.laidOut:laidOutB Tryz.prog=true:=by kernel_rfl
theorem zbO (os:Os) (started:os.Started) (H:Type) (enc:TypeId×Value→H):
  ReturnsInHanded {} Tryz.checked os 3 .any (Rows.checkMoreSpec.pre6 enc Tryz.prog Tryz.f3 Rows.checkMoreRow.domain false) (Rows.checkMoreSpec.post enc Tryz.prog Tryz.f3 false true false false):=by
 refine returnsInHanded_of_change (C:=Tryz.checked) Tryz.own started (by kernel_rfl) Tryz.func3
  (ChangeSpec.witness6 (enc:=enc) (C:=Tryz.checked) false ⟨#[],#[.agg #[.slice none 0 0,.slice none 0 0,.slice none 0 0]],[]⟩ 12 (by kernel_rfl) (by kernel_rfl) (by kernel_rfl) (by kernel_rfl)) ?_
 intro W base args ds gs before hval hW _ _
 exact zbn (P:=Tryz.prog) (tab:=tab) (S:=[47,36,38,39,33,35,42,24,23,9,95,40,3,5,81,22,26]) (tb:=4) (by kernel_rfl) tabOk z5u Tryz.laidOut rfl (by kernel_rfl) rfl Tryz.underlying4
  (fun ds hd=>by
   match ds,hd with
   | [d1],_=>rfl) law hval hW
theorem checkMore_holds:Rows.CheckMoreSaid:=
 OpenClaim.holds_of_wide 3 Tryz.f3 rfl rfl rfl rfl rfl rfl rfl ⟨rfl,rfl,rfl,rfl,rfl⟩ rfl rfl rfl rfl rfl (by kernel_rfl) Tryz.func3 (by kernel_rfl)
  (of_decide_eq_true (by kernel_rfl)) (by unfold Func.isWrapper;first|(rw[if_pos (by decide+kernel)];kernel_rfl)|(rw[if_neg (by decide+kernel)];exact⟨rfl,rfl⟩))
  (fun os started H enc _=>zbO os started H enc)
end Go.Proofs.YtlmfkfmgnkjlaaaGreat
end
