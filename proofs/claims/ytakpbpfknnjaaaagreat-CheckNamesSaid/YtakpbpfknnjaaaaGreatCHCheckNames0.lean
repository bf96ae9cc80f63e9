/-
  CheckNames holds: its law function, which has no arguments, returns true. The kernel reckons it.
-/
import Derived.Test.YtakpbpfknnjaaaaGreatC9
import Derived.Test.YtakpbpfknnjaaaaGreatC3
import Derived.Test.YtakpbpfknnjaaaaGreatRows
import Derived.KernelRfl
set_option maxHeartbeats 64000000
set_option linter.unusedVariables false
set_option linter.unusedSimpArgs false
open Bool renaming and_eq_true → w04
section
namespace Go.Proofs.YtakpbpfknnjaaaaGreat
set_option maxRecDepth 100000
open Go.Vs Go.ChangeShapes Go.WideShapes Go.ChangeAt Go.RowKit Go.Proofs.W
theorem z10:Known Tryz.prog 3 true:=vj
theorem Tryz.own:ownKnob Tryz.prog.godebug=none:=by kernel_rfl
theorem Tryz.laidOut:laidOutB Tryz.prog=true:=by kernel_rfl
theorem Q7 (os:Os) (started:os.Started) (H:Type) (enc:TypeId×Value→H):
  ReturnsInHanded {} Tryz.checked os 3 .any (Rows.checkNamesSpec.pre6 enc Tryz.prog Tryz.f3 Rows.checkNamesRow.domain false) (Rows.checkNamesSpec.post enc Tryz.prog Tryz.f3 false true false false):=by
 refine returnsInHanded_of_change (C:=Tryz.checked) Tryz.own started (by kernel_rfl) Tryz.func3
  (ChangeSpec.witness6 (enc:=enc) (C:=Tryz.checked) false ⟨#[],#[],[]⟩ 12 (by kernel_rfl) (by kernel_rfl) (by kernel_rfl) (by kernel_rfl)) ?_
 intro W base args ds gs before hval hW _ _
 exact UQ (P:=Tryz.prog) Tryz.laidOut rfl rfl rfl (by kernel_rfl) rfl z10 hW
theorem hA:Tryz.pinned.checked.prog.funcNamed Rows.checkNamesRow.func=some 3:=by kernel_rfl
theorem j0:(Rows.checkNamesRow.wf (OpenSpec.ofChange Rows.checkNamesSpec))=true:=by kernel_rfl
theorem j1:(laidOutB Tryz.prog)=true:=by kernel_rfl
theorem j2:(mapsRowed Tryz.prog)=true:=by kernel_rfl
theorem j3:(Tryz.f3.params.all (Tryz.prog.readableRec ·))=true:=by kernel_rfl
theorem j4:(namedTie Tryz.prog Rows.checkNamesRow.named Rows.checkNamesSpec.vars)=true:=by kernel_rfl
theorem j5:(Rows.checkNamesRow.stops==[])=true:=by kernel_rfl
theorem j6:(Tryz.prog.stops==[])=true:=by kernel_rfl
theorem j7:(Rows.checkNamesRow.knobs==[])=true:=by kernel_rfl
theorem j8:(Tryz.prog.stopKnobs==[])=true:=by kernel_rfl
theorem j9:(Rows.checkNamesRow.inPlace==Tryz.prog.inPlace 3)=true:=by kernel_rfl
theorem j10:(Rows.checkNamesRow.unfollowed==Tryz.prog.unfollowed 3)=true:=by kernel_rfl
theorem j11:(Rows.checkNamesRow.recurses==Tryz.prog.recurses 3)=true:=by kernel_rfl
theorem j12:(Rows.checkNamesRow.named==Tryz.prog.varsNamed 3)=true:=by kernel_rfl
theorem j13:(Rows.checkNamesRow.maps==(Tryz.f3.params.toList++Rows.checkNamesSpec.plain.varTypes Tryz.prog).any (Tryz.prog.mapsRec ·))=true:=by kernel_rfl
theorem j14:(Rows.checkNamesRow.ifaces==(Tryz.f3.params.toList++Rows.checkNamesSpec.plain.varTypes Tryz.prog).any (Tryz.prog.ifacesRec ·))=true:=by kernel_rfl
theorem j15:(Rows.checkNamesRow.mapsOut==Tryz.prog.mapsAmong Tryz.f3.resultTypes.toList)=true:=by kernel_rfl
theorem j16:(Rows.checkNamesRow.loops==(Tryz.f3.params.toList++Rows.checkNamesSpec.plain.varTypes Tryz.prog).any (Tryz.prog.loopsFrom ·))=true:=by kernel_rfl
theorem j17:(Rows.checkNamesRow.wideKeys==(Tryz.f3.params.toList++Rows.checkNamesSpec.plain.varTypes Tryz.prog++Tryz.f3.resultTypes.toList).any (Tryz.prog.wideKeysFrom ·))=true:=by kernel_rfl
theorem j18:(Rows.checkNamesSpec.vars.all (Tryz.prog.varReadable ·))=true:=by kernel_rfl
theorem j19:(Tryz.f3.resultTypes.all (fun t=>Tryz.prog.readableRec t&&decide (t<Tryz.prog.types.size)))=true:=by kernel_rfl
theorem j20:(Rows.checkNamesRow.ifacesOut==Tryz.f3.resultTypes.toList.any (Tryz.prog.ifacesRec ·))=true:=by kernel_rfl
theorem j21:(Rows.checkNamesRow.loopsOut==Tryz.f3.resultTypes.toList.any (Tryz.prog.loopsFrom ·))=true:=by kernel_rfl
theorem j22:(Rows.checkNamesRow.plainKeys==Tryz.prog.plainKeys)=true:=by kernel_rfl
theorem j23:(Rows.checkNamesRow.shortTexts.isNone)=true:=by kernel_rfl
theorem j24:(Tryz.prog.stopsHeard)=true:=by kernel_rfl
theorem j25:(Tryz.prog.mayEnter)=true:=by kernel_rfl
theorem j26:(Rows.checkNamesRow.lifted==Tryz.prog.liftsFinal)=true:=by kernel_rfl
theorem j27:(Tryz.prog.make==some Rows.checkNamesRow.make)=true:=by kernel_rfl
theorem j28:(Rows.checkNamesRow.kinds==(if Rows.checkNamesRow.domain.isEmpty then [] else Tryz.f3.params.toList.map fun t=>match Tryz.prog.underlying t with|some (.int k)=>some k|_=>none))=true:=by kernel_rfl
theorem j29:(Rows.checkNamesRow.pinned==Rows.checkNamesRow.pinnedBy)=true:=by kernel_rfl
theorem j30:(Rows.checkNamesRow.veiled==(Tryz.f3.params.toList++Rows.checkNamesSpec.plain.varTypes Tryz.prog++Tryz.f3.resultTypes.toList).any (Tryz.prog.veiledRec ·))=true:=by kernel_rfl
theorem j31:(Rows.checkNamesRow.veiledFits Tryz.prog Tryz.f3.params.toList (Tryz.f3.params.toList++Rows.checkNamesSpec.plain.varTypes Tryz.prog++Tryz.f3.resultTypes.toList))=true:=by kernel_rfl
theorem hB:joinedFacts Tryz.prog 3 Tryz.f3 Rows.checkNamesSpec Rows.checkNamesRow=true:=by
 simp only[joinedFacts,w04]
 exact⟨⟨⟨⟨⟨⟨⟨⟨⟨⟨⟨⟨⟨⟨⟨⟨⟨⟨⟨⟨⟨⟨⟨⟨⟨⟨⟨⟨⟨⟨⟨j0,j1⟩,j2⟩,j3⟩,j4⟩,j5⟩,j6⟩,j7⟩,j8⟩,j9⟩,j10⟩,j11⟩,j12⟩,j13⟩,j14⟩,j15⟩,j16⟩,j17⟩,j18⟩,j19⟩,j20⟩,j21⟩,j22⟩,j23⟩,j24⟩,j25⟩,j26⟩,j27⟩,j28⟩,j29⟩,j30⟩,j31⟩
theorem hC:Func.isInstance Tryz.pinned.checked.prog Tryz.f3 Rows.checkNamesRow.origin Rows.checkNamesRow.targs:=of_decide_eq_true (by kernel_rfl)
theorem hD:Func.isWrapper Tryz.pinned.checked.prog Tryz.f3 Rows.checkNamesRow.wrapper Rows.checkNamesRow.mainSum:=by unfold Func.isWrapper;first|(rw[if_pos (by decide+kernel)];kernel_rfl)|(rw[if_neg (by decide+kernel)];exact⟨rfl,rfl⟩)
theorem checkNames_holds:Rows.CheckNamesSaid:=
 OpenClaim.holds_of_wide 3 Tryz.f3 rfl rfl rfl rfl rfl rfl rfl ⟨rfl,rfl,rfl,rfl,rfl⟩ rfl rfl rfl rfl rfl hA Tryz.func3 hB hC hD
  (fun os started H enc _=>Q7 os started H enc)
end Go.Proofs.YtakpbpfknnjaaaaGreat
end
