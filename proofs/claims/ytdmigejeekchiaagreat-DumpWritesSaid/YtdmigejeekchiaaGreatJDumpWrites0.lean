/-
  DumpWrites holds for every input: its law function returns true, and the arguments read as they did. No condition besides those of the row.
-/
import Derived.Test.YtdmigejeekchiaaGreatJ5
import Derived.Test.YtdmigejeekchiaaGreatRows
set_option maxHeartbeats 64000000
set_option maxRecDepth 1000000
set_option linter.unusedVariables false
set_option linter.unusedSimpArgs false
open Nat renaming reduceMul → G2, reduceAdd → G3, reduceSub → G4, reduceEqDiff → G6, reduceBEq → G7, reduceLT → G8, reduceLeDiff → G9, zero_le → w0b, min_eq_left → w18, zero_add → w26
open Int renaming reduceEq → H0, reduceLT → H1, reduceLE → H2, reduceAdd → H3, reduceSub → H4, reduceMul → H5, reducePow → H6, reduceToNat → H7, ofNat_lt → w02, toNat_natCast → w10, toNat_zero → w2b
open Option renaming map_some → w07, map_none → w19, getD_some → w33
open List renaming getElem_mem → w04, getD_eq_getElem?_getD → w05, mem_append → w0a, getElem?_eq_getElem → w17, append_nil → w1b, mem_cons_self → w1d, getElem?_map → w1e, ext_getElem? → w20, cons_append → w22, mem_cons_of_mem → w2a, nil_append → w2f, flatten_cons → w3a, all_eq_true → w3e, length_nil → w45, mem_append_left → w4f, mem_append_right → w56
open Bool renaming and_eq_true → w09, false_and → w24, and_false → w25
section
namespace Go.Proofs.YtdmigejeekchiaaGreat
open Go.Vs Go.ChangeShapes Go.WideShapes Go.ChangeAt Go.RowKit Go.Proofs.W
theorem law (ys:List AV) (h:ArgsT Tryz.prog [37] ys): ∃m',CALL tab 7 ys Mem.zero=some (.bool true,m'):=by
 obtain⟨x0,r0,rfl,g0,gz⟩:=h
 have gz:r0=[]:=gz
 subst gz
 obtain⟨d0,a0,b0⟩:=arg37 x0 g0
 obtain⟨k,hk⟩:=z1f d0 x0 a0 b0 Mem.zero (w0b _)
 exact⟨_,hk⟩
theorem Tryz.own:ownKnob Tryz.prog.godebug=none:=by kernel_rfl
theorem Tryz.laidOut:laidOutB Tryz.prog=true:=by kernel_rfl
theorem z89 (os:Os) (started:os.Started) (H:Type) (enc:TypeId×Value→H):
  ReturnsInHanded {} Tryz.checked os 7 .any (Rows.dumpWritesSpec.pre6 enc Tryz.prog Tryz.f7 Rows.dumpWritesRow.domain false) (Rows.dumpWritesSpec.post enc Tryz.prog Tryz.f7 false true false false):=by
 refine returnsInHanded_of_change (C:=Tryz.checked) Tryz.own started (by kernel_rfl) Tryz.func7
  (ChangeSpec.witness6 (enc:=enc) (C:=Tryz.checked) false ⟨#[],#[.agg #[.slice none 0 0,.slice none 0 0,.slice none 0 0,.int .u8 0,.int .i64 0,.int .i64 0,.int .u64 0,.slice none 0 0,.slice none 0 0,.slice none 0 0,.slice none 0 0,.slice none 0 0]],[]⟩ 12 (by kernel_rfl) (by kernel_rfl) (by kernel_rfl) (by kernel_rfl)) ?_
 intro W base args ds gs before hval hW _ _
 exact z7P (P:=Tryz.prog) (tab:=tab) (S:=[54,99,35,2,52,34,33,30,32,28,29,227,66,63,65,68,24,23,9,214,64,3,5,271,22,26,37]) (tb:=4) (by kernel_rfl) tabOk z2b Tryz.laidOut rfl (by kernel_rfl) rfl Tryz.underlying4
  (fun ds hd=>by
   match ds,hd with
   | [d1],_=>rfl) law hval hW
theorem hA:Tryz.pinned.checked.prog.funcNamed Rows.dumpWritesRow.func=some 7:=by kernel_rfl
theorem j0:(Rows.dumpWritesRow.wf (OpenSpec.ofChange Rows.dumpWritesSpec))=true:=by kernel_rfl
theorem j1:(laidOutB Tryz.prog)=true:=by kernel_rfl
theorem j2:(mapsRowed Tryz.prog)=true:=by kernel_rfl
theorem j3:(Tryz.f7.params.all (Tryz.prog.readableRec ·))=true:=by kernel_rfl
theorem j4:(namedTie Tryz.prog Rows.dumpWritesRow.named Rows.dumpWritesSpec.vars)=true:=by kernel_rfl
theorem j5:(Rows.dumpWritesRow.stops==[])=true:=by kernel_rfl
theorem j6:(Tryz.prog.stops==[])=true:=by kernel_rfl
theorem j7:(Rows.dumpWritesRow.knobs==[])=true:=by kernel_rfl
theorem j8:(Tryz.prog.stopKnobs==[])=true:=by kernel_rfl
theorem j9:(Rows.dumpWritesRow.inPlace==Tryz.prog.inPlace 7)=true:=by kernel_rfl
theorem j10:(Rows.dumpWritesRow.unfollowed==Tryz.prog.unfollowed 7)=true:=by kernel_rfl
theorem j11:(Rows.dumpWritesRow.recurses==Tryz.prog.recurses 7)=true:=by kernel_rfl
theorem j12:(Rows.dumpWritesRow.named==Tryz.prog.varsNamed 7)=true:=by kernel_rfl
theorem j13:(Rows.dumpWritesRow.maps==(Tryz.f7.params.toList++Rows.dumpWritesSpec.plain.varTypes Tryz.prog).any (Tryz.prog.mapsRec ·))=true:=by kernel_rfl
theorem j14:(Rows.dumpWritesRow.ifaces==(Tryz.f7.params.toList++Rows.dumpWritesSpec.plain.varTypes Tryz.prog).any (Tryz.prog.ifacesRec ·))=true:=by kernel_rfl
theorem j15:(Rows.dumpWritesRow.mapsOut==Tryz.prog.mapsAmong Tryz.f7.resultTypes.toList)=true:=by kernel_rfl
theorem j16:(Rows.dumpWritesRow.loops==(Tryz.f7.params.toList++Rows.dumpWritesSpec.plain.varTypes Tryz.prog).any (Tryz.prog.loopsFrom ·))=true:=by kernel_rfl
theorem j17:(Rows.dumpWritesRow.wideKeys==(Tryz.f7.params.toList++Rows.dumpWritesSpec.plain.varTypes Tryz.prog++Tryz.f7.resultTypes.toList).any (Tryz.prog.wideKeysFrom ·))=true:=by kernel_rfl
theorem j18:(Rows.dumpWritesSpec.vars.all (Tryz.prog.varReadable ·))=true:=by kernel_rfl
theorem j19:(Tryz.f7.resultTypes.all (fun t=>Tryz.prog.readableRec t&&decide (t<Tryz.prog.types.size)))=true:=by kernel_rfl
theorem j20:(Rows.dumpWritesRow.ifacesOut==Tryz.f7.resultTypes.toList.any (Tryz.prog.ifacesRec ·))=true:=by kernel_rfl
theorem j21:(Rows.dumpWritesRow.loopsOut==Tryz.f7.resultTypes.toList.any (Tryz.prog.loopsFrom ·))=true:=by kernel_rfl
theorem j22:(Rows.dumpWritesRow.plainKeys==Tryz.prog.plainKeys)=true:=by kernel_rfl
theorem j23:(Rows.dumpWritesRow.shortTexts.isNone)=true:=by kernel_rfl
theorem j24:(Tryz.prog.stopsHeard)=true:=by kernel_rfl
theorem j25:(Tryz.prog.mayEnter)=true:=by kernel_rfl
theorem j26:(Rows.dumpWritesRow.lifted==Tryz.prog.liftsFinal)=true:=by kernel_rfl
theorem j27:(Tryz.prog.make==some Rows.dumpWritesRow.make)=true:=by kernel_rfl
theorem j28:(Rows.dumpWritesRow.kinds==(if Rows.dumpWritesRow.domain.isEmpty then [] else Tryz.f7.params.toList.map fun t=>match Tryz.prog.underlying t with|some (.int k)=>some k|_=>none))=true:=by kernel_rfl
theorem j29:(Rows.dumpWritesRow.pinned==Rows.dumpWritesRow.pinnedBy)=true:=by kernel_rfl
theorem j30:(Rows.dumpWritesRow.veiled==(Tryz.f7.params.toList++Rows.dumpWritesSpec.plain.varTypes Tryz.prog++Tryz.f7.resultTypes.toList).any (Tryz.prog.veiledRec ·))=true:=by kernel_rfl
theorem j31:(Rows.dumpWritesRow.veiledFits Tryz.prog Tryz.f7.params.toList (Tryz.f7.params.toList++Rows.dumpWritesSpec.plain.varTypes Tryz.prog++Tryz.f7.resultTypes.toList))=true:=by kernel_rfl
theorem hB:joinedFacts Tryz.prog 7 Tryz.f7 Rows.dumpWritesSpec Rows.dumpWritesRow=true:=by
 simp only[joinedFacts,w09]
 exact⟨⟨⟨⟨⟨⟨⟨⟨⟨⟨⟨⟨⟨⟨⟨⟨⟨⟨⟨⟨⟨⟨⟨⟨⟨⟨⟨⟨⟨⟨⟨j0,j1⟩,j2⟩,j3⟩,j4⟩,j5⟩,j6⟩,j7⟩,j8⟩,j9⟩,j10⟩,j11⟩,j12⟩,j13⟩,j14⟩,j15⟩,j16⟩,j17⟩,j18⟩,j19⟩,j20⟩,j21⟩,j22⟩,j23⟩,j24⟩,j25⟩,j26⟩,j27⟩,j28⟩,j29⟩,j30⟩,j31⟩
theorem hC:Func.isInstance Tryz.pinned.checked.prog Tryz.f7 Rows.dumpWritesRow.origin Rows.dumpWritesRow.targs:=of_decide_eq_true (by kernel_rfl)
theorem hD:Func.isWrapper Tryz.pinned.checked.prog Tryz.f7 Rows.dumpWritesRow.wrapper Rows.dumpWritesRow.mainSum:=by unfold Func.isWrapper;first|(rw[if_pos (by decide+kernel)];kernel_rfl)|(rw[if_neg (by decide+kernel)];exact⟨rfl,rfl⟩)
theorem dumpWrites_holds:Rows.DumpWritesSaid:=
 OpenClaim.holds_of_wide 7 Tryz.f7 rfl rfl rfl rfl rfl rfl rfl ⟨rfl,rfl,rfl,rfl,rfl⟩ rfl rfl rfl rfl rfl hA Tryz.func7 hB hC hD
  (fun os started H enc _=>z89 os started H enc)
end Go.Proofs.YtdmigejeekchiaaGreat
end
