/-
  ChainFinds holds for every input: its law function returns true, and the arguments read as they did. No condition besides those of the row.
-/
import Derived.Test.YtdmigejeekchiaaGreatL6
import Derived.Test.YtdmigejeekchiaaGreatRows
set_option maxHeartbeats 64000000
set_option maxRecDepth 1000000
set_option linter.unusedVariables false
set_option linter.unusedSimpArgs false
open Nat renaming reduceMul → G2, reduceAdd → G3, reduceSub → G4, reduceEqDiff → G6, reduceBEq → G7, reduceLT → G8, reduceLeDiff → G9, zero_le → w0d, min_eq_left → w11, zero_add → w24
open Int renaming reduceEq → H0, reduceLT → H1, reduceLE → H2, reduceAdd → H3, reduceSub → H4, reduceMul → H5, reducePow → H6, reduceToNat → H7, ofNat_lt → w02, toNat_natCast → w09, toNat_zero → w1b, toNat_of_nonneg → w36
open Option renaming map_some → w08, map_none → w15, getD_some → w31
open List renaming getD_eq_getElem?_getD → w03, getElem_mem → w04, mem_append → w0b, getElem?_eq_getElem → w1d, append_nil → w20, getElem?_map → w21, mem_cons_self → w22, ext_getElem? → w26, cons_append → w27, mem_cons_of_mem → w2c, nil_append → w2f, all_eq_true → w39, flatten_cons → w41, mem_iff_getElem → w49, length_nil → w50, mem_append_left → w57, mem_append_right → w5b
open Bool renaming and_eq_true → w0a, false_and → w19, and_false → w1a
section
namespace Go.Proofs.YtdmigejeekchiaaGreat
open Go.Vs Go.ChangeShapes Go.WideShapes Go.ChangeAt Go.RowKit Go.Proofs.W
theorem law (ys:List AV) (h:ArgsT Tryz.prog [37,3] ys): ∃m',CALL tab 8 ys Mem.zero=some (.bool true,m'):=by
 obtain⟨x0,r0,rfl,g0,x1,r1,rfl,g1,gz⟩:=h
 have gz:r1=[]:=gz
 subst gz
 obtain⟨d0,a0,b0⟩:=arg37 x0 g0
 obtain⟨e1,n1,t1⟩:=g1
 rw[X9 e1 (by kernel_rfl)] at t1
 obtain⟨v1,u1,c1,k1,w1⟩:=rd3 n1 _ t1
 injection c1 with c1 _
 subst c1
 obtain rfl:=k1
 obtain⟨k,hk⟩:=z22 d0 x0 a0 b0 v1 Mem.zero (w0d _)
 exact⟨_,hk⟩
theorem Tryz.own:ownKnob Tryz.prog.godebug=none:=by kernel_rfl
theorem Tryz.laidOut:laidOutB Tryz.prog=true:=by kernel_rfl
theorem z8Q (os:Os) (started:os.Started) (H:Type) (enc:TypeId×Value→H):
  ReturnsInHanded {} Tryz.checked os 8 .any (Rows.chainFindsSpec.pre6 enc Tryz.prog Tryz.f8 Rows.chainFindsRow.domain false) (Rows.chainFindsSpec.post enc Tryz.prog Tryz.f8 false true false false):=by
 refine returnsInHanded_of_change (C:=Tryz.checked) Tryz.own started (by kernel_rfl) Tryz.func8
  (ChangeSpec.witness6 (enc:=enc) (C:=Tryz.checked) false ⟨#[],#[.agg #[.slice none 0 0,.slice none 0 0,.slice none 0 0,.int .u8 0,.int .i64 0,.int .i64 0,.int .u64 0,.slice none 0 0,.slice none 0 0,.slice none 0 0,.slice none 0 0,.slice none 0 0],.int .i64 0],[]⟩ 12 (by kernel_rfl) (by kernel_rfl) (by kernel_rfl) (by kernel_rfl)) ?_
 intro W base args ds gs before hval hW _ _
 exact z8y (P:=Tryz.prog) (tab:=tab) (S:=[54,99,35,2,52,34,33,30,32,28,29,227,66,63,65,68,24,23,9,214,64,3,5,271,22,26,37]) (tb:=4) (by kernel_rfl) tabOk z2U Tryz.laidOut rfl (by kernel_rfl) rfl Tryz.underlying4
  (fun ds hd=>by
   match ds,hd with
   | [d1,d2],_=>rfl) law hval hW
theorem hA:Tryz.pinned.checked.prog.funcNamed Rows.chainFindsRow.func=some 8:=by kernel_rfl
theorem j0:(Rows.chainFindsRow.wf (OpenSpec.ofChange Rows.chainFindsSpec))=true:=by kernel_rfl
theorem j1:(laidOutB Tryz.prog)=true:=by kernel_rfl
theorem j2:(mapsRowed Tryz.prog)=true:=by kernel_rfl
theorem j3:(Tryz.f8.params.all (Tryz.prog.readableRec ·))=true:=by kernel_rfl
theorem j4:(namedTie Tryz.prog Rows.chainFindsRow.named Rows.chainFindsSpec.vars)=true:=by kernel_rfl
theorem j5:(Rows.chainFindsRow.stops==[])=true:=by kernel_rfl
theorem j6:(Tryz.prog.stops==[])=true:=by kernel_rfl
theorem j7:(Rows.chainFindsRow.knobs==[])=true:=by kernel_rfl
theorem j8:(Tryz.prog.stopKnobs==[])=true:=by kernel_rfl
theorem j9:(Rows.chainFindsRow.inPlace==Tryz.prog.inPlace 8)=true:=by kernel_rfl
theorem j10:(Rows.chainFindsRow.unfollowed==Tryz.prog.unfollowed 8)=true:=by kernel_rfl
theorem j11:(Rows.chainFindsRow.recurses==Tryz.prog.recurses 8)=true:=by kernel_rfl
theorem j12:(Rows.chainFindsRow.named==Tryz.prog.varsNamed 8)=true:=by kernel_rfl
theorem j13:(Rows.chainFindsRow.maps==(Tryz.f8.params.toList++Rows.chainFindsSpec.plain.varTypes Tryz.prog).any (Tryz.prog.mapsRec ·))=true:=by kernel_rfl
theorem j14:(Rows.chainFindsRow.ifaces==(Tryz.f8.params.toList++Rows.chainFindsSpec.plain.varTypes Tryz.prog).any (Tryz.prog.ifacesRec ·))=true:=by kernel_rfl
theorem j15:(Rows.chainFindsRow.mapsOut==Tryz.prog.mapsAmong Tryz.f8.resultTypes.toList)=true:=by kernel_rfl
theorem j16:(Rows.chainFindsRow.loops==(Tryz.f8.params.toList++Rows.chainFindsSpec.plain.varTypes Tryz.prog).any (Tryz.prog.loopsFrom ·))=true:=by kernel_rfl
theorem j17:(Rows.chainFindsRow.wideKeys==(Tryz.f8.params.toList++Rows.chainFindsSpec.plain.varTypes Tryz.prog++Tryz.f8.resultTypes.toList).any (Tryz.prog.wideKeysFrom ·))=true:=by kernel_rfl
theorem j18:(Rows.chainFindsSpec.vars.all (Tryz.prog.varReadable ·))=true:=by kernel_rfl
theorem j19:(Tryz.f8.resultTypes.all (fun t=>Tryz.prog.readableRec t&&decide (t<Tryz.prog.types.size)))=true:=by kernel_rfl
theorem j20:(Rows.chainFindsRow.ifacesOut==Tryz.f8.resultTypes.toList.any (Tryz.prog.ifacesRec ·))=true:=by kernel_rfl
theorem j21:(Rows.chainFindsRow.loopsOut==Tryz.f8.resultTypes.toList.any (Tryz.prog.loopsFrom ·))=true:=by kernel_rfl
theorem j22:(Rows.chainFindsRow.plainKeys==Tryz.prog.plainKeys)=true:=by kernel_rfl
theorem j23:(Rows.chainFindsRow.shortTexts.isNone)=true:=by kernel_rfl
theorem j24:(Tryz.prog.stopsHeard)=true:=by kernel_rfl
theorem j25:(Tryz.prog.mayEnter)=true:=by kernel_rfl
theorem j26:(Rows.chainFindsRow.lifted==Tryz.prog.liftsFinal)=true:=by kernel_rfl
theorem j27:(Tryz.prog.make==some Rows.chainFindsRow.make)=true:=by kernel_rfl
theorem j28:(Rows.chainFindsRow.kinds==(if Rows.chainFindsRow.domain.isEmpty then [] else Tryz.f8.params.toList.map fun t=>match Tryz.prog.underlying t with|some (.int k)=>some k|_=>none))=true:=by kernel_rfl
theorem j29:(Rows.chainFindsRow.pinned==Rows.chainFindsRow.pinnedBy)=true:=by kernel_rfl
theorem j30:(Rows.chainFindsRow.veiled==(Tryz.f8.params.toList++Rows.chainFindsSpec.plain.varTypes Tryz.prog++Tryz.f8.resultTypes.toList).any (Tryz.prog.veiledRec ·))=true:=by kernel_rfl
theorem j31:(Rows.chainFindsRow.veiledFits Tryz.prog Tryz.f8.params.toList (Tryz.f8.params.toList++Rows.chainFindsSpec.plain.varTypes Tryz.prog++Tryz.f8.resultTypes.toList))=true:=by kernel_rfl
theorem hB:joinedFacts Tryz.prog 8 Tryz.f8 Rows.chainFindsSpec Rows.chainFindsRow=true:=by
 simp only[joinedFacts,w0a]
 exact⟨⟨⟨⟨⟨⟨⟨⟨⟨⟨⟨⟨⟨⟨⟨⟨⟨⟨⟨⟨⟨⟨⟨⟨⟨⟨⟨⟨⟨⟨⟨j0,j1⟩,j2⟩,j3⟩,j4⟩,j5⟩,j6⟩,j7⟩,j8⟩,j9⟩,j10⟩,j11⟩,j12⟩,j13⟩,j14⟩,j15⟩,j16⟩,j17⟩,j18⟩,j19⟩,j20⟩,j21⟩,j22⟩,j23⟩,j24⟩,j25⟩,j26⟩,j27⟩,j28⟩,j29⟩,j30⟩,j31⟩
theorem hC:Func.isInstance Tryz.pinned.checked.prog Tryz.f8 Rows.chainFindsRow.origin Rows.chainFindsRow.targs:=of_decide_eq_true (by kernel_rfl)
theorem hD:Func.isWrapper Tryz.pinned.checked.prog Tryz.f8 Rows.chainFindsRow.wrapper Rows.chainFindsRow.mainSum:=by unfold Func.isWrapper;first|(rw[if_pos (by decide+kernel)];kernel_rfl)|(rw[if_neg (by decide+kernel)];exact⟨rfl,rfl⟩)
theorem chainFinds_holds:Rows.ChainFindsSaid:=
 OpenClaim.holds_of_wide 8 Tryz.f8 rfl rfl rfl rfl rfl rfl rfl ⟨rfl,rfl,rfl,rfl,rfl⟩ rfl rfl rfl rfl rfl hA Tryz.func8 hB hC hD
  (fun os started H enc _=>z8Q os started H enc)
end Go.Proofs.YtdmigejeekchiaaGreat
end
