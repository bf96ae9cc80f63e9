/-
  LocalsParts holds for every input: the weight of a value is 1 and those of its parts, its reach is at most as great as its weight, and it is cut just if it says so or a part is cut. No condition besides those of the row.
-/
import Derived.Test.YtmchgfpbddhfnaaGreatL3
import Derived.Test.YtmchgfpbddhfnaaGreatL7
import Derived.Test.YtmchgfpbddhfnaaGreatRows
import Derived.KernelRfl
set_option maxHeartbeats 64000000
set_option linter.unusedVariables false
set_option linter.unusedSimpArgs false
open Nat renaming zero_le → w2a
open List renaming mem_cons_of_mem → w1b, mem_cons_self → w20
open Bool renaming and_eq_true → w03
section
namespace Go.Proofs.YtmchgfpbddhfnaaGreat
set_option linter.unusedSimpArgs false
set_option maxRecDepth 100000
open Go.Vs Go.ChangeShapes Go.WideShapes Go.ChangeAt Go.RowKit Go.Proofs.W
theorem cells70:Tryz.prog.cellsOf 70=5:=by kernel_rfl
theorem cells5:Tryz.prog.cellsOf 5=1:=by kernel_rfl
theorem cells2:Tryz.prog.cellsOf 2=1:=by kernel_rfl
theorem cells9:Tryz.prog.cellsOf 9=1:=by kernel_rfl
theorem cells68:Tryz.prog.cellsOf 68=1:=by kernel_rfl
theorem cells4:Tryz.prog.cellsOf 4=1:=by kernel_rfl
theorem z1S: ∀(ys:List AV),(∀y∈ys,∃v,emb v=y∧okv v)→ ∃l,embs l=ys∧okvs l
 | [],_=>⟨[],rfl,trivial⟩
 |y::r,h=>by
  obtain⟨v,h1,h2⟩:=h y w20
  obtain⟨l,h3,h4⟩:=z1S r (fun z hz=>h z (w1b _ hz))
  exact⟨v::l,by simp only[embs,h1,h3],h2,h4⟩
theorem z5a (n:Nat): ∀(xs:List AV),Typed Tryz.prog n 70 xs→ ∃v,emb v= .agg xs∧okv v:=by
 induction n using Nat.strongRecOn with
 |ind n ih=>
  intro xs h
  match n,h with
  |0,h=>exact h.elim
  |1,h=>
   simp only[Typed,Tryz.underlying70] at h
   have:=h.2 ⟨"Kind",5,0,false, "", "",0⟩ (by simp)
   exact this.elim
  |n+2,h=>
   simp only[Typed,Tryz.underlying70] at h
   obtain⟨h1,h2⟩:=h
   rw[cells70] at h1
   match xs,h1 with
   | [a,b,c,d,e],_=>
    have k1:=h2 ⟨"Kind",5,0,false, "", "",0⟩ (by simp)
    have k2:=h2 ⟨"Int",2,1,false, "", "",8⟩ (by simp)
    have k3:=h2 ⟨"Text",9,2,false, "", "",16⟩ (by simp)
    have k4:=h2 ⟨"List",68,3,false, "", "",32⟩ (by simp)
    have k5:=h2 ⟨"Cut",4,4,false, "", "",56⟩ (by simp)
    simp only[cells5,cells2,cells9,cells68,cells4,Typed,Tryz.underlying5,Tryz.underlying2,Tryz.underlying9,Tryz.underlying68,Tryz.underlying4,List.drop_zero,List.drop_succ_cons,List.take_succ_cons,List.take_zero,List.cons.injEq,and_true] at k1 k2 k3 k4 k5
    obtain⟨kk,rfl,_⟩:=k1
    obtain⟨ii,rfl,_⟩:=k2
    obtain⟨s,rfl,_⟩:=k3
    obtain⟨bb,rfl⟩:=k5
    rcases k4 with rfl|⟨ys,rfl,hl,hy⟩
    ·exact⟨.mk kk ii s true [] bb,by rw[zS];rfl,by simp[okv,okvs]⟩
    ·obtain⟨l,h3,h4⟩:=z1S ys (fun y hm=>by
      obtain⟨hy1,hy2⟩:=hy y hm
      unfold IsElem at hy1
      rw[if_pos (by kernel_rfl)] at hy1
      obtain⟨cs,rfl⟩:=hy1
      exact ih n (by omega) cs hy2)
     refine⟨.mk kk ii s false l bb,?_,?_,h4⟩
     ·rw[zS,lst,Bool.and_false,if_neg (by decide),h3,cells70]
     ·rw[←kh,h3];exact hl
theorem law (ys:List AV) (h:ArgsT Tryz.prog [70] ys): ∃m',CALL tab zf ys Mem.zero=some (.bool true,m'):=by
 obtain⟨y,r,rfl,⟨h1,n,h2⟩,h3⟩:=h
 have h3:r=[]:=h3
 subst h3
 unfold IsElem at h1
 rw[if_pos (by kernel_rfl)] at h1
 obtain⟨cs,rfl⟩:=h1
 obtain⟨v,hv,ho⟩:=z5a n cs h2
 rw[←hv]
 exact Wp v ho Mem.zero (w2a _)
theorem Tryz.own:ownKnob Tryz.prog.godebug=none:=by kernel_rfl
theorem Tryz.laidOut:laidOutB Tryz.prog=true:=by kernel_rfl
theorem z3K (os:Os) (started:os.Started) (H:Type) (enc:TypeId×Value→H):
  ReturnsInHanded {} Tryz.checked os 6 .any (Rows.localsPartsSpec.pre6 enc Tryz.prog Tryz.f6 Rows.localsPartsRow.domain false) (Rows.localsPartsSpec.post enc Tryz.prog Tryz.f6 false true false false):=by
 refine returnsInHanded_of_change (C:=Tryz.checked) Tryz.own started (by kernel_rfl) Tryz.func6
  (ChangeSpec.witness6 (enc:=enc) (C:=Tryz.checked) false ⟨#[],#[.agg #[.int .u8 0,.int .i64 0,.string ⟨#[]⟩,.slice none 0 0,.bool false]],[]⟩ 8 (by kernel_rfl) (by kernel_rfl) (by kernel_rfl) (by kernel_rfl)) ?_
 intro W base args ds gs before hval hW _ _
 exact z3m (P:=Tryz.prog) (tab:=tab) (S:=[70,5,2,9,68,4]) (tb:=4) (by kernel_rfl) tabOk (by kernel_rfl) Tryz.laidOut rfl (by kernel_rfl) rfl Tryz.underlying4
  (fun ds hd=>by
   match ds,hd with
   | [d],_=>rfl) law hval hW
theorem hA:Tryz.pinned.checked.prog.funcNamed Rows.localsPartsRow.func=some 6:=by kernel_rfl
theorem j0:(Rows.localsPartsRow.wf (OpenSpec.ofChange Rows.localsPartsSpec))=true:=by kernel_rfl
theorem j1:(laidOutB Tryz.prog)=true:=by kernel_rfl
theorem j2:(mapsRowed Tryz.prog)=true:=by kernel_rfl
theorem j3:(Tryz.f6.params.all (Tryz.prog.readableRec ·))=true:=by kernel_rfl
theorem j4:(namedTie Tryz.prog Rows.localsPartsRow.named Rows.localsPartsSpec.vars)=true:=by kernel_rfl
theorem j5:(Rows.localsPartsRow.stops==[])=true:=by kernel_rfl
theorem j6:(Tryz.prog.stops==[])=true:=by kernel_rfl
theorem j7:(Rows.localsPartsRow.knobs==[])=true:=by kernel_rfl
theorem j8:(Tryz.prog.stopKnobs==[])=true:=by kernel_rfl
theorem j9:(Rows.localsPartsRow.inPlace==Tryz.prog.inPlace 6)=true:=by kernel_rfl
theorem j10:(Rows.localsPartsRow.unfollowed==Tryz.prog.unfollowed 6)=true:=by kernel_rfl
theorem j11:(Rows.localsPartsRow.recurses==Tryz.prog.recurses 6)=true:=by kernel_rfl
theorem j12:(Rows.localsPartsRow.named==Tryz.prog.varsNamed 6)=true:=by kernel_rfl
theorem j13:(Rows.localsPartsRow.maps==(Tryz.f6.params.toList++Rows.localsPartsSpec.plain.varTypes Tryz.prog).any (Tryz.prog.mapsRec ·))=true:=by kernel_rfl
theorem j14:(Rows.localsPartsRow.ifaces==(Tryz.f6.params.toList++Rows.localsPartsSpec.plain.varTypes Tryz.prog).any (Tryz.prog.ifacesRec ·))=true:=by kernel_rfl
theorem j15:(Rows.localsPartsRow.mapsOut==Tryz.prog.mapsAmong Tryz.f6.resultTypes.toList)=true:=by kernel_rfl
theorem j16:(Rows.localsPartsRow.loops==(Tryz.f6.params.toList++Rows.localsPartsSpec.plain.varTypes Tryz.prog).any (Tryz.prog.loopsFrom ·))=true:=by kernel_rfl
theorem j17:(Rows.localsPartsRow.wideKeys==(Tryz.f6.params.toList++Rows.localsPartsSpec.plain.varTypes Tryz.prog++Tryz.f6.resultTypes.toList).any (Tryz.prog.wideKeysFrom ·))=true:=by kernel_rfl
theorem j18:(Rows.localsPartsSpec.vars.all (Tryz.prog.varReadable ·))=true:=by kernel_rfl
theorem j19:(Tryz.f6.resultTypes.all (fun t=>Tryz.prog.readableRec t&&decide (t<Tryz.prog.types.size)))=true:=by kernel_rfl
theorem j20:(Rows.localsPartsRow.ifacesOut==Tryz.f6.resultTypes.toList.any (Tryz.prog.ifacesRec ·))=true:=by kernel_rfl
theorem j21:(Rows.localsPartsRow.loopsOut==Tryz.f6.resultTypes.toList.any (Tryz.prog.loopsFrom ·))=true:=by kernel_rfl
theorem j22:(Rows.localsPartsRow.plainKeys==Tryz.prog.plainKeys)=true:=by kernel_rfl
theorem j23:(Rows.localsPartsRow.shortTexts.isNone)=true:=by kernel_rfl
theorem j24:(Tryz.prog.stopsHeard)=true:=by kernel_rfl
theorem j25:(Tryz.prog.mayEnter)=true:=by kernel_rfl
theorem j26:(Rows.localsPartsRow.lifted==Tryz.prog.liftsFinal)=true:=by kernel_rfl
theorem j27:(Tryz.prog.make==some Rows.localsPartsRow.make)=true:=by kernel_rfl
theorem j28:(Rows.localsPartsRow.kinds==(if Rows.localsPartsRow.domain.isEmpty then [] else Tryz.f6.params.toList.map fun t=>match Tryz.prog.underlying t with|some (.int k)=>some k|_=>none))=true:=by kernel_rfl
theorem j29:(Rows.localsPartsRow.pinned==Rows.localsPartsRow.pinnedBy)=true:=by kernel_rfl
theorem j30:(Rows.localsPartsRow.veiled==(Tryz.f6.params.toList++Rows.localsPartsSpec.plain.varTypes Tryz.prog++Tryz.f6.resultTypes.toList).any (Tryz.prog.veiledRec ·))=true:=by kernel_rfl
theorem j31:(Rows.localsPartsRow.veiledFits Tryz.prog Tryz.f6.params.toList (Tryz.f6.params.toList++Rows.localsPartsSpec.plain.varTypes Tryz.prog++Tryz.f6.resultTypes.toList))=true:=by kernel_rfl
theorem hB:joinedFacts Tryz.prog 6 Tryz.f6 Rows.localsPartsSpec Rows.localsPartsRow=true:=by
 simp only[joinedFacts,w03]
 exact⟨⟨⟨⟨⟨⟨⟨⟨⟨⟨⟨⟨⟨⟨⟨⟨⟨⟨⟨⟨⟨⟨⟨⟨⟨⟨⟨⟨⟨⟨⟨j0,j1⟩,j2⟩,j3⟩,j4⟩,j5⟩,j6⟩,j7⟩,j8⟩,j9⟩,j10⟩,j11⟩,j12⟩,j13⟩,j14⟩,j15⟩,j16⟩,j17⟩,j18⟩,j19⟩,j20⟩,j21⟩,j22⟩,j23⟩,j24⟩,j25⟩,j26⟩,j27⟩,j28⟩,j29⟩,j30⟩,j31⟩
theorem hC:Func.isInstance Tryz.pinned.checked.prog Tryz.f6 Rows.localsPartsRow.origin Rows.localsPartsRow.targs:=of_decide_eq_true (by kernel_rfl)
theorem hD:Func.isWrapper Tryz.pinned.checked.prog Tryz.f6 Rows.localsPartsRow.wrapper Rows.localsPartsRow.mainSum:=by unfold Func.isWrapper;first|(rw[if_pos (by decide+kernel)];kernel_rfl)|(rw[if_neg (by decide+kernel)];exact⟨rfl,rfl⟩)
theorem localsParts_holds:Rows.LocalsPartsSaid:=
 OpenClaim.holds_of_wide 6 Tryz.f6 rfl rfl rfl rfl rfl rfl rfl ⟨rfl,rfl,rfl,rfl,rfl⟩ rfl rfl rfl rfl rfl hA Tryz.func6 hB hC hD
  (fun os started H enc _=>z3K os started H enc)
end Go.Proofs.YtmchgfpbddhfnaaGreat
end
