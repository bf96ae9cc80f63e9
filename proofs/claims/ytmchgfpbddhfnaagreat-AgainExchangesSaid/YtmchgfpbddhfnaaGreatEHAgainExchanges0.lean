/-
  AgainExchanges holds for every input: exchanging a section and exchanging it back gives the same bytes. No condition besides those of the row.
-/
import Derived.Test.YtmchgfpbddhfnaaGreatE3
import Derived.Test.YtmchgfpbddhfnaaGreatE8
import Derived.Test.YtmchgfpbddhfnaaGreatRows
set_option maxHeartbeats 64000000
set_option linter.unusedVariables false
set_option linter.unusedSimpArgs false
open Nat renaming zero_le → w10
open List renaming mem_cons_of_mem → w11, mem_cons_self → w13
open Bool renaming and_eq_true → w03
section
namespace Go.Proofs.YtmchgfpbddhfnaaGreat
set_option maxRecDepth 100000
set_option linter.unusedSimpArgs false
open Go.Vs Go.ChangeShapes Go.WideShapes Go.ChangeAt Go.RowKit Go.Proofs.W
def toSec (s:DSection):Sec:=⟨UInt8.ofNat s.kind.toNat,s.data⟩
theorem sec1 {s:DSection} {y:AV} (h:IsSection s y) (w:WfSection s):IsSec (toSec s) y:=by
 obtain⟨v,rfl,hv⟩:=h
 have hk:0≤s.kind∧s.kind<256:=w.kind
 refine⟨v,?_,hv⟩
 have:((UInt8.ofNat s.kind.toNat).toNat:Int)=s.kind:=by simp;omega
 show AV.agg [.int .u8 s.kind,v]= .agg [.int .u8 ((UInt8.ofNat s.kind.toNat).toNat:Int),v]
 rw[this]
theorem z7H: ∀{d:List DSection} {ys:List AV},All2 IsSection d ys→(∀x∈d,WfSection x)→All2 IsSec (d.map toSec) ys
 | [],[],_,_=>trivial
 |s::r,y::ys,h,w=>⟨sec1 h.1 (w s w13),z7H h.2 (fun x m=>w x (w11 _ m))⟩
theorem zc0 {d:List DSection} {y:AV} (h:IsSl IsSection 2 d y) (w: ∀x∈d,WfSection x):IsSl IsSec 2 (d.map toSec) y:=by
 refine⟨by rw[List.length_map];exact h.1,?_⟩
 rcases h.2 with⟨a,b⟩|⟨tk,ys,e,k⟩
 ·exact .inl ⟨by rw[a];rfl,b⟩
 ·exact .inr ⟨tk,ys,e,z7H k w⟩
theorem law (ys:List AV) (h:ArgsT Tryz.prog [56,5,30,30] ys): ∃m',CALL tab 5 ys Mem.zero=some (.bool true,m'):=by
 obtain⟨x0,r0,rfl,g0,x1,r1,rfl,g1,x2,r2,rfl,g2,x3,r3,rfl,g3,gz⟩:=h
 have gz:r3=[]:=gz
 subst gz
 obtain⟨e0,n0,t0⟩:=g0
 rw[Yy e0 (by kernel_rfl)] at t0
 obtain⟨v0,u0,c0,k0,w0⟩:=rd56 n0 _ t0
 injection c0 with c0 _
 subst c0
 obtain⟨e1,n1,t1⟩:=g1
 rw[Yy e1 (by kernel_rfl)] at t1
 obtain⟨v1,u1,c1,k1,w1⟩:=rd5 n1 _ t1
 injection c1 with c1 _
 subst c1
 obtain⟨e2,n2,t2⟩:=g2
 rw[Yy e2 (by kernel_rfl)] at t2
 obtain⟨v2,u2,c2,k2,w2⟩:=rd30 n2 _ t2
 injection c2 with c2 _
 subst c2
 obtain⟨e3,n3,t3⟩:=g3
 rw[Yy e3 (by kernel_rfl)] at t3
 obtain⟨v3,u3,c3,k3,w3⟩:=rd30 n3 _ t3
 injection c3 with c3 _
 subst c3
 obtain rfl:=k1
 obtain⟨q1,rfl⟩: ∃q:Nat,v1=(q:Int):=⟨v1.toNat,by unfold inU8 at w1;omega⟩
 obtain⟨k,hk⟩:=Ul (v0.map toSec) x0 q1 (zc0 k0 w0) v2 v3 x2 x3 k2 k3 Mem.zero (w10 _)
 exact⟨_,hk⟩
theorem Tryz.own:ownKnob Tryz.prog.godebug=none:=by kernel_rfl
theorem Tryz.laidOut:laidOutB Tryz.prog=true:=by kernel_rfl
theorem zbq (os:Os) (started:os.Started) (H:Type) (enc:TypeId×Value→H):
  ReturnsInHanded {} Tryz.checked os 5 .any (Rows.againExchangesSpec.pre6 enc Tryz.prog Tryz.f5 Rows.againExchangesRow.domain false) (Rows.againExchangesSpec.post enc Tryz.prog Tryz.f5 false true false false):=by
 refine returnsInHanded_of_change (C:=Tryz.checked) Tryz.own started (by kernel_rfl) Tryz.func5
  (ChangeSpec.witness6 (enc:=enc) (C:=Tryz.checked) false ⟨#[],#[.slice none 0 0,.int .u8 0,.slice none 0 0,.slice none 0 0],[]⟩ 12 (by kernel_rfl) (by kernel_rfl) (by kernel_rfl) (by kernel_rfl)) ?_
 intro W base args ds gs before hval hW _ _
 exact zb1 (P:=Tryz.prog) (tab:=tab) (S:=[30,5,66,56]) (tb:=4) (by kernel_rfl) tabOk z6i Tryz.laidOut rfl (by kernel_rfl) rfl Tryz.underlying4
  (fun ds hd=>by
   match ds,hd with
   | [d1,d2,d3,d4],_=>rfl) law hval hW
theorem hA:Tryz.pinned.checked.prog.funcNamed Rows.againExchangesRow.func=some 5:=by kernel_rfl
theorem j0:(Rows.againExchangesRow.wf (OpenSpec.ofChange Rows.againExchangesSpec))=true:=by kernel_rfl
theorem j1:(laidOutB Tryz.prog)=true:=by kernel_rfl
theorem j2:(mapsRowed Tryz.prog)=true:=by kernel_rfl
theorem j3:(Tryz.f5.params.all (Tryz.prog.readableRec ·))=true:=by kernel_rfl
theorem j4:(namedTie Tryz.prog Rows.againExchangesRow.named Rows.againExchangesSpec.vars)=true:=by kernel_rfl
theorem j5:(Rows.againExchangesRow.stops==[])=true:=by kernel_rfl
theorem j6:(Tryz.prog.stops==[])=true:=by kernel_rfl
theorem j7:(Rows.againExchangesRow.knobs==[])=true:=by kernel_rfl
theorem j8:(Tryz.prog.stopKnobs==[])=true:=by kernel_rfl
theorem j9:(Rows.againExchangesRow.inPlace==Tryz.prog.inPlace 5)=true:=by kernel_rfl
theorem j10:(Rows.againExchangesRow.unfollowed==Tryz.prog.unfollowed 5)=true:=by kernel_rfl
theorem j11:(Rows.againExchangesRow.recurses==Tryz.prog.recurses 5)=true:=by kernel_rfl
theorem j12:(Rows.againExchangesRow.named==Tryz.prog.varsNamed 5)=true:=by kernel_rfl
theorem j13:(Rows.againExchangesRow.maps==(Tryz.f5.params.toList++Rows.againExchangesSpec.plain.varTypes Tryz.prog).any (Tryz.prog.mapsRec ·))=true:=by kernel_rfl
theorem j14:(Rows.againExchangesRow.ifaces==(Tryz.f5.params.toList++Rows.againExchangesSpec.plain.varTypes Tryz.prog).any (Tryz.prog.ifacesRec ·))=true:=by kernel_rfl
theorem j15:(Rows.againExchangesRow.mapsOut==Tryz.prog.mapsAmong Tryz.f5.resultTypes.toList)=true:=by kernel_rfl
theorem j16:(Rows.againExchangesRow.loops==(Tryz.f5.params.toList++Rows.againExchangesSpec.plain.varTypes Tryz.prog).any (Tryz.prog.loopsFrom ·))=true:=by kernel_rfl
theorem j17:(Rows.againExchangesRow.wideKeys==(Tryz.f5.params.toList++Rows.againExchangesSpec.plain.varTypes Tryz.prog++Tryz.f5.resultTypes.toList).any (Tryz.prog.wideKeysFrom ·))=true:=by kernel_rfl
theorem j18:(Rows.againExchangesSpec.vars.all (Tryz.prog.varReadable ·))=true:=by kernel_rfl
theorem j19:(Tryz.f5.resultTypes.all (fun t=>Tryz.prog.readableRec t&&decide (t<Tryz.prog.types.size)))=true:=by kernel_rfl
theorem j20:(Rows.againExchangesRow.ifacesOut==Tryz.f5.resultTypes.toList.any (Tryz.prog.ifacesRec ·))=true:=by kernel_rfl
theorem j21:(Rows.againExchangesRow.loopsOut==Tryz.f5.resultTypes.toList.any (Tryz.prog.loopsFrom ·))=true:=by kernel_rfl
theorem j22:(Rows.againExchangesRow.plainKeys==Tryz.prog.plainKeys)=true:=by kernel_rfl
theorem j23:(Rows.againExchangesRow.shortTexts.isNone)=true:=by kernel_rfl
theorem j24:(Tryz.prog.stopsHeard)=true:=by kernel_rfl
theorem j25:(Tryz.prog.mayEnter)=true:=by kernel_rfl
theorem j26:(Rows.againExchangesRow.lifted==Tryz.prog.liftsFinal)=true:=by kernel_rfl
theorem j27:(Tryz.prog.make==some Rows.againExchangesRow.make)=true:=by kernel_rfl
theorem j28:(Rows.againExchangesRow.kinds==(if Rows.againExchangesRow.domain.isEmpty then [] else Tryz.f5.params.toList.map fun t=>match Tryz.prog.underlying t with|some (.int k)=>some k|_=>none))=true:=by kernel_rfl
theorem j29:(Rows.againExchangesRow.pinned==Rows.againExchangesRow.pinnedBy)=true:=by kernel_rfl
theorem j30:(Rows.againExchangesRow.veiled==(Tryz.f5.params.toList++Rows.againExchangesSpec.plain.varTypes Tryz.prog++Tryz.f5.resultTypes.toList).any (Tryz.prog.veiledRec ·))=true:=by kernel_rfl
theorem j31:(Rows.againExchangesRow.veiledFits Tryz.prog Tryz.f5.params.toList (Tryz.f5.params.toList++Rows.againExchangesSpec.plain.varTypes Tryz.prog++Tryz.f5.resultTypes.toList))=true:=by kernel_rfl
theorem hB:joinedFacts Tryz.prog 5 Tryz.f5 Rows.againExchangesSpec Rows.againExchangesRow=true:=by
 simp only[joinedFacts,w03]
 exact⟨⟨⟨⟨⟨⟨⟨⟨⟨⟨⟨⟨⟨⟨⟨⟨⟨⟨⟨⟨⟨⟨⟨⟨⟨⟨⟨⟨⟨⟨⟨j0,j1⟩,j2⟩,j3⟩,j4⟩,j5⟩,j6⟩,j7⟩,j8⟩,j9⟩,j10⟩,j11⟩,j12⟩,j13⟩,j14⟩,j15⟩,j16⟩,j17⟩,j18⟩,j19⟩,j20⟩,j21⟩,j22⟩,j23⟩,j24⟩,j25⟩,j26⟩,j27⟩,j28⟩,j29⟩,j30⟩,j31⟩
theorem hC:Func.isInstance Tryz.pinned.checked.prog Tryz.f5 Rows.againExchangesRow.origin Rows.againExchangesRow.targs:=of_decide_eq_true (by kernel_rfl)
theorem hD:Func.isWrapper Tryz.pinned.checked.prog Tryz.f5 Rows.againExchangesRow.wrapper Rows.againExchangesRow.mainSum:=by unfold Func.isWrapper;first|(rw[if_pos (by decide+kernel)];kernel_rfl)|(rw[if_neg (by decide+kernel)];exact⟨rfl,rfl⟩)
theorem againExchanges_holds:Rows.AgainExchangesSaid:=
 OpenClaim.holds_of_wide 5 Tryz.f5 rfl rfl rfl rfl rfl rfl rfl ⟨rfl,rfl,rfl,rfl,rfl⟩ rfl rfl rfl rfl rfl hA Tryz.func5 hB hC hD
  (fun os started H enc _=>zbq os started H enc)
end Go.Proofs.YtmchgfpbddhfnaaGreat
end
