/-
  ChainEnds holds for every input: its law function returns true, and the arguments read as they did. No condition besides those of the row.
-/
import Derived.Test.YtdmigejeekchiaaGreatH6
import Derived.Test.YtdmigejeekchiaaGreatRows
set_option maxHeartbeats 64000000
set_option maxRecDepth 1000000
set_option linter.unusedVariables false
set_option linter.unusedSimpArgs false
open Nat renaming reduceMul → G2, reduceAdd → G3, reduceSub → G4, reduceEqDiff → G6, reduceBEq → G7, reduceLT → G8, reduceLeDiff → G9, le_refl → w08, min_eq_left → w0c, zero_le → w0e, zero_add → w1f
open Int renaming reduceEq → H0, reduceLT → H1, reduceLE → H2, reduceAdd → H3, reduceSub → H4, reduceMul → H5, reducePow → H6, reduceToNat → H7, ofNat_lt → w02, toNat_natCast → w07, toNat_zero → w18, toNat_of_nonneg → w45
open Option renaming map_some → w06, map_none → w0d, getD_some → w32
open List renaming getD_eq_getElem?_getD → w03, getElem_mem → w04, mem_append → w0b, getElem?_eq_getElem → w1d, append_nil → w21, getElem?_map → w22, mem_cons_self → w24, cons_append → w26, ext_getElem? → w27, mem_cons_of_mem → w2c, nil_append → w2e, all_eq_true → w37, flatten_cons → w3e, length_nil → w46, mem_iff_getElem → w49, mem_append_left → w52, mem_cons → w57, mem_append_right → w5a
open Bool renaming and_eq_true → w09, false_and → w16, and_false → w17
section
namespace Go.Proofs.W
open Go.Vs
attribute [local go_sem high] zm zT
attribute [local go_sem ↓] w06 w0d
attribute [local go_sem low] Yc Yt Yf Yut Yuf yy yz yw yx
attribute [local go_sem 2000] zK
attribute [local go_sem] x6 x5 x9 x8 zR zu y7 zP zW zt yq yn ym hd kep yj w02 AV.bool.injEq AV.int.injEq not_true_eq_false not_false_eq_true true_implies false_implies and_true true_and implies_true zl zI zH zk zJ zw zc z8 zj zB zA zi zC zy zb z9 w07 zD zE zZ w18 evShift IntKind.bits zL zF zG z6 za zQ zx w0c yu yr allLen zd AV.tup.injEq List.cons.injEq AV.agg.injEq zV zU evBuild yo zN zn zM eqC0 eqC1 eqC2 zO w17 w16
attribute [go_sem] t8 vh xJ
theorem z1j (l:List Int) (y:AV) (hy:IsSl (IsK .u64) 1 l y) (i:Nat) (hi:i<l.length) (m:Mem):Okv tab 43 [y,.int .i64 (i:Int)] m (.bool (pb (∀k (h:k<l.length),k≠i→l[k]≠l[i]))):=by
 have f:=nd hy.z (nd (nthK hy) hi)
 have:=hy.max
 refine okz (tT t8) fun s c x v g _=> ?_
 refine xn 5 l.length [] (fun j _ _=> ∀k (h:k<l.length),k<j→k≠i→l[k]≠l[i]) 0 ?_ fun j v e nz hj hp=> ?_
 ·exact fun j hj hi=>by omega
 repeat' first|refine ifs ?_ ?_|intro
 all_goals clear f hy;try simp only[vp,vo,x5,x6,eq_iff_iff,true_iff,false_iff] at*
 all_goals grind
theorem UM (d:DDump) (y:AV) (hy:IsDump d y) (hs:SmD d) (a n:Int) (ha:0≤a∧a<18446744073709551616) (l:List Int) (z:AV) (hz:IsSl (IsK .u64) 1 l z) (m:Mem) (hf:m.floor≤m.stk.length+1):Okv tab 42 [y,.int .u64 a,z,.int .i64 n] m (.bool (if n<l.length then decide ((followR d a n).2=40) else decide ((followR d a n).2=0∧(followR d a n).1=l))):=by
 have hF:=fun m hf=>Yq d y hy hs a n ha m hf
 obtain⟨v0,v1,v2,v3,v4,v5,v6,v7,rfl,h⟩:=IsDump.v hy
 have f:=nd h.o (nd hz.co hz.z)
 refine okz (tT vh) fun s c x v fl e=> ?_
 subst e
 simp at hf
 have hlen:(followR d a n).1.length≤410:=by
  unfold followR
  split
  ·simp
  split
  ·simp
  ·have:=Ut d n.toNat a;omega
 refine op (hF _ (by simp;omega)) fun y2 t2 k2 o2=> ?_
 have f:=nd f (nd o2.co fun m=>(Vn _ _ _ _ (o2.sl (by omega)) hz m).eq)
 refine st ?_
 repeat' first|refine ifs ?_ ?_|intro
 all_goals clear f;simp[*]
theorem V4 {d:DDump} {L:List Int} {n a:Int} {q:Nat} (hk:ok28 d=true) (h0: ¬n<0) (h1: ¬n>410) (hR:Recs d q L) (hq:0<q) (ha:a=L.getD 0 0):(if n<L.length then decide ((followR d a n).2=40) else decide ((followR d a n).2=0∧(followR d a n).1=L))=true:=by
 have hF:=Us L n.toNat (hR.go hq)
 subst ha
 have e1: ¬(n<0∨410<n):=by omega
 rw[w03] at hF
 by_cases h:n<L.length
 ·have h2: ¬L.length≤n.toNat:=by omega
  simp[followR,hk,h,h2,e1,hF]
 ·have h2:L.length≤n.toNat:=by omega
  simp[followR,hk,h,h2,e1,hF]
theorem z0u {l:List Int} {y:AV} (hy:IsSl (IsK .u64) 1 l y) {F:Int→Int} (h: ∀i (h:i<l.length),l[i]≠0∧F l[i]=l.getD (i+1) 0) (i:Nat) (hi:i<l.length) (m:Mem):Okv tab 43 [y,.int .i64 (i:Int)] m (.bool true):=by
 have:=z1j l y hy i hi m
 rwa [yB] at this
 intro k hk hne
 rcases Nat.lt_or_gt_of_ne hne with g|g
 ·exact Xb h _ k i g hi (w08 _)
 ·exact fun e=>Xb h _ i k g hk (w08 _) e.symm
theorem z2j (d:DDump) (y:AV) (hy:IsDump d y) (hw:WfDump d) (g n:Int) (m:Mem) (hf:m.floor≤m.stk.length+1):Okv tab 9 [y,.int .i64 g,.int .i64 n] m (.bool true):=by
 have hL:=fun m=>kp d y hy m
 have hA:=fun hs g m hf=>qa d y hy hs g m hf
 have hP:=fun hs g m hf=>tZ d y hy hs g m hf
 have hB:=fun hs a ha l z hz m hf=>UM d y hy hs a n ha l z hz m hf
 have hK:=fun hl m hf=>ko d y hy hw hl g m hf
 obtain⟨v0,v1,v2,v3,v4,v5,v6,v7,rfl,h⟩:=IsDump.v hy
 have f:=nd h.o (nd h.r.z (nthH h.r))
 refine okz (tT xJ) fun s c x v fl e=> ?_
 subst e
 simp at hf
 refine ow (Vv _ (by simp;omega)) fun k=> ?_
 refine ow (hL _) fun k=> ?_
 refine ifs (fun hl=> ?_) fun hl=> ?_
 ·trivial
 have hl:large28 d=false:=by simpa using hl
 have hs:=SmD.of hw hl
 have hn:d.image.funcs.length≤40:=by have:=hs.g;simp[great09] at this;omega
 refine ow (hK hl _ (by simp;omega)) fun k=> ?_
 refine ifs (fun ha=> ?_) fun ha=> ?_
 ·trivial
 obtain⟨hk,h2,h3⟩:=Qv (by simpa using ha)
 obtain⟨j,rfl⟩: ∃j:Nat,g=j:=⟨g.toNat,by omega⟩
 have hjr:j<d.routines.length:=by omega
 obtain⟨q1,q2,q3,q4,q5,q6⟩:=qx hk
 refine ifs (fun hn0=> ?_) fun hn0=> ?_
 ·trivial
 refine ifs (fun hn1=> ?_) fun hn1=> ?_
 ·trivial
 have hjd:j<d.defers.length:=by omega
 have hjp:j<d.panics.length:=by omega
 have hlen:=nd (Wk d j) (W7 d j)
 have eD:d.defers.getD j []=d.defers[j]:=by simp[w03,hjd]
 have eP:d.panics.getD j []=d.panics[j]:=by simp[w03,hjp]
 have hy6:=h.f.nth hjd
 have hy7:=h.p.nth hjp
 obtain⟨hh1,hh2⟩:=z8B hk hjr
 refine op (hA hs _ _ (by simp;omega)) fun y1 t1 k1 o1=> ?_
 have f:=nd f<|nd o1.co<|nd (o1.sl (by omega)).z<|nd hjr<|nd hjd<|nd hjp<|nd h.f.z<|nd (nthS h.f)<|nd h.p.z<|nd (nthS h.p)<|nd hy6.co<|nd hy6.z<|nd (nthK hy6)<|nd hy7.co<|nd hy7.z (nthK hy7)
 refine st ?_
 refine op (hP hs _ _ (by simp;omega)) fun y2 t2 k2 o2=> ?_
 have f:=nd f (nd o2.co (o2.sl (by omega)).z)
 by_cases he:(defersR d j).2=0
 case' pos=>
  obtain⟨_,hd1,hR,_⟩:=Qk he
  rw[eD] at hd1 hR
  have hfol:=V4 hk hn0 hn1 hR (by omega) (hh1.trans (by rw[eD]))
  have hon:=fun i hi m=>(z0u hy6 (F:=fun a=>(wordR d.heap d.stacks a).1) (fun i hi=>⟨(hR.go (by omega) i hi).1,(hR.go (by omega) i hi).2.2⟩) i hi m).eq
  have hnt:=fun i (hi:i<d.defers[j].length)=>show nth y1 i=dfA (deferD d d.defers[j][i]) from by
   have:=(o1.sl (by omega)).nth (i:=i) (by rw[hd1];simpa using hi)
   simp only[hd1,List.getElem_map] at this
   exact this
  have f:=nd f (nd he (nd hnt (nd hfol (nd hon (nd (fun i (hi:i<d.defers[j].length)=>show(deferD d d.defers[j][i]).at_=d.defers[j][i] from rfl) (show((defersR d j).1.length:Int)=d.defers[j].length by rw[hd1];simp))))))
  refine st ?_
  refine ow (hB hs _ (by have:=(hw.routines _ (w04 hjr)).defers;unfold inU64 at this;omega) _ _ hy6 _ (by simp;omega)) fun k=> ?_
  refine xn 12 d.defers[j].length [] (fun _ _ _=>True) 0 ?_ fun i v e nz hi _=> ?_
  ·trivial
  refine ifs (fun hi=> ?_) fun hi=> ?_
  ·trivial
 case' neg=>
  have f:=nd f he
  refine st ?_
 all_goals
  by_cases hp:(panicsR d j).2=0
  ·obtain⟨_,hd2,hR,_⟩:=TO hp
   rw[eP] at hd2 hR
   have hfol:=V4 hk hn0 hn1 hR (by omega) (hh2.trans (by rw[eP]))
   have hon:=fun i hi m=>(z0u hy7 (F:=fun a=>(wordR d.heap d.stacks a).1) (fun i hi=>⟨(hR.go (by omega) i hi).1,(hR.go (by omega) i hi).2.2⟩) i hi m).eq
   have hnt:=fun i (hi:i<d.panics[j].length)=>show nth y2 i=pnA (panicD d d.panics[j][i]) from by
    have:=(o2.sl (by omega)).nth (i:=i) (by rw[hd2];simpa using hi)
    simp only[hd2,List.getElem_map] at this
    exact this
   have f:=nd f (nd hp (nd hnt (nd hfol (nd hon (nd (fun i (hi:i<d.panics[j].length)=>show(panicD d d.panics[j][i]).at_=d.panics[j][i] from rfl) (show((panicsR d j).1.length:Int)=d.panics[j].length by rw[hd2];simp))))))
   refine st ?_
   refine ow (hB hs _ (by have:=(hw.routines _ (w04 hjr)).panics;unfold inU64 at this;omega) _ _ hy7 _ (by simp;omega)) fun k=> ?_
   refine xn 13 d.panics[j].length [] (fun _ _ _=>True) 0 ?_ fun i v e nz hi _=> ?_
   ·trivial
   refine ifs (fun hi=> ?_) fun hi=> ?_<;>trivial
  ·have f:=nd f hp
   refine st ?_
   trivial
end Go.Proofs.W
end
section
namespace Go.Proofs.YtdmigejeekchiaaGreat
open Go.Vs Go.ChangeShapes Go.WideShapes Go.ChangeAt Go.RowKit Go.Proofs.W
theorem law (ys:List AV) (h:ArgsT Tryz.prog [37,3,3] ys): ∃m',CALL tab 9 ys Mem.zero=some (.bool true,m'):=by
 obtain⟨x0,r0,rfl,g0,x1,r1,rfl,g1,x2,r2,rfl,g2,gz⟩:=h
 have gz:r2=[]:=gz
 subst gz
 obtain⟨d0,a0,b0⟩:=arg37 x0 g0
 obtain⟨e1,n1,t1⟩:=g1
 rw[qL e1 (by kernel_rfl)] at t1
 obtain⟨v1,u1,c1,k1,w1⟩:=rd3 n1 _ t1
 injection c1 with c1 _
 subst c1
 obtain rfl:=k1
 obtain⟨e2,n2,t2⟩:=g2
 rw[qL e2 (by kernel_rfl)] at t2
 obtain⟨v2,u2,c2,k2,w2⟩:=rd3 n2 _ t2
 injection c2 with c2 _
 subst c2
 obtain rfl:=k2
 obtain⟨k,hk⟩:=z2j d0 x0 a0 b0 v1 v2 Mem.zero (w0e _)
 exact⟨_,hk⟩
theorem Tryz.own:ownKnob Tryz.prog.godebug=none:=by kernel_rfl
theorem Tryz.laidOut:laidOutB Tryz.prog=true:=by kernel_rfl
theorem f_lifted (os:Os) (started:os.Started) (H:Type) (enc:TypeId×Value→H):
  ReturnsInHanded {} Tryz.checked os 9 .any (Rows.chainEndsSpec.pre6 enc Tryz.prog Tryz.f9 Rows.chainEndsRow.domain false) (Rows.chainEndsSpec.post enc Tryz.prog Tryz.f9 false true false false):=by
 refine returnsInHanded_of_change (C:=Tryz.checked) Tryz.own started (by kernel_rfl) Tryz.func9
  (ChangeSpec.witness6 (enc:=enc) (C:=Tryz.checked) false ⟨#[],#[.agg #[.slice none 0 0,.slice none 0 0,.slice none 0 0,.int .u8 0,.int .i64 0,.int .i64 0,.int .u64 0,.slice none 0 0,.slice none 0 0,.slice none 0 0,.slice none 0 0,.slice none 0 0],.int .i64 0,.int .i64 0],[]⟩ 12 (by kernel_rfl) (by kernel_rfl) (by kernel_rfl) (by kernel_rfl)) ?_
 intro W base args ds gs before hval hW _ _
 exact TW (P:=Tryz.prog) (tab:=tab) (S:=[54,99,35,2,52,34,33,30,32,28,29,227,66,63,65,68,24,23,9,214,64,3,5,271,22,26,37]) (tb:=4) (by kernel_rfl) tabOk Yv Tryz.laidOut rfl (by kernel_rfl) rfl Tryz.underlying4
  (fun ds hd=>by
   match ds,hd with
   | [d1,d2,d3],_=>rfl) law hval hW
theorem hA:Tryz.pinned.checked.prog.funcNamed Rows.chainEndsRow.func=some 9:=by kernel_rfl
theorem j0:(Rows.chainEndsRow.wf (OpenSpec.ofChange Rows.chainEndsSpec))=true:=by kernel_rfl
theorem j1:(laidOutB Tryz.prog)=true:=by kernel_rfl
theorem j2:(mapsRowed Tryz.prog)=true:=by kernel_rfl
theorem j3:(Tryz.f9.params.all (Tryz.prog.readableRec ·))=true:=by kernel_rfl
theorem j4:(namedTie Tryz.prog Rows.chainEndsRow.named Rows.chainEndsSpec.vars)=true:=by kernel_rfl
theorem j5:(Rows.chainEndsRow.stops==[])=true:=by kernel_rfl
theorem j6:(Tryz.prog.stops==[])=true:=by kernel_rfl
theorem j7:(Rows.chainEndsRow.knobs==[])=true:=by kernel_rfl
theorem j8:(Tryz.prog.stopKnobs==[])=true:=by kernel_rfl
theorem j9:(Rows.chainEndsRow.inPlace==Tryz.prog.inPlace 9)=true:=by kernel_rfl
theorem j10:(Rows.chainEndsRow.unfollowed==Tryz.prog.unfollowed 9)=true:=by kernel_rfl
theorem j11:(Rows.chainEndsRow.recurses==Tryz.prog.recurses 9)=true:=by kernel_rfl
theorem j12:(Rows.chainEndsRow.named==Tryz.prog.varsNamed 9)=true:=by kernel_rfl
theorem j13:(Rows.chainEndsRow.maps==(Tryz.f9.params.toList++Rows.chainEndsSpec.plain.varTypes Tryz.prog).any (Tryz.prog.mapsRec ·))=true:=by kernel_rfl
theorem j14:(Rows.chainEndsRow.ifaces==(Tryz.f9.params.toList++Rows.chainEndsSpec.plain.varTypes Tryz.prog).any (Tryz.prog.ifacesRec ·))=true:=by kernel_rfl
theorem j15:(Rows.chainEndsRow.mapsOut==Tryz.prog.mapsAmong Tryz.f9.resultTypes.toList)=true:=by kernel_rfl
theorem j16:(Rows.chainEndsRow.loops==(Tryz.f9.params.toList++Rows.chainEndsSpec.plain.varTypes Tryz.prog).any (Tryz.prog.loopsFrom ·))=true:=by kernel_rfl
theorem j17:(Rows.chainEndsRow.wideKeys==(Tryz.f9.params.toList++Rows.chainEndsSpec.plain.varTypes Tryz.prog++Tryz.f9.resultTypes.toList).any (Tryz.prog.wideKeysFrom ·))=true:=by kernel_rfl
theorem j18:(Rows.chainEndsSpec.vars.all (Tryz.prog.varReadable ·))=true:=by kernel_rfl
theorem j19:(Tryz.f9.resultTypes.all (fun t=>Tryz.prog.readableRec t&&decide (t<Tryz.prog.types.size)))=true:=by kernel_rfl
theorem j20:(Rows.chainEndsRow.ifacesOut==Tryz.f9.resultTypes.toList.any (Tryz.prog.ifacesRec ·))=true:=by kernel_rfl
theorem j21:(Rows.chainEndsRow.loopsOut==Tryz.f9.resultTypes.toList.any (Tryz.prog.loopsFrom ·))=true:=by kernel_rfl
theorem j22:(Rows.chainEndsRow.plainKeys==Tryz.prog.plainKeys)=true:=by kernel_rfl
theorem j23:(Rows.chainEndsRow.shortTexts.isNone)=true:=by kernel_rfl
theorem j24:(Tryz.prog.stopsHeard)=true:=by kernel_rfl
theorem j25:(Tryz.prog.mayEnter)=true:=by kernel_rfl
theorem j26:(Rows.chainEndsRow.lifted==Tryz.prog.liftsFinal)=true:=by kernel_rfl
theorem j27:(Tryz.prog.make==some Rows.chainEndsRow.make)=true:=by kernel_rfl
theorem j28:(Rows.chainEndsRow.kinds==(if Rows.chainEndsRow.domain.isEmpty then [] else Tryz.f9.params.toList.map fun t=>match Tryz.prog.underlying t with|some (.int k)=>some k|_=>none))=true:=by kernel_rfl
theorem j29:(Rows.chainEndsRow.pinned==Rows.chainEndsRow.pinnedBy)=true:=by kernel_rfl
theorem j30:(Rows.chainEndsRow.veiled==(Tryz.f9.params.toList++Rows.chainEndsSpec.plain.varTypes Tryz.prog++Tryz.f9.resultTypes.toList).any (Tryz.prog.veiledRec ·))=true:=by kernel_rfl
theorem j31:(Rows.chainEndsRow.veiledFits Tryz.prog Tryz.f9.params.toList (Tryz.f9.params.toList++Rows.chainEndsSpec.plain.varTypes Tryz.prog++Tryz.f9.resultTypes.toList))=true:=by kernel_rfl
theorem hB:joinedFacts Tryz.prog 9 Tryz.f9 Rows.chainEndsSpec Rows.chainEndsRow=true:=by
 simp only[joinedFacts,w09]
 exact⟨⟨⟨⟨⟨⟨⟨⟨⟨⟨⟨⟨⟨⟨⟨⟨⟨⟨⟨⟨⟨⟨⟨⟨⟨⟨⟨⟨⟨⟨⟨j0,j1⟩,j2⟩,j3⟩,j4⟩,j5⟩,j6⟩,j7⟩,j8⟩,j9⟩,j10⟩,j11⟩,j12⟩,j13⟩,j14⟩,j15⟩,j16⟩,j17⟩,j18⟩,j19⟩,j20⟩,j21⟩,j22⟩,j23⟩,j24⟩,j25⟩,j26⟩,j27⟩,j28⟩,j29⟩,j30⟩,j31⟩
theorem hC:Func.isInstance Tryz.pinned.checked.prog Tryz.f9 Rows.chainEndsRow.origin Rows.chainEndsRow.targs:=of_decide_eq_true (by kernel_rfl)
theorem hD:Func.isWrapper Tryz.pinned.checked.prog Tryz.f9 Rows.chainEndsRow.wrapper Rows.chainEndsRow.mainSum:=by unfold Func.isWrapper;first|(rw[if_pos (by decide+kernel)];kernel_rfl)|(rw[if_neg (by decide+kernel)];exact⟨rfl,rfl⟩)
theorem chainEnds_holds:Rows.ChainEndsSaid:=
 OpenClaim.holds_of_wide 9 Tryz.f9 rfl rfl rfl rfl rfl rfl rfl ⟨rfl,rfl,rfl,rfl,rfl⟩ rfl rfl rfl rfl rfl hA Tryz.func9 hB hC hD
  (fun os started H enc _=>f_lifted os started H enc)
end Go.Proofs.YtdmigejeekchiaaGreat
end
