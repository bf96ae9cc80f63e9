/-
  ChainWords holds for every input: its law function returns true, and the arguments read as they did. No condition besides those of the row.
-/
import Derived.Test.YtdmigejeekchiaaGreatH6
import Derived.Test.YtdmigejeekchiaaGreatRows
set_option maxHeartbeats 64000000
set_option maxRecDepth 1000000
set_option linter.unusedVariables false
set_option linter.unusedSimpArgs false
open Nat renaming reduceMul → G2, reduceAdd → G3, reduceSub → G4, reduceEqDiff → G6, reduceBEq → G7, reduceLT → G8, reduceLeDiff → G9, min_eq_left → w0c, zero_le → w0e, zero_add → w1f
open Int renaming reduceEq → H0, reduceLT → H1, reduceLE → H2, reduceAdd → H3, reduceSub → H4, reduceMul → H5, reducePow → H6, reduceToNat → H7, ofNat_lt → w02, toNat_natCast → w07, toNat_zero → w18, toNat_of_nonneg → w45
open Option renaming map_some → w06, map_none → w0d, getD_some → w32
open List renaming getD_eq_getElem?_getD → w03, getElem_mem → w04, mem_append → w0b, getElem?_eq_getElem → w1d, append_nil → w21, getElem?_map → w22, mem_cons_self → w24, cons_append → w26, ext_getElem? → w27, mem_cons_of_mem → w2c, nil_append → w2e, all_eq_true → w37, flatten_cons → w3e, length_nil → w46, mem_iff_getElem → w49, mem_append_left → w52, mem_cons → w57, mem_append_right → w5a
open Bool renaming and_eq_true → w09, false_and → w16, and_false → w17
section
namespace Go.Proofs.W
open Go.Vs
attribute [local go_sem high] zm zT
attribute [local go_sem ↓] w06 w0d
attribute [local go_sem low] Yc Yt Yf Yut Yuf yy yz yw yx
attribute [local go_sem 2000] zK
attribute [local go_sem] x6 x5 x9 x8 zR zu y7 zP zW zt yq yn ym hd kep yj w02 AV.bool.injEq AV.int.injEq not_true_eq_false not_false_eq_true true_implies false_implies and_true true_and implies_true zl zI zH zk zJ zw zc z8 zj zB zA zi zC zy zb z9 w07 zD zE zZ w18 evShift IntKind.bits zL zF zG z6 za zQ zx w0c yu yr allLen zd AV.tup.injEq List.cons.injEq AV.agg.injEq zV zU evBuild yo zN zn zM eqC0 eqC1 eqC2 zO w17 w16
attribute [go_sem] uv xE
theorem QW (d:DDump) (v0 v1 v2 v3 v4 v5 v6 v7:AV) (h:DumpV d v0 v1 v2 v3 v4 v5 v6 v7) (hn:d.stacks.length≤900) (l:List Int) (y:AV) (hy:IsSl (IsK .u64) 1 l y) (hl:l.length≤9) (a:Int) (ha:65536≤a∧a<81920) (m:Mem) (hf:m.floor≤m.stk.length+1):
  Okv tab 44 [dumpA d v0 v1 v2 v3 v4 v5 v6 v7,.int .u64 a,y] m (.bool (pb (∀k (h:k<l.length),(wordR d.heap d.stacks (a+8*(k:Nat))).2=0∧W d a k=l[k]))):=by
 have f:=nd h.o (nd hy.z (nthK hy))
 refine okz (tT uv) fun s c x v fl e=> ?_
 subst e
 simp at hf
 refine xn 7 l.length [] (fun i _ e=> ∀k (h:k<l.length),k<i→(wordR d.heap d.stacks (a+8*(k:Nat))).2=0∧W d a k=l[k]) 0 ?_ fun i v e nz hi hp=> ?_
 ·exact fun j hj hi=>by omega
 refine ifs (fun hi=> ?_) fun hi=> ?_
 ·refine ow (qs d.heap d.stacks _ _ h.h h.s hn (a+8*(i:Nat)) (by omega) _ (by simp;omega)) fun q=> ?_
  refine ifs (fun he=> ?_) fun he=> ?_
  ·exact fun h=>he (h i hi).1
  have he:(wordR d.heap d.stacks (a+8*(i:Nat))).2=0:=by simpa using he
  refine ifs (fun hw=> ?_) fun hw=> ?_
  ·exact fun h=>hw (h i hi).2
  ·exact nd hi fun j hj hji=>by
    rcases Nat.lt_or_eq_of_le (Nat.le_of_lt_succ hji) with k|rfl
    ·exact hp j hj k
    ·exact⟨he,Decidable.not_not.1 hw⟩
 ·exact fun k hk=>hp k hk (by omega)
theorem slU (l:List Int) (h:l.length≤9):IsSl (IsK .u64) 1 l (.list 1 .full (l.map fun n=> .int .u64 n)):= .mk (by
 clear h
 induction l with
 |nil=>trivial
 |cons a r ih=>exact⟨rfl,ih⟩) (by omega)
theorem XY {d:DDump} {v0 v1 v2 v3 v4 v5 v6 v7:AV} (h:DumpV d v0 v1 v2 v3 v4 v5 v6 v7) (hn:d.stacks.length≤900) {n:Nat} (h9:n≤9) {L:List Int} (hR:Recs d n L) {a:Int} (ha:a∈L) {l:List Int} {y:AV} (hy:IsSl (IsK .u64) 1 l y) (hl:l.length≤n) (hw: ∀k (hk:k<l.length),W d a k=l[k]) (m:Mem) (hf:m.floor≤m.stk.length+1):
  Okv tab 44 [dumpA d v0 v1 v2 v3 v4 v5 v6 v7,.int .u64 a,y] m (.bool true):=by
 have ha':=hR.at_ a ha
 have:=QW d v0 v1 v2 v3 v4 v5 v6 v7 h hn l y hy (by omega) a (by omega) m hf
 rwa [yB fun k hk=>⟨hR.wd a ha k (by omega),hw k hk⟩] at this
theorem z1s (d:DDump) (y:AV) (hy:IsDump d y) (hw:WfDump d) (g:Int) (m:Mem) (hf:m.floor≤m.stk.length+1):Okv tab 10 [y,.int .i64 g] m (.bool true):=by
 have hL:=fun m=>kp d y hy m
 have hA:=fun hs g m hf=>qa d y hy hs g m hf
 have hP:=fun hs g m hf=>tZ d y hy hs g m hf
 have hK:=fun hl m hf=>ko d y hy hw hl g m hf
 obtain⟨v0,v1,v2,v3,v4,v5,v6,v7,rfl,h⟩:=IsDump.v hy
 have f:=h.o
 refine okz (tT xE) fun s c x v fl e=> ?_
 subst e
 simp at hf
 refine ow (Vv _ (by simp;omega)) fun k=> ?_
 refine ow (hL _) fun k=> ?_
 refine ifs (fun hl=> ?_) fun hl=> ?_
 ·trivial
 have hl:large28 d=false:=by simpa using hl
 have hs:=SmD.of hw hl
 have hnf:d.image.funcs.length≤40:=by have:=hs.g;simp[great09] at this;omega
 refine ow (hK hl _ (by simp;omega)) fun k=> ?_
 refine ifs (fun ha=> ?_) fun ha=> ?_
 ·trivial
 obtain⟨hk,h2,h3⟩:=Qv (by simpa using ha)
 obtain⟨j,rfl⟩: ∃j:Nat,g=j:=⟨g.toNat,by omega⟩
 obtain⟨q1,q2,q3,q4,q5,q6⟩:=qx hk
 have hjd:j<d.defers.length:=by omega
 have hjp:j<d.panics.length:=by omega
 have hlen:=nd (Wk d j) (W7 d j)
 have eD:d.defers.getD j []=d.defers[j]:=by simp[w03,hjd]
 have eP:d.panics.getD j []=d.panics[j]:=by simp[w03,hjp]
 refine op (hA hs _ _ (by simp;omega)) fun y1 t1 k1 o1=> ?_
 have f:=nd f<|nd o1.co (o1.sl (by omega)).z
 refine st ?_
 by_cases he:(defersR d j).2=0
 case' pos=>
  obtain⟨_,hd1,hR,hok⟩:=Qk he
  rw[eD] at hd1 hR hok
  have hnt:=fun i (hi:i<d.defers[j].length)=>show nth y1 i= .agg [.int .u64 d.defers[j][i],.int .u64 (W d d.defers[j][i] 0),.int .u64 (W d d.defers[j][i] 1),.int .i64 (W d d.defers[j][i] 2),.bool (decide (W d d.defers[j][i] 3=1)),.int .u64 (W d d.defers[j][i] 4)] from by
   have:=(o1.sl (by omega)).nth (i:=i) (by rw[hd1];simpa using hi)
   simp only[hd1,List.getElem_map] at this
   exact this
  have hW:=fun i (hi:i<d.defers[j].length)=>show IntKind.u64.wrap (W d d.defers[j][i] 2)=W d d.defers[j][i] 2 from za (W_u _ _ _).1 (W_u _ _ _).2
  have f:=nd f (nd he (nd hnt (nd hW (show((defersR d j).1.length:Int)=d.defers[j].length by rw[hd1];simp))))
  refine xn 8 d.defers[j].length [] (fun _ _ _=>True) 0 ?_ fun i v e nz hi _=> ?_
  ·trivial
  refine ifs (fun hi=> ?_) fun hi=> ?_
  ·have h3:W d d.defers[j][i] 3≤1:=by
    simp only[defersOk,w09,y8,w1f] at hok
    have:=hok.2 i hi
    simp only[deferOk,decide_eq_true_eq] at this
    exact this.2.2.1
   have h3':=(W_u d d.defers[j][i] 3).1
   refine ifs (fun hh=> ?_) fun hh=> ?_
   ·refine ow (XY h (by omega) (by omega) hR (w04 hi) (l:=[W d d.defers[j][i] 0,W d d.defers[j][i] 1,W d d.defers[j][i] 2,1,W d d.defers[j][i] 4]) (slU _ (by simp)) (by simp) (fun k hk=> ?_) _ (by simp;omega)) fun k=> ?_
    ·match k,hk with
     |0,_|1,_|2,_|4,_=>rfl
     |3,_=>exact hh
     |k+5,hk=>simp at hk;omega
    ·trivial
   ·refine ow (XY h (by omega) (by omega) hR (w04 hi) (l:=[W d d.defers[j][i] 0,W d d.defers[j][i] 1,W d d.defers[j][i] 2,0,W d d.defers[j][i] 4]) (slU _ (by simp)) (by simp) (fun k hk=> ?_) _ (by simp;omega)) fun k=> ?_
    ·match k,hk with
     |0,_|1,_|2,_|4,_=>rfl
     |3,_=>show W d d.defers[j][i] 3=0;omega
     |k+5,hk=>simp at hk;omega
    ·trivial
 case' neg=>
  have f:=nd f he
  refine xn 8 0 [] (fun _ _ _=>True) 0 ?_ fun i v e nz hi _=> ?_
  ·trivial
 all_goals
  refine op (hP hs _ _ (by simp;omega)) fun y2 t2 k2 o2=> ?_
  have f:=nd f<|nd o2.co (o2.sl (by omega)).z
  refine st ?_
  by_cases hp:(panicsR d j).2=0
  ·obtain⟨_,hd2,hR,_⟩:=TO hp
   rw[eP] at hd2 hR
   have hnt:=fun i (hi:i<d.panics[j].length)=>show nth y2 i=pnD d d.panics[j][i] from by
    have:=(o2.sl (by omega)).nth (i:=i) (by rw[hd2];simpa using hi)
    simp only[hd2,List.getElem_map] at this
    exact this
   have f:=nd f (nd iaA2 (nd hp (nd hnt (show((panicsR d j).1.length:Int)=d.panics[j].length by rw[hd2];simp))))
   refine xn 13 d.panics[j].length [] (fun _ _ _=>True) 0 ?_ fun i v e nz hi _=> ?_
   ·trivial
   refine ifs (fun hi=> ?_) fun hi=> ?_
   ·refine ow (XY h (by omega) (by omega) hR (w04 hi) (l:=[W d d.panics[j][i] 0,W d d.panics[j][i] 1,W d d.panics[j][i] 2,W d d.panics[j][i] 3,W d d.panics[j][i] 4,W d d.panics[j][i] 5,W d d.panics[j][i] 6]) (slU _ (by simp)) (by simp) (fun k hk=> ?_) _ (by simp;omega)) fun k=> ?_
    ·match k,hk with
     |0,_|1,_|2,_|3,_|4,_|5,_|6,_=>rfl
     |k+7,hk=>simp at hk;omega
    trivial
   ·trivial
  ·have f:=nd f hp
   refine xn 13 0 [] (fun _ _ _=>True) 0 ?_ fun i v e nz hi _=> ?_
   ·trivial
   ·trivial
end Go.Proofs.W
end
section
namespace Go.Proofs.YtdmigejeekchiaaGreat
open Go.Vs Go.ChangeShapes Go.WideShapes Go.ChangeAt Go.RowKit Go.Proofs.W
theorem law (ys:List AV) (h:ArgsT Tryz.prog [37,3] ys): ∃m',CALL tab 10 ys Mem.zero=some (.bool true,m'):=by
 obtain⟨x0,r0,rfl,g0,x1,r1,rfl,g1,gz⟩:=h
 have gz:r1=[]:=gz
 subst gz
 obtain⟨d0,a0,b0⟩:=arg37 x0 g0
 obtain⟨e1,n1,t1⟩:=g1
 rw[qL e1 (by kernel_rfl)] at t1
 obtain⟨v1,u1,c1,k1,w1⟩:=rd3 n1 _ t1
 injection c1 with c1 _
 subst c1
 obtain rfl:=k1
 obtain⟨k,hk⟩:=z1s d0 x0 a0 b0 v1 Mem.zero (w0e _)
 exact⟨_,hk⟩
theorem Tryz.own:ownKnob Tryz.prog.godebug=none:=by kernel_rfl
theorem Tryz.laidOut:laidOutB Tryz.prog=true:=by kernel_rfl
theorem f_lifted (os:Os) (started:os.Started) (H:Type) (enc:TypeId×Value→H):
  ReturnsInHanded {} Tryz.checked os 10 .any (Rows.chainWordsSpec.pre6 enc Tryz.prog Tryz.f10 Rows.chainWordsRow.domain false) (Rows.chainWordsSpec.post enc Tryz.prog Tryz.f10 false true false false):=by
 refine returnsInHanded_of_change (C:=Tryz.checked) Tryz.own started (by kernel_rfl) Tryz.func10
  (ChangeSpec.witness6 (enc:=enc) (C:=Tryz.checked) false ⟨#[],#[.agg #[.slice none 0 0,.slice none 0 0,.slice none 0 0,.int .u8 0,.int .i64 0,.int .i64 0,.int .u64 0,.slice none 0 0,.slice none 0 0,.slice none 0 0,.slice none 0 0,.slice none 0 0],.int .i64 0],[]⟩ 12 (by kernel_rfl) (by kernel_rfl) (by kernel_rfl) (by kernel_rfl)) ?_
 intro W base args ds gs before hval hW _ _
 exact TW (P:=Tryz.prog) (tab:=tab) (S:=[54,99,35,2,52,34,33,30,32,28,29,227,66,63,65,68,24,23,9,214,64,3,5,271,22,26,37]) (tb:=4) (by kernel_rfl) tabOk Yv Tryz.laidOut rfl (by kernel_rfl) rfl Tryz.underlying4
  (fun ds hd=>by
   match ds,hd with
   | [d1,d2],_=>rfl) law hval hW
theorem hA:Tryz.pinned.checked.prog.funcNamed Rows.chainWordsRow.func=some 10:=by kernel_rfl
theorem j0:(Rows.chainWordsRow.wf (OpenSpec.ofChange Rows.chainWordsSpec))=true:=by kernel_rfl
theorem j1:(laidOutB Tryz.prog)=true:=by kernel_rfl
theorem j2:(mapsRowed Tryz.prog)=true:=by kernel_rfl
theorem j3:(Tryz.f10.params.all (Tryz.prog.readableRec ·))=true:=by kernel_rfl
theorem j4:(namedTie Tryz.prog Rows.chainWordsRow.named Rows.chainWordsSpec.vars)=true:=by kernel_rfl
theorem j5:(Rows.chainWordsRow.stops==[])=true:=by kernel_rfl
theorem j6:(Tryz.prog.stops==[])=true:=by kernel_rfl
theorem j7:(Rows.chainWordsRow.knobs==[])=true:=by kernel_rfl
theorem j8:(Tryz.prog.stopKnobs==[])=true:=by kernel_rfl
theorem j9:(Rows.chainWordsRow.inPlace==Tryz.prog.inPlace 10)=true:=by kernel_rfl
theorem j10:(Rows.chainWordsRow.unfollowed==Tryz.prog.unfollowed 10)=true:=by kernel_rfl
theorem j11:(Rows.chainWordsRow.recurses==Tryz.prog.recurses 10)=true:=by kernel_rfl
theorem j12:(Rows.chainWordsRow.named==Tryz.prog.varsNamed 10)=true:=by kernel_rfl
theorem j13:(Rows.chainWordsRow.maps==(Tryz.f10.params.toList++Rows.chainWordsSpec.plain.varTypes Tryz.prog).any (Tryz.prog.mapsRec ·))=true:=by kernel_rfl
theorem j14:(Rows.chainWordsRow.ifaces==(Tryz.f10.params.toList++Rows.chainWordsSpec.plain.varTypes Tryz.prog).any (Tryz.prog.ifacesRec ·))=true:=by kernel_rfl
theorem j15:(Rows.chainWordsRow.mapsOut==Tryz.prog.mapsAmong Tryz.f10.resultTypes.toList)=true:=by kernel_rfl
theorem j16:(Rows.chainWordsRow.loops==(Tryz.f10.params.toList++Rows.chainWordsSpec.plain.varTypes Tryz.prog).any (Tryz.prog.loopsFrom ·))=true:=by kernel_rfl
theorem j17:(Rows.chainWordsRow.wideKeys==(Tryz.f10.params.toList++Rows.chainWordsSpec.plain.varTypes Tryz.prog++Tryz.f10.resultTypes.toList).any (Tryz.prog.wideKeysFrom ·))=true:=by kernel_rfl
theorem j18:(Rows.chainWordsSpec.vars.all (Tryz.prog.varReadable ·))=true:=by kernel_rfl
theorem j19:(Tryz.f10.resultTypes.all (fun t=>Tryz.prog.readableRec t&&decide (t<Tryz.prog.types.size)))=true:=by kernel_rfl
theorem j20:(Rows.chainWordsRow.ifacesOut==Tryz.f10.resultTypes.toList.any (Tryz.prog.ifacesRec ·))=true:=by kernel_rfl
theorem j21:(Rows.chainWordsRow.loopsOut==Tryz.f10.resultTypes.toList.any (Tryz.prog.loopsFrom ·))=true:=by kernel_rfl
theorem j22:(Rows.chainWordsRow.plainKeys==Tryz.prog.plainKeys)=true:=by kernel_rfl
theorem j23:(Rows.chainWordsRow.shortTexts.isNone)=true:=by kernel_rfl
theorem j24:(Tryz.prog.stopsHeard)=true:=by kernel_rfl
theorem j25:(Tryz.prog.mayEnter)=true:=by kernel_rfl
theorem j26:(Rows.chainWordsRow.lifted==Tryz.prog.liftsFinal)=true:=by kernel_rfl
theorem j27:(Tryz.prog.make==some Rows.chainWordsRow.make)=true:=by kernel_rfl
theorem j28:(Rows.chainWordsRow.kinds==(if Rows.chainWordsRow.domain.isEmpty then [] else Tryz.f10.params.toList.map fun t=>match Tryz.prog.underlying t with|some (.int k)=>some k|_=>none))=true:=by kernel_rfl
theorem j29:(Rows.chainWordsRow.pinned==Rows.chainWordsRow.pinnedBy)=true:=by kernel_rfl
theorem j30:(Rows.chainWordsRow.veiled==(Tryz.f10.params.toList++Rows.chainWordsSpec.plain.varTypes Tryz.prog++Tryz.f10.resultTypes.toList).any (Tryz.prog.veiledRec ·))=true:=by kernel_rfl
theorem j31:(Rows.chainWordsRow.veiledFits Tryz.prog Tryz.f10.params.toList (Tryz.f10.params.toList++Rows.chainWordsSpec.plain.varTypes Tryz.prog++Tryz.f10.resultTypes.toList))=true:=by kernel_rfl
theorem hB:joinedFacts Tryz.prog 10 Tryz.f10 Rows.chainWordsSpec Rows.chainWordsRow=true:=by
 simp only[joinedFacts,w09]
 exact⟨⟨⟨⟨⟨⟨⟨⟨⟨⟨⟨⟨⟨⟨⟨⟨⟨⟨⟨⟨⟨⟨⟨⟨⟨⟨⟨⟨⟨⟨⟨j0,j1⟩,j2⟩,j3⟩,j4⟩,j5⟩,j6⟩,j7⟩,j8⟩,j9⟩,j10⟩,j11⟩,j12⟩,j13⟩,j14⟩,j15⟩,j16⟩,j17⟩,j18⟩,j19⟩,j20⟩,j21⟩,j22⟩,j23⟩,j24⟩,j25⟩,j26⟩,j27⟩,j28⟩,j29⟩,j30⟩,j31⟩
theorem hC:Func.isInstance Tryz.pinned.checked.prog Tryz.f10 Rows.chainWordsRow.origin Rows.chainWordsRow.targs:=of_decide_eq_true (by kernel_rfl)
theorem hD:Func.isWrapper Tryz.pinned.checked.prog Tryz.f10 Rows.chainWordsRow.wrapper Rows.chainWordsRow.mainSum:=by unfold Func.isWrapper;first|(rw[if_pos (by decide+kernel)];kernel_rfl)|(rw[if_neg (by decide+kernel)];exact⟨rfl,rfl⟩)
theorem chainWords_holds:Rows.ChainWordsSaid:=
 OpenClaim.holds_of_wide 10 Tryz.f10 rfl rfl rfl rfl rfl rfl rfl ⟨rfl,rfl,rfl,rfl,rfl⟩ rfl rfl rfl rfl rfl hA Tryz.func10 hB hC hD
  (fun os started H enc _=>f_lifted os started H enc)
end Go.Proofs.YtdmigejeekchiaaGreat
end
