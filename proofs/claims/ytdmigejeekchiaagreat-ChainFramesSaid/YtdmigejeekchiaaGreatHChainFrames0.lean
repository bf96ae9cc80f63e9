/-
  ChainFrames holds for every input: its law function returns true, and the arguments read as they did. No condition besides those of the row.
-/
import Derived.Test.YtdmigejeekchiaaGreatH6
import Derived.Test.YtdmigejeekchiaaGreatH5
import Derived.Test.YtdmigejeekchiaaGreatRows
set_option maxHeartbeats 64000000
set_option maxRecDepth 1000000
set_option linter.unusedVariables false
set_option linter.unusedSimpArgs false
open Nat renaming reduceMul → G2, reduceAdd → G3, reduceSub → G4, reduceEqDiff → G6, reduceBEq → G7, reduceLT → G8, reduceLeDiff → G9, le_refl → w08, min_eq_left → w0c, zero_le → w0e, zero_add → w1f
open Int renaming reduceEq → H0, reduceLT → H1, reduceLE → H2, reduceAdd → H3, reduceSub → H4, reduceMul → H5, reducePow → H6, reduceToNat → H7, ofNat_lt → w02, toNat_natCast → w07, toNat_zero → w18, toNat_of_nonneg → w45
open Option renaming map_some → w06, map_none → w0d, getD_some → w32
open List renaming getD_eq_getElem?_getD → w03, getElem_mem → w04, take_length → w0a, mem_append → w0b, take_succ_eq_append_getElem → w0f, getElem?_eq_getElem → w1d, length_take → w20, append_nil → w21, getElem?_map → w22, mem_cons_self → w24, cons_append → w26, ext_getElem? → w27, mem_cons_of_mem → w2c, nil_append → w2e, all_eq_true → w37, flatten_cons → w3e, length_nil → w46, mem_iff_getElem → w49, mem_append_left → w52, mem_cons → w57, mem_append_right → w5a
open Bool renaming and_eq_true → w09, false_and → w16, and_false → w17, or_eq_true → w2f
section
namespace Go.Proofs.W
open Go.Vs
attribute [local go_sem high] zm zT
attribute [local go_sem ↓] w06 w0d
attribute [local go_sem low] Yc Yt Yf Yut Yuf yy yz yw yx
attribute [local go_sem 2000] zK
attribute [local go_sem] x6 x5 x9 x8 zR zu y7 zP zW zt yq yn ym hd kep yj w02 AV.bool.injEq AV.int.injEq not_true_eq_false not_false_eq_true true_implies false_implies and_true true_and implies_true zl zI zH zk zJ zw zc z8 zj zB zA zi zC zy zb z9 w07 zD zE zZ w18 evShift IntKind.bits zL zF zG z6 za zQ zx w0c yu yr allLen zd AV.tup.injEq List.cons.injEq AV.agg.injEq zV zU evBuild yo zN zn zM eqC0 eqC1 eqC2 zO w17 w16
attribute [go_sem] xo U8
theorem z3L (l:List DFrame) (y:AV) (hy:IsSl IsFrame 8 l y) (n:Int) (m:Mem):Okv tab 26 [y,.int .u64 n] m (.tup [.int .i64 (if placeR l n<0 then 0 else placeR l n),.int .i64 (if placeR l n<0 then 6 else 0)]):=by
 have f:=nd hy.z (nthF hy)
 have:=hy.max
 refine okz (tT U8) fun s c x v g _=> ?_
 refine xn 10 l.length [] (fun i _ _=> ∀j (hj:j<l.length),j<i→l[j].start≠n) 0 ?_ fun i v e nz hi hp=> ?_
 ·exact fun j hj hi=>by omega
 refine ifs (fun hi=> ?_) fun hi=> ?_
 ·refine ifs (fun h=> ?_) fun h=> ?_
  ·simp[z0t hi h hp];try omega
  ·exact nd hi fun j hj hji=>by
    rcases Nat.lt_or_eq_of_le (Nat.le_of_lt_succ hji) with k|rfl
    ·exact hp j hj k
    ·exact h
 ·simp[z0s fun j hj=>hp j hj (by omega)]
theorem z8G {d:DDump} {g:Int} (h:(framesR d g).2≠0):(defersR d g).2=(framesR d g).2∧(panicsR d g).2=(framesR d g).2:=by
 unfold defersR panicsR
 rw[if_pos h,if_pos h];exact⟨rfl,rfl⟩
theorem za1 {d:DDump} {g:Int}:((defersR d g).2≠0→(defersR d g).1=[])∧((panicsR d g).2≠0→(panicsR d g).1=[]):=by
 unfold defersR panicsR
 constructor<;>repeat' split
 all_goals simp
theorem z8p {d:DDump} {fr:List DFrame} {l:List Int} (h:defersOk d fr l=true): ∀i,i≤l.length→0≤lastI d fr l i
 |0,_=>Int.le_refl _
 |i+1,hi=>by
  have ih:=z8p h i (by omega)
  simp only[defersOk,w09,y8,w1f] at h
  have:=h.2 i (by omega)
  simp only[deferOk,decide_eq_true_eq] at this
  have:=this.1
  simp only[lastI,Xl (show i<l.length by omega)]
  omega
noncomputable def notes (d:DDump) (f:DFrame) (l:List Int):Nat:=l.countP fun a=>decide (a=f.record∧W d a 5=f.start)
theorem z8i {d:DDump} {f:DFrame} {l:List Int} {k:Nat} (h:k<l.length):notes d f (l.take (k+1))=notes d f (l.take k)+if l[k]=f.record∧W d l[k] 5=f.start then 1 else 0:=by
 unfold notes
 rw[w0f h,List.countP_append,List.countP_singleton]
 simp only[decide_eq_true_eq]
theorem z3I {d:DDump} {f:DFrame} {l:List Int} (h:l.length≤410) (k:Nat):IntKind.i64.wrap ((notes d f (l.take k):Int)+1)=((notes d f (l.take k)+1:Nat):Int):=by
 have:notes d f (l.take k)≤(l.take k).length:=List.countP_le_length
 rw[w20] at this
 rw[z6 (by omega) (by omega)];omega
theorem z9W {d:DDump} {f:DFrame}: ∀{l:List Int},f.record∉l→notes d f l=0:=by
 intro l h
 unfold notes
 rw[List.countP_eq_zero]
 intro a ha
 simp only[decide_eq_true_eq]
 rintro⟨rfl,_⟩
 exact h ha
theorem z5x {d:DDump} {f:DFrame}: ∀{l:List Int},l.Nodup→f.record∈l→W d f.record 5=f.start→notes d f l=1
 | [],_,h,_=>by cases h
 |a::r,hn,h,hw=>by
  rw[List.nodup_cons] at hn
  have hc:notes d f (a::r)=notes d f r+if a=f.record∧W d a 5=f.start then 1 else 0:=by
   unfold notes;rw[List.countP_cons];simp only[decide_eq_true_eq]
  rw[hc]
  by_cases e:a=f.record
  ·subst e
   rw[z9W hn.1,if_pos ⟨rfl,hw⟩]
  ·rw[if_neg (fun q=>e q.1),z5x hn.2 ((w57.1 h).resolve_left fun q=>e q.symm) hw]
theorem z48 {d:DDump} {n:Nat} {l:List Int} (hR:Recs d n l) (hn:0<n):l.Nodup:=by
 rw[List.Nodup,List.pairwise_iff_getElem]
 intro i k hi hk h
 exact Xb (F:=fun a=>(wordR d.heap d.stacks a).1) (fun i hi=>⟨(hR.go hn i hi).1,(hR.go hn i hi).2.2⟩) _ i k h hk (w08 _)
theorem z05 (d:DDump) (y:AV) (hy:IsDump d y) (hw:WfDump d) (g:Int) (m:Mem) (hf:m.floor≤m.stk.length+1):Okv tab 11 [y,.int .i64 g] m (.bool true):=by
 have hL:=fun m=>kp d y hy m
 have hF:=fun hs g m hf=>km d y hy hs g m hf
 have hA:=fun hs g m hf=>qa d y hy hs g m hf
 have hP:=fun hs g m hf=>tZ d y hy hs g m hf
 have hK:=fun hl m hf=>ko d y hy hw hl g m hf
 obtain⟨v0,v1,v2,v3,v4,v5,v6,v7,rfl,h⟩:=IsDump.v hy
 have hv2:=z5K h.i
 have f:=nd h.o hv2.z
 refine okz (tT xo) fun s c x v fl e=> ?_
 subst e
 simp at hf
 refine ow (Vv _ (by simp;omega)) fun k=> ?_
 refine ow (hL _) fun k=> ?_
 refine ifs (fun hl=> ?_) fun hl=> ?_
 ·trivial
 have hl:large28 d=false:=by simpa using hl
 have hs:=SmD.of hw hl
 have hnf:d.image.funcs.length≤40:=by have:=hs.g;simp[great09] at this;omega
 refine ow (hK hl _ (by simp;omega)) fun k=> ?_
 refine ifs (fun ha=> ?_) fun ha=> ?_
 ·trivial
 obtain⟨hk,h2,h3⟩:=Qv (by simpa using ha)
 obtain⟨j,rfl⟩: ∃j:Nat,g=j:=⟨g.toNat,by omega⟩
 obtain⟨q1,q2,q3,q4,q5,q6⟩:=qx hk
 have hjd:j<d.defers.length:=by omega
 have hjp:j<d.panics.length:=by omega
 have hlen:=nd (Wk d j) (W7 d j)
 have eD:d.defers.getD j []=d.defers[j]:=by simp[w03,hjd]
 have eP:d.panics.getD j []=d.panics[j]:=by simp[w03,hjp]
 refine ot (hF hs _ _ (by simp;omega)) fun r0 t0 k0 hr0=> ?_
 obtain⟨y0,rfl,hy0⟩:=hr0
 have f:=nd f<|nd hy0.co hy0.z
 refine st ?_
 refine op (hA hs _ _ (by simp;omega)) fun y1 t1 k1 o1=> ?_
 have f:=nd f<|nd o1.co (o1.sl (by omega)).z
 refine st ?_
 refine op (hP hs _ _ (by simp;omega)) fun y2 t2 k2 o2=> ?_
 have f:=nd f<|nd o2.co (o2.sl (by omega)).z
 refine st ?_
 refine ifs (fun h0=> ?_) fun h0=> ?_
 ·have f:=nd f (z8G h0)
  refine st ?_
  trivial
 have h0:(framesR d j).2=0:=by simpa using h0
 generalize hfr:(framesR d j).1=fr at*
 have hpl:=fun n=>TL fr n
 have f:=nd f (nd (nthF hy0) fun n m=>(z3L fr y0 hy0 n m).eq)
 have hE:= @za1 d j
 by_cases he:(defersR d j).2=0
 case' pos=>
  obtain⟨_,hd1,hR,hok⟩:=Qk he
  rw[eD] at hd1 hR hok
  rw[hfr] at hok
  have hla:=z8p hok
  have hnt:=fun i (hi:i<d.defers[j].length)=>show nth y1 i= .agg [.int .u64 d.defers[j][i],.int .u64 (W d d.defers[j][i] 0),.int .u64 (W d d.defers[j][i] 1),.int .i64 (W d d.defers[j][i] 2),.bool (decide (W d d.defers[j][i] 3=1)),.int .u64 (W d d.defers[j][i] 4)] from by
   have:=(o1.sl (by omega)).nth (i:=i) (by rw[hd1];simpa using hi)
   simp only[hd1,List.getElem_map] at this
   exact this
  have f:=nd f (nd hnt (show((defersR d j).1.length:Int)=d.defers[j].length by rw[hd1];simp))
  refine xn 13 d.defers[j].length [12] (fun i v _=>v 12= .int .i64 (lastI d fr d.defers[j] i)) 0 ?_ fun i v e nz hi hv=> ?_
  ·rfl
  refine ifs (fun hi=> ?_) fun hi=> ?_
  ·have hd3:deferOk d fr (lastI d fr d.defers[j] i) d.defers[j][i]=true:=by
    simp only[defersOk,w09,y8,w1f] at hok
    exact hok.2 i hi
   simp only[deferOk,decide_eq_true_eq] at hd3
   have:=hla i (by omega)
   have:=(W_u d d.defers[j][i] 2).1
   have:=(W_u d d.defers[j][i] 3).1
   have f:=nd f (show¬placeR fr (W d d.defers[j][i] 1)<0 by omega)
   refine st ?_
   repeat' first|refine ifs ?_ ?_|intro
   all_goals first|(exfalso;omega)|exact nd hi (by simp only[lastI,Xl hi])
 case' neg=>
  have f:=nd f (show(defersR d j).1.length=0 by rw[hE.1 he];rfl)
  refine xn 13 0 [12] (fun _ _ _=>True) 0 ?_ fun i v e nz hi _=> ?_
  ·trivial
  refine ifs (fun hi=> ?_) fun hi=> ?_
  ·omega
 all_goals
  refine ifs (fun hp=> ?_) fun hp=> ?_
  ·trivial
  obtain⟨_,hd2,hR,hok⟩:=TO (by simpa using hp)
  rw[eP] at hd2 hR hok
  rw[hfr] at hok
  have hnt:=fun i (hi:i<d.panics[j].length)=>show nth y2 i=pnD d d.panics[j][i] from by
   have:=(o2.sl (by omega)).nth (i:=i) (by rw[hd2];simpa using hi)
   simp only[hd2,List.getElem_map] at this
   exact this
  simp only[panicsOk,w09,namedB,w37,w2f,decide_eq_true_eq,List.any_eq_true] at hok
  have hnd:=z48 hR (by omega)
  have f:=nd f (nd hnt (show((panicsR d j).1.length:Int)=d.panics[j].length by rw[hd2];simp))
  refine st ?_
  refine xn 16 fr.length [] (fun _ _ _=>True) 0 ?_ fun i v e nz hi _=> ?_
  ·trivial
  refine ifs (fun hi=> ?_) fun hi=> ?_
  ·refine ifs (fun hr=> ?_) fun hr=> ?_
   ·exact nd hi (z6 (by omega) (by have:=hy0.max;omega))
   have hno:notes d fr[i] d.panics[j]=1:=by
    rcases hok.2 _ (w04 hi) with h1|⟨a,ha,h1,h2⟩
    ·exact absurd h1 hr
    ·subst h1;exact z5x hnd ha h2
   have f:=nd f fun k=>z3I (d:=d) (f:=fr[i]) (l:=d.panics[j]) (by omega) k
   refine xn 18 d.panics[j].length [17] (fun k v _=>v 17= .int .i64 (notes d fr[i] (d.panics[j].take k):Nat)) 0 ?_ fun k v e nz hk hv=> ?_
   ·rfl
   refine ifs (fun hk=> ?_) fun hk=> ?_
   ·have hat:=z8i (d:=d) (f:=fr[i]) hk
    repeat' first|refine ifs ?_ ?_|intro
    all_goals
     clear f
     rw[hat]
     refine nd hk ?_
     split<;>first|omega|grind
   ·obtain rfl:k=d.panics[j].length:=by omega
    rw[w0a]
    have f:=nd f (show((notes d fr[i] d.panics[j]:Nat):Int)=1 by omega)
    refine st ?_
    exact nd hi (z6 (by omega) (by have:=hy0.max;omega))
  ·trivial
end Go.Proofs.W
end
section
namespace Go.Proofs.YtdmigejeekchiaaGreat
open Go.Vs Go.ChangeShapes Go.WideShapes Go.ChangeAt Go.RowKit Go.Proofs.W
theorem law (ys:List AV) (h:ArgsT Tryz.prog [37,3] ys): ∃m',CALL tab 11 ys Mem.zero=some (.bool true,m'):=by
 obtain⟨x0,r0,rfl,g0,x1,r1,rfl,g1,gz⟩:=h
 have gz:r1=[]:=gz
 subst gz
 obtain⟨d0,a0,b0⟩:=arg37 x0 g0
 obtain⟨e1,n1,t1⟩:=g1
 rw[qL e1 (by kernel_rfl)] at t1
 obtain⟨v1,u1,c1,k1,w1⟩:=rd3 n1 _ t1
 injection c1 with c1 _
 subst c1
 obtain rfl:=k1
 obtain⟨k,hk⟩:=z05 d0 x0 a0 b0 v1 Mem.zero (w0e _)
 exact⟨_,hk⟩
theorem Tryz.own:ownKnob Tryz.prog.godebug=none:=by kernel_rfl
theorem Tryz.laidOut:laidOutB Tryz.prog=true:=by kernel_rfl
theorem f_lifted (os:Os) (started:os.Started) (H:Type) (enc:TypeId×Value→H):
  ReturnsInHanded {} Tryz.checked os 11 .any (Rows.chainFramesSpec.pre6 enc Tryz.prog Tryz.f11 Rows.chainFramesRow.domain false) (Rows.chainFramesSpec.post enc Tryz.prog Tryz.f11 false true false false):=by
 refine returnsInHanded_of_change (C:=Tryz.checked) Tryz.own started (by kernel_rfl) Tryz.func11
  (ChangeSpec.witness6 (enc:=enc) (C:=Tryz.checked) false ⟨#[],#[.agg #[.slice none 0 0,.slice none 0 0,.slice none 0 0,.int .u8 0,.int .i64 0,.int .i64 0,.int .u64 0,.slice none 0 0,.slice none 0 0,.slice none 0 0,.slice none 0 0,.slice none 0 0],.int .i64 0],[]⟩ 12 (by kernel_rfl) (by kernel_rfl) (by kernel_rfl) (by kernel_rfl)) ?_
 intro W base args ds gs before hval hW _ _
 exact TW (P:=Tryz.prog) (tab:=tab) (S:=[54,99,35,2,52,34,33,30,32,28,29,227,66,63,65,68,24,23,9,214,64,3,5,271,22,26,37]) (tb:=4) (by kernel_rfl) tabOk Yv Tryz.laidOut rfl (by kernel_rfl) rfl Tryz.underlying4
  (fun ds hd=>by
   match ds,hd with
   | [d1,d2],_=>rfl) law hval hW
theorem hA:Tryz.pinned.checked.prog.funcNamed Rows.chainFramesRow.func=some 11:=by kernel_rfl
theorem j0:(Rows.chainFramesRow.wf (OpenSpec.ofChange Rows.chainFramesSpec))=true:=by kernel_rfl
theorem j1:(laidOutB Tryz.prog)=true:=by kernel_rfl
theorem j2:(mapsRowed Tryz.prog)=true:=by kernel_rfl
theorem j3:(Tryz.f11.params.all (Tryz.prog.readableRec ·))=true:=by kernel_rfl
theorem j4:(namedTie Tryz.prog Rows.chainFramesRow.named Rows.chainFramesSpec.vars)=true:=by kernel_rfl
theorem j5:(Rows.chainFramesRow.stops==[])=true:=by kernel_rfl
theorem j6:(Tryz.prog.stops==[])=true:=by kernel_rfl
theorem j7:(Rows.chainFramesRow.knobs==[])=true:=by kernel_rfl
theorem j8:(Tryz.prog.stopKnobs==[])=true:=by kernel_rfl
theorem j9:(Rows.chainFramesRow.inPlace==Tryz.prog.inPlace 11)=true:=by kernel_rfl
theorem j10:(Rows.chainFramesRow.unfollowed==Tryz.prog.unfollowed 11)=true:=by kernel_rfl
theorem j11:(Rows.chainFramesRow.recurses==Tryz.prog.recurses 11)=true:=by kernel_rfl
theorem j12:(Rows.chainFramesRow.named==Tryz.prog.varsNamed 11)=true:=by kernel_rfl
theorem j13:(Rows.chainFramesRow.maps==(Tryz.f11.params.toList++Rows.chainFramesSpec.plain.varTypes Tryz.prog).any (Tryz.prog.mapsRec ·))=true:=by kernel_rfl
theorem j14:(Rows.chainFramesRow.ifaces==(Tryz.f11.params.toList++Rows.chainFramesSpec.plain.varTypes Tryz.prog).any (Tryz.prog.ifacesRec ·))=true:=by kernel_rfl
theorem j15:(Rows.chainFramesRow.mapsOut==Tryz.prog.mapsAmong Tryz.f11.resultTypes.toList)=true:=by kernel_rfl
theorem j16:(Rows.chainFramesRow.loops==(Tryz.f11.params.toList++Rows.chainFramesSpec.plain.varTypes Tryz.prog).any (Tryz.prog.loopsFrom ·))=true:=by kernel_rfl
theorem j17:(Rows.chainFramesRow.wideKeys==(Tryz.f11.params.toList++Rows.chainFramesSpec.plain.varTypes Tryz.prog++Tryz.f11.resultTypes.toList).any (Tryz.prog.wideKeysFrom ·))=true:=by kernel_rfl
theorem j18:(Rows.chainFramesSpec.vars.all (Tryz.prog.varReadable ·))=true:=by kernel_rfl
theorem j19:(Tryz.f11.resultTypes.all (fun t=>Tryz.prog.readableRec t&&decide (t<Tryz.prog.types.size)))=true:=by kernel_rfl
theorem j20:(Rows.chainFramesRow.ifacesOut==Tryz.f11.resultTypes.toList.any (Tryz.prog.ifacesRec ·))=true:=by kernel_rfl
theorem j21:(Rows.chainFramesRow.loopsOut==Tryz.f11.resultTypes.toList.any (Tryz.prog.loopsFrom ·))=true:=by kernel_rfl
theorem j22:(Rows.chainFramesRow.plainKeys==Tryz.prog.plainKeys)=true:=by kernel_rfl
theorem j23:(Rows.chainFramesRow.shortTexts.isNone)=true:=by kernel_rfl
theorem j24:(Tryz.prog.stopsHeard)=true:=by kernel_rfl
theorem j25:(Tryz.prog.mayEnter)=true:=by kernel_rfl
theorem j26:(Rows.chainFramesRow.lifted==Tryz.prog.liftsFinal)=true:=by kernel_rfl
theorem j27:(Tryz.prog.make==some Rows.chainFramesRow.make)=true:=by kernel_rfl
theorem j28:(Rows.chainFramesRow.kinds==(if Rows.chainFramesRow.domain.isEmpty then [] else Tryz.f11.params.toList.map fun t=>match Tryz.prog.underlying t with|some (.int k)=>some k|_=>none))=true:=by kernel_rfl
theorem j29:(Rows.chainFramesRow.pinned==Rows.chainFramesRow.pinnedBy)=true:=by kernel_rfl
theorem j30:(Rows.chainFramesRow.veiled==(Tryz.f11.params.toList++Rows.chainFramesSpec.plain.varTypes Tryz.prog++Tryz.f11.resultTypes.toList).any (Tryz.prog.veiledRec ·))=true:=by kernel_rfl
theorem j31:(Rows.chainFramesRow.veiledFits Tryz.prog Tryz.f11.params.toList (Tryz.f11.params.toList++Rows.chainFramesSpec.plain.varTypes Tryz.prog++Tryz.f11.resultTypes.toList))=true:=by kernel_rfl
theorem hB:joinedFacts Tryz.prog 11 Tryz.f11 Rows.chainFramesSpec Rows.chainFramesRow=true:=by
 simp only[joinedFacts,w09]
 exact⟨⟨⟨⟨⟨⟨⟨⟨⟨⟨⟨⟨⟨⟨⟨⟨⟨⟨⟨⟨⟨⟨⟨⟨⟨⟨⟨⟨⟨⟨⟨j0,j1⟩,j2⟩,j3⟩,j4⟩,j5⟩,j6⟩,j7⟩,j8⟩,j9⟩,j10⟩,j11⟩,j12⟩,j13⟩,j14⟩,j15⟩,j16⟩,j17⟩,j18⟩,j19⟩,j20⟩,j21⟩,j22⟩,j23⟩,j24⟩,j25⟩,j26⟩,j27⟩,j28⟩,j29⟩,j30⟩,j31⟩
theorem hC:Func.isInstance Tryz.pinned.checked.prog Tryz.f11 Rows.chainFramesRow.origin Rows.chainFramesRow.targs:=of_decide_eq_true (by kernel_rfl)
theorem hD:Func.isWrapper Tryz.pinned.checked.prog Tryz.f11 Rows.chainFramesRow.wrapper Rows.chainFramesRow.mainSum:=by unfold Func.isWrapper;first|(rw[if_pos (by decide+kernel)];kernel_rfl)|(rw[if_neg (by decide+kernel)];exact⟨rfl,rfl⟩)
theorem chainFrames_holds:Rows.ChainFramesSaid:=
 OpenClaim.holds_of_wide 11 Tryz.f11 rfl rfl rfl rfl rfl rfl rfl ⟨rfl,rfl,rfl,rfl,rfl⟩ rfl rfl rfl rfl rfl hA Tryz.func11 hB hC hD
  (fun os started H enc _=>f_lifted os started H enc)
end Go.Proofs.YtdmigejeekchiaaGreat
end
