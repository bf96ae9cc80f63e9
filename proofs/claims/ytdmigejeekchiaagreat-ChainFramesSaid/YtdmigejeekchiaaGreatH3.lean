/-
  Part 4 of the proof, shared by claims of this seat: MVzy, UZM3, UZM4, UZU1, UZH1, UZH2, UE1, UZR1, UZH3, UZM2, UZM5, US27, US28, US2, MVr, US3, US4, US5, US6, US7, US8, US9, US29, US16, US17, US18, US22, US19, US20, US23, US24, US30, US10, US11, US12.
-/
import Derived.Test.YtdmigejeekchiaaGreatH2
set_option maxHeartbeats 64000000
set_option maxRecDepth 1000000
set_option linter.unusedVariables false
set_option linter.unusedSimpArgs false
open Nat renaming reduceMul → G2, reduceAdd → G3, reduceSub → G4, reduceEqDiff → G6, reduceBEq → G7, reduceLT → G8, reduceLeDiff → G9, reduceBNe → H8, le_refl → w08, min_eq_left → w0c, zero_le → w0e, mul_one → w11, zero_add → w1f, not_lt_zero → w34, add_assoc → w48, pow_le_pow_right → w4a, lt_of_lt_of_le → w55
open Int renaming reduceEq → H0, reduceLT → H1, reduceLE → H2, reduceAdd → H3, reduceSub → H4, reduceMul → H5, reducePow → H6, reduceToNat → H7, ofNat_lt → w02, toNat_natCast → w07, toNat_zero → w18, toNat_of_nonneg → w45
open Option renaming map_some → w06, map_none → w0d, getD_some → w32, bind_some → w36
open List renaming getD_eq_getElem?_getD → w03, getElem_mem → w04, take_length → w0a, mem_append → w0b, take_succ_eq_append_getElem → w0f, take_succ_cons → w10, getElem?_eq_some_iff → w13, drop_succ_cons → w14, length_append → w15, drop_zero → w19, take_zero → w1a, getElem?_eq_getElem → w1d, append_assoc → w1e, length_take → w20, append_nil → w21, getElem?_map → w22, mem_cons_self → w24, cons_append → w26, ext_getElem? → w27, eq_nil_of_length_eq_zero → w2a, map_append → w2b, mem_cons_of_mem → w2c, flatMap_cons → w2d, nil_append → w2e, map_cons → w30, modify_eq_take_cons_drop → w33, take_of_length_le → w35, all_eq_true → w37, mem_of_getElem? → w3a, flatten_cons → w3e, getLast?_singleton → w41, mem_map → w42, replicate_succ → w44, length_nil → w46, length_drop → w47, mem_iff_getElem → w49, set_cons_succ → w4b, getElem?_eq_none → w4c, nodup_append → w4f, forall_mem_iff_forall_getElem → w50, mem_append_left → w52, getLast?_append → w53, dropLast_concat → w54, set_cons_zero → w56, mem_cons → w57, length_map → w58, length_cons → w59, mem_append_right → w5a, contains_nil → w5b
open Bool renaming and_eq_true → w09, false_and → w16, and_false → w17, false_eq_true → w25, or_eq_false_iff → w28, and_eq_true_iff → w3b
section
namespace Go.Vs
attribute [local go_sem high] zm zT
attribute [local go_sem ↓] w06 w0d
attribute [local go_sem low] Yc Yt Yf Yut Yuf yy yz yw yx
attribute [local go_sem 2000] zK
attribute [local go_sem] x6 x5 x9 x8 zR zu y7 zP zW zt yq yn ym hd kep yj w02 AV.bool.injEq AV.int.injEq not_true_eq_false not_false_eq_true true_implies false_implies and_true true_and implies_true zl zI zH zk zJ zw zc z8 zj zB zA zi zC zy zb z9 w07 zD zE zZ w18 evShift IntKind.bits zL zF zG z6 za zQ zx w0c yu yr allLen zd AV.tup.injEq List.cons.injEq AV.agg.injEq zV zU evBuild yo zN zn zM eqC0 eqC1 eqC2 zO w17 w16
section
variable {Y : YC} {tab : Nat → Option AFunc} {ρ : List AV} {m : Mem} {k : Kont} {a b : ACode} {l : List AOper} {d : Option Nat}
def Xr [YC] (tab:Nat→Option AFunc) (v:AV) (ps:List Nat) (a b:ACode) (ρ:List AV) (m:Mem) (k:Kont):Prop:=Opt (rangeEv (ITER tab) (EV tab a) (EV tab b) v ps ⟨ρ,m⟩) fun r=>Xo tab k r.1 r.2.ρ r.2.m
theorem z98 (f:Opd) (ps:List Nat):X tab (.rangeF f ps a b) ρ m k=Xr tab (f.ev ρ) ps a b ρ m k:=by unfold X Xr Run;rw[z7l];rfl
theorem zby (F:Out→St→Prop) (o:Out):Xo tab (.any F) o ρ m=F o ⟨ρ,m⟩:=rfl
noncomputable abbrev RY [YC] (tab:Nat→Option AFunc) (a b:ACode) (ps:List Nat) (ρ:List AV) (l k st:Nat):YC:=⟨yieldV (EV tab a) (EV tab b) ps ρ l k st⟩
theorem zaQ {g:Nat} {caps:List AV} {ps:List Nat} {r:AV} {m2:Mem} {n:Nat} {o:Out}
  (h:ITER tab (RY tab a b ps ρ m.stk.length m.cur.length m.nx).Y (some g) (.yld m.stk.length m.cur.length m.nx::caps) {m with cur:=m.cur++[⟨m.nx,[.int .i64 (.ofNat 0)]⟩],nx:=m.nx+1}=some (r,m2))
  (hn:loopSt m2 m.stk.length m.cur.length m.nx=some n) (ho:jumpOut n=some o)
  (q:Xo tab k o ρ (m2.put m.stk.length m.cur.length m.nx [.int .i64 (.ofNat 1)])):Xr tab (.fn (.func g) [] caps) ps a b ρ m k:=by
 refine⟨(o,⟨ρ,m2.put m.stk.length m.cur.length m.nx [.int .i64 (.ofNat 1)]⟩),?_,q⟩
 have h':ITER tab (yieldV (EV tab a) (EV tab b) ps ρ m.stk.length m.cur.length m.nx) (some g) (.yld m.stk.length m.cur.length m.nx::caps) {m with cur:=m.cur++[⟨m.nx,[.int .i64 (.ofNat 0)]⟩],nx:=m.nx+1}=some (r,m2):=h
 simp only[rangeEv,h',hn,ho,w06]
theorem zbD {y:YC} {f:Nat} {fn:AFunc} (h:tab f=some fn) (args:List AV) (hn:args.length≤fn.ntmps) (R:AV→Mem→Prop)
  (hx: @X tab y fn.body (mk fn.ntmps (.tup []) (numb 0 args)) (enter m) (.fin fn.res m R)):Opt (ITER tab y.Y (some f) args m) fun r=>R r.1 r.2:=by
 rw[←z5H _ _ hn] at hx
 rw[zaA h]
 obtain⟨⟨o,σ⟩,h1,h2,h3⟩:=hx
 rw[show @EV ⟨y.Y⟩ tab fn.body _=_ from h1]
 cases o with
 |normal=>rw[X5];exact h3
 |ret=>rw[X5];exact h3
 |exit i=>exact h2.elim
theorem z5Y {ps:List Nat} {l k st:Nat} {aS:List AV} {Q:AV×Mem→Prop} (h0:loopSt m l k st=some 0) (h1:aS.length=ps.length) (h2:m.floor≤l) (h3:l≤m.stk.length)
  (hx:X tab a (setAll ρ ps aS) (enter m) (.any fun o σ=>o= .normal∧loopSt σ.m l k st=some 0∧X tab b σ.ρ (σ.m.put l k st [.int .i64 (.ofNat 1)]) (.any fun o σ=>loopSt σ.m l k st=some 1∧
   ∃n,outCode o=some n∧Opt (leaveY m (σ.m.put l k st [.int .i64 (.ofNat n)]) (.bool (n==0))) Q))):
  Opt (yieldV (EV tab a) (EV tab b) ps ρ l k st (.yld l k st::aS) m) Q:=by
 obtain⟨⟨o,σ⟩,e1,rfl,e2,⟨o',σ'⟩,e3,e4,n,e5,e6⟩:=hx
 obtain⟨x,e7,e8⟩:=e6
 refine⟨x,?_,e8⟩
 simp only[yieldV,and_self,if_true,roundV,h0,h1,h2,h3]
 rw[e1]
 simp only[e2,if_true]
 rw[show EV tab b _=_ from e3]
 simp only[e4,if_true,e5]
 exact e7
theorem zce {args:List AV}:Xv tab (YC.Y args m) d l ρ k= @Cl (YC.Y args m) ⟨fun r=>Xs tab l (setDst ρ d r.1) r.2 k⟩:=rfl
theorem oY {args:List AV} {v:AV} {m':Mem} {F:AV×Mem→Prop} {Q:Prop} (h:YC.Y args m=some (v,m')) (q:Q) (eq:F (v,m')=Q:=by exact SE): @Cl (YC.Y args m) ⟨F⟩:=⟨_,h,eq.mpr q⟩
theorem oiz {f:Nat} {fn:AFunc} (h:tab f=some fn) {args:List AV} {s:List (List Blk)} {c:List Blk} {n g:Nat} {lv:List (List Nat)} {R:AV→Mem→Prop} {Q:Prop} (q:Q)
  (e:X tab fn.body (mk fn.ntmps (.tup []) (numb 0 args)) ⟨s++[c],[],n,[]::lv,g⟩ (.fin fn.res ⟨s,c,n,lv,g⟩ R)=Q:=by exact SE)
  (hn:args.length≤fn.ntmps:=by exact Nat.le_of_ble_eq_true rfl):Opt (ITER tab Y.Y (some f) args ⟨s,c,n,lv,g⟩) fun r=>R r.1 r.2:=
 zbD h args hn R (e▸q)
end
theorem z6j (n:Nat) (df:AV) (l:List (Nat×AV)) (p:Nat) (ps:List Nat) (x:AV) (xs:List AV):setAll (mk n df l) (p::ps) (x::xs)=setAll (mk n df ((p,x)::l)) ps xs:=by rw[setAll,z7U]
theorem z43 (ρ:List AV) (xs:List AV):setAll ρ [] xs=ρ:=by unfold setAll;rfl
theorem qJ {S S':List (List Blk)} {cur c c':List Blk} {nx nx' fl fl':Nat} {own e:List Nat} {lv rest:List (List Nat)} {b:Bool}:leaveY ⟨S',c,nx',lv,fl⟩ ⟨S++[cur],c',nx,own::e::rest,fl'⟩ (.bool b)=some (.bool b,⟨S,cur,nx,(own++e)::rest,fl⟩):=by
 simp[leaveY,leave,AV.refs,AV.toks,yN,xl]
class IS where
 I:(Nat→AV)→List (List Blk)→List (List Nat)→List Blk→Prop
section
variable {Y : YC} {tab : Nat → Option AFunc} {live ch : List Nat} {nb N : Nat} {df : AV} {l0 : List (Nat × AV)} {stk : List (List Blk)} {cur : List Blk} {nx fl : Nat} {ml : List (List Nat)} {a : ACode} {k : Kont}
def Is (N:Nat) (live ch:List Nat) (nb:Nat) (l0:List (Nat×AV)) (df:AV) (fl:Nat) [B:IS] (σ:St):Prop:=
 σ.ρ.length=N∧kep σ.ρ ch l0 df live∧B.I (gt σ.ρ) σ.m.stk σ.m.live (cut live nb σ.m.cur)∧σ.m.floor=fl
theorem zcd {df':AV} {I:(Nat→AV)→List (List Blk)→List (List Nat)→List Blk→Prop} {l:List (Nat×AV)} {c:List Blk} {n:Nat}: @Is N live ch nb l0 df fl ⟨I⟩ ⟨mk N df' l,⟨stk,c,n,ml,fl⟩⟩=(kep (mk N df' l) ch l0 df live∧I (gt (mk N df' l)) stk ml (cut live nb c)):=by
 unfold Is
 simp[ji]
theorem xs (ch:List Nat) {α:Type} (I:α→(Nat→AV)→List (List Blk)→List (List Nat)→List Blk→Prop) (μ:α→Nat) (x0:α) {H:Prop} {Q: ∀x v S e,Nat→ ∀bs,I x v S e bs→Prop} (h0:H) (h: ∀x v S e nz bs z,Q x v S e nz bs z)
  (eh:I x0 (gt (mk N df l0)) stk ml (cut live nb cur)=H:=by exact SE)
  (q: ∀(x:α) (v:Nat→AV) (S:List (List Blk)) (e:List (List Nat)) (nz:Nat) (bs:List Blk) (z:I x v S e bs),X tab a (mk N .undef (hd v ch l0 df live)) ⟨S,bs,nz,e,fl⟩ (.again (@Jb ⟨fun σ=> @Is N live ch nb l0 df fl ⟨fun v S e b=> ∃y,μ y<μ x∧I y v S e b⟩ σ⟩) k)=Q x v S e nz bs z:=by intro _ _ _ _ _ _ z;(try dsimp only at z);exact SEz) (hl:live.all (fun i=>decide (i<N))=true:=by rfl):
  XL tab live nb a (mk N df l0) ⟨stk,cur,nx,ml,fl⟩ k:=by
 replace h0:=eh▸h0
 have h00:kep (mk N df l0) ch l0 df live:=by
  clear h h0 q eh
  induction live with
  |nil=>trivial
  |cons i r ih=>
   simp only[List.all_cons,w09,decide_eq_true_eq] at hl
   refine⟨?_,ih hl.2⟩
   split
   ·trivial
   ·rw[V3,if_pos hl.1]
 refine zg (fun x σ=> @Is N live ch nb l0 df fl ⟨I x⟩ σ) μ x0 ⟨ji _ _ _,h00,h0,rfl⟩ ?_
 rintro x ⟨ρ,stk',cur',nz,live',fl'⟩ ⟨h1,h2,h5,h6⟩
 dsimp only at h1 h2 h5 h6
 subst h6
 have:=(q x _ _ _ nz _ h5).mpr (h x _ _ _ nz _ h5)
 simp only[heads]
 rw[Qo h1 (T4 h2)]
 refine Opt.mono this fun r hr=> ?_
 obtain⟨o,σ⟩:=r
 cases o
 ·obtain⟨g1,g2,⟨y,g5,g6⟩,g8⟩:=hr
  exact⟨y,g5,g1,g2,g6,g8⟩
 all_goals exact hr
end
attribute [go_sem] z98 zby z5b zce z6j z43 zcd
end Go.Vs
end
section
namespace Go.Proofs.W
open Go.Vs
attribute [local go_sem high] zm zT
attribute [local go_sem ↓] w06 w0d
attribute [local go_sem low] Yc Yt Yf Yut Yuf yy yz yw yx
attribute [local go_sem 2000] zK
attribute [local go_sem] x6 x5 x9 x8 zR zu y7 zP zW zt yq yn ym hd kep yj w02 AV.bool.injEq AV.int.injEq not_true_eq_false not_false_eq_true true_implies false_implies and_true true_and implies_true zl zI zH zk zJ zw zc z8 zj zB zA zi zC zy zb z9 w07 zD zE zZ w18 evShift IntKind.bits zL zF zG z6 za zQ zx w0c yu yr allLen zd AV.tup.injEq List.cons.injEq AV.agg.injEq zV zU evBuild yo zN zn zM eqC0 eqC1 eqC2 zO w17 w16
attribute [go_sem] qm tL
theorem z4y {Y:YC} (a b q:Nat) (d:DRegion) (l:List DRegion) (z yl:AV) (hd:IsBytes d.bytes z) (hl:IsSl IsRegion 2 l yl) (hn:l.length≤900) (p:DRegion→Bool) (C:List Blk) (i1 s1 i2 s2:Nat) (D:DRegion→List Blk→List (List Nat)→Prop) (S:List (List Blk)) (ml:List (List Nat)) (fl:Nat) (hc1:C[i1]? =some ⟨s1,[.int .u64 d.base,z]⟩) (hc2:C[i2]? =some ⟨s2,[yl]⟩)
  (hy: ∀r∈d::l,∀z cur nx e,IsRegion r z→ ∃n e' C2 l2,YC.Y [.yld a b q,z] ⟨S++[C],cur,nx,e::ml,fl⟩=some (.bool (!p r),⟨S++[C2],cur,n,e'::l2,fl⟩)∧if p r then D r C2 l2 else C2=C∧l2=ml) (nx:Nat):
  Opt (ITER tab Y.Y (some 272) [.yld a b q,.ptr S.length i1 s1 0,.ptr S.length i2 s2 0] ⟨S,C,nx,ml,fl⟩) fun r=> ∃n C2 l2,r.2=⟨S,C2,n,l2,fl⟩∧match (d::l).find? p with|none=>C2=C∧l2=ml|some r=>D r C2 l2:=by
 obtain⟨zs,hz⟩:=regs hl
 have hln:(S++[C]).length=S.length+1:=by simp
 have hne:(S.length==S.length+1)=false:=by simp
 have hg:(S++[C]).getD S.length []=C:=by simp
 have f:=nd hln (nd hne (nd hg (nd hc1 (nd hc2 (nd hd.co (nd hl.co (nd hd.z (nd hl.z fun j hj=>nd (hz j hj).1 (hz j hj).2.2))))))))
 refine oiz (tT tL) (R:=fun _ m=> ∃n C2 l2,m=⟨S,C2,n,l2,fl⟩∧match (d::l).find? p with|none=>C2=C∧l2=ml|some r=>D r C2 l2) ?_
 obtain⟨n,e,C2,l2,h1,hD⟩:=hy d (by simp) (.agg [.int .u64 d.base,z]) [] nx [] ⟨z,rfl,hd⟩
 cases hp:p d<;>simp only[hp,if_true,Bool.not_true,Bool.not_false,w25,if_false] at h1 hD
 rotate_left
 ·refine oY h1 ?_
  rw[yg rfl rfl,z5]
  exact⟨n,C2,_,rfl,by simpa [hp] using hD⟩
 obtain⟨rfl,rfl⟩:=hD
 refine oY h1 ?_
 refine xn 12 l.length [] (fun i _ _=> ∀j (hj:j<l.length),j<i→p l[j]=false) 0 ?_ fun i v e nz hi hq=> ?_
 ·grind
 refine ifs (fun h=> ?_) fun h=> ?_
 ·obtain⟨n,e1,C3,l3,h2,hD⟩:=hy l[i] (by simp) (.agg [.int .u64 l[i].base,zs i]) [⟨nz,[.int .u64 l[i].base,zs i]⟩] (nz+1) e ⟨_,rfl,(hz i h).2.1⟩
  cases hi:p l[i]<;>simp only[hi,if_true,Bool.not_true,Bool.not_false,w25,if_false] at h2 hD
  ·obtain⟨rfl,rfl⟩:=hD
   refine oY h2 ?_
   grind
  ·refine oY h2 ?_
   rw[yg rfl rfl,z5]
   refine⟨n,C3,_,rfl,?_⟩
   rw[List.find?_cons,hp,List.find?_eq_some_iff_getElem.2 ⟨hi,i,h,rfl,fun j hj=>by simp[hq j (by omega) hj]⟩]
   exact hD
 ·refine⟨nz,_,_,rfl,?_⟩
  rw[List.find?_cons,hp,List.find?_eq_none.2 fun r hr=> ?_]
  ·exact nd rfl rfl
  obtain⟨j,hj,rfl⟩:=w49.1 hr
  simp[hq j hj (by omega)]
attribute [go_sem] qC kJ
theorem slA {α:Type} {R:α→AV→Prop} {s:Nat} {xs:List α} {y:AV} (h:IsSl R s xs y) {n:Nat} (hn:n≤xs.length): ∃y',(∀k,evSlice s y (some (.int k (n:Nat))) none none=some y')∧IsSl R s (xs.drop n) y':=by
 rcases h with⟨hm,⟨rfl,rfl⟩|⟨tk,ys,rfl,h⟩⟩
 ·have:n=0:=by simpa using hn
  subst this
  exact⟨.nils,fun k=>by simp[evSlice,bound],.nil s⟩
 ·have hl:=h.len
  refine⟨.list s (if ys.length==ys.length&&(n==0||decide (n<ys.length)) then tk else .none) (ys.drop n),fun k=> ?_,.mk (h.drop n) (by rw[w47];omega)⟩
  have hb:bound (some (.int k (n:Int))) ys.length 0=some n:=by
   unfold bound;simp only;rw[if_pos (by omega)];simp
  unfold evSlice
  simp only[beq_self_eq_true,if_true]
  rw[show bound none ys.length ys.length=some ys.length from rfl,w36,hb]
  simp
theorem slB {α:Type} {R:α→AV→Prop} {s:Nat} {xs:List α} {y:AV} (h:IsSl R s xs y) {n:Nat} (hn:n≤xs.length): ∃y',(∀k,evSlice s y none (some (.int k (n:Nat))) none=some y')∧IsSl R s (xs.take n) y':=by
 rcases h with⟨hm,⟨rfl,rfl⟩|⟨tk,ys,rfl,h⟩⟩
 ·have:n=0:=by simpa using hn
  subst this
  exact⟨.nils,fun k=>by simp[evSlice,bound],.nil s⟩
 ·have hl:=h.len
  have e: ∃tk',∀k,evSlice s (.list s tk ys) none (some (.int k (n:Int))) none=some (.list s tk' ((ys.take n).drop 0)):=by
   refine⟨if n=ys.length then tk else .none,fun k=> ?_⟩
   have hb:bound (some (.int k (n:Int))) ys.length ys.length=some n:=by
    unfold bound;simp only;rw[if_pos (by omega)];simp
   unfold evSlice
   simp only[beq_self_eq_true,if_true]
   rw[hb,w36,show bound none n 0=some 0 from rfl]
   simp
  obtain⟨tk',e⟩:=e
  refine⟨_,e,?_⟩
  rw[w19]
  exact .mk (h.take n) (by rw[w20];omega)
theorem z01 (l:List UInt8) (y:AV) (hy:IsBytes l y) (hl:l.length≤1000000) (m:Mem) (hf:m.floor≤m.stk.length+1):Okl IsByte 1 tab 212 [y] m l:=by
 rcases id hy with⟨hm,⟨rfl,rfl⟩|⟨tk,ys,rfl,h⟩⟩
 ·refine oklz (tT qC) fun s c x v g e=> ?_
  trivial
 ·refine oklz (tT qC) fun s c x v g e=> ?_
  refine o0 hy (by omega) fun y n e ho _=> ?_
  exact fo ho rfl
def inReg (at_ n:Int) (r:DRegion):Bool:=decide (r.base≤at_∧at_-r.base+n≤r.bytes.length)
def foundR (at_ n:Int) (o:Option DRegion):List UInt8:=match o with|none=>[]|some r=>(r.bytes.drop (at_-r.base).toNat).take n.toNat
theorem IsSl.shift {α:Type} {R:α→AV→Prop} {s:Nat} {xs:List α} {y:AV} (h:IsSl R s xs y) (l l' k:Nat):y.shift l l' k=y:=by
 rcases h with⟨_,⟨rfl,rfl⟩|⟨tk,ys,rfl,h⟩⟩<;>rfl
theorem Vq {α β:Type} {R:α→AV→Prop} {T:β→AV→Prop} {p q:Nat} {aS:List α} {bs:List β} (d:DRegion) (z y:AV) (hz:IsSl R p aS z) (hy:IsSl T q bs y) (s:List (List Blk)) (c:List Blk) (x g:Nat) (v:List (List Nat)):
  CALL tab 211 [.agg [.int .u64 d.base,z],y] ⟨s,c,x,v,g⟩=some (.fn (.func 272) [] [.ptr s.length c.length x 0,.ptr s.length (c.length+1) (x+1) 0],⟨s,c++[⟨x,[.int .u64 d.base,z]⟩,⟨x+1,[y]⟩],x+2,v,g⟩):=by
 have h:Does tab 211 [.agg [.int .u64 d.base,z],y] ⟨s,c,x,v,g⟩ fun r m=>r= .fn (.func 272) [] [.ptr s.length c.length x 0,.ptr s.length (c.length+1) (x+1) 0]∧m=⟨s,c++[⟨x,[.int .u64 d.base,z]⟩,⟨x+1,[y]⟩],x+2,v,g⟩:=by
  have f:=nd hz.co hy.co
  refine yD (tT qm) ?_ (Nat.le_of_ble_eq_true rfl)
  refine st ?_
  simp[leave,AV.refs,refsAny,AV.shift,shiftAll,IsSl.shift hz,IsSl.shift hy,AV.toks,pushToks,z5,Nat.add_comm]
  omega
 obtain⟨⟨r,m⟩,h1,rfl,rfl⟩:=h
 exact h1
section
variable {Y : YC} {tab : Nat → Option AFunc} {ρ : List AV} {K : Kont} {a b : ACode}
theorem zc5 {g:Nat} {caps:List AV} {ps:List Nat} {s:List (List Blk)} {c:List Blk} {x fl:Nat} {lv:List (List Nat)} {M:Nat→List Blk→List (List Nat)→Mem} {T:List Blk→List (List Nat)→Prop}
  (h:Opt (ITER tab (RY tab a b ps ρ s.length c.length x).Y (some g) (.yld s.length c.length x::caps) ⟨s,c++[⟨x,[.int .i64 (.ofNat 0)]⟩],x+1,lv,fl⟩) fun r=> ∃k C l,r.2=M k C l∧T C l)
  (q: ∀k C l,T C l→ ∃n o,loopSt (M k C l) s.length c.length x=some n∧jumpOut n=some o∧Xo tab K o ρ ((M k C l).put s.length c.length x [.int .i64 (.ofNat 1)])):Xr tab (.fn (.func g) [] caps) ps a b ρ ⟨s,c,x,lv,fl⟩ K:=by
 obtain⟨⟨r,m2⟩,h1,k,C,l,rfl,h0⟩:=h
 obtain⟨n,o,h2,h3,h4⟩:=q k C l h0
 exact zaQ h1 h2 h3 h4
theorem zcb {ps:List Nat} {l k st:Nat} {args:List AV} {m:Mem} {G:Nat→List Nat→List Blk→List (List Nat)→AV×Mem} {T:List Blk→List (List Nat)→Prop} (h:Opt (yieldV (EV tab a) (EV tab b) ps ρ l k st args m) fun r=> ∃n e C l2,r=G n e C l2∧T C l2): ∃n e C l2,(RY tab a b ps ρ l k st).Y args m=some (G n e C l2)∧T C l2:=by
 obtain⟨r,h1,n,e,C,l2,rfl,h2⟩:=h
 exact⟨n,e,C,l2,h1,h2⟩
end
theorem modAt {S:List (List Blk)} {i:Nat} (h:S.length=i) (A B:List Blk) (f:List Blk→List Blk):(S++[A]++[B]).modify i f=S++[f A]++[B]:=by
 subst h
 rw[w33 (by simp)];simp
theorem QT (d:DRegion) (l:List DRegion) (y yl:AV) (hd:IsRegion d y) (hl:IsSl IsRegion 2 l yl) (hn:l.length≤900) (at_ n:Int) (h0:0≤at_∧at_<18446744073709551616) (h1:0≤n∧n≤1000000)
  (hb: ∀r∈d::l,0≤r.base∧r.base<18446744073709551616∧r.bytes.length≤1000000) (m:Mem) (hf:m.floor≤m.stk.length+1):
  OkT tab 149 [y,yl,.int .u64 at_,.int .i64 n] m fun r ts _=> ∃z b,r= .tup [z,.bool b]∧IsBytes (foundR at_ n ((d::l).find? (inReg at_ n))) z∧b=((d::l).find? (inReg at_ n)).isSome:=by
 obtain⟨z,rfl,hz⟩:=hd
 have f:=nd hz.co (nd hl.co fun s c x g v=>Vq d z yl hz hl s c x g v)
 refine oktz (tT kJ) fun s c x v g em=> ?_
 have hln:(s++[c]).length=s.length+1:=by simp
 refine zc5 (z4y _ _ _ d l z yl hz hl hn (inReg at_ n) _ 5 _ 6 _ (fun r C l2=> ∃y,IsBytes (foundR at_ n (some r)) y∧(∃t,l2=t::v)∧C=[⟨x,[.int .u64 d.base,z]⟩,⟨x+1,[.int .u64 at_]⟩,⟨x+1+1,[.int .i64 n]⟩,⟨x+1+1+1,[y]⟩,⟨x+1+1+1+1,[.bool true]⟩,⟨x+1+1+1+1+1,[.int .u64 d.base,z]⟩,⟨x+1+1+1+1+1+1,[yl]⟩,⟨x+1+1+1+1+1+2,[.int .i64 2]⟩]) _ _ _ rfl rfl ?_ _) ?_
 ·rintro r hr _ cur nx e ⟨zr,rfl,hzr⟩
  refine zcb (z5Y ?_ rfl ?_ ?_ ?_)
  ·simp[loopSt,Mem.blk,Mem.row]
  ·subst em;simp at hf⊢;omega
  ·simp
  have hg: ∀A B:List Blk,(s++[c]++[A]++[B]).getD (s.length+1) []=A:=fun A B=>by simp
  have hl3: ∀A B:List Blk,(s++[c]++[A]++[B]).length=s.length+3:=fun A B=>by simp
  have hne:(s.length+1==s.length+3)=false:=by simp
  have hm: ∀(A B:List Blk) f,(s++[c]++[A]++[B]).modify (s.length+1) f=s++[c]++[f A]++[B]:=modAt hln
  have f:=nd hln (nd hg (nd hl3 (nd hne (nd hm (nd hzr.z hzr.co)))))
  refine st ?_
  refine⟨by simp[loopSt,Mem.blk,Mem.row],?_⟩
  have hrb:=hb r hr
  refine st ?_
  have hw:= @za (at_-r.base)
  have hw2:= @za (r.bytes.length:Int) (by omega) (by omega)
  refine ifs (fun h=> ?_) fun h=> ?_
  ·have hp:inReg at_ n r=false:=by simp[inReg];omega
   exact⟨by simp[loopSt,Mem.blk,Mem.row],0,rfl,Opt.of_eq qJ ⟨_,_,_,_,by rw[hp];rfl,by rw[hp];exact nd rfl rfl⟩⟩
  specialize hw (by omega) (by omega)
  by_cases hk:at_-r.base>(r.bytes.length:Int)
  ·rw[decide_eq_true hk,zR]
   refine st ?_
   have hp:inReg at_ n r=false:=by simp[inReg];omega
   exact⟨by simp[loopSt,Mem.blk,Mem.row],0,rfl,Opt.of_eq qJ ⟨_,_,_,_,by rw[hp];rfl,by rw[hp];exact nd rfl rfl⟩⟩
  rw[decide_eq_false hk,zu]
  obtain⟨k,hkk⟩: ∃k:Nat,at_-r.base=k:=⟨(at_-r.base).toNat,by omega⟩
  obtain⟨y1,e1,h2⟩:=slA hzr (n:=k) (by omega)
  rw[hkk] at hw
  obtain⟨q,rfl⟩: ∃q:Nat,n=q:=⟨n.toNat,by omega⟩
  have hd:=h2.z.1
  rw[w47,Int.ofNat_sub (by omega)] at hd
  clear hw2
  have f:=nd f (nd hkk (nd (e1 .u64) (nd hd h2.co)))
  refine st ?_
  by_cases hq:(r.bytes.length:Int)-k≥q
  ·rw[decide_eq_true hq,zR]
   have hp:inReg at_ q r=true:=by simp[inReg];omega
   obtain⟨y2,e2,h3⟩:=slB h2 (n:=q) (by simp;omega)
   have f:=nd f (nd (e2 .i64) h3.co)
   refine st ?_
   refine oc (z01 _ y2 h3 (by simp;omega) _ (by subst em;simp at*;omega)) fun y t k ho=> ?_
   obtain⟨e0,l0,hs,hw⟩:=Wr.sink (i:=1) (live:=t::e::[]::v) ⟨[t,e,[]],rfl,rfl,ho.mono (by simp;intro _ h;exact .inl h)⟩
   obtain⟨l1,rfl,h4,h5⟩:=hw
   have f:=nd f (nd (show decide (g≤s.length+1)=true by subst em;simpa using hf) (nd (show s.length+3-(s.length+1)=1+1 by omega) (nd hs ho.co)))
   refine st ?_
   match l1,h4 with
   | [p0,p1],_=>
    rw[show∀l,sink 2 [] l=l from fun _=>rfl]
    refine⟨by simp[loopSt,Mem.blk,Mem.row],2,rfl,Opt.of_eq qJ ⟨_,_,_,p1::v,by rw[hp];rfl,?_⟩⟩
    rw[hp]
    refine⟨y,?_,⟨_,rfl⟩,rfl⟩
    show IsBytes ((r.bytes.drop (at_-r.base).toNat).take (q:Int).toNat) y
    rw[hkk,w07,w07]
    exact ho.sl (by simp;omega)
  ·rw[decide_eq_false hq,zu]
   have hp:inReg at_ q r=false:=by simp[inReg];omega
   refine st ?_
   exact⟨by simp[loopSt,Mem.blk,Mem.row],0,rfl,Opt.of_eq qJ ⟨_,_,_,_,by rw[hp];rfl,by rw[hp];exact nd rfl rfl⟩⟩
 ·intro k C l2 hC
  cases hq:(d::l).find? (inReg at_ n) with
  |none=>
   rw[hq] at hC
   obtain⟨rfl,rfl⟩:=hC
   refine⟨0,.normal,by simp[loopSt,Mem.blk,Mem.row],rfl,?_⟩
   refine st ?_
   exact⟨[],k,by rw[xl],.nils,false,rfl,.nil _,rfl⟩
  |some r=>
   rw[hq] at hC
   obtain⟨y,hy,⟨t,rfl⟩,rfl⟩:=hC
   have f:=nd f (nd hln hy.co)
   refine⟨2,.ret,by simp[loopSt,Mem.blk,Mem.row],rfl,?_⟩
   refine st ?_
   refine ft ?_ fun _ _=>⟨y,true,rfl,hy,rfl⟩
   refine st ?_
   trivial
attribute [go_sem] YT ZO Wp YS jI
def lit:List UInt8→Nat
 | []=>0
 |c::r=>c.toNat+256*lit r
theorem z4q: ∀(l:List UInt8),lit l<256^l.length
 | []=>by simp[lit]
 |c::r=>by
  have h1:=z4q r
  have h2:=c.toNat_lt
  simp only[lit,w59,Nat.pow_succ]
  omega
theorem z2M: ∀{l:List UInt8} {i:Nat} (h:i<l.length),lit (l.take (i+1))=lit (l.take i)+2^(8*i)*l[i].toNat
 | [],_,h=>by simp at h
 |c::r,0,_=>by simp[lit]
 |c::r,i+1,h=>by
  have:=z2M (l:=r) (i:=i) (by simpa using h)
  simp only[w10,lit,List.getElem_cons_succ] at this⊢
  rw[this,show 8*(i+1)=8*i+8 by omega,Nat.pow_add]
  generalize 2^(8*i)=p
  generalize (r[i]'(by simpa using h)).toNat=q
  rw[Nat.mul_right_comm p,Nat.mul_add];omega
theorem or_8 {a b i:Nat} (ha:a<2^i) (h:a+2^i*b<18446744073709551616):evBits .or .u64 (a:Int) ((2^i*b:Nat):Int)=some (.int .u64 ((a+2^i*b:Nat):Int)):=by
 show some (AV.int .u64 (IntKind.u64.wrap ((BitVec.ofInt 64 (a:Int)|||BitVec.ofInt 64 ((2^i*b:Nat):Int)).toNat:Int)))=_
 rw[BitVec.ofInt_natCast,BitVec.ofInt_natCast,BitVec.toNat_or,BitVec.toNat_ofNat,BitVec.toNat_ofNat,Nat.mod_eq_of_lt (show a<2^64 by omega),Nat.mod_eq_of_lt (show 2^i*b<2^64 by omega),Nat.or_comm,←Nat.two_pow_add_eq_or_of_lt ha,za (by omega) (by omega),Nat.add_comm]
theorem slM {α:Type} {R:α→AV→Prop} {s:Nat} {xs:List α} {y:AV} (h:IsSl R s xs y) {n k:Nat} (h1:n≤k) (h2:k≤xs.length): ∃y',(∀kd kd',evSlice s y (some (.int kd (n:Nat))) (some (.int kd' (k:Nat))) none=some y')∧IsSl R s ((xs.take k).drop n) y':=by
 rcases h with⟨hm,⟨rfl,rfl⟩|⟨tk,ys,rfl,hy⟩⟩
 ·have h0:k=0:=by simpa using h2
  subst h0
  have:n=0:=by omega
  subst this
  exact⟨.nils,fun kd kd'=>by simp[evSlice,bound],by simpa using IsSl.nil s⟩
 ·have hl:=hy.len
  exact⟨_,fun kd kd'=>by simp[evSlice,bound,hl,h1,h2];rfl,.mk ((hy.take k).drop n) (by simp;omega)⟩
theorem fv {stk:List (List Blk)} {cur c':List Blk} {nx nx' fl fl':Nat} {rest:List (List Nat)} {y r:AV} (h1:y.refs (stk++[cur]).length=false) (hq:y=r):
  Opt (leave ⟨stk,cur,nx,rest,fl⟩ ⟨stk++[cur],c',nx',[]::rest,fl'⟩ y) fun q=>FV ⟨stk,cur,nx,rest,fl⟩ r q.1 q.2:=by
 subst hq
 rw[qk h1,z5,List.filter_nil,xl]
 exact⟨⟨_,rfl⟩,rfl⟩
theorem nthB {l:List UInt8} {y:AV} (h:IsBytes l y) (j:Nat) (hj:j<l.length):nth y j= .int .u8 (l[j].toNat:Int):=h.nth hj
theorem QH (l:List UInt8) (y:AV) (hy:IsBytes l y) (k:Int) (m:Mem):Okv tab 151 [.agg [y,.int .i64 k]] m (.int .i64 (if l.length>200000∨k<0∨k>l.length then 8 else 0)):=by
 have f:=nd hy.z hy.co
 refine okz (tT ZO) fun s c x v g _=> ?_
 repeat' first|refine ifs ?_ ?_|intro
 all_goals clear f;grind
theorem z1a (w:Int) (m:Mem):Okv tab 152 [.int .i64 w] m (.int .i64 (if w=1∨w=2∨w=4∨w=8 then 0 else 2)):=by
 refine okz (tT YS) fun s c x v g _=> ?_
 repeat' first|refine ifs ?_ ?_|intro
 all_goals grind
def fineE (l:List Int):Int:=(l.find? (fun e=>decide (e≠0))).getD 0
theorem Qc {l:List Int} {i:Nat} (h:i<l.length) (h1:l[i]≠0) (h2: ∀j (hj:j<l.length),j<i→l[j]=0):fineE l=l[i]:=by
 unfold fineE
 rw[List.find?_eq_some_iff_getElem.2 ⟨by simpa using h1,i,h,rfl,fun j hj=>by simp[h2 j (by omega) hj]⟩];rfl
theorem Qb {l:List Int} (h2: ∀j (hj:j<l.length),l[j]=0):fineE l=0:=by
 unfold fineE
 rw[List.find?_eq_none.2 fun r hr=> ?_];rfl
 obtain⟨j,hj,rfl⟩:=w49.1 hr
 simp[h2 j hj]
theorem z1b (l:List Int) (y:AV) (hy:IsSl (IsK .i64) 1 l y) (m:Mem):Okv tab 150 [y] m (.int .i64 (fineE l)):=by
 have f:=nd hy.z fun j (hj:j<l.length)=>(show nth y j= .int .i64 l[j] from hy.nth hj)
 have:=hy.max
 refine okz (tT YT) fun s c x v g _=> ?_
 refine xn 7 l.length [] (fun i _ _=> ∀j (hj:j<l.length),j<i→l[j]=0) 0 ?_ fun i v e nz hi hp=> ?_
 ·grind
 repeat' first|refine ifs ?_ ?_|intro
 all_goals clear f;grind [Qc,Qb]
theorem z3K (l:List UInt8) (y:AV) (hy:IsBytes l y) (hl:l.length≤200000) (m:Mem):OkT tab 78 [y] m fun r _ _=> ∃z,r= .tup [.agg [z,.int .i64 0],.int .i64 0]∧IsBytes l z:=by
 have f:=nd hy.z (nd hy.co (show¬(l.length:Int)>200000 by omega))
 refine oktz (tT Wp) fun s c x v g _=> ?_
 refine o0 hy (by omega) fun y n e ho _=> ?_
 have f:=ho.co
 refine st ?_
 refine ft ?_ fun _ _=>⟨y,rfl,ho.sl (by omega)⟩
 refine st ?_
 trivial
theorem z5E {l:List UInt8} {k:Nat} (h:l.length≤k):lit l<256^k:=w55 (z4q l) (w4a (by omega) h)
theorem UL (l:List UInt8) (y:AV) (hy:IsBytes l y) (h8:8≤l.length) (hl:l.length≤200000) (m:Mem):Okv tab 79 [.agg [y,.int .i64 0],.int .i64 8] m (.tup [.agg [y,.int .i64 8],.int .u64 (lit (l.take 8):Nat),.int .i64 0]):=by
 obtain⟨z,h1,h2⟩:=slM hy (n:=0) (k:=8) (by omega) h8
 rw[w19] at h2
 have hn:(l.take 8).length=8:=by simp;omega
 have f0:=nd hy.z (nd hy.co (nd (show evSlice 1 y (some (.int .i64 0)) (some (.int .i64 8)) none=some z from h1 _ _) (nd (show evLen z=some (.int .i64 8) by have:=h2.z.1;rwa [hn] at this) (nd h2.z.2 h2.co))))
 have c1: ∀m,Okv tab 152 [.int .i64 8] m (.int .i64 0):=z1a 8
 have c2: ∀m,Okv tab 151 [.agg [y,.int .i64 0]] m (.int .i64 0):=fun m=>by
  have:=QH l y hy 0 m
  rwa [if_neg (by omega)] at this
 have c3: ∀m,Okv tab 150 [.list 1 .full [.int .i64 0,.int .i64 0]] m (.int .i64 0):=z1b [0,0] _ (.mk (by simp[All2,IsK]) (by simp))
 have f:=nd f0 (nd (nthB h2) (nd (fun m=>(c1 m).eq) (nd (fun m=>(c2 m).eq) (nd (fun m=>(c3 m).eq) (nd Int.sub_zero (show¬(8:Int)>(l.length:Int) by omega))))))
 generalize l.take 8=q at*
 have hs: ∀(i:Nat) (h:i<q.length),IntKind.u64.wrap (IntKind.u64.wrap (q[i].toNat:Int)*2^(8*i))=((2^(8*i)*q[i].toNat:Nat):Int)∧evBits .or .u64 (lit (q.take i):Int) ((2^(8*i)*q[i].toNat:Nat):Int)=some (.int .u64 (lit (q.take (i+1)):Nat)):=fun i h=>by
  have h1:=z2M h
  have h2:=z5E (l:=q.take (i+1)) (k:=8) (by simp;omega)
  have h3:=z4q (q.take i)
  have h4:=q[i].toNat_lt
  rw[w20,w0c (by omega),show(256:Nat)=2^8 from rfl,←Nat.pow_mul] at h3
  rw[h1]
  refine⟨?_,or_8 h3 (by omega)⟩
  rw[@za q[i].toNat (by omega) (by omega),show(q[i].toNat:Int)*2^(8*i)=((2^(8*i)*q[i].toNat:Nat):Int) by rw[Int.natCast_mul,Int.mul_comm];simp,za (by omega) (by omega)]
 have f:=nd f (nd hs (nd (fun i:Nat=>show¬(8*(i:Int)<0) by omega) fun i:Nat=>show(8*(i:Int)).toNat=8*i by omega))
 refine okz (tT jI) fun s c x v g _=> ?_
 refine xn 40 8 [8,9,10] (fun i v e=>e=[]∧v 8= .int .u64 (lit (q.take i):Nat)) 0 ?_ fun i v e nz hi hp=> ?_
 ·rfl
 obtain⟨rfl,_⟩:=hp
 refine ifs (fun hi=> ?_) fun hi=> ?_
 ·omega
 obtain rfl:i=8:=by omega
 refine fv ?_ (by rw[w35 (by omega)])
 refine st ?_
 trivial
attribute [go_sem] qV ZV jQ qq qe tr yO yV qP
def endedOk (x:DEnded):Bool:=decide (2≤x.outcome∧x.outcome≤6∧0≤x.steps∧x.steps≤5000∧(if x.outcome=3 then x.failing= -1 else 0≤x.failing∧x.failing<16))
theorem UN (d:DEnded) (m:Mem):Okv tab 288 [.agg [.int .u8 d.outcome,.int .i64 d.failing,.int .i64 d.steps]] m (.bool (endedOk d)):=by
 refine okz (tT qV) fun s c x v g _=> ?_
 repeat' first|refine ifs ?_ ?_|intro
 all_goals grind [endedOk]
def linkOk (n:Int):Bool:=decide (65536≤n∧n<81920∧n%8=0)
theorem XA (n:Int) (h0:0≤n) (m:Mem):Okv tab 333 [.int .u64 n] m (.bool (!linkOk n)):=by
 refine okz (tT tr) fun s c x v g _=> ?_
 repeat' first|refine ifs ?_ ?_|intro
 all_goals grind [linkOk]
def U64 (l:List Int):Prop:= ∀x∈l,0≤x∧x<18446744073709551616
def fidx {α:Type} (p:α→Bool) (l:List α):Int:=if l.any p then l.findIdx p else-1
theorem z5Q {α:Type} {p:α→Bool} {l:List α} {i:Nat} (h:i<l.length) (h1:p l[i]=true) (h2: ∀j (hj:j<i),p l[j]=false):fidx p l=i:=by
 have:l.findIdx p=i:=(List.findIdx_eq h).2 ⟨h1,h2⟩
 have:l.any p=true:=List.any_eq_true.2 ⟨_,w04 h,h1⟩
 simp_all [fidx]
theorem z5P {α:Type} {p:α→Bool} {l:List α} (h2: ∀j (hj:j<l.length),p l[j]=false):fidx p l= -1:=by
 have:l.any p=false:=by
  rw[List.any_eq_false]
  intro x hx
  obtain⟨j,hj,rfl⟩:=w49.1 hx
  simp[h2 j hj]
 simp[fidx,this]
theorem nthK {k:IntKind} {s:Nat} {l:List Int} {y:AV} (h:IsSl (IsK k) s l y) (j:Nat) (hj:j<l.length):nth y j= .int k l[j]:=h.nth hj
theorem z1l (l:List Int) (y:AV) (hy:IsSl (IsK .u64) 1 l y) (hl:U64 l) (m:Mem):Okv tab 374 [y,.fn (.func 333) [] []] m (.int .i64 (fidx (!linkOk ·) l)):=by
 have f:=nd hy.z (nd (nthK hy) fun j (hj:j<l.length) m=>(XA l[j] (hl _ (w04 hj)).1 m).eq)
 have:=hy.max
 refine okz (tT yV) fun s c x v g _=> ?_
 refine xn 8 l.length [] (fun i _ _=> ∀j (hj:j<l.length),j<i→linkOk l[j]=true) 0 ?_ fun i v e nz hi hp=> ?_
 ·grind
 repeat' first|refine ifs ?_ ?_|intro
 all_goals clear f;grind [z5Q,z5P]
theorem UP (l:List Int) (y:AV) (hy:IsSl (IsK .u64) 1 l y) (hl:U64 l) (m:Mem):Okv tab 332 [y,.fn (.func 333) [] []] m (.bool (!l.all linkOk)):=by
 have f:=fun m=>(z1l l y hy hl m).eq
 refine okz (tT yO) fun s c x v g _=> ?_
 unfold fidx
 split<;>grind
attribute [go_sem] uN uM vW vt vY
theorem QN (d:DEnded) (m:Mem):Okv tab 91 [.agg [.int .u8 d.outcome,.int .i64 d.failing,.int .i64 d.steps]] m (.bool (endedOk d)):=by
 refine okz (tT vY) fun s c x v g _=> ?_
 repeat' first|refine ifs ?_ ?_|intro
 all_goals grind [endedOk]
def chainOk (c:List Int):Bool:=decide (c.length≤410)&&c.all linkOk
def chainsOk (l:List (List Int)):Bool:=decide (0<l.length∧l.length≤16)&&l.all chainOk
theorem nthS {α:Type} {R:α→AV→Prop} {k s:Nat} {l:List (List α)} {y:AV} (h:IsSl (IsSl R k) s l y) (j:Nat) (hj:j<l.length):(nth y j).cells=[nth y j]:=(h.nth hj).refs_cells
theorem Wz (l:List (List Int)) (y:AV) (hy:IsSl (IsSl (IsK .u64) 1) 1 l y) (hl: ∀c∈l,U64 c) (m:Mem):Okv tab 293 [y] m (.bool (chainsOk l)):=by
 have f:=nd hy.z (nd (nthS hy) fun j (hj:j<l.length)=>nd (hy.nth hj).z.1 fun m=>(UP l[j] _ (hy.nth hj) (hl _ (w04 hj)) m).eq)
 have:=hy.max
 refine okz (tT qe) fun s c x v g _=> ?_
 refine xn 7 l.length [] (fun i _ _=> ∀j (hj:j<l.length),j<i→chainOk l[j]=true) 0 ?_ fun i v e nz hi hp=> ?_
 ·grind
 repeat' first|refine ifs ?_ ?_|intro
 all_goals clear f;grind [chainOk,chainsOk,z3B]
theorem Yh (l:List (List Int)) (y:AV) (hy:IsSl (IsSl (IsK .u64) 1) 1 l y) (hl: ∀c∈l,U64 c) (m:Mem):Okv tab 95 [y] m (.bool (chainsOk l)):=by
 have f:=nd hy.z (nd (nthS hy) fun j (hj:j<l.length)=>nd (hy.nth hj).z (nthK (hy.nth hj)))
 have:=hy.max
 have h2:=fun j (hj:j<l.length)=>(hy.nth hj).max
 have h3:=fun j (hj:j<l.length)=>hl _ (w04 hj)
 refine okz (tT vt) fun s c x v g _=> ?_
 repeat' first|refine ifs ?_ ?_|intro
 any_goals refine xn 3 l.length [] (fun i _ _=> ∀j (hj:j<l.length),j<i→chainOk l[j]=true) 0 ?_ fun i v e nz hi hp=> ?_
 repeat' first|refine ifs ?_ ?_|intro
 any_goals refine xn 4 l[i].length [] (fun j _ _=> ∀k (hk:k<l[i].length),k<j→linkOk l[i][k]=true) 0 ?_ fun i v e nz hi hp=> ?_
 repeat' first|refine ifs ?_ ?_|intro
 all_goals clear f;grind [chainOk,chainsOk,linkOk,U64,z3B]
attribute [go_sem] qP
abbrev rtA (d:DRoutine):AV:= .agg [.int .u8 d.status,.int .u64 d.code,.int .u64 d.sp,.int .u64 d.defers,.int .u64 d.panics,.int .i64 d.key]
def headOk (g:Nat) (x:DRoutine):Bool:=decide (1≤x.status∧x.status≤3∧stackB g≤x.sp∧x.sp≤stackB g+4096∧x.sp%8=0∧x.defers%8=0∧x.panics%8=0∧(x.key≠0→x.status=2)∧(x.status=3→x.sp=stackB g∧x.code=0∧x.defers=0∧x.panics=0))
def headsOk (l:List DRoutine):Bool:=decide (0<l.length∧l.length≤16)&&allI headOk 0 l
theorem Wy (g:Nat) (hg:g≤1000) (m:Mem):Okv tab 292 [.int .i64 (g:Int)] m (.int .u64 (stackB g)):=by
 refine okz (tT ZV) fun s c x v g _=> ?_
 rfl
theorem z1e (g:Nat) (hg:g≤1000) (m:Mem):Okv tab 242 [.int .i64 (g:Int)] m (.int .u64 (stackB g)):=by
 refine okz (tT uN) fun s c x v g _=> ?_
 rfl
theorem Tr (g:Nat) (hg:g≤1000) (d:DRoutine) (hw:WfRoutine d) (m:Mem):Okv tab 331 [.int .i64 (g:Int),rtA d] m (.bool (headOk g d)):=by
 obtain⟨⟨_,_⟩,_,h1,h2,h3,_⟩:=hw
 have hb:stackB g=16777216*(g+1):=rfl
 have f:=nd (fun m=>(Wy g hg m).eq) (nd (zaK h1 h2) (zaK (z4f h1 h2) h3))
 have:=z4f h1 h2
 have h4:=zaL h1.1 h2.1
 have h5:=zaL this.1 h3.1
 have:=z4f this h3
 unfold inU64 at*
 refine okz (tT jQ) fun s c x v g _=> ?_
 repeat' first|refine ifs ?_ ?_|intro
 all_goals clear f;grind [headOk]
theorem z1d (g:Nat) (hg:g≤1000) (d:DRoutine) (hw:WfRoutine d) (m:Mem):Okv tab 170 [.int .i64 (g:Int),rtA d] m (.bool (headOk g d)):=by
 obtain⟨⟨_,_⟩,_,h1,h2,h3,_⟩:=hw
 have hb:stackB g=16777216*(g+1):=rfl
 have f:=fun m=>(z1e g hg m).eq
 unfold inU64 at*
 refine okz (tT uM) fun s c x v g _=> ?_
 repeat' first|refine ifs ?_ ?_|intro
 all_goals clear f;grind [headOk]
theorem nthH {l:List DRoutine} {y:AV} (h:IsSl IsRoutine 6 l y) (j:Nat) (hj:j<l.length):nth y j=rtA l[j]:=h.nth hj
theorem Vu (l:List DRoutine) (y:AV) (hy:IsSl IsRoutine 6 l y) (hl:l.length≤900) (hw: ∀x∈l,WfRoutine x) (m:Mem):Okv tab 291 [y] m (.bool (headsOk l)):=by
 have f:=nd hy.z (nd (nthH hy) fun j (hj:j<l.length) m=>(Tr j (by omega) l[j] (hw _ (w04 hj)) m).eq)
 refine okz (tT qq) fun s c x v g _=> ?_
 refine xn 7 l.length [] (fun i _ _=> ∀j (hj:j<l.length),j<i→headOk j l[j]=true) 0 ?_ fun i v e nz hi hp=> ?_
 ·grind
 repeat' first|refine ifs ?_ ?_|intro
 all_goals clear f;grind [headsOk,y8]
theorem QM (l:List DRoutine) (y:AV) (hy:IsSl IsRoutine 6 l y) (hl:l.length≤900) (hw: ∀x∈l,WfRoutine x) (m:Mem):Okv tab 94 [y] m (.bool (headsOk l)):=by
 have f:=nd hy.z (nd (nthH hy) fun j (hj:j<l.length) m=>(z1d j (by omega) l[j] (hw _ (w04 hj)) m).eq)
 refine okz (tT vW) fun s c x v g _=> ?_
 repeat' first|refine ifs ?_ ?_|intro
 any_goals refine xn 3 l.length [] (fun i _ _=> ∀j (hj:j<l.length),j<i→headOk j l[j]=true) 0 ?_ fun i v e nz hi hp=> ?_
 repeat' first|refine ifs ?_ ?_|intro
 all_goals clear f;grind [headsOk,y8]
attribute [go_sem] x7 xD uY uW vH xU xR
theorem ZI {α:Type} {a b:List α} (hl:a.length=b.length) (h: ∀j,j<a.length→a[j]? =b[j]?):a=b:=by
 apply w27
 intro j
 by_cases hj:j<a.length
 ·exact h j hj
 ·rw[w4c (by omega),w4c (by omega)]
theorem fieldV {l:List DField} {y:AV} (h:IsSl IsField 2 l y) (j:Nat) (hj:j<l.length):nth y j= .agg [.str l[j].name,.int .i64 l[j].typ]:=h.nth hj
theorem instrV {l:List DInstr} {y:AV} (h:IsSl IsInstr 4 l y) (j:Nat) (hj:j<l.length):nth y j= .agg [.int .u8 l[j].op,.int .i64 l[j].a,.int .i64 l[j].b,.int .i64 l[j].c]:=h.nth hj
theorem runV {l:List DRun} {y:AV} (h:IsSl IsRun 2 l y) (j:Nat) (hj:j<l.length):nth y j= .agg [.int .i64 l[j].frm,.int .u64 l[j].value]:=h.nth hj
theorem intV {l:List Int} {y:AV} (h:IsSl (IsK .i64) 1 l y) (j:Nat) (hj:j<l.length):nth y j= .int .i64 l[j]:=h.nth hj
theorem strV {l:List (List UInt8)} {y:AV} (h:IsSl IsStr 1 l y) (j:Nat) (hj:j<l.length):nth y j= .str l[j]:=h.nth hj
theorem z8I (x y:DField):x=y↔x.name=y.name∧x.typ=y.typ:=by cases x;cases y;simp
theorem z8z (x y:DInstr):x=y↔x.op=y.op∧x.a=y.a∧x.b=y.b∧x.c=y.c:=by cases x;cases y;simp
theorem z7Y (x y:DRun):x=y↔x.frm=y.frm∧x.value=y.value:=by cases x;cases y;simp
theorem va (xs ys:List DRun) (x y:AV) (hx:IsSl IsRun 2 xs x) (hy:IsSl IsRun 2 ys y) (m:Mem):Okv tab 251 [x,y] m (.bool (decide (xs=ys))):=by
 have f:=nd hx.z (nd hy.z (nd (runV hx) (runV hy)))
 have:=hx.max
 refine okz (tT x7) fun s c x v g _=> ?_
 repeat' first|refine ifs ?_ ?_|intro
 any_goals refine xn 13 xs.length [] (fun i _ _=> ∀j,j<i→xs[j]? =ys[j]?) 0 ?_ fun i v e nz hi hp=> ?_
 repeat' first|refine ifs ?_ ?_|intro
 all_goals clear f;grind [ZI,z7Y]
theorem jt (xs ys:List DField) (x y:AV) (hx:IsSl IsField 2 xs x) (hy:IsSl IsField 2 ys y) (m:Mem):Okv tab 201 [x,y] m (.bool (decide (xs=ys))):=by
 have f:=nd hx.z (nd hy.z (nd (fieldV hx) (fieldV hy)))
 have:=hx.max
 refine okz (tT xD) fun s c x v g _=> ?_
 repeat' first|refine ifs ?_ ?_|intro
 any_goals refine xn 5 xs.length [] (fun i _ _=> ∀j,j<i→xs[j]? =ys[j]?) 0 ?_ fun i v e nz hi hp=> ?_
 repeat' first|refine ifs ?_ ?_|intro
 all_goals clear f;grind [ZI,z8I]
theorem Yd (xs ys:List DInstr) (x y:AV) (hx:IsSl IsInstr 4 xs x) (hy:IsSl IsInstr 4 ys y) (m:Mem):Okv tab 202 [x,y] m (.bool (decide (xs=ys))):=by
 have f:=nd hx.z (nd hy.z (nd (instrV hx) (instrV hy)))
 have:=hx.max
 refine okz (tT uY) fun s c x v g _=> ?_
 repeat' first|refine ifs ?_ ?_|intro
 any_goals refine xn 5 xs.length [] (fun i _ _=> ∀j,j<i→xs[j]? =ys[j]?) 0 ?_ fun i v e nz hi hp=> ?_
 repeat' first|refine ifs ?_ ?_|intro
 all_goals clear f;grind [ZI,z8z]
theorem qE (xs ys:List DRun) (x y:AV) (hx:IsSl IsRun 2 xs x) (hy:IsSl IsRun 2 ys y) (m:Mem):Okv tab 203 [x,y] m (.bool (decide (xs=ys))):=by
 have f:=nd hx.z (nd hy.z (nd (runV hx) (runV hy)))
 have:=hx.max
 refine okz (tT uW) fun s c x v g _=> ?_
 repeat' first|refine ifs ?_ ?_|intro
 any_goals refine xn 5 xs.length [] (fun i _ _=> ∀j,j<i→xs[j]? =ys[j]?) 0 ?_ fun i v e nz hi hp=> ?_
 repeat' first|refine ifs ?_ ?_|intro
 all_goals clear f;grind [ZI,z7Y]
theorem Zo (xs ys:List Int) (x y:AV) (hx:IsSl (IsK .i64) 1 xs x) (hy:IsSl (IsK .i64) 1 ys y) (m:Mem):Okv tab 352 [x,y] m (.bool (decide (xs=ys))):=by
 have f:=nd hx.z (nd hy.z (nd (intV hx) (intV hy)))
 have:=hx.max
 refine okz (tT vH) fun s c x v g _=> ?_
 repeat' first|refine ifs ?_ ?_|intro
 any_goals refine xn 13 xs.length [] (fun i _ _=> ∀j,j<i→xs[j]? =ys[j]?) 0 ?_ fun i v e nz hi hp=> ?_
 repeat' first|refine ifs ?_ ?_|intro
 all_goals clear f;grind [ZI]
theorem tu (xs ys:List Int) (x y:AV) (hx:IsSl (IsK .i64) 1 xs x) (hy:IsSl (IsK .i64) 1 ys y) (m:Mem):Okv tab 384 [x,y] m (.bool (decide (xs=ys))):=by
 have f:=nd hx.z (nd hy.z (nd (intV hx) (intV hy)))
 have:=hx.max
 refine okz (tT xU) fun s c x v g _=> ?_
 repeat' first|refine ifs ?_ ?_|intro
 any_goals refine xn 5 xs.length [] (fun i _ _=> ∀j,j<i→xs[j]? =ys[j]?) 0 ?_ fun i v e nz hi hp=> ?_
 repeat' first|refine ifs ?_ ?_|intro
 all_goals clear f;grind [ZI]
theorem zae (x y:DFunc):x=y↔x.name=y.name∧x.params=y.params∧x.result=y.result∧x.slots=y.slots∧x.code=y.code∧x.sizes=y.sizes∧x.lives=y.lives:=by cases x;cases y;simp
theorem kj (a b:DFunc) (x y:AV) (hx:IsFunc a x) (hy:IsFunc b y) (m:Mem):Okv tab 141 [x,y] m (.bool (decide (a=b))):=by
 obtain⟨v0,v1,v2,v3,rfl,h0,h1,h2,h3⟩:=hx
 obtain⟨w0,w1,w2,w3,rfl,k0,k1,k2,k3⟩:=hy
 have f:=nd h0.co (nd h1.co (nd h2.co (nd h3.co (nd k0.co (nd k1.co (nd k2.co (nd k3.co (nd (fun m=>(jt _ _ _ _ h0 k0 m).eq) (nd (fun m=>(Yd _ _ _ _ h1 k1 m).eq) (nd (fun m=>(qE _ _ _ _ h2 k2 m).eq) fun m=>(qE _ _ _ _ h3 k3 m).eq))))))))))
 refine okz (tT xR) fun s c x v g _=> ?_
 repeat' first|refine ifs ?_ ?_|intro
 all_goals clear f;grind [zae]
theorem typesV {l:List DTyp} {y:AV} (h:IsSl IsTyp 4 l y): ∃z:Nat→AV,∀j (hj:j<l.length),nth y j= .agg [.int .u8 l[j].kind,.int .i64 l[j].elem,.int .i64 l[j].len,z j]∧IsSl IsField 2 l[j].fields (z j):=by
 have h:=fun j hj=>h.nth (i:=j) hj
 exact⟨fun j=>if hj:j<l.length then(h j hj).choose else .undef,fun j hj=>by simp only[dif_pos hj];exact(h j hj).choose_spec⟩
theorem fnsV {l:List DFunc} {y:AV} (h:IsSl IsFunc 7 l y): ∃s c z v:Nat→AV,∀j (hj:j<l.length),nth y j= .agg [.str l[j].name,.int .i64 l[j].params,.int .i64 l[j].result,s j,c j,z j,v j]∧IsSl IsField 2 l[j].slots (s j)∧IsSl IsInstr 4 l[j].code (c j)∧IsSl IsRun 2 l[j].sizes (z j)∧IsSl IsRun 2 l[j].lives (v j):=by
 have h:=fun j hj=>h.nth (i:=j) hj
 exact⟨fun j=>if hj:j<l.length then(h j hj).choose else .undef,fun j=>if hj:j<l.length then(h j hj).choose_spec.choose else .undef,fun j=>if hj:j<l.length then(h j hj).choose_spec.choose_spec.choose else .undef,
  fun j=>if hj:j<l.length then(h j hj).choose_spec.choose_spec.choose_spec.choose else .undef,fun j hj=>by simp only[dif_pos hj];exact(h j hj).choose_spec.choose_spec.choose_spec.choose_spec⟩
attribute [go_sem] uO vu vZ vX xP
theorem z1f (d:DRegion) (y:AV) (hy:IsRegion d y) (m:Mem):Okv tab 92 [y] m (.bool (heapOk d)):=by
 obtain⟨z,rfl,hz⟩:=hy
 have f:=hz.z
 refine okz (tT uO) fun s c x v g _=> ?_
 repeat' first|refine ifs ?_ ?_|intro
 all_goals clear f;grind [heapOk,fitR]
theorem Tj (l:List DRegion) (y:AV) (hy:IsSl IsRegion 2 l y) (hl:l.length≤900) (m:Mem):Okv tab 93 [y] m (.bool (stacksOk l)):=by
 obtain⟨z,hz⟩:=regs hy
 have f:=nd hy.z fun j hj=>nd (hz j hj).1 (hz j hj).2.1.z
 refine okz (tT vu) fun s c x v g _=> ?_
 repeat' first|refine ifs ?_ ?_|intro
 any_goals refine xn 3 l.length [] (fun i _ _=> ∀j (hj:j<l.length),j<i→fitR l[j] (stackB j) 4096=true) 0 ?_ fun i v e nz hi hp=> ?_
 repeat' first|refine ifs ?_ ?_|intro
 all_goals clear f;grind [stacksOk,y8,fitR,stackB]
def sumL {α:Type} (f:α→Nat):List α→Nat
 | []=>0
 |x::r=>f x+sumL f r
theorem Vz {α:Type} {f:α→Nat}: ∀{l:List α} {i:Nat} (h:i<l.length),sumL f (l.take (i+1))=sumL f (l.take i)+f l[i]
 | [],_,h=>by simp at h
 |x::r,0,_=>by simp[sumL]
 |x::r,i+1,h=>by
  have:=Vz (f:=f) (l:=r) (i:=i) (by simpa using h)
  simp only[w10,sumL] at this⊢
  simp;omega
def gr {α:Type} (f:α→Nat) (a b:Nat) (l:List α):Bool:=(l.take 21).any (fun x=>decide (a<f x))||decide (20<l.length)||decide (b<sumL f (l.take 21))
theorem z5L {α:Type} {f:α→Nat} {a b:Nat} {l:List α} (h:gr f a b l=false):l.length≤20∧ ∀x∈l,f x≤a:=by
 simp only[gr,w28,decide_eq_false_iff_not,List.any_eq_false,decide_eq_true_eq] at h
 obtain⟨⟨h1,h2⟩,_⟩:=h
 refine⟨by omega,fun x hx=> ?_⟩
 rw[w35 (by omega)] at h1
 have:=h1 x hx
 omega
theorem z8C {α:Type} {f:α→Nat} {a b i:Nat} {l:List α} (hi:i<l.length) (h:i≤20) (h1:a<f l[i]):gr f a b l=true:=by
 have:(l.take 21).any (fun x=>decide (a<f x))=true:=List.any_eq_true.2 ⟨l[i],List.mem_take_iff_getElem.2 ⟨i,by omega,rfl⟩,by simpa using h1⟩
 simp[gr,this]
theorem z8D {α:Type} {f:α→Nat} {a b:Nat} {l:List α} (h: ∀j (hj:j<l.length),j<21→f l[j]≤a):gr f a b l=(decide (20<l.length)||decide (b<sumL f (l.take 21))):=by
 have:(l.take 21).any (fun x=>decide (a<f x))=false:=by
  rw[List.any_eq_false]
  intro x hx
  obtain⟨j,hj,rfl⟩:=List.mem_take_iff_getElem.1 hx
  have:=h j (by omega) (by omega)
  simpa using this
 simp[gr,this]
theorem QO (l:List DRegion) (y:AV) (hy:IsSl IsRegion 2 l y) (m:Mem):Okv tab 131 [y] m (.bool (gr (·.bytes.length) 20000 40000 l)):=by
 obtain⟨z,hz⟩:=regs hy
 have f:=nd hy.z fun j hj=>nd (hz j hj).1 (hz j hj).2.1.z
 have:=hy.max
 refine okz (tT vZ) fun s c x v g _=> ?_
 refine xn 4 l.length [3] (fun i v _=>i≤21∧v 3= .int .i64 (sumL (·.bytes.length) (l.take i):Nat)∧sumL (·.bytes.length) (l.take i)≤20000*i∧ ∀j (hj:j<l.length),j<i→l[j].bytes.length≤20000) 0 ?_ fun i v e nz hi hp=> ?_
 ·simp[sumL]
 obtain⟨h2,h5,h6,h4⟩:=hp
 repeat' first|refine ifs ?_ ?_|intro
 all_goals first|omega|(clear f;grind [z8C,z8D,Vz])
theorem XC (l:List (List Int)) (y:AV) (hy:IsSl (IsSl (IsK .u64) 1) 1 l y) (m:Mem):Okv tab 61 [y] m (.bool (gr List.length 420 1000 l)):=by
 have f:=nd hy.z (nd (nthS hy) fun j (hj:j<l.length)=>(hy.nth hj).z)
 have:=hy.max
 refine okz (tT vX) fun s c x v g _=> ?_
 refine xn 4 l.length [3] (fun i v _=>i≤21∧v 3= .int .i64 (sumL List.length (l.take i):Nat)∧sumL List.length (l.take i)≤420*i∧ ∀j (hj:j<l.length),j<i→l[j].length≤420) 0 ?_ fun i v e nz hi hp=> ?_
 ·simp[sumL]
 obtain⟨h2,h5,h6,h4⟩:=hp
 repeat' first|refine ifs ?_ ?_|intro
 all_goals first|omega|(clear f;grind [z8C,z8D,Vz])
theorem Vn (a b:List Int) (x y:AV) (hx:IsSl (IsK .u64) 1 a x) (hy:IsSl (IsK .u64) 1 b y) (m:Mem):Okv tab 110 [x,y] m (.bool (decide (a=b))):=by
 have f:=nd hx.z (nd hy.z (nd (nthK hx) (nthK hy)))
 have:=hx.max
 refine okz (tT xP) fun s c x v g _=> ?_
 repeat' first|refine ifs ?_ ?_|intro
 any_goals refine xn 5 a.length [] (fun i _ _=> ∀j,j<i→a[j]? =b[j]?) 0 ?_ fun i v e nz hi hp=> ?_
 repeat' first|refine ifs ?_ ?_|intro
 all_goals clear f;grind [ZI]
attribute [go_sem] qP vL vK v9
def catI {α β:Type} (f:Nat→α→List β):Nat→List α→List β
 |_,[]=>[]
 |g,x::r=>f g x++catI f (g+1) r
theorem Zk {α β:Type} {f:Nat→α→List β}: ∀{l:List α} {i g:Nat} (h:i<l.length),catI f g (l.take (i+1))=catI f g (l.take i)++f (g+i) l[i]
 | [],_,_,h=>by simp at h
 |x::r,0,g,_=>by simp[catI]
 |x::r,i+1,g,h=>by
  have:=Zk (f:=f) (l:=r) (i:=i) (g:=g+1) (by simpa using h)
  simp only[w10,catI] at this⊢
  rw[this,←w1e]
  simp[w48,Nat.add_comm 1]
theorem qO {α β:Type} {f:Nat→α→List β} {B:Nat}: ∀{l:List α} {g:Nat},(∀j (hj:j<l.length),(f (g+j) l[j]).length≤B)→ ∀k,(catI f g (l.take k)).length≤B*l.length
 | [],_,_,k=>by simp[catI]
 |x::r,g,h,0=>by simp[catI]
 |x::r,g,h,k+1=>by
  have h1:=h 0 (by simp)
  have:=qO (f:=f) (B:=B) (l:=r) (g:=g+1) (fun j hj=>by have:=h (j+1) (by simpa using hj);simpa [w48,Nat.add_comm 1] using this) k
  simp[catI,Nat.mul_add] at h1⊢;omega
def nums (l:List Int):List UInt8:=catI (fun _ n=>minimal n.toNat) 0 l
theorem z0w {l:List Int} {i:Nat} (h:i<l.length):nums (l.take (i+1))=nums (l.take i)++minimal l[i].toNat:=Zk h
theorem qH {l:List Int} (h:U64 l) (k:Nat):(nums (l.take k)).length≤10*l.length:=qO (fun j hj=>zf (by have:=h _ (w04 hj);omega)) k
theorem T1 {l:List Int} (h:U64 l):(nums l).length≤10*l.length:=by simpa using qH h l.length
theorem vary (n:Int) (hn:0≤n∧n<18446744073709551616) (m:Mem) (hf:m.floor≤m.stk.length+1):Okl IsByte 1 tab 284 [.int .u64 n] m (minimal n.toNat):=by
 have:=vl n.toNat (by omega) m.stk m.cur m.nx m.floor m.live hf
 rwa [w45 hn.1] at this
theorem tN (l:List Int) (z:AV) (hz:IsSl (IsK .u64) 1 l z) (hl:U64 l) (xs:List UInt8) (hn:xs.length+10*l.length≤1000000) (y:AV) (e:List Nat) (ho:Own IsByte 1 y xs e) (stk:List (List Blk)) (cur:List Blk) (nx fl:Nat) (hf:fl≤stk.length+1) (rest:List (List Nat)):
  OkA IsByte 1 tab 289 [y,z] ⟨stk,cur,nx,e::rest,fl⟩ rest (xs++nums l):=by
 have f:=nd hz.z (nthK hz)
 have:=hz.max
 have h2:=qH hl
 refine okaz (tT qP) ?_
 refine xh [0,9] (fun i v e _=>i≤l.length∧v 9= .int .i64 (i:Int)∧Wr IsByte 1 1 (v 0) (xs++nums (l.take i)) e rest) (fun i=>l.length-i) 0 ?_ fun i v e nz bs hi=> ?_
 ·exact nd (w0e _) (by simpa [nums,catI] using (ho.wr rest).enter)
 obtain⟨hi,_,hw⟩:=hi
 refine ifs (fun hi=> ?_) fun hi=> ?_
 ·have:= @zf l[i].toNat (by have:=hl _ (w04 hi);omega)
  have:=h2 i
  refine oc (vary l[i] (hl _ (w04 hi)) _ (by simp;omega)) fun y t k ho=> ?_
  refine obw (hw.push t) ho (by simp;omega) fun y k l ho=> ?_
  exact⟨i+1,by omega,by omega,rfl,by rw[z0w hi,←w1e];exact ho⟩
 ·obtain rfl:i=l.length:=by omega
  exact fa hw (by simp)
theorem z3C {k:IntKind}: ∀l:List Int,All2 (IsK k) l (l.map (.int k))
 | []=>trivial
 |_::l=>⟨rfl,z3C l⟩
theorem slK {k:IntKind} (l:List Int) (tk:Tok) (h:l.length≤100:=by simp):IsSl (IsK k) 1 l (.list 1 tk (l.map (.int k))):= .mk (z3C l) (by omega)
theorem signed (n:Int) (hn:in64 n) (m:Mem) (hf:m.floor≤m.stk.length+1):Okl IsByte 1 tab 285 [.int .i64 n] m (minimal (zigzag n)):=kl n hn m.stk m.cur m.nx m.floor m.live hf
def endedB (d:DEnded):List UInt8:=UInt8.ofNat d.outcome.toNat::(minimal (zigzag d.failing)++nums [d.steps])
theorem W3 (d:DEnded) (hw:WfEnded d) (m:Mem) (hf:m.floor≤m.stk.length+1):Okp IsByte 1 tab 230 [.agg [.int .u8 d.outcome,.int .i64 d.failing,.int .i64 d.steps]] m (if endedOk d then endedB d else []) (if endedOk d then 0 else 8):=by
 have h0:=fun m=>(UN d m).eq
 obtain⟨⟨_,_⟩,hg,_⟩:=hw
 have:= @zf (zigzag d.failing) (vP hg)
 cases h:endedOk d<;>have f:=nd h0 h
 ·refine okpz (tT vL) fun s c x v g _=> ?_
  trivial
 ·have:0≤d.steps∧d.steps≤5000:=by grind [endedOk]
  refine okpz (tT vL) fun s c x v g e=> ?_
  subst e
  refine oc (signed _ hg _ (by simp at*;omega)) fun y t k ho=> ?_
  refine ob (.full (byI (by omega)) _) ho (by simp;omega) fun y k e ho=> ?_
  refine oA (tN [d.steps] _ (slK _ _) (by simp[U64];omega) _ (by simp;omega) y e ho _ _ _ _ (by simp at*;omega) _) fun y e n ho=> ?_
  exact fp ho (nd (by simp[endedB]) rfl)
def headB (g:Nat) (x:DRoutine):List UInt8:=UInt8.ofNat x.status.toNat::(nums [x.code,(x.sp-stackB g)/8,x.defers/8,x.panics/8]++minimal (zigzag x.key))
def headsB (l:List DRoutine):List UInt8:=nums [(l.length:Int)]++catI headB 0 l
theorem z35 {g:Nat} {d:DRoutine} (h:headOk g d=true) (hw:WfRoutine d):U64 [d.code,(d.sp-stackB g)/8,d.defers/8,d.panics/8]:=by
 obtain⟨_,h1,h2,h3,h4,_⟩:=hw
 unfold inU64 at*
 intro x hx
 grind [headOk]
theorem VR {g:Nat} {d:DRoutine} (h:headOk g d=true) (hw:WfRoutine d):(headB g d).length≤51:=by
 have:=qH (z35 h hw) 4
 have:= @zf (zigzag d.key) (vP hw.key)
 simp[headB] at*;omega
theorem W2 (l:List DRoutine) (y:AV) (hy:IsSl IsRoutine 6 l y) (hl:l.length≤900) (hw: ∀x∈l,WfRoutine x) (m:Mem) (hf:m.floor≤m.stk.length+1):Okp IsByte 1 tab 236 [y] m (if headsOk l then headsB l else []) (if headsOk l then 0 else 8):=by
 have h0:=fun m=>(Vu l y hy hl hw m).eq
 cases h:headsOk l<;>have f:=nd h0 (nd h (nd hy.z (nd (nthH hy) fun j (hj:j<l.length) m=>(Wy j (by omega) m).eq)))
 ·refine okpz (tT vK) fun s c x v g _=> ?_
  trivial
 ·refine okpz (tT vK) fun s c x v g e=> ?_
  subst e
  simp at hf
  refine oA (tN [(l.length:Int)] _ (slK _ _) (by simp[U64];omega) [] (by simp) .nils [] (.nil _) _ _ _ _ (by simp;omega) _) fun y e n ho=> ?_
  have hh:=y8.1 (w3b.1 h).2
  have hn:=qO (fun j hj=>VR (hh j hj) (hw _ (w04 (by simpa using hj))))
  have hm:=qH (l:=[(l.length:Int)]) (by simp[U64];omega) 1
  refine xn 17 l.length [4] (fun i v e=>Own IsByte 1 (v 4) (nums [(l.length:Int)]++catI headB 0 (l.take i)) e) 0 ?_ fun i v e nz hi ho=> ?_
  ·simpa [catI] using ho
  refine ifs (fun hi=> ?_) fun hi=> ?_
  ·have hk:=hh i hi
   have hw:=hw _ (w04 hi)
   rw[w1f] at hk
   have hu:=z35 hk hw
   have:stackB i≤l[i].sp∧l[i].sp≤stackB i+4096:=by grind [headOk]
   have hq:=VR hk hw
   have:=hn i
   obtain⟨h1,⟨_,_⟩,⟨_,_⟩,⟨_,_⟩,⟨_,_⟩,hg⟩:=hw
   simp[headB] at hq hm
   refine oa ho (byI h1) (by simp;omega) fun y k e ho=> ?_
   refine oA (tN _ _ (slK [l[i].code,(l[i].sp-stackB i)/8,l[i].defers/8,l[i].panics/8] _) hu _ (by simp;omega) y e ho _ _ _ _ (by simp;omega) _) fun y e n ho=> ?_
   refine oc (signed _ hg _ (by simp;omega)) fun y t k hs=> ?_
   refine ob ho hs (by simp;omega) fun y k e ho=> ?_
   exact nd hi (by rw[Zk hi];simpa [headB] using ho)
  ·obtain rfl:i=l.length:=by omega
   exact fp ho (nd (by simp[headsB]) rfl)
def chainB (c:List Int):List UInt8:=nums [(c.length:Int)]++nums (c.map (· /8))
def chainsB (l:List (List Int)):List UInt8:=nums [(l.length:Int)]++catI (fun _=>chainB) 0 l
theorem z5T {c:List Int} (h:U64 c):U64 (c.map (· /8)):=by
 intro x hx
 obtain⟨n,hn,rfl⟩:=w42.1 hx
 have:=h n hn
 omega
theorem Wn {c:List Int} (h:U64 c) (hc:chainOk c=true):(chainB c).length≤4110:=by
 have h1:=T1 (z5T h)
 simp[chainOk] at hc
 have h2:=qH (l:=[(c.length:Int)]) (by simp[U64];omega) 1
 simp[chainB] at*;omega
theorem ja (l:List (List Int)) (y:AV) (hy:IsSl (IsSl (IsK .u64) 1) 1 l y) (hl:l.length≤900) (hw: ∀c∈l,U64 c) (m:Mem) (hf:m.floor≤m.stk.length+1):Okp IsByte 1 tab 238 [y] m (if chainsOk l then chainsB l else []) (if chainsOk l then 0 else 8):=by
 have h0:=fun m=>(Wz l y hy hw m).eq
 cases h:chainsOk l<;>have f:=nd h0 (nd h (nd hy.z (nd (nthS hy) fun j (hj:j<l.length)=>nd (hy.nth hj).z (nthK (hy.nth hj)))))
 ·refine okpz (tT v9) fun s c x v g _=> ?_
  trivial
 ·have hh:=z3B.1 (w3b.1 h).2
  have h1:=fun j (hj:j<l.length)=>hw _ (w04 hj)
  have hc: ∀j (hj:j<l.length),l[j].length≤410:=fun j hj=>by have:=hh j hj;simp[chainOk] at this;omega
  have hn:=qO (f:=fun _=>chainB) (g:=0) fun j hj=>Wn (h1 j hj) (hh j hj)
  have hm:=qH (l:=[(l.length:Int)]) (by simp[U64];omega) 1
  simp at hm
  have:l.length≤16:=by simp[chainsOk] at h;omega
  refine okpz (tT v9) fun s c x v g e=> ?_
  subst e
  simp at hf
  refine oA (tN [(l.length:Int)] _ (slK _ _) (by simp[U64];omega) [] (by simp) .nils [] (.nil _) _ _ _ _ (by simp;omega) _) fun y e n ho=> ?_
  refine xn 19 l.length [4] (fun i v e=>Own IsByte 1 (v 4) (nums [(l.length:Int)]++catI (fun _=>chainB) 0 (l.take i)) e) 0 ?_ fun i v e nz hi ho=> ?_
  ·simpa [catI] using ho
  refine ifs (fun hi=> ?_) fun hi=> ?_
  ·have:=hn i
   have:=hc i hi
   have hq:=Wn (h1 i hi) (hh i hi)
   have hd:=qH (z5T (h1 i hi))
   have h2:=qH (l:=[(l[i].length:Int)]) (by simp[U64];omega) 1
   simp at h2 hd
   refine st ?_
   refine oA (tN [(l[i].length:Int)] _ (slK _ _) (by simp[U64];omega) _ (by simp;omega) (v 4) e ho _ _ _ _ (by simp;omega) _) fun y e n ho=> ?_
   refine xn 31 l[i].length [4] (fun k v e=>Own IsByte 1 (v 4) (nums [(l.length:Int)]++catI (fun _=>chainB) 0 (l.take i)++nums [(l[i].length:Int)]++nums ((l[i].map (· /8)).take k)) e) 0 ?_ fun k v e nz hk ho=> ?_
   ·simpa [nums,catI] using ho
   have:=hd k
   refine ifs (fun hk=> ?_) fun hk=> ?_
   ·have hb:=h1 i hi _ (w04 hk)
    refine st ?_
    refine oA (tN [l[i][k]/8] _ (slK _ _) (by simp[U64];omega) _ (by simp;omega) (v 4) e ho _ _ _ _ (by simp;omega) _) fun y e n ho=> ?_
    refine nd hk ?_
    rw[z0w (by simpa using hk)]
    simpa [nums,catI] using ho
   ·obtain rfl:k=l[i].length:=by omega
    rw[w35 (l:=l[i].map (· /8)) (by simp)] at ho
    exact nd hi (by rw[Zk hi];simpa [chainB] using ho)
  ·obtain rfl:i=l.length:=by omega
   exact fp ho (nd (by simp[chainsB]) rfl)
theorem zaH {α:Type} {R:α→AV→Prop} {s i:Nat} {y:AV} {xs:List α} {live post:List (List Nat)} (t:List Nat) (h:Wr R s i y xs live post):Wr R s (i+1) y xs (t::live) post:=by
 obtain⟨pre,rfl,h2,h3⟩:=h
 exact⟨t::pre,rfl,by simp[h2],h3.push t⟩
theorem UQ (d:DRegion) (z:AV) (hz:IsBytes d.bytes z) (hd:d.bytes.length≤4096) (y:AV) (l:List UInt8) (hl:l.length≤100000) (S:List (List Blk)) (C:List Blk) (i nx fl:Nat) (e:List Nat) (rest:List (List Nat)) (hf:fl≤S.length) (ho:Own IsByte 1 y l e):
  Does tab 290 [.agg [.int .u64 d.base,z],.ptr S.length 0 i 0] ⟨S,⟨i,[y]⟩::C,nx,e::rest,fl⟩ fun v m'=> ∃y' n e',v= .tup []∧m'=⟨S,⟨i,[y']⟩::C,n,e'::rest,fl⟩∧Own IsByte 1 y' (l++regB d) e':=by
 refine yD (tT vI) ?_ (Nat.le_of_ble_eq_true rfl)
 have hln: ∀z:List Blk,(S++[z]).length=S.length+1:=fun z=>by simp
 have hne:(S.length==S.length+1)=false:=by simp
 have hg: ∀z:List Blk,(S++[z]).getD S.length []=z:=fun z=>by simp
 have hml:S.length+1-S.length=0+1:=by omega
 have hmod: ∀z f,(S++[z]).modify S.length f=S++[f z]:=fun z f=>by
  rw[w33 (by simp)];simp
 have f0:=nd hln (nd hne (nd hg (nd hmod (nd hml (nd hz.z (nd hz.co hf))))))
 have f:=f0
 have:= @zf d.bytes.length (by omega)
 refine st ?_
 refine oc (vary d.bytes.length (by omega) _ (by simp;omega)) fun y1 t k h1=> ?_
 refine obw (zaH t (ho.wr rest)) h1 (by simp;omega) fun y2 k l2 hw=> ?_
 obtain⟨e0,l2,hs,hw⟩:=hw.sink
 obtain⟨e1,rfl,ho2⟩:=hw.own
 have f:=nd f0 (nd hs ho2.co)
 refine st ?_
 refine oaw (zaH e0 (ho2.wr rest)) hz.elems_any.choose_spec.2 (by simp;omega) ?_ hz.elems_any.choose_spec.1
 intro y3 k l3 hw
 obtain⟨e2,l4,hs,hw⟩:=hw.sink
 obtain⟨e3,rfl,ho3⟩:=hw.own
 rw[w1f] at hs
 rw[hs,yg rfl rfl,z5]
 exact⟨y3,k,e3,rfl,rfl,by simpa [regB] using ho3⟩
theorem od {f:Nat} {args:List AV} {m:Mem} {R:AV→Mem→Prop} {F:AV×Mem→Prop} (h:Does tab f args m R) (q: ∀v m',R v m'→F (v,m')): @Cl (CALL tab f args m) ⟨F⟩:=Opt.mono h fun r hr=>q r.1 r.2 hr
def stacksB (l:List DRegion):List UInt8:=minimal l.length++catI (fun _=>regB) 0 l
attribute [go_sem] xe
theorem jx {l:List DRegion} (h:stacksOk l=true):l.length≤16∧ ∀j (hj:j<l.length),l[j].bytes.length≤4096:=by
 have h1:=y8.1 (w3b.1 h).2
 simp[stacksOk] at h
 exact⟨by omega,fun j hj=>by have:=h1 j hj;simp[fitR] at this;omega⟩
theorem Yk (l:List DRegion) (y:AV) (hy:IsSl IsRegion 2 l y) (hl:l.length≤900) (m:Mem) (hf:m.floor≤m.stk.length+1):Okp IsByte 1 tab 234 [y] m (if stacksOk l then stacksB l else []) (if stacksOk l then 0 else 8):=by
 have h0:=fun m=>(jv l y hy hl m).eq
 obtain⟨q,hq⟩:=regs hy
 cases h:stacksOk l<;>have f:=nd h0 (nd h (nd hy.z fun j hj=>nd (hq j hj).1 (hq j hj).2.2))
 ·refine okpz (tT xe) fun s c x v g _=> ?_
  trivial
 ·obtain⟨h1,h2⟩:=jx h
  refine okpz (tT xe) fun s c x v g e=> ?_
  subst e
  simp at hf
  have hn:=qO (f:=fun _=>regB) (g:=0) (B:=5000) fun j hj=>by have:=h2 j hj;have:= @zf l[j].bytes.length (by omega);simp[regB];omega
  have:= @zf l.length (by omega)
  refine oc (vary l.length (by omega) _ (by simp;omega)) fun y t k ho=> ?_
  refine xg [18] (fun(z:Nat×AV) v e b=>z.1≤l.length∧b=[⟨k,[z.2]⟩]∧v 18= .int .i64 (z.1:Int)∧Own IsByte 1 z.2 (minimal l.length++catI (fun _=>regB) 0 (l.take z.1)) e) (fun z=>l.length-z.1) (0,y) ?_ ?_
  ·simpa [catI] using ho
  rintro⟨i,y⟩ v e nz bs ⟨_,hb,_,ho⟩
  dsimp only at*
  subst hb
  have:=hn i
  refine ifs (fun hi=> ?_) fun hi=> ?_
  ·refine od (UQ l[i] _ (hq i hi).2.1 (h2 i hi) y _ (by simp;omega) (s++[c]) _ k _ _ e _ (by simp;omega) ho) ?_
   rintro _ _ ⟨y,n,e,rfl,rfl,ho⟩
   refine st ?_
   exact⟨(i+1,y),by dsimp only;omega,hi,rfl,by dsimp only;omega,by rw[Zk hi,←w1e];exact ho⟩
  ·obtain rfl:i=l.length:=by omega
   exact fp ho (nd (by simp[stacksB]) rfl)
attribute [go_sem] jL kL
theorem ft0 {stk:List (List Blk)} {cur:List Blk} {nx nx' fl:Nat} {live:List (List Nat)} {v:AV} {P:AV→List Nat→Nat→Prop} (h: ∀n,P v [] n):FinT ⟨stk,cur,nx,live,fl⟩ P v ⟨stk,cur,nx',live,fl⟩:=⟨[],nx',by rw[xl],h _⟩
def errB (h:DRegion) (l:List DRegion) (at_ n:Int):Int:=if(heapOk h&&stacksOk l)=false then 8 else if at_=0 then 42 else if((h::l).find? (inReg at_ n)).isSome=true then 0 else 16
def wordR (h:DRegion) (l:List DRegion) (at_:Int):Int×Int:=
 if errB h l at_ 8≠0 then(0,errB h l at_ 8) else if at_%8≠0 then(0,16) else((lit (foundR at_ 8 ((h::l).find? (inReg at_ 8))):Nat),0)
theorem reg_len {h:DRegion} {l:List DRegion} (hh:heapOk h=true) (hs:stacksOk l=true): ∀r∈h::l,0≤r.base∧r.base<18446744073709551616∧r.bytes.length≤1000000:=by
 have h1:=y8.1 (w3b.1 hs).2
 have h2:=jx hs
 intro r hr
 rcases w57.1 hr with rfl|hr
 ·simp[heapOk,fitR] at hh;omega
 ·obtain⟨j,hj,rfl⟩:=w49.1 hr
  have:=h1 j hj
  simp[fitR,stackB] at this
  omega
theorem z6V {at_ n:Int} {l:List DRegion} (h1:0≤n) (h:(l.find? (inReg at_ n)).isSome=true):(foundR at_ n (l.find? (inReg at_ n))).length=n.toNat:=by
 obtain⟨r,hr⟩:=Option.isSome_iff_exists.1 h
 have:=List.find?_some hr
 simp[inReg] at this
 rw[hr]
 simp[foundR]
 omega
theorem Tl (d:DRegion) (l:List DRegion) (y yl:AV) (hd:IsRegion d y) (hl:IsSl IsRegion 2 l yl) (hn:l.length≤900) (at_ n:Int) (h0:0≤at_∧at_<18446744073709551616) (h1:0≤n∧n≤4096) (m:Mem) (hf:m.floor≤m.stk.length+1):
  OkT tab 77 [y,yl,.int .u64 at_,.int .i64 n] m fun r _ _=> ∃z,r= .tup [z,.int .i64 (errB d l at_ n)]∧(errB d l at_ n=0→IsBytes (foundR at_ n ((d::l).find? (inReg at_ n))) z):=by
 have hF:=fun h1 h2 m=>QT d l y yl hd hl hn at_ n h0 (by omega) (reg_len h1 h2) m
 have f:=nd (fun m=>(Y3 d y hd m).eq) fun m=>(jv l yl hl hn m).eq
 obtain⟨z,rfl,hz⟩:=hd
 have f:=nd f (nd hz.co (nd hl.co (nd (show¬n<0 by omega) (show¬n>4096 by omega))))
 refine oktz (tT jL) fun s c x v g em=> ?_
 subst em
 repeat' first|refine ifs ?_ ?_|intro
 ·exact ft0 fun _=>⟨.nils,by simp[errB, *],by simp[errB, *]⟩
 ·refine ot (hF (by assumption) (by assumption) _ (by simp at*;omega)) fun r t k hr=> ?_
  obtain⟨y,b,rfl,h3,rfl⟩:=hr
  have f:=h3.co
  refine st ?_
  refine ifs (fun h4=> ?_) fun h4=> ?_
  ·refine ft ?_ fun _ _=>⟨y,by simp[errB, *],fun _=>h3⟩
   refine st ?_
   trivial
  ·exact ft0 fun _=>⟨.nils,by simp[errB, *],by simp[errB, *]⟩
 ·exact ft0 fun _=>⟨.nils,by simp[errB, *],by simp[errB, *]⟩
 ·exact ft0 fun _=>⟨.nils,by simp[errB, *],by simp[errB, *]⟩
theorem qs (d:DRegion) (l:List DRegion) (y yl:AV) (hd:IsRegion d y) (hl:IsSl IsRegion 2 l yl) (hn:l.length≤900) (at_:Int) (h0:0≤at_∧at_<18446744073709551616) (m:Mem) (hf:m.floor≤m.stk.length+1):
  Okv tab 24 [y,yl,.int .u64 at_] m (.tup [.int .u64 (wordR d l at_).1,.int .i64 (wordR d l at_).2]):=by
 have hB:=fun m=>Tl d l y yl hd hl hn at_ 8 h0 (by omega) m
 obtain⟨z,rfl,hz⟩:=hd
 have f:=nd hz.co hl.co
 refine okz (tT kL) fun s c x v g em=> ?_
 subst em
 refine ot (hB _ (by simp at*;omega)) fun r t k hr=> ?_
 obtain⟨y,rfl,h3⟩:=hr
 refine st ?_
 refine ifs (fun h4=> ?_) fun h4=> ?_
 ·simp[wordR,h4]
 refine ifs (fun h5=> ?_) fun h5=> ?_
 ·simp[wordR,h4,h5]
 have h4:errB d l at_ 8=0:=by omega
 have h6:(foundR at_ 8 ((d::l).find? (inReg at_ 8))).length=8:=z6V (by omega) (by unfold errB at h4;grind)
 refine ot (z3K _ y (h3 h4) (by omega) _) fun r t k hr=> ?_
 obtain⟨w,rfl,h7⟩:=hr
 have f:=nd h7.co fun m=>(UL _ w h7 (by omega) (by omega) m).eq
 refine st ?_
 rw[w35 (by omega)]
 simp[wordR,h4,h5]
end Go.Proofs.W
end
section
namespace Go.Proofs.W
open Go.Vs
def rw' (stk:List (List Blk)) (cur:List Blk) (lv k st:Nat) (y:AV):List (List Blk):=(stk++[cur]).modify lv fun f=>f.set k ⟨st,[y]⟩
section
variable {stk : List (List Blk)} {cur : List Blk} {lv k st : Nat} {y y' : AV}
theorem ku:(rw' stk cur lv k st y).length=(stk++[cur]).length:=by simp[rw']
theorem z1A (h:lv≤stk.length) (hk:k<((stk++[cur]).getD lv []).length):((rw' stk cur lv k st y).getD lv [])[k]? =some ⟨st,[y]⟩:=by
 have hl:lv<(stk++[cur]).length:=by simp;omega
 unfold rw'
 grind
theorem z45:(rw' stk cur lv k st y).modify lv (fun f=>f.set k ⟨st,[y']⟩)=rw' stk cur lv k st y':=by
 unfold rw'
 apply w27
 intro j
 simp only[List.getElem?_modify]
 cases (stk++[cur])[j]? with
 |none=>simp
 |some f=>
  simp_all
theorem zaJ (h:((stk++[cur]).getD lv [])[k]? =some ⟨st,[y]⟩):stk++[cur]=rw' stk cur lv k st y:=by
 unfold rw'
 apply w27
 intro j
 simp only[List.getElem?_modify]
 by_cases e:lv=j
 ·subst e
  simp only[w03] at h
  cases hq:(stk++[cur])[lv]? with
  |none=>rfl
  |some f=>
   rw[hq] at h
   simp only[w32] at h
   simp only[if_true,Option.map_eq_map,w06,Option.some.injEq]
   apply w27
   grind
 ·simp[e]
def wrote (m:Mem) (lv k st:Nat) (y:AV) (n:Nat) (l:List (List Nat)):Mem:={m.put lv k st [y] with nx:=n,live:=l}
theorem z62 {c:List Blk} {nx fl n:Nat} {live l:List (List Nat)} (h:lv≤stk.length):wrote ⟨rw' stk cur lv k st y,c,nx,live,fl⟩ lv k st y' n l=⟨rw' stk cur lv k st y',c,n,l,fl⟩:=by
 unfold wrote Mem.put
 rw[if_neg (by rw[ku];simp;omega)]
 simp only[z45]
theorem Z6 {nx fl n:Nat} {live l:List (List Nat)}:wrote ⟨stk,cur,nx,live,fl⟩ stk.length k st y' n l=⟨stk,cur.set k ⟨st,[y']⟩,n,l,fl⟩:=by
 unfold wrote Mem.put
 simp
theorem z2Q {m0:Mem} {c':List Blk} {nx' fl':Nat} {own:List Nat} {live':List (List Nat)} {r:AV} (hlv:lv≤stk.length) (h1:r.refs (stk++[cur]).length=false) (h2:r.toks=[]) (nx:Nat) (live:List (List Nat)):
  leave m0 ⟨rw' stk cur lv k st y,c',nx',own::live',fl'⟩ r=some (r,wrote ⟨stk,cur,nx,live,m0.floor⟩ lv k st y nx' live'):=by
 unfold wrote
 by_cases e:lv=stk.length
 ·have:rw' stk cur lv k st y=stk++[cur.set k ⟨st,[y]⟩]:=by
   unfold rw';subst e
   rw[w33 (by simp)];simp
  rw[this,yg (by simpa using h1) h2]
  unfold Mem.put
  simp[e]
 ·have:rw' stk cur lv k st y=(stk.modify lv fun f=>f.set k ⟨st,[y]⟩)++[cur]:=by
   unfold rw'
   apply w27
   grind
  rw[this,yg (by simpa using h1) h2]
  unfold Mem.put
  simp[e]
end
theorem z5q {S:List (List Blk)} {C:List Blk} {nx fl:Nat} {live:List (List Nat)} {lv k st:Nat} {cs:List AV} (h:Mem.blk ⟨S,C,nx,live,fl⟩ lv k st=some cs) (hlv:lv≤S.length):((S++[C]).getD lv [])[k]? =some ⟨st,cs⟩:=by
 unfold Mem.blk at h
 split at h
 ·rename_i b hb
  split at h
  ·rename_i e
   injection h with h
   have hb':b=⟨st,cs⟩:=by rw[←h,←eq_of_beq e]
   subst hb'
   unfold Mem.row at hb
   grind
  ·cases h
 ·cases h
theorem zbs {stk:List (List Blk)} {cur c:List Blk} {lv k st nx fl:Nat} {live:List (List Nat)} {y:AV} (hlv:lv≤stk.length) (hk:k<((stk++[cur]).getD lv []).length):Mem.blk ⟨rw' stk cur lv k st y,c,nx,live,fl⟩ lv k st=some [y]:=by
 unfold Mem.blk Mem.row
 simp only
 rw[if_neg (by rw[ku];simp;omega),z1A hlv hk]
 simp
theorem jn {s bytes:Nat} {y z:AV} {zs:List AV} (hz: ∀m:Mem,m.elems s z=some zs) {nx:Nat} {live:List (List Nat)} {y':AV} {n:Nat} {live':List (List Nat)} (h:evApp ⟨[],[],nx,live,0⟩ s bytes y z=some (y',⟨[],[],n,live',0⟩)) (stk:List (List Blk)) (cur:List Blk) (fl:Nat):
  evApp ⟨stk,cur,nx,live,fl⟩ s bytes y z=some (y',⟨stk,cur,n,live',fl⟩):=by
 unfold evApp at h⊢
 rw[hz] at h⊢
 cases zs with
 |nil=>
  grind
 |cons a r=>
  simp only at h⊢
  cases y<;>first|(cases h;done)|skip
  ·grind
  ·grind
  ·exfalso
   rename_i s' l k st len
   have:Mem.blk ⟨[],[],nx,live,0⟩ l k st=none:=by
    unfold Mem.blk Mem.row
    simp
   grind
def WrL (i:Nat) (y:AV) (b:List UInt8) (live post:List (List Nat)):Prop:= ∃pre l,live=pre++l::post∧pre.length=i∧Own IsByte 1 y b l
theorem WrL.enter {i:Nat} {y:AV} {b:List UInt8} {live post:List (List Nat)} (h:WrL i y b live post):WrL (i+1) y b ([]::live) post:=by
 obtain⟨pre,l,rfl,h2,h3⟩:=h
 exact⟨[]::pre,l,rfl,by simp[h2],h3⟩
theorem WrL.push {i:Nat} {y:AV} {b:List UInt8} {live post:List (List Nat)} (ts:List Nat) (h:WrL i y b live post):WrL i y b (pushToks ts live) post:=by
 obtain⟨pre,l,rfl,h2,h3⟩:=h
 cases pre with
 |nil=>exact⟨[],ts++l,by rw[w2e,yN];rfl,h2,h3.push ts⟩
 |cons o r=>exact⟨(ts++o)::r,l,by rw[w26,yN];rfl,h2,h3⟩
theorem WrL.tail {i:Nat} {y:AV} {b:List UInt8} {live post:List (List Nat)} (h:WrL (i+1) y b live post): ∃o l',live=o::l'∧WrL i y b l' post:=by
 obtain⟨pre,l,rfl,h2,h3⟩:=h
 match pre,h2 with
 |o::r,h2=>exact⟨o,r++l::post,rfl,r,l,rfl,by simpa using h2,h3⟩
theorem WrL.own {y:AV} {b:List UInt8} {live post:List (List Nat)} (h:WrL 0 y b live post): ∃e,live=e::post∧Own IsByte 1 y b e:=by
 obtain⟨pre,l,rfl,h2,h3⟩:=h
 grind
theorem U7 {t:Nat}: ∀{j:Nat} {pre:List (List Nat)} (l:List Nat) (post:List (List Nat)),pre.length=j→addAt t j (pre++l::post)=pre++(t::l)::post
 |0,[],l,post,_=>rfl
 |0,_::_,_,_,h=>by simp at h
 |j+1,[],_,_,h=>by simp at h
 |j+1,a::r,l,post,h=>by simp only[w26,addAt];rw[U7 l post (by simpa using h)]
theorem WrL.app {i:Nat} {y:AV} {b c:List UInt8} {live post:List (List Nat)} {z:AV} {zs:List AV} (h:WrL (i+1) y b live post) (hz: ∀m:Mem,m.elems 1 z=some zs) (hc:All2 IsByte c zs) (hl:b.length+c.length≤140737488355328) (nx:Nat):
  ∃y' n live' o l2,(∀stk cur fl,evApp ⟨stk,cur,nx,live,fl⟩ 1 1 y z=some (y',⟨stk,cur,n,live',fl⟩))∧y'.cells=[y']∧y'.one=true∧sink (i+1) y'.toks live'=o::l2∧WrL i y' (b++c) l2 post:=by
 obtain⟨pre,l,rfl,h2,h3⟩:=h
 have hnew: ∀(ys:List AV) (o:List Nat) (r:List (List Nat)) (l':List Nat),r.length=i→All2 IsByte (b++c) ys→
   ∃o2 l2,sink (i+1) (AV.list 1 (.id nx) ys).toks ((nx::o)::(r++l'::post))=o2::l2∧WrL i (.list 1 (.id nx) ys) (b++c) l2 post:=fun ys o r l' hr hq=>by
  simp only[AV.toks,sink,sink1,List.contains_cons,beq_self_eq_true,Bool.true_or,if_true,List.erase_cons_head,Nat.add_sub_cancel]
  exact⟨o,_,rfl,r,nx::l',U7 l' post hr,hr,.inr ⟨_,ys,rfl,hq,.inr ⟨nx,w24,rfl⟩⟩⟩
 match pre,h2 with
 |o::r,h2=>
  have hr:r.length=i:=by simpa using h2
  have hfl:Own IsByte 1 y b ((o::r++l::post).flatten):=h3.mono fun t ht=>by
   grind
  rcases Own.app (m:=⟨[],[],nx,o::r++l::post,0⟩) (bytes:=1) hfl (hz _) hc (by omega) with⟨hcs,e⟩|⟨ys,q,e⟩|⟨t,ys,q0,hy,ht,q,e⟩
  ·subst hcs
   rw[w21]
   rcases h3 with⟨rfl,rfl⟩|⟨tk,ys,rfl,hq,hk⟩
   ·exact⟨_,_,_,o,_,jn hz e,rfl,rfl,rfl,r,l,rfl,hr,.inl ⟨rfl,rfl⟩⟩
   ·rcases hk with rfl|⟨t,ht,rfl⟩
    ·exact⟨_,_,_,o,_,jn hz e,rfl,rfl,rfl,r,l,rfl,hr,.inr ⟨_,ys,rfl,hq,.inl rfl⟩⟩
    ·by_cases hto:o.contains t=true
     ·refine⟨_,_,_,o.erase t,addAt t i (r++l::post),jn hz e,rfl,rfl,?_,r,t::l,U7 l post hr,hr,.inr ⟨_,ys,rfl,hq,.inr ⟨t,w24,rfl⟩⟩⟩
      simp only[AV.toks,sink,sink1,w26,hto,if_true,Nat.add_sub_cancel]
     ·refine⟨_,_,_,o,r++l::post,jn hz e,rfl,rfl,?_,r,l,rfl,hr,.inr ⟨_,ys,rfl,hq,.inr ⟨t,ht,rfl⟩⟩⟩
      simp only[AV.toks,sink,sink1,w26]
      grind
  ·obtain⟨o2,l2,hs,hw⟩:=hnew ys o r l hr q
   exact⟨_,_,_,o2,l2,jn hz e,rfl,rfl,hs,hw⟩
  ·have htl:t∈l:=by
    rcases h3 with⟨rfl,_⟩|⟨tk,ys',e1,_,e2|⟨t',e3,e2⟩⟩
    ·cases hy
    ·grind
    ·grind
   have hd:dropTok t (o::r++l::post)=dropTok t (o::r++[l])++post:=by
    have:=YL (t:=t) (l:=o::r++[l]) (r:=post) (by simp only[List.flatten_append,w0b];exact .inr (by simpa using htl))
    grind
   have hdl:(dropTok t (o::r++[l])).length=i+2:=by rw[ka];simp[hr]
   obtain⟨o3,r3,l3,he,hr3⟩: ∃o3 r3 l3,dropTok t (o::r++[l])=o3::(r3++[l3])∧r3.length=i:=by
    match hq:dropTok t (o::r++[l]),hdl with
    |o3::rest,hdl=>
     have hrl:rest.length=i+1:=by simpa using hdl
     have hne:rest≠[]:=by intro e;subst e;simp at hrl
     exact⟨o3,rest.dropLast,rest.getLast hne,by rw[List.dropLast_concat_getLast],by rw[List.length_dropLast];omega⟩
   rw[show(Mem.live ⟨[],[],nx,o::r++l::post,0⟩)=o::r++l::post from rfl,hd,he] at e
   obtain⟨o2,l2,hs,hw⟩:=hnew ys o3 r3 l3 hr3 q
   refine⟨_,_,_,o2,l2,jn hz e,rfl,rfl,?_,hw⟩
   rw[←hs];simp[addTok]
theorem zao {α:Type} {R:α→AV→Prop} {s:Nat} {xs:List α} {f:Nat} {args:List AV} {m m0 mm:Mem} {fl:Nat} {ws:Watch} {d:Option Nat} {l:List AOper} {ρ:List AV} {k:Kont} (h:Okl R s tab f args m xs)
  (q: ∀y ts n,Own R s y xs ts→Xd tab fl m0 ws l (setDst ρ d y) {m with nx:=n,live:=pushToks ts m.live} k):Xw tab (CALL tab f args m) 2 fl m0 ws d l ρ mm k:=by
 obtain⟨y,ts,n,h1,h2⟩:=h
 rw[h1,zbt];exact q y ts n h2
def Writes (f:Nat) (args:List AV) (lv k st i:Nat) (y:AV) (b c:List UInt8) (post:List (List Nat)) (r:AV) (m:Mem):Prop:=
 ∃y' n live',CALL tab f args m=some (r,wrote m lv k st y' n live')∧WrL i y' (b++c) live' post
structure At (m:Mem) (lv k st i:Nat) (y:AV) (b:List UInt8) (post:List (List Nat)):Prop where
 level:lv+i=m.stk.length
 cell:m.blk lv k st=some [y]
 low:m.floor≤lv
 w:WrL i y b m.live post
theorem qF (n:Nat) (hn:n<9223372036854775808) (m:Mem) {lv k st i:Nat} {y:AV} {b:List UInt8} {post:List (List Nat)} (ha:At m lv k st i y b post) (hb:b.length≤1000000):
  Writes 225 [.ptr lv k st 0,.int .i64 n] lv k st i y b (minimal n) post (.tup []) m:=by
 suffices h:Does tab 225 [.ptr lv k st 0,.int .i64 n] m fun v m'=> ∃y' n' live',v= .tup []∧m'=wrote m lv k st y' n' live'∧WrL i y' (b++minimal n) live' post by
  obtain⟨z,h1,y',n',l',h2,h3,h4⟩:=h
  exact⟨y',n',l',by rw[h1,←h2,←h3],h4⟩
 refine yD (tT ux) ?_ (Nat.le_of_ble_eq_true rfl)
 obtain⟨stk,cur,nx,live,fl⟩:=m
 obtain⟨hlv,hblk,hfl,hW⟩:=ha
 dsimp only at hlv hfl hW
 have hrow:=z5q hblk (by omega)
 have hk:k<((stk++[cur]).getD lv []).length:=(w13.1 hrow).1
 have hid:=zaJ hrow
 have hlv':lv≤stk.length:=by omega
 have hne:(lv==(stk++[cur]).length)=false:=by simp;omega
 have hsub:(stk++[cur]).length-lv=i+1:=by simp;omega
 have e:IntKind.u64.wrap (n:Int)=n:=za (by omega) (by omega)
 simp only[ux,go_sem,G3,G6,G8]
 simp only[hid]
 simp only[go_sem,G6,G8,ku,hne,z1A hlv' hk,e]
 have hfv:max fl ((stk++[cur]).length+1)≤(rw' stk cur lv k st y).length+1:=by rw[ku];simp;omega
 refine zao (vl n (by omega) _ _ _ _ _ hfv) fun yv ts nv hov=> ?_
 simp only[go_sem,G6,G8]
 obtain⟨zs,hz,hc⟩:=hov.elems
 have hm:=zf (n:=n) (by omega)
 obtain⟨y',n',live',o,l2,happ,hcell,hone,hs,hW2⟩:=WrL.app ((WrL.enter hW).push ts) hz hc (by omega) nv
 rw[yN,w21] at happ
 simp only[go_sem,G6,G8,happ,ku,hne,z1A hlv' hk,hcell,hone,hfl,hsub,hs,z45]
 rw[z2Q hlv' rfl rfl nx live,z5]
 grind
def f0:DField:=⟨[],0⟩
def fldAt (l:List DField) (k:Nat):DField:=l.getD k f0
theorem Zh {l:List DField} {j:Nat} (h:j<l.length):l[j]=fldAt l j:=by simp[fldAt,w03,h]
def flds (l:List DField):Nat→List UInt8
 |0=>minimal l.length
 |k+1=>flds l k++(said (fldAt l k).name++minimal (fldAt l k).typ.toNat)
def FOk (l:List DField):Prop:=l.length≤16∧ ∀f∈l,f.name.length≤16∧0≤f.typ∧f.typ<1000
theorem FOk.at {l:List DField} (h:FOk l) {k:Nat} (hk:k<l.length):(fldAt l k).name.length≤16∧0≤(fldAt l k).typ∧(fldAt l k).typ<1000:=by rw[←Zh hk];exact h.2 _ (w04 hk)
theorem qG {s:List UInt8} (h:s.length≤1000):(said s).length≤s.length+10:=by
 have:=zf (n:=s.length) (by omega)
 unfold said;rw[w15];omega
theorem qK {l:List DField} (h:FOk l): ∀k,k≤l.length→(flds l k).length≤10+36*k
 |0,_=>zf (by have:=h.1;omega)
 |k+1,hk=>by
  have ih:=qK h k (by omega)
  obtain⟨h1,h2,h3⟩:=h.at (show k<l.length by omega)
  have m1:=qG (s:=(fldAt l k).name) (by omega)
  have m2:=zf (n:=(fldAt l k).typ.toNat) (by omega)
  simp only[flds,w15];omega
attribute [local go_sem high] zm zT
attribute [local go_sem ↓] w06 w0d
attribute [local go_sem low] Yc Yt Yf Yut Yuf yy yz yw yx
attribute [local go_sem 2000] zK
attribute [local go_sem] x6 x5 x9 x8 zR zu y7 zP zW zt yq yn ym hd kep yj w02 AV.bool.injEq AV.int.injEq not_true_eq_false not_false_eq_true true_implies false_implies and_true true_and implies_true zl zI zH zk zJ zw zc z8 zj zB zA zi zC zy zb z9 w07 zD zE zZ w18 evShift IntKind.bits zL zF zG z6 za zQ zx w0c yu yr allLen zd AV.tup.injEq List.cons.injEq AV.agg.injEq zV zU evBuild yo zN zn zM eqC0 eqC1 eqC2 zO w17 w16
theorem WrL.cons {i:Nat} {y:AV} {b:List UInt8} {live post:List (List Nat)} (o:List Nat) (h:WrL i y b live post):WrL (i+1) y b (o::live) post:=by
 obtain⟨pre,l,rfl,h2,h3⟩:=h
 exact⟨o::pre,l,rfl,by simp[h2],h3⟩
def FinW (m:Mem) (lv k st i:Nat) (b:List UInt8) (post:List (List Nat)) (r v:AV) (m':Mem):Prop:= ∃y' n l,v=r∧m'=wrote m lv k st y' n l∧WrL i y' b l post
def Wf (stk:List (List Blk)) (cur:List Blk) (lv k st i fl:Nat):Prop:=
 (∀y,(rw' stk cur lv k st y).length=(stk++[cur]).length)∧(lv==(stk++[cur]).length)=false∧(stk++[cur]).length-lv=i+1∧(∀y,((rw' stk cur lv k st y).getD lv [])[k]? =some ⟨st,[y]⟩)∧(∀y y',(rw' stk cur lv k st y).modify lv (fun f=>f.set k ⟨st,[y']⟩)=rw' stk cur lv k st y')∧fl≤lv
section
variable {f : Nat} {fn : AFunc} {args : List AV} {m : Mem} {lv k st i nx fl n : Nat} {y r : AV} {b B : List UInt8} {live L post : List (List Nat)} {stk : List (List Blk)} {cur bs : List Blk}
theorem wz (ht:tab f=some fn) (ha:At m lv k st i y b post) {Q:List (List Blk)→List Blk→Nat→List (List Nat)→Nat→Prop}
  (hx: ∀s c n l g,Wf s c lv k st i g→lv≤s.length→k<((s++[c]).getD lv []).length→WrL (i+1) y b ([]::l) post→Q s c n l g)
  (e: ∀s c n l g,Wf s c lv k st i g→X tab fn.body (mk fn.ntmps (.tup []) (numb 0 args)) ⟨rw' s c lv k st y,[],n,[]::l,g⟩ (.fin fn.res ⟨s,c,n,l,g⟩ (FinW ⟨s,c,n,l,g⟩ lv k st i (b++B) post r))=Q s c n l g:=by intro _ _ _ _ _ f;unfold Wf at f;exact SE)
  (hn:args.length≤fn.ntmps:=by exact Nat.le_of_ble_eq_true rfl):Writes f args lv k st i y b B post r m:=by
 obtain⟨stk,cur,nx,live,fl⟩:=m
 obtain⟨hlv,hblk,hfl,hW⟩:=ha
 dsimp only at hlv hfl hW
 have hrow:=z5q hblk (by omega)
 have hk:k<((stk++[cur]).getD lv []).length:=(w13.1 hrow).1
 have hid:=zaJ hrow
 have hlv':lv≤stk.length:=by omega
 have hw:Wf stk cur lv k st i fl:=⟨fun _=>ku,by simp;omega,by simp;omega,fun y=>z1A hlv' hk,fun _ _=>z45,hfl⟩
 have h:=(e stk cur nx live fl hw).mpr (hx stk cur nx live fl hw hlv' hk hW.enter)
 rw[←hid] at h
 obtain⟨z,h1,y',n',l',h2,h3,h4⟩:=yD (m:=⟨stk,cur,nx,live,fl⟩) ht h hn
 exact⟨y',n',l',by rw[h1,←h2,←h3],h4⟩
theorem Wf.at (h:Wf stk cur lv k st i fl) (hlv:lv≤stk.length) (hk:k<((stk++[cur]).getD lv []).length) (hW:WrL (i+1) y b L post):At ⟨rw' stk cur lv k st y,bs,nx,L,fl⟩ lv k st (i+1) y b post:=by
 obtain⟨h1,h2,h3,h4,h5,h6⟩:=h
 exact⟨by dsimp only;rw[h1];omega,zbs hlv hk,h6,hW⟩
theorem oW {F:AV×Mem→Prop} {Q:AV→Nat→List (List Nat)→Prop} (hlv:lv≤stk.length) (h:Writes f args lv k st (i+1) y b B post r ⟨rw' stk cur lv k st y,bs,nx,L,fl⟩) (q: ∀y n L,WrL (i+1) y (b++B) L post→Q y n L)
  (eq: ∀y n L,F (r,⟨rw' stk cur lv k st y,bs,n,L,fl⟩)=Q y n L:=by intros;exact SE): @Cl (CALL tab f args ⟨rw' stk cur lv k st y,bs,nx,L,fl⟩) ⟨F⟩:=by
 obtain⟨y',n,L',h1,h2⟩:=h
 rw[z62 hlv] at h1
 exact⟨_,h1,(eq y' n L').mpr (q y' n L' h2)⟩
theorem aW {S:List (List Blk)} {z:AV} {zs:List AV} {F:AV×Mem→Prop} {Q:AV→Nat→List Nat→List (List Nat)→Prop} (h:WrL (i+1) y b L post) (hc:All2 IsByte B zs) (hl:b.length+B.length≤140737488355328) (q: ∀y n o L,WrL (i+1) y (b++B) (o::L) post→Q y n o L)
  (hz: ∀m:Mem,m.elems 1 z=some zs:=by(first|exact(zh · _ _ _)|exact(Xq · _)|assumption))
  (eq: ∀y' n l o l2,(y'.cells=[y']∧y'.one=true)→sink (i+1) y'.toks l=o::l2→F (y',⟨S,bs,n,l,fl⟩)=Q y' n o l2:=by intro _ _ _ _ _ w1 w2;exact SEw): @Cl (evApp ⟨S,bs,nx,L,fl⟩ 1 1 y z) ⟨F⟩:=by
 obtain⟨y',n,l,o,l2,h1,h2,h3,h4,h5⟩:=h.app hz hc hl nx
 exact⟨_,h1 _ _ _,(eq y' n l o l2 ⟨h2,h3⟩ h4).mpr (q y' n o l2 (WrL.cons o h5))⟩
theorem eW {fl':Nat} {b':List UInt8} (hlv:lv≤stk.length) (h:WrL (i+1) y b' L post) (hq:b'=b) (h1:r.refs (stk++[cur]).length=false:=by rfl) (h3:r.toks=[]:=by rfl):Opt (leave ⟨stk,cur,nx,live,fl⟩ ⟨rw' stk cur lv k st y,bs,n,L,fl'⟩ r) fun q=>FinW ⟨stk,cur,nx,live,fl⟩ lv k st i b post r q.1 q.2:=by
 subst hq
 obtain⟨o,l,rfl,h2⟩:=h.tail
 rw[z2Q hlv h1 h3 nx live,z5]
 exact⟨y,n,l,rfl,rfl,h2⟩
end
attribute [go_sem] tq uy
theorem z3N (s:List UInt8) (hs:s.length≤1000) (m:Mem) {lv k sp i:Nat} {y:AV} {b:List UInt8} {post:List (List Nat)} (ha:At m lv k sp i y b post) (hb:b.length≤900000):
  Writes 226 [.ptr lv k sp 0,.str s] lv k sp i y b (said s) post (.tup []) m:=by
 have hm:=zf (n:=s.length) (by omega)
 refine wz (tT tq) ha fun S C n l g f hlv hk hW=> ?_
 refine oW hlv (qF s.length (by omega) _ (f.at hlv hk hW) (by omega)) fun y n L hW=> ?_
 have f0:=f
 unfold Wf at f
 refine st ?_
 refine aW hW (tj s) (by simp;omega) fun y n o L hW=> ?_
 exact eW hlv hW (w1e _ _ _)
theorem z2d (l:List DField) (v:AV) (hv:IsSl IsField 2 l v) (hf:FOk l) (m:Mem) {lv k sp i:Nat} {y:AV} {b:List UInt8} {post:List (List Nat)} (ha:At m lv k sp i y b post) (hb:b.length≤800000):
  Writes 283 [.ptr lv k sp 0,v] lv k sp i y b (flds l l.length) post (.tup []) m:=by
 have f0:=nd hv.z<|nd hv.co fun j (hj:j<l.length)=>show nth v j= .agg [.str l[j].name,.int .i64 l[j].typ] from hv.nth hj
 have h16:=hf.1
 have m0:=hv.max
 have f:=f0
 refine wz (tT uy) ha fun S C n e g fw hlv hk hW=> ?_
 have f:=nd f0 fw
 unfold Wf at f
 refine st ?_
 refine oW hlv (qF l.length (by omega) _ (fw.at hlv hk hW) (by omega)) fun y n L hW=> ?_
 refine xs [12] (fun(z:Nat×AV) v S' e c=>S'=rw' S C lv k sp z.2∧z.1≤l.length∧v 12= .int .i64 (z.1:Int)∧c=[]∧WrL (i+1) z.2 (b++flds l z.1) e post) (fun z=>l.length-z.1) (0,y) ?_ ?_
 ·simpa [flds] using hW
 rintro⟨j,y⟩ v S' e nz c ⟨rfl,hj,h12,rfl,hW⟩
 dsimp only at*
 refine ifs (fun h=> ?_) fun h=> ?_
 ·obtain⟨h1,h2,h3⟩:=hf.at (k:=j) (by omega)
  have hL:=qK hf j hj
  rw[←Zh (by omega)] at h1 h2 h3
  have m1:=qG (s:=l[j].name) (by omega)
  have hi:l[j].typ=(l[j].typ.toNat:Int):=by omega
  refine oW hlv (z3N l[j].name (by omega) _ (fw.at hlv hk hW) (by simp;omega)) fun y n L hW=> ?_
  rw[hi]
  refine oW hlv (qF l[j].typ.toNat (by omega) _ (fw.at hlv hk hW) (by simp;omega)) fun y n L hW=> ?_
  refine⟨(j+1,y),by dsimp only;omega,rfl,by dsimp only;omega,by dsimp only;omega,?_⟩
  rw[flds,←Zh (by omega),←w1e,←w1e]
  exact hW
 ·obtain rfl:j=l.length:=by omega
  exact eW hlv hW rfl
end Go.Proofs.W
end
section
namespace Go.Proofs.W
open Go.Vs
def letter (c:Nat):Bool:=(decide (97≤c)&&decide (c≤122))||(decide (65≤c)&&decide (c≤90))
def alnum (c:Nat):Bool:=letter c||(decide (48≤c)&&decide (c≤57))
def named (s:List UInt8):Bool:=decide (1≤s.length)&&decide (s.length≤16)&&letter (s.headD 0).toNat&&s.all fun c=>alnum c.toNat
theorem VJ {s:List UInt8} {i:Nat} (h:i<s.length) (hc:alnum s[i].toNat=false):named s=false:=by
 have:(s.all fun c=>alnum c.toNat)=false:=by
  grind
 simp[named,this]
theorem VQ {s:List UInt8} (h:0<s.length):s.headD 0=s[0]:=by
 cases s with
 |nil=>simp at h
 |cons a r=>rfl
theorem z2F {s:List UInt8} (h1:0<s.length) (h2:s.length≤16) (h3:letter s[0].toNat=true) (h4: ∀c∈s,alnum c.toNat=true):named s=true:=by
 have:(s.all fun c=>alnum c.toNat)=true:=w37.2 h4
 have h5:1≤s.length:=h1
 unfold named
 rw[this,VQ h1,h3,decide_eq_true h2,decide_eq_true h5];rfl
theorem tU (c:Nat) (m:Mem):Okv tab 324 [.int .u8 c] m (.bool (letter c)):=by
 refine zp (tT vE) ?_
 obtain⟨stk,cur,nx,live,fl⟩:=m
 simp only[vE,go_sem,G6,G8]
 repeat' (((first|refine uD ?_ ?_|refine xu ?_ ?_|refine xx ?_ ?_|refine xq ?_ ?_|refine xr ?_ ?_)<;>intro hq)<;>simp only[go_sem,G6,G8,hq])
 all_goals
  rw[z4 rfl rfl,z5]
  refine⟨⟨_,rfl⟩,?_⟩
  simp only[decide_eq_true_eq,decide_eq_false_iff_not] at*
  unfold letter
  congr 1
  grind
theorem qh (s:List UInt8) (hs:s.length≤9223372036854775807) (m:Mem):Okv tab 276 [.str s] m (.bool (named s)):=by
 refine zp (tT uq) ?_
 obtain⟨stk,cur,nx,live,fl⟩:=m
 have hL: ∃K:Nat→Mem→Nat,∀(c:Nat) m,CALL tab 324 [.int .u8 c] m=some (.bool (letter c),m.bump (K c m)):=
  ⟨fun c m=>(tU c m).choose,fun c m=>(tU c m).choose_spec⟩
 obtain⟨K,hK⟩:=hL
 simp only[uq,go_sem,G6,G8]
 by_cases h0:s.length<1
 ·have h0':(s.length:Int)<1:=by omega
  simp only[go_sem,G6,G8,h0']
  rw[z4 rfl rfl,z5]
  exact⟨⟨_,rfl⟩,by simp[named,show¬1≤s.length by omega]⟩
 have h0': ¬(s.length:Int)<1:=by omega
 by_cases h1:s.length>16
 ·have h1':(s.length:Int)>16:=by omega
  simp only[go_sem,G6,G8,h0',h1']
  rw[z4 rfl rfl,z5]
  exact⟨⟨_,rfl⟩,by simp[named,show¬s.length≤16 by omega]⟩
 have h1': ¬(s.length:Int)>16:=by omega
 have hi0:idx (.int .i64 0) s.length=some 0:=zX .i64 0 _ (by omega)
 have hg0:s[0]? =some s[0]:=w1d (by omega)
 cases h2:letter s[0].toNat
 ·simp only[go_sem,G6,G8,h0',h1',hi0,hg0,hK,h2]
  rw[z4 rfl rfl,z5]
  exact⟨⟨_,rfl⟩,by simp only[named,VQ (show 0<s.length by omega),h2];simp⟩
 ·simp only[go_sem,G6,G8,h0',h1',hi0,hg0,hK,h2]
  refine zg (α:=Nat) (fun i σ=>(i≤s.length∧ ∀c∈s.take i,alnum c.toNat=true)∧ ∃nz,heads [0,3] 0 σ=⟨tmps 41 [(0,.str s),(3,.int .i64 i)],⟨stk++[cur],[],nz,[]::live,fl⟩⟩) (fun i=>s.length-i) 0 ?_ ?_
  ·refine⟨⟨w0e _,by simp⟩,?_⟩
   simp only[go_sem,G6,G7]
   simp
  ·rintro i σ ⟨⟨hi,ht⟩,nz,hσ⟩
   rw[hσ]
   clear hσ σ
   dsimp only at hi ht⊢
   by_cases h:i<s.length
   ·have hg:s[i]? =some s[i]:=w1d h
    cases hc:alnum s[i].toNat
    ·have hc':=hc
     simp only[alnum,w28] at hc'
     simp only[go_sem,G6,G7,G8,w02,h,zX,hg,hK,hc'.1]
     have hidx:=zX .i64 i _ h
     repeat' (((first|refine uD ?_ ?_|refine xu ?_ ?_|refine xx ?_ ?_|refine xq ?_ ?_|refine xr ?_ ?_)<;>intro hq)<;>simp only[go_sem,G6,G8,hq,hidx,hg])
     all_goals first
      |(rw[z4 rfl rfl,z5];exact⟨⟨_,rfl⟩,by rw[VJ h hc]⟩)
      |(exfalso;simp only[decide_eq_false_iff_not,Bool.and_eq_false_iff] at*;omega)
    ·have hn:=yJ (P:=fun c:UInt8=>alnum c.toNat=true) h ht hc
     have hc':=hc
     simp only[alnum] at hc'
     cases hl:letter s[i].toNat
     ·rw[hl] at hc'
      simp only[Bool.false_or,w09,decide_eq_true_eq] at hc'
      simp only[go_sem,G6,G7,G8,w02,h,zX,hg,hK,hl,show¬(s[i].toNat:Int)<48 by omega,show¬(s[i].toNat:Int)>57 by omega,zq h hs]
      exact⟨i+1,by omega,⟨h,hn⟩,_,rfl⟩
     ·simp only[go_sem,G6,G7,G8,w02,h,zX,hg,hK,hl,zq h hs]
      exact⟨i+1,by omega,⟨h,hn⟩,_,rfl⟩
   ·have:i=s.length:=by omega
    subst this
    rw[w0a] at ht
    simp only[go_sem,G6,G7,G8,w02,h]
    rw[z4 rfl rfl,z5]
    exact⟨⟨_,rfl⟩,by rw[z2F (by omega) (by omega) h2 ht]⟩
theorem z2X: ∀c:Fin 256,((decide (IntKind.u8.wrap ((BitVec.ofInt 8 (c.val:Int)|||BitVec.ofInt 8 32).toNat:Int)<97)||decide (IntKind.u8.wrap ((BitVec.ofInt 8 (c.val:Int)|||BitVec.ofInt 8 32).toNat:Int)>122)||(IntKind.u8.wrap ((BitVec.ofInt 8 (c.val:Int)&&&BitVec.ofInt 8 64).toNat:Int)==0))&&(decide ((c.val:Int)<48)||decide ((c.val:Int)>57)))= !(alnum c.val):=by decide+kernel
theorem z4x {c:Nat} (hc:c<256): ∃a b:Int,evBits .or .u8 (c:Int) 32=some (.int .u8 a)∧evBits .and .u8 (c:Int) 64=some (.int .u8 b)∧
  ((decide (a<97)||decide (a>122)||(b==0))&&(decide ((c:Int)<48)||decide ((c:Int)>57)))= !(alnum c):=⟨_,_,rfl,rfl,z2X ⟨c,hc⟩⟩
theorem Vk {c:Nat} (h:alnum c=true):letter c=decide (57<c):=by
 unfold alnum letter at*
 grind
theorem kr (s:List UInt8) (m:Mem):Okv tab 322 [.str s] m (.bool (named s)):=by
 refine zp (tT kM) ?_
 obtain⟨stk,cur,nx,live,fl⟩:=m
 simp only[kM,go_sem,G6,G8]
 by_cases h0:(s.length:Int)=0
 ·have h0':((s.length:Int)==0)=true:=by simp[h0]
  simp only[go_sem,G6,G8,h0']
  rw[z4 rfl rfl,z5]
  exact⟨⟨_,rfl⟩,by simp[named,show¬1≤s.length by omega]⟩
 have h0':((s.length:Int)==0)=false:=by simpa using h0
 by_cases h1:s.length>16
 ·have h1':(s.length:Int)>16:=by omega
  simp only[go_sem,G6,G8,h0',h1']
  rw[z4 rfl rfl,z5]
  exact⟨⟨_,rfl⟩,by simp[named,show¬s.length≤16 by omega]⟩
 have h1': ¬(s.length:Int)>16:=by omega
 have hp:0<s.length:=by omega
 have hi0:idx (.int .i64 0) s.length=some 0:=zX .i64 0 _ (by omega)
 have hg0:s[0]? =some s[0]:=w1d (by omega)
 by_cases h2:(s[0].toNat:Int)≤57
 ·simp only[go_sem,G6,G8,h0',h1',hi0,hg0,h2]
  rw[z4 rfl rfl,z5]
  refine⟨⟨_,rfl⟩,?_⟩
  cases ha:alnum s[0].toNat
  ·rw[VJ hp ha]
  ·have:=Vk ha
   rw[decide_eq_false (by omega)] at this
   simp only[named,VQ hp,this];simp
 ·simp only[go_sem,G6,G8,h0',h1',hi0,hg0,h2,show s.length≤140737488355328 by omega]
  have hs:IsSl IsByte 1 s (.list 1 (.id nx) (ofBytes s)):= .mk (tj s) (by omega)
  simp only[go_sem,hs.len]
  refine zg (α:=Nat) (fun i σ=>(i≤s.length∧ ∀c∈s.take i,alnum c.toNat=true)∧ ∃nz,heads [19,20,21] 0 σ=⟨tmps 47 [(19,.list 1 (.id nx) (ofBytes s)),(20,.int .i64 s.length),(21,.int .i64 i)],⟨stk++[cur],[],nz,[nx]::live,fl⟩⟩) (fun i=>s.length-i) 0 ?_ ?_
  ·refine⟨⟨w0e _,by simp⟩,?_⟩
   simp only[go_sem,G6,G7]
   simp
  ·rintro i σ ⟨⟨hi,ht⟩,nz,hσ⟩
   rw[hσ]
   clear hσ σ
   dsimp only at hi ht⊢
   by_cases h:i<s.length
   ·have e1:nth (.list 1 (.id nx) (ofBytes s)) i= .int .u8 s[i].toNat:=hs.nth h
    obtain⟨a,b,q1,q2,q3⟩:=z4x (UInt8.toNat_lt s[i])
    simp only[go_sem,G6,G7,G8,w02,h,hs.at _ h,e1,q1]
    cases hc:alnum s[i].toNat
    ·rw[hc] at q3
     have hat:=hs.at .i64 h
     repeat' (((first|refine uD ?_ ?_|refine xu ?_ ?_|refine xx ?_ ?_|refine xq ?_ ?_|refine xr ?_ ?_)<;>intro hq)<;>simp only[go_sem,G6,G8,hq,q1,q2])
     all_goals first
      |(rw[z4 rfl rfl,z5];exact⟨⟨_,rfl⟩,by rw[VJ (by assumption) hc]⟩)
      |(exfalso;simp_all;done)
    ·have hn:=yJ (P:=fun c:UInt8=>alnum c.toNat=true) h ht hc
     have hsucc:=zq h hs.max
     rw[hc] at q3
     have hat:=hs.at .i64 h
     repeat' (((first|refine uD ?_ ?_|refine xu ?_ ?_|refine xx ?_ ?_|refine xq ?_ ?_|refine xr ?_ ?_)<;>intro hq)<;>simp only[go_sem,G6,G8,hq,q1,q2,hsucc])
     all_goals first
      |exact⟨i+1,by omega,⟨by assumption,hn⟩,_,rfl⟩
      |(exfalso;simp_all;done)
   ·have:i=s.length:=by omega
    subst this
    rw[w0a] at ht
    simp only[go_sem,G6,G7,G8,w02,h]
    rw[z4 rfl rfl,z5]
    refine⟨⟨_,rfl⟩,?_⟩
    have:=Vk (ht s[0] (w04 hp))
    rw[decide_eq_true (by omega)] at this
    rw[z2F hp (by omega) this ht]
end Go.Proofs.W
end
section
namespace Go.Vs
section
variable {P : Program} {n t : Nat} {xs : List AV}
def fieldI (P:Program) (t i:Nat):Option (Nat×Nat):=
 match P.underlying t with
 |some (.struct fs)=>(fs[i]?).map fun f=>(f.type,f.offset)
 |_=>none
theorem zo {i ft off c:Nat} (h:Typed P (n+1) t xs) (e:fieldI P t i=some (ft,off)) (hc:P.cellsOf ft=c):Typed P n ft ((xs.drop off).take c):=by
 unfold fieldI at e
 split at e
 ·rename_i fs hu
  simp only[Typed,hu] at h
  grind
 ·cases e
theorem vQ {c:Nat} (h:Typed P (n+1) t xs) (e:(fieldI P t 0).isSome=true) (hc:P.cellsOf t=c):xs.length=c:=by
 unfold fieldI at e
 split at e
 ·rename_i fs hu
  simp only[Typed,hu] at h
  omega
 ·cases e
theorem Z7 {k:IntKind} (h:Typed P (n+1) t xs) (hu:P.underlying t=some (.int k)): ∃i,xs=[.int k i]∧(Lit.int k i).wf=true:=by
 simp only[Typed,hu] at h
 exact h
theorem z6d (h:Typed P (n+1) t xs) (hu:P.underlying t=some .string): ∃s,xs=[.str s]∧s.length≤maxLen:=by
 simp only[Typed,hu] at h
 exact h
theorem xb {α:Type} {R:α→AV→Prop} {e s:Nat} (h:Typed P (n+1) t xs) (hu:P.underlying t=some (.slice e)) (hs:P.cellsOf e=s) (hR: ∀y,IsElem P e y→Typed P n e y.cells→ ∃d,R d y): ∃d y,xs=[y]∧IsSl R s d y:=by
 simp only[Typed,hu] at h
 rcases h with rfl|⟨ys,rfl,hl,hy⟩
 ·exact⟨[],_,rfl,.nil s⟩
 ·obtain⟨d,hd⟩:=All2.of_each (R:=R) ys fun y hm=>hR y (hy y hm).1 (hy y hm).2
  refine⟨d,_,rfl,?_⟩
  rw[hs]
  exact .mk hd (by rw[←hd.len];exact hl)
theorem z5J {n:Int} (h:(Lit.int .i64 n).wf=true):in64 n:=by
 simp[Lit.wf,IntKind.min,IntKind.max,IntKind.signed,IntKind.bits] at h
 trivial
theorem z8A {n:Int} (h:(Lit.int .u64 n).wf=true):inU64 n:=by
 simp[Lit.wf,IntKind.min,IntKind.max,IntKind.signed,IntKind.bits] at h
 unfold inU64;omega
theorem zac {n:Int} (h:(Lit.int .u8 n).wf=true):inU8 n:=by
 simp[Lit.wf,IntKind.min,IntKind.max,IntKind.signed,IntKind.bits] at h
 unfold inU8;omega
theorem vc {α:Type} {R:α→AV→Prop} {W:α→Prop} {s:Nat} {xs:List α} {y:AV} (h:IsSl (fun d y=>R d y∧W d) s xs y):IsSl R s xs y∧ ∀x∈xs,W x:=by
 refine⟨h.mono fun _ _ _ h=>h.1,fun x hx=> ?_⟩
 obtain⟨i,hi,rfl⟩:=w49.1 hx
 exact(h.nth hi).2
theorem zY: ¬Typed P 0 t xs:=fun h=>h
theorem qM {e:Nat} {y:AV} (h:IsElem P e y) (ha:aggT P e=some true): ∃cs,y= .agg cs:=by
 unfold IsElem at h;rw[if_pos ha] at h;exact h
theorem qL {e:Nat} {y:AV} (h:IsElem P e y) (ha:aggT P e=some false):y.cells=[y]:=by
 unfold IsElem at h;rw[if_neg (by rw[ha];simp)] at h;exact h
end
end Go.Vs
end
section
namespace Go.Proofs.W
open Go.Vs
theorem To (n:Int) (m:Mem):Okv tab 366 [.int .i64 n] m (.bool (n !=0)):=by
 refine zp (tT jM) ?_
 obtain⟨stk,cur,nx,live,fl⟩:=m
 simp only[jM,go_sem,G6,G8]
 rw[z4 rfl rfl,z5]
 simp
theorem UR (xs:List Int) (x:AV) (hx:IsSl (IsK .i64) 1 xs x) (m:Mem):
  Ok tab 376 [x,.fn (.func 366) [] []] m (fun r=> ∃n:Int,r= .int .i64 n∧decide (n≥0)=xs.any (· !=0)):=by
 refine z0v (tT yG) ?_
 obtain⟨stk,cur,nx,live,fl⟩:=m
 simp only[yG,go_sem,G3,G6,G8,hx.len]
 refine zg (α:=Nat) (fun i σ=>(i≤xs.length∧ ∀c∈xs.take i,(c !=0)=false)∧ ∃nz,heads [0,1,7,8] 0 σ=⟨tmps 19 [(0,x),(1,.fn (.func 366) [] []),(7,.int .i64 xs.length),(8,.int .i64 i)],⟨stk++[cur],[],nz,[]::live,fl⟩⟩) (fun i=>xs.length-i) 0 ?_ ?_
 ·refine⟨⟨w0e _,by simp⟩,?_⟩
  simp only[go_sem,G6,G7]
  simp
 ·rintro i σ ⟨⟨hi,ht⟩,nz,hσ⟩
  rw[hσ]
  clear hσ σ
  dsimp only at hi ht⊢
  by_cases h:i<xs.length
  ·have e1:nth x i= .int .i64 xs[i]:=hx.nth h
   simp only[go_sem,G6,G7,G8,w02,h,hx.at _ h,e1,(To _ _).eq]
   cases hc:(xs[i] !=0)
   ·simp only[go_sem,G6,G8,zq h hx.max]
    exact⟨i+1,by omega,⟨h,yJ (P:=fun c=>(c !=0)=false) h ht hc⟩,_,rfl⟩
   ·simp only[go_sem,G6,G8]
    rw[z4 rfl rfl,z5]
    refine⟨⟨_,rfl⟩,_,rfl,?_⟩
    rw[List.any_eq_true.2 ⟨_,w04 h,hc⟩]
    simp
  ·have:i=xs.length:=by omega
   subst this
   rw[w0a] at ht
   simp only[go_sem,G6,G7,G8,w02,h]
   rw[z4 rfl rfl,z5]
   grind
theorem W4 (xs:List Int) (x:AV) (hx:IsSl (IsK .i64) 1 xs x) (m:Mem):
  Okv tab 343 [x,.fn (.func 366) [] []] m (.bool (xs.any (· !=0))):=by
 refine zp (tT yA) ?_
 obtain⟨stk,cur,nx,live,fl⟩:=m
 simp only[yA,go_sem,G3,G6,G8]
 obtain⟨r,k,h1,n,rfl,h2⟩:=UR xs x hx ⟨stk++[cur],[],nx,[]::live,fl⟩
 simp only[go_sem,G6,G8,h1,h2]
 rw[z4 rfl rfl,z5]
 simp
theorem Zp (xs:List Int) (x:AV) (hx:IsSl (IsK .i64) 1 xs x) (m:Mem):Okv tab 321 [x] m (.bool (!xs.any (· !=0))):=by
 refine zp (tT ZR) ?_
 obtain⟨stk,cur,nx,live,fl⟩:=m
 simp only[ZR,go_sem,G6,G8,(W4 xs x hx _).eq]
 rw[z4 rfl rfl,z5]
 simp
theorem z9m (a:Int) (m:Mem):Okv tab 321 [.list 1 .full [.int .i64 a]] m (.bool (pb (a=0))):=by
 have hh:IsSl (IsK .i64) 1 [a] (.list 1 .full [.int .i64 a]):= .mk (ys:=[.int .i64 a]) ⟨rfl,trivial⟩ (by simp)
 have:=Zp [a] _ hh m
 have e:(!([a]:List Int).any (· !=0))=pb (a=0):=Za (by simp)
 rw[e] at this;exact this
theorem z9l (a b:Int) (m:Mem):Okv tab 321 [.list 1 .full [.int .i64 a,.int .i64 b]] m (.bool (pb (a=0∧b=0))):=by
 have hh:IsSl (IsK .i64) 1 [a,b] (.list 1 .full [.int .i64 a,.int .i64 b]):= .mk (ys:=[.int .i64 a,.int .i64 b]) ⟨rfl,rfl,trivial⟩ (by simp)
 have:=Zp [a,b] _ hh m
 have e:(!([a,b]:List Int).any (· !=0))=pb (a=0∧b=0):=Za (by simp)
 rw[e] at this;exact this
theorem z9k (a b c:Int) (m:Mem):Okv tab 321 [.list 1 .full [.int .i64 a,.int .i64 b,.int .i64 c]] m (.bool (pb (a=0∧b=0∧c=0))):=by
 have hh:IsSl (IsK .i64) 1 [a,b,c] (.list 1 .full [.int .i64 a,.int .i64 b,.int .i64 c]):= .mk (ys:=[.int .i64 a,.int .i64 b,.int .i64 c]) ⟨rfl,rfl,rfl,trivial⟩ (by simp)
 have:=Zp [a,b,c] _ hh m
 have e:(!([a,b,c]:List Int).any (· !=0))=pb (a=0∧b=0∧c=0):=Za (by simp)
 rw[e] at this;exact this
theorem Tq (a b:Int) (m:Mem):Okv tab 320 [.int .i64 a,.int .i64 b] m (.bool (pb (0≤a∧a<b))):=by
 refine zp (tT jO) ?_
 obtain⟨stk,cur,nx,live,fl⟩:=m
 simp only[jO,go_sem,G3,G6,G8]
 repeat' (((first|refine uD ?_ ?_|refine xu ?_ ?_|refine xx ?_ ?_|refine xq ?_ ?_|refine xr ?_ ?_)<;>intro hq)<;>simp only[go_sem,G6,G8,hq])
 all_goals
  rw[z4 rfl rfl,z5]
  refine⟨⟨_,rfl⟩,?_⟩
  refine congrArg AV.bool (Za ?_)
  grind
def FieldsP (l:List DField) (most:Int):Prop:=(l.length:Int)≤most∧(∀f∈l,named f.name=true)∧(l.map DField.name).Nodup
theorem TQ {α:Type} {l:List α} {i:Nat} (h:i<l.length) (h1:(l.take i).Nodup) (h2: ∀x∈l.take i,x≠l[i]):(l.take (i+1)).Nodup:=by
 rw[w0f h,w4f]
 grind
theorem VG {α:Type} {l:List α} {i k:Nat} (hk:k<i) (h:i<l.length) (he:l[k]=l[i]): ¬l.Nodup:=fun hn=>by
 have:=(List.nodup_iff_pairwise_ne.1 hn)
 rw[List.pairwise_iff_getElem] at this
 grind
theorem tV (xs:List DField) (most:Int) (x:AV) (hx:IsSl IsField 2 xs x) (hm: ∀f∈xs,f.name.length≤9223372036854775807) (m:Mem):Okv tab 277 [x,.int .i64 most] m (.bool (pb (FieldsP xs most))):=by
 refine zp (tT vF) ?_
 obtain⟨stk,cur,nx,live,fl⟩:=m
 simp only[vF,go_sem,G3,G6,G8,hx.len]
 by_cases hb:(xs.length:Int)>most
 ·simp only[go_sem,G6,G8,hb]
  rw[z4 rfl rfl,z5]
  exact⟨⟨_,rfl⟩,by rw[zS fun h=>by have:=h.1;omega]⟩
 simp only[go_sem,hb]
 have hml:(xs.map DField.name).length=xs.length:=by simp
 refine zg (α:=Nat) (fun i σ=>(i≤xs.length∧(∀c∈xs.take i,named c.name=true)∧((xs.map DField.name).take i).Nodup)∧ ∃nz,heads [0,5] 0 σ=⟨tmps 40 [(0,x),(5,.int .i64 i)],⟨stk++[cur],[],nz,[]::live,fl⟩⟩) (fun i=>xs.length-i) 0 ?_ ?_
 ·refine⟨⟨w0e _,by simp,by simp⟩,?_⟩
  simp only[go_sem,G6,G7]
  simp
 ·rintro i σ ⟨⟨hi,ht,hd⟩,nz,hσ⟩
  rw[hσ]
  clear hσ σ
  dsimp only at hi ht hd⊢
  by_cases h:i<xs.length
  ·have e1:nth x i= .agg [.str xs[i].name,.int .i64 xs[i].typ]:=hx.nth h
   simp only[go_sem,G6,G7,G8,w02,h,hx.len,hx.at _ h,e1,(qh _ (hm _ (w04 h)) _).eq]
   cases hc:named xs[i].name
   ·simp only[go_sem,G6,G8]
    rw[z4 rfl rfl,z5]
    exact⟨⟨_,rfl⟩,by rw[zS fun h'=>by have:=h'.2.1 _ (w04 h);rw[hc] at this;cases this]⟩
   ·simp only[go_sem]
    refine zg (α:=Nat) (fun k σ=>(k≤i∧ ∀c∈(xs.map DField.name).take k,c≠xs[i].name)∧ ∃nz,heads [0,5,6] 0 σ=⟨tmps 40 [(0,x),(5,.int .i64 i),(6,.int .i64 k)],⟨stk++[cur],[],nz,[]::live,fl⟩⟩) (fun k=>i-k) 0 ?_ ?_
    ·refine⟨⟨w0e _,by simp⟩,?_⟩
     simp only[go_sem,G6,G7]
     simp
    ·rintro k σ ⟨⟨hk,hks⟩,nz,hσ⟩
     rw[hσ]
     clear hσ σ
     dsimp only at hk hks⊢
     by_cases hki:k<i
     ·have hkl:k<xs.length:=by omega
      have e2:nth x k= .agg [.str xs[k].name,.int .i64 xs[k].typ]:=hx.nth hkl
      simp only[go_sem,G6,G7,G8,w02,hki,hx.at _ hkl,e2,hx.at _ h,e1,evStr]
      by_cases hq:xs[k].name=xs[i].name
      ·have hq':(xs[k].name==xs[i].name)=true:=by simp[hq]
       simp only[go_sem,G6,G8,hq']
       rw[z4 rfl rfl,z5]
       exact⟨⟨_,rfl⟩,by rw[zS fun h'=>VG hki (by rw[hml];exact h) (by simpa using hq) h'.2.2]⟩
      ·have hq':(xs[k].name==xs[i].name)=false:=by simpa using hq
       simp only[go_sem,G6,G8,hq',zq hkl hx.max]
       exact⟨k+1,by omega,⟨hki,yJ (P:=fun c=>c≠xs[i].name) (by rw[hml];exact hkl) hks (by simpa using hq)⟩,_,rfl⟩
     ·have:k=i:=by omega
      subst this
      simp only[go_sem,G6,G7,G8,w02,hki,zq h hx.max]
      refine⟨k+1,by omega,⟨h,yJ (P:=fun c=>named c.name=true) h ht hc,?_⟩,_,rfl⟩
      exact TQ (by rw[hml];exact h) hd (by simpa using hks)
  ·have:i=xs.length:=by omega
   subst this
   rw[w0a] at ht
   rw[←hml,w0a] at hd
   simp only[go_sem,G6,G7,G8,w02,h,hx.len]
   rw[z4 rfl rfl,z5]
   exact⟨⟨_,rfl⟩,by rw[yB ⟨by omega,ht,hd⟩]⟩
def StructP (i:Nat) (t:DTyp):Prop:=(∀f∈t.fields,0≤f.typ∧f.typ<i)∧t.elem=0∧t.len=0∧0<t.fields.length∧FieldsP t.fields 8
def FineT (n i:Nat) (t:DTyp):Prop:=
 ((t.kind=1∨t.kind=2∨t.kind=3)∧t.elem=0∧t.len=0∧t.fields.length=0)∨((t.kind=4∨t.kind=7)∧0≤t.elem∧t.elem<n∧t.len=0∧t.fields.length=0)∨
 (t.kind=6∧0≤t.elem∧t.elem<i∧1≤t.len∧t.len≤16∧t.fields.length=0)∨(t.kind=5∧StructP i t)
theorem uH {n i:Nat} {t:DTyp} (h:t.kind=5):FineT n i t↔StructP i t:=by
 unfold FineT;rw[h];simp
theorem b51:((5:Int)==1)=false:=rfl
theorem b52:((5:Int)==2)=false:=rfl
theorem b53:((5:Int)==3)=false:=rfl
theorem b54:((5:Int)==4)=false:=rfl
theorem b56:((5:Int)==6)=false:=rfl
theorem b57:((5:Int)==7)=false:=rfl
def NamesOk (l:List DField):Prop:= ∀f∈l,f.name.length≤9223372036854775807
theorem Ye (xs:List DTyp) (x:AV) (hx:IsSl IsTyp 4 xs x) (i:Nat) (hi:i<xs.length) (hn:NamesOk xs[i].fields) (m:Mem):
  Okv tab 273 [x,.int .i64 i] m (.bool (pb (FineT xs.length i xs[i]))):=by
 refine zp (tT t5) ?_
 obtain⟨stk,cur,nx,live,fl⟩:=m
 obtain⟨v,e1,q1⟩:=hx.nth hi
 have hlen:=hx.len
 have hat:=hx.at .i64 hi
 have hm:=hx.max
 generalize ht:xs[i]=t at*
 clear ht
 generalize hxn:xs.length=n at*
 obtain⟨kind,elem,len,fields⟩:=t
 dsimp only at e1 q1 hn
 simp only[t5,go_sem,G3,G6,G8,hat,e1,q1.one]
 by_cases hk:kind=5
 ·subst hk
  simp only[go_sem,G6,G8,b51,b52,b53,b54,b56,b57]
  refine zg (α:=Nat) (fun k σ=>(k≤fields.length∧ ∀f∈fields.take k,0≤f.typ∧f.typ<i)∧ ∃nz,heads [1,5,6] 1 σ=⟨tmps 127 [(1,.int .i64 i),(5,.ptr (stk++[cur]).length 0 nx 0),(6,.int .i64 k)],⟨stk++[cur],[⟨nx,[.int .u8 5,.int .i64 elem,.int .i64 len,v]⟩],nz,[]::live,fl⟩⟩) (fun k=>fields.length-k) 0 ?_ ?_
  ·refine⟨⟨w0e _,by simp⟩,?_⟩
   simp only[go_sem,G6,G7]
   simp
  ·rintro k σ ⟨⟨hk,hks⟩,nz,hσ⟩
   rw[hσ]
   clear hσ σ
   dsimp only at hk hks⊢
   by_cases h:k<fields.length
   ·have e2:nth v k= .agg [.str fields[k].name,.int .i64 fields[k].typ]:=q1.nth h
    have hat2:=q1.at .i64 h
    have hlen2:=q1.len
    have hsucc:=zq h q1.max
    simp only[go_sem,G6,G7,G8,w02,h,hlen2,hat2,e2]
    by_cases hf:0≤fields[k].typ∧fields[k].typ<i
    ·have hkn:=yJ (P:=fun f=>0≤f.typ∧f.typ<i) h hks hf
     simp only[go_sem,G6,G8,show¬fields[k].typ<0 by omega,show¬fields[k].typ≥i by omega,hat2,e2,hsucc]
     exact⟨k+1,by omega,⟨h,hkn⟩,_,rfl⟩
    ·repeat' (((first|refine uD ?_ ?_|refine xu ?_ ?_|refine xx ?_ ?_|refine xq ?_ ?_|refine xr ?_ ?_)<;>intro hq)<;>simp only[go_sem,G6,G8,hq,hat2,e2])
     all_goals first
      |(rw[z4 rfl rfl,z5];exact⟨⟨_,rfl⟩,by rw[zS fun h'=>hf (((uH rfl).1 h').1 _ (w04 h))]⟩)
      |(exfalso;simp only[decide_eq_false_iff_not] at*;omega)
   ·have:k=fields.length:=by omega
    subst this
    rw[w0a] at hks
    have hF: ∀m,CALL tab 277 [v,.int .i64 8] m=_:=fun m=>(tV fields 8 v q1 hn m).eq
    simp only[go_sem,G6,G7,G8,w02,h,q1.len]
    repeat' (((first|refine uD ?_ ?_|refine xu ?_ ?_|refine xx ?_ ?_|refine xq ?_ ?_|refine xr ?_ ?_)<;>intro hq)<;>simp only[go_sem,G6,G8,hq,q1.len,hF])
    all_goals
     rw[z4 rfl rfl,z5]
     refine⟨⟨_,rfl⟩,congrArg AV.bool (Za ?_)⟩
     rw[uH rfl]
     unfold StructP
     simp only[decide_eq_true_eq,decide_eq_false_iff_not,beq_iff_eq,beq_eq_false_iff_ne,vp] at*
     grind
 ·have hk5:(kind==5)=false:=by simpa using hk
  repeat' (((first|refine uD ?_ ?_|refine xu ?_ ?_|refine xx ?_ ?_|refine xq ?_ ?_|refine xr ?_ ?_)<;>intro hq)<;>simp only[go_sem,G6,G8,hq,hlen,q1.len,hk5])
  all_goals
   rw[z4 rfl rfl,z5]
   refine⟨⟨_,rfl⟩,congrArg AV.bool (Za ?_)⟩
   unfold FineT
   clear hat hlen e1 q1 hn
   simp only[decide_eq_true_eq,decide_eq_false_iff_not,beq_iff_eq,beq_eq_false_iff_ne] at*
   grind
def ents (ns:List (List UInt8)):List AV:=ns.map fun s=> .tup [.str s,.bool true]
theorem Zw (s:List UInt8): ∀ns,mapGet true (.bool false) (.str s) (ents ns)=some (.bool (pb (s∈ns)))
 | []=>by rw[zS (by simp)];rfl
 |n::r=>by
  have ih:=Zw s r
  simp only[ents,w30,mapGet,keyEq] at ih⊢
  by_cases h:s=n
  ·subst h;rw[yB w24];simp
  ·grind
theorem jd (s:List UInt8): ∀ns,s∉ns→mapPut true (.str s) (.bool true) (ents ns)=some (ents (ns++[s]))
 | [],_=>rfl
 |n::r,h=>by
  have ih:=jd s r (fun h'=>h (w2c _ h'))
  have hne:(s==n)=false:=by simp only[beq_eq_false_iff_ne];intro e;exact h (e▸w24)
  simp only[ents,w30,w26,mapPut,keyEq,hne] at ih⊢
  rw[ih];rfl
theorem qu {α β:Type} (f:α→β) {l:List α} {i:Nat} (h:i<l.length):(l.map f).take (i+1)=(l.map f).take i++[f l[i]]:=by
 rw[w0f (by simpa using h)];simp
theorem z1k (xs:List DTyp) (x:AV) (hx:IsSl IsTyp 4 xs x) (i:Nat) (hi:i<xs.length) (hw:WfTyp xs[i]) (m:Mem):
  Okv tab 270 [x,.int .i64 i] m (.bool (pb (FineT xs.length i xs[i]))):=by
 refine zp (tT ZS) ?_
 obtain⟨stk,cur,nx,live,fl⟩:=m
 obtain⟨v,e1,q1⟩:=hx.nth hi
 have hlen:=hx.len
 have hat:=hx.at .i64 hi
 have hm:=hx.max
 generalize ht:xs[i]=t at*
 clear ht
 generalize hxn:xs.length=n at*
 obtain⟨kind,elem,len,fields⟩:=t
 dsimp only at e1 q1
 have hlm:=q1.max
 have ew:(0≤IntKind.i64.wrap (len-1)∧IntKind.i64.wrap (len-1)<16)↔(1≤len∧len≤16):=by
  have:=hw.len
  unfold in64 at this
  dsimp only at this
  by_cases hh:len= -9223372036854775808
  ·subst hh;decide
  ·rw[z6 (by omega) (by omega)];omega
 have hW: ∀a b m,CALL tab 320 [.int .i64 a,.int .i64 b] m=_:=fun a b m=>(Tq a b m).eq
 have hz1: ∀a m,CALL tab 321 [.list 1 .full [.int .i64 a]] m=_:=fun a m=>(z9m a m).eq
 have hz2: ∀a b m,CALL tab 321 [.list 1 .full [.int .i64 a,.int .i64 b]] m=_:=fun a b m=>(z9l a b m).eq
 have hz3: ∀a b c m,CALL tab 321 [.list 1 .full [.int .i64 a,.int .i64 b,.int .i64 c]] m=_:=fun a b c m=>(z9k a b c m).eq
 simp only[ZS,go_sem,G3,G6,G8,hat,e1,q1.one]
 by_cases hk:kind=5
 ·subst hk
  have hlen2:=q1.len
  simp only[go_sem,G3,G6,G8,b51,b52,b53,b54,b56,b57,hlen2]
  refine zg (α:=Nat) (fun k σ=>(k≤fields.length∧(∀f∈fields.take k,0≤f.typ∧f.typ<i)∧(∀f∈fields.take k,named f.name=true)∧((fields.map DField.name).take k).Nodup)∧ ∃nz,heads [1,5,6,7,72,73,74] 2 σ=⟨tmps 118 [(1,.int .i64 i),(5,.ptr (stk++[cur]).length 0 nx 0),(6,.fn (.func 320) [] []),(7,.mapR (stk++[cur]).length 1 (nx+1)),(72,v),(73,.int .i64 fields.length),(74,.int .i64 k)],
   ⟨stk++[cur],[⟨nx,[.int .u8 5,.int .i64 elem,.int .i64 len,v]⟩,⟨nx+1,[.tup (ents ((fields.map DField.name).take k))]⟩],nz,[]::live,fl⟩⟩) (fun k=>fields.length-k) 0 ?_ ?_
  ·refine⟨⟨w0e _,by simp,by simp,by simp⟩,?_⟩
   simp only[go_sem,G6,G7]
   exact⟨_,rfl⟩
  ·rintro k σ ⟨⟨hk,hks,hkn,hkd⟩,nz,hσ⟩
   rw[hσ]
   clear hσ σ
   dsimp only at hk hks hkn hkd⊢
   have hml:(fields.map DField.name).length=fields.length:=by simp
   by_cases h:k<fields.length
   ·have e2:nth v k= .agg [.str fields[k].name,.int .i64 fields[k].typ]:=q1.nth h
    have hat2:=q1.at .i64 h
    have hsucc:=zq h q1.max
    have hN: ∀m,CALL tab 322 [.str fields[k].name] m=_:=fun m=>(kr fields[k].name m).eq
    simp only[go_sem,G3,G6,G7,G8,w02,h,hat2,e2,hN]
    by_cases hc:named fields[k].name=true
    case neg=>
     have hc':named fields[k].name=false:=by simpa using hc
     simp only[go_sem,G6,G8,hc']
     rw[z4 rfl rfl,z5]
     refine⟨⟨_,rfl⟩,congrArg AV.bool (zS fun h'=> ?_).symm⟩
     exact hc ((((uH rfl).1 h').2.2.2.2).2.1 _ (w04 h))
    simp only[go_sem,G6,G8,hc,Zw]
    by_cases hs:fields[k].name∈(fields.map DField.name).take k
    ·simp only[go_sem,G6,G8,yB hs]
     rw[z4 rfl rfl,z5]
     refine⟨⟨_,rfl⟩,congrArg AV.bool (zS fun h'=> ?_).symm⟩
     have hnd:=(((uH rfl).1 h').2.2.2.2).2.2
     obtain⟨j,hj,he⟩:=List.mem_take_iff_getElem.1 hs
     refine VG (l:=fields.map DField.name) (i:=k) (k:=j) (by omega) (by rw[hml];exact h) ?_ hnd
     rw[he];simp
    simp only[go_sem,G6,G8,zS hs,hW]
    by_cases hf:0≤fields[k].typ∧fields[k].typ<i
    case neg=>
     simp only[go_sem,G6,G8,zS hf]
     rw[z4 rfl rfl,z5]
     exact⟨⟨_,rfl⟩,by rw[zS fun h'=>hf (((uH rfl).1 h').1 _ (w04 h))]⟩
    simp only[go_sem,G6,G8,yB hf,jd _ _ hs,hsucc,w15]
    have htk:=qu DField.name h
    rw[←htk]
    refine⟨k+1,by omega,⟨h,yJ (P:=fun f=>0≤f.typ∧f.typ<i) h hks hf,yJ (P:=fun f=>named f.name=true) h hkn hc,?_⟩,_,rfl⟩
    grind
   ·have:k=fields.length:=by omega
    subst this
    rw[w0a] at hks hkn
    rw[←hml,w0a] at hkd
    simp only[go_sem,G6,G7,G8,w02,h,hz2]
    repeat' (((first|refine uD ?_ ?_|refine xu ?_ ?_|refine xx ?_ ?_|refine xq ?_ ?_|refine xr ?_ ?_)<;>intro hq)<;>simp only[go_sem,G6,G8,hq,q1.len])
    all_goals
     rw[z4 rfl rfl,z5]
     refine⟨⟨_,rfl⟩,congrArg AV.bool (Za ?_)⟩
     rw[uH rfl]
     unfold StructP FieldsP
     clear hz1 hz2 hz3 hW ew
     simp only[decide_eq_true_eq,decide_eq_false_iff_not,vp,vo] at*
     grind
 ·have hk5:(kind==5)=false:=by simpa using hk
  repeat' (((first|refine uD ?_ ?_|refine xu ?_ ?_|refine xx ?_ ?_|refine xq ?_ ?_|refine xr ?_ ?_)<;>intro hq)<;>simp only[go_sem,G6,G8,hq,hlen,q1.len,hk5,hW,hz1,hz2,hz3])
  all_goals
   rw[z4 rfl rfl,z5]
   refine⟨⟨_,rfl⟩,congrArg AV.bool (Za ?_)⟩
   unfold FineT
   clear hat hlen e1 q1 hz1 hz2 hz3 hW
   simp only[beq_iff_eq,beq_eq_false_iff_ne,vp,vo] at*
   grind
def IsN (n:Nat) (y:AV):Prop:=y= .int .i64 (n:Int)
def ValidT (l:List DTyp):Prop:= ∀i (h:i<l.length),FineT l.length i l[i]
def contrib (t:DTyp) (below out:List Nat):Nat:=
 if t.kind=4 then below.getD t.elem.toNat 0 else if t.kind=7 then 16*below.getD t.elem.toNat 0 else if t.kind=6 then t.len.toNat*out.getD t.elem.toNat 0 else 0
def fsum (fs:List DField) (out:List Nat):Nat:=(fs.map fun f=>out.getD f.typ.toNat 0).sum
def w1 (t:DTyp) (below out:List Nat):Nat:=min 5001 (1+contrib t below out+fsum t.fields out)
def rnd (below:List Nat) (l:List DTyp):List Nat:=l.foldl (fun out t=>out++[w1 t below out]) []
def rounds (l:List DTyp):Nat→List Nat
 |0=>List.replicate l.length 0
 |r+1=>rnd (rounds l r) l
theorem WM (b:List Nat) (l:List DTyp) {i:Nat} (h:i<l.length):rnd b (l.take (i+1))=rnd b (l.take i)++[w1 l[i] b (rnd b (l.take i))]:=by
 unfold rnd
 rw[w0f h,List.foldl_append];rfl
theorem UY (b:List Nat) (l:List DTyp): ∀i,i≤l.length→(rnd b (l.take i)).length=i
 |0,_=>by simp[rnd]
 |i+1,h=>by rw[WM b l h,w15,UY b l i (by omega)];rfl
theorem z1B (b:List Nat) (l:List DTyp): ∀i,i≤l.length→ ∀x∈rnd b (l.take i),x≤5001
 |0,_=>by simp[rnd]
 |i+1,h=>by
  rw[WM b l h]
  intro x hx
  rcases w0b.1 hx with hx|hx
  ·exact z1B b l i (by omega) x hx
  ·simp at hx;subst hx;unfold w1;omega
theorem jy (l:List DTyp): ∀r,(rounds l r).length=l.length
 |0=>by simp[rounds]
 |r+1=>by have:=UY (rounds l r) l l.length (w08 _);rw[w0a] at this;exact this
theorem z0q (l:List DTyp): ∀r,∀x∈rounds l r,x≤5001
 |0,x,h=>by simp[rounds] at h;omega
 |r+1,x,h=>by have:=z1B (rounds l r) l l.length (w08 _) x;rw[w0a] at this;exact this h
theorem ZA {l:List Nat} {c:Nat} (h: ∀x∈l,x≤c) (i:Nat):l.getD i 0≤c:=by
 rw[w03]
 cases hq:l[i]? with
 |none=>simp
 |some x=>simp only[w32];exact h x (w3a hq)
theorem YF {l:List Nat} {i:Nat} (h:i<l.length):l.getD i 0=l[i]:=by simp[w03,h]
theorem z6U {fs:List DField} {k:Nat} (h:k<fs.length) (out:List Nat):fsum (fs.take (k+1)) out=fsum (fs.take k) out+out.getD fs[k].typ.toNat 0:=by
 unfold fsum
 rw[w0f h,w2b,List.sum_append];simp
theorem z5M {fs:List DField} {out:List Nat} {c:Nat} (h: ∀x∈out,x≤c):fsum fs out≤c*fs.length:=by
 unfold fsum
 induction fs with
 |nil=>simp
 |cons f r ih=>
  have:=ZA h f.typ.toNat
  simp only[w30,List.sum_cons,w59,Nat.mul_add,w11];omega
def parts (t:DTyp):List Int:=(if t.kind=6 then [t.elem] else [])++t.fields.map DField.typ
theorem Y7 (t:DTyp) (x:AV) (hx:IsTyp t x) (hl:t.fields.length≤100) (m:Mem):Okl (IsK .i64) 1 tab 323 [x] m (parts t):=by
 refine qQ (tT uo) ?_
 obtain⟨stk,cur,nx,live,fl⟩:=m
 obtain⟨kind,elem,len,fields⟩:=t
 obtain⟨v,rfl,q1⟩:=hx
 dsimp only at q1 hl
 unfold parts
 dsimp only
 simp only[uo,go_sem,G3,G6,G8]
 by_cases hk:kind=6
 ·have hk':(kind==6)=true:=by simpa using hk
  rw[if_pos hk]
  simp only[go_sem,G6,G8,hk']
  refine(Own.nil (R:=IsK .i64) (s:=1) []).xv (zh · _ _ _) (yc (R:=IsK .i64) (x:=elem) rfl) (by simp) fun y' n' e' ho'=> ?_
  simp only[go_sem,G6,G8]
  rw[w2e] at ho'
  refine zg (α:=Nat) (fun k σ=>k≤fields.length∧ ∃nz y e,Own (IsK .i64) 1 y ([elem]++(fields.map DField.typ).take k) e∧heads [1,3,4] 1 σ=⟨tmps 30 [(1,.ptr (stk++[cur]).length 0 nx 0),(3,y),(4,.int .i64 k)],⟨stk++[cur],[⟨nx,[.int .u8 kind,.int .i64 elem,.int .i64 len,v]⟩],nz,e::live,fl⟩⟩) (fun k=>fields.length-k) 0 ?_ ?_
  ·refine⟨w0e _,n',y',e',by simpa using ho',?_⟩
   rfl
  ·rintro k σ ⟨hk,nz,y,e,ho,hσ⟩
   rw[hσ]
   clear hσ σ
   dsimp only at hk⊢
   by_cases h:k<fields.length
   ·have e2:nth v k= .agg [.str fields[k].name,.int .i64 fields[k].typ]:=q1.nth h
    have hat2:=q1.at .i64 h
    simp only[go_sem,G6,G7,G8,w02,h,q1.len,hat2,e2]
    refine ho.xv (zh · _ _ _) (yc (R:=IsK .i64) (x:=fields[k].typ) rfl) (by simp;omega) fun y' n' e' ho'=> ?_
    simp only[go_sem,G6,G8,zq h q1.max]
    rw[w1e,←qu DField.typ h] at ho'
    exact⟨k+1,by omega,h,_,y',e',ho',rfl⟩
   ·have:k=fields.length:=by omega
    subst this
    rw[show(fields.map DField.typ).take fields.length=fields.map DField.typ by rw[show fields.length=(fields.map DField.typ).length by simp,w0a]] at ho
    simp only[go_sem,G6,G7,G8,w02,h,q1.len]
    exact tf ho
 ·have hk':(kind==6)=false:=by simpa using hk
  rw[if_neg hk]
  simp only[go_sem,hk']
  refine zg (α:=Nat) (fun k σ=>k≤fields.length∧ ∃nz y e,Own (IsK .i64) 1 y ([]++(fields.map DField.typ).take k) e∧heads [1,3,4] 1 σ=⟨tmps 30 [(1,.ptr (stk++[cur]).length 0 nx 0),(3,y),(4,.int .i64 k)],⟨stk++[cur],[⟨nx,[.int .u8 kind,.int .i64 elem,.int .i64 len,v]⟩],nz,e::live,fl⟩⟩) (fun k=>fields.length-k) 0 ?_ ?_
  ·refine⟨w0e _,nx+1,.nils,[],by simpa using Own.nil (R:=IsK .i64) (s:=1) [],?_⟩
   rfl
  ·rintro k σ ⟨hk,nz,y,e,ho,hσ⟩
   rw[hσ]
   clear hσ σ
   dsimp only at hk⊢
   by_cases h:k<fields.length
   ·have e2:nth v k= .agg [.str fields[k].name,.int .i64 fields[k].typ]:=q1.nth h
    have hat2:=q1.at .i64 h
    simp only[go_sem,G6,G7,G8,w02,h,q1.len,hat2,e2]
    refine ho.xv (zh · _ _ _) (yc (R:=IsK .i64) (x:=fields[k].typ) rfl) (by simp;omega) fun y' n' e' ho'=> ?_
    simp only[go_sem,G6,G8,zq h q1.max]
    rw[w1e,←qu DField.typ h] at ho'
    exact⟨k+1,by omega,h,_,y',e',ho',rfl⟩
   ·have:k=fields.length:=by omega
    subst this
    rw[show(fields.map DField.typ).take fields.length=fields.map DField.typ by rw[show fields.length=(fields.map DField.typ).length by simp,w0a]] at ho
    simp only[go_sem,G6,G7,G8,w02,h,q1.len]
    exact tf ho
end Go.Proofs.W
end
section
namespace Go.Proofs.W
open Go.Vs
attribute [local go_sem high] zm zT
attribute [local go_sem ↓] w06 w0d
attribute [local go_sem low] Yc Yt Yf Yut Yuf yy yz yw yx
attribute [local go_sem 2000] zK
attribute [local go_sem] x6 x5 x9 x8 zR zu y7 zP zW zt yq yn ym hd kep yj w02 AV.bool.injEq AV.int.injEq not_true_eq_false not_false_eq_true true_implies false_implies and_true true_and implies_true zl zI zH zk zJ zw zc z8 zj zB zA zi zC zy zb z9 w07 zD zE zZ w18 evShift IntKind.bits zL zF zG z6 za zQ zx w0c yu yr allLen zd AV.tup.injEq List.cons.injEq AV.agg.injEq zV zU evBuild yo zN zn zM eqC0 eqC1 eqC2 zO w17 w16
attribute [go_sem] vD
theorem z88 {n i:Nat} {t:DTyp} (h:FineT n i t): ∀p∈parts t,0≤p∧p<i:=by
 intro p hp
 unfold parts at hp
 rcases h with⟨h1,_,_,h4⟩|⟨h1,_,_,_,h4⟩|⟨h1,h2,h3,_,_,h4⟩|⟨h1,h2⟩
 ·grind
 ·grind
 ·grind
 ·rw[if_neg (by omega)] at hp
  simp only[w2e,w42] at hp
  obtain⟨f,hf,rfl⟩:=hp
  exact h2.1 f hf
def partBy (t:DTyp):Nat:=if t.kind=6 then t.len.toNat else 1
def psum (t:DTyp) (out:List Nat) (k:Nat):Nat:=(((parts t).take k).map fun p=>partBy t*out.getD p.toNat 0).sum
theorem z6o {t:DTyp} {k:Nat} (h:k<(parts t).length) (out:List Nat):psum t out (k+1)=psum t out k+partBy t*out.getD (parts t)[k].toNat 0:=by
 unfold psum
 rw[w0f h,w2b,List.sum_append];simp
theorem z85 {n i:Nat} {t:DTyp} (h:FineT n i t) (out:List Nat):psum t out (parts t).length=(if t.kind=6 then t.len.toNat*out.getD t.elem.toNat 0 else 0)+fsum t.fields out:=by
 unfold psum
 rw[w0a]
 unfold parts partBy fsum
 by_cases h6:t.kind=6
 ·have hf:t.fields=[]:=by
   rcases h with⟨h1,_,_,h4⟩|⟨h1,_,_,_,h4⟩|⟨h1,h2,h3,_,_,h4⟩|⟨h1,h2⟩<;>first|omega|exact w2a h4
  simp[h6,hf]
 ·simp[h6,List.map_map,Function.comp_def]
theorem tA {n i:Nat} {t:DTyp} (h:FineT n i t):t.fields.length≤8∧(t.kind=6→1≤t.len∧t.len≤16)∧((t.kind=4∨t.kind=7)→0≤t.elem∧t.elem<n∧t.fields=[])∧(t.kind=6→0≤t.elem∧t.elem<i∧t.fields=[])∧(t.kind≠5→t.fields=[])∧(∀f∈t.fields,0≤f.typ∧f.typ<i):=by
 rcases h with⟨h1,h2,h3,h4⟩|⟨h1,h2,h3,h5,h4⟩|⟨h1,h2,h3,h5,h6,h4⟩|⟨h1,h2⟩
 ·grind
 ·grind
 ·grind
 ·exact⟨by have:=h2.2.2.2.2.1;omega,by omega,by omega,by omega,fun h=>absurd h1 h,h2.1⟩
theorem z6r {n i:Nat} {t:DTyp} (h:FineT n i t):partBy t≤16:=by
 have:=(tA h).2.1
 unfold partBy;split
 ·omega
 ·omega
theorem min5001 (a:Nat):(if(5001:Int)<(a:Int) then(5001:Int) else(a:Int))=((min 5001 a:Nat):Int):=by split<;>omega
theorem toNat_lt {p:Int} {i:Nat} (h:0≤p∧p<i):p.toNat<i:=by omega
theorem Zt {a b:Nat} (ha:a≤16) (hb:b≤5001):a*b≤80016:=Nat.le_trans (Nat.mul_le_mul ha hb) (by decide)
theorem typV {l:List DTyp} {y:AV} (h:IsSl IsTyp 4 l y): ∃z:Nat→AV,∀j (hj:j<l.length),nth y j= .agg [.int .u8 l[j].kind,.int .i64 l[j].elem,.int .i64 l[j].len,z j]∧IsSl IsField 2 l[j].fields (z j):=by
 have h:=fun j hj=>h.nth (i:=j) hj
 exact⟨fun j=>if hj:j<l.length then(h j hj).choose else .undef,fun j hj=>by simp only[dif_pos hj];exact(h j hj).choose_spec⟩
theorem Tg (l:List DTyp) (x:AV) (hx:IsSl IsTyp 4 l x) (hv:ValidT l) (hl:l.length≤100) (d:Nat) (hd:d≤3) (ih:0<d→ ∀m,Okl IsN 1 tab 274 [x,.int .i64 ((d:Int)-1)] m (rounds l d)) (m:Mem):Okl IsN 1 tab 274 [x,.int .i64 (d:Nat)] m (rounds l (d+1)):=by
 obtain⟨z,ht⟩:=typV hx
 have f0:=nd hx.z<|nd hx.co<|fun j hj=>nd (ht j hj).1 (ht j hj).2.co
 have f:=f0
 have m0:=hx.max
 have hrr:rounds l (d+1)=rnd (rounds l d) l:=rfl
 have hbel:=z0q l d
 have hblen:=jy l d
 have h0:d=0→ ∀j,(rounds l d).getD j 0=0:=fun h j=>by
  subst h
  simp only[rounds,w03,List.getElem?_replicate];split<;>rfl
 rw[hrr]
 refine oklz (tT vD) fun s c g v e _=> ?_
 generalize rounds l d=R at*
 refine ifs (fun h=> ?_) fun h=> ?_
 rotate_left
 have f0:=nd f0 h
 rotate_left
 refine oc (ih (by omega) _) fun B t k hB=> ?_
 have hs:=hB.sl (by omega)
 have f0:=nd f0<|nd h<|nd hs.z<|nd hs.co fun j (hj:j<R.length)=>show nth B j= .int .i64 (R[j]:Nat) from hs.nth hj
 all_goals
  have f:=f0
  refine st ?_
  refine xn 7 l.length [6] (fun i v e=>Own IsN 1 (v 6) (rnd R (l.take i)) e) 0 ?_ fun i v e nz hi ho=> ?_
  ·simpa [rnd] using Own.nil _
  have hol:=UY R l i hi
  refine ifs (fun hi'=> ?_) fun hi'=> ?_
  ·have hi:i<l.length:=by omega
   have hfine:=hv i hi
   have hsucc:=WM R l hi
   have hle:=z1B R l i (by omega)
   have hflen:=tA hfine
   have hpok:=z88 hfine
   have hb:=z6r hfine
   generalize rnd R (l.take i)=A at*
   have hs:=ho.sl (by omega)
   have f:=nd f0<|nd hs.z<|nd hs.co fun j (hj:j<A.length)=>show nth (v 6) j= .int .i64 (A[j]:Nat) from hs.nth hj
   refine st ?_
   refine oc (Y7 l[i] _ ⟨_,rfl,(ht i hi).2⟩ (by omega) _) fun yp ts np hp=> ?_
   have hplen:(parts l[i]).length≤9:=by unfold parts;rw[w15,w58];split<;>simp<;>omega
   have hps:=hp.sl (by omega)
   have f:=nd f<|nd hps.z<|nd hps.co fun j (hj:j<(parts l[i]).length)=>show nth yp j= .int .i64 (parts l[i])[j] from hps.nth hj
   refine st ?_
   refine xn 10 (parts l[i]).length [8] (fun k v e'=>v 8= .int .i64 (min 5001 (1+psum l[i] A k):Nat)∧e'=ts++e) 0 ?_ fun k v e' nz hk hp=> ?_
   ·simp[psum]
   obtain⟨h8,rfl⟩:=hp
   have f:=nd f h8
   refine st ?_
   refine ifs (fun hk'=> ?_) fun hk'=> ?_
   ·have hk:k<(parts l[i]).length:=by omega
    have hpk:=hpok _ (w04 hk)
    have hc:=ZA hle (parts l[i])[k].toNat
    have hmul:=Zt hb hc
    have hps:=z6o hk A
    rw[YF (by omega)] at hc hmul hps
    have hm:l[i].kind=6→l[i].len*((A[(parts l[i])[k].toNat]:Nat):Int)=((partBy l[i]*A[(parts l[i])[k].toNat]:Nat):Int):=fun h6=>by
     have:=hflen.2.1 h6
     rw[Int.natCast_mul];unfold partBy;rw[if_pos h6,w45 (by omega)]
    have hn:l[i].kind≠6→partBy l[i]=1:=fun h6=>by unfold partBy;rw[if_neg h6]
    generalize partBy l[i]=q at*
    have f:=nd f<|nd hm<|nd Int.one_mul min5001
    refine ifs (fun h6=> ?_) fun h6=> ?_
    ·exact⟨hk,by rw[hps];split<;>omega⟩
    ·exact⟨hk,by rw[hps,hn h6];split<;>omega⟩
   ·obtain rfl:k=(parts l[i]).length:=by omega
    have hps:=z85 hfine A
    generalize psum l[i] A (parts l[i]).length=ps at*
    have hfs:=z5M (fs:=l[i].fields) hle
    have hps5:ps≤200000:=by
     rw[hps]
     have:=Nat.mul_le_mul (w08 5001) hflen.1
     split
     ·rename_i h6
      have h16:=hflen.2.1 h6
      have:=Zt (a:=l[i].len.toNat) (by omega) (ZA hle l[i].elem.toNat)
      omega
     ·omega
    by_cases h47:l[i].kind=4∨l[i].kind=7
    ·obtain⟨q1,q2,_⟩:=hflen.2.2.1 h47
     have hc:=ZA hbel l[i].elem.toNat
     rw[YF (by omega)] at hc
     have hz:0<d∨R[l[i].elem.toNat]=0:=by
      rcases Nat.eq_zero_or_pos d with h|h
      ·have:=h0 h l[i].elem.toNat
       rw[YF (by omega)] at this
       exact .inr this
      ·exact .inl h
     have h6: ¬l[i].kind=6:=by omega
     rw[if_neg h6] at hps
     have h74:l[i].kind=4→(l[i].kind=7)=False:=fun h=>by simp[h]
     have f:=nd f h74
     refine st ?_
     try refine ifs (fun h4=> ?_) fun h4=> ?_
     try any_goals refine ifs (fun h7=> ?_) fun h7=> ?_
     try any_goals omega
     all_goals
      refine oa ho (yc (R:=IsN) (x:=w1 l[i] R A) ?_) (by simp;omega) fun y k e ho=> ?_
      ·refine congrArg (AV.int .i64) ?_
       unfold w1 contrib
       rw[YF (by omega),if_neg h6]
       generalize R[l[i].elem.toNat]=r at*
       clear f f0 ih h74
       repeat' split
       all_goals omega
      ·exact⟨hi,by rw[hsucc];exact ho⟩
    ·have f:=nd f<|nd (show(l[i].kind=4)=False by simp;omega) (show(l[i].kind=7)=False by simp;omega)
     refine st ?_
     refine oa ho (yc (R:=IsN) (x:=w1 l[i] R A) ?_) (by simp;omega) fun y k e ho=> ?_
     ·refine congrArg (AV.int .i64) ?_
      unfold w1 contrib
      rw[if_neg (fun h=>h47 (.inl h)),if_neg (fun h=>h47 (.inr h))]
      omega
     ·exact⟨hi,by rw[hsucc];exact ho⟩
  ·obtain rfl:i=l.length:=by omega
   rw[w0a] at ho
   exact fo ho rfl
theorem tS (l:List DTyp) (x:AV) (hx:IsSl IsTyp 4 l x) (hv:ValidT l) (hl:l.length≤100): ∀(d:Nat),d≤3→ ∀m,Okl IsN 1 tab 274 [x,.int .i64 (d:Nat)] m (rounds l (d+1))
 |0,hd=>Tg l x hx hv hl 0 hd fun h=>absurd h (Nat.lt_irrefl 0)
 |d+1,hd=>Tg l x hx hv hl (d+1) hd fun _ m=>by
  rw[show((d+1:Nat):Int)-1=(d:Nat) by omega]
  exact tS l x hx hv hl d (by omega) m
end Go.Proofs.W
end
section
namespace Go.Proofs.W
open Go.Vs
theorem WJ {A:List Nat} {n i v:Nat} (h:A.length=i) (hi:i<n):(A++List.replicate (n-i) 0).set i v=A++[v]++List.replicate (n-(i+1)) 0:=by
 rw[List.set_append,if_neg (by omega)]
 rw[show n-i=(n-(i+1))+1 by omega,w44,show i-A.length=0 by omega]
 simp
theorem z8E {A B:List Nat} {j:Nat} (h:j<A.length):(A++B).getD j 0=A.getD j 0:=by
 grind
theorem Tp (l:List DTyp) (x:AV) (hx:IsSl IsTyp 4 l x) (hv:ValidT l) (hl:l.length≤100) (stk:List (List Blk)) (cur:List Blk) (nx fl:Nat) (live:List (List Nat)):
  ∃bs j st k,CALL tab 271 [x] ⟨stk,cur,nx,live,fl⟩=some (.arr stk.length (cur.length+j) st 0 l.length,⟨stk,cur++bs,k,live,fl⟩)∧bs[j]? =some ⟨st,ints (rounds l 4)⟩:=by
 suffices h:Does tab 271 [x] ⟨stk,cur,nx,live,fl⟩ fun v m'=> ∃bs j st k,v= .arr stk.length (cur.length+j) st 0 l.length∧m'=⟨stk,cur++bs,k,live,fl⟩∧bs[j]? =some ⟨st,ints (rounds l 4)⟩ by
  obtain⟨z,h1,bs,j,st,k,h2,h3,h4⟩:=h
  grind
 refine yD (tT jN) ?_ (Nat.le_of_ble_eq_true rfl)
 have hmk: ∀m:Mem,evMake m 1 8 [.int .i64 0] (.int .i64 l.length) (.int .i64 l.length)=some (.arr m.stk.length m.cur.length m.nx 0 l.length,{m with cur:=m.cur++[⟨m.nx,ints (List.replicate l.length 0)⟩],nx:=m.nx+1}):=fun m=>by
  unfold evMake
  simp only
  rw[if_pos ⟨trivial,by omega,by omega,by omega,rfl⟩,w07,z32]
 simp only[jN,go_sem,G6,G8,hx.len,hmk]
 refine zg (α:=Nat) (fun r σ=>r≤4∧ ∃L k st nz,k<L.length∧L[k]? =some ⟨st,ints (rounds l r)⟩∧heads [0,3,13,999999] 1 σ=⟨tmps 82 [(0,x),(3,.arr (stk++[cur]).length k st 0 l.length),(13,.int .i64 r),(999999,.undef)],⟨stk++[cur],L,nz,[]::live,fl⟩⟩) (fun r=>4-r) 0 ?_ ?_
 ·refine⟨by omega,[⟨nx,ints (List.replicate l.length 0)⟩],0,nx,nx+1,by simp,rfl,?_⟩
  rfl
 ·rintro r σ ⟨hr,L,kb,st,nz,hkb,hLk,hσ⟩
  rw[hσ]
  clear hσ σ
  dsimp only at hr⊢
  by_cases h4:r<4
  ·have h4':(r:Int)<4:=by omega
   have hr1:IntKind.i64.wrap ((r:Int)+1)=((r+1:Nat):Int):=by rw[z6 (by omega) (by omega)];omega
   simp only[go_sem,G6,G7,G8,xk,h4',hx.len,hmk]
   have hbel:=z0q l r
   have hblen:=jy l r
   have hrr:rounds l (r+1)=rnd (rounds l r) l:=rfl
   generalize rounds l r=bel at*
   refine zg (α:=Nat) (fun i σ=>i≤l.length∧ ∃nz',heads [0,3,4,13,18,19,20] (L.length+1) σ=⟨tmps 82 [(0,x),(3,.arr (stk++[cur]).length kb st 0 l.length),(4,.arr (stk++[cur]).length L.length nz 0 l.length),(13,.int .i64 r),(18,x),(19,.int .i64 l.length),(20,.int .i64 i)],⟨stk++[cur],L++[⟨nz,ints (rnd bel (l.take i)++List.replicate (l.length-i) 0)⟩],nz',[]::live,fl⟩⟩) (fun i=>l.length-i) 0 ?_ ?_
   ·refine⟨w0e _,?_⟩
    simp only[go_sem,G6,G7,xO,rnd,Nat.sub_zero]
    simp
   ·rintro i σ ⟨hi,nz',hσ⟩
    rw[hσ]
    clear hσ σ
    dsimp only at hi⊢
    by_cases h:i<l.length
    ·have hfine:=hv i h
     obtain⟨v,e1,q1⟩:=hx.nth h
     have hat:=hx.at .i64 h
     have hAl:=UY bel l i hi
     have hrs:=WM bel l h
     have hle:=z1B bel l i hi
     have hflen:=tA hfine
     generalize hout:rnd bel (l.take i)=A at*
     have hmax:=hx.max
     generalize ht:l[i]=t at*
     clear ht
     generalize hn:l.length=n at*
     obtain⟨kind,elem,len,fields⟩:=t
     dsimp only at e1 q1 hflen
     have hgA: ∀j,j<i→takeV false 1 ((ints (A++List.replicate (n-i) 0)).drop j)=some (.int .i64 ((A.getD j 0:Nat):Int)):=fun j hj=>by
      rw[V2 (by simp;omega),z8E (by omega)]
     have hgB: ∀j,j<n→takeV false 1 ((ints bel).drop j)=some (.int .i64 ((bel.getD j 0:Nat):Int)):=fun j hj=>V2 (by omega)
     have hcB:=ZA hbel elem.toNat
     have hcA:=ZA hle elem.toNat
     simp only[go_sem,G3,G6,G7,G8,xk,Vg,zal,w02,h,hat,e1,q1.one]
     by_cases k4:kind=4
     ·subst k4
      have hel:=hflen.2.2.1 (.inl rfl)
      have hf:=hel.2.2
      have hix:=uG .i64 (p:=elem) (n:=n) ⟨hel.1,hel.2.1⟩
      have ew:IntKind.i64.wrap (1+((bel.getD elem.toNat 0:Nat):Int))=((1+bel.getD elem.toNat 0:Nat):Int):=by rw[z6 (by omega) (by omega)];omega
      have hV:min 5001 (1+bel.getD elem.toNat 0)=w1 ⟨4,elem,len,fields⟩ bel A:=by unfold w1 contrib fsum;simp[hf]
      simp only[go_sem,G6,G8,xk,Vg,w11,z7,hix,z3x _ _ _ hkb,hLk,hgB _ (show elem.toNat<n by omega),ew,q1.len]
      have hf0:((fields.length:Nat):Int)=0:=by rw[hf];rfl
      rw[yW]
      simp only[go_sem,G6,G7,G8,kh,Ve,hf0,(by decide: ¬(0:Int)<0)]
      have hsucc:=zq h hmax
      have hix:=uG .i64 (p:=(i:Int)) (n:=n) (by omega)
      rw[w07] at hix
      have hset:=YE (ws:=A++List.replicate (n-i) 0) (j:=i) (min 5001 (1+bel.getD elem.toNat 0)) (by simp;omega)
      rw[WJ hAl h,hV,←hrs] at hset
      have hcl:decide (i+1≤(A++List.replicate (n-i) 0).length)=true:=by simp;omega
      simp only[go_sem,G6,G8,Vh,Ta,kh,Zf,w11,z7,hix,min5001,hcl,hset,hV,hsucc]
      exact⟨i+1,by omega,h,_,rfl⟩
     have k4':(kind==4)=false:=by simpa using k4
     by_cases k7:kind=7
     ·subst k7
      have hel:=hflen.2.2.1 (.inr rfl)
      have hf:=hel.2.2
      have hix:=uG .i64 (p:=elem) (n:=n) ⟨hel.1,hel.2.1⟩
      have ew:IntKind.i64.wrap (1+IntKind.i64.wrap (16*((bel.getD elem.toNat 0:Nat):Int)))=((1+16*bel.getD elem.toNat 0:Nat):Int):=by
       rw[z6 (n:=16*_) (by omega) (by omega),z6 (by omega) (by omega)];omega
      have hV:min 5001 (1+16*bel.getD elem.toNat 0)=w1 ⟨7,elem,len,fields⟩ bel A:=by unfold w1 contrib fsum;simp[hf]
      simp only[go_sem,G6,G8,xk,Vg,w11,k4',z7,hix,z3x _ _ _ hkb,hLk,hgB _ (show elem.toNat<n by omega),ew,q1.len]
      have hf0:((fields.length:Nat):Int)=0:=by rw[hf];rfl
      rw[yW]
      simp only[go_sem,G6,G7,G8,kh,Ve,hf0,(by decide: ¬(0:Int)<0)]
      have hsucc:=zq h hmax
      have hix:=uG .i64 (p:=(i:Int)) (n:=n) (by omega)
      rw[w07] at hix
      have hset:=YE (ws:=A++List.replicate (n-i) 0) (j:=i) (min 5001 (1+16*bel.getD elem.toNat 0)) (by simp;omega)
      rw[WJ hAl h,hV,←hrs] at hset
      have hcl:decide (i+1≤(A++List.replicate (n-i) 0).length)=true:=by simp;omega
      simp only[go_sem,G6,G8,Vh,Ta,kh,Zf,w11,z7,hix,min5001,hcl,hset,hV,hsucc]
      exact⟨i+1,by omega,h,_,rfl⟩
     have k7':(kind==7)=false:=by simpa using k7
     by_cases k6:kind=6
     ·subst k6
      have hel:=hflen.2.2.2.1 rfl
      have hf:=hel.2.2
      have hlen:=hflen.2.1 rfl
      have hmul:=Zt (a:=len.toNat) (by omega) hcA
      have hix:=uG .i64 (p:=elem) (n:=n) ⟨hel.1,by omega⟩
      have ew:IntKind.i64.wrap (1+IntKind.i64.wrap (len*((A.getD elem.toNat 0:Nat):Int)))=((1+len.toNat*A.getD elem.toNat 0:Nat):Int):=by
       have:len*((A.getD elem.toNat 0:Nat):Int)=((len.toNat*A.getD elem.toNat 0:Nat):Int):=by
        grind
       rw[this,z6 (n:=((len.toNat*A.getD elem.toNat 0:Nat):Int)) (by omega) (by omega),z6 (by omega) (by omega)];omega
      have hV:min 5001 (1+len.toNat*A.getD elem.toNat 0)=w1 ⟨6,elem,len,fields⟩ bel A:=by unfold w1 contrib fsum;simp[hf]
      simp only[go_sem,G6,G8,xk,Vh,Vg,w11,k4',k7',z7,hix,hgA _ (show elem.toNat<i by omega),ew,q1.len]
      have hf0:((fields.length:Nat):Int)=0:=by rw[hf];rfl
      rw[yW]
      simp only[go_sem,G6,G7,G8,kh,Ve,hf0,(by decide: ¬(0:Int)<0)]
      have hsucc:=zq h hmax
      have hix:=uG .i64 (p:=(i:Int)) (n:=n) (by omega)
      rw[w07] at hix
      have hset:=YE (ws:=A++List.replicate (n-i) 0) (j:=i) (min 5001 (1+len.toNat*A.getD elem.toNat 0)) (by simp;omega)
      rw[WJ hAl h,hV,←hrs] at hset
      have hcl:decide (i+1≤(A++List.replicate (n-i) 0).length)=true:=by simp;omega
      simp only[go_sem,G6,G8,Vh,Ta,kh,Zf,w11,z7,hix,min5001,hcl,hset,hV,hsucc]
      exact⟨i+1,by omega,h,_,rfl⟩
     have k6':(kind==6)=false:=by simpa using k6
     simp only[go_sem,G6,G8,xk,Vg,k4',k7',k6',q1.len]
     refine zg (α:=Nat) (fun k σ=>k≤fields.length∧ ∃nz'',heads [0,3,4,5,7,13,18,19,20,59,60,61] (L.length+2) σ=⟨tmps 82 [(0,x),(3,.arr (stk++[cur]).length kb st 0 n),(4,.arr (stk++[cur]).length L.length nz 0 n),(5,.int .i64 i),(7,.int .i64 ((1+fsum (fields.take k) A:Nat):Int)),(13,.int .i64 r),(18,x),(19,.int .i64 n),(20,.int .i64 i),(59,v),(60,.int .i64 fields.length),(61,.int .i64 k)],
      ⟨stk++[cur],L++[⟨nz,ints (A++List.replicate (n-i) 0)⟩]++[⟨nz',[.int .u8 kind,.int .i64 elem,.int .i64 len,v]⟩],nz'',[]::live,fl⟩⟩) (fun k=>fields.length-k) 0 ?_ ?_
     ·refine⟨w0e _,?_⟩
      simp only[go_sem,G6,G7,Ve,fsum]
      simp
     ·rintro k σ ⟨hk,nz'',hσ⟩
      rw[hσ]
      clear hσ σ
      dsimp only at hk⊢
      have hfs:=z5M (fs:=fields.take k) hle
      have hfl:(fields.take k).length≤8:=by rw[w20];omega
      have hfs8:fsum (fields.take k) A≤40008:=Nat.le_trans hfs (by omega)
      by_cases hkl:k<fields.length
      ·have e2:nth v k= .agg [.str fields[k].name,.int .i64 fields[k].typ]:=q1.nth hkl
       have hat2:=q1.at .i64 hkl
       have htk:=hflen.2.2.2.2.2 _ (w04 hkl)
       have hix:=uG .i64 (p:=fields[k].typ) (n:=n) ⟨htk.1,by omega⟩
       have hcA:=ZA hle fields[k].typ.toNat
       have hsu:=z6U hkl A
       have ew:IntKind.i64.wrap (((1+fsum (fields.take k) A:Nat):Int)+((A.getD fields[k].typ.toNat 0:Nat):Int))=((1+fsum (fields.take (k+1)) A:Nat):Int):=by rw[z6 (by omega) (by omega)];omega
       simp only[go_sem,G3,G6,G7,G8,xk,zan,zam,zak,zaj,w11,w02,hkl,hat2,e2,z7,hix,hgA _ (show fields[k].typ.toNat<i by omega),ew,zq hkl q1.max]
       exact⟨k+1,by omega,hkl,_,rfl⟩
      ·have:k=fields.length:=by omega
       subst this
       rw[w0a] at hfs8⊢
       have hV:min 5001 (1+fsum fields A)=w1 ⟨kind,elem,len,fields⟩ bel A:=by unfold w1 contrib;rw[if_neg k4,if_neg k7,if_neg k6]
       simp only[go_sem,G6,G7,G8,kh,w02,hkl]
       have hsucc:=zq h hmax
       have hix:=uG .i64 (p:=(i:Int)) (n:=n) (by omega)
       rw[w07] at hix
       have hset:=YE (ws:=A++List.replicate (n-i) 0) (j:=i) (min 5001 (1+fsum fields A)) (by simp;omega)
       rw[WJ hAl h,hV,←hrs] at hset
       have hcl:decide (i+1≤(A++List.replicate (n-i) 0).length)=true:=by simp;omega
       simp only[go_sem,G6,G8,Vh,Ta,kh,Zf,w11,z7,hix,min5001,hcl,hset,hV,hsucc]
       exact⟨i+1,by omega,h,_,rfl⟩
    ·have:i=l.length:=by omega
     subst this
     rw[w0a,Nat.sub_self,List.replicate_zero,w21]
     simp only[go_sem,G6,G7,G8,w02,h,hr1]
     exact⟨r+1,by omega,h4,_,L.length,nz,_,by simp,by rw[hrr];simp,rfl⟩
  ·have:r=4:=by omega
   subst this
   simp only[go_sem,G4,G6,G7,G8,(by decide: ¬(((4:Nat):Int)<4))]
   obtain⟨bs,hbs,hg⟩:=z6D (m0:=⟨stk,cur,nx,live,fl⟩) (stk:=stk) (cur:=cur) (c':=L) (nx':=nz) (own:=[]) (live':=live) (fl':=fl) (k:=kb) (st:=st) (off:=0) (len:=l.length)
   rw[hbs,z5]
   grind
def CheckP (l:List DTyp):Prop:=l.length≤32∧ValidT l∧ ∀w∈rounds l 4,w≤5000
noncomputable def err04 (l:List DTyp):Int:=if pb (CheckP l) then 0 else 8
theorem ZH {l:List DTyp} (h: ¬CheckP l):err04 l=8:=by unfold err04;rw[zS h];rfl
theorem VX {l:List DTyp} (h:CheckP l):err04 l=0:=by unfold err04;rw[yB h];rfl
def WfTypes (l:List DTyp):Prop:= ∀t∈l,WfTyp t
theorem WfTypes.names {l:List DTyp} (h:WfTypes l) {i:Nat} (hi:i<l.length):NamesOk l[i].fields:=fun f hf=>((h _ (w04 hi)).fields f hf).name
theorem qt (l:List DTyp) (x:AV) (hx:IsSl IsTyp 4 l x) (hw:WfTypes l) (m:Mem):Okv tab 204 [x] m (.int .i64 (err04 l)):=by
 refine zp (tT kN) ?_
 obtain⟨stk,cur,nx,live,fl⟩:=m
 simp only[kN,go_sem,G6,G8,hx.len]
 by_cases hl:(l.length:Int)>32
 ·simp only[go_sem,G6,G8,hl]
  rw[z4 rfl rfl,z5]
  exact⟨⟨_,rfl⟩,by rw[ZH fun h'=>by have:=h'.1;omega]⟩
 simp only[go_sem,G6,G8,hl,hx.len]
 refine zg (α:=Nat) (fun i σ=>(i≤l.length∧ ∀j (h:j<l.length),j<i→FineT l.length j l[j])∧ ∃nz,heads [0,10,11] 0 σ=⟨tmps 29 [(0,x),(10,.int .i64 l.length),(11,.int .i64 i)],⟨stk++[cur],[],nz,[]::live,fl⟩⟩) (fun i=>l.length-i) 0 ?_ ?_
 ·refine⟨⟨w0e _,fun j _ h=>absurd h (w34 _)⟩,?_⟩
  simp only[go_sem,G6,G7]
  simp
 ·rintro i σ ⟨⟨hi,hv⟩,nz,hσ⟩
  rw[hσ]
  clear hσ σ
  dsimp only at hi hv⊢
  by_cases h:i<l.length
  ·have hF:=fun m=>z1k l x hx i h (hw _ (w04 h)) m
   by_cases hf:FineT l.length i l[i]
   ·rw[yB hf] at hF
    have hFe:=fun m=>(hF m).eq
    simp only[go_sem,G6,G7,G8,w02,h,hFe,zq h hx.max]
    refine⟨i+1,by omega,⟨h,fun j hj hji=> ?_⟩,_,rfl⟩
    grind
   ·rw[zS hf] at hF
    have hFe:=fun m=>(hF m).eq
    simp only[go_sem,G6,G7,G8,w02,h,hFe]
    rw[z4 rfl rfl,z5]
    exact⟨⟨_,rfl⟩,by rw[ZH fun h'=>hf (h'.2.1 i h)]⟩
  ·have:i=l.length:=by omega
   subst this
   have hval:ValidT l:=fun j hj=>hv j hj hj
   simp only[go_sem,G6,G7,G8,w02,h]
   obtain⟨bs,j,st,k,hcall,hbs⟩:=Tp l x hx hval (by omega) (stk++[cur]) [] nz fl ([]::live)
   simp only[go_sem,G6,G8,hcall,evLen]
   have hwl:=jy l 4
   refine zg (α:=Nat) (fun i σ=>(i≤l.length∧ ∀w∈(rounds l 4).take i,w≤5000)∧ ∃nz,heads [20,21,22] bs.length σ=⟨tmps 29 [(20,.arr (stk++[cur]).length j st 0 l.length),(21,.int .i64 l.length),(22,.int .i64 i)],⟨stk++[cur],bs,nz,[]::live,fl⟩⟩) (fun i=>l.length-i) 0 ?_ ?_
   ·refine⟨⟨w0e _,by simp⟩,?_⟩
    simp only[go_sem,G6,G7,w0a]
    simp
   ·rintro i σ ⟨⟨hi,hws⟩,nz,hσ⟩
    rw[hσ]
    clear hσ σ
    dsimp only at hi hws⊢
    by_cases h:i<l.length
    ·have hix:=uG .i64 (p:=(i:Int)) (n:=l.length) (by omega)
     rw[w07] at hix
     have hg:=V2 (ws:=rounds l 4) (j:=i) (by omega)
     rw[YF (by omega)] at hg
     by_cases hw:(rounds l 4)[i]≤5000
     ·simp only[go_sem,G6,G7,G8,w02,h,z7,hix,w11,hbs,hg,show¬(((rounds l 4)[i]:Nat):Int)>5000 by omega,zq h hx.max,w0a]
      exact⟨i+1,by omega,⟨h,yJ (P:=fun w=>w≤5000) (by omega) hws hw⟩,_,rfl⟩
     ·simp only[go_sem,G6,G7,G8,w02,h,z7,hix,w11,hbs,hg,show(((rounds l 4)[i]:Nat):Int)>5000 by omega]
      rw[z4 rfl rfl,z5]
      exact⟨⟨_,rfl⟩,by rw[ZH fun h'=>hw (h'.2.2 _ (w04 (by omega)))]⟩
    ·have:i=l.length:=by omega
     subst this
     rw[←hwl,w0a] at hws
     simp only[go_sem,G6,G7,G8,w02,h]
     rw[z4 rfl rfl,z5]
     exact⟨⟨_,rfl⟩,by rw[VX ⟨by omega,hval,hws⟩]⟩
theorem Y9 (l:List DTyp) (x:AV) (hx:IsSl IsTyp 4 l x) (hw:WfTypes l) (m:Mem):Okv tab 213 [x] m (.int .i64 (err04 l)):=by
 refine zp (tT ut) ?_
 obtain⟨stk,cur,nx,live,fl⟩:=m
 simp only[ut,go_sem,G6,G8,hx.len]
 by_cases hl:(l.length:Int)>32
 ·simp only[go_sem,G6,G8,hl]
  rw[z4 rfl rfl,z5]
  exact⟨⟨_,rfl⟩,by rw[ZH fun h'=>by have:=h'.1;omega]⟩
 simp only[go_sem,hl]
 refine zg (α:=Nat) (fun i σ=>(i≤l.length∧ ∀j (h:j<l.length),j<i→FineT l.length j l[j])∧ ∃nz,heads [0,3] 0 σ=⟨tmps 32 [(0,x),(3,.int .i64 i)],⟨stk++[cur],[],nz,[]::live,fl⟩⟩) (fun i=>l.length-i) 0 ?_ ?_
 ·refine⟨⟨w0e _,fun j _ h=>absurd h (w34 _)⟩,?_⟩
  simp only[go_sem,G6,G7]
  simp
 ·rintro i σ ⟨⟨hi,hv⟩,nz,hσ⟩
  rw[hσ]
  clear hσ σ
  dsimp only at hi hv⊢
  by_cases h:i<l.length
  ·have hF:=fun m=>Ye l x hx i h (hw.names h) m
   by_cases hf:FineT l.length i l[i]
   ·rw[yB hf] at hF
    have hFe:=fun m=>(hF m).eq
    simp only[go_sem,G6,G7,G8,w02,h,hx.len,hFe,zq h hx.max]
    refine⟨i+1,by omega,⟨h,fun j hj hji=> ?_⟩,_,rfl⟩
    grind
   ·rw[zS hf] at hF
    have hFe:=fun m=>(hF m).eq
    simp only[go_sem,G6,G7,G8,w02,h,hx.len,hFe]
    rw[z4 rfl rfl,z5]
    exact⟨⟨_,rfl⟩,by rw[ZH fun h'=>hf (h'.2.1 i h)]⟩
  ·have:i=l.length:=by omega
   subst this
   have hval:ValidT l:=fun j hj=>hv j hj hj
   simp only[go_sem,G6,G7,G8,w02,h,hx.len]
   refine(tS l x hx hval (by omega) 3 (by omega) _).xv fun y ts n ho=> ?_
   simp only[go_sem,G6,G8]
   have hwl:=jy l 4
   refine zg (α:=Nat) (fun i σ=>(i≤l.length∧ ∀w∈(rounds l 4).take i,w≤5000)∧ ∃nz,heads [0,4,5] 0 σ=⟨tmps 32 [(0,x),(4,y),(5,.int .i64 i)],⟨stk++[cur],[],nz,ts::live,fl⟩⟩) (fun i=>l.length-i) 0 ?_ ?_
   ·refine⟨⟨w0e _,by simp⟩,?_⟩
    simp only[go_sem,G6,G7]
    simp
   ·rintro i σ ⟨⟨hi,hws⟩,nz,hσ⟩
    rw[hσ]
    clear hσ σ
    dsimp only at hi hws⊢
    by_cases h:i<l.length
    ·have hiw:i<(rounds l (3+1)).length:=by rw[jy];exact h
     have e1:nth y i= .int .i64 ((rounds l (3+1))[i]:Nat):=ho.nth hiw
     by_cases hw:(rounds l (3+1))[i]≤5000
     ·simp only[go_sem,G3,G6,G7,G8,w02,h,hx.len,ho.at _ hiw,e1,show¬(((rounds l (3+1))[i]:Nat):Int)>5000 by omega,zq h hx.max]
      exact⟨i+1,by omega,⟨h,yJ (P:=fun w=>w≤5000) (by omega) hws hw⟩,_,rfl⟩
     ·simp only[go_sem,G3,G6,G7,G8,w02,h,hx.len,ho.at _ hiw,e1,show(((rounds l (3+1))[i]:Nat):Int)>5000 by omega]
      rw[z4 rfl rfl,z5]
      exact⟨⟨_,rfl⟩,by rw[ZH fun h'=>hw (h'.2.2 _ (w04 hiw))]⟩
    ·have:i=l.length:=by omega
     subst this
     rw[←hwl,w0a] at hws
     simp only[go_sem,G6,G7,G8,w02,h,hx.len]
     rw[z4 rfl rfl,z5]
     exact⟨⟨_,rfl⟩,by rw[VX ⟨by omega,hval,hws⟩]⟩
def t0:DTyp:=⟨0,0,0,[]⟩
def typAt (l:List DTyp) (k:Nat):DTyp:=l.getD k t0
theorem Vy {l:List DTyp} {j:Nat} (h:j<l.length):l[j]=typAt l j:=by simp[typAt,w03,h]
def typB (t:DTyp):List UInt8:=
 if t.kind=4∨t.kind=7 then minimal t.elem.toNat else if t.kind=6 then minimal t.elem.toNat++minimal t.len.toNat else if t.kind=5 then flds t.fields t.fields.length else []
def typs (l:List DTyp):Nat→List UInt8
 |0=>minimal l.length
 |k+1=>typs l k++([UInt8.ofNat (typAt l k).kind.toNat]++typB (typAt l k))
theorem Zb {s:List UInt8} (h:named s=true):s.length≤16:=by
 unfold named at h;simp only[w09,decide_eq_true_eq] at h;exact h.1.1.2
theorem Q9 {n i:Nat} {t:DTyp} (h:FineT n i t) (hn:i≤32) (h5:t.kind=5):FOk t.fields:=by
 have hs:=(uH h5).1 h
 have h8:=hs.2.2.2.2.1
 refine⟨by omega,fun f hf=> ?_⟩
 have h1:=hs.1 f hf
 have h2:=Zb (hs.2.2.2.2.2.1 f hf)
 omega
theorem z7O {n i:Nat} {t:DTyp} (h:FineT n i t) (hn:n≤32) (hi:i≤32):(typB t).length≤600:=by
 have hl:=tA h
 unfold typB
 split
 ·rename_i h4
  have:=hl.2.2.1 h4
  have:=zf (n:=t.elem.toNat) (by omega)
  omega
 ·split
  ·rename_i h6
   have e1:=hl.2.2.2.1 h6
   have e2:=hl.2.1 h6
   have:=zf (n:=t.elem.toNat) (by omega)
   have:=zf (n:=t.len.toNat) (by omega)
   grind
  ·split
   ·rename_i h5
    have hfo:=Q9 h hi h5
    have:=qK hfo t.fields.length (w08 _)
    omega
   ·simp
theorem WE {l:List DTyp} (hv:ValidT l) (hl:l.length≤32): ∀k,k≤l.length→(typs l k).length≤10+601*k
 |0,_=>zf (by omega)
 |k+1,hk=>by
  have ih:=WE hv hl k (by omega)
  have hf:=hv k (by omega)
  rw[Vy (by omega)] at hf
  have:=z7O hf hl (by omega)
  simp only[typs,w15,w59,w46];omega
attribute [local go_sem high] zm zT
attribute [local go_sem ↓] w06 w0d
attribute [local go_sem low] Yc Yt Yf Yut Yuf yy yz yw yx
attribute [local go_sem 2000] zK
attribute [local go_sem] x6 x5 x9 x8 zR zu y7 zP zW zt yq yn ym hd kep yj w02 AV.bool.injEq AV.int.injEq not_true_eq_false not_false_eq_true true_implies false_implies and_true true_and implies_true zl zI zH zk zJ zw zc z8 zj zB zA zi zC zy zb z9 w07 zD zE zZ w18 evShift IntKind.bits zL zF zG z6 za zQ zx w0c yu yr allLen zd AV.tup.injEq List.cons.injEq AV.agg.injEq zV zU evBuild yo zN zn zM eqC0 eqC1 eqC2 zO w17 w16
attribute [go_sem] tc
theorem Tk {n:Int} (h0:0≤n) (hn:n<4611686018427387904) (m:Mem) {lv k sp i:Nat} {y:AV} {b:List UInt8} {post:List (List Nat)} (ha:At m lv k sp i y b post) (hb:b.length≤1000000):
  Writes 225 [.ptr lv k sp 0,.int .i64 n] lv k sp i y b (minimal n.toNat) post (.tup []) m:=by
 obtain⟨k,rfl⟩:=Int.eq_ofNat_of_zero_le h0
 exact qF k (by omega) m ha hb
theorem z9p (l:List DTyp) (v:AV) (hv:IsSl IsTyp 4 l v) (hw:WfTypes l) (hval:ValidT l) (hl:l.length≤32) (m:Mem) {lv k sp i:Nat} {y:AV} {b:List UInt8} {post:List (List Nat)} (ha:At m lv k sp i y b post) (hb:b.length≤100000):
  Writes 224 [.ptr lv k sp 0,v] lv k sp i y b (typs l l.length) post (.tup []) m:=by
 obtain⟨z,ht⟩:=typV hv
 have f0:=nd hv.z<|nd hv.co fun j hj=>nd (ht j hj).1 (ht j hj).2.co
 have m0:=hv.max
 have f:=f0
 refine wz (tT tc) ha fun S C n e g fw hlv hk hW=> ?_
 have f:=nd f0 fw
 unfold Wf at f
 refine st ?_
 refine oW hlv (qF l.length (by omega) _ (fw.at hlv hk hW) (by omega)) fun y n L hW=> ?_
 refine xs [12] (fun(z:Nat×AV) v S' e c=>S'=rw' S C lv k sp z.2∧z.1≤l.length∧v 12= .int .i64 (z.1:Int)∧c=[]∧WrL (i+1) z.2 (b++typs l z.1) e post) (fun z=>l.length-z.1) (0,y) ?_ ?_
 ·simpa [typs] using hW
 rintro⟨j,y⟩ v S' e nz c ⟨rfl,hj,h12,rfl,hW⟩
 dsimp only at*
 have hL:=WE hval hl j hj
 refine ifs (fun h=> ?_) fun h=> ?_
 ·have hj:j<l.length:=by omega
  have hF:=hval j hj
  have hkd:=(hw _ (w04 hj)).kind
  have hn:=tA hF
  have hfo:=Q9 hF (by omega)
  have hT: ∀B,typB l[j]=B→b++typs l (j+1)=b++typs l j++[UInt8.ofNat l[j].kind.toNat]++B:=fun B h=>by
   rw[typs,←Vy hj,h];simp
  refine aW hW (byI (by unfold inU8 at hkd;omega)) (by simp;omega) fun y n o L hW=> ?_
  have hx: ∀(y:AV) (n:Nat) (L:List (List Nat)),WrL (i+1) y (b++typs l (j+1)) L post→ ∃q:Nat×AV,l.length-q.1<l.length-j∧rw' S C lv k sp y=rw' S C lv k sp q.2∧q.1≤l.length∧(j:Int)+1=(q.1:Int)∧WrL (i+1) q.2 (b++typs l q.1) L post:=fun y n L h=>
   ⟨(j+1,y),by dsimp only;omega,rfl,by dsimp only;omega,by dsimp only;omega,h⟩
  refine ifs (fun k4=> ?_) fun k4=> ?_
  ·obtain⟨q1,q2,_⟩:=hn.2.2.1 (.inl k4)
   refine oW hlv (Tk q1 (by omega) _ (fw.at hlv hk hW) (by simp;omega)) fun y n L hW=> ?_
   exact hx _ 0 _ (by rw[hT (minimal l[j].elem.toNat) (by unfold typB;rw[if_pos (.inl k4)])];exact hW)
  refine ifs (fun k7=> ?_) fun k7=> ?_
  ·obtain⟨q1,q2,_⟩:=hn.2.2.1 (.inr k7)
   refine oW hlv (Tk q1 (by omega) _ (fw.at hlv hk hW) (by simp;omega)) fun y n L hW=> ?_
   exact hx _ 0 _ (by rw[hT (minimal l[j].elem.toNat) (by unfold typB;rw[if_pos (.inr k7)])];exact hW)
  have k47: ¬(l[j].kind=4∨l[j].kind=7):=by omega
  refine ifs (fun k6=> ?_) fun k6=> ?_
  ·obtain⟨q1,q2,_⟩:=hn.2.2.2.1 k6
   have q3:=hn.2.1 k6
   have m1:= @zf l[j].elem.toNat (by omega)
   refine oW hlv (Tk q1 (by omega) _ (fw.at hlv hk hW) (by simp;omega)) fun y n L hW=> ?_
   refine oW hlv (Tk (by omega) (by omega) _ (fw.at hlv hk hW) (by simp;omega)) fun y n L hW=> ?_
   exact hx _ 0 _ (by rw[hT _ (by unfold typB;rw[if_neg k47,if_pos k6]),←w1e];exact hW)
  refine ifs (fun k5=> ?_) fun k5=> ?_
  ·refine oW hlv (z2d l[j].fields _ (ht j hj).2 (hfo k5) _ (fw.at hlv hk hW) (by simp;omega)) fun y n L hW=> ?_
   exact hx _ 0 _ (by rw[hT _ (by unfold typB;rw[if_neg k47,if_neg k6,if_pos k5])];exact hW)
  exact hx _ 0 _ (by rw[hT [] (by unfold typB;rw[if_neg k47,if_neg k6,if_neg k5]),w21];exact hW)
 ·obtain rfl:j=l.length:=by omega
  exact eW hlv hW rfl
end Go.Proofs.W
end
section
namespace Go.Proofs.W
open Go.Vs
def shp (op:Int):List UInt8:=
 if op=1 then [119,110,45] else if op=2 then [119,116,45] else if op=3 then [119,98,45] else if op=4∨op=15 then [119,45,45]
 else if op=5∨op=12∨op=16∨op=18∨op=21∨op=33 then [119,114,45]
 else if op=6∨op=7∨op=8∨op=9∨op=10∨op=11∨op=19 then [119,114,114]
 else if op=13 then [119,114,102] else if op=14 then [114,102,114] else if op=17 then [114,114,45] else if op=20 then [114,114,114]
 else if op=22 then [105,45,45] else if op=23 then [114,105,45] else if op=24∨op=28∨op=32 then [114,45,45] else if op=25 then [103,99,45]
 else if op=26∨op=27 then [99,45,45] else if op=29 then [119,119,45] else if op=30∨op=31 then [45,45,45] else if op=34 then [101,45,45] else []
theorem UV (op:Int) (m:Mem):Okv tab 279 [.int .u8 op] m (.str (shp op)):=by
 refine zp (tT uj) ?_
 obtain⟨stk,cur,nx,live,fl⟩:=m
 simp only[uj,go_sem,G6,G8]
 repeat' (((first|refine uD ?_ ?_|refine xu ?_ ?_|refine xx ?_ ?_|refine xq ?_ ?_|refine xr ?_ ?_)<;>intro hq)<;>simp only[go_sem,G6,G8,hq])
 all_goals
  rw[z4 rfl rfl,z5]
  refine⟨⟨_,rfl⟩,?_⟩
  simp only[beq_iff_eq,beq_eq_false_iff_ne] at*
  unfold shp
  first|(subst op;rfl)|(simp[*];done)
theorem z23 {tab:Nat→Option AFunc} {f:Nat} {args:List AV} {m m':Mem} {v:AV} {d:Option Nat} {l:List AOper} {ρ:List AV} {k:Kont} (h:CALL tab f args m=some (v,m')) (q:Xs tab l (setDst ρ d v) m' k):Xv tab (CALL tab f args m) d l ρ k:=by
 rw[h,tF];exact q
def U (lo hi:Int) (r w:Bool):List AV:=[.int .i64 lo,.int .i64 hi,.bool r,.bool w]
theorem Yx (j:Nat) (l:List (List Nat)):sink j [] l=l:=rfl
theorem zaZ (m:Mem):Okv tab 373 [] m (.agg (U 0 15 true false)):=by
 refine zp (tT Wq) ?_
 obtain⟨stk,cur,nx,live,fl⟩:=m
 simp only[Wq,go_sem,reduceCtorEq,G3,G9,G8,evBuild]
 rw[z4 rfl rfl,z5]
 exact⟨⟨_,rfl⟩,rfl⟩
theorem z9n (m:Mem):Okv tab 370 [] m (.agg (U 0 15 false true)):=by
 refine zp (tT YW) ?_
 obtain⟨stk,cur,nx,live,fl⟩:=m
 simp only[YW,go_sem,reduceCtorEq,G3,G9,G8,evBuild]
 rw[z4 rfl rfl,z5]
 exact⟨⟨_,rfl⟩,rfl⟩
theorem z9o (m:Mem):Okv tab 371 [] m (.agg (U (-9223372036854775808) 9223372036854775807 false false)):=by
 refine zp (tT YX) ?_
 obtain⟨stk,cur,nx,live,fl⟩:=m
 simp only[YX,go_sem,reduceCtorEq,G3,G9,G8,evBuild]
 rw[z4 rfl rfl,z5]
 exact⟨⟨_,rfl⟩,rfl⟩
theorem UU (n:Int) (hn:0≤n∧n≤1000) (m:Mem):Okv tab 372 [.int .i64 n] m (.agg (U 0 (n-1) false false)):=by
 refine zp (tT YZ) ?_
 obtain⟨stk,cur,nx,live,fl⟩:=m
 simp only[YZ,go_sem,reduceCtorEq,G3,G6,G9,G8,evBuild,z6 (n:=n-1) (by omega) (by omega)]
 rw[z4 rfl rfl,z5]
 exact⟨⟨_,rfl⟩,rfl⟩
theorem z3Q (a b:Int) (c d:Bool) (stk:List (List Blk)) (st st2 nx fl:Nat) (live:List (List Nat)) (hf:fl≤stk.length):
  CALL tab 369 [.list 4 .full [.agg (U a b c d)],.ptr stk.length 0 st 0,.ptr stk.length 1 st2 0] ⟨stk,[⟨st,U 0 0 false false++U 0 0 false false++U 0 0 false false⟩,⟨st2,[.int .i64 0]⟩],nx,live,fl⟩=
   some (.tup [],⟨stk,[⟨st,U a b c d++U 0 0 false false++U 0 0 false false⟩,⟨st2,[.int .i64 1]⟩],callNx tab 369 [.list 4 .full [.agg (U a b c d)],.ptr stk.length 0 st 0,.ptr stk.length 1 st2 0] ⟨stk,[⟨st,U 0 0 false false++U 0 0 false false++U 0 0 false false⟩,⟨st2,[.int .i64 0]⟩],nx,live,fl⟩,live,fl⟩):=by
 suffices h: ∃k,CALL tab 369 [.list 4 .full [.agg (U a b c d)],.ptr stk.length 0 st 0,.ptr stk.length 1 st2 0] ⟨stk,[⟨st,U 0 0 false false++U 0 0 false false++U 0 0 false false⟩,⟨st2,[.int .i64 0]⟩],nx,live,fl⟩=some (.tup [],⟨stk,[⟨st,U a b c d++U 0 0 false false++U 0 0 false false⟩,⟨st2,[.int .i64 1]⟩],k,live,fl⟩) by
  obtain⟨k,h⟩:=h
  rw[h];unfold callNx;rw[h]
 suffices h:Does tab 369 [.list 4 .full [.agg (U a b c d)],.ptr stk.length 0 st 0,.ptr stk.length 1 st2 0] ⟨stk,[⟨st,U 0 0 false false++U 0 0 false false++U 0 0 false false⟩,⟨st2,[.int .i64 0]⟩],nx,live,fl⟩ fun v m'=> ∃k,v= .tup []∧m'=⟨stk,[⟨st,U a b c d++U 0 0 false false++U 0 0 false false⟩,⟨st2,[.int .i64 1]⟩],k,live,fl⟩ by
  obtain⟨x,h1,k,h2,h3⟩:=h
  grind
 refine yD (tT xV) ?_ (Nat.le_of_ble_eq_true rfl)
 have hne: ∀z:List Blk,(stk.length==(stk++[z]).length)=false:=fun z=>by simp
 have hg: ∀z:List Blk,(stk++[z]).getD stk.length []=z:=fun z=>by simp
 have hmod: ∀z f,(stk++[z]).modify stk.length f=stk++[f z]:=fun z f=>by
  rw[w33 (by simp)];simp
 simp only[xV,go_sem,reduceCtorEq,G3,G4,G6,G8,hne,hg,evSliceA,evCopy0,AV.asArr,bound,U,zh,w2d,List.flatMap_nil,hf,hmod,w56,w4b,Nat.zero_mul,G2,Yx,show min 1 3=1 from rfl,Nat.succ_ne_zero]
 rw[yg rfl rfl,z5]
 simp
theorem z3P (a b a2 b2:Int) (c d c2 d2:Bool) (stk:List (List Blk)) (st st2 nx fl:Nat) (live:List (List Nat)) (hf:fl≤stk.length):
  CALL tab 369 [.list 4 .full [.agg (U a b c d),.agg (U a2 b2 c2 d2)],.ptr stk.length 0 st 0,.ptr stk.length 1 st2 0] ⟨stk,[⟨st,U 0 0 false false++U 0 0 false false++U 0 0 false false⟩,⟨st2,[.int .i64 0]⟩],nx,live,fl⟩=
   some (.tup [],⟨stk,[⟨st,U a b c d++U a2 b2 c2 d2++U 0 0 false false⟩,⟨st2,[.int .i64 2]⟩],callNx tab 369 [.list 4 .full [.agg (U a b c d),.agg (U a2 b2 c2 d2)],.ptr stk.length 0 st 0,.ptr stk.length 1 st2 0] ⟨stk,[⟨st,U 0 0 false false++U 0 0 false false++U 0 0 false false⟩,⟨st2,[.int .i64 0]⟩],nx,live,fl⟩,live,fl⟩):=by
 suffices h: ∃k,CALL tab 369 [.list 4 .full [.agg (U a b c d),.agg (U a2 b2 c2 d2)],.ptr stk.length 0 st 0,.ptr stk.length 1 st2 0] ⟨stk,[⟨st,U 0 0 false false++U 0 0 false false++U 0 0 false false⟩,⟨st2,[.int .i64 0]⟩],nx,live,fl⟩=some (.tup [],⟨stk,[⟨st,U a b c d++U a2 b2 c2 d2++U 0 0 false false⟩,⟨st2,[.int .i64 2]⟩],k,live,fl⟩) by
  obtain⟨k,h⟩:=h
  rw[h];unfold callNx;rw[h]
 suffices h:Does tab 369 [.list 4 .full [.agg (U a b c d),.agg (U a2 b2 c2 d2)],.ptr stk.length 0 st 0,.ptr stk.length 1 st2 0] ⟨stk,[⟨st,U 0 0 false false++U 0 0 false false++U 0 0 false false⟩,⟨st2,[.int .i64 0]⟩],nx,live,fl⟩ fun v m'=> ∃k,v= .tup []∧m'=⟨stk,[⟨st,U a b c d++U a2 b2 c2 d2++U 0 0 false false⟩,⟨st2,[.int .i64 2]⟩],k,live,fl⟩ by
  obtain⟨x,h1,k,h2,h3⟩:=h
  grind
 refine yD (tT xV) ?_ (Nat.le_of_ble_eq_true rfl)
 have hne: ∀z:List Blk,(stk.length==(stk++[z]).length)=false:=fun z=>by simp
 have hg: ∀z:List Blk,(stk++[z]).getD stk.length []=z:=fun z=>by simp
 have hmod: ∀z f,(stk++[z]).modify stk.length f=stk++[f z]:=fun z f=>by
  rw[w33 (by simp)];simp
 simp only[xV,go_sem,reduceCtorEq,G3,G4,G6,G8,hne,hg,evSliceA,evCopy0,AV.asArr,bound,U,zh,w2d,List.flatMap_nil,hf,hmod,w56,w4b,Nat.zero_mul,G2,Yx,show min 2 3=2 from rfl,Nat.succ_ne_zero]
 rw[yg rfl rfl,z5]
 simp
theorem z3O (a b a2 b2 a3 b3:Int) (c d c2 d2 c3 d3:Bool) (stk:List (List Blk)) (st st2 nx fl:Nat) (live:List (List Nat)) (hf:fl≤stk.length):
  CALL tab 369 [.list 4 .full [.agg (U a b c d),.agg (U a2 b2 c2 d2),.agg (U a3 b3 c3 d3)],.ptr stk.length 0 st 0,.ptr stk.length 1 st2 0] ⟨stk,[⟨st,U 0 0 false false++U 0 0 false false++U 0 0 false false⟩,⟨st2,[.int .i64 0]⟩],nx,live,fl⟩=
   some (.tup [],⟨stk,[⟨st,U a b c d++U a2 b2 c2 d2++U a3 b3 c3 d3⟩,⟨st2,[.int .i64 3]⟩],callNx tab 369 [.list 4 .full [.agg (U a b c d),.agg (U a2 b2 c2 d2),.agg (U a3 b3 c3 d3)],.ptr stk.length 0 st 0,.ptr stk.length 1 st2 0] ⟨stk,[⟨st,U 0 0 false false++U 0 0 false false++U 0 0 false false⟩,⟨st2,[.int .i64 0]⟩],nx,live,fl⟩,live,fl⟩):=by
 suffices h: ∃k,CALL tab 369 [.list 4 .full [.agg (U a b c d),.agg (U a2 b2 c2 d2),.agg (U a3 b3 c3 d3)],.ptr stk.length 0 st 0,.ptr stk.length 1 st2 0] ⟨stk,[⟨st,U 0 0 false false++U 0 0 false false++U 0 0 false false⟩,⟨st2,[.int .i64 0]⟩],nx,live,fl⟩=some (.tup [],⟨stk,[⟨st,U a b c d++U a2 b2 c2 d2++U a3 b3 c3 d3⟩,⟨st2,[.int .i64 3]⟩],k,live,fl⟩) by
  obtain⟨k,h⟩:=h
  rw[h];unfold callNx;rw[h]
 suffices h:Does tab 369 [.list 4 .full [.agg (U a b c d),.agg (U a2 b2 c2 d2),.agg (U a3 b3 c3 d3)],.ptr stk.length 0 st 0,.ptr stk.length 1 st2 0] ⟨stk,[⟨st,U 0 0 false false++U 0 0 false false++U 0 0 false false⟩,⟨st2,[.int .i64 0]⟩],nx,live,fl⟩ fun v m'=> ∃k,v= .tup []∧m'=⟨stk,[⟨st,U a b c d++U a2 b2 c2 d2++U a3 b3 c3 d3⟩,⟨st2,[.int .i64 3]⟩],k,live,fl⟩ by
  obtain⟨x,h1,k,h2,h3⟩:=h
  grind
 refine yD (tT xV) ?_ (Nat.le_of_ble_eq_true rfl)
 have hne: ∀z:List Blk,(stk.length==(stk++[z]).length)=false:=fun z=>by simp
 have hg: ∀z:List Blk,(stk++[z]).getD stk.length []=z:=fun z=>by simp
 have hmod: ∀z f,(stk++[z]).modify stk.length f=stk++[f z]:=fun z f=>by
  rw[w33 (by simp)];simp
 simp only[xV,go_sem,reduceCtorEq,G3,G4,G6,G8,hne,hg,evSliceA,evCopy0,AV.asArr,bound,U,zh,w2d,List.flatMap_nil,hf,hmod,w56,w4b,Nat.zero_mul,G2,Yx,show min 3 3=3 from rfl,Nat.succ_ne_zero]
 rw[yg rfl rfl,z5]
 simp
def lo (c:UInt8):Int:=if c=110 then-9223372036854775808 else if c=103∨c=101 then-1 else 0
def hi (c:UInt8):Int:=if c=110 then 9223372036854775807 else if c=45 then 0 else if c=116∨c=99 then 31 else if c=98 then 1 else if c=102 then 7 else if c=105 then 199 else 15
def rd (c:UInt8):Bool:=c==114||c==101
def wt (c:UInt8):Bool:=c==119||c==103
def useOf (c:UInt8):List AV:=U (lo c) (hi c) (rd c) (wt c)
def cnt (s:List UInt8):Int:=((s.filter fun c=>c !=45).length:Nat)
noncomputable def shapeOf (op:Int):AV:=
 if shp op=[] then .tup [.agg (U 0 0 false false++U 0 0 false false++U 0 0 false false),.int .i64 (-1)] else .tup [.agg ((shp op).flatMap useOf),.int .i64 (cnt (shp op))]
theorem Yj (op:Int) (m:Mem) (hf:m.floor≤m.stk.length+1):Okv tab 329 [.int .u8 op] m (shapeOf op):=by
 refine zp (tT YY) ?_
 obtain⟨stk,cur,nx,live,fl⟩:=m
 dsimp only at hf
 have hf':fl≤(stk++[cur]).length:=by simp;omega
 have i0:idx (.int .i64 0) 3=some 0:=rfl
 have i1:idx (.int .i64 1) 3=some 1:=rfl
 have i2:idx (.int .i64 2) 3=some 2:=rfl
 simp only[YY,go_sem,reduceCtorEq,G6,G8]
 repeat' first|(((first|refine uD ?_ ?_|refine xu ?_ ?_|refine xx ?_ ?_|refine xq ?_ ?_|refine xr ?_ ?_)<;>intro hq)<;>simp only[go_sem,reduceCtorEq,G3,G6,G9,G8,hq,bne_self_eq_false,H8,Yx,w56,w4b])|((first|(refine(zaZ _).xv fun n=> ?_)|(refine(z9n _).xv fun n=> ?_)|(refine(z9o _).xv fun n=> ?_)|(refine(UU 32 (by decide) _).xv fun n=> ?_)|(refine(UU 2 (by decide) _).xv fun n=> ?_)|(refine(UU 8 (by decide) _).xv fun n=> ?_)|(refine(UU 200 (by decide) _).xv fun n=> ?_)|(refine z23 (z3Q _ _ _ _ _ _ _ _ _ _ hf') ?_)|(refine z23 (z3P _ _ _ _ _ _ _ _ _ _ _ _ _ _ hf') ?_)|(refine z23 (z3O _ _ _ _ _ _ _ _ _ _ _ _ _ _ _ _ _ _ hf') ?_))<;>simp only[go_sem,reduceCtorEq,G3,G6,G9,G8,U,bne_self_eq_false,H8,evIaddrA,i0,i1,i2,G2,Yx,w56,w4b])
 all_goals
  simp only[beq_iff_eq,beq_eq_false_iff_ne] at*
  rw[z4 rfl rfl,z5]
  refine⟨⟨_,rfl⟩,?_⟩
  first|(subst op;rfl)|(have hs:shp op=[]:=(by unfold shp;simp[*]);unfold shapeOf;rw[if_pos hs];first|done|rfl)
def shapes:List (List UInt8):=[[119,110,45],[119,116,45],[119,98,45],[119,45,45],[119,114,45],[119,114,114],[119,114,102],[114,102,114],[114,114,45],[114,114,114],[105,45,45],[114,105,45],[114,45,45],[103,99,45],[99,45,45],[119,119,45],[45,45,45],[101,45,45],[]]
theorem z5k (op:Int):shp op∈shapes:=by
 by_cases h:0≤op∧op≤34
 ·have hall: ∀k:Fin 35,shp (k.val:Int)∈shapes:=by decide+kernel
  have:=hall ⟨op.toNat,by omega⟩
  grind
 ·have:shp op=[]:=by
   unfold shp
   repeat rw[if_neg (by omega)]
  rw[this];decide
theorem z5l (op:Int):shp op=[]∨ ∃a b c,shp op=[a,b,c]:=by
 have h: ∀s∈shapes,s=[]∨s.length=3:=by decide
 rcases h _ (z5k op) with h|h
 ·exact .inl h
 ·right
  match hs:shp op,h with
  | [a,b,c],_=>exact⟨a,b,c,rfl⟩
def letterOk (c:UInt8):Prop:=c=45∨c=119∨c=114∨c=103∨c=101∨c=110∨c=116∨c=98∨c=102∨c=105∨c=99
instance (c:UInt8):Decidable (letterOk c):=by unfold letterOk;exact inferInstance
def lettersB (s:List UInt8):Bool:=match s with
 | [a,b,c]=>decide (letterOk a∧letterOk b∧letterOk c∧(cnt [a,b,c]≤0↔a=45)∧(cnt [a,b,c]≤1↔b=45)∧(cnt [a,b,c]≤2↔c=45))
 |_=>true
theorem Ue {op:Int} {a b c:UInt8} (h:shp op=[a,b,c]):letterOk a∧letterOk b∧letterOk c∧(cnt [a,b,c]≤0↔a=45)∧(cnt [a,b,c]≤1↔b=45)∧(cnt [a,b,c]≤2↔c=45):=by
 have hall: ∀s∈shapes,lettersB s=true:=by decide
 have:=hall _ (z5k op)
 rw[h] at this
 exact of_decide_eq_true this
def opn (x:DInstr):Nat→Int
 |0=>x.a
 |1=>x.b
 |_=>x.c
def fitsK (c:UInt8) (n:Int):Prop:=lo c≤n∧n≤hi c
def InstrP (x:DInstr):Prop:= ∃a b c,shp x.op=[a,b,c]∧fitsK a x.a∧fitsK b x.b∧fitsK c x.c
noncomputable def err06 (x:DInstr):Int:=if pb (InstrP x) then 0 else 8
theorem xM {x:DInstr} (h: ¬InstrP x):err06 x=8:=by unfold err06;rw[zS h];rfl
theorem jF {x:DInstr} (h:InstrP x):err06 x=0:=by unfold err06;rw[yB h];rfl
theorem Vx (c:UInt8) (hc:letterOk c) (n:Int) (hn:in64 n) (m:Mem):Okv tab 325 [.int .u8 c.toNat,.int .i64 n] m (.bool (pb (fitsK c n))):=by
 refine zp (tT t4) ?_
 obtain⟨stk,cur,nx,live,fl⟩:=m
 have hk: ∀k:UInt8,(((c.toNat:Int))=(k.toNat:Int))↔c=k:=fun k=>by
  rw[Int.ofNat_inj,UInt8.toNat_inj]
 have e45:=hk 45
 have e119:=hk 119
 have e114:=hk 114
 have e103:=hk 103
 have e101:=hk 101
 have e116:=hk 116
 have e99:=hk 99
 have e98:=hk 98
 have e102:=hk 102
 have e105:=hk 105
 simp only[t4,go_sem,G3,G6,G8]
 repeat' (((first|refine uD ?_ ?_|refine xu ?_ ?_|refine xx ?_ ?_|refine xq ?_ ?_|refine xr ?_ ?_)<;>intro hq)<;>simp only[go_sem,G6,G8,hq])
 all_goals
  rw[z4 rfl rfl,z5]
  refine⟨⟨_,rfl⟩,congrArg AV.bool (Za ?_)⟩
  unfold in64 at hn
  simp only[decide_eq_true_eq,decide_eq_false_iff_not,beq_iff_eq,beq_eq_false_iff_ne,ne_eq] at*
  unfold letterOk at hc
  rcases hc with rfl|rfl|rfl|rfl|rfl|rfl|rfl|rfl|rfl|rfl|rfl<;>first|(exfalso;simp_all;done)|(unfold fitsK;simp only[lo,hi];simp;omega)
theorem tY (x:DInstr) (m:Mem):Okv tab 280 [.agg [.int .u8 x.op,.int .i64 x.a,.int .i64 x.b,.int .i64 x.c]] m (.agg [.int .i64 x.a,.int .i64 x.b,.int .i64 x.c]):=by
 refine zp (tT xS) ?_
 obtain⟨stk,cur,nx,live,fl⟩:=m
 simp only[xS,go_sem,G3,G6,G9,G8,evBuild]
 rw[z4 rfl rfl,z5]
 simp
theorem ju (x:DInstr) (m:Mem):Okv tab 330 [.agg [.int .u8 x.op,.int .i64 x.a,.int .i64 x.b,.int .i64 x.c]] m (.agg [.int .i64 x.a,.int .i64 x.b,.int .i64 x.c]):=by
 refine zp (tT jK) ?_
 obtain⟨stk,cur,nx,live,fl⟩:=m
 simp only[jK,go_sem,G3,G6,G9,G8,evBuild]
 rw[z4 rfl rfl,z5]
 simp
theorem i0:idx (.int .i64 0) 3=some 0:=rfl
theorem i1:idx (.int .i64 1) 3=some 1:=rfl
theorem i2:idx (.int .i64 2) 3=some 2:=rfl
theorem w01:IntKind.i64.wrap (0+1)=1:=rfl
theorem w12:IntKind.i64.wrap (1+1)=2:=rfl
theorem w23:IntKind.i64.wrap (2+1)=3:=rfl
theorem l03:((0:Int)<3)=True:=eq_true (by decide)
theorem l13:((1:Int)<3)=True:=eq_true (by decide)
theorem l23:((2:Int)<3)=True:=eq_true (by decide)
theorem l33:((3:Int)<3)=False:=eq_false (by decide)
theorem xL {x:DInstr} {a b c:UInt8} (h:shp x.op=[a,b,c]):InstrP x↔fitsK a x.a∧fitsK b x.b∧fitsK c x.c:=by
 unfold InstrP
 grind
def WfI (x:DInstr):Prop:=in64 x.a∧in64 x.b∧in64 x.c
theorem XE (x:DInstr) (hw:WfI x) (m:Mem):Okv tab 278 [.agg [.int .u8 x.op,.int .i64 x.a,.int .i64 x.b,.int .i64 x.c]] m (.int .i64 (err06 x)):=by
 refine zp (tT ul) ?_
 obtain⟨stk,cur,nx,live,fl⟩:=m
 simp only[ul,go_sem,G3,G6,G8]
 rcases z5l x.op with hs|⟨a,b,c,hs⟩
 ·simp only[go_sem,G3,G6,G8,(UV x.op _).eq,(tY x _).eq,hs,show((((0:Nat)):Int) !=3)=true from rfl]
  rw[z4 rfl rfl,z5]
  exact⟨⟨_,rfl⟩,by rw[xM];rintro⟨a,b,c,h,_⟩;rw[hs] at h;cases h⟩
 ·obtain⟨ha,hb,hc,_⟩:=Ue hs
  simp only[go_sem,G3,G6,G8,(UV x.op _).eq,(tY x _).eq,hs,show((((3:Nat)):Int) !=3)=false from rfl]
  rw[yW]
  simp only[go_sem,G3,G6,G7,G8,l03,i0,evIaddrA,Nat.zero_mul]
  by_cases hf1:fitsK a x.a
  case neg=>
   simp only[go_sem,G6,G8,(Vx a ha x.a hw.1 _).eq,zS hf1]
   rw[z4 rfl rfl,z5]
   exact⟨⟨_,rfl⟩,by rw[xM fun h'=>hf1 ((xL hs).1 h').1]⟩
  simp only[go_sem,G6,G8,(Vx a ha x.a hw.1 _).eq,yB hf1,w01]
  rw[yW]
  simp only[go_sem,G3,G6,G7,G8,l13,i1,evIaddrA,w11]
  by_cases hf2:fitsK b x.b
  case neg=>
   simp only[go_sem,G6,G8,(Vx b hb x.b hw.2.1 _).eq,zS hf2]
   rw[z4 rfl rfl,z5]
   exact⟨⟨_,rfl⟩,by rw[xM fun h'=>hf2 ((xL hs).1 h').2.1]⟩
  simp only[go_sem,G6,G8,(Vx b hb x.b hw.2.1 _).eq,yB hf2,w12]
  rw[yW]
  simp only[go_sem,G3,G6,G7,G8,l23,i2,evIaddrA,w11]
  by_cases hf3:fitsK c x.c
  case neg=>
   simp only[go_sem,G6,G8,(Vx c hc x.c hw.2.2 _).eq,zS hf3]
   rw[z4 rfl rfl,z5]
   exact⟨⟨_,rfl⟩,by rw[xM fun h'=>hf3 ((xL hs).1 h').2.2]⟩
  simp only[go_sem,G6,G8,(Vx c hc x.c hw.2.2 _).eq,yB hf3,w23]
  rw[yW]
  simp only[go_sem,G6,G7,G8,l33]
  rw[z4 rfl rfl,z5]
  exact⟨⟨_,rfl⟩,by rw[jF ((xL hs).2 ⟨hf1,hf2,hf3⟩)]⟩
theorem TH {op:Int} {a b c:UInt8} (h:shp op=[a,b,c]):shapeOf op= .tup [.agg [.int .i64 (lo a),.int .i64 (hi a),.bool (rd a),.bool (wt a),.int .i64 (lo b),.int .i64 (hi b),.bool (rd b),.bool (wt b),.int .i64 (lo c),.int .i64 (hi c),.bool (rd c),.bool (wt c)],.int .i64 (cnt [a,b,c])]:=by
 unfold shapeOf;rw[h];rfl
theorem z6h {op:Int} (h:shp op=[]):shapeOf op= .tup [.agg [.int .i64 0,.int .i64 0,.bool false,.bool false,.int .i64 0,.int .i64 0,.bool false,.bool false,.int .i64 0,.int .i64 0,.bool false,.bool false],.int .i64 (-1)]:=by
 unfold shapeOf;rw[if_pos h];rfl
theorem z4Q (s:List UInt8): ¬cnt s<0:=by unfold cnt;omega
theorem jX (x:DInstr) (m:Mem) (hf:m.floor≤m.stk.length+1):Okv tab 327 [.agg [.int .u8 x.op,.int .i64 x.a,.int .i64 x.b,.int .i64 x.c]] m (.int .i64 (err06 x)):=by
 refine zp (tT X1) ?_
 obtain⟨stk,cur,nx,live,fl⟩:=m
 dsimp only at hf
 have hS:=fun c nz lv=>(Yj x.op ⟨stk++[cur],c,nz,lv,fl⟩ (by simp;omega)).eq
 simp only[X1,go_sem,G3,G6,G8,hS]
 rcases z5l x.op with hs|⟨a,b,c,hs⟩
 ·simp only[go_sem,G3,G6,G8,z6h hs,show((-1:Int)<0)=True from eq_true (by decide)]
  rw[z4 rfl rfl,z5]
  exact⟨⟨_,rfl⟩,by rw[xM];rintro⟨a,b,c,h,_⟩;rw[hs] at h;cases h⟩
 ·simp only[go_sem,G3,G6,G8,TH hs,z4Q,(ju x _).eq]
  rw[yW]
  simp only[go_sem,G6,G7,G8,l03,i0,evIaddrA,Nat.zero_mul]
  by_cases hl1:x.a<lo a
  ·simp only[go_sem,G6,G8,hl1]
   rw[z4 rfl rfl,z5]
   exact⟨⟨_,rfl⟩,by rw[xM fun h'=>by have:=((xL hs).1 h').1;unfold fitsK at this;omega]⟩
  by_cases hh1:x.a>hi a
  ·simp only[go_sem,G6,G8,hl1,i0,evIaddrA,Nat.zero_mul,hh1]
   rw[z4 rfl rfl,z5]
   exact⟨⟨_,rfl⟩,by rw[xM fun h'=>by have:=((xL hs).1 h').1;unfold fitsK at this;omega]⟩
  simp only[go_sem,G6,G8,hl1,i0,evIaddrA,Nat.zero_mul,hh1,w01]
  rw[yW]
  simp only[go_sem,G6,G7,G8,l13,i1,evIaddrA,G2,w11]
  by_cases hl2:x.b<lo b
  ·simp only[go_sem,G6,G8,hl2]
   rw[z4 rfl rfl,z5]
   exact⟨⟨_,rfl⟩,by rw[xM fun h'=>by have:=((xL hs).1 h').2.1;unfold fitsK at this;omega]⟩
  by_cases hh2:x.b>hi b
  ·simp only[go_sem,G3,G6,G8,hl2,i1,evIaddrA,G2,hh2]
   rw[z4 rfl rfl,z5]
   exact⟨⟨_,rfl⟩,by rw[xM fun h'=>by have:=((xL hs).1 h').2.1;unfold fitsK at this;omega]⟩
  simp only[go_sem,G3,G6,G8,hl2,i1,evIaddrA,G2,hh2,w12]
  rw[yW]
  simp only[go_sem,G6,G7,G8,l23,i2,evIaddrA,G2,w11]
  by_cases hl3:x.c<lo c
  ·simp only[go_sem,G6,G8,hl3]
   rw[z4 rfl rfl,z5]
   exact⟨⟨_,rfl⟩,by rw[xM fun h'=>by have:=((xL hs).1 h').2.2;unfold fitsK at this;omega]⟩
  by_cases hh3:x.c>hi c
  ·simp only[go_sem,G3,G6,G8,hl3,i2,evIaddrA,G2,hh3]
   rw[z4 rfl rfl,z5]
   exact⟨⟨_,rfl⟩,by rw[xM fun h'=>by have:=((xL hs).1 h').2.2;unfold fitsK at this;omega]⟩
  simp only[go_sem,G3,G6,G8,hl3,i2,evIaddrA,G2,hh3,w23]
  rw[yW]
  simp only[go_sem,G6,G7,G8,l33]
  rw[z4 rfl rfl,z5]
  exact⟨⟨_,rfl⟩,by rw[jF ((xL hs).2 ⟨⟨by omega,by omega⟩,⟨by omega,by omega⟩,⟨by omega,by omega⟩⟩)]⟩
def codeOf (c:UInt8) (n:Int):List UInt8:=if c=45 then [] else if c=110∨c=103∨c=101 then minimal (zigzag n) else minimal n.toNat
def sk (x:DInstr) (k:Nat):UInt8:=(shp x.op).getD k 45
def cod6k (x:DInstr):Nat→List UInt8
 |0=>[UInt8.ofNat x.op.toNat]
 |k+1=>cod6k x k++codeOf (sk x k) (opn x k)
def cod6 (x:DInstr):List UInt8:=cod6k x 3
theorem z4p {c:UInt8} (h:letterOk c):lo c<0↔(c=110∨c=103∨c=101):=by
 unfold letterOk at h
 rcases h with rfl|rfl|rfl|rfl|rfl|rfl|rfl|rfl|rfl|rfl|rfl<;>decide
theorem Tt (c:UInt8) (m:Mem):Okv tab 281 [.int .u8 c.toNat] m (.bool (decide (c=110∨c=103∨c=101))):=by
 refine zp (tT vC) ?_
 obtain⟨stk,cur,nx,live,fl⟩:=m
 have hk: ∀k:UInt8,(((c.toNat:Int))=(k.toNat:Int))↔c=k:=fun k=>by
  rw[Int.ofNat_inj,UInt8.toNat_inj]
 have e110:=hk 110
 have e103:=hk 103
 have e101:=hk 101
 simp only[vC,go_sem,G6,G8]
 repeat' (((first|refine uD ?_ ?_|refine xu ?_ ?_|refine xx ?_ ?_|refine xq ?_ ?_|refine xr ?_ ?_)<;>intro hq)<;>simp only[go_sem,G6,G8,hq])
 all_goals
  rw[z4 rfl rfl,z5]
  refine⟨⟨_,rfl⟩,congrArg AV.bool ?_⟩
  simp only[beq_iff_eq,beq_eq_false_iff_ne,ne_eq] at*
  rw[Bool.eq_iff_iff]
  simp_all
theorem TZ {a:Int} (h:0≤a∧a<256):IsByte (UInt8.ofNat a.toNat) (.int .u8 a):=by
 have:=Xj (a:=a.toNat) (by omega)
 grind
theorem Wl {c:UInt8} {n:Int} (hc:letterOk c) (hf:fitsK c n) (hn:in64 n):(codeOf c n).length≤10:=by
 unfold codeOf
 split
 ·simp
 ·split
  ·exact zf (vP hn)
  ·exact zf (by unfold in64 at hn;omega)
theorem z39 {c:UInt8} {n:Int} (hc:letterOk c) (hf:fitsK c n) (hs: ¬(c=110∨c=103∨c=101)):0≤n:=by
 have h1: ¬lo c<0:=fun h=>hs ((z4p hc).1 h)
 unfold fitsK at hf;omega
theorem three {k:Nat} (h:k<3):k=0∨k=1∨k=2:=by omega
theorem jC {x:DInstr} {a b c:UInt8} (hs:shp x.op=[a,b,c]) (h:InstrP x) (hw:WfI x) {k:Nat} (hk:k<3):letterOk (sk x k)∧fitsK (sk x k) (opn x k)∧in64 (opn x k)∧(cnt [a,b,c]≤k↔sk x k=45)∧[a,b,c][k]? =some (sk x k):=by
 obtain⟨f1,f2,f3⟩:=(xL hs).1 h
 obtain⟨l1,l2,l3,c1,c2,c3⟩:=Ue hs
 obtain⟨w1,w2,w3⟩:=hw
 unfold sk
 rw[hs]
 rcases three hk with rfl|rfl|rfl
 ·trivial
 ·trivial
 ·trivial
theorem Xx {x:DInstr} {a b c:UInt8} (hs:shp x.op=[a,b,c]) (h:InstrP x) (hw:WfI x): ∀k,k≤3→(cod6k x k).length≤1+10*k
 |0,_=>by simp[cod6k]
 |k+1,hk=>by
  have ih:=Xx hs h hw k (by omega)
  obtain⟨h1,h2,h3,_⟩:=jC hs h hw (show k<3 by omega)
  have:=Wl h1 h2 h3
  simp only[cod6k,w15];omega
theorem cell3 (x:DInstr) {k:Nat} (h:k<3):takeV false 1 (([AV.int .i64 x.a,.int .i64 x.b,.int .i64 x.c]).drop k)=some (.int .i64 (opn x k)):=by
 rcases three h with rfl|rfl|rfl<;>rfl
theorem cell12 {x:DInstr} {a b c:UInt8} (hs:shp x.op=[a,b,c]) {k:Nat} (h:k<3):takeV false 1 (([.int .i64 (lo a),.int .i64 (hi a),.bool (rd a),.bool (wt a),.int .i64 (lo b),.int .i64 (hi b),.bool (rd b),.bool (wt b),.int .i64 (lo c),.int .i64 (hi c),.bool (rd c),.bool (wt c)]:List AV).drop (k*4))=some (.int .i64 (lo (sk x k))):=by
 unfold sk;rw[hs]
 rcases three h with rfl|rfl|rfl<;>rfl
theorem QS (x:DInstr) (hop:inU8 x.op) (hw:WfI x) (hx:InstrP x) (m:Mem):Okl IsByte 1 tab 221 [.agg [.int .u8 x.op,.int .i64 x.a,.int .i64 x.b,.int .i64 x.c]] m (cod6 x):=by
 refine qQ (tT uk) ?_
 obtain⟨stk,cur,nx,live,fl⟩:=m
 have hx':=hx
 obtain⟨a,b,c,hs,_⟩:=hx'
 simp only[uk,go_sem,G3,G6,G8,(UV x.op _).eq,(tY x _).eq,hs]
 refine zg (α:=Nat) (fun k σ=>k≤3∧ ∃nz y e,Own IsByte 1 y (cod6k x k) e∧heads [3,4,5,6] 2 σ=⟨tmps 42 [(3,y),(4,.str [a,b,c]),(5,.ptr (stk++[cur]).length 1 (nx+1) 0),(6,.int .i64 k)],⟨stk++[cur],[⟨nx,[.int .u8 x.op,.int .i64 x.a,.int .i64 x.b,.int .i64 x.c]⟩,⟨nx+1,[.int .i64 x.a,.int .i64 x.b,.int .i64 x.c]⟩],nz,e::live,fl⟩⟩) (fun k=>3-k) 0 ?_ ?_
 ·refine⟨w0e _,?_⟩
  simp only[go_sem,G6,G7]
  exact⟨_,_,[],.full (yc (TZ hop)) _,rfl⟩
 ·rintro k σ ⟨hk,nz,y,e,ho,hσ⟩
  rw[hσ]
  clear hσ σ
  dsimp only at hk⊢
  by_cases h:k<3
  ·skip
   obtain⟨hlt,hfit,hin,hcnt,hget⟩:=jC hs hx hw h
   have hix:idx (.int .i64 (k:Int)) 3=some k:=zX .i64 k 3 h
   have hc3:=cell3 x h
   have hlen:=Xx hs hx hw k (by omega)
   have hcl:=Wl hlt hfit hin
   have hlt3:((k:Int)<3)=True:=eq_true (by omega)
   have hsucc:IntKind.i64.wrap ((k:Int)+1)=((k+1:Nat):Int):=by rw[z6 (by omega) (by omega)];omega
   simp only[go_sem,G3,G6,G7,G8,hlt3,hix,hget]
   by_cases h45:sk x k=45
   ·have h45':(((sk x k).toNat:Int)==45)=true:=by rw[h45];rfl
    simp only[go_sem,G6,G8,h45',hsucc]
    refine⟨k+1,by omega,h,nz,y,e,?_,rfl⟩
    rw[cod6k,codeOf,if_pos h45,w21];exact ho
   ·have h45':(((sk x k).toNat:Int)==45)=false:=by
     rw[beq_eq_false_iff_ne];intro e;apply h45;apply UInt8.toNat_inj.1;show(sk x k).toNat=45;omega
    by_cases hsg:sk x k=110∨sk x k=103∨sk x k=101
    ·have hcode:codeOf (sk x k) (opn x k)=minimal (zigzag (opn x k)):=by unfold codeOf;rw[if_neg h45,if_pos hsg]
     simp only[go_sem,G3,G6,G8,h45',hix,hget,(Tt _ _).eq,hsg,evIaddrA,w11,hc3,(tW _ hin _).eq]
     refine(ya _ (vP hin) _).xv fun y1 t1 k1 ho1=> ?_
     simp only[go_sem,G6,G8]
     obtain⟨z1,hz1,hc1⟩:=ho1.elems
     rw[←hcode] at hc1
     refine(ho.push t1).xv hz1 hc1 (by omega) fun y2 k2 e2 ho2=> ?_
     simp only[go_sem,G6,G8,hsucc]
     exact⟨k+1,by omega,h,k2,y2,e2,ho2,rfl⟩
    ·have hpos:=z39 hlt hfit hsg
     have hcode:codeOf (sk x k) (opn x k)=minimal (opn x k).toNat:=by unfold codeOf;rw[if_neg h45,if_neg hsg]
     have ew:IntKind.u64.wrap (opn x k)=(((opn x k).toNat:Nat):Int):=by unfold in64 at hin;rw[za (by omega) (by omega)];omega
     simp only[go_sem,G3,G6,G8,h45',hix,hget,(Tt _ _).eq,hsg,evIaddrA,w11,hc3,ew]
     refine(ya _ (by unfold in64 at hin;omega) _).xv fun y1 t1 k1 ho1=> ?_
     simp only[go_sem,G6,G8]
     obtain⟨z1,hz1,hc1⟩:=ho1.elems
     rw[←hcode] at hc1
     refine(ho.push t1).xv hz1 hc1 (by omega) fun y2 k2 e2 ho2=> ?_
     simp only[go_sem,G6,G8,hsucc]
     exact⟨k+1,by omega,h,k2,y2,e2,ho2,rfl⟩
  ·have:k=3:=by omega
   subst this
   simp only[go_sem,G4,G6,G7,G8,show(((3:Nat):Int)<3)=False from eq_false (by decide)]
   exact tf ho
theorem z1i (x:DInstr) (hop:inU8 x.op) (hw:WfI x) (hx:InstrP x) (m:Mem) (hf:m.floor≤m.stk.length+1):Okp IsByte 1 tab 286 [.agg [.int .u8 x.op,.int .i64 x.a,.int .i64 x.b,.int .i64 x.c]] m (cod6 x) 0:=by
 refine TP (tT ZP) ?_
 obtain⟨stk,cur,nx,live,fl⟩:=m
 dsimp only at hf
 have hf':fl≤(stk++[cur]).length+1:=by simp;omega
 have hx':=hx
 obtain⟨a,b,c,hs,_⟩:=hx'
 have hS:=fun c nz lv=>(Yj x.op ⟨stk++[cur],c,nz,lv,fl⟩ hf').eq
 have hC:=fun c nz lv=>(jX x ⟨stk++[cur],c,nz,lv,fl⟩ hf').eq
 rw[jF hx] at hC
 simp only[ZP,go_sem,G3,G6,G8,hC,show((0:Int) !=0)=false from rfl,hS,TH hs,(ju x _).eq]
 refine zg (α:=Nat) (fun k σ=>k≤3∧ ∃nz st y e,Own IsByte 1 y (cod6k x k) e∧heads [5,6,7,25,26] 2 σ=⟨tmps 51 [(5,.ptr (stk++[cur]).length 1 st 0),(6,.int .i64 (cnt [a,b,c])),(7,y),(25,.agg [.int .i64 x.a,.int .i64 x.b,.int .i64 x.c]),(26,.int .i64 k)],⟨stk++[cur],[⟨nx,[.int .u8 x.op,.int .i64 x.a,.int .i64 x.b,.int .i64 x.c]⟩,⟨st,[.int .i64 (lo a),.int .i64 (hi a),.bool (rd a),.bool (wt a),.int .i64 (lo b),.int .i64 (hi b),.bool (rd b),.bool (wt b),.int .i64 (lo c),.int .i64 (hi c),.bool (rd c),.bool (wt c)]⟩],nz,e::live,fl⟩⟩) (fun k=>3-k) 0 ?_ ?_
 ·refine⟨w0e _,?_⟩
  simp only[go_sem,G6,G7]
  exact⟨_,_,_,[],.full (yc (TZ hop)) _,rfl⟩
 ·rintro k σ ⟨hk,nz,st,y,e,ho,hσ⟩
  rw[hσ]
  clear hσ σ
  dsimp only at hk⊢
  by_cases h:k<3
  ·skip
   obtain⟨hlt,hfit,hin,hcnt,hget⟩:=jC hs hx hw h
   have hix:idx (.int .i64 (k:Int)) 3=some k:=zX .i64 k 3 h
   have hc3:=cell3 x h
   have hlen:=Xx hs hx hw k (by omega)
   have hcl:=Wl hlt hfit hin
   have hlt3:((k:Int)<3)=True:=eq_true (by omega)
   have hsucc:IntKind.i64.wrap ((k:Int)+1)=((k+1:Nat):Int):=by rw[z6 (by omega) (by omega)];omega
   have hc12:=cell12 hs h
   by_cases h45:sk x k=45
   ·have hge:(k:Int)≥cnt [a,b,c]:=hcnt.2 h45
    simp only[go_sem,G6,G7,G8,hlt3,hix,w11,hc3,hge,hsucc]
    refine⟨k+1,by omega,h,nz,st,y,e,?_,rfl⟩
    rw[cod6k,codeOf,if_pos h45,w21];exact ho
   ·have hge: ¬((k:Int)≥cnt [a,b,c]):=fun e=>h45 (hcnt.1 e)
    by_cases hsg:sk x k=110∨sk x k=103∨sk x k=101
    ·have hcode:codeOf (sk x k) (opn x k)=minimal (zigzag (opn x k)):=by unfold codeOf;rw[if_neg h45,if_pos hsg]
     have hneg:=(z4p hlt).2 hsg
     simp only[go_sem,G6,G7,G8,hlt3,hix,w11,hc3,hge,evIaddrA,hc12,hneg]
     refine(kl _ hin _ _ _ _ _ hf').xv fun y1 t1 k1 ho1=> ?_
     simp only[go_sem,G6,G8]
     obtain⟨z1,hz1,hc1⟩:=ho1.elems
     rw[←hcode] at hc1
     refine(ho.push t1).xv hz1 hc1 (by omega) fun y2 k2 e2 ho2=> ?_
     simp only[go_sem,G6,G8,hsucc]
     exact⟨k+1,by omega,h,k2,st,y2,e2,ho2,rfl⟩
    ·have hpos:=z39 hlt hfit hsg
     have hneg: ¬lo (sk x k)<0:=fun e=>hsg ((z4p hlt).1 e)
     have hcode:codeOf (sk x k) (opn x k)=minimal (opn x k).toNat:=by unfold codeOf;rw[if_neg h45,if_neg hsg]
     have ew:IntKind.u64.wrap (opn x k)=(((opn x k).toNat:Nat):Int):=by unfold in64 at hin;rw[za (by omega) (by omega)];omega
     simp only[go_sem,G6,G7,G8,hlt3,hix,w11,hc3,hge,evIaddrA,hc12,hneg,ew]
     refine(vl _ (by unfold in64 at hin;omega) _ _ _ _ _ hf').xv fun y1 t1 k1 ho1=> ?_
     simp only[go_sem,G6,G8]
     obtain⟨z1,hz1,hc1⟩:=ho1.elems
     rw[←hcode] at hc1
     refine(ho.push t1).xv hz1 hc1 (by omega) fun y2 k2 e2 ho2=> ?_
     simp only[go_sem,G6,G8,hsucc]
     exact⟨k+1,by omega,h,k2,st,y2,e2,ho2,rfl⟩
  ·have:k=3:=by omega
   subst this
   simp only[go_sem,G4,G6,G7,G8,show(((3:Nat):Int)<3)=False from eq_false (by decide)]
   exact jE ho
def r0:DRun:=⟨0,0⟩
def runAt (l:List DRun) (j:Nat):DRun:=l.getD j r0
theorem z0p {l:List DRun} {j:Nat} (h:j<l.length):l[j]=runAt l j:=by simp[runAt,w03,h]
def stepOk (l:List DRun) (n:Int) (j:Nat):Prop:=(runAt l j).frm<n∧(0<j→(runAt l (j-1)).frm<(runAt l j).frm∧(runAt l (j-1)).value≠(runAt l j).value)
def FineR (l:List DRun) (n:Int):Prop:=0<l.length∧(runAt l 0).frm=0∧ ∀j,j<l.length→stepOk l n j
theorem IsSl.run {l:List DRun} {x:AV} (hx:IsSl IsRun 2 l x) {j:Nat} (h:j<l.length):nth x j= .agg [.int .i64 (runAt l j).frm,.int .u64 (runAt l j).value]:=by
 have:=hx.nth h
 rw[z0p h] at this
 exact this
theorem at0 {α:Type} {R:α→AV→Prop} {s:Nat} {xs:List α} {y:AV} (h:IsSl R s xs y) (hi:0<xs.length):evIaddr s y (.int .i64 0)=some (.ro (nth y 0).cells):=h.at .i64 hi
theorem z25 {α:Type} {R:α→AV→Prop} {s:Nat} {xs:List α} {y:AV} (h:IsSl R s xs y) {i:Nat} (h0:0<i) (hi:i-1<xs.length):evIaddr s y (.int .i64 ((i:Int)-1))=some (.ro (nth y (i-1)).cells):=by
 have:=h.at .i64 hi
 grind
theorem Ww (l:List DRun) (x:AV) (hx:IsSl IsRun 2 l x) (n:Int) (m:Mem):Okv tab 156 [x,.int .i64 n] m (.bool (pb (FineR l n))):=by
 refine zp (tT uX) ?_
 obtain⟨stk,cur,nx,live,fl⟩:=m
 simp only[uX,go_sem,G3,G6,G8,hx.len]
 by_cases h0:0<l.length
 case neg=>
  have h0':(l.length:Int)<1:=by omega
  simp only[go_sem,G6,G8,h0']
  rw[z4 rfl rfl,z5]
  exact⟨⟨_,rfl⟩,by rw[zS fun h=>h0 h.1]⟩
 have h0': ¬(l.length:Int)<1:=by omega
 by_cases hz:(runAt l 0).frm=0
 case neg=>
  have hz':((runAt l 0).frm !=0)=true:=by simpa using hz
  simp only[go_sem,G6,G8,h0',at0 hx h0,IsSl.run hx h0,hz']
  rw[z4 rfl rfl,z5]
  exact⟨⟨_,rfl⟩,by rw[zS fun h=>hz h.2.1]⟩
 have hz':((runAt l 0).frm !=0)=false:=by simpa using hz
 simp only[go_sem,G6,G8,h0',at0 hx h0,IsSl.run hx h0,hz']
 refine zg (α:=Nat) (fun i σ=>(i≤l.length∧ ∀j,j<i→stepOk l n j)∧ ∃nz,heads [0,1,5] 0 σ=⟨tmps 61 [(0,x),(1,.int .i64 n),(5,.int .i64 i)],⟨stk++[cur],[],nz,[]::live,fl⟩⟩) (fun i=>l.length-i) 0 ?_ ?_
 ·refine⟨⟨w0e _,fun j h=>absurd h (w34 _)⟩,?_⟩
  simp only[go_sem,G6,G7]
  simp
 ·rintro i σ ⟨⟨hi,ht⟩,nz,hσ⟩
  rw[hσ]
  clear hσ σ
  dsimp only at hi ht⊢
  by_cases h:i<l.length
  ·have e1:=IsSl.run hx h
   have hat:=hx.at .i64 h
   have bad: ¬stepOk l n i→pb (FineR l n)=false:=fun hb=>zS fun h'=>hb (h'.2.2 i h)
   have hsucc:=zq h hx.max
   have hmx:=hx.max
   have next:stepOk l n i→ ∀j,j<i+1→stepOk l n j:=fun hs j hj=>by
    grind
   simp only[go_sem,G6,G7,G8,w02,h,hx.len,hat,e1]
   by_cases hn:(runAt l i).frm<n
   case neg=>
    have hn':(runAt l i).frm≥n:=by omega
    simp only[go_sem,G6,G8,hn']
    rw[z4 rfl rfl,z5]
    exact⟨⟨_,rfl⟩,by rw[bad fun h'=>hn h'.1]⟩
   have hn': ¬(runAt l i).frm≥n:=by omega
   by_cases hp:0<i
   case neg=>
    have hp': ¬((i:Int)>0):=by omega
    simp only[go_sem,G6,G8,hn',hp',hsucc]
    exact⟨i+1,by omega,⟨h,next ⟨hn,fun h'=>absurd h' hp⟩⟩,_,rfl⟩
   have hp':(i:Int)>0:=by omega
   have hsub:IntKind.i64.wrap ((i:Int)-1)=(i:Int)-1:=z6 (by omega) (by omega)
   have e2:=IsSl.run hx (show i-1<l.length by omega)
   have hat2:=z25 hx hp (show i-1<l.length by omega)
   by_cases hq:(runAt l (i-1)).frm≥(runAt l i).frm
   ·simp only[go_sem,G6,G8,hn',hp',hsub,hat,e1,hat2,e2,hq]
    rw[z4 rfl rfl,z5]
    exact⟨⟨_,rfl⟩,by rw[bad fun h'=>by have:=(h'.2 hp).1;omega]⟩
   ·by_cases hv:(runAt l (i-1)).value=(runAt l i).value
    ·have hv':((runAt l (i-1)).value==(runAt l i).value)=true:=by simpa using hv
     simp only[go_sem,G6,G8,hn',hp',hsub,hat,e1,hat2,e2,hq,hv']
     rw[z4 rfl rfl,z5]
     exact⟨⟨_,rfl⟩,by rw[bad fun h'=>(h'.2 hp).2 hv]⟩
    ·have hv':((runAt l (i-1)).value==(runAt l i).value)=false:=by simpa using hv
     simp only[go_sem,G6,G8,hn',hp',hsub,hat,e1,hat2,e2,hq,hv',hsucc]
     exact⟨i+1,by omega,⟨h,next ⟨hn,fun _=>⟨by omega,hv⟩⟩⟩,_,rfl⟩
  ·have:i=l.length:=by omega
   subst this
   simp only[go_sem,G6,G7,G8,w02,h,hx.len]
   rw[z4 rfl rfl,z5]
   exact⟨⟨_,rfl⟩,by rw[yB ⟨h0,hz,ht⟩]⟩
noncomputable def err08 (l:List DRun) (n:Int):Int:=if n<1∨n>200 then 2 else if pb (FineR l n) then 0 else 8
theorem z0h (n:Int) (m:Mem):Okv tab 207 [.int .i64 n] m (.int .i64 (if n<1∨n>200 then 2 else 0)):=by
 refine zp (tT ql) ?_
 obtain⟨stk,cur,nx,live,fl⟩:=m
 simp only[ql,go_sem,G6,G8]
 repeat' (((first|refine uD ?_ ?_|refine xu ?_ ?_|refine xx ?_ ?_|refine xq ?_ ?_|refine xr ?_ ?_)<;>intro hq)<;>simp only[go_sem,G6,G8,hq])
 all_goals
  rw[z4 rfl rfl,z5]
  refine⟨⟨_,rfl⟩,?_⟩
  simp only[decide_eq_true_eq,decide_eq_false_iff_not] at*
  simp[*]
theorem IsSl.from1 {α:Type} {R:α→AV→Prop} {s:Nat} {xs:List α} {y:AV} (h:IsSl R s xs y) (h0:0<xs.length): ∃y',evSlice s y (some (.int .i64 1)) none none=some y'∧IsSl R s (xs.drop 1) y':=by
 rcases h with⟨hm,⟨rfl,rfl⟩|⟨tk,ys,rfl,h⟩⟩
 ·simp at h0
 ·have hl:=h.len
  have hb:bound (some (.int .i64 1)) ys.length 0=some 1:=by
   unfold bound;simp only;rw[if_pos (by omega)];rfl
  have e:evSlice s (.list s tk ys) (some (.int .i64 1)) none none=some (.list s (if ys.length==ys.length&&(1==0||decide (1<ys.length)) then tk else .none) ((ys.take ys.length).drop 1)):=by
   unfold evSlice
   simp only[beq_self_eq_true,if_true]
   rw[show bound none ys.length ys.length=some ys.length from rfl,w36,hb]
   simp
  refine⟨_,e,?_⟩
  rw[w0a]
  exact .mk (h.drop 1) (by rw[w47];omega)
theorem z0K {l:List DRun} {n:Int} (h0:0<l.length) (hl:(runAt l (l.length-1)).frm<n) (hs: ∀j,0<j→j<l.length→(runAt l (j-1)).frm<(runAt l j).frm): ∀k,k<l.length→(runAt l (l.length-1-k)).frm<n
 |0,_=>by simpa using hl
 |k+1,hk=>by
  have ih:=z0K h0 hl hs k (by omega)
  grind
theorem QJ (l:List DRun) (x:AV) (hx:IsSl IsRun 2 l x) (n:Int) (m:Mem):Okv tab 208 [x,.int .i64 n] m (.bool (pb (FineR l n))):=by
 refine zp (tT kC) ?_
 obtain⟨stk,cur,nx,live,fl⟩:=m
 have hmx:=hx.max
 simp only[kC,go_sem,G3,G6,G8,hx.len]
 by_cases h0:0<l.length
 case neg=>
  have h0':((l.length:Int)==0)=true:=beq_iff_eq.2 (by omega)
  simp only[go_sem,G6,G8,h0']
  rw[z4 rfl rfl,z5]
  exact⟨⟨_,rfl⟩,by rw[zS fun h=>h0 h.1]⟩
 have h0':((l.length:Int)==0)=false:=beq_eq_false_iff_ne.2 (by omega)
 by_cases hz:(runAt l 0).frm=0
 case neg=>
  have hz':((runAt l 0).frm !=0)=true:=by simpa using hz
  simp only[go_sem,G6,G8,h0',at0 hx h0,IsSl.run hx h0,hz']
  rw[z4 rfl rfl,z5]
  exact⟨⟨_,rfl⟩,by rw[zS fun h=>hz h.2.1]⟩
 have hz':((runAt l 0).frm !=0)=false:=by simpa using hz
 have hsub:IntKind.i64.wrap ((l.length:Int)-1)=(l.length:Int)-1:=z6 (by omega) (by omega)
 have hlast:=z25 hx h0 (show l.length-1<l.length by omega)
 have elast:=IsSl.run hx (show l.length-1<l.length by omega)
 by_cases hn:(runAt l (l.length-1)).frm<n
 case neg=>
  have hn':(runAt l (l.length-1)).frm≥n:=by omega
  simp only[go_sem,G6,G8,h0',at0 hx h0,IsSl.run hx h0,hz',hx.len,hsub,hlast,elast,hn']
  rw[z4 rfl rfl,z5]
  exact⟨⟨_,rfl⟩,by rw[zS fun h=>hn (h.2.2 _ (by omega)).1]⟩
 have hn': ¬(runAt l (l.length-1)).frm≥n:=by omega
 obtain⟨y,hy,hys⟩:=IsSl.from1 hx h0
 have hyl:=hys.len
 rw[w47] at hyl
 simp only[go_sem,G3,G6,G8,h0',at0 hx h0,IsSl.run hx h0,hz',hx.len,hsub,hlast,elast,hn',hy,hyl]
 refine zg (α:=Nat) (fun i σ=>(i+1≤l.length∧ ∀j,0<j→j≤i→(runAt l (j-1)).frm<(runAt l j).frm∧(runAt l (j-1)).value≠(runAt l j).value)∧ ∃nz,heads [5,33,34,35] 1 σ=⟨tmps 55 [(5,.ptr (stk++[cur]).length 0 nx 0),(33,y),(34,.int .i64 (l.length-1:Nat)),(35,.int .i64 i)],⟨stk++[cur],[⟨nx,[.int .i64 (runAt l i).frm,.int .u64 (runAt l i).value]⟩],nz,[]::live,fl⟩⟩) (fun i=>l.length-i) 0 ?_ ?_
 ·refine⟨⟨h0,fun j h h'=>absurd h (by omega)⟩,?_⟩
  simp only[go_sem,G6,G7]
  simp
 ·rintro i σ ⟨⟨hi,ht⟩,nz,hσ⟩
  rw[hσ]
  clear hσ σ
  dsimp only at hi ht⊢
  by_cases h:i<l.length-1
  ·have hd:i<(l.drop 1).length:=by rw[w47];exact h
   have e1:nth y i= .agg [.int .i64 (runAt l (i+1)).frm,.int .u64 (runAt l (i+1)).value]:=by
    have:=IsSl.run hys hd
    rw[this]
    have:runAt (l.drop 1) i=runAt l (i+1):=by simp[runAt,w03]
    rw[this]
   have hat:=hys.at .i64 hd
   have hsucc:=zq hd hys.max
   have bad: ¬((runAt l i).frm<(runAt l (i+1)).frm∧(runAt l i).value≠(runAt l (i+1)).value)→pb (FineR l n)=false:=fun hb=>zS fun h'=>hb (by have:=(h'.2.2 (i+1) (by omega)).2 (by omega);simpa using this)
   simp only[go_sem,G3,G6,G7,G8,w02,h,hat,e1]
   by_cases hq:(runAt l (i+1)).frm≤(runAt l i).frm
   ·simp only[go_sem,G6,G8,hq]
    rw[z4 rfl rfl,z5]
    grind
   ·by_cases hv:(runAt l (i+1)).value=(runAt l i).value
    ·have hv':((runAt l (i+1)).value==(runAt l i).value)=true:=by simpa using hv
     simp only[go_sem,G3,G6,G9,G8,hq,evBuild,eqAt,eqCell,hv']
     rw[z4 rfl rfl,z5]
     grind
    ·have hv':((runAt l (i+1)).value==(runAt l i).value)=false:=by simpa using hv
     simp only[go_sem,G3,G6,G9,G8,hq,evBuild,eqAt,eqCell,hv',hsucc]
     refine⟨i+1,by omega,⟨by omega,fun j hj hji=> ?_⟩,_,rfl⟩
     grind
  ·have hil:i=l.length-1:=by omega
   simp only[go_sem,G6,G7,G8,w02,h]
   rw[z4 rfl rfl,z5]
   refine⟨⟨_,rfl⟩,by rw[yB ⟨h0,hz,fun j hj=>⟨?_,fun hp=>ht j hp (by omega)⟩⟩]⟩
   have:=z0K h0 hn (fun j hp hj=>(ht j hp (by omega)).1) (l.length-1-j) (by omega)
   rwa [show l.length-1-(l.length-1-j)=j by omega] at this
theorem tX (l:List DRun) (x:AV) (hx:IsSl IsRun 2 l x) (n:Int) (m:Mem):Okv tab 144 [x,.int .i64 n] m (.int .i64 (err08 l n)):=by
 refine zp (tT jJ) ?_
 obtain⟨stk,cur,nx,live,fl⟩:=m
 have hF:=fun m=>(QJ l x hx n m).eq
 have hC:=fun m=>(z0h n m).eq
 simp only[jJ,go_sem,G3,G6,G8,hC]
 by_cases hn:n<1∨n>200
 ·simp only[go_sem,G6,G8,hn,show((2:Int) !=0)=true from rfl]
  rw[z4 rfl rfl,z5]
  exact⟨⟨_,rfl⟩,by unfold err08;rw[if_pos hn]⟩
 ·simp only[go_sem,G6,G8,hn,show((0:Int) !=0)=false from rfl,hF]
  cases hp:pb (FineR l n)
  ·simp only[go_sem,G6,G8]
   rw[z4 rfl rfl,z5]
   exact⟨⟨_,rfl⟩,by unfold err08;rw[if_neg hn,hp];rfl⟩
  ·simp only[go_sem,G6,G8]
   rw[z4 rfl rfl,z5]
   exact⟨⟨_,rfl⟩,by unfold err08;rw[if_neg hn,hp];rfl⟩
def wasAt (l:List DRun) (k:Nat):Int:=if k=0 then 0 else(runAt l (k-1)).frm
def cod8 (l:List DRun):Nat→List UInt8
 |0=>minimal l.length
 |k+1=>cod8 l k++minimal ((runAt l k).frm-wasAt l k).toNat++minimal (runAt l k).value.toNat
def WfRuns (l:List DRun):Prop:= ∀r∈l,WfRun r
theorem WfRuns.at {l:List DRun} (h:WfRuns l) {k:Nat} (hk:k<l.length):WfRun (runAt l k):=by rw[←z0p hk];exact h _ (w04 hk)
theorem YJ {l:List DRun} {n:Int} (h:FineR l n): ∀k,k<l.length→0≤(runAt l k).frm
 |0,_=>by rw[h.2.1];omega
 |k+1,hk=>by
  have ih:=YJ h k (by omega)
  have:=((h.2.2 (k+1) hk).2 (by omega)).1
  grind
theorem Q8 {l:List DRun} {n:Int} (h:FineR l n) {k:Nat} (hk:k<l.length):0≤(runAt l k).frm-wasAt l k∧(runAt l k).frm-wasAt l k≤n∧ -1≤wasAt l k:=by
 have h1:=YJ h k hk
 have h2:=(h.2.2 k hk).1
 unfold wasAt
 split
 ·omega
 ·rename_i h0
  have h3:=YJ h (k-1) (by omega)
  have:=((h.2.2 k hk).2 (by omega)).1
  omega
theorem tB {l:List DRun} {n:Int} (h:FineR l n) (hn:n≤200) (hw:WfRuns l) (hl:l.length≤1000): ∀k,k≤l.length→(cod8 l k).length≤10+20*k
 |0,_=>zf (by omega)
 |k+1,hk=>by
  have ih:=tB h hn hw hl k (by omega)
  have h1:=Q8 h (show k<l.length by omega)
  have h2:=(hw.at (show k<l.length by omega)).value
  unfold inU64 at h2
  have m1:=zf (n:=((runAt l k).frm-wasAt l k).toNat) (by omega)
  have m2:=zf (n:=(runAt l k).value.toNat) (by omega)
  simp only[cod8,w15];omega
theorem XD (l:List DRun) (x:AV) (hx:IsSl IsRun 2 l x) (n:Int) (hfine:FineR l n) (hn:n≤200) (hw:WfRuns l) (hl:l.length≤1000) (m:Mem):Okl IsByte 1 tab 222 [x] m (cod8 l l.length):=by
 refine qQ (tT ug) ?_
 obtain⟨stk,cur,nx,live,fl⟩:=m
 have e0:IntKind.u64.wrap (l.length:Int)=l.length:=za (by omega) (by omega)
 simp only[ug,go_sem,G6,G8,hx.len,e0]
 refine(ya l.length (by omega) _).xv fun y ts k ho=> ?_
 simp only[go_sem,G6,G8]
 refine zg (α:=Nat) (fun i σ=>i≤l.length∧ ∃nz y e,Own IsByte 1 y (cod8 l i) e∧heads [0,3,4,5] 0 σ=⟨tmps 41 [(0,x),(3,y),(4,.int .i64 (wasAt l i)),(5,.int .i64 i)],⟨stk++[cur],[],nz,e::live,fl⟩⟩) (fun i=>l.length-i) 0 ?_ ?_
 ·refine⟨w0e _,k,y,_,ho,?_⟩
  rfl
 ·rintro i σ ⟨hi,nz,y,e,ho,hσ⟩
  rw[hσ]
  clear hσ σ
  dsimp only at hi⊢
  by_cases h:i<l.length
  ·skip
   have h1:=Q8 hfine h
   have h2:=(hw.at h).value
   unfold inU64 at h2
   have hpos:=YJ hfine i h
   have hfr:=(hfine.2.2 i h).1
   have e1:=IsSl.run hx h
   have hat:=hx.at .i64 h
   have m1:=zf (n:=((runAt l i).frm-wasAt l i).toNat) (by omega)
   have m2:=zf (n:=(runAt l i).value.toNat) (by omega)
   have hcl:=tB hfine hn hw hl i (by omega)
   have ew:IntKind.u64.wrap (IntKind.i64.wrap ((runAt l i).frm-wasAt l i))=((((runAt l i).frm-wasAt l i).toNat:Nat):Int):=by
    rw[z6 (by omega) (by omega),za (by omega) (by omega)];omega
   have ev:(runAt l i).value=(((runAt l i).value.toNat:Nat):Int):=by omega
   have hsucc:=zq h hx.max
   have hwn:wasAt l (i+1)=(runAt l i).frm:=by unfold wasAt;rw[if_neg (by omega)];simp
   simp only[go_sem,G6,G7,G8,w02,h,hx.len,hat,e1,ew]
   refine(ya _ (by omega) _).xv fun y1 t1 k1 ho1=> ?_
   simp only[go_sem,G6,G8]
   obtain⟨z1,hz1,hc1⟩:=ho1.elems
   refine(ho.push t1).xv hz1 hc1 (by omega) fun y2 k2 e2 ho2=> ?_
   simp only[go_sem,G6,G8,hat,e1]
   rw[ev]
   refine(ya _ (by omega) _).xv fun y3 t3 k3 ho3=> ?_
   simp only[go_sem,G6,G8]
   obtain⟨z3,hz3,hc3⟩:=ho3.elems
   refine(ho2.push t3).xv hz3 hc3 (by simp only[w15];omega) fun y4 k4 e4 ho4=> ?_
   simp only[go_sem,G6,G8,hat,e1,hsucc]
   exact⟨i+1,by omega,h,k4,y4,e4,ho4,by rw[hwn]⟩
  ·have:i=l.length:=by omega
   subst this
   simp only[go_sem,G6,G7,G8,w02,h,hx.len]
   exact tf ho
theorem Y2 (l:List DRun) (x:AV) (hx:IsSl IsRun 2 l x) (n:Int) (hfine:FineR l n) (hn1:1≤n) (hn:n≤200) (hw:WfRuns l) (hl:l.length≤1000) (m:Mem) (hf:m.floor≤m.stk.length+1):Okp IsByte 1 tab 287 [x,.int .i64 n] m (cod8 l l.length) 0:=by
 refine TP (tT qR) ?_
 obtain⟨stk,cur,nx,live,fl⟩:=m
 dsimp only at hf
 have hf':fl≤(stk++[cur]).length+1:=by simp;omega
 have e0:IntKind.u64.wrap (l.length:Int)=l.length:=za (by omega) (by omega)
 have hC:=tX l x hx n
 rw[show err08 l n=0 by unfold err08;rw[if_neg (by omega),yB hfine];rfl] at hC
 simp only[qR,go_sem,G3,G6,G8,(hC _).eq,show((0:Int) !=0)=false from rfl,hx.len,e0]
 refine(vl l.length (by omega) _ _ _ _ _ hf').xv fun y ts k ho=> ?_
 simp only[go_sem,G6,G8,hx.len]
 refine zg (α:=Nat) (fun i σ=>i≤l.length∧ ∃nz y e,Own IsByte 1 y (cod8 l i) e∧heads [7,8,21,22,23] 0 σ=⟨tmps 44 [(7,y),(8,.int .i64 (wasAt l i)),(21,x),(22,.int .i64 l.length),(23,.int .i64 i)],⟨stk++[cur],[],nz,e::live,fl⟩⟩) (fun i=>l.length-i) 0 ?_ ?_
 ·refine⟨w0e _,k,y,_,ho,?_⟩
  rfl
 ·rintro i σ ⟨hi,nz,y,e,ho,hσ⟩
  rw[hσ]
  clear hσ σ
  dsimp only at hi⊢
  by_cases h:i<l.length
  ·skip
   have h1:=Q8 hfine h
   have h2:=(hw.at h).value
   unfold inU64 at h2
   have hpos:=YJ hfine i h
   have hfr:=(hfine.2.2 i h).1
   have e1:=IsSl.run hx h
   have hat:=hx.at .i64 h
   have m1:=zf (n:=((runAt l i).frm-wasAt l i).toNat) (by omega)
   have m2:=zf (n:=(runAt l i).value.toNat) (by omega)
   have hcl:=tB hfine hn hw hl i (by omega)
   have ew:IntKind.u64.wrap (IntKind.i64.wrap ((runAt l i).frm-wasAt l i))=((((runAt l i).frm-wasAt l i).toNat:Nat):Int):=by
    rw[z6 (by omega) (by omega),za (by omega) (by omega)];omega
   have ev:(runAt l i).value=(((runAt l i).value.toNat:Nat):Int):=by omega
   have hsucc:=zq h hx.max
   have hwn:wasAt l (i+1)=(runAt l i).frm:=by unfold wasAt;rw[if_neg (by omega)];simp
   simp only[go_sem,G3,G6,G7,G8,w02,h,hat,e1,ew]
   refine(vl _ (by omega) _ _ _ _ _ hf').xv fun y1 t1 k1 ho1=> ?_
   simp only[go_sem,G6,G8]
   obtain⟨z1,hz1,hc1⟩:=ho1.elems
   refine(ho.push t1).xv hz1 hc1 (by omega) fun y2 k2 e2 ho2=> ?_
   simp only[go_sem,G6,G8]
   rw[ev]
   refine(vl _ (by omega) _ _ _ _ _ hf').xv fun y3 t3 k3 ho3=> ?_
   simp only[go_sem,G6,G8]
   obtain⟨z3,hz3,hc3⟩:=ho3.elems
   refine(ho2.push t3).xv hz3 hc3 (by simp only[w15];omega) fun y4 k4 e4 ho4=> ?_
   simp only[go_sem,G6,G8,hsucc]
   exact⟨i+1,by omega,h,k4,y4,e4,ho4,by rw[hwn]⟩
  ·have:i=l.length:=by omega
   subst this
   simp only[go_sem,G6,G7,G8,w02,h]
   exact jE ho
theorem W6 {m:Mem} {l k st:Nat} {cs:List AV} (h:m.blk l k st=some cs):(m.row l)[k]? =some ⟨st,cs⟩:=by
 unfold Mem.blk at h
 split at h
 ·rename_i b hb
  split at h
  ·rename_i e
   injection h with h
   rw[hb,←h,←eq_of_beq e]
  ·cases h
 ·cases h
theorem z5V {stk:List (List Blk)} {cur c:List Blk} {nx nx' fl fl':Nat} {live live':List (List Nat)} {lv k s:Nat} (hlv:lv≤stk.length):(Mem.blk ⟨stk++[cur],c,nx',live',fl'⟩ lv k s)=Mem.blk ⟨stk,cur,nx,live,fl⟩ lv k s:=by
 unfold Mem.blk Mem.row
 grind
theorem z9J {stk:List (List Blk)} {cur:List Blk} {nx fl:Nat} {live:List (List Nat)} {lv k st:Nat} {cs:List AV} (hlv:lv≤stk.length) (h:Mem.blk ⟨stk,cur,nx,live,fl⟩ lv k st=some cs):((stk++[cur]).getD lv [])[k]? =some ⟨st,cs⟩:=by
 have:=W6 h
 unfold Mem.row at this
 grind
theorem z67 (g:DField) (y:AV) (hy:IsField g y) (s:List UInt8) (t:Int) (m:Mem) (lv st:Nat) (hlv:lv≤m.stk.length) (h1:m.blk lv 0 st=some [.str s,.int .i64 t]):Okv tab 368 [y,.ptr lv 0 st 0] m (.bool (g.name==s)):=by
 refine zp (tT qU) ?_
 obtain⟨stk,cur,nx,live,fl⟩:=m
 dsimp only at hlv
 obtain rfl:=hy
 have hne:(lv==(stk++[cur]).length)=false:=by simp;omega
 have b1:=z9J hlv h1
 simp only[qU,go_sem,G3,G6,G8,hne,b1,evStr]
 rw[z4 rfl rfl,z5]
 simp
theorem WC (xs:List DField) (x:AV) (hx:IsSl IsField 2 xs x) (s:List UInt8) (t:Int) (m:Mem) (lv st:Nat) (hlv:lv≤m.stk.length) (h1:m.blk lv 0 st=some [.str s,.int .i64 t]):
  Ok tab 387 [x,.fn (.func 368) [] [.ptr lv 0 st 0]] m (fun r=> ∃n:Int,r= .int .i64 n∧decide (n≥0)=xs.any (·.name==s)):=by
 refine z0v (tT yI) ?_
 obtain⟨stk,cur,nx,live,fl⟩:=m
 dsimp only at hlv
 simp only[yI,go_sem,G3,G6,G8,hx.len]
 refine zg (α:=Nat) (fun i σ=>(i≤xs.length∧ ∀c∈xs.take i,(c.name==s)=false)∧ ∃nz,heads [0,1,7,8] 0 σ=⟨tmps 19 [(0,x),(1,.fn (.func 368) [] [.ptr lv 0 st 0]),(7,.int .i64 xs.length),(8,.int .i64 i)],⟨stk++[cur],[],nz,[]::live,fl⟩⟩) (fun i=>xs.length-i) 0 ?_ ?_
 ·refine⟨⟨w0e _,by simp⟩,?_⟩
  simp only[go_sem,G6,G7]
  simp
 ·rintro i σ ⟨⟨hi,ht⟩,nz,hσ⟩
  rw[hσ]
  clear hσ σ
  dsimp only at hi ht⊢
  by_cases h:i<xs.length
  ·have hfl:IsField xs[i] (nth x i):=hx.nth h
   have hag:=hfl.agg.1
   have hcall:=fun nz=>(z67 xs[i] (nth x i) hfl s t ⟨stk++[cur],[],nz,[]::live,fl⟩ lv st (by simp;omega) (by rw[z5V hlv];exact h1)).eq
   simp only[go_sem,G6,G7,G8,w02,h,hx.at _ h,hag,hcall]
   cases hc:(xs[i].name==s)
   ·simp only[go_sem,G6,G8,zq h hx.max]
    exact⟨i+1,by omega,⟨h,yJ (P:=fun c=>(c.name==s)=false) h ht hc⟩,_,rfl⟩
   ·simp only[go_sem,G6,G8]
    rw[z4 rfl rfl,z5]
    grind
  ·have:i=xs.length:=by omega
   subst this
   rw[w0a] at ht
   simp only[go_sem,G6,G7,G8,w02,h]
   rw[z4 rfl rfl,z5]
   grind
theorem Yr (xs:List DField) (x:AV) (hx:IsSl IsField 2 xs x) (s:List UInt8) (t:Int) (m:Mem) (lv st:Nat) (hlv:lv≤m.stk.length) (h1:m.blk lv 0 st=some [.str s,.int .i64 t]):
  Okv tab 367 [x,.fn (.func 368) [] [.ptr lv 0 st 0]] m (.bool (xs.any (·.name==s))):=by
 refine zp (tT yC) ?_
 obtain⟨stk,cur,nx,live,fl⟩:=m
 dsimp only at hlv
 simp only[yC,go_sem,G3,G6,G8]
 obtain⟨r,k,e1,n,rfl,e2⟩:=WC xs x hx s t ⟨stk++[cur],[],nx,[]::live,fl⟩ lv st (by simp;omega) (by rw[z5V hlv];exact h1)
 simp only[go_sem,G6,G8,e1,e2]
 rw[z4 rfl rfl,z5]
 simp
theorem IsSl.upto {α:Type} {R:α→AV→Prop} {s:Nat} {xs:List α} {y:AV} (h:IsSl R s xs y) {i:Nat} (hi:i<xs.length): ∃y',evSlice s y none (some (.int .i64 i)) none=some y'∧IsSl R s (xs.take i) y':=by
 rcases h with⟨hm,⟨rfl,rfl⟩|⟨tk,ys,rfl,h⟩⟩
 ·simp at hi
 ·have hl:=h.len
  have hb:bound (some (.int .i64 (i:Int))) ys.length ys.length=some i:=by
   unfold bound;simp only;rw[if_pos (by omega)];rfl
  have e:evSlice s (.list s tk ys) none (some (.int .i64 i)) none=some (.list s (if i==ys.length&&(0==0||decide (0<ys.length)) then tk else .none) ((ys.take i).drop 0)):=by
   unfold evSlice
   simp only[beq_self_eq_true,if_true]
   rw[hb,w36,show bound none i 0=some 0 from rfl]
   simp
  refine⟨_,e,?_⟩
  rw[w19]
  exact .mk (h.take i) (by rw[w20];omega)
def NamesP (l:List DField):Prop:=(∀f∈l,named f.name=true)∧(l.map DField.name).Nodup
theorem QZ (xs:List DField) (x:AV) (hx:IsSl IsField 2 xs x) (m:Mem):Okv tab 326 [x] m (.bool (pb (NamesP xs))):=by
 refine zp (tT kO) ?_
 obtain⟨stk,cur,nx,live,fl⟩:=m
 simp only[kO,go_sem,G6,G8,hx.len]
 have hml:(xs.map DField.name).length=xs.length:=by simp
 refine zg (α:=Nat) (fun i σ=>(i≤xs.length∧(∀c∈xs.take i,named c.name=true)∧((xs.map DField.name).take i).Nodup)∧ ∃nz,heads [0,5,6,7] 0 σ=⟨tmps 24 [(0,x),(5,x),(6,.int .i64 xs.length),(7,.int .i64 i)],⟨stk++[cur],[],nz,[]::live,fl⟩⟩) (fun i=>xs.length-i) 0 ?_ ?_
 ·refine⟨⟨w0e _,by simp,by simp⟩,?_⟩
  simp only[go_sem,G6,G7]
  simp
 ·rintro i σ ⟨⟨hi,ht,hd⟩,nz,hσ⟩
  rw[hσ]
  clear hσ σ
  dsimp only at hi ht hd⊢
  by_cases h:i<xs.length
  ·have e1:nth x i= .agg [.str xs[i].name,.int .i64 xs[i].typ]:=hx.nth h
   obtain⟨y,hy,hys⟩:=IsSl.upto hx h
   simp only[go_sem,G3,G6,G7,G8,w02,h,hx.at _ h,e1,(kr _ _).eq]
   cases hc:named xs[i].name
   ·simp only[go_sem,G6,G8]
    rw[z4 rfl rfl,z5]
    exact⟨⟨_,rfl⟩,by rw[zS fun h'=>by have:=h'.1 _ (w04 h);rw[hc] at this;cases this]⟩
   ·have hcall:=fun nz'=>(Yr (xs.take i) y hys xs[i].name xs[i].typ ⟨stk++[cur],[⟨nz,[.str xs[i].name,.int .i64 xs[i].typ]⟩],nz',[]::live,fl⟩ (stk++[cur]).length nz (w08 _) (by simp[Mem.blk,Mem.row])).eq
    simp only[go_sem,G6,G8,hy,hcall]
    cases ha:(xs.take i).any (·.name==xs[i].name)
    ·simp only[go_sem,G6,G8,zq h hx.max]
     refine⟨i+1,by omega,⟨h,yJ (P:=fun c=>named c.name=true) h ht hc,?_⟩,_,rfl⟩
     refine TQ (by rw[hml];exact h) hd fun z hz=> ?_
     rw[←List.map_take,w42] at hz
     grind
    ·simp only[go_sem,G6,G8]
     rw[z4 rfl rfl,z5]
     refine⟨⟨_,rfl⟩,congrArg AV.bool (zS fun h'=> ?_).symm⟩
     obtain⟨f,hf,he⟩:=List.any_eq_true.1 ha
     obtain⟨j,hj,rfl⟩:=List.mem_take_iff_getElem.1 hf
     exact VG (l:=xs.map DField.name) (i:=i) (k:=j) (by omega) (by rw[hml];exact h) (by simpa using he) h'.2
  ·have:i=xs.length:=by omega
   subst this
   rw[w0a] at ht
   rw[←hml,w0a] at hd
   simp only[go_sem,G6,G7,G8,w02,h]
   rw[z4 rfl rfl,z5]
   exact⟨⟨_,rfl⟩,by rw[yB ⟨ht,hd⟩]⟩
end Go.Proofs.W
end
section
namespace Go.Proofs.W
open Go.Vs
attribute [local go_sem high] zm zT
attribute [local go_sem ↓] w06 w0d
attribute [local go_sem low] Yc Yt Yf Yut Yuf yy yz yw yx
attribute [local go_sem 2000] zK
attribute [local go_sem] x6 x5 x9 x8 zR zu y7 zP zW zt yq yn ym hd kep yj w02 AV.bool.injEq AV.int.injEq not_true_eq_false not_false_eq_true true_implies false_implies and_true true_and implies_true zl zI zH zk zJ zw zc z8 zj zB zA zi zC zy zb z9 w07 zD zE zZ w18 evShift IntKind.bits zL zF zG z6 za zQ zx w0c yu yr allLen zd AV.tup.injEq List.cons.injEq AV.agg.injEq zV zU evBuild yo zN zn zM eqC0 eqC1 eqC2 zO w17 w16
attribute [go_sem] qp xQ
def HeadP (n:Nat) (f:DFunc):Prop:=named f.name=true∧(f.slots.length:Int)≤16∧NamesP f.slots∧0≤f.params∧f.params≤f.slots.length∧ -1≤f.result∧f.result<n
def FuncP (n:Nat) (f:DFunc):Prop:=HeadP n f∧(∀s∈f.slots,0≤s.typ∧s.typ<n)∧(∀x∈f.code,InstrP x)∧1≤f.code.length∧f.code.length≤200∧FineR f.sizes f.code.length∧FineR f.lives f.code.length
theorem z1X {l:List DField} {k:Int}:FieldsP l k↔(l.length:Int)≤k∧NamesP l:=Iff.rfl
theorem z8L {l:List DRun} {n:Int}:(err08 l n==0)=pb (1≤n∧n≤200∧FineR l n):=by
 unfold err08
 refine Za ?_
 by_cases h:n<1∨n>200
 ·grind
 ·rw[if_neg h]
  cases hp:pb (FineR l n)
  ·have:=vo.1 hp
   simp[this]
  ·have:=vp.1 hp
   grind
theorem zag {l:List DRun} {n:Int}:err08 l n=0↔1≤n∧n≤200∧FineR l n:=by
 have:=z8L (l:=l) (n:=n)
 rw[Bool.eq_iff_iff,vp] at this
 simpa using this
theorem z5S {x:DInstr}:err06 x=0↔InstrP x:=by
 by_cases h:InstrP x
 ·simp[jF h,h]
 ·simp[xM h,h]
theorem z19 {x:DInstr} (h:WfInstr x):WfI x:=⟨h.a,h.b,h.c⟩
theorem Vt (l:List DTyp) (x:AV) (hx:IsSl IsTyp 4 l x) (F:DFunc) (y:AV) (hy:IsFunc F y) (hw:WfFunc F) (m:Mem) (hfl:m.floor≤m.stk.length+1):Okv tab 282 [x,y] m (.bool (pb (FuncP l.length F))):=by
 obtain⟨w0,w1,w2,w3,rfl,q0,q1,q2,q3⟩:=hy
 have f:=nd hx.z<|nd hx.co<|nd q0.z<|nd q1.z<|nd q0.co<|nd q1.co<|nd q2.co<|nd q3.co<|nd (fieldV q0)<|nd (instrV q1)<|nd (fun m=>(kr F.name m).eq)<|nd (fun m=>(QZ F.slots w0 q0 m).eq)<|nd (fun m=>(tX F.sizes w2 q2 F.code.length m).eq) fun m=>(tX F.lives w3 q3 F.code.length m).eq
 have m0:=q0.max
 have m1:=q1.max
 refine okz (tT qp) fun s c x v g e=> ?_
 subst e
 simp at hfl
 repeat' first|refine ifs ?_ ?_|intro
 any_goals refine xn 53 F.slots.length [] (fun i _ _=> ∀j (hj:j<F.slots.length),j<i→0≤F.slots[j].typ∧F.slots[j].typ<l.length) 0 ?_ fun i v e nz hi hp=> ?_
 repeat' first|refine ifs ?_ ?_|intro
 any_goals refine xn 71 F.code.length [] (fun i _ _=> ∀j (hj:j<F.code.length),j<i→InstrP F.code[j]) 0 ?_ fun i v e nz hi hp=> ?_
 repeat' first|refine ow (jX _ _ (by simp;omega)) ?_|refine ifs ?_ ?_|intro
 all_goals
  clear f
  simp only[vp,vo,FuncP,HeadP,zag,z5S,w50] at*
  grind
theorem Vo (l:List DTyp) (x:AV) (hx:IsSl IsTyp 4 l x) (F:DFunc) (y:AV) (hy:IsFunc F y) (hw:WfFunc F) (m:Mem):Okv tab 215 [x,y] m (.bool (pb (FuncP l.length F))):=by
 obtain⟨w0,w1,w2,w3,rfl,q0,q1,q2,q3⟩:=hy
 have f:=nd hx.z<|nd hx.co<|nd q0.z<|nd q1.z<|nd q0.co<|nd q1.co<|nd q2.co<|nd q3.co<|nd (fieldV q0)<|nd (instrV q1)<|nd (fun m=>(qh F.name hw.name m).eq)<|nd (fun m=>(tV F.slots 16 w0 q0 (fun f hf=>(hw.slots f hf).name) m).eq)<|nd (fun j (hj:j<F.code.length) m=>(XE F.code[j] (z19 (hw.code _ (w04 hj))) m).eq)<|nd (fun m=>(Ww F.sizes w2 q2 F.code.length m).eq) fun m=>(Ww F.lives w3 q3 F.code.length m).eq
 have m0:=q0.max
 have m1:=q1.max
 refine okz (tT xQ) fun s c x v g e=> ?_
 repeat' first|refine ifs ?_ ?_|intro
 any_goals refine xn 5 F.slots.length [] (fun i _ _=> ∀j (hj:j<F.slots.length),j<i→0≤F.slots[j].typ∧F.slots[j].typ<l.length) 0 ?_ fun i v e nz hi hp=> ?_
 repeat' first|refine ifs ?_ ?_|intro
 any_goals refine xn 6 F.code.length [] (fun i _ _=> ∀j (hj:j<F.code.length),j<i→InstrP F.code[j]) 0 ?_ fun i v e nz hi hp=> ?_
 repeat' first|refine ifs ?_ ?_|intro
 all_goals
  clear f
  simp only[vp,vo,FuncP,HeadP,z1X,z5S,w50] at*
  grind
end Go.Proofs.W
end
section
namespace Go.Proofs.W
open Go.Vs
def in0:DInstr:=⟨0,0,0,0⟩
def insAt (l:List DInstr) (k:Nat):DInstr:=l.getD k in0
theorem VP {l:List DInstr} {j:Nat} (h:j<l.length):l[j]=insAt l j:=by simp[insAt,w03,h]
def codes (l:List DInstr):Nat→List UInt8
 |0=>[]
 |k+1=>codes l k++cod6 (insAt l k)
theorem Qn {x:DInstr} (h:InstrP x) (hw:WfI x):(cod6 x).length≤31:=by
 have hx:=h
 obtain⟨a,b,c,hs,_⟩:=hx
 exact Xx hs h hw 3 (w08 _)
theorem Xt {l:List DInstr} (h: ∀x∈l,InstrP x) (hw: ∀x∈l,WfInstr x): ∀k,k≤l.length→(codes l k).length≤31*k
 |0,_=>by simp[codes]
 |k+1,hk=>by
  have ih:=Xt h hw k (by omega)
  have hm:=w04 (show k<l.length by omega)
  have:=Qn (h _ hm) (z19 (hw _ hm))
  rw[VP (by omega)] at this
  simp only[codes,w15];omega
def funB (f:DFunc):List UInt8:=said f.name++(minimal f.params.toNat++(minimal (zigzag f.result)++(flds f.slots f.slots.length++(minimal f.code.length++(codes f.code f.code.length++(cod8 f.sizes f.sizes.length++cod8 f.lives f.lives.length))))))
theorem Q5 {n:Nat} {f:DFunc} (h:FuncP n f) (hn:n≤32):FOk f.slots:=by
 obtain⟨⟨h1,h2,h3,h4,h5,h6,h7⟩,h8,_⟩:=h
 refine⟨by omega,fun s hs=> ?_⟩
 have:=Zb (h3.1 s hs)
 grind
theorem Qa {l:List DRun} {n:Int} (h:FineR l n): ∀k,k<l.length→(k:Int)≤(runAt l k).frm
 |0,_=>by rw[h.2.1];omega
 |k+1,hk=>by
  have ih:=Qa h k (by omega)
  have:=((h.2.2 (k+1) hk).2 (by omega)).1
  grind
theorem yR {l:List DRun} {n:Int} (h:FineR l n) (hn:n≤200):l.length≤200:=by
 have h0:=h.1
 have h1:=Qa h (l.length-1) (by omega)
 have h2:=(h.2.2 (l.length-1) (by omega)).1
 omega
attribute [local go_sem high] zm zT
attribute [local go_sem ↓] w06 w0d
attribute [local go_sem low] Yc Yt Yf Yut Yuf yy yz yw yx
attribute [local go_sem 2000] zK
attribute [local go_sem] x6 x5 x9 x8 zR zu y7 zP zW zt yq yn ym hd kep yj w02 AV.bool.injEq AV.int.injEq not_true_eq_false not_false_eq_true true_implies false_implies and_true true_and implies_true zl zI zH zk zJ zw zc z8 zj zB zA zi zC zy zb z9 w07 zD zE zZ w18 evShift IntKind.bits zL zF zG z6 za zQ zx w0c yu yr allLen zd AV.tup.injEq List.cons.injEq AV.agg.injEq zV zU evBuild yo zN zn zM eqC0 eqC1 eqC2 zO w17 w16
attribute [go_sem] vj
theorem z3T (F:DFunc) (x:AV) (hx:IsFunc F x) (hwf:WfFunc F) (nt:Nat) (hnt:nt≤32) (hf:FuncP nt F) (m:Mem) {lv k sp i:Nat} {y:AV} {b:List UInt8} {post:List (List Nat)} (ha:At m lv k sp i y b post) (hb:b.length≤700000):
  Writes 227 [.ptr lv k sp 0,x] lv k sp i y b (funB F) post (.int .i64 0) m:=by
 have hfo:=Q5 hf hnt
 obtain⟨w0,w1,w2,w3,rfl,q0,q1,q2,q3⟩:=hx
 obtain⟨⟨g1,g2,g3,g4,g5,g6,g7⟩,g8,g9,g10,g11,g12,g13⟩:=hf
 have hnl:=Zb g1
 have m1:=qG (s:=F.name) (by omega)
 have m2:= @zf F.params.toNat (by omega)
 have m3:=zf (vP hwf.result)
 have m4:=qK hfo _ (w08 _)
 have m5:= @zf F.code.length (by omega)
 have f0:=nd q0.co<|nd q1.co<|nd q2.co<|nd q3.co<|nd q1.z (instrV q1)
 have f:=f0
 have h16:=hfo.1
 refine wz (tT vj) ha fun S C nb e g fw hlv hk hW=> ?_
 have f:=nd f0 fw
 unfold Wf at f
 refine st ?_
 refine oW hlv (z3N F.name (by omega) _ (fw.at hlv hk hW) (by omega)) fun y n L hW=> ?_
 refine oW hlv (Tk g4 (by omega) _ (fw.at hlv hk hW) (by simp;omega)) fun y n L hW=> ?_
 have hg:g≤lv:=fw.2.2.2.2.2
 refine oc (kl F.result hwf.result _ _ _ _ _ (by rw[ku];simp;omega)) fun z t n h1=> ?_
 obtain⟨zs,hz,hc⟩:=h1.elems
 refine aW (hW.push t) hc (by simp;omega) (fun y n o L hW=> ?_) hz
 refine oW hlv (z2d F.slots _ q0 hfo _ (fw.at hlv hk hW) (by simp;omega)) fun y n L hW=> ?_
 refine oW hlv (qF F.code.length (by omega) _ (fw.at hlv hk hW) (by simp;omega)) fun y n L hW=> ?_
 obtain⟨B,hB,hW⟩: ∃B,b++said F.name++minimal F.params.toNat++minimal (zigzag F.result)++flds F.slots F.slots.length++minimal F.code.length=B∧WrL (i+1) y B L post:=⟨_,rfl,hW⟩
 have hbl:B.length≤800000:=by rw[←hB];simp;omega
 have mc:=q1.max
 refine xs [44] (fun(z:Nat×AV) v S' e c=>S'=rw' S C lv k sp z.2∧z.1≤F.code.length∧v 44= .int .i64 (z.1:Int)∧c=[⟨nb,[.str F.name,.int .i64 F.params,.int .i64 F.result,w0,w1,w2,w3]⟩]∧WrL (i+1) z.2 (B++codes F.code z.1) e post) (fun z=>F.code.length-z.1) (0,y) ?_ ?_
 ·simpa [codes] using hW
 rintro⟨j,y⟩ v S' e nz c ⟨rfl,hj,h12,rfl,hW⟩
 dsimp only at*
 have m6:=Xt g9 hwf.code j hj
 refine ifs (fun h=> ?_) fun h=> ?_
 ·have hj:j<F.code.length:=by omega
  have hm:=w04 hj
  have hwi:=z19 (hwf.code _ hm)
  have hc6:=Qn (g9 _ hm) hwi
  refine op (z1i F.code[j] (hwf.code _ hm).op hwi (g9 _ hm) _ (by simp[ku];omega)) fun z t n h1=> ?_
  obtain⟨zs,hz,hc⟩:=h1.elems
  refine aW (hW.push t) hc (by simp;omega) (fun y n o L hW=> ?_) hz
  refine⟨(j+1,y),by dsimp only;omega,rfl,by dsimp only;omega,by dsimp only;omega,?_⟩
  rw[codes,←VP hj,←w1e]
  exact hW
 ·obtain rfl:j=F.code.length:=by omega
  have f:=nd f<|nd (show evLen (.list 1 .full [w2,w3])=some (.int .i64 2) from rfl)<|nd (show evIaddr 1 (.list 1 .full [w2,w3]) (.int .i64 ((0:Nat):Int))=some (.ro w2.cells) from rfl) (show evIaddr 1 (.list 1 .full [w2,w3]) (.int .i64 (((0:Nat):Int)+1))=some (.ro w3.cells) from rfl)
  refine st ?_
  refine xs [72] (fun(z:Nat×AV) v S' e c=>S'=rw' S C lv k sp z.2∧z.1≤2∧v 72= .int .i64 (z.1:Int)∧c=[⟨nb,[.str F.name,.int .i64 F.params,.int .i64 F.result,w0,w1,w2,w3]⟩]∧WrL (i+1) z.2 (B++codes F.code F.code.length++(if z.1=0 then [] else if z.1=1 then cod8 F.sizes F.sizes.length else cod8 F.sizes F.sizes.length++cod8 F.lives F.lives.length)) e post) (fun z=>2-z.1) (0,y) ?_ ?_
  ·simpa using hW
  rintro⟨q,y⟩ v S' e nz c ⟨rfl,hq,h12,rfl,hW⟩
  dsimp only at*
  refine ifs (fun h=> ?_) fun h=> ?_
  ·have hj:q=0∨q=1:=by omega
   rcases hj with rfl|rfl
   all_goals refine st ?_
   ·refine op (Y2 F.sizes w2 q2 F.code.length g12 (by omega) (by omega) hwf.sizes (by have:=yR g12 (by omega);omega) _ (by simp[ku];omega)) fun z t n h1=> ?_
    have m7:=tB g12 (by omega) hwf.sizes (by have:=yR g12 (by omega);omega) _ (w08 _)
    have r1:=yR g12 (by omega)
    obtain⟨zs,hz,hc⟩:=h1.elems
    refine aW (hW.push t) hc (by simp;omega) (fun y n o L hW=> ?_) hz
    exact⟨(1,y),by dsimp only;omega,rfl,by dsimp only;omega,rfl,by simpa using hW⟩
   ·refine op (Y2 F.lives w3 q3 F.code.length g13 (by omega) (by omega) hwf.lives (by have:=yR g13 (by omega);omega) _ (by simp[ku];omega)) fun z t n h1=> ?_
    have m7:=tB g12 (by omega) hwf.sizes (by have:=yR g12 (by omega);omega) _ (w08 _)
    have m8:=tB g13 (by omega) hwf.lives (by have:=yR g13 (by omega);omega) _ (w08 _)
    have r1:=yR g12 (by omega)
    have r2:=yR g13 (by omega)
    obtain⟨zs,hz,hc⟩:=h1.elems
    refine aW (hW.push t) hc (by simp;omega) (fun y n o L hW=> ?_) hz
    exact⟨(2,y),by dsimp only;omega,rfl,by dsimp only;omega,rfl,by simpa using hW⟩
  ·obtain rfl:q=2:=by omega
   exact eW hlv hW (by rw[←hB];simp[funB])
end Go.Proofs.W
end
section
namespace Go.Proofs.W
open Go.Vs
def up (n a:Nat):Nat:=(n+a-1)/a*a
theorem z3Z (n:Nat):up n 1=n:=by unfold up;simp
theorem Ty (n:Nat):up n 8=(n+7)/8*8:=rfl
def is18 (a:Nat):Prop:=a=1∨a=8
theorem XM {n a:Nat} (h:is18 a):n≤up n a∧up n a≤n+7:=by
 rcases h with rfl|rfl
 ·rw[z3Z];omega
 ·rw[Ty];omega
theorem z31 {a b:Nat} (ha:is18 a) (hb:is18 b):is18 (max a b):=by unfold is18 at*;omega
theorem z90 (x:BitVec 64):(x&&& ~~~(7#64)).toNat=x.toNat/8*8:=by
 apply Nat.eq_of_testBit_eq
 intro i
 rw[BitVec.testBit_toNat,BitVec.getLsbD_and,BitVec.getLsbD_not,show(8:Nat)=2^3 from rfl,Nat.testBit_mul_two_pow,Nat.testBit_div_two_pow,BitVec.testBit_toNat]
 by_cases h3:3≤i
 ·have:(7#64).getLsbD i=false:=by
   rw[←BitVec.testBit_toNat]
   exact Nat.testBit_lt_two_pow (w55 (by decide:(7#64).toNat<2^3) (w4a (by omega) h3))
  grind
 ·have:i=0∨i=1∨i=2:=by omega
  grind
theorem U4 {n a:Nat} (h:is18 a) (hn:n≤4194304):evBits .andNot .i64 (IntKind.i64.wrap (IntKind.i64.wrap ((n:Int)+(a:Int))-1)) (IntKind.i64.wrap ((a:Int)-1))=some (.int .i64 ((up n a:Nat):Int)):=by
 have e0:(a:Int)=1∨(a:Int)=8:=by unfold is18 at h;omega
 have e1:IntKind.i64.wrap ((n:Int)+(a:Int))=n+a:=z6 (by omega) (by omega)
 have e2:IntKind.i64.wrap ((n:Int)+a-1)=n+a-1:=z6 (by omega) (by omega)
 have e3:IntKind.i64.wrap ((a:Int)-1)=a-1:=z6 (by omega) (by omega)
 rw[e1,e2,e3]
 have hx: ∀y:Nat,y≤5000000→(BitVec.ofInt 64 (y:Int)).toNat=y:=fun y hy=>by
  grind
 refine congrArg (fun z=>some (AV.int .i64 z)) (?_:IntKind.i64.wrap ((BitVec.ofInt 64 ((n:Int)+a-1)&&& ~~~BitVec.ofInt 64 ((a:Int)-1)).toNat:Int)=((up n a:Nat):Int))
 rcases h with rfl|rfl
 ·have:BitVec.ofInt 64 (((1:Nat):Int)-1)=0#64:=rfl
  rw[this]
  have h2:(BitVec.ofInt 64 ((n:Int)+((1:Nat):Int)-1)&&& ~~~(0#64))=BitVec.ofInt 64 (n:Int):=by
   rw[show(n:Int)+((1:Nat):Int)-1=n by omega,show~~~(0#64)=BitVec.allOnes 64 from by decide,BitVec.and_allOnes]
  rw[h2,hx n (by omega),z3Z,z6 (by omega) (by omega)]
 ·have:BitVec.ofInt 64 (((8:Nat):Int)-1)=7#64:=rfl
  rw[this,z90,show(n:Int)+((8:Nat):Int)-1=((n+7:Nat):Int) by omega,hx _ (by omega),Ty,z6 (by omega) (by omega)]
def togStep (far:Nat) (out:List (Nat×Nat)) (s:List Nat×Nat×Nat) (f:DField):List Nat×Nat×Nat:=
 (s.1++[up s.2.1 (out.getD f.typ.toNat (0,0)).2],min far (up s.2.1 (out.getD f.typ.toNat (0,0)).2+(out.getD f.typ.toNat (0,0)).1),max s.2.2 (out.getD f.typ.toNat (0,0)).2)
def tog (far:Nat) (out:List (Nat×Nat)) (fs:List DField):List Nat×Nat×Nat:=fs.foldl (togStep far out) ([],0,1)
def togEnd (far:Nat) (out:List (Nat×Nat)) (fs:List DField):Nat×Nat:=(min far (up (tog far out fs).2.1 (tog far out fs).2.2),(tog far out fs).2.2)
def ext1 (far:Nat) (out:List (Nat×Nat)) (t:DTyp):Nat×Nat:=
 if t.kind=1 then(1,1) else if t.kind=3 then(16,8) else if t.kind=7 then(24,8) else if t.kind=6 then(min far (t.len.toNat*(out.getD t.elem.toNat (0,0)).1),(out.getD t.elem.toNat (0,0)).2)
 else if t.kind=5 then togEnd far out t.fields else(8,8)
def exts (far:Nat) (l:List DTyp):List (Nat×Nat):=l.foldl (fun out t=>out++[ext1 far out t]) []
theorem jw (far:Nat) (out:List (Nat×Nat)) {fs:List DField} {k:Nat} (h:k<fs.length):tog far out (fs.take (k+1))=togStep far out (tog far out (fs.take k)) fs[k]:=by
 unfold tog;rw[w0f h,List.foldl_append];rfl
theorem jl (far:Nat) {l:List DTyp} {i:Nat} (h:i<l.length):exts far (l.take (i+1))=exts far (l.take i)++[ext1 far (exts far (l.take i)) l[i]]:=by
 unfold exts;rw[w0f h,List.foldl_append];rfl
theorem xz (far:Nat) (l:List DTyp): ∀i,i≤l.length→(exts far (l.take i)).length=i
 |0,_=>by simp[exts]
 |i+1,h=>by rw[jl far h,w15,xz far l i (by omega)];rfl
def GoodP (out:List (Nat×Nat)):Prop:= ∀p∈out,p.1≤1048576∧is18 p.2
theorem GoodP.get {out:List (Nat×Nat)} (h:GoodP out) {j:Nat} (hj:j<out.length):(out.getD j (0,0)).1≤1048576∧is18 (out.getD j (0,0)).2:=by
 have:out.getD j (0,0)=out[j]:=by simp[w03,hj]
 rw[this];exact h _ (w04 hj)
theorem Z8 {far:Nat} (hfar:far≤1048576) {out:List (Nat×Nat)} (h:GoodP out) {fs:List DField} (hf: ∀f∈fs,0≤f.typ∧f.typ<out.length): ∀k,k≤fs.length→(tog far out (fs.take k)).1.length=k∧(tog far out (fs.take k)).2.1≤1048576∧is18 (tog far out (fs.take k)).2.2
 |0,_=>by simp[tog,is18]
 |k+1,hk=>by
  obtain⟨h1,h2,h3⟩:=Z8 hfar h hf k (by omega)
  have hfk:=hf _ (w04 (show k<fs.length by omega))
  have hg:=h.get (j:=fs[k].typ.toNat) (by omega)
  rw[jw far out (show k<fs.length by omega)]
  exact⟨by simp[togStep,h1],by simp only[togStep];omega,z31 h3 hg.2⟩
theorem z6Y {far:Nat} (hfar:far≤1048576) {out:List (Nat×Nat)} (h:GoodP out) {n i:Nat} {t:DTyp} (hf:FineT n i t) (hi:out.length=i):(ext1 far out t).1≤1048576∧is18 (ext1 far out t).2:=by
 have hl:=tA hf
 unfold ext1
 split
 ·simp[is18]
 ·split
  ·simp[is18]
  ·split
   ·simp[is18]
   ·split
    ·rename_i h6
     have:=hl.2.2.2.1 h6
     exact⟨by simp only;omega,(h.get (by omega)).2⟩
    ·split
     ·have:=Z8 hfar h (fs:=t.fields) (by rw[hi];exact hl.2.2.2.2.2) t.fields.length (w08 _)
      rw[w0a] at this
      exact⟨by simp only[togEnd];omega,this.2.2⟩
     ·simp[is18]
theorem jm {far:Nat} (hfar:far≤1048576) {l:List DTyp} (hv:ValidT l): ∀i,i≤l.length→GoodP (exts far (l.take i))
 |0,_=>by simp[exts,GoodP]
 |i+1,h=>by
  have ih:=jm hfar hv i (by omega)
  rw[jl far h]
  intro p hp
  rcases w0b.1 hp with hp|hp
  ·exact ih p hp
  ·simp at hp;subst hp;exact z6Y hfar ih (hv i (by omega)) (xz far l i (by omega))
def prs (ws:List (Nat×Nat)):List AV:=ws.flatMap fun p=>[.int .i64 (p.1:Int),.int .i64 (p.2:Int)]
theorem z9O (ws:List (Nat×Nat)):(prs ws).length=ws.length*2:=by
 induction ws with
 |nil=>rfl
 |cons w r ih=>simp only[prs,w2d,w15,w59,w46] at ih⊢;omega
theorem WQ: ∀(ws:List (Nat×Nat)) (j:Nat),j<ws.length→(prs ws).drop (j*2)= .int .i64 ((ws.getD j (0,0)).1:Int):: .int .i64 ((ws.getD j (0,0)).2:Int)::(prs ws).drop (j*2+2)
 | [],_,h=>by simp at h
 |w::r,0,_=>rfl
 |w::r,j+1,h=>by
  have:=WQ r j (by simpa using h)
  simp only[prs,w2d,show(j+1)*2=j*2+2 by omega,w26,w2e,w14,List.getD_cons_succ] at this⊢
  exact this
theorem z9N (n:Nat):flatRep [.int .i64 0,.int .i64 0] n=prs (List.replicate n (0,0)):=by
 induction n with
 |zero=>rfl
 |succ n ih=>rw[flatRep,ih,w44];rfl
theorem k8: ∀(ws:List (Nat×Nat)) (j a b:Nat),j<ws.length→(prs ws).take (j*2)++[.int .i64 (a:Int),.int .i64 (b:Int)]++(prs ws).drop (j*2+2)=prs (ws.set j (a,b))
 | [],_,_,_,h=>by simp at h
 |w::r,0,a,b,_=>rfl
 |w::r,j+1,a,b,h=>by
  have:=k8 r j a b (by simpa using h)
  simp only[prs,w2d,show(j+1)*2=j*2+2 by omega,w26,w2e,w14,w10,w4b] at this⊢
  rw[this]
theorem z2u {ws:List (Nat×Nat)} {j:Nat} (h:j<ws.length):takeV true 2 ((prs ws).drop (j*2))=some (.agg [.int .i64 ((ws.getD j (0,0)).1:Int),.int .i64 ((ws.getD j (0,0)).2:Int)]):=by
 rw[WQ ws j h];simp[takeV]
theorem z0n (l l' k:Nat) (ws:List (Nat×Nat)):shiftAll l l' k (prs ws)=prs ws:=by
 induction ws with
 |nil=>rfl
 |cons w r ih=>simp only[prs,w2d,w26,w2e,shiftAll,AV.shift] at ih⊢;rw[ih]
theorem z5z (a:Nat):(if(a:Int)<(1048576:Int) then(a:Int) else(1048576:Int))=((min 1048576 a:Nat):Int):=by split<;>omega
theorem z1O (a:Nat):(if(a:Int)<(1000000:Int) then(a:Int) else(1000000:Int))=((min 1000000 a:Nat):Int):=by split<;>omega
theorem z9Z (a b:Nat):(if(b:Int)>(a:Int) then(b:Int) else(a:Int))=((max a b:Nat):Int):=by split<;>omega
theorem zb7 {n a:Nat} (ha:is18 a) (h:n≤1048576):min 1048576 (up n a)=up n a:=by
 rcases ha with rfl|rfl
 ·rw[z3Z];omega
 ·rw[Ty];omega
theorem z8l (a b:Nat):(if a<b then(b:Int) else(a:Int))=((max a b:Nat):Int):=by split<;>omega
theorem z6C {m0:Mem} {stk:List (List Blk)} {cur c':List Blk} {nx' fl':Nat} {own:List Nat} {live':List (List Nat)} {k st off len:Nat} {a b:Int}:
  ∃bs:List Blk,leave m0 ⟨stk++[cur],c',nx',own::live',fl'⟩ (.tup [.arr (stk++[cur]).length k st off len,.agg [.int .i64 a,.int .i64 b]])=some (.tup [.arr stk.length (k+cur.length) st off len,.agg [.int .i64 a,.int .i64 b]],⟨stk,cur++bs,nx',live',m0.floor⟩)∧
   ∀ws,c'[k]? =some ⟨st,ints ws⟩→bs[k]? =some ⟨st,ints ws⟩:=by
 have e:own.filter (fun _=>false)=[]:=by simp
 refine⟨c'.map fun b=>⟨b.st,shiftAll (stk++[cur]).length ((stk++[cur]).length-1) cur.length b.cs⟩,?_,?_⟩
 ·unfold leave
  simp only[w53,w41,Option.some_or,AV.refs,refsAny,beq_self_eq_true,Bool.true_or,if_true,AV.toks,toksAll,w21,w5b,e,pushToks,w54,AV.shift,shiftAll]
  simp
 ·intro ws h
  rw[w22,h,w06,Zr]
theorem Wx (ws W:List (Nat×Nat)) (hg:GoodP ws) (hle:ws.length≤W.length) (hW: ∀j,j<ws.length→W.getD j (0,0)=ws.getD j (0,0)) (fields:List DField) (v:AV) (q1:IsSl IsField 2 fields v) (hf: ∀f∈fields,0≤f.typ∧f.typ<ws.length) (hlen:fields.length≤100)
  (stk:List (List Blk)) (cur:List Blk) (nx fl:Nat) (live:List (List Nat)) (lv kb st:Nat) (hlv:lv≤stk.length) (hb:((stk++[cur]).getD lv [])[kb]? =some ⟨st,prs W⟩):
  ∃bs j s k,CALL tab 206 [.arr lv kb st 0 W.length,v] ⟨stk,cur,nx,live,fl⟩=some (.tup [.arr stk.length (cur.length+j) s 0 fields.length,.agg [.int .i64 ((togEnd 1048576 ws fields).1:Nat),.int .i64 ((togEnd 1048576 ws fields).2:Nat)]],⟨stk,cur++bs,k,live,fl⟩)∧bs[j]? =some ⟨s,ints (tog 1048576 ws fields).1⟩:=by
 suffices h:Does tab 206 [.arr lv kb st 0 W.length,v] ⟨stk,cur,nx,live,fl⟩ fun r m'=> ∃bs j s k,r= .tup [.arr stk.length (cur.length+j) s 0 fields.length,.agg [.int .i64 ((togEnd 1048576 ws fields).1:Nat),.int .i64 ((togEnd 1048576 ws fields).2:Nat)]]∧m'=⟨stk,cur++bs,k,live,fl⟩∧bs[j]? =some ⟨s,ints (tog 1048576 ws fields).1⟩ by
  obtain⟨z,h1,bs,j,s,k,h2,h3,h4⟩:=h
  grind
 refine yD (tT ZQ) ?_ (Nat.le_of_ble_eq_true rfl)
 have hmk: ∀m:Mem,evMake m 1 8 [.int .i64 0] (.int .i64 fields.length) (.int .i64 fields.length)=some (.arr m.stk.length m.cur.length m.nx 0 fields.length,{m with cur:=m.cur++[⟨m.nx,ints (List.replicate fields.length 0)⟩],nx:=m.nx+1}):=fun m=>by
  unfold evMake
  simp only
  rw[if_pos ⟨trivial,by omega,by omega,by omega,rfl⟩,w07,z32]
 have hne:(lv==(stk++[cur]).length)=false:=by simp;omega
 simp only[ZQ,go_sem,G3,G6,G9,G8,q1.len,hmk,evBuild]
 refine zg (α:=Nat) (fun k σ=>k≤fields.length∧ ∃nz,heads [0,5,6,7,15,16,17] 3 σ=⟨tmps 68 [(0,.arr lv kb st 0 W.length),(5,.ptr (stk++[cur]).length 0 nx 0),(6,.arr (stk++[cur]).length 1 (nx+1) 0 fields.length),(7,.ptr (stk++[cur]).length 2 (nx+1+1) 0),(15,v),(16,.int .i64 fields.length),(17,.int .i64 k)],
  ⟨stk++[cur],[⟨nx,[.int .i64 0,.int .i64 0]⟩,⟨nx+1,ints ((tog 1048576 ws (fields.take k)).1++List.replicate (fields.length-k) 0)⟩,⟨nx+1+1,[.int .i64 ((tog 1048576 ws (fields.take k)).2.1:Nat),.int .i64 ((tog 1048576 ws (fields.take k)).2.2:Nat)]⟩],nz,[]::live,fl⟩⟩) (fun k=>fields.length-k) 0 ?_ ?_
 ·refine⟨w0e _,?_⟩
  simp only[go_sem,G6,G7,tog,w1a,List.foldl_nil,Nat.sub_zero]
  simp
 ·rintro k σ ⟨hk,nz,hσ⟩
  rw[hσ]
  clear hσ σ
  dsimp only at hk⊢
  obtain⟨g1,g2,g3⟩:=Z8 (far:=1048576) (w08 _) hg hf k hk
  by_cases h:k<fields.length
  ·have e2:nth v k= .agg [.str fields[k].name,.int .i64 fields[k].typ]:=q1.nth h
   have hat2:=q1.at .i64 h
   have hfk:=hf _ (w04 h)
   have hgk:=hg.get (j:=fields[k].typ.toNat) (by omega)
   have hix:=uG .i64 (p:=fields[k].typ) (n:=W.length) ⟨hfk.1,by omega⟩
   have hld:=z2u (ws:=W) (j:=fields[k].typ.toNat) (by omega)
   rw[hW _ (by omega)] at hld
   have hts:=jw 1048576 ws h
   unfold togStep at hts
   generalize tog 1048576 ws (fields.take k)=s at*
   obtain⟨offs,en,mo⟩:=s
   dsimp only at g1 g2 g3
   generalize ws.getD fields[k].typ.toNat (0,0)=pr at*
   have hix2:=uG .i64 (p:=(k:Int)) (n:=fields.length) (by omega)
   rw[w07] at hix2
   have hsz:offs.length=k:=g1
   have hcl:decide (k+1≤(ints (offs++List.replicate (fields.length-k) 0)).length)=true:=by rw[Zf];simp;omega
   have hset:=YE (ws:=offs++List.replicate (fields.length-k) 0) (j:=k) (up en pr.2) (by simp;omega)
   rw[WJ hsz h] at hset
   have hg2:=V2 (ws:=offs++[up en pr.2]++List.replicate (fields.length-(k+1)) 0) (j:=k) (by simp;omega)
   have hv2:(offs++[up en pr.2]++List.replicate (fields.length-(k+1)) 0).getD k 0=up en pr.2:=by
    grind
   rw[hv2] at hg2
   have hup:=XM (n:=en) hgk.2
   have ew:IntKind.i64.wrap ((up en pr.2:Nat)+(pr.1:Nat))=((up en pr.2+pr.1:Nat):Int):=by rw[z6 (by omega) (by omega)];omega
   simp only[go_sem,G3,G6,G9,G7,G8,w02,h,hat2,e2,z7,hix,hne,hb,hld,U4 hgk.2 (show en≤4194304 by omega),hix2,w11,hcl,hset,hg2,ew,z5z,z8l,evBuild,zq h q1.max]
   refine⟨k+1,by omega,h,nz+1+1,?_⟩
   rw[hts]
  ·have:k=fields.length:=by omega
   subst this
   rw[w0a,Nat.sub_self,List.replicate_zero,w21] at*
   have hup:=XM (n:=(tog 1048576 ws fields).2.1) g3
   have hfar:=zb7 g3 g2
   simp only[go_sem,G3,G6,G9,G7,G8,w02,h,U4 g3 (show(tog 1048576 ws fields).2.1≤4194304 by omega)]
   obtain⟨bs,hbs,hgb⟩:=z6C (m0:=⟨stk,cur,nx,live,fl⟩) (stk:=stk) (cur:=cur) (c':=[⟨nx,[.int .i64 ((up (tog 1048576 ws fields).2.1 (tog 1048576 ws fields).2.2:Nat):Int),.int .i64 ((tog 1048576 ws fields).2.2:Nat)]⟩,⟨nx+1,ints (tog 1048576 ws fields).1⟩,⟨nx+1+1,[.int .i64 ((up (tog 1048576 ws fields).2.1 (tog 1048576 ws fields).2.2:Nat):Int),.int .i64 ((tog 1048576 ws fields).2.2:Nat)]⟩]) (nx':=nz) (own:=[]) (live':=live) (fl':=fl) (k:=1) (st:=nx+1) (off:=0) (len:=fields.length) (a:=((up (tog 1048576 ws fields).2.1 (tog 1048576 ws fields).2.2:Nat):Int)) (b:=((tog 1048576 ws fields).2.2:Nat))
   rw[hbs,z5]
   refine⟨bs,1,nx+1,nz,?_,rfl,hgb _ rfl⟩
   unfold togEnd
   grind
theorem jz {A:List (Nat×Nat)} {n i:Nat} {v:Nat×Nat} (h:A.length=i) (hi:i<n):(A++List.replicate (n-i) (0,0)).set i v=A++[v]++List.replicate (n-(i+1)) (0,0):=by
 rw[List.set_append,if_neg (by omega)]
 rw[show n-i=(n-(i+1))+1 by omega,w44,show i-A.length=0 by omega]
 simp
theorem Xa {A B:List (Nat×Nat)} {j:Nat} (h:j<A.length):(A++B).getD j (0,0)=A.getD j (0,0):=by
 grind
theorem z4u {m0:Mem} {stk:List (List Blk)} {cur c':List Blk} {nx' fl':Nat} {own:List Nat} {live':List (List Nat)} {k st off len:Nat}:
  ∃bs:List Blk,leave m0 ⟨stk++[cur],c',nx',own::live',fl'⟩ (.arr (stk++[cur]).length k st off len)=some (.arr stk.length (k+cur.length) st off len,⟨stk,cur++bs,nx',live',m0.floor⟩)∧
   ∀ws,c'[k]? =some ⟨st,prs ws⟩→bs[k]? =some ⟨st,prs ws⟩:=by
 have e:own.filter (fun _=>false)=[]:=by simp
 refine⟨c'.map fun b=>⟨b.st,shiftAll (stk++[cur]).length ((stk++[cur]).length-1) cur.length b.cs⟩,?_,?_⟩
 ·unfold leave
  simp only[w53,w41,Option.some_or,AV.refs,beq_self_eq_true,if_true,AV.toks,w5b,e,pushToks,w54,AV.shift]
  simp
 ·intro ws h
  rw[w22,h,w06,z0n]
theorem qi (l:List DTyp) (x:AV) (hx:IsSl IsTyp 4 l x) (hv:ValidT l) (hl:l.length≤100) (stk:List (List Blk)) (cur:List Blk) (nx fl:Nat) (live:List (List Nat)):
  ∃bs j st k,CALL tab 205 [x] ⟨stk,cur,nx,live,fl⟩=some (.arr stk.length (cur.length+j) st 0 l.length,⟨stk,cur++bs,k,live,fl⟩)∧bs[j]? =some ⟨st,prs (exts 1048576 l)⟩:=by
 suffices h:Does tab 205 [x] ⟨stk,cur,nx,live,fl⟩ fun v m'=> ∃bs j st k,v= .arr stk.length (cur.length+j) st 0 l.length∧m'=⟨stk,cur++bs,k,live,fl⟩∧bs[j]? =some ⟨st,prs (exts 1048576 l)⟩ by
  obtain⟨z,h1,bs,j,st,k,h2,h3,h4⟩:=h
  grind
 refine yD (tT qn) ?_ (Nat.le_of_ble_eq_true rfl)
 have hmk: ∀m:Mem,evMake m 2 16 [.int .i64 0,.int .i64 0] (.int .i64 l.length) (.int .i64 l.length)=some (.arr m.stk.length m.cur.length m.nx 0 l.length,{m with cur:=m.cur++[⟨m.nx,prs (List.replicate l.length (0,0))⟩],nx:=m.nx+1}):=fun m=>by
  unfold evMake
  simp only
  rw[if_pos ⟨trivial,by omega,by omega,by omega,rfl⟩,w07,z9N]
 simp only[qn,go_sem,G6,G8,hx.len,hmk]
 refine zg (α:=Nat) (fun i σ=>i≤l.length∧ ∃nz,heads [3,10,11,12] 1 σ=⟨tmps 77 [(3,.arr (stk++[cur]).length 0 nx 0 l.length),(10,x),(11,.int .i64 l.length),(12,.int .i64 i)],
  ⟨stk++[cur],[⟨nx,prs (exts 1048576 (l.take i)++List.replicate (l.length-i) (0,0))⟩],nz,[]::live,fl⟩⟩) (fun i=>l.length-i) 0 ?_ ?_
 ·refine⟨w0e _,?_⟩
  simp only[go_sem,G6,G7,exts,w1a,List.foldl_nil,Nat.sub_zero]
  simp
 ·rintro i σ ⟨hi,nz,hσ⟩
  rw[hσ]
  clear hσ σ
  dsimp only at hi⊢
  by_cases h:i<l.length
  ·have hfine:=hv i h
   obtain⟨v,e1,q1⟩:=hx.nth h
   have hat:=hx.at .i64 h
   have hsucc:=zq h hx.max
   have hAl:=xz 1048576 l i hi
   have hrs:=jl 1048576 h
   have hgood:=jm (far:=1048576) (w08 _) hv i hi
   have hflen:=tA hfine
   generalize hout:exts 1048576 (l.take i)=A at*
   generalize ht:l[i]=t at*
   clear ht
   generalize hn:l.length=n at*
   obtain⟨kind,elem,len,fields⟩:=t
   dsimp only at e1 q1 hflen
   have hix2:=uG .i64 (p:=(i:Int)) (n:=n) (by omega)
   rw[w07] at hix2
   have hcl:decide (i*2+2≤(prs (A++List.replicate (n-i) (0,0))).length)=true:=by rw[z9O];simp;omega
   simp only[go_sem,G3,G6,G7,G8,w02,h,hat,e1,q1.one]
   by_cases k1:kind=1
   ·subst k1
    have hV:((1:Nat),(1:Nat))=ext1 1048576 A ⟨1,elem,len,fields⟩:=rfl
    simp only[go_sem,G6,G8]
    have hset:(prs (A++List.replicate (n-i) (0,0))).take (i*2)++[.int .i64 1,.int .i64 1]++(prs (A++List.replicate (n-i) (0,0))).drop (i*2+2)=prs ((A++List.replicate (n-i) (0,0)).set i (1,1)):=k8 (A++List.replicate (n-i) (0,0)) i 1 1 (by simp;omega)
    rw[jz hAl h] at hset
    simp only[go_sem,G3,G6,G9,G8,evBuild,z7,hix2,hcl,hset,hsucc]
    refine⟨i+1,by omega,h,?_⟩
    simp_all
   have k1':(kind==1)=false:=by simpa using k1
   by_cases k2:kind=2
   ·subst k2
    have hV:((8:Nat),(8:Nat))=ext1 1048576 A ⟨2,elem,len,fields⟩:=rfl
    simp only[go_sem,G6,G8,k1']
    have hset:(prs (A++List.replicate (n-i) (0,0))).take (i*2)++[.int .i64 8,.int .i64 8]++(prs (A++List.replicate (n-i) (0,0))).drop (i*2+2)=prs ((A++List.replicate (n-i) (0,0)).set i (8,8)):=k8 (A++List.replicate (n-i) (0,0)) i 8 8 (by simp;omega)
    rw[jz hAl h] at hset
    simp only[go_sem,G3,G6,G9,G8,evBuild,z7,hix2,hcl,hset,hsucc]
    refine⟨i+1,by omega,h,?_⟩
    simp_all
   have k2':(kind==2)=false:=by simpa using k2
   by_cases k4:kind=4
   ·subst k4
    have hV:((8:Nat),(8:Nat))=ext1 1048576 A ⟨4,elem,len,fields⟩:=rfl
    simp only[go_sem,G6,G8,k1',k2']
    have hset:(prs (A++List.replicate (n-i) (0,0))).take (i*2)++[.int .i64 8,.int .i64 8]++(prs (A++List.replicate (n-i) (0,0))).drop (i*2+2)=prs ((A++List.replicate (n-i) (0,0)).set i (8,8)):=k8 (A++List.replicate (n-i) (0,0)) i 8 8 (by simp;omega)
    rw[jz hAl h] at hset
    simp only[go_sem,G3,G6,G9,G8,evBuild,z7,hix2,hcl,hset,hsucc]
    refine⟨i+1,by omega,h,?_⟩
    simp_all
   have k4':(kind==4)=false:=by simpa using k4
   by_cases k3:kind=3
   ·subst k3
    have hV:((16:Nat),(8:Nat))=ext1 1048576 A ⟨3,elem,len,fields⟩:=rfl
    simp only[go_sem,G6,G8,k1',k2',k4']
    have hset:(prs (A++List.replicate (n-i) (0,0))).take (i*2)++[.int .i64 16,.int .i64 8]++(prs (A++List.replicate (n-i) (0,0))).drop (i*2+2)=prs ((A++List.replicate (n-i) (0,0)).set i (16,8)):=k8 (A++List.replicate (n-i) (0,0)) i 16 8 (by simp;omega)
    rw[jz hAl h] at hset
    simp only[go_sem,G3,G6,G9,G8,evBuild,z7,hix2,hcl,hset,hsucc]
    refine⟨i+1,by omega,h,?_⟩
    simp_all
   have k3':(kind==3)=false:=by simpa using k3
   by_cases k7:kind=7
   ·subst k7
    have hV:((24:Nat),(8:Nat))=ext1 1048576 A ⟨7,elem,len,fields⟩:=rfl
    simp only[go_sem,G6,G8,k1',k2',k4',k3']
    have hset:(prs (A++List.replicate (n-i) (0,0))).take (i*2)++[.int .i64 24,.int .i64 8]++(prs (A++List.replicate (n-i) (0,0))).drop (i*2+2)=prs ((A++List.replicate (n-i) (0,0)).set i (24,8)):=k8 (A++List.replicate (n-i) (0,0)) i 24 8 (by simp;omega)
    rw[jz hAl h] at hset
    simp only[go_sem,G3,G6,G9,G8,evBuild,z7,hix2,hcl,hset,hsucc]
    refine⟨i+1,by omega,h,?_⟩
    simp_all
   have k7':(kind==7)=false:=by simpa using k7
   by_cases k6:kind=6
   ·subst k6
    have hel:=hflen.2.2.2.1 rfl
    have hle:=hflen.2.1 rfl
    have hge:=hgood.get (j:=elem.toNat) (by omega)
    have hix:=uG .i64 (p:=elem) (n:=n) ⟨hel.1,by omega⟩
    have hld:=z2u (ws:=A++List.replicate (n-i) (0,0)) (j:=elem.toNat) (by simp;omega)
    rw[Xa (by omega)] at hld
    have hV:(min 1048576 (len.toNat*(A.getD elem.toNat (0,0)).1),(A.getD elem.toNat (0,0)).2)=ext1 1048576 A ⟨6,elem,len,fields⟩:=rfl
    generalize A.getD elem.toNat (0,0)=pr at*
    have hmul:len.toNat*pr.1≤16*1048576:=Nat.mul_le_mul (by omega) hge.1
    have ew:IntKind.i64.wrap (len*(pr.1:Int))=((len.toNat*pr.1:Nat):Int):=by
     have:len*(pr.1:Int)=((len.toNat*pr.1:Nat):Int):=by rw[Int.natCast_mul,w45 (by omega)]
     rw[this,z6 (by omega) (by omega)]
    simp only[go_sem,G3,G6,G9,G8,k1',k2',k4',k3',k7',z7,hix,hld,ew,z5z,evBuild]
    have hset:=k8 (A++List.replicate (n-i) (0,0)) i (min 1048576 (len.toNat*pr.1)) (pr.2) (by simp;omega)
    rw[jz hAl h] at hset
    simp only[go_sem,G3,G6,G8,hix2,hcl,hset,hsucc]
    refine⟨i+1,by omega,h,?_⟩
    simp_all
   have k6':(kind==6)=false:=by simpa using k6
   have k5:kind=5:=by
    rcases hfine with⟨h1,_⟩|⟨h1,_⟩|⟨h1,_⟩|⟨h1,_⟩<;>dsimp only at h1<;>omega
   subst k5
   have hV:togEnd 1048576 A fields=ext1 1048576 A ⟨5,elem,len,fields⟩:=rfl
   obtain⟨bs,j,s,k,hcall,_⟩:=Wx A (A++List.replicate (n-i) (0,0)) hgood (by simp) (fun j hj=>Xa hj) fields v q1 (by rw[hAl];exact hflen.2.2.2.2.2) (by omega) (stk++[cur])
    [⟨nx,prs (A++List.replicate (n-i) (0,0))⟩,⟨nz,[.int .u8 5,.int .i64 elem,.int .i64 len,v]⟩] (nz+1) fl ([]::live) (stk++[cur]).length 0 nx (w08 _) (by simp)
   have hlW:List.length (A++List.replicate (n-i) ((0:Nat),(0:Nat)))=n:=by simp;omega
   rw[hlW] at hcall
   simp only[go_sem,G3,G6,G8,k1',k2',k4',k3',k7',k6',hcall]
   generalize togEnd 1048576 A fields=pr at*
   have hset:=k8 (A++List.replicate (n-i) (0,0)) i (pr.1) (pr.2) (by simp;omega)
   rw[jz hAl h] at hset
   simp only[go_sem,G3,G6,G8,z7,hix2,hcl,hset,hsucc]
   refine⟨i+1,by omega,h,?_⟩
   simp_all
  ·have:i=l.length:=by omega
   subst this
   rw[w0a,Nat.sub_self,List.replicate_zero,w21]
   simp only[go_sem,G6,G7,G8,w02,h]
   obtain⟨bs,hbs,hgb⟩:=z4u (m0:=⟨stk,cur,nx,live,fl⟩) (stk:=stk) (cur:=cur) (c':=[⟨nx,prs (exts 1048576 l)⟩]) (nx':=nz) (own:=[]) (live':=live) (fl':=fl) (k:=0) (st:=nx) (off:=0) (len:=l.length)
   rw[hbs,z5]
   grind
end Go.Proofs.W
end
