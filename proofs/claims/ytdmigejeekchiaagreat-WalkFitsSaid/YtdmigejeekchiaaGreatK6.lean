/-
  Part 7 of the proof, shared by claims of this seat: UZW4, UZW7, UTie, URead.
-/
import Derived.Test.YtdmigejeekchiaaGreatK5
import Derived.Test.YtdmigejeekchiaaGreatK2
import Derived.Test.YtdmigejeekchiaaGreatProg
import Derived.KernelRfl
import Derived.Test.YtdmigejeekchiaaGreatK3
set_option maxHeartbeats 64000000
set_option maxRecDepth 1000000
set_option linter.unusedVariables false
set_option linter.unusedSimpArgs false
open Nat renaming reduceMul → G2, reduceAdd → G3, reduceSub → G4, reduceEqDiff → G6, reduceBEq → G7, reduceLT → G8, reduceLeDiff → G9, min_eq_left → w10, zero_add → w2d
open Int renaming reduceEq → H0, reduceLT → H1, reduceLE → H2, reduceAdd → H3, reduceSub → H4, reduceMul → H5, reducePow → H6, reduceToNat → H7, ofNat_lt → w02, toNat_natCast → w09, toNat_zero → w1d, toNat_of_nonneg → w30
open Option renaming map_some → w06, map_none → w13, getD_some → w27
open List renaming getD_eq_getElem?_getD → w03, getElem_mem → w04, mem_append → w0b, take_succ_cons → w0e, drop_succ_cons → w14, getElem?_eq_getElem → w16, drop_zero → w17, take_zero → w18, append_nil → w20, getElem?_map → w21, mem_cons_self → w22, ext_getElem? → w25, cons_append → w26, mem_cons_of_mem → w28, nil_append → w2f, flatten_cons → w3f, all_eq_true → w46, mem_append_left → w52, length_nil → w56, mem_append_right → w57, mem_iff_getElem → w59
open Bool renaming and_eq_true → w0a, false_and → w19, and_false → w1a, or_eq_false_iff → w2b
section
namespace Go.Proofs.W
open Go.Vs
attribute [local go_sem high] zq zV
attribute [local go_sem ↓] w06 w13
attribute [local go_sem low] Yc Yt Yf Yut Yuf yF yG yD yE
attribute [local go_sem 2000] zM
attribute [local go_sem] xH xF xI xG zT zw yc zR zY zu yA yy yx hd kep yw w02 AV.bool.injEq AV.int.injEq not_true_eq_false not_false_eq_true true_implies false_implies and_true true_and implies_true zp zJ zI zo zK zx zg zb zn zC zB zm zD zA zf zc w09 zE zF ya w1d evShift IntKind.bits zN zG zH z7 z9 zS zy w10 yC yB allLen zh AV.tup.injEq List.cons.injEq AV.agg.injEq zX zW evBuild yz zP zt zO eqC0 eqC1 eqC2 zQ w1a w19
theorem Tu (d:DDump) (y:AV) (hy:IsDump d y) (g:Nat) (hd:WalkD d g) (m:Mem) (hf:m.floor≤m.stk.length+1):
  OkT tab 67 [y,.int .i64 (g:Int)] m fun r _ _=> ∃y l b,r= .tup [y,.bool b]∧IsSl IsFrame 8 l y∧walkN d (stackB g) 200 (rtD d g).code (rtD d g).sp none=if b=true then some l else none:=by
 obtain⟨v0,v1,v2,v3,v4,v5,v6,v7,rfl,h⟩:=IsDump.v hy
 obtain⟨q,hq⟩:=regs h.s
 have hb:=hd.b
 have hr1:d.routines[g]'hd.r=rtD d g:=by simp[rtD,w03,hd.r]
 have hs1:(d.stacks[g]'hd.s).base=stackB g:=by rw[←hd.b];simp[w03,hd.s]
 have f0:=nd h.s.z (nd h.r.z h.o)
 have f:=nd f0 (nd hr1 (nd hs1 (nd hd.r (nd hd.s (nd (fun j hj=>nd (hq j hj).1 (hq j hj).2.1.z.1) (nthH h.r))))))
 refine oktz (tT vy) fun s c x v fl e=> ?_
 subst e
 simp at hf
 refine xg [6,8,9,10] (fun(z:Nat×List DFrame×Int×Int) v e b=>Walking d g z.1 z.2.1 z.2.2.1 z.2.2.2∧Own IsFrame 8 (v 6) z.2.1 e∧v 8= .int .u64 z.2.2.1∧v 9= .int .u64 z.2.2.2∧v 10= .bool (calledB z.2.1)∧b=[⟨x,[v0,v1,v2,.int .u8 d.ended.outcome,.int .i64 d.ended.failing,.int .i64 d.ended.steps,.int .u64 d.heap.base,v3,v4,v5,v6,v7]⟩]) (fun z=>z.1) (200,[],(rtD d g).code,(rtD d g).sp) ?_ ?_
 ·exact nd (Walking.start hd) (nd (.nil _) rfl)
 rintro⟨n,l,cc,en⟩ v e nz bs ⟨hW,ho,h8,h9,h10,hbs⟩
 dsimp only at*
 subst hbs
 have hbad:=fun h=>hW.bad h
 have hfi:= @ZW d.image cc hW.c.1
 have hsz:= @YP d.image hd.w.image cc hW.c.1
 have hhs:(findR d.image cc).2.2≠0→frameOk d (stackB g) cc en=false:=fun h=>by simp[frameOk,sizeR,h]
 have hst:frameOk d (stackB g) cc en=false→stepR d (stackB g) cc en l.getLast? =none:=fun h=>by simp[stepR,h]
 refine ow (jz d.image _ h.i hd.w.image (by have:=hd.n;omega) cc hW.c _ (by simp;omega)) fun k=> ?_
 refine ifs (fun hF=> ?_) fun hF=> ?_
 ·exact ft0 fun _=>⟨.nils,[],false,rfl,.nil _,by rw[hW.bad (hst (hhs hF))];rfl⟩
 have hF:(findR d.image cc).2.2=0:=by simpa using hF
 obtain⟨hi0,hi1,hi2,hi3,hi4⟩:=hfi hF
 obtain⟨j,hj⟩: ∃j:Nat,(findR d.image cc).1=j:=⟨_,(w30 hi1).symm⟩
 have hjl:j<d.image.funcs.length:=by omega
 rw[hj,w09,←vk hjl] at hi4
 have hcl:=((tY hi0).fn hjl).2.2.2.2.1
 have hB:stackB g=16777216*((g:Int)+1):=rfl
 have hgs:=hd.s
 have hgl:=hd.l
 have hln:=hW.n
 have hen:=hW.e
 have hsl:=ho.sl (by omega)
 have f:=nd f0 (nd hsl.z (nd hj (fun n hn m=>(WG d.heap d.stacks _ _ h.h h.s (by omega) n hn m).eq)))
 have hstep: ∀x,(∀a,l.getLast? =some a→fitsR d.image a j (findR d.image cc).2.1=true)→frameOk d (stackB g) cc en=true→x=lower (frameD d cc en) (calledB l=true)→stepR d (stackB g) cc en l.getLast? =some x:=fun x h1 h2 h3=>by
  subst h3
  unfold stepR calledB
  rw[if_pos h2]
  cases hl:l.getLast? with
  |none=>simp[lower]
  |some a=>
   have h4:=h1 a hl
   rw[←hj] at h4
   simp[h4,lower,frameD]
 rcases List.eq_nil_or_concat l with rfl|⟨l,a,rfl⟩
 rotate_left
 have f:=nd f (nd (show((l.concat a).length:Int)=l.length+1 by simp) (nd (show nth (v 6) l.length=frA a by have:=hsl.nth (i:=l.length) (by simp);simp only[List.concat_eq_append,List.getElem_concat_length] at this;exact this) (nd (show(l.length:Int)+1>0 by omega)<|nd (@Int.add_sub_cancel) (fun(i:Int) hi m=>(z1h d.image _ h.i a j hjl i hi m).eq))))
 refine st ?_
 refine ifs (fun hfit=> ?_) fun hfit=> ?_
 rotate_left
 ·exact ft0 fun _=>⟨.nils,[],false,rfl,.nil _,by rw[hW.bad (by unfold stepR;split<;>simp[hj,frameD,hfit])];rfl⟩
 have f:=nd f (show¬(((0:Nat):Int)>0) by decide)
 refine st ?_
 replace hstep:=fun x=>hstep x (by simp)
 generalize ([]:List DFrame)=l at*
 rotate_left
 replace hstep:=fun x=>hstep x (by simpa using hfit)
 generalize l.concat a=l at*
 all_goals
  have f:=nd f0 (nd hsl.z (nd ho.co (nd hj (fun n hn m=>(WG d.heap d.stacks _ _ h.h h.s (by omega) n hn m).eq))))
  refine ow (z1n d.image _ h.i hd.w.image (by have:=hd.n;omega) cc hW.c _ (by simp;omega)) fun k=> ?_
  refine ifs (fun hs2=> ?_) fun hs2=> ?_
  ·exact ft0 fun _=>⟨.nils,[],false,rfl,.nil _,by rw[hW.bad (hst (by simp[frameOk,hs2]))];rfl⟩
  refine ifs (fun hs3=> ?_) fun hs3=> ?_
  ·exact ft0 fun _=>⟨.nils,[],false,rfl,.nil _,by rw[hW.bad (hst (by simp[frameOk];intro _ _;omega))];rfl⟩
  have hs2:(sizeR d.image cc).2=0:=by simpa using hs2
  obtain⟨_,hz1,hz2⟩:=hsz hs2
  cases hcb:calledB l
  all_goals
   have f:=nd f hcb
   refine st ?_
   refine ifs (fun hc=> ?_) fun hc=> ?_
   rotate_left
   ·exact ft0 fun _=>⟨.nils,[],false,rfl,.nil _,by rw[hW.bad (hst<|decide_eq_false (fun hh=>hc (by simpa [frameD,wordD] using hh.2.2)))];rfl⟩
   have hx:=hstep _ (decide_eq_true ⟨hs2,by omega,by simpa [frameD,wordD] using hc⟩) rfl
   refine oa ho (yg (show IsFrame (lower (frameD d cc en) (calledB l=true)) _ from ?_)) (by simp;omega) fun y n e ho=> ?_
   ·rw[hcb]
    simp[IsFrame,lower,frameD,hj,wordD]
   obtain⟨x1,x2,x3,x4⟩:=z9M (frameD d cc en) (calledB l=true)
   have x1:(lower (frameD d cc en) (calledB l=true)).caller=(wordR d.heap d.stacks (en-(sizeR d.image cc).1)).1:=x1
   have x2:(lower (frameD d cc en) (calledB l=true)).start=en-(sizeR d.image cc).1:=x2
   have x3:(lower (frameD d cc en) (calledB l=true)).mode=(wordR d.heap d.stacks (en-(sizeR d.image cc).1+8)).1:=x3
   have x4:(lower (frameD d cc en) (calledB l=true)).record=(wordR d.heap d.stacks (en-(sizeR d.image cc).1+16)).1:=x4
   generalize lower (frameD d cc en) (calledB l=true)=X at*
   rw[←x3,←x4,←x1,←x2]
   have f:=nd f ho.co
   refine ifs (fun h0=> ?_) fun h0=> ?_
   ·have hl:=hW.last hx h0
    refine ifs (fun hm=> ?_) fun hm=> ?_
    all_goals
     refine ft ?_ fun _ _=>⟨y,l++[X],_,rfl,ho.sl (by simp;omega),by rw[hl];simp[hm]⟩
     refine st ?_
     trivial
   ·obtain⟨n',rfl,hN⟩:=hW.next hd hx h0
    exact⟨(n',l++[X],X.caller,X.start),by dsimp only;omega,hN,ho,rfl,rfl,by simp[calledB]⟩
attribute [go_sem] xR xA
noncomputable def askedR (d:DDump) (g:Int):Int:=if ok28 d=false then 8 else if g<0∨g≥d.routines.length then 2 else 0
theorem qP (d:DDump) (y:AV) (hy:IsDump d y) (hw:WfDump d) (hL:large28 d=false) (g:Int) (m:Mem) (hf:m.floor≤m.stk.length+1):Okv tab 22 [y,.int .i64 g] m (.int .i64 (askedR d g)):=by
 have hC:=fun m hf=>QN d y hy hw hL m hf
 obtain⟨v0,v1,v2,v3,v4,v5,v6,v7,rfl,h⟩:=IsDump.v hy
 have f:=nd h.o h.r.z
 refine okz (tT u6) fun s c x v fl e=> ?_
 subst e
 refine ow (hC _ (by simp at*;omega)) fun k=> ?_
 cases hk:ok28 d
 ·have f:=hk
  refine st ?_
  simp[askedR,hk]
 ·have f:=nd f (show(if true=true then(0:Int) else 8)=0 from rfl)
  refine st ?_
  repeat' first|refine ifs ?_ ?_|intro
  all_goals simp only[askedR,hk];clear f;grind
theorem z3F {d:DDump} {g:Int} (h:askedR d g≠0):framesR d g=([],askedR d g):=by
 unfold askedR framesR at*
 split
 ·rfl
 ·rename_i h1
  rw[if_neg h1] at h
  split
  ·rfl
  ·rename_i h2
   rw[if_neg h2] at h
   exact absurd rfl h
theorem Vv {d:DDump} {g:Int} (h:askedR d g=0):ok28 d=true∧0≤g∧g<d.routines.length:=by
 unfold askedR at h
 split at h
 ·simp at h
 ·split at h
  ·simp at h
  ·rename_i h1 h2
   exact⟨by simpa using h1,by omega⟩
theorem U6 {d:DDump} {j:Nat} (hk:ok28 d=true) (hj:j<d.routines.length):framesR d j=if(rtD d j).status=3 then([],(0:Int)) else match walkN d (stackB j) 200 (rtD d j).code (rtD d j).sp none with|none=>([],12)|some l=>(l,0):=by
 unfold framesR
 rw[if_neg (by simp[hk]),if_neg (by omega),w09]
 all_goals rfl
theorem Tv (d:DDump) (y:AV) (hy:IsDump d y) (hw:WfDump d) (hL:large28 d=false) (g:Int) (m:Mem) (hf:m.floor≤m.stk.length+1):OkT tab 18 [y,.int .i64 g] m fun r _ _=> ∃y,r= .tup [y,.int .i64 (framesR d g).2]∧IsSl IsFrame 8 (framesR d g).1 y:=by
 have hC:=fun m hf=>qP d y hy hw hL g m hf
 have hWk:=fun(j:Nat) hd m hf=>Tu d y hy j hd m hf
 have hs:=SmD.of hw hL
 have hn:d.image.funcs.length≤40:=by have:=hs.g;simp[great09] at this;omega
 obtain⟨v0,v1,v2,v3,v4,v5,v6,v7,rfl,h⟩:=IsDump.v hy
 have f:=nd h.o (nd h.r.z (nthH h.r))
 refine oktz (tT vz) fun s c x v fl e=> ?_
 subst e
 refine ow (hC _ (by simp at*;omega)) fun k=> ?_
 refine ifs (fun h1=> ?_) fun h1=> ?_
 ·exact ft0 fun _=>⟨.nils,by rw[z3F h1],by rw[z3F h1];exact .nil _⟩
 obtain⟨hk,h2,h3⟩:=Vv (by simpa using h1)
 obtain⟨j,rfl⟩: ∃j:Nat,g=j:=⟨g.toNat,by omega⟩
 have hjr:j<d.routines.length:=by omega
 have hfr:=U6 hk hjr
 have f:=nd f (nd hjr (show d.routines[j]=rtD d j by simp[rtD,w03,hjr]))
 refine st ?_
 refine ifs (fun h4=> ?_) fun h4=> ?_
 ·rw[if_pos h4] at hfr
  exact ft0 fun _=>⟨.nils,by rw[hfr],by rw[hfr];exact .nil _⟩
 rw[if_neg h4] at hfr
 have hd:=WalkD.of hw hn hk hjr
 refine ot (hWk j hd _ (by simp at*;omega)) fun r t k hr=> ?_
 obtain⟨y,l,b,rfl,hsl,hwalk⟩:=hr
 rw[hwalk] at hfr
 have f:=hsl.co
 cases b
 ·refine st ?_
  exact ft0 fun _=>⟨.nils,by rw[hfr];rfl,by rw[hfr];exact .nil _⟩
 ·refine st ?_
  refine ft ?_ fun _ _=>⟨y,by rw[hfr];rfl,by rw[hfr];exact hsl⟩
  refine st ?_
  trivial
theorem WE (a b:List DFrame) (x y:AV) (hx:IsSl IsFrame 8 a x) (hy:IsSl IsFrame 8 b y) (m:Mem):Okv tab 19 [x,y] m (.bool (decide (a=b))):=by
 have f:=nd hx.z (nd hy.z (nd (fun j (hj:j<a.length)=>show nth x j=frA a[j] from hx.nth hj) fun j (hj:j<b.length)=>show nth y j=frA b[j] from hy.nth hj))
 have:=hx.max
 have hd:=fun x y:DFrame=>(show x=y↔x.start=y.start∧x.func=y.func∧x.at_=y.at_∧x.code=y.code∧x.size=y.size∧x.mode=y.mode∧x.record=y.record∧x.caller=y.caller by cases x;cases y;simp)
 refine okz (tT xR) fun s c x v g _=> ?_
 repeat' first|refine ifs ?_ ?_|intro
 any_goals refine xn 5 a.length [] (fun i _ _=> ∀j,j<i→a[j]? =b[j]?) 0 ?_ fun i v e nz hi hp=> ?_
 repeat' first|refine ifs ?_ ?_|intro
 all_goals clear f;grind [qH]
theorem z1x (d:DDump) (y:AV) (hy:IsDump d y) (hw:WfDump d) (g:Int) (m:Mem) (hf:m.floor≤m.stk.length+1):Okv tab 3 [y,.int .i64 g] m (.bool true):=by
 have hL:=fun m=>qQ d y hy m
 have hA:=fun hs m hf=>tR d y hy hs g m hf
 have hB:=fun z hz hl m hf=>Tv d z hz hw hl g m hf
 have hT:=fun hl m hf=>by
  have hl':large28 d=false:=hl
  simp only[large28,w2b] at hl
  obtain⟨⟨⟨h1,h2⟩,h3⟩,h4⟩:=hl
  exact z1i d y hy (SmallI.of h4) h1 h2 h3 m hf
 have hS:=fun z hz m=>z1j d d y z hy hz m
 obtain⟨v0,v1,v2,v3,v4,v5,v6,v7,rfl,h⟩:=IsDump.v hy
 have f:=h.o
 refine okz (tT xA) fun s c x v fl e=> ?_
 subst e
 refine ow (hL _) fun k=> ?_
 refine ifs (fun hl=> ?_) fun hl=> ?_
 ·trivial
 have hl:large28 d=false:=by simpa using hl
 refine ot (hT hl _ (by simp at*;omega)) fun z t k hz=> ?_
 have hS:=fun m=>hS z hz m
 have hB:=fun m hf=>hB z hz hl m hf
 obtain⟨w0,w1,w2,w3,w4,w5,w6,w7,rfl,h'⟩:=IsDump.v hz
 have f:=nd f h'.o
 refine st ?_
 refine ot (hA (SmD.of hw hl) _ (by simp at*;omega)) fun r1 t1 k1 hr1=> ?_
 obtain⟨y1,rfl,hy1⟩:=hr1
 have f:=nd f hy1.co
 refine st ?_
 refine ot (hB _ (by simp at*;omega)) fun r2 t2 k2 hr2=> ?_
 obtain⟨y2,rfl,hy2⟩:=hr2
 have f:=nd f (nd hy2.co (nd (fun m=>(WE _ _ _ _ hy1 hy2 m).eq) fun m=>(hS m).eq))
 refine st ?_
 trivial
end Go.Proofs.W
end
section
namespace Go.Proofs.W
open Go.Vs Go.Vs.Cd
def mk (f:Nat):List (List Nat):=if f=73 then [[777777,1500016,1500021,1500022]] else if f=301 then [[777777,31]] else if f=336 then [[777777,10]] else if f=375 then [[777777,28]] else []
theorem tie0:Ties Tryz.prog mk 3 C0:=by
 repeat' first|exact trivial|refine⟨by kernel_rfl,?_⟩
theorem tie1:Ties Tryz.prog mk 63 C1:=by
 repeat' first|exact trivial|refine⟨by kernel_rfl,?_⟩
theorem tie2:Ties Tryz.prog mk 123 C2:=by
 repeat' first|exact trivial|refine⟨by kernel_rfl,?_⟩
theorem tie3:Ties Tryz.prog mk 183 C3:=by
 repeat' first|exact trivial|refine⟨by kernel_rfl,?_⟩
theorem tie4:Ties Tryz.prog mk 243 C4:=by
 repeat' first|exact trivial|refine⟨by kernel_rfl,?_⟩
theorem tie5:Ties Tryz.prog mk 303 C5:=by
 repeat' first|exact trivial|refine⟨by kernel_rfl,?_⟩
theorem tie6:Ties Tryz.prog mk 363 C6:=by
 repeat' first|exact trivial|refine⟨by kernel_rfl,?_⟩
theorem tabOk:TabOk Tryz.prog tab:=z9s (((((((tie0).app rfl tie1).app rfl tie2).app rfl tie3).app rfl tie4).app rfl tie5).app rfl tie6)
end Go.Proofs.W
end
section
namespace Go.Proofs.W
open Go.Vs
theorem rd5 (n:Nat) (xs:List AV) (h:Typed Tryz.prog n 5 xs): ∃d y,xs=[y]∧IsK .u8 d y∧inU8 d:=by
 cases n with
 |zero=>exact absurd h zZ
 |succ n=>obtain⟨i,rfl,hw⟩:=Zo h Tryz.underlying5;exact⟨i,_,rfl,rfl,z9Y hw⟩
theorem rd3 (n:Nat) (xs:List AV) (h:Typed Tryz.prog n 3 xs): ∃d y,xs=[y]∧IsK .i64 d y∧in64 d:=by
 cases n with
 |zero=>exact absurd h zZ
 |succ n=>obtain⟨i,rfl,hw⟩:=Zo h Tryz.underlying3;exact⟨i,_,rfl,rfl,z5J hw⟩
theorem rd9 (n:Nat) (xs:List AV) (h:Typed Tryz.prog n 9 xs): ∃d y,xs=[y]∧IsStr d y∧strOk d:=by
 cases n with
 |zero=>exact absurd h zZ
 |succ n=>obtain⟨i,rfl,hw⟩:=z67 h Tryz.underlying9;exact⟨i,_,rfl,rfl,hw⟩
theorem cells214:Tryz.prog.cellsOf 214=2:=by kernel_rfl
theorem rd214 (n:Nat) (xs:List AV) (h:Typed Tryz.prog n 214 xs): ∃d,IsField d (.agg xs)∧WfField d:=by
 cases n with
 |zero=>exact absurd h zZ
 |succ n=>
  have hl:=vY h (by kernel_rfl) cells214
  match xs,hl with
  | [c0,c1],_=>
   have k0:=rd9 n _ (zl h (i:=0) (ft:=9) (off:=0) (c:=1) (by kernel_rfl) (by kernel_rfl))
   simp only[w14,w17,w0e,w18] at k0
   obtain⟨d0,y0,e0,p0,w0⟩:=k0
   injection e0 with e0 _
   subst e0
   cases p0
   have k1:=rd3 n _ (zl h (i:=1) (ft:=3) (off:=1) (c:=1) (by kernel_rfl) (by kernel_rfl))
   simp only[w14,w17,w0e,w18] at k1
   obtain⟨d1,y1,e1,p1,w1⟩:=k1
   injection e1 with e1 _
   subst e1
   cases p1
   exact⟨⟨d0,d1⟩,rfl,⟨w0,w1⟩⟩
theorem z3x:Tryz.prog.cellsOf 214=2:=by kernel_rfl
theorem rd64 (n:Nat) (xs:List AV) (h:Typed Tryz.prog n 64 xs): ∃d y,xs=[y]∧IsSl IsField 2 d y∧ ∀x∈d,WfField x:=by
 cases n with
 |zero=>exact absurd h zZ
 |succ n=>
  obtain⟨d,y,h1,h2⟩:=x7 (R:=fun d y=>IsField d y∧WfField d) h Tryz.underlying64 z3x (fun y h1 h2=>by
   obtain⟨cs,rfl⟩:=jl h1 (by kernel_rfl)
   exact rd214 n cs h2)
  exact⟨d,y,h1,vj h2⟩
theorem cells271:Tryz.prog.cellsOf 271=4:=by kernel_rfl
theorem rd271 (n:Nat) (xs:List AV) (h:Typed Tryz.prog n 271 xs): ∃d,IsTyp d (.agg xs)∧WfTyp d:=by
 cases n with
 |zero=>exact absurd h zZ
 |succ n=>
  have hl:=vY h (by kernel_rfl) cells271
  match xs,hl with
  | [c0,c1,c2,c3],_=>
   have k0:=rd5 n _ (zl h (i:=0) (ft:=5) (off:=0) (c:=1) (by kernel_rfl) (by kernel_rfl))
   simp only[w14,w17,w0e,w18] at k0
   obtain⟨d0,y0,e0,p0,w0⟩:=k0
   injection e0 with e0 _
   subst e0
   cases p0
   have k1:=rd3 n _ (zl h (i:=1) (ft:=3) (off:=1) (c:=1) (by kernel_rfl) (by kernel_rfl))
   simp only[w14,w17,w0e,w18] at k1
   obtain⟨d1,y1,e1,p1,w1⟩:=k1
   injection e1 with e1 _
   subst e1
   cases p1
   have k2:=rd3 n _ (zl h (i:=2) (ft:=3) (off:=2) (c:=1) (by kernel_rfl) (by kernel_rfl))
   simp only[w14,w17,w0e,w18] at k2
   obtain⟨d2,y2,e2,p2,w2⟩:=k2
   injection e2 with e2 _
   subst e2
   cases p2
   have k3:=rd64 n _ (zl h (i:=3) (ft:=64) (off:=3) (c:=1) (by kernel_rfl) (by kernel_rfl))
   simp only[w14,w17,w0e,w18] at k3
   obtain⟨d3,y3,e3,p3,w3⟩:=k3
   injection e3 with e3 _
   subst e3
   exact⟨⟨d0,d1,d2,d3⟩,⟨_,rfl,p3⟩,⟨w0,w1,w2,w3⟩⟩
theorem z3y:Tryz.prog.cellsOf 271=4:=by kernel_rfl
theorem rd22 (n:Nat) (xs:List AV) (h:Typed Tryz.prog n 22 xs): ∃d y,xs=[y]∧IsSl IsTyp 4 d y∧ ∀x∈d,WfTyp x:=by
 cases n with
 |zero=>exact absurd h zZ
 |succ n=>
  obtain⟨d,y,h1,h2⟩:=x7 (R:=fun d y=>IsTyp d y∧WfTyp d) h Tryz.underlying22 z3y (fun y h1 h2=>by
   obtain⟨cs,rfl⟩:=jl h1 (by kernel_rfl)
   exact rd271 n cs h2)
  exact⟨d,y,h1,vj h2⟩
theorem z73:Tryz.prog.cellsOf 9=1:=by kernel_rfl
theorem rd23 (n:Nat) (xs:List AV) (h:Typed Tryz.prog n 23 xs): ∃d y,xs=[y]∧IsSl IsStr 1 d y∧ ∀x∈d,strOk x:=by
 cases n with
 |zero=>exact absurd h zZ
 |succ n=>
  obtain⟨d,y,h1,h2⟩:=x7 (R:=fun d y=>IsStr d y∧strOk d) h Tryz.underlying23 z73 (fun y h1 h2=>by
   have hc:=qx h1 (by kernel_rfl)
   rw[hc] at h2
   obtain⟨d,z,e,hd⟩:=rd9 n _ h2
   injection e with e _
   subst e
   exact⟨d,hd⟩)
  exact⟨d,y,h1,vj h2⟩
theorem cells63:Tryz.prog.cellsOf 63=4:=by kernel_rfl
theorem rd63 (n:Nat) (xs:List AV) (h:Typed Tryz.prog n 63 xs): ∃d,IsInstr d (.agg xs)∧WfInstr d:=by
 cases n with
 |zero=>exact absurd h zZ
 |succ n=>
  have hl:=vY h (by kernel_rfl) cells63
  match xs,hl with
  | [c0,c1,c2,c3],_=>
   have k0:=rd5 n _ (zl h (i:=0) (ft:=5) (off:=0) (c:=1) (by kernel_rfl) (by kernel_rfl))
   simp only[w14,w17,w0e,w18] at k0
   obtain⟨d0,y0,e0,p0,w0⟩:=k0
   injection e0 with e0 _
   subst e0
   cases p0
   have k1:=rd3 n _ (zl h (i:=1) (ft:=3) (off:=1) (c:=1) (by kernel_rfl) (by kernel_rfl))
   simp only[w14,w17,w0e,w18] at k1
   obtain⟨d1,y1,e1,p1,w1⟩:=k1
   injection e1 with e1 _
   subst e1
   cases p1
   have k2:=rd3 n _ (zl h (i:=2) (ft:=3) (off:=2) (c:=1) (by kernel_rfl) (by kernel_rfl))
   simp only[w14,w17,w0e,w18] at k2
   obtain⟨d2,y2,e2,p2,w2⟩:=k2
   injection e2 with e2 _
   subst e2
   cases p2
   have k3:=rd3 n _ (zl h (i:=3) (ft:=3) (off:=3) (c:=1) (by kernel_rfl) (by kernel_rfl))
   simp only[w14,w17,w0e,w18] at k3
   obtain⟨d3,y3,e3,p3,w3⟩:=k3
   injection e3 with e3 _
   subst e3
   cases p3
   exact⟨⟨d0,d1,d2,d3⟩,rfl,⟨w0,w1,w2,w3⟩⟩
theorem z51:Tryz.prog.cellsOf 63=4:=by kernel_rfl
theorem rd65 (n:Nat) (xs:List AV) (h:Typed Tryz.prog n 65 xs): ∃d y,xs=[y]∧IsSl IsInstr 4 d y∧ ∀x∈d,WfInstr x:=by
 cases n with
 |zero=>exact absurd h zZ
 |succ n=>
  obtain⟨d,y,h1,h2⟩:=x7 (R:=fun d y=>IsInstr d y∧WfInstr d) h Tryz.underlying65 z51 (fun y h1 h2=>by
   obtain⟨cs,rfl⟩:=jl h1 (by kernel_rfl)
   exact rd63 n cs h2)
  exact⟨d,y,h1,vj h2⟩
theorem rd29 (n:Nat) (xs:List AV) (h:Typed Tryz.prog n 29 xs): ∃d y,xs=[y]∧IsK .u64 d y∧inU64 d:=by
 cases n with
 |zero=>exact absurd h zZ
 |succ n=>obtain⟨i,rfl,hw⟩:=Zo h Tryz.underlying29;exact⟨i,_,rfl,rfl,z8k hw⟩
theorem cells227:Tryz.prog.cellsOf 227=2:=by kernel_rfl
theorem rd227 (n:Nat) (xs:List AV) (h:Typed Tryz.prog n 227 xs): ∃d,IsRun d (.agg xs)∧WfRun d:=by
 cases n with
 |zero=>exact absurd h zZ
 |succ n=>
  have hl:=vY h (by kernel_rfl) cells227
  match xs,hl with
  | [c0,c1],_=>
   have k0:=rd3 n _ (zl h (i:=0) (ft:=3) (off:=0) (c:=1) (by kernel_rfl) (by kernel_rfl))
   simp only[w14,w17,w0e,w18] at k0
   obtain⟨d0,y0,e0,p0,w0⟩:=k0
   injection e0 with e0 _
   subst e0
   cases p0
   have k1:=rd29 n _ (zl h (i:=1) (ft:=29) (off:=1) (c:=1) (by kernel_rfl) (by kernel_rfl))
   simp only[w14,w17,w0e,w18] at k1
   obtain⟨d1,y1,e1,p1,w1⟩:=k1
   injection e1 with e1 _
   subst e1
   cases p1
   exact⟨⟨d0,d1⟩,rfl,⟨w0,w1⟩⟩
theorem z3w:Tryz.prog.cellsOf 227=2:=by kernel_rfl
theorem rd66 (n:Nat) (xs:List AV) (h:Typed Tryz.prog n 66 xs): ∃d y,xs=[y]∧IsSl IsRun 2 d y∧ ∀x∈d,WfRun x:=by
 cases n with
 |zero=>exact absurd h zZ
 |succ n=>
  obtain⟨d,y,h1,h2⟩:=x7 (R:=fun d y=>IsRun d y∧WfRun d) h Tryz.underlying66 z3w (fun y h1 h2=>by
   obtain⟨cs,rfl⟩:=jl h1 (by kernel_rfl)
   exact rd227 n cs h2)
  exact⟨d,y,h1,vj h2⟩
theorem cells68:Tryz.prog.cellsOf 68=7:=by kernel_rfl
theorem rd68 (n:Nat) (xs:List AV) (h:Typed Tryz.prog n 68 xs): ∃d,IsFunc d (.agg xs)∧WfFunc d:=by
 cases n with
 |zero=>exact absurd h zZ
 |succ n=>
  have hl:=vY h (by kernel_rfl) cells68
  match xs,hl with
  | [c0,c1,c2,c3,c4,c5,c6],_=>
   have k0:=rd9 n _ (zl h (i:=0) (ft:=9) (off:=0) (c:=1) (by kernel_rfl) (by kernel_rfl))
   simp only[w14,w17,w0e,w18] at k0
   obtain⟨d0,y0,e0,p0,w0⟩:=k0
   injection e0 with e0 _
   subst e0
   cases p0
   have k1:=rd3 n _ (zl h (i:=1) (ft:=3) (off:=1) (c:=1) (by kernel_rfl) (by kernel_rfl))
   simp only[w14,w17,w0e,w18] at k1
   obtain⟨d1,y1,e1,p1,w1⟩:=k1
   injection e1 with e1 _
   subst e1
   cases p1
   have k2:=rd3 n _ (zl h (i:=2) (ft:=3) (off:=2) (c:=1) (by kernel_rfl) (by kernel_rfl))
   simp only[w14,w17,w0e,w18] at k2
   obtain⟨d2,y2,e2,p2,w2⟩:=k2
   injection e2 with e2 _
   subst e2
   cases p2
   have k3:=rd64 n _ (zl h (i:=3) (ft:=64) (off:=3) (c:=1) (by kernel_rfl) (by kernel_rfl))
   simp only[w14,w17,w0e,w18] at k3
   obtain⟨d3,y3,e3,p3,w3⟩:=k3
   injection e3 with e3 _
   subst e3
   have k4:=rd65 n _ (zl h (i:=4) (ft:=65) (off:=4) (c:=1) (by kernel_rfl) (by kernel_rfl))
   simp only[w14,w17,w0e,w18] at k4
   obtain⟨d4,y4,e4,p4,w4⟩:=k4
   injection e4 with e4 _
   subst e4
   have k5:=rd66 n _ (zl h (i:=5) (ft:=66) (off:=5) (c:=1) (by kernel_rfl) (by kernel_rfl))
   simp only[w14,w17,w0e,w18] at k5
   obtain⟨d5,y5,e5,p5,w5⟩:=k5
   injection e5 with e5 _
   subst e5
   have k6:=rd66 n _ (zl h (i:=6) (ft:=66) (off:=6) (c:=1) (by kernel_rfl) (by kernel_rfl))
   simp only[w14,w17,w0e,w18] at k6
   obtain⟨d6,y6,e6,p6,w6⟩:=k6
   injection e6 with e6 _
   subst e6
   exact⟨⟨d0,d1,d2,d3,d4,d5,d6⟩,⟨_,_,_,_,rfl,p3,p4,p5,p6⟩,⟨w0,w1,w2,w3,w4,w5,w6⟩⟩
theorem z55:Tryz.prog.cellsOf 68=7:=by kernel_rfl
theorem rd24 (n:Nat) (xs:List AV) (h:Typed Tryz.prog n 24 xs): ∃d y,xs=[y]∧IsSl IsFunc 7 d y∧ ∀x∈d,WfFunc x:=by
 cases n with
 |zero=>exact absurd h zZ
 |succ n=>
  obtain⟨d,y,h1,h2⟩:=x7 (R:=fun d y=>IsFunc d y∧WfFunc d) h Tryz.underlying24 z55 (fun y h1 h2=>by
   obtain⟨cs,rfl⟩:=jl h1 (by kernel_rfl)
   exact rd68 n cs h2)
  exact⟨d,y,h1,vj h2⟩
theorem cells26:Tryz.prog.cellsOf 26=3:=by kernel_rfl
theorem rd26 (n:Nat) (xs:List AV) (h:Typed Tryz.prog n 26 xs): ∃d,IsImage d (.agg xs)∧WfImage d:=by
 cases n with
 |zero=>exact absurd h zZ
 |succ n=>
  have hl:=vY h (by kernel_rfl) cells26
  match xs,hl with
  | [c0,c1,c2],_=>
   have k0:=rd22 n _ (zl h (i:=0) (ft:=22) (off:=0) (c:=1) (by kernel_rfl) (by kernel_rfl))
   simp only[w14,w17,w0e,w18] at k0
   obtain⟨d0,y0,e0,p0,w0⟩:=k0
   injection e0 with e0 _
   subst e0
   have k1:=rd23 n _ (zl h (i:=1) (ft:=23) (off:=1) (c:=1) (by kernel_rfl) (by kernel_rfl))
   simp only[w14,w17,w0e,w18] at k1
   obtain⟨d1,y1,e1,p1,w1⟩:=k1
   injection e1 with e1 _
   subst e1
   have k2:=rd24 n _ (zl h (i:=2) (ft:=24) (off:=2) (c:=1) (by kernel_rfl) (by kernel_rfl))
   simp only[w14,w17,w0e,w18] at k2
   obtain⟨d2,y2,e2,p2,w2⟩:=k2
   injection e2 with e2 _
   subst e2
   exact⟨⟨d0,d1,d2⟩,⟨_,_,_,rfl,p0,p1,p2⟩,⟨w0,w1,w2⟩⟩
theorem cells28:Tryz.prog.cellsOf 28=3:=by kernel_rfl
theorem rd28 (n:Nat) (xs:List AV) (h:Typed Tryz.prog n 28 xs): ∃d,IsEnded d (.agg xs)∧WfEnded d:=by
 cases n with
 |zero=>exact absurd h zZ
 |succ n=>
  have hl:=vY h (by kernel_rfl) cells28
  match xs,hl with
  | [c0,c1,c2],_=>
   have k0:=rd5 n _ (zl h (i:=0) (ft:=5) (off:=0) (c:=1) (by kernel_rfl) (by kernel_rfl))
   simp only[w14,w17,w0e,w18] at k0
   obtain⟨d0,y0,e0,p0,w0⟩:=k0
   injection e0 with e0 _
   subst e0
   cases p0
   have k1:=rd3 n _ (zl h (i:=1) (ft:=3) (off:=1) (c:=1) (by kernel_rfl) (by kernel_rfl))
   simp only[w14,w17,w0e,w18] at k1
   obtain⟨d1,y1,e1,p1,w1⟩:=k1
   injection e1 with e1 _
   subst e1
   cases p1
   have k2:=rd3 n _ (zl h (i:=2) (ft:=3) (off:=2) (c:=1) (by kernel_rfl) (by kernel_rfl))
   simp only[w14,w17,w0e,w18] at k2
   obtain⟨d2,y2,e2,p2,w2⟩:=k2
   injection e2 with e2 _
   subst e2
   cases p2
   exact⟨⟨d0,d1,d2⟩,rfl,⟨w0,w1,w2⟩⟩
theorem rdb30 (n:Nat) (y:AV) (h1:IsElem Tryz.prog 5 y) (h:Typed Tryz.prog n 5 y.cells): ∃d,IsByte d y∧True:=by
 have hc:=qx h1 (by kernel_rfl)
 cases n with
 |zero=>exact absurd h zZ
 |succ n=>
  obtain⟨i,hi,hw⟩:=Zo h Tryz.underlying5
  rw[hc] at hi
  injection hi with hi _
  subst hi
  obtain⟨h0,h1⟩:0≤i∧i<256:=by simp[Lit.wf,IntKind.min,IntKind.max,IntKind.signed,IntKind.bits] at hw;omega
  exact⟨UInt8.ofNat i.toNat,by unfold IsByte;simp;omega,trivial⟩
theorem z72:Tryz.prog.cellsOf 5=1:=by kernel_rfl
theorem rd30 (n:Nat) (xs:List AV) (h:Typed Tryz.prog n 30 xs): ∃d y,xs=[y]∧IsSl IsByte 1 d y∧ ∀x∈d,(fun _=>True) x:=by
 cases n with
 |zero=>exact absurd h zZ
 |succ n=>
  obtain⟨d,y,h1,h2⟩:=x7 (R:=fun d y=>IsByte d y∧(fun _=>True) d) h Tryz.underlying30 z72 (fun y h1 h2=>rdb30 n y h1 h2)
  exact⟨d,y,h1,vj h2⟩
theorem cells32:Tryz.prog.cellsOf 32=2:=by kernel_rfl
theorem rd32 (n:Nat) (xs:List AV) (h:Typed Tryz.prog n 32 xs): ∃d,IsRegion d (.agg xs)∧WfRegion d:=by
 cases n with
 |zero=>exact absurd h zZ
 |succ n=>
  have hl:=vY h (by kernel_rfl) cells32
  match xs,hl with
  | [c0,c1],_=>
   have k0:=rd29 n _ (zl h (i:=0) (ft:=29) (off:=0) (c:=1) (by kernel_rfl) (by kernel_rfl))
   simp only[w14,w17,w0e,w18] at k0
   obtain⟨d0,y0,e0,p0,w0⟩:=k0
   injection e0 with e0 _
   subst e0
   cases p0
   have k1:=rd30 n _ (zl h (i:=1) (ft:=30) (off:=1) (c:=1) (by kernel_rfl) (by kernel_rfl))
   simp only[w14,w17,w0e,w18] at k1
   obtain⟨d1,y1,e1,p1,w1⟩:=k1
   injection e1 with e1 _
   subst e1
   exact⟨⟨d0,d1⟩,⟨_,rfl,p1⟩,⟨w0,w1⟩⟩
theorem z54:Tryz.prog.cellsOf 32=2:=by kernel_rfl
theorem rd33 (n:Nat) (xs:List AV) (h:Typed Tryz.prog n 33 xs): ∃d y,xs=[y]∧IsSl IsRegion 2 d y∧ ∀x∈d,WfRegion x:=by
 cases n with
 |zero=>exact absurd h zZ
 |succ n=>
  obtain⟨d,y,h1,h2⟩:=x7 (R:=fun d y=>IsRegion d y∧WfRegion d) h Tryz.underlying33 z54 (fun y h1 h2=>by
   obtain⟨cs,rfl⟩:=jl h1 (by kernel_rfl)
   exact rd32 n cs h2)
  exact⟨d,y,h1,vj h2⟩
theorem rd2 (n:Nat) (xs:List AV) (h:Typed Tryz.prog n 2 xs): ∃d y,xs=[y]∧IsK .i64 d y∧in64 d:=by
 cases n with
 |zero=>exact absurd h zZ
 |succ n=>obtain⟨i,rfl,hw⟩:=Zo h Tryz.underlying2;exact⟨i,_,rfl,rfl,z5J hw⟩
theorem cells52:Tryz.prog.cellsOf 52=6:=by kernel_rfl
theorem rd52 (n:Nat) (xs:List AV) (h:Typed Tryz.prog n 52 xs): ∃d,IsRoutine d (.agg xs)∧WfRoutine d:=by
 cases n with
 |zero=>exact absurd h zZ
 |succ n=>
  have hl:=vY h (by kernel_rfl) cells52
  match xs,hl with
  | [c0,c1,c2,c3,c4,c5],_=>
   have k0:=rd5 n _ (zl h (i:=0) (ft:=5) (off:=0) (c:=1) (by kernel_rfl) (by kernel_rfl))
   simp only[w14,w17,w0e,w18] at k0
   obtain⟨d0,y0,e0,p0,w0⟩:=k0
   injection e0 with e0 _
   subst e0
   cases p0
   have k1:=rd29 n _ (zl h (i:=1) (ft:=29) (off:=1) (c:=1) (by kernel_rfl) (by kernel_rfl))
   simp only[w14,w17,w0e,w18] at k1
   obtain⟨d1,y1,e1,p1,w1⟩:=k1
   injection e1 with e1 _
   subst e1
   cases p1
   have k2:=rd29 n _ (zl h (i:=2) (ft:=29) (off:=2) (c:=1) (by kernel_rfl) (by kernel_rfl))
   simp only[w14,w17,w0e,w18] at k2
   obtain⟨d2,y2,e2,p2,w2⟩:=k2
   injection e2 with e2 _
   subst e2
   cases p2
   have k3:=rd29 n _ (zl h (i:=3) (ft:=29) (off:=3) (c:=1) (by kernel_rfl) (by kernel_rfl))
   simp only[w14,w17,w0e,w18] at k3
   obtain⟨d3,y3,e3,p3,w3⟩:=k3
   injection e3 with e3 _
   subst e3
   cases p3
   have k4:=rd29 n _ (zl h (i:=4) (ft:=29) (off:=4) (c:=1) (by kernel_rfl) (by kernel_rfl))
   simp only[w14,w17,w0e,w18] at k4
   obtain⟨d4,y4,e4,p4,w4⟩:=k4
   injection e4 with e4 _
   subst e4
   cases p4
   have k5:=rd2 n _ (zl h (i:=5) (ft:=2) (off:=5) (c:=1) (by kernel_rfl) (by kernel_rfl))
   simp only[w14,w17,w0e,w18] at k5
   obtain⟨d5,y5,e5,p5,w5⟩:=k5
   injection e5 with e5 _
   subst e5
   cases p5
   exact⟨⟨d0,d1,d2,d3,d4,d5⟩,rfl,⟨w0,w1,w2,w3,w4,w5⟩⟩
theorem z53:Tryz.prog.cellsOf 52=6:=by kernel_rfl
theorem rd34 (n:Nat) (xs:List AV) (h:Typed Tryz.prog n 34 xs): ∃d y,xs=[y]∧IsSl IsRoutine 6 d y∧ ∀x∈d,WfRoutine x:=by
 cases n with
 |zero=>exact absurd h zZ
 |succ n=>
  obtain⟨d,y,h1,h2⟩:=x7 (R:=fun d y=>IsRoutine d y∧WfRoutine d) h Tryz.underlying34 z53 (fun y h1 h2=>by
   obtain⟨cs,rfl⟩:=jl h1 (by kernel_rfl)
   exact rd52 n cs h2)
  exact⟨d,y,h1,vj h2⟩
theorem z50:Tryz.prog.cellsOf 29=1:=by kernel_rfl
theorem rd99 (n:Nat) (xs:List AV) (h:Typed Tryz.prog n 99 xs): ∃d y,xs=[y]∧IsSl (IsK .u64) 1 d y∧ ∀x∈d,inU64 x:=by
 cases n with
 |zero=>exact absurd h zZ
 |succ n=>
  obtain⟨d,y,h1,h2⟩:=x7 (R:=fun d y=>(IsK .u64) d y∧inU64 d) h Tryz.underlying99 z50 (fun y h1 h2=>by
   have hc:=qx h1 (by kernel_rfl)
   rw[hc] at h2
   obtain⟨d,z,e,hd⟩:=rd29 n _ h2
   injection e with e _
   subst e
   exact⟨d,hd⟩)
  exact⟨d,y,h1,vj h2⟩
theorem z52:Tryz.prog.cellsOf 99=1:=by kernel_rfl
theorem rd35 (n:Nat) (xs:List AV) (h:Typed Tryz.prog n 35 xs): ∃d y,xs=[y]∧IsSl (IsSl (IsK .u64) 1) 1 d y∧ ∀x∈d,(fun l=> ∀x∈l,inU64 x) x:=by
 cases n with
 |zero=>exact absurd h zZ
 |succ n=>
  obtain⟨d,y,h1,h2⟩:=x7 (R:=fun d y=>(IsSl (IsK .u64) 1) d y∧(fun l=> ∀x∈l,inU64 x) d) h Tryz.underlying35 z52 (fun y h1 h2=>by
   have hc:=qx h1 (by kernel_rfl)
   rw[hc] at h2
   obtain⟨d,z,e,hd⟩:=rd99 n _ h2
   injection e with e _
   subst e
   exact⟨d,hd⟩)
  exact⟨d,y,h1,vj h2⟩
theorem cells37:Tryz.prog.cellsOf 37=12:=by kernel_rfl
theorem rd37 (n:Nat) (xs:List AV) (h:Typed Tryz.prog n 37 xs): ∃d,IsDump d (.agg xs)∧WfDump d:=by
 cases n with
 |zero=>exact absurd h zZ
 |succ n=>
  have hl:=vY h (by kernel_rfl) cells37
  match xs,hl with
  | [c0,c1,c2,c3,c4,c5,c6,c7,c8,c9,c10,c11],_=>
   have k0:=rd26 n _ (zl h (i:=0) (ft:=26) (off:=0) (c:=3) (by kernel_rfl) (by kernel_rfl))
   simp only[w14,w17,w0e,w18] at k0
   obtain⟨d0,hh0,w0⟩:=k0
   obtain⟨u0_0,u0_1,u0_2,e0,p0_0,p0_1,p0_2⟩:=hh0
   simp only[IsImage,AV.agg.injEq,List.cons.injEq,and_true] at e0
   obtain⟨rfl,rfl,rfl⟩:=e0
   have k1:=rd28 n _ (zl h (i:=1) (ft:=28) (off:=3) (c:=3) (by kernel_rfl) (by kernel_rfl))
   simp only[w14,w17,w0e,w18] at k1
   obtain⟨d1,hh1,w1⟩:=k1
   have e1:=hh1
   simp only[IsEnded,AV.agg.injEq,List.cons.injEq,and_true] at e1
   obtain⟨rfl,rfl,rfl⟩:=e1
   have k2:=rd32 n _ (zl h (i:=2) (ft:=32) (off:=6) (c:=2) (by kernel_rfl) (by kernel_rfl))
   simp only[w14,w17,w0e,w18] at k2
   obtain⟨d2,hh2,w2⟩:=k2
   obtain⟨u2_0,e2,p2_0⟩:=hh2
   simp only[IsRegion,AV.agg.injEq,List.cons.injEq,and_true] at e2
   obtain⟨rfl,rfl⟩:=e2
   have k3:=rd33 n _ (zl h (i:=3) (ft:=33) (off:=8) (c:=1) (by kernel_rfl) (by kernel_rfl))
   simp only[w14,w17,w0e,w18] at k3
   obtain⟨d3,y3,e3,p3,w3⟩:=k3
   injection e3 with e3 _
   subst e3
   have k4:=rd34 n _ (zl h (i:=4) (ft:=34) (off:=9) (c:=1) (by kernel_rfl) (by kernel_rfl))
   simp only[w14,w17,w0e,w18] at k4
   obtain⟨d4,y4,e4,p4,w4⟩:=k4
   injection e4 with e4 _
   subst e4
   have k5:=rd35 n _ (zl h (i:=5) (ft:=35) (off:=10) (c:=1) (by kernel_rfl) (by kernel_rfl))
   simp only[w14,w17,w0e,w18] at k5
   obtain⟨d5,y5,e5,p5,w5⟩:=k5
   injection e5 with e5 _
   subst e5
   have k6:=rd35 n _ (zl h (i:=6) (ft:=35) (off:=11) (c:=1) (by kernel_rfl) (by kernel_rfl))
   simp only[w14,w17,w0e,w18] at k6
   obtain⟨d6,y6,e6,p6,w6⟩:=k6
   injection e6 with e6 _
   subst e6
   exact⟨⟨d0,d1,d2,d3,d4,d5,d6⟩,⟨_,_,_,_,_,_,_,_,rfl,p0_0,p0_1,p0_2,p2_0,p3,p4,p5,p6⟩,⟨w0,w1,w2,w3,w4,w5,w6⟩⟩
theorem arg37 (y:AV) (h:ArgT Tryz.prog 37 y): ∃d,IsDump d y∧WfDump d:=by
 obtain⟨h1,n,h2⟩:=h
 obtain⟨cs,rfl⟩:=jl h1 (by kernel_rfl)
 exact rd37 n cs h2
theorem kB:plainAll Tryz.prog [54,99,35,2,52,34,33,30,32,28,29,227,66,63,65,68,24,23,9,214,64,3,5,271,22,26,37]=true:=by kernel_rfl
end Go.Proofs.W
end
