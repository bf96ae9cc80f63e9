/-
  Part 7 of the proof, shared by claims of this seat: UZW6, UZW4, UZW7, UZX2, UZX3, UZX4, UZX5, UZX6, UZX7, UTie, URead.
-/
import Derived.Test.YtdmigejeekchiaaGreatL5
import Derived.Test.YtdmigejeekchiaaGreatL2
import Derived.Test.YtdmigejeekchiaaGreatProg
import Derived.KernelRfl
import Derived.Test.YtdmigejeekchiaaGreatL3
set_option maxHeartbeats 64000000
set_option maxRecDepth 1000000
set_option linter.unusedVariables false
set_option linter.unusedSimpArgs false
open Nat renaming reduceMul → G2, reduceAdd → G3, reduceSub → G4, reduceEqDiff → G6, reduceBEq → G7, reduceLT → G8, reduceLeDiff → G9, le_refl → w07, min_eq_left → w11, zero_add → w24, lt_or_eq_of_le → w3e, le_of_lt_succ → w42
open Int renaming reduceEq → H0, reduceLT → H1, reduceLE → H2, reduceAdd → H3, reduceSub → H4, reduceMul → H5, reducePow → H6, reduceToNat → H7, ofNat_lt → w02, toNat_natCast → w09, toNat_zero → w1b, toNat_of_nonneg → w36
open Option renaming map_eq_some_iff → w00, map_some → w08, map_none → w15, getD_some → w31
open List renaming getD_eq_getElem?_getD → w03, getElem_mem → w04, take_length → w06, mem_append → w0b, take_succ_eq_append_getElem → w0c, take_succ_cons → w0e, drop_succ_cons → w13, drop_zero → w16, take_zero → w17, getElem?_eq_getElem → w1d, mem_singleton → w1e, append_nil → w20, getElem?_map → w21, mem_cons_self → w22, ext_getElem? → w26, cons_append → w27, mem_cons_of_mem → w2c, nil_append → w2f, map_cons → w32, all_eq_true → w39, flatten_cons → w41, mem_iff_getElem → w49, length_nil → w50, any_eq_true → w52, mem_append_left → w57, mem_append_right → w5b
open Bool renaming and_eq_true → w0a, false_and → w19, and_false → w1a, false_eq_true → w25, or_eq_false_iff → w29, or_eq_true → w2e, and_eq_true_iff → w3c
section
namespace Go.Proofs.W
open Go.Vs
attribute [local go_sem high] zp zU
attribute [local go_sem ↓] w08 w15
attribute [local go_sem low] Yc Yt Yf Yut Yuf yK yL yI yJ
attribute [local go_sem 2000] zL
attribute [local go_sem] xJ xH xK xI zT zu yc zQ zX zt yF yD yC hd kep yB w02 AV.bool.injEq AV.int.injEq not_true_eq_false not_false_eq_true true_implies false_implies and_true true_and implies_true zo zJ zI zn zK zw zf za zm zC zB zl zD zA ze zb w09 zE zF ya w1b evShift IntKind.bits zM zG zH z6 z8 zR zy w11 yH yG allLen zg AV.tup.injEq List.cons.injEq AV.agg.injEq zW zV evBuild yE zO zq zN eqC0 eqC1 eqC2 zP w1a w19
section
variable {Y : YC} {tab : Nat → Option AFunc} {ρ : List AV} {K : Kont} {a b : ACode}
theorem zcb {g:Nat} {caps:List AV} {ps:List Nat} {s:List (List Blk)} {c:List Blk} {x fl:Nat} {lv:List (List Nat)} {R:AV×Mem→Prop}
  (h:Opt (ITER tab (RY tab a b ps ρ s.length c.length x).Y (some g) (.yld s.length c.length x::caps) ⟨s,c++[⟨x,[.int .i64 (.ofNat 0)]⟩],x+1,lv,fl⟩) R)
  (q: ∀v m,R (v,m)→ ∃n o,loopSt m s.length c.length x=some n∧jumpOut n=some o∧Xo tab K o ρ (m.put s.length c.length x [.int .i64 (.ofNat 1)])):Xr tab (.fn (.func g) [] caps) ps a b ρ ⟨s,c,x,lv,fl⟩ K:=by
 obtain⟨⟨r,m2⟩,h1,h0⟩:=h
 obtain⟨n,o,h2,h3,h4⟩:=q r m2 h0
 exact zb0 h1 h2 h3 h4
theorem zcj {ps:List Nat} {l k q:Nat} {args:List AV} {m:Mem} {G:Nat→AV→List Nat→List Nat→AV×Mem} {T:Nat→AV→List Nat→List Nat→Prop} (h:Opt (yieldV (EV tab a) (EV tab b) ps ρ l k q args m) fun r=> ∃n y t e,r=G n y t e∧T n y t e): ∃n y t e,(RY tab a b ps ρ l k q).Y args m=some (G n y t e)∧T n y t e:=by
 obtain⟨r,h1,n,y,t,e,rfl,h2⟩:=h
 exact⟨n,y,t,e,h1,h2⟩
end
theorem W5 (d:DDump) (y:AV) (hy:IsDump d y) (hs:SmD d) (g:Int) (m:Mem) (hf:m.floor≤m.stk.length+1):OkT tab 17 [y,.int .i64 g] m fun r _ _=> ∃y,r= .tup [y,.int .i64 (framesR d g).2]∧IsSl IsFrame 8 (framesR d g).1 y:=by
 have hC:=fun m hf=>z1X d y hy hs m hf
 obtain⟨v0,v1,v2,v3,v4,v5,v6,v7,rfl,h⟩:=IsDump.v hy
 have hn:d.image.funcs.length≤40:=by have:=hs.g;simp[great09] at this;omega
 cases hk:ok28 d<;>rw[hk] at hC
 ·have f:=h.o
  refine oktz (tT qX) fun s c x v fl e=> ?_
  subst e
  refine ow (hC _ (by simp at*;omega)) fun k=> ?_
  exact ft0 fun _=>⟨.nils,by simp[framesR,hk],by simp[framesR,hk,IsSl.nil]⟩
 have f:=nd h.o (nd h.r.z (nthH h.r))
 refine oktz (tT qX) fun s c x v fl e=> ?_
 subst e
 refine ow (hC _ (by simp at*;omega)) fun k=> ?_
 refine ifs (fun h1=> ?_) fun h1=> ?_
 ·exact ft0 fun _=>⟨.nils,by simp[framesR,hk,h1],by simp[framesR,hk,h1,IsSl.nil]⟩
 refine ifs (fun h2=> ?_) fun h2=> ?_
 ·exact ft0 fun _=>⟨.nils,by simp[framesR,hk,h2],by simp[framesR,hk,h2,IsSl.nil]⟩
 obtain⟨j,rfl⟩: ∃j:Nat,g=j:=⟨g.toNat,by omega⟩
 have hjr:j<d.routines.length:=by omega
 have hrt:rtD d j=d.routines[j]:=by simp[rtD,w03,hjr]
 refine ifs (fun h3=> ?_) fun h3=> ?_
 ·simp only[w09] at h3
  have: ¬((d.routines.length:Int)≤j):=by omega
  have h0: ¬((j:Int)<0):=by omega
  exact ft0 fun _=>⟨.nils,by simp[framesR,hk,hrt,h3,this,h0],by simp[framesR,hk,hrt,h3,this,h0,IsSl.nil]⟩
 simp only[w09] at h3
 have hd:=WalkD.of hs.w hn hk hjr
 have hfr: ∀o,walkN d (stackB j) 200 (rtD d j).code (rtD d j).sp none=o→framesR d j=match o with|none=>([],12)|some l=>(l,0):=fun o ho=>by
  have: ¬((d.routines.length:Int)≤j):=by omega
  have h0: ¬((j:Int)<0):=by omega
  rw[hrt] at ho
  cases o<;>simp[framesR,hk,hrt,h3,this,h0,ho]
 refine oe (z1H _ _ _ _ _ _ _ _ (w07 _)) ?_
 refine zcb (zbs d v0 v1 v2 v3 v4 v5 v6 v7 h j hd x k (k+1) (k+1+1) (k+1+1+1) (s++[c]) v fl (by simp at*;omega) ?_ _) ?_
 ·intro X l y t nx e cur ho hl
  refine zcj (z6l ?_ rfl ?_ ?_ ?_)
  ·simp[loopSt,Mem.blk,Mem.row]
  ·simp at*;omega
  ·simp
  have hln:(s++[c]).length=s.length+1:=by simp
  have hg: ∀A B:List Blk,(s++[c]++[A]++[B]).getD (s.length+1) []=A:=fun A B=>by simp
  have hl3: ∀A B:List Blk,(s++[c]++[A]++[B]).length=s.length+3:=fun A B=>by simp
  have hne:(s.length+1==s.length+3)=false:=by simp
  have hm: ∀(A B:List Blk) f,(s++[c]++[A]++[B]).modify (s.length+1) f=s++[c]++[f A]++[B]:=modAt hln
  have f:=nd hln (nd hg (nd hl3 (nd hne (nd hm ho.co))))
  refine st ?_
  refine nd (by simp[loopSt,Mem.blk,Mem.row]) ?_
  refine oaw (i:=2) (rest:=v) ⟨[[],e,t],rfl,rfl,by simpa using ho⟩ (zZ (show IsFrame X _ from rfl)) (by simp;omega) fun y' n l' hw=> ?_
  obtain⟨e0,l0,hs',hw⟩:=hw.sink
  obtain⟨pre,rfl,h4,ho'⟩:=hw
  have f:=nd f (nd (show decide (fl≤s.length+1)=true by simp at*;omega) (nd (show s.length+3-(s.length+1)=1+1 by omega) (nd hs' ho'.co)))
  refine st ?_
  match pre,h4 with
  | [p0,p1],_=>exact⟨by simp[loopSt,Mem.blk,Mem.row],0,rfl,Opt.of_eq jh ⟨_,y',p1,e0++p0,rfl,ho'.mono (by simp;grind)⟩⟩
 ·rintro rv _ ⟨n,y,l,t,b,rfl,hsl,hwalk⟩
  have f:=nd f (nd (show(s++[c]).length=s.length+1 by simp) hsl.co)
  refine⟨0,.normal,by simp[loopSt,Mem.blk,Mem.row],rfl,?_⟩
  have hfr:=hfr _ hwalk
  cases b
  ·simp only[w25,if_false] at hfr
   refine st ?_
   refine ft ?_ fun _ _=>⟨y,by rw[hfr],by rw[hfr];exact hsl⟩
   refine st ?_
   trivial
  ·simp only[if_true] at hfr
   refine st ?_
   exact ft0 fun _=>⟨.nils,by rw[hfr],by rw[hfr];exact .nil _⟩
theorem TM (d:DDump) (y:AV) (hy:IsDump d y) (g:Nat) (hd:WalkD d g) (m:Mem) (hf:m.floor≤m.stk.length+1):
  OkT tab 67 [y,.int .i64 (g:Int)] m fun r _ _=> ∃y l b,r= .tup [y,.bool b]∧IsSl IsFrame 8 l y∧walkN d (stackB g) 200 (rtD d g).code (rtD d g).sp none=if b=true then some l else none:=by
 obtain⟨v0,v1,v2,v3,v4,v5,v6,v7,rfl,h⟩:=IsDump.v hy
 obtain⟨q,hq⟩:=regs h.s
 have hb:=hd.b
 have hr1:d.routines[g]'hd.r=rtD d g:=by simp[rtD,w03,hd.r]
 have hs1:(d.stacks[g]'hd.s).base=stackB g:=by rw[←hd.b];simp[w03,hd.s]
 have f0:=nd h.s.z (nd h.r.z h.o)
 have f:=nd f0 (nd hr1 (nd hs1 (nd hd.r (nd hd.s (nd (fun j hj=>nd (hq j hj).1 (hq j hj).2.1.z.1) (nthH h.r))))))
 refine oktz (tT vz) fun s c x v fl e=> ?_
 subst e
 simp at hf
 refine xg [6,8,9,10] (fun(z:Nat×List DFrame×Int×Int) v e b=>Walking d g z.1 z.2.1 z.2.2.1 z.2.2.2∧Own IsFrame 8 (v 6) z.2.1 e∧v 8= .int .u64 z.2.2.1∧v 9= .int .u64 z.2.2.2∧v 10= .bool (calledB z.2.1)∧b=[⟨x,[v0,v1,v2,.int .u8 d.ended.outcome,.int .i64 d.ended.failing,.int .i64 d.ended.steps,.int .u64 d.heap.base,v3,v4,v5,v6,v7]⟩]) (fun z=>z.1) (200,[],(rtD d g).code,(rtD d g).sp) ?_ ?_
 ·exact nd (Walking.start hd) (nd (.nil _) rfl)
 rintro⟨n,l,cc,en⟩ v e nz bs ⟨hW,ho,h8,h9,h10,hbs⟩
 dsimp only at*
 subst hbs
 have hbad:=fun h=>hW.bad h
 have hfi:= @Vw d.image cc hW.c.1
 have hsz:= @V9 d.image hd.w.image cc hW.c.1
 have hhs:(findR d.image cc).2.2≠0→frameOk d (stackB g) cc en=false:=fun h=>by simp[frameOk,sizeR,h]
 have hst:frameOk d (stackB g) cc en=false→stepR d (stackB g) cc en l.getLast? =none:=fun h=>by simp[stepR,h]
 refine ow (ZK d.image _ h.i hd.w.image (by have:=hd.n;omega) cc hW.c _ (by simp;omega)) fun k=> ?_
 refine ifs (fun hF=> ?_) fun hF=> ?_
 ·exact ft0 fun _=>⟨.nils,[],false,rfl,.nil _,by rw[hW.bad (hst (hhs hF))];rfl⟩
 have hF:(findR d.image cc).2.2=0:=by simpa using hF
 obtain⟨hi0,hi1,hi2,hi3,hi4⟩:=hfi hF
 obtain⟨j,hj⟩: ∃j:Nat,(findR d.image cc).1=j:=⟨_,(w36 hi1).symm⟩
 have hjl:j<d.image.funcs.length:=by omega
 rw[hj,w09,←uW hjl] at hi4
 have hcl:=((jj hi0).fn hjl).2.2.2.2.1
 have hB:stackB g=16777216*((g:Int)+1):=rfl
 have hgs:=hd.s
 have hgl:=hd.l
 have hln:=hW.n
 have hen:=hW.e
 have hsl:=ho.sl (by omega)
 have f:=nd f0 (nd hsl.z (nd hj (fun n hn m=>(ZJ d.heap d.stacks _ _ h.h h.s (by omega) n hn m).eq)))
 have hstep: ∀x,(∀a,l.getLast? =some a→fitsR d.image a j (findR d.image cc).2.1=true)→frameOk d (stackB g) cc en=true→x=lower (frameD d cc en) (calledB l=true)→stepR d (stackB g) cc en l.getLast? =some x:=fun x h1 h2 h3=>by
  subst h3
  unfold stepR calledB
  rw[if_pos h2]
  cases hl:l.getLast? with
  |none=>simp[lower]
  |some a=>
   have h4:=h1 a hl
   rw[←hj] at h4
   simp[h4,lower,frameD]
 rcases List.eq_nil_or_concat l with rfl|⟨l,a,rfl⟩
 rotate_left
 have f:=nd f (nd (show((l.concat a).length:Int)=l.length+1 by simp) (nd (show nth (v 6) l.length=frA a by have:=hsl.nth (i:=l.length) (by simp);simp only[List.concat_eq_append,List.getElem_concat_length] at this;exact this) (nd (show(l.length:Int)+1>0 by omega)<|nd (@Int.add_sub_cancel) (fun(i:Int) hi m=>(z1I d.image _ h.i a j hjl i hi m).eq))))
 refine st ?_
 refine ifs (fun hfit=> ?_) fun hfit=> ?_
 rotate_left
 ·exact ft0 fun _=>⟨.nils,[],false,rfl,.nil _,by rw[hW.bad (by unfold stepR;split<;>simp[hj,frameD,hfit])];rfl⟩
 have f:=nd f (show¬(((0:Nat):Int)>0) by decide)
 refine st ?_
 replace hstep:=fun x=>hstep x (by simp)
 generalize ([]:List DFrame)=l at*
 rotate_left
 replace hstep:=fun x=>hstep x (by simpa using hfit)
 generalize l.concat a=l at*
 all_goals
  have f:=nd f0 (nd hsl.z (nd ho.co (nd hj (fun n hn m=>(ZJ d.heap d.stacks _ _ h.h h.s (by omega) n hn m).eq))))
  refine ow (z1O d.image _ h.i hd.w.image (by have:=hd.n;omega) cc hW.c _ (by simp;omega)) fun k=> ?_
  refine ifs (fun hs2=> ?_) fun hs2=> ?_
  ·exact ft0 fun _=>⟨.nils,[],false,rfl,.nil _,by rw[hW.bad (hst (by simp[frameOk,hs2]))];rfl⟩
  refine ifs (fun hs3=> ?_) fun hs3=> ?_
  ·exact ft0 fun _=>⟨.nils,[],false,rfl,.nil _,by rw[hW.bad (hst (by simp[frameOk];intro _ _;omega))];rfl⟩
  have hs2:(sizeR d.image cc).2=0:=by simpa using hs2
  obtain⟨_,hz1,hz2⟩:=hsz hs2
  cases hcb:calledB l
  all_goals
   have f:=nd f hcb
   refine st ?_
   refine ifs (fun hc=> ?_) fun hc=> ?_
   rotate_left
   ·exact ft0 fun _=>⟨.nils,[],false,rfl,.nil _,by rw[hW.bad (hst<|decide_eq_false (fun hh=>hc (by simpa [frameD,wordD] using hh.2.2)))];rfl⟩
   have hx:=hstep _ (decide_eq_true ⟨hs2,by omega,by simpa [frameD,wordD] using hc⟩) rfl
   refine oa ho (zZ (show IsFrame (lower (frameD d cc en) (calledB l=true)) _ from ?_)) (by simp;omega) fun y n e ho=> ?_
   ·rw[hcb]
    simp[IsFrame,lower,frameD,hj,wordD]
   obtain⟨x1,x2,x3,x4⟩:=za8 (frameD d cc en) (calledB l=true)
   have x1:(lower (frameD d cc en) (calledB l=true)).caller=(wordR d.heap d.stacks (en-(sizeR d.image cc).1)).1:=x1
   have x2:(lower (frameD d cc en) (calledB l=true)).start=en-(sizeR d.image cc).1:=x2
   have x3:(lower (frameD d cc en) (calledB l=true)).mode=(wordR d.heap d.stacks (en-(sizeR d.image cc).1+8)).1:=x3
   have x4:(lower (frameD d cc en) (calledB l=true)).record=(wordR d.heap d.stacks (en-(sizeR d.image cc).1+16)).1:=x4
   generalize lower (frameD d cc en) (calledB l=true)=X at*
   rw[←x3,←x4,←x1,←x2]
   have f:=nd f ho.co
   refine ifs (fun h0=> ?_) fun h0=> ?_
   ·have hl:=hW.last hx h0
    refine ifs (fun hm=> ?_) fun hm=> ?_
    all_goals
     refine ft ?_ fun _ _=>⟨y,l++[X],_,rfl,ho.sl (by simp;omega),by rw[hl];simp[hm]⟩
     refine st ?_
     trivial
   ·obtain⟨n',rfl,hN⟩:=hW.next hd hx h0
    exact⟨(n',l++[X],X.caller,X.start),by dsimp only;omega,hN,ho,rfl,rfl,by simp[calledB]⟩
noncomputable def askedR (d:DDump) (g:Int):Int:=if ok28 d=false then 8 else if g<0∨g≥d.routines.length then 2 else 0
theorem z0c (d:DDump) (y:AV) (hy:IsDump d y) (hw:WfDump d) (hL:large28 d=false) (g:Int) (m:Mem) (hf:m.floor≤m.stk.length+1):Okv tab 22 [y,.int .i64 g] m (.int .i64 (askedR d g)):=by
 have hC:=fun m hf=>z0f d y hy hw hL m hf
 obtain⟨v0,v1,v2,v3,v4,v5,v6,v7,rfl,h⟩:=IsDump.v hy
 have f:=nd h.o h.r.z
 refine okz (tT ua) fun s c x v fl e=> ?_
 subst e
 refine ow (hC _ (by simp at*;omega)) fun k=> ?_
 cases hk:ok28 d
 ·have f:=hk
  refine st ?_
  simp[askedR,hk]
 ·have f:=nd f (show(if true=true then(0:Int) else 8)=0 from rfl)
  refine st ?_
  repeat' first|refine ifs ?_ ?_|intro
  all_goals simp only[askedR,hk];clear f;grind
theorem z47 {d:DDump} {g:Int} (h:askedR d g≠0):framesR d g=([],askedR d g):=by
 unfold askedR framesR at*
 split
 ·rfl
 ·rename_i h1
  rw[if_neg h1] at h
  split
  ·rfl
  ·rename_i h2
   rw[if_neg h2] at h
   exact absurd rfl h
theorem z95 {d:DDump} {g:Int} (h:askedR d g=0):ok28 d=true∧0≤g∧g<d.routines.length:=by
 unfold askedR at h
 split at h
 ·simp at h
 ·split at h
  ·simp at h
  ·rename_i h1 h2
   exact⟨by simpa using h1,by omega⟩
theorem z7d {d:DDump} {j:Nat} (hk:ok28 d=true) (hj:j<d.routines.length):framesR d j=if(rtD d j).status=3 then([],(0:Int)) else match walkN d (stackB j) 200 (rtD d j).code (rtD d j).sp none with|none=>([],12)|some l=>(l,0):=by
 unfold framesR
 rw[if_neg (by simp[hk]),if_neg (by omega),w09]
 all_goals rfl
theorem YI (d:DDump) (y:AV) (hy:IsDump d y) (hw:WfDump d) (hL:large28 d=false) (g:Int) (m:Mem) (hf:m.floor≤m.stk.length+1):OkT tab 18 [y,.int .i64 g] m fun r _ _=> ∃y,r= .tup [y,.int .i64 (framesR d g).2]∧IsSl IsFrame 8 (framesR d g).1 y:=by
 have hC:=fun m hf=>z0c d y hy hw hL g m hf
 have hWk:=fun(j:Nat) hd m hf=>TM d y hy j hd m hf
 have hs:=SmD.of hw hL
 have hn:d.image.funcs.length≤40:=by have:=hs.g;simp[great09] at this;omega
 obtain⟨v0,v1,v2,v3,v4,v5,v6,v7,rfl,h⟩:=IsDump.v hy
 have f:=nd h.o (nd h.r.z (nthH h.r))
 refine oktz (tT vA) fun s c x v fl e=> ?_
 subst e
 refine ow (hC _ (by simp at*;omega)) fun k=> ?_
 refine ifs (fun h1=> ?_) fun h1=> ?_
 ·exact ft0 fun _=>⟨.nils,by rw[z47 h1],by rw[z47 h1];exact .nil _⟩
 obtain⟨hk,h2,h3⟩:=z95 (by simpa using h1)
 obtain⟨j,rfl⟩: ∃j:Nat,g=j:=⟨g.toNat,by omega⟩
 have hjr:j<d.routines.length:=by omega
 have hfr:=z7d hk hjr
 have f:=nd f (nd hjr (show d.routines[j]=rtD d j by simp[rtD,w03,hjr]))
 refine st ?_
 refine ifs (fun h4=> ?_) fun h4=> ?_
 ·rw[if_pos h4] at hfr
  exact ft0 fun _=>⟨.nils,by rw[hfr],by rw[hfr];exact .nil _⟩
 rw[if_neg h4] at hfr
 have hd:=WalkD.of hw hn hk hjr
 refine ot (hWk j hd _ (by simp at*;omega)) fun r t k hr=> ?_
 obtain⟨y,l,b,rfl,hsl,hwalk⟩:=hr
 rw[hwalk] at hfr
 have f:=hsl.co
 cases b
 ·refine st ?_
  exact ft0 fun _=>⟨.nils,by rw[hfr];rfl,by rw[hfr];exact .nil _⟩
 ·refine st ?_
  refine ft ?_ fun _ _=>⟨y,by rw[hfr];rfl,by rw[hfr];exact hsl⟩
  refine st ?_
  trivial
attribute [go_sem] kE vy xy
structure DDefer where
 at_:Int
 next:Int
 frame:Int
 func:Int
 has:Bool
 arg:Int
deriving DecidableEq
abbrev dfA (x:DDefer):AV:= .agg [.int .u64 x.at_,.int .u64 x.next,.int .u64 x.frame,.int .i64 x.func,.bool x.has,.int .u64 x.arg]
def IsDefer (x:DDefer) (y:AV):Prop:=y=dfA x
noncomputable def deferD (d:DDump) (a:Int):DDefer:=⟨a,W d a 0,W d a 1,W d a 2,decide (W d a 3=1),W d a 4⟩
noncomputable def deferOk (d:DDump) (fr:List DFrame) (last a:Int):Bool:=decide (last≤placeR fr (W d a 1)∧W d a 2<d.image.funcs.length∧W d a 3≤1∧(W d a 3=0→W d a 4=0))
noncomputable def lastI (d:DDump) (fr:List DFrame) (l:List Int):Nat→Int
 |0=>0
 |i+1=>placeR fr (W d (l.getD i 0) 1)
noncomputable def defersOk (d:DDump) (fr:List DFrame) (l:List Int):Bool:=linkedB d l&&allI (fun i a=>deferOk d fr (lastI d fr l i) a) 0 l
noncomputable def defersR (d:DDump) (g:Int):List DDefer×Int:=
 if(framesR d g).2≠0 then([],(framesR d g).2) else
 if recsE d 5 (d.defers.getD g.toNat [])≠0 then([],recsE d 5 (d.defers.getD g.toNat [])) else
 if defersOk d (framesR d g).1 (d.defers.getD g.toNat []) then((d.defers.getD g.toNat []).map (deferD d),0) else([],12)
theorem QL {d:DDump} {fr:List DFrame} {l:List Int} {i:Nat} (h:i<l.length) (hb:W d l[i] 0=l.getD (i+1) 0→ ¬deferOk d fr (lastI d fr l i) l[i]=true):defersOk d fr l=false:=by
 rw[Bool.eq_false_iff]
 intro hq
 simp only[defersOk,w0a,linkedB,yj,w24,decide_eq_true_eq] at hq
 exact hb (hq.1 i h) (hq.2 i h)
theorem z3S {d:DDump} {fr:List DFrame} {l:List Int} (h: ∀i (h:i<l.length),W d l[i] 0=l.getD (i+1) 0∧deferOk d fr (lastI d fr l i) l[i]=true):defersOk d fr l=true:=by
 simp only[defersOk,w0a,linkedB,yj,w24,decide_eq_true_eq]
 exact⟨fun i hi=>(h i hi).1,fun i hi=>(h i hi).2⟩
theorem jJ {d:DDump} {g:Int} (h:(framesR d g).2=0):ok28 d=true∧0≤g∧g<d.routines.length:=by
 unfold framesR at h
 split at h
 ·simp at h
 ·rename_i h1
  split at h
  ·simp at h
  ·rename_i h2
   exact⟨by simpa using h1,by omega,by omega⟩
theorem jN {l:List (List Int)} (h:chainsOk l=true) {j:Nat} (hj:j<l.length):l[j].length≤410∧ ∀a∈l[j],65536≤a∧a<81920∧a%8=0:=by
 have h:=z4a.1 (w3c.1 h).2 j hj
 simp only[chainOk,w0a,decide_eq_true_eq,w39,linkOk] at h
 exact h
theorem XO {d:DDump} (h:ok28 d=true):d.defers.length=d.routines.length∧d.panics.length=d.routines.length∧d.stacks.length=d.routines.length∧chainsOk d.defers=true∧chainsOk d.panics=true∧d.routines.length≤16:=by
 simp only[ok28,w0a,decide_eq_true_eq,partsOk,lensOk] at h
 obtain⟨⟨⟨⟨⟨⟨⟨_,_⟩,hs⟩,hh⟩,h5⟩,h6⟩,_⟩,h1,h2,h3,_⟩:=h.1
 have:=(jV hs).1
 exact⟨h2,h3,h1,h5,h6,by omega⟩
theorem z6a {d:DImage} {v0 v1 v2:AV} (h:IsImage d (.agg [v0,v1,v2])):IsSl IsFunc 7 d.funcs v2:=by
 obtain⟨_,_,_,he,_,_,h2⟩:=h
 simp only[AV.agg.injEq,List.cons.injEq] at he
 obtain⟨_,_,rfl,_⟩:=he
 exact h2
theorem TX (d:DDump) (y:AV) (hy:IsDump d y) (hs:SmD d) (g:Int) (m:Mem) (hf:m.floor≤m.stk.length+1):Okp IsDefer 6 tab 35 [y,.int .i64 g] m (defersR d g).1 (defersR d g).2:=by
 have hF:=fun m hf=>W5 d y hy hs g m hf
 obtain⟨v0,v1,v2,v3,v4,v5,v6,v7,rfl,h⟩:=IsDump.v hy
 have hnf:d.image.funcs.length≤40:=by have:=hs.g;simp[great09] at this;omega
 have f:=nd h.o (nd h.f.z (nthS h.f))
 refine okpz (tT kE) fun s c x v fl e=> ?_
 subst e
 simp at hf
 refine ot (hF _ (by simp;omega)) fun r t k hr=> ?_
 obtain⟨yf,rfl,hyf⟩:=hr
 have f:=nd f hyf.co
 refine st ?_
 refine ifs (fun h1=> ?_) fun h1=> ?_
 ·simp[defersR,h1]
 have h1:(framesR d g).2=0:=by simpa using h1
 obtain⟨hk,h2,h3⟩:=jJ h1
 obtain⟨j,rfl⟩: ∃j:Nat,g=j:=⟨g.toNat,by omega⟩
 obtain⟨q1,q2,q3,q4,q5,q6⟩:=XO hk
 have hj:j<d.defers.length:=by omega
 obtain⟨hl,ha⟩:=jN q4 hj
 have hy6:=h.f.nth hj
 have hR:defersR d j=if recsE d 5 d.defers[j]≠0 then([],recsE d 5 d.defers[j]) else if defersOk d (framesR d j).1 d.defers[j] then(d.defers[j].map (deferD d),0) else([],12):=by
  simp[defersR,h1,w03,hj]
 rw[hR]
 generalize d.defers[j]=l at*
 generalize (framesR d j).1=fr at*
 have f:=nd f (nd hj hy6.co)
 refine st ?_
 refine op (Yu d _ _ _ _ _ _ _ _ h (by omega) 5 (by omega) l _ hy6 (fun a h=>by have:=ha a h;omega) (by omega) _ (by simp;omega)) fun z t k hz=> ?_
 have f:=nd f hz.co
 refine st ?_
 refine ifs (fun h4=> ?_) fun h4=> ?_
 ·simp[h4]
 have h4:recsE d 5 l=0:=by simpa using h4
 rw[if_pos h4] at hz
 have hz:=hz.sl (by simp;omega)
 refine ow (YS d 5 (by omega) l _ _ hy6 hz (by omega) _) fun k=> ?_
 refine ifs (fun h5=> ?_) fun h5=> ?_
 rotate_left
 ·simp[h4,defersOk,h5]
 have hrz:=recZ hz
 have hW:=fun j (hj:j<l.length) k=>W_u d l[j] k
 have hv2:=z6a h.i
 have f:=nd hrz (nd f (nd hy6.z (nd (nthK hy6) (nd hv2.z.1 fun n m=>(Wh fr yf hyf n m).eq))))
 refine st ?_
 refine xn 46 l.length [9,10] (fun i v e=>Own IsDefer 6 (v 9) ((l.take i).map (deferD d)) e∧v 10= .int .i64 (lastI d fr l i)∧ ∀j (hj:j<l.length),j<i→deferOk d fr (lastI d fr l j) l[j]=true) 0 ?_ fun i v e nz hi ho=> ?_
 ·exact⟨.nil _,rfl,fun j hj hi=>by omega⟩
 obtain⟨ho,h10,hp⟩:=ho
 have hb:=fun(hi:i<l.length) (hb: ¬deferOk d fr (lastI d fr l i) l[i]=true)=>QL (l:=l) hi fun _=>hb
 refine ifs (fun hi=> ?_) fun hi=> ?_
 ·have hb:=hb hi
  have:=hW i hi 2
  have:=hW i hi 3
  have hl':l.getD i 0=l[i]:=by simp[w03,hi]
  repeat' first|refine ifs ?_ ?_|intro
  all_goals first|(rw[hb (by simp only[deferOk,decide_eq_true_eq];omega)];exact⟨rfl,rfl⟩)|skip
  all_goals
   refine oa ho (zZ (show IsDefer (deferD d l[i]) _ from ?_)) (by simp;omega) fun y n e ho=> ?_
   ·rfl
   exact nd hi (nd (by rw[Ue hi];exact ho) (nd (by simp only[lastI,Tr hi]) fun j hj hji=>by
    rcases w3e (w42 hji) with k|rfl
    ·exact hp j hj k
    ·simp only[deferOk,decide_eq_true_eq];omega))
 ·obtain rfl:i=l.length:=by omega
  have:defersOk d fr l=true:=by
   simp only[defersOk,h5,Bool.true_and,yj,w24]
   exact fun i hi=>hp i hi hi
  rw[if_pos this]
  exact fp ho (nd (by simp) rfl)
theorem TL (d:DDump) (y:AV) (hy:IsDump d y) (hw:WfDump d) (hL:large28 d=false) (g:Int) (m:Mem) (hf:m.floor≤m.stk.length+1):Okp IsDefer 6 tab 36 [y,.int .i64 g] m (defersR d g).1 (defersR d g).2:=by
 have hF:=fun m hf=>YI d y hy hw hL g m hf
 have hs:=SmD.of hw hL
 obtain⟨v0,v1,v2,v3,v4,v5,v6,v7,rfl,h⟩:=IsDump.v hy
 have hnf:d.image.funcs.length≤40:=by have:=hs.g;simp[great09] at this;omega
 have hv2:=z6a h.i
 have f:=nd h.o (nd h.f.z (nthS h.f))
 refine okpz (tT vy) fun s c x v fl e=> ?_
 subst e
 simp at hf
 refine ot (hF _ (by simp;omega)) fun r t k hr=> ?_
 obtain⟨yf,rfl,hyf⟩:=hr
 have f:=nd f hyf.co
 refine st ?_
 refine ifs (fun h1=> ?_) fun h1=> ?_
 ·simp[defersR,h1]
 have h1:(framesR d g).2=0:=by simpa using h1
 obtain⟨hk,h2,h3⟩:=jJ h1
 obtain⟨j,rfl⟩: ∃j:Nat,g=j:=⟨g.toNat,by omega⟩
 obtain⟨q1,q2,q3,q4,q5,q6⟩:=XO hk
 have hj:j<d.defers.length:=by omega
 obtain⟨hl,ha⟩:=jN q4 hj
 have hy6:=h.f.nth hj
 have hR:defersR d j=if recsE d 5 d.defers[j]≠0 then([],recsE d 5 d.defers[j]) else if defersOk d (framesR d j).1 d.defers[j] then(d.defers[j].map (deferD d),0) else([],12):=by
  simp[defersR,h1,w03,hj]
 rw[hR]
 clear hR
 generalize d.defers[j]=l at*
 generalize (framesR d j).1=fr at*
 have f:=nd f (nd hj (nd hy6.co (nd hy6.z (nthK hy6))))
 refine xn 9 l.length [8] (fun i v e=>Own (IsSl (IsK .u64) 1) 1 (v 8) ((l.take i).map (wordsV d 5)) e∧ ∀j (hj:j<l.length),j<i→wordsE d 5 l[j]=0) 0 ?_ fun i v e nz hi ho=> ?_
 ·exact⟨.nil _,fun j hj hi=>by omega⟩
 refine ifs (fun hi=> ?_) fun hi=> ?_
 ·refine op (W6 d _ _ _ _ _ _ _ _ h (by omega) 5 (by omega) l[i] (by have:=ha _ (w04 hi);omega) _) fun z t k hz=> ?_
  have f:=nd f hz.co
  refine st ?_
  refine ifs (fun he=> ?_) fun he=> ?_
  ·rw[Qc hi he ho.2,if_pos he];exact⟨rfl,rfl⟩
  ·have he:wordsE d 5 l[i]=0:=by simpa using he
   rw[if_pos he] at hz
   refine oa ho.1 (zZ (show IsSl (IsK .u64) 1 (wordsV d 5 l[i]) _ from hz.sl (by simp[wordsV]))) (by simp;omega) fun y q e ho1=> ?_
   exact nd hi (nd (by rw[Ue hi];exact ho1) (fun j hj hji=>by
    rcases w3e (w42 hji) with h|rfl
    ·exact ho.2 j hj h
    ·exact he))
 obtain rfl:i=l.length:=by omega
 obtain⟨ho,hp⟩:=ho
 rw[w06] at ho
 have hz:=ho.sl (by simp;omega)
 have he:recsE d 5 l=0:=Qb fun j hj=>hp j hj hj
 rw[if_neg (show¬recsE d 5 l≠0 by simp[he])]
 have hrz:=recZ hz
 have hW:=fun j (hj:j<l.length) k=>W_u d l[j] k
 have f:=nd hrz (nd f (nd hv2.z.1 (nd (fun n m=>(W7 fr yf hyf n m).eq) fun(i:Nat) (hi:i≤900) m=>(YG l _ hy6 (by omega) i hi m).eq)))
 refine st ?_
 refine xn 14 l.length [12,13] (fun i v e=>Own IsDefer 6 (v 12) ((l.take i).map (deferD d)) e∧v 13= .int .i64 (lastI d fr l i)∧ ∀j (hj:j<l.length),j<i→W d l[j] 0=l.getD (j+1) 0∧deferOk d fr (lastI d fr l j) l[j]=true) 0 ?_ fun i v e nz hi ho=> ?_
 ·exact⟨.nil _,rfl,fun j hj hi=>by omega⟩
 obtain⟨ho,h10,hp⟩:=ho
 have hb:=fun(hi:i<l.length) (hb:W d l[i] 0=l.getD (i+1) 0→ ¬deferOk d fr (lastI d fr l i) l[i]=true)=>QL (l:=l) hi hb
 refine ifs (fun hi=> ?_) fun hi=> ?_
 ·have hb:=hb hi
  have:=hW i hi 2
  have:=hW i hi 3
  repeat' first|refine ifs ?_ ?_|intro
  all_goals first|(rw[hb fun _=>by simp only[deferOk,decide_eq_true_eq];omega];exact⟨rfl,rfl⟩)|(rw[hb fun h=>absurd h (by assumption)];exact⟨rfl,rfl⟩)|skip
  all_goals
   refine oa ho (zZ (show IsDefer (deferD d l[i]) _ from ?_)) (by simp;omega) fun y n e ho=> ?_
   ·rfl
   exact nd hi (nd (by rw[Ue hi];exact ho) (nd (by simp only[lastI,Tr hi]) fun j hj hji=>by
    rcases w3e (w42 hji) with k|rfl
    ·exact hp j hj k
    ·simp only[deferOk,decide_eq_true_eq];omega))
 ·obtain rfl:i=l.length:=by omega
  rw[if_pos (z3S fun i hi=>hp i hi hi)]
  exact fp ho (nd (by simp) rfl)
theorem Wv (a b:List DDefer) (x y:AV) (hx:IsSl IsDefer 6 a x) (hy:IsSl IsDefer 6 b y) (m:Mem):Okv tab 39 [x,y] m (.bool (decide (a=b))):=by
 have f:=nd hx.z (nd hy.z (nd (fun j (hj:j<a.length)=>show nth x j=dfA a[j] from hx.nth hj) fun j (hj:j<b.length)=>show nth y j=dfA b[j] from hy.nth hj))
 have:=hx.max
 have hd:=fun x y:DDefer=>(show x=y↔x.at_=y.at_∧x.next=y.next∧x.frame=y.frame∧x.func=y.func∧x.has=y.has∧x.arg=y.arg by cases x;cases y;simp)
 refine okz (tT xy) fun s c x v g _=> ?_
 repeat' first|refine ifs ?_ ?_|intro
 any_goals refine xn 5 a.length [] (fun i _ _=> ∀j,j<i→a[j]? =b[j]?) 0 ?_ fun i v e nz hi hp=> ?_
 repeat' first|refine ifs ?_ ?_|intro
 all_goals clear f;grind [qz]
attribute [go_sem] kC Zp vu u9 qE yh
structure DPanic where
 at_:Int
 next:Int
 tag:Int
 w0:Int
 w1:Int
 flags:Int
 call:Int
 from_:Int
deriving DecidableEq
abbrev pnA (x:DPanic):AV:= .agg [.int .u64 x.at_,.int .u64 x.next,.int .u64 x.tag,.int .u64 x.w0,.int .u64 x.w1,.int .u64 x.flags,.int .u64 x.call,.int .u64 x.from_]
def IsPanic (x:DPanic) (y:AV):Prop:=y=pnA x
noncomputable def panicD (d:DDump) (a:Int):DPanic:=⟨a,W d a 0,W d a 1,W d a 2,W d a 3,W d a 4,W d a 5,W d a 6⟩
def valuedR (x:DPanic):Bool:=decide (x.tag≤4∧x.flags≤7∧(x.flags/2%2=1↔x.tag=0)∧(x.tag=0→x.flags%2=0)∧(x.tag≠3→x.w1=0)∧(x.tag=0→x.w0=0)∧(x.tag=2→x.w0≤1)∧(x.tag=4→1≤x.w0∧x.w0≤3))
theorem iaA2 (l k st o:Nat):evIaddrA 2 1 (.ptr l k st o) (.int .i64 0)=some (.ptr l k st o)∧evIaddrA 2 1 (.ptr l k st o) (.int .i64 1)=some (.ptr l k st (o+1)):=⟨rfl,rfl⟩
theorem z7x (a:Int) (h0:0≤a) (h: ¬a>7):evBits .and .u64 a 1=some (.int .u64 (a%2))∧evBits .and .u64 a 2=some (.int .u64 (a/2%2*2)):=by
 have:a=0∨a=1∨a=2∨a=3∨a=4∨a=5∨a=6∨a=7:=by omega
 rcases this with rfl|rfl|rfl|rfl|rfl|rfl|rfl|rfl<;>exact⟨rfl,rfl⟩
theorem TV (x:DPanic) (h0:0≤x.tag) (h1:0≤x.flags) (h2:0≤x.w0) (m:Mem):Okv tab 104 [pnA x] m (.bool (valuedR x)):=by
 have f:=nd iaA2 (z7x x.flags h1)
 refine okz (tT kC) fun s c n v g _=> ?_
 repeat' first|refine ifs ?_ ?_|intro
 all_goals clear f;simp only[valuedR,Bool.false_eq,Bool.true_eq,decide_eq_false_iff_not,decide_eq_true_eq,decide_eq_decide,Bool.not_eq_true,beq_iff_eq,Bool.not_eq_true',beq_eq_false_iff_ne,ne_eq] at*;omega
theorem TJ (x:DPanic) (h0:0≤x.tag) (h1:0≤x.flags) (h2:0≤x.w0) (m:Mem):Okv tab 106 [pnA x] m (.bool (valuedR x)):=by
 have f:=iaA2
 refine okz (tT vu) fun s c n v g _=> ?_
 repeat' first|refine ifs ?_ ?_|intro
 all_goals clear f;simp only[valuedR,Bool.false_eq,Bool.true_eq,decide_eq_false_iff_not,decide_eq_true_eq,decide_eq_decide,Bool.not_eq_true,beq_iff_eq,Bool.not_eq_true',beq_eq_false_iff_ne,ne_eq] at*;omega
theorem Vi (l:List DFrame) (n:Int): -1≤placeR l n∧placeR l n<l.length:=by
 unfold placeR fidx
 split
 ·rename_i h
  have:=List.findIdx_lt_length_of_exists (w52.1 h)
  omega
 ·omega
def frN (l:List DFrame) (p:Int):DFrame:=l.getD p.toNat ⟨0,0,0,0,0,0,0,0⟩
theorem nthP {l:List DFrame} {y:AV} (h:IsSl IsFrame 8 l y) (p:Int) (h0:0≤p) (h1:p<l.length):nth y p.toNat=frA (frN l p):=by
 rw[nthF h p.toNat (by omega)]
 simp[frN,w03,show p.toNat<l.length by omega]
def notedR (fr:List DFrame) (x:DPanic):Bool:=decide ((x.call=0∧x.from_=0)∨(0≤placeR fr x.call∧placeR fr x.call<placeR fr x.from_∧(frN fr (placeR fr x.call)).record=x.at_∧(frN fr (placeR fr x.call)).mode=if x.tag=0 then 3 else 2))
theorem z0v (l:List DFrame) (y:AV) (hy:IsSl IsFrame 8 l y) (x:DPanic) (m:Mem):Okv tab 105 [y,pnA x] m (.bool (notedR l x)):=by
 have h1:=Vi l x.call
 have h2:=Vi l x.from_
 have f:=nd hy.z (nd hy.co (nd (nthP hy) fun n m=>(Wh l y hy n m).eq))
 refine okz (tT Zp) fun s c n v g _=> ?_
 repeat' first|refine ifs ?_ ?_|intro
 all_goals clear f;unfold notedR;by_cases ht:x.tag=0<;>simp only[ht,reduceIte,Bool.false_eq,Bool.true_eq,decide_eq_false_iff_not,decide_eq_true_eq,decide_eq_decide]<;>omega
theorem z0b (l:List DFrame) (y:AV) (hy:IsSl IsFrame 8 l y) (x:DPanic) (m:Mem):Okv tab 107 [y,pnA x] m (.bool (notedR l x)):=by
 have h1:=Vi l x.call
 have h2:=Vi l x.from_
 have f:=nd hy.z (nd hy.co (nd (nthP hy) fun n m=>(W7 l y hy n m).eq))
 refine okz (tT u9) fun s c n v g _=> ?_
 repeat' first|refine ifs ?_ ?_|intro
 all_goals clear f;unfold notedR;by_cases ht:x.tag=0<;>simp only[ht,reduceIte,Bool.false_eq,Bool.true_eq,decide_eq_false_iff_not,decide_eq_true_eq,decide_eq_decide]<;>omega
attribute [go_sem] qE yh
def putE (k v:Int):List (Int×Int)→List (Int×Int)
 | []=>[(k,v)]
 |p::r=>if k=p.1 then(k,v)::r else p::putE k v r
def getE (k:Int):List (Int×Int)→Int
 | []=>0
 |p::r=>if k=p.1 then p.2 else getE k r
def entA (E:List (Int×Int)):List AV:=E.map fun p=> .tup [.int .u64 p.1,.int .u64 p.2]
theorem z3D (k k' v:Int): ∀E,getE k (putE k' v E)=if k=k' then v else getE k E
 | []=>rfl
 |p::r=>by
  unfold putE getE
  have:=z3D k k' v r
  grind [getE]
theorem z3j (k v:Int): ∀E,mapPut false (.int .u64 k) (.int .u64 v) (entA E)=some (entA (putE k v E))
 | []=>rfl
 |p::r=>by
  have:=z3j k v r
  unfold entA at*
  have hk:sameKind .u64 .u64=true:=rfl
  simp only[w32,mapPut,keyEq,putE,hk,if_true]
  by_cases h:k=p.1
  ·simp[h]
  ·simp[h,this,beq_eq_false_iff_ne.2 h]
theorem z3k (k:Int): ∀E,mapGet false (.int .u64 0) (.int .u64 k) (entA E)=some (.int .u64 (getE k E))
 | []=>rfl
 |p::r=>by
  have:=z3k k r
  unfold entA at*
  have hk:sameKind .u64 .u64=true:=rfl
  simp only[w32,mapGet,keyEq,getE,hk,if_true]
  by_cases h:k=p.1
  ·simp[h]
  ·simp[h,this,beq_eq_false_iff_ne.2 h]
theorem TG {d:DDump} {base:Int}: ∀{n:Nat} {c e:Int} {ab:Option DFrame} {l:List DFrame},walkN d base n c e ab=some l→ ∀f∈l,base≤f.start
 |0,_,_,_,_,h=>by simp[walkN] at h
 |n+1,c,e,ab,l,h=>by
  unfold walkN at h
  split at h
  ·cases h
  ·rename_i x hs
   obtain⟨h1,h2,_⟩:=Q4 hs
   simp only[frameOk,decide_eq_true_eq] at h1
   have h3:base≤x.start:=by rw[h2];show base≤e-_;omega
   split at h
   ·split at h
    ·cases h;simpa using h3
    ·cases h
   ·obtain⟨l',h4,rfl⟩:=w00.1 h
    intro f hf
    rcases List.mem_cons.1 hf with rfl|hf
    ·exact h3
    ·exact TG h4 f hf
theorem z2x {d:DDump} {g:Int}: ∀f∈(framesR d g).1,0<f.start:=by
 unfold framesR
 intro f hf
 split at hf
 ·cases hf
 split at hf
 ·cases hf
 split at hf
 ·cases hf
 split at hf
 ·cases hf
 ·rename_i l h
  have:=TG h f hf
  unfold stackB at this
  omega
noncomputable def namedB (d:DDump) (fr:List DFrame) (l:List Int):Bool:=fr.all fun f=>decide (f.record=0)||l.any fun a=>decide (a=f.record∧W d a 5=f.start)
noncomputable def panicsOk (d:DDump) (fr:List DFrame) (l:List Int):Bool:=linkedB d l&&(l.all fun a=>valuedR (panicD d a)&&notedR fr (panicD d a))&&namedB d fr l
noncomputable def panicsR (d:DDump) (g:Int):List DPanic×Int:=
 if(framesR d g).2≠0 then([],(framesR d g).2) else
 if recsE d 7 (d.panics.getD g.toNat [])≠0 then([],recsE d 7 (d.panics.getD g.toNat [])) else
 if panicsOk d (framesR d g).1 (d.panics.getD g.toNat []) then((d.panics.getD g.toNat []).map (panicD d),0) else([],12)
theorem ZO {d:DDump} {fr:List DFrame} {l:List Int} {i:Nat} (h:i<l.length) (hb:W d l[i] 0=l.getD (i+1) 0→valuedR (panicD d l[i])=true→ ¬notedR fr (panicD d l[i])=true):panicsOk d fr l=false:=by
 rw[Bool.eq_false_iff]
 intro hq
 simp only[panicsOk,w0a,linkedB,yj,w24,decide_eq_true_eq,w39] at hq
 have:=hq.1.2 _ (w04 h)
 exact hb (hq.1.1 i h) this.1 this.2
theorem z1o {d:DDump} {fr:List DFrame} {l:List Int} {i:Nat} (h:i<fr.length) (hb:fr[i].record≠0∧ ¬(fr[i].record∈l∧W d fr[i].record 5=fr[i].start)):panicsOk d fr l=false:=by
 rw[Bool.eq_false_iff]
 intro hq
 simp only[panicsOk,w0a,namedB,w39,w2e,decide_eq_true_eq,w52] at hq
 rcases hq.2 _ (w04 h) with h1|⟨a,ha,rfl,h2⟩
 ·exact hb.1 h1
 ·exact hb.2 ⟨ha,h2⟩
theorem UL {d:DDump} {fr:List DFrame} {l:List Int} (h: ∀i (h:i<l.length),W d l[i] 0=l.getD (i+1) 0∧valuedR (panicD d l[i])=true∧notedR fr (panicD d l[i])=true) (h2: ∀i (h:i<fr.length),fr[i].record=0∨fr[i].record∈l∧W d fr[i].record 5=fr[i].start):panicsOk d fr l=true:=by
 simp only[panicsOk,w0a,linkedB,yj,w24,decide_eq_true_eq,namedB,w39,w2e,w52]
 refine⟨⟨fun i hi=>(h i hi).1,fun a ha=> ?_⟩,fun f hf=> ?_⟩
 ·obtain⟨i,hi,rfl⟩:=w49.1 ha
  exact(h i hi).2
 ·obtain⟨i,hi,rfl⟩:=w49.1 hf
  rcases h2 i hi with h3|⟨h3,h4⟩
  ·exact .inl h3
  ·exact .inr ⟨_,h3,rfl,h4⟩
noncomputable abbrev pnD (d:DDump) (a:Int):AV:= .agg [.int .u64 a,.int .u64 (W d a 0),.int .u64 (W d a 1),.int .u64 (W d a 2),.int .u64 (W d a 3),.int .u64 (W d a 4),.int .u64 (W d a 5),.int .u64 (W d a 6)]
theorem TW (d:DDump) (y:AV) (hy:IsDump d y) (hs:SmD d) (g:Int) (m:Mem) (hf:m.floor≤m.stk.length+1):Okp IsPanic 8 tab 37 [y,.int .i64 g] m (panicsR d g).1 (panicsR d g).2:=by
 have hF:=fun m hf=>W5 d y hy hs g m hf
 obtain⟨v0,v1,v2,v3,v4,v5,v6,v7,rfl,h⟩:=IsDump.v hy
 have f:=nd h.o (nd h.p.z (nthS h.p))
 refine okpz (tT qE) fun s c x v fl e=> ?_
 subst e
 simp at hf
 refine ot (hF _ (by simp;omega)) fun r t k hr=> ?_
 obtain⟨yf,rfl,hyf⟩:=hr
 have f:=nd f hyf.co
 refine st ?_
 refine ifs (fun h1=> ?_) fun h1=> ?_
 ·simp[panicsR,h1]
 have h1:(framesR d g).2=0:=by simpa using h1
 obtain⟨hk,h2,h3⟩:=jJ h1
 obtain⟨j,rfl⟩: ∃j:Nat,g=j:=⟨g.toNat,by omega⟩
 obtain⟨q1,q2,q3,q4,q5,q6⟩:=XO hk
 have hj:j<d.panics.length:=by omega
 obtain⟨hl,ha⟩:=jN q5 hj
 have hy6:=h.p.nth hj
 have hst:= @z2x d j
 have hR:panicsR d j=if recsE d 7 d.panics[j]≠0 then([],recsE d 7 d.panics[j]) else if panicsOk d (framesR d j).1 d.panics[j] then(d.panics[j].map (panicD d),0) else([],12):=by
  simp[panicsR,h1,w03,hj]
 rw[hR]
 clear hR
 generalize d.panics[j]=l at*
 generalize (framesR d j).1=fr at*
 have f:=nd f (nd hj hy6.co)
 refine st ?_
 refine op (Yu d _ _ _ _ _ _ _ _ h (by omega) 7 (by omega) l _ hy6 (fun a h=>by have:=ha a h;omega) (by omega) _ (by simp;omega)) fun z t k hz=> ?_
 have f:=nd f hz.co
 refine st ?_
 refine ifs (fun h4=> ?_) fun h4=> ?_
 ·simp[h4]
 have h4:recsE d 7 l=0:=by simpa using h4
 rw[if_pos h4] at hz
 have hz:=hz.sl (by simp;omega)
 refine ow (YS d 7 (by omega) l _ _ hy6 hz (by omega) _) fun k=> ?_
 refine ifs (fun h5=> ?_) fun h5=> ?_
 rotate_left
 ·simp[h4,panicsOk,h5]
 have hrz:=recZ hz
 have hln:=fun i (hi:i<l.length)=>by
  have:=yj.1 h5 i hi
  simp only[w24,decide_eq_true_eq] at this
  exact this
 have f:=nd hrz (nd f (nd hy6.z (nd (nthK hy6) (nd hyf.z.1 (nd z3j (nd z3k (nd (fun a m=>(show Okv tab 104 [pnD d a] m (.bool (valuedR (panicD d a))) from TV (panicD d a) (W_u d a 1).1 (W_u d a 4).1 (W_u d a 2).1 m).eq) fun a m=>(show Okv tab 105 [yf,pnD d a] m (.bool (notedR fr (panicD d a))) from z0v fr yf hyf (panicD d a) m).eq)))))))
 refine st ?_
 refine xg [9,49] (fun(z:Nat×List (Int×Int)) v e b=>z.1≤l.length∧v 49= .int .i64 (z.1:Int)∧Own IsPanic 8 (v 9) ((l.take z.1).map (panicD d)) e∧b=[⟨x,[v0,v1,v2,.int .u8 d.ended.outcome,.int .i64 d.ended.failing,.int .i64 d.ended.steps,.int .u64 d.heap.base,v3,v4,v5,v6,v7]⟩,⟨k,[.tup (entA z.2)]⟩]∧(∀q,getE q z.2=if q∈l.take z.1 then W d q 5 else 0)∧ ∀j (hj:j<l.length),j<z.1→valuedR (panicD d l[j])=true∧notedR fr (panicD d l[j])=true) (fun z=>l.length-z.1) (0,[]) ?_ ?_
 ·exact⟨by omega,rfl,.nil _,rfl,fun q=>by simp[getE],fun j hj hji=>by omega⟩
 rintro⟨i,E⟩ v e nz bs ⟨hi,h49,ho,hbs,hE,hp⟩
 dsimp only at*
 subst hbs
 have hb:=fun(hi:i<l.length) hb=>ZO (d:=d) (fr:=fr) (l:=l) hi hb
 refine ifs (fun hi=> ?_) fun hi=> ?_
 ·refine ifs (fun hv=> ?_) fun hv=> ?_
  ·refine ifs (fun hn=> ?_) fun hn=> ?_
   ·refine oa ho (zZ (show IsPanic (panicD d l[i]) _ from rfl)) (by simp;omega) fun y n e ho=> ?_
    refine⟨(i+1,putE l[i] (W d l[i] 5) E),by dsimp only;omega,hi,rfl,by rw[Ue hi];exact ho,rfl,fun q=> ?_,fun j hj hji=> ?_⟩
    ·have hm:q∈l.take (i+1)↔q∈l.take i∨q=l[i]:=by rw[w0c hi,w0b,w1e]
     rw[z3D,hE]
     by_cases hq:q=l[i]
     ·rw[if_pos hq,if_pos (hm.2 (.inr hq)),hq]
     ·rw[if_neg hq]
      simp only[hm,hq,or_false]
    ·rcases w3e (w42 hji) with k|rfl
     ·exact hp j hj k
     ·exact⟨hv,hn⟩
   ·rw[hb hi fun _ _=>hn];exact⟨rfl,rfl⟩
  ·rw[hb hi fun _ h=>absurd h hv];exact⟨rfl,rfl⟩
 ·obtain rfl:i=l.length:=by omega
  rw[w06] at ho
  simp only[w06] at hE
  have f:=nd f (nd hyf.z.2 (nthF hyf))
  refine xn 106 fr.length [] (fun i _ e=>Own IsPanic 8 (v 9) (l.map (panicD d)) e∧ ∀j (hj:j<fr.length),j<i→fr[j].record=0∨fr[j].record∈l∧W d fr[j].record 5=fr[j].start) 0 ?_ fun i w e nz hi ho=> ?_
  ·exact⟨ho,fun j hj hji=>by omega⟩
  obtain⟨ho,hq⟩:=ho
  refine ifs (fun hi=> ?_) fun hi=> ?_
  ·have:=hst _ (w04 hi)
   refine ifs (fun hr=> ?_) fun hr=> ?_
   ·refine ifs (fun hc=> ?_) fun hc=> ?_
    ·rw[z1o hi ⟨hr,fun⟨h1,h2⟩=>hc (by rw[hE,if_pos h1];exact h2)⟩];exact⟨rfl,rfl⟩
    ·have hc:getE fr[i].record E=fr[i].start:=by simpa using hc
     rw[hE] at hc
     have h1:fr[i].record∈l:=by
      refine Decidable.byContradiction fun h=> ?_
      rw[if_neg h] at hc
      omega
     rw[if_pos h1] at hc
     exact nd hi (nd (z6 (by omega) (by have:=hyf.max;omega)) (nd ho fun j hj hji=>by
      rcases w3e (w42 hji) with k|rfl
      ·exact hq j hj k
      ·exact .inr ⟨h1,hc⟩))
   ·exact nd hi (nd (z6 (by omega) (by have:=hyf.max;omega)) (nd ho fun j hj hji=>by
     rcases w3e (w42 hji) with k|rfl
     ·exact hq j hj k
     ·exact .inl (by simpa using hr)))
  ·obtain rfl:i=fr.length:=by omega
   rw[UL (fun i hi=>⟨hln i hi,hp i hi hi⟩) fun i hi=>hq i hi hi]
   exact fp ho (nd rfl rfl)
attribute [go_sem] vx yh
theorem TK (d:DDump) (y:AV) (hy:IsDump d y) (hw:WfDump d) (hL:large28 d=false) (g:Int) (m:Mem) (hf:m.floor≤m.stk.length+1):Okp IsPanic 8 tab 38 [y,.int .i64 g] m (panicsR d g).1 (panicsR d g).2:=by
 have hF:=fun m hf=>YI d y hy hw hL g m hf
 have hs:=SmD.of hw hL
 obtain⟨v0,v1,v2,v3,v4,v5,v6,v7,rfl,h⟩:=IsDump.v hy
 have f:=nd h.o (nd h.p.z (nthS h.p))
 refine okpz (tT vx) fun s c x v fl e=> ?_
 subst e
 simp at hf
 refine ot (hF _ (by simp;omega)) fun r t k hr=> ?_
 obtain⟨yf,rfl,hyf⟩:=hr
 have f:=nd f hyf.co
 refine st ?_
 refine ifs (fun h1=> ?_) fun h1=> ?_
 ·simp[panicsR,h1]
 have h1:(framesR d g).2=0:=by simpa using h1
 obtain⟨hk,h2,h3⟩:=jJ h1
 obtain⟨j,rfl⟩: ∃j:Nat,g=j:=⟨g.toNat,by omega⟩
 obtain⟨q1,q2,q3,q4,q5,q6⟩:=XO hk
 have hj:j<d.panics.length:=by omega
 obtain⟨hl,ha⟩:=jN q5 hj
 have hy6:=h.p.nth hj
 have hR:panicsR d j=if recsE d 7 d.panics[j]≠0 then([],recsE d 7 d.panics[j]) else if panicsOk d (framesR d j).1 d.panics[j] then(d.panics[j].map (panicD d),0) else([],12):=by
  simp[panicsR,h1,w03,hj]
 rw[hR]
 clear hR
 generalize d.panics[j]=l at*
 generalize (framesR d j).1=fr at*
 have f:=nd f (nd hj (nd hy6.co (nd hy6.z (nthK hy6))))
 refine xn 9 l.length [8] (fun i v e=>Own IsPanic 8 (v 8) ((l.take i).map (panicD d)) e∧ ∀j (hj:j<l.length),j<i→wordsE d 7 l[j]=0) 0 ?_ fun i v e nz hi ho=> ?_
 ·exact⟨.nil _,fun j hj hi=>by omega⟩
 refine ifs (fun hi=> ?_) fun hi=> ?_
 ·refine op (W6 d _ _ _ _ _ _ _ _ h (by omega) 7 (by omega) l[i] (by have:=ha _ (w04 hi);omega) _) fun z t k hz=> ?_
  have f:=nd f hz.co
  refine st ?_
  refine ifs (fun he=> ?_) fun he=> ?_
  ·rw[Qc hi he ho.2,if_pos he];exact⟨rfl,rfl⟩
  ·have he:wordsE d 7 l[i]=0:=by simpa using he
   rw[if_pos he] at hz
   have hz:=hz.sl (by simp[wordsV])
   have f:=nd f (nd (fun(k:IntKind) (p:Int) (h0:0≤p) (h1:p<7)=>hz.z.2 k p h0 (by simp[wordsV];omega)) (fun k (hk:k<7)=>show nth z k= .int .u64 (W d l[i] k) by simpa [wordsV] using nthK hz k (by simpa [wordsV] using hk)))
   refine st ?_
   refine oa ho.1 (zZ (show IsPanic (panicD d l[i]) _ from rfl)) (by simp;omega) fun y q e ho1=> ?_
   exact nd hi (nd (by rw[Ue hi];exact ho1) (fun j hj hji=>by
    rcases w3e (w42 hji) with h|rfl
    ·exact ho.2 j hj h
    ·exact he))
 obtain rfl:i=l.length:=by omega
 obtain⟨ho,hp⟩:=ho
 rw[w06] at ho
 have hz:=ho.sl (by simp;omega)
 have he:recsE d 7 l=0:=Qb fun j hj=>hp j hj hj
 rw[if_neg (show¬recsE d 7 l≠0 by simp[he])]
 have hzl:evLen (v 8)=some (.int .i64 l.length):=by simpa using hz.z.1
 have hzi: ∀(k:IntKind) (p:Int),0≤p→p<l.length→evIaddr 8 (v 8) (.int k p)=some (.ro (nth (v 8) p.toNat).cells):=by simpa using hz.z.2
 have hzn: ∀i (hi:i<l.length),nth (v 8) i= .agg [.int .u64 l[i],.int .u64 (W d l[i] 0),.int .u64 (W d l[i] 1),.int .u64 (W d l[i] 2),.int .u64 (W d l[i] 3),.int .u64 (W d l[i] 4),.int .u64 (W d l[i] 5),.int .u64 (W d l[i] 6)]:=fun i hi=>by
  have:=hz.nth (i:=i) (by simpa using hi)
  simpa [IsPanic,panicD] using this
 have f0:=nd hzl (nd hzi (nd hzn f))
 have f:=nd f0 (nd (fun(i:Nat) (hi:i≤900) m=>(YG l _ hy6 (by omega) i hi m).eq) (nd (fun a m=>(show Okv tab 106 [pnD d a] m (.bool (valuedR (panicD d a))) from TJ (panicD d a) (W_u d a 1).1 (W_u d a 4).1 (W_u d a 2).1 m).eq) fun a m=>(show Okv tab 107 [yf,pnD d a] m (.bool (notedR fr (panicD d a))) from z0b fr yf hyf (panicD d a) m).eq))
 refine st ?_
 refine xn 13 l.length [] (fun i _ e=>Own IsPanic 8 (v 8) (l.map (panicD d)) e∧ ∀j (hj:j<l.length),j<i→W d l[j] 0=l.getD (j+1) 0∧valuedR (panicD d l[j])=true∧notedR fr (panicD d l[j])=true) 0 ?_ fun i w e1 nz hi hq=> ?_
 ·exact⟨ho,fun j hj hi=>by omega⟩
 refine ifs (fun hi=> ?_) fun hi=> ?_
 ·refine ifs (fun hn=> ?_) fun hn=> ?_
  ·rw[ZO hi fun h=>absurd h hn];exact⟨rfl,rfl⟩
  ·refine ifs (fun hv=> ?_) fun hv=> ?_
   ·refine ifs (fun hno=> ?_) fun hno=> ?_
    ·exact nd hi (nd hq.1 fun j hj hji=>by
      rcases w3e (w42 hji) with k|rfl
      ·exact hq.2 j hj k
      ·exact⟨by simpa using hn,hv,hno⟩)
    ·rw[ZO hi fun _ _=>hno];exact⟨rfl,rfl⟩
   ·rw[ZO hi fun _ h=>absurd h hv];exact⟨rfl,rfl⟩
 obtain rfl:i=l.length:=by omega
 obtain⟨ho,hq⟩:=hq
 have f:=nd f0 (nd hyf.z (nthF hyf))
 refine st ?_
 refine xn 14 fr.length [] (fun i _ e=>Own IsPanic 8 (v 8) (l.map (panicD d)) e∧ ∀j (hj:j<fr.length),j<i→fr[j].record=0∨fr[j].record∈l∧W d fr[j].record 5=fr[j].start) 0 ?_ fun i w e2 nz hi hr=> ?_
 ·exact⟨ho,fun j hj hi=>by omega⟩
 refine ifs (fun hi=> ?_) fun hi=> ?_
 ·refine xn 16 l.length [15] (fun k w e=>Own IsPanic 8 (v 8) (l.map (panicD d)) e∧w 15= .bool (decide (fr[i].record=0)||(l.take k).any fun a=>decide (a=fr[i].record∧W d a 5=fr[i].start))) 0 ?_ fun k w e3 nz hk hw=> ?_
  ·exact⟨hr.1,by simp⟩
  obtain⟨ho,h15⟩:=hw
  refine ifs (fun hk=> ?_) fun hk=> ?_
  ·have hs:((l.take (k+1)).any fun a=>decide (a=fr[i].record∧W d a 5=fr[i].start))=(((l.take k).any fun a=>decide (a=fr[i].record∧W d a 5=fr[i].start))||decide (l[k]=fr[i].record∧W d l[k] 5=fr[i].start)):=by
    rw[w0c hk,List.any_append];simp
   rw[hs]
   generalize (l.take k).any (fun a=>decide (a=fr[i].record∧W d a 5=fr[i].start))=nb at*
   repeat' first|refine ifs ?_ ?_|intro
   all_goals exact nd hk (nd ho (by clear f f0;first|(simp_all;done)|(simp only[AV.bool.injEq,Bool.true_eq,Bool.false_eq,w2e,w29,decide_eq_true_eq,decide_eq_false_iff_not] at*;grind)))
  ·obtain rfl:k=l.length:=by omega
   rw[w06]
   have hm:((l.any fun a=>decide (a=fr[i].record∧W d a 5=fr[i].start))=true)↔fr[i].record∈l∧W d fr[i].record 5=fr[i].start:=by
    simp only[w52,decide_eq_true_eq]
    exact⟨fun⟨a,h1,h2,h3⟩=>⟨h2▸h1,h2▸h3⟩,fun⟨h1,h2⟩=>⟨_,h1,rfl,h2⟩⟩
   refine ifs (fun hn=> ?_) fun hn=> ?_
   ·exact nd hi (nd (z6 (by omega) (by have:=hyf.max;omega)) (nd ho fun j hj hji=>by
     rcases w3e (w42 hji) with k|rfl
     ·exact hr.2 j hj k
     ·rcases Bool.or_eq_true_iff.1 hn with h|h
      ·exact .inl (by simpa using h)
      ·exact .inr (hm.1 h)))
   ·rw[z1o hi ⟨fun h=>hn (by simp[h]),fun h=>hn (by rw[hm.2 h,Bool.or_true])⟩];exact⟨rfl,rfl⟩
 ·obtain rfl:i=fr.length:=by omega
  rw[UL (fun i hi=>hq i hi hi) fun i hi=>hr.2 i hi hi]
  exact fp hr.1 (nd rfl rfl)
attribute [go_sem] yh xC
theorem Wu (a b:List DPanic) (x y:AV) (hx:IsSl IsPanic 8 a x) (hy:IsSl IsPanic 8 b y) (m:Mem):Okv tab 40 [x,y] m (.bool (decide (a=b))):=by
 have f:=nd hx.z (nd hy.z (nd (fun j (hj:j<a.length)=>show nth x j=pnA a[j] from hx.nth hj) fun j (hj:j<b.length)=>show nth y j=pnA b[j] from hy.nth hj))
 have:=hx.max
 have hd:=fun x y:DPanic=>(show x=y↔x.at_=y.at_∧x.next=y.next∧x.tag=y.tag∧x.w0=y.w0∧x.w1=y.w1∧x.flags=y.flags∧x.call=y.call∧x.from_=y.from_ by cases x;cases y;simp)
 refine okz (tT yh) fun s c x v g _=> ?_
 repeat' first|refine ifs ?_ ?_|intro
 any_goals refine xn 5 a.length [] (fun i _ _=> ∀j,j<i→a[j]? =b[j]?) 0 ?_ fun i v e nz hi hp=> ?_
 repeat' first|refine ifs ?_ ?_|intro
 all_goals clear f;grind [qz]
theorem z5g (d:DDump) (g:Int):(defersR d g).1.length≤410:=by
 unfold defersR
 split
 ·simp
 ·rename_i h
  have h:(framesR d g).2=0:=by simpa using h
  obtain⟨hk,h2,h3⟩:=jJ h
  obtain⟨q1,q2,q3,q4,q5,q6⟩:=XO hk
  have hj:g.toNat<d.defers.length:=by omega
  have:=(jN q4 hj).1
  rw[show d.defers.getD g.toNat []=d.defers[g.toNat] by simp[w03,hj]]
  split
  ·simp
  split<;>simp<;>omega
theorem z4J (d:DDump) (g:Int):(panicsR d g).1.length≤410:=by
 unfold panicsR
 split
 ·simp
 ·rename_i h
  have h:(framesR d g).2=0:=by simpa using h
  obtain⟨hk,h2,h3⟩:=jJ h
  obtain⟨q1,q2,q3,q4,q5,q6⟩:=XO hk
  have hj:g.toNat<d.panics.length:=by omega
  have:=(jN q5 hj).1
  rw[show d.panics.getD g.toNat []=d.panics[g.toNat] by simp[w03,hj]]
  split
  ·simp
  split<;>simp<;>omega
theorem z22 (d:DDump) (y:AV) (hy:IsDump d y) (hw:WfDump d) (g:Int) (m:Mem) (hf:m.floor≤m.stk.length+1):Okv tab 8 [y,.int .i64 g] m (.bool true):=by
 have hL:=fun m=>z0d d y hy m
 have hA:=fun hs m hf=>TX d y hy hs g m hf
 have hP:=fun hs m hf=>TW d y hy hs g m hf
 have hB:=fun z hz hl m hf=>TL d z hz hw hl g m hf
 have hQ:=fun z hz hl m hf=>TK d z hz hw hl g m hf
 have hT:=fun hl m hf=>by
  have hl':large28 d=false:=hl
  simp only[large28,w29] at hl
  obtain⟨⟨⟨h1,h2⟩,h3⟩,h4⟩:=hl
  exact z1J d y hy (SmallI.of h4) h1 h2 h3 m hf
 have hS:=fun z hz m=>z1K d d y z hy hz m
 obtain⟨v0,v1,v2,v3,v4,v5,v6,v7,rfl,h⟩:=IsDump.v hy
 have f:=h.o
 refine okz (tT xC) fun s c x v fl e=> ?_
 subst e
 simp at hf
 refine ow (hL _) fun k=> ?_
 refine ifs (fun hl=> ?_) fun hl=> ?_
 ·trivial
 have hl:large28 d=false:=by simpa using hl
 have hs:=SmD.of hw hl
 refine ot (hT hl _ (by simp;omega)) fun z t k hz=> ?_
 have hS:=fun m=>hS z hz m
 have hB:=fun m hf=>hB z hz hl m hf
 have hQ:=fun m hf=>hQ z hz hl m hf
 obtain⟨w0,w1,w2,w3,w4,w5,w6,w7,rfl,h'⟩:=IsDump.v hz
 have f:=nd f h'.o
 refine st ?_
 have hmx:=nd (z5g d g) (z4J d g)
 refine op (hA hs _ (by simp;omega)) fun y1 t1 k1 o1=> ?_
 have f:=nd f o1.co
 refine st ?_
 refine op (hB _ (by simp;omega)) fun y2 t2 k2 o2=> ?_
 have f:=nd f o2.co
 refine st ?_
 refine op (hP hs _ (by simp;omega)) fun y3 t3 k3 o3=> ?_
 have f:=nd f o3.co
 refine st ?_
 refine op (hQ _ (by simp;omega)) fun y4 t4 k4 o4=> ?_
 have f:=nd f (nd o4.co (nd (fun m=>(Wu _ _ _ _ (o3.sl (by omega)) (o4.sl (by omega)) m).eq) fun m=>(hS m).eq))
 refine ow (Wv _ _ _ _ (o1.sl (by omega)) (o2.sl (by omega)) _) fun k=> ?_
 trivial
end Go.Proofs.W
end
section
namespace Go.Proofs.W
open Go.Vs Go.Vs.Cd
def mk (f:Nat):List (List Nat):=if f=301 then [[777777,31]] else if f=336 then [[777777,10]] else if f=375 then [[777777,28]] else []
theorem tie0:Ties Tryz.prog mk 8 C0:=by
 repeat' first|exact trivial|refine⟨by kernel_rfl,?_⟩
theorem tie1:Ties Tryz.prog mk 68 C1:=by
 repeat' first|exact trivial|refine⟨by kernel_rfl,?_⟩
theorem tie2:Ties Tryz.prog mk 128 C2:=by
 repeat' first|exact trivial|refine⟨by kernel_rfl,?_⟩
theorem tie3:Ties Tryz.prog mk 188 C3:=by
 repeat' first|exact trivial|refine⟨by kernel_rfl,?_⟩
theorem tie4:Ties Tryz.prog mk 248 C4:=by
 repeat' first|exact trivial|refine⟨by kernel_rfl,?_⟩
theorem tie5:Ties Tryz.prog mk 308 C5:=by
 repeat' first|exact trivial|refine⟨by kernel_rfl,?_⟩
theorem tie6:Ties Tryz.prog mk 368 C6:=by
 repeat' first|exact trivial|refine⟨by kernel_rfl,?_⟩
theorem tabOk:TabOk Tryz.prog tab:=z9O (((((((tie0).app rfl tie1).app rfl tie2).app rfl tie3).app rfl tie4).app rfl tie5).app rfl tie6)
end Go.Proofs.W
end
section
namespace Go.Proofs.W
open Go.Vs
theorem rd5 (n:Nat) (xs:List AV) (h:Typed Tryz.prog n 5 xs): ∃d y,xs=[y]∧IsK .u8 d y∧inU8 d:=by
 cases n with
 |zero=>exact absurd h zY
 |succ n=>obtain⟨i,rfl,hw⟩:=Zt h Tryz.underlying5;exact⟨i,_,rfl,rfl,zak hw⟩
theorem rd3 (n:Nat) (xs:List AV) (h:Typed Tryz.prog n 3 xs): ∃d y,xs=[y]∧IsK .i64 d y∧in64 d:=by
 cases n with
 |zero=>exact absurd h zY
 |succ n=>obtain⟨i,rfl,hw⟩:=Zt h Tryz.underlying3;exact⟨i,_,rfl,rfl,z69 hw⟩
theorem rd9 (n:Nat) (xs:List AV) (h:Typed Tryz.prog n 9 xs): ∃d y,xs=[y]∧IsStr d y∧strOk d:=by
 cases n with
 |zero=>exact absurd h zY
 |succ n=>obtain⟨i,rfl,hw⟩:=z6y h Tryz.underlying9;exact⟨i,_,rfl,rfl,hw⟩
theorem cells214:Tryz.prog.cellsOf 214=2:=by kernel_rfl
theorem rd214 (n:Nat) (xs:List AV) (h:Typed Tryz.prog n 214 xs): ∃d,IsField d (.agg xs)∧WfField d:=by
 cases n with
 |zero=>exact absurd h zY
 |succ n=>
  have hl:=vY h (by kernel_rfl) cells214
  match xs,hl with
  | [c0,c1],_=>
   have k0:=rd9 n _ (zj h (i:=0) (ft:=9) (off:=0) (c:=1) (by kernel_rfl) (by kernel_rfl))
   simp only[w13,w16,w0e,w17] at k0
   obtain⟨d0,y0,e0,p0,w0⟩:=k0
   injection e0 with e0 _
   subst e0
   cases p0
   have k1:=rd3 n _ (zj h (i:=1) (ft:=3) (off:=1) (c:=1) (by kernel_rfl) (by kernel_rfl))
   simp only[w13,w16,w0e,w17] at k1
   obtain⟨d1,y1,e1,p1,w1⟩:=k1
   injection e1 with e1 _
   subst e1
   cases p1
   exact⟨⟨d0,d1⟩,rfl,⟨w0,w1⟩⟩
theorem z3Z:Tryz.prog.cellsOf 214=2:=by kernel_rfl
theorem rd64 (n:Nat) (xs:List AV) (h:Typed Tryz.prog n 64 xs): ∃d y,xs=[y]∧IsSl IsField 2 d y∧ ∀x∈d,WfField x:=by
 cases n with
 |zero=>exact absurd h zY
 |succ n=>
  obtain⟨d,y,h1,h2⟩:=x9 (R:=fun d y=>IsField d y∧WfField d) h Tryz.underlying64 z3Z (fun y h1 h2=>by
   obtain⟨cs,rfl⟩:=jk h1 (by kernel_rfl)
   exact rd214 n cs h2)
  exact⟨d,y,h1,vi h2⟩
theorem cells271:Tryz.prog.cellsOf 271=4:=by kernel_rfl
theorem rd271 (n:Nat) (xs:List AV) (h:Typed Tryz.prog n 271 xs): ∃d,IsTyp d (.agg xs)∧WfTyp d:=by
 cases n with
 |zero=>exact absurd h zY
 |succ n=>
  have hl:=vY h (by kernel_rfl) cells271
  match xs,hl with
  | [c0,c1,c2,c3],_=>
   have k0:=rd5 n _ (zj h (i:=0) (ft:=5) (off:=0) (c:=1) (by kernel_rfl) (by kernel_rfl))
   simp only[w13,w16,w0e,w17] at k0
   obtain⟨d0,y0,e0,p0,w0⟩:=k0
   injection e0 with e0 _
   subst e0
   cases p0
   have k1:=rd3 n _ (zj h (i:=1) (ft:=3) (off:=1) (c:=1) (by kernel_rfl) (by kernel_rfl))
   simp only[w13,w16,w0e,w17] at k1
   obtain⟨d1,y1,e1,p1,w1⟩:=k1
   injection e1 with e1 _
   subst e1
   cases p1
   have k2:=rd3 n _ (zj h (i:=2) (ft:=3) (off:=2) (c:=1) (by kernel_rfl) (by kernel_rfl))
   simp only[w13,w16,w0e,w17] at k2
   obtain⟨d2,y2,e2,p2,w2⟩:=k2
   injection e2 with e2 _
   subst e2
   cases p2
   have k3:=rd64 n _ (zj h (i:=3) (ft:=64) (off:=3) (c:=1) (by kernel_rfl) (by kernel_rfl))
   simp only[w13,w16,w0e,w17] at k3
   obtain⟨d3,y3,e3,p3,w3⟩:=k3
   injection e3 with e3 _
   subst e3
   exact⟨⟨d0,d1,d2,d3⟩,⟨_,rfl,p3⟩,⟨w0,w1,w2,w3⟩⟩
theorem z40:Tryz.prog.cellsOf 271=4:=by kernel_rfl
theorem rd22 (n:Nat) (xs:List AV) (h:Typed Tryz.prog n 22 xs): ∃d y,xs=[y]∧IsSl IsTyp 4 d y∧ ∀x∈d,WfTyp x:=by
 cases n with
 |zero=>exact absurd h zY
 |succ n=>
  obtain⟨d,y,h1,h2⟩:=x9 (R:=fun d y=>IsTyp d y∧WfTyp d) h Tryz.underlying22 z40 (fun y h1 h2=>by
   obtain⟨cs,rfl⟩:=jk h1 (by kernel_rfl)
   exact rd271 n cs h2)
  exact⟨d,y,h1,vi h2⟩
theorem z7r:Tryz.prog.cellsOf 9=1:=by kernel_rfl
theorem rd23 (n:Nat) (xs:List AV) (h:Typed Tryz.prog n 23 xs): ∃d y,xs=[y]∧IsSl IsStr 1 d y∧ ∀x∈d,strOk x:=by
 cases n with
 |zero=>exact absurd h zY
 |succ n=>
  obtain⟨d,y,h1,h2⟩:=x9 (R:=fun d y=>IsStr d y∧strOk d) h Tryz.underlying23 z7r (fun y h1 h2=>by
   have hc:=X9 h1 (by kernel_rfl)
   rw[hc] at h2
   obtain⟨d,z,e,hd⟩:=rd9 n _ h2
   injection e with e _
   subst e
   exact⟨d,hd⟩)
  exact⟨d,y,h1,vi h2⟩
theorem cells63:Tryz.prog.cellsOf 63=4:=by kernel_rfl
theorem rd63 (n:Nat) (xs:List AV) (h:Typed Tryz.prog n 63 xs): ∃d,IsInstr d (.agg xs)∧WfInstr d:=by
 cases n with
 |zero=>exact absurd h zY
 |succ n=>
  have hl:=vY h (by kernel_rfl) cells63
  match xs,hl with
  | [c0,c1,c2,c3],_=>
   have k0:=rd5 n _ (zj h (i:=0) (ft:=5) (off:=0) (c:=1) (by kernel_rfl) (by kernel_rfl))
   simp only[w13,w16,w0e,w17] at k0
   obtain⟨d0,y0,e0,p0,w0⟩:=k0
   injection e0 with e0 _
   subst e0
   cases p0
   have k1:=rd3 n _ (zj h (i:=1) (ft:=3) (off:=1) (c:=1) (by kernel_rfl) (by kernel_rfl))
   simp only[w13,w16,w0e,w17] at k1
   obtain⟨d1,y1,e1,p1,w1⟩:=k1
   injection e1 with e1 _
   subst e1
   cases p1
   have k2:=rd3 n _ (zj h (i:=2) (ft:=3) (off:=2) (c:=1) (by kernel_rfl) (by kernel_rfl))
   simp only[w13,w16,w0e,w17] at k2
   obtain⟨d2,y2,e2,p2,w2⟩:=k2
   injection e2 with e2 _
   subst e2
   cases p2
   have k3:=rd3 n _ (zj h (i:=3) (ft:=3) (off:=3) (c:=1) (by kernel_rfl) (by kernel_rfl))
   simp only[w13,w16,w0e,w17] at k3
   obtain⟨d3,y3,e3,p3,w3⟩:=k3
   injection e3 with e3 _
   subst e3
   cases p3
   exact⟨⟨d0,d1,d2,d3⟩,rfl,⟨w0,w1,w2,w3⟩⟩
theorem z5s:Tryz.prog.cellsOf 63=4:=by kernel_rfl
theorem rd65 (n:Nat) (xs:List AV) (h:Typed Tryz.prog n 65 xs): ∃d y,xs=[y]∧IsSl IsInstr 4 d y∧ ∀x∈d,WfInstr x:=by
 cases n with
 |zero=>exact absurd h zY
 |succ n=>
  obtain⟨d,y,h1,h2⟩:=x9 (R:=fun d y=>IsInstr d y∧WfInstr d) h Tryz.underlying65 z5s (fun y h1 h2=>by
   obtain⟨cs,rfl⟩:=jk h1 (by kernel_rfl)
   exact rd63 n cs h2)
  exact⟨d,y,h1,vi h2⟩
theorem rd29 (n:Nat) (xs:List AV) (h:Typed Tryz.prog n 29 xs): ∃d y,xs=[y]∧IsK .u64 d y∧inU64 d:=by
 cases n with
 |zero=>exact absurd h zY
 |succ n=>obtain⟨i,rfl,hw⟩:=Zt h Tryz.underlying29;exact⟨i,_,rfl,rfl,z8J hw⟩
theorem cells227:Tryz.prog.cellsOf 227=2:=by kernel_rfl
theorem rd227 (n:Nat) (xs:List AV) (h:Typed Tryz.prog n 227 xs): ∃d,IsRun d (.agg xs)∧WfRun d:=by
 cases n with
 |zero=>exact absurd h zY
 |succ n=>
  have hl:=vY h (by kernel_rfl) cells227
  match xs,hl with
  | [c0,c1],_=>
   have k0:=rd3 n _ (zj h (i:=0) (ft:=3) (off:=0) (c:=1) (by kernel_rfl) (by kernel_rfl))
   simp only[w13,w16,w0e,w17] at k0
   obtain⟨d0,y0,e0,p0,w0⟩:=k0
   injection e0 with e0 _
   subst e0
   cases p0
   have k1:=rd29 n _ (zj h (i:=1) (ft:=29) (off:=1) (c:=1) (by kernel_rfl) (by kernel_rfl))
   simp only[w13,w16,w0e,w17] at k1
   obtain⟨d1,y1,e1,p1,w1⟩:=k1
   injection e1 with e1 _
   subst e1
   cases p1
   exact⟨⟨d0,d1⟩,rfl,⟨w0,w1⟩⟩
theorem z3Y:Tryz.prog.cellsOf 227=2:=by kernel_rfl
theorem rd66 (n:Nat) (xs:List AV) (h:Typed Tryz.prog n 66 xs): ∃d y,xs=[y]∧IsSl IsRun 2 d y∧ ∀x∈d,WfRun x:=by
 cases n with
 |zero=>exact absurd h zY
 |succ n=>
  obtain⟨d,y,h1,h2⟩:=x9 (R:=fun d y=>IsRun d y∧WfRun d) h Tryz.underlying66 z3Y (fun y h1 h2=>by
   obtain⟨cs,rfl⟩:=jk h1 (by kernel_rfl)
   exact rd227 n cs h2)
  exact⟨d,y,h1,vi h2⟩
theorem cells68:Tryz.prog.cellsOf 68=7:=by kernel_rfl
theorem rd68 (n:Nat) (xs:List AV) (h:Typed Tryz.prog n 68 xs): ∃d,IsFunc d (.agg xs)∧WfFunc d:=by
 cases n with
 |zero=>exact absurd h zY
 |succ n=>
  have hl:=vY h (by kernel_rfl) cells68
  match xs,hl with
  | [c0,c1,c2,c3,c4,c5,c6],_=>
   have k0:=rd9 n _ (zj h (i:=0) (ft:=9) (off:=0) (c:=1) (by kernel_rfl) (by kernel_rfl))
   simp only[w13,w16,w0e,w17] at k0
   obtain⟨d0,y0,e0,p0,w0⟩:=k0
   injection e0 with e0 _
   subst e0
   cases p0
   have k1:=rd3 n _ (zj h (i:=1) (ft:=3) (off:=1) (c:=1) (by kernel_rfl) (by kernel_rfl))
   simp only[w13,w16,w0e,w17] at k1
   obtain⟨d1,y1,e1,p1,w1⟩:=k1
   injection e1 with e1 _
   subst e1
   cases p1
   have k2:=rd3 n _ (zj h (i:=2) (ft:=3) (off:=2) (c:=1) (by kernel_rfl) (by kernel_rfl))
   simp only[w13,w16,w0e,w17] at k2
   obtain⟨d2,y2,e2,p2,w2⟩:=k2
   injection e2 with e2 _
   subst e2
   cases p2
   have k3:=rd64 n _ (zj h (i:=3) (ft:=64) (off:=3) (c:=1) (by kernel_rfl) (by kernel_rfl))
   simp only[w13,w16,w0e,w17] at k3
   obtain⟨d3,y3,e3,p3,w3⟩:=k3
   injection e3 with e3 _
   subst e3
   have k4:=rd65 n _ (zj h (i:=4) (ft:=65) (off:=4) (c:=1) (by kernel_rfl) (by kernel_rfl))
   simp only[w13,w16,w0e,w17] at k4
   obtain⟨d4,y4,e4,p4,w4⟩:=k4
   injection e4 with e4 _
   subst e4
   have k5:=rd66 n _ (zj h (i:=5) (ft:=66) (off:=5) (c:=1) (by kernel_rfl) (by kernel_rfl))
   simp only[w13,w16,w0e,w17] at k5
   obtain⟨d5,y5,e5,p5,w5⟩:=k5
   injection e5 with e5 _
   subst e5
   have k6:=rd66 n _ (zj h (i:=6) (ft:=66) (off:=6) (c:=1) (by kernel_rfl) (by kernel_rfl))
   simp only[w13,w16,w0e,w17] at k6
   obtain⟨d6,y6,e6,p6,w6⟩:=k6
   injection e6 with e6 _
   subst e6
   exact⟨⟨d0,d1,d2,d3,d4,d5,d6⟩,⟨_,_,_,_,rfl,p3,p4,p5,p6⟩,⟨w0,w1,w2,w3,w4,w5,w6⟩⟩
theorem z5w:Tryz.prog.cellsOf 68=7:=by kernel_rfl
theorem rd24 (n:Nat) (xs:List AV) (h:Typed Tryz.prog n 24 xs): ∃d y,xs=[y]∧IsSl IsFunc 7 d y∧ ∀x∈d,WfFunc x:=by
 cases n with
 |zero=>exact absurd h zY
 |succ n=>
  obtain⟨d,y,h1,h2⟩:=x9 (R:=fun d y=>IsFunc d y∧WfFunc d) h Tryz.underlying24 z5w (fun y h1 h2=>by
   obtain⟨cs,rfl⟩:=jk h1 (by kernel_rfl)
   exact rd68 n cs h2)
  exact⟨d,y,h1,vi h2⟩
theorem cells26:Tryz.prog.cellsOf 26=3:=by kernel_rfl
theorem rd26 (n:Nat) (xs:List AV) (h:Typed Tryz.prog n 26 xs): ∃d,IsImage d (.agg xs)∧WfImage d:=by
 cases n with
 |zero=>exact absurd h zY
 |succ n=>
  have hl:=vY h (by kernel_rfl) cells26
  match xs,hl with
  | [c0,c1,c2],_=>
   have k0:=rd22 n _ (zj h (i:=0) (ft:=22) (off:=0) (c:=1) (by kernel_rfl) (by kernel_rfl))
   simp only[w13,w16,w0e,w17] at k0
   obtain⟨d0,y0,e0,p0,w0⟩:=k0
   injection e0 with e0 _
   subst e0
   have k1:=rd23 n _ (zj h (i:=1) (ft:=23) (off:=1) (c:=1) (by kernel_rfl) (by kernel_rfl))
   simp only[w13,w16,w0e,w17] at k1
   obtain⟨d1,y1,e1,p1,w1⟩:=k1
   injection e1 with e1 _
   subst e1
   have k2:=rd24 n _ (zj h (i:=2) (ft:=24) (off:=2) (c:=1) (by kernel_rfl) (by kernel_rfl))
   simp only[w13,w16,w0e,w17] at k2
   obtain⟨d2,y2,e2,p2,w2⟩:=k2
   injection e2 with e2 _
   subst e2
   exact⟨⟨d0,d1,d2⟩,⟨_,_,_,rfl,p0,p1,p2⟩,⟨w0,w1,w2⟩⟩
theorem cells28:Tryz.prog.cellsOf 28=3:=by kernel_rfl
theorem rd28 (n:Nat) (xs:List AV) (h:Typed Tryz.prog n 28 xs): ∃d,IsEnded d (.agg xs)∧WfEnded d:=by
 cases n with
 |zero=>exact absurd h zY
 |succ n=>
  have hl:=vY h (by kernel_rfl) cells28
  match xs,hl with
  | [c0,c1,c2],_=>
   have k0:=rd5 n _ (zj h (i:=0) (ft:=5) (off:=0) (c:=1) (by kernel_rfl) (by kernel_rfl))
   simp only[w13,w16,w0e,w17] at k0
   obtain⟨d0,y0,e0,p0,w0⟩:=k0
   injection e0 with e0 _
   subst e0
   cases p0
   have k1:=rd3 n _ (zj h (i:=1) (ft:=3) (off:=1) (c:=1) (by kernel_rfl) (by kernel_rfl))
   simp only[w13,w16,w0e,w17] at k1
   obtain⟨d1,y1,e1,p1,w1⟩:=k1
   injection e1 with e1 _
   subst e1
   cases p1
   have k2:=rd3 n _ (zj h (i:=2) (ft:=3) (off:=2) (c:=1) (by kernel_rfl) (by kernel_rfl))
   simp only[w13,w16,w0e,w17] at k2
   obtain⟨d2,y2,e2,p2,w2⟩:=k2
   injection e2 with e2 _
   subst e2
   cases p2
   exact⟨⟨d0,d1,d2⟩,rfl,⟨w0,w1,w2⟩⟩
theorem rdb30 (n:Nat) (y:AV) (h1:IsElem Tryz.prog 5 y) (h:Typed Tryz.prog n 5 y.cells): ∃d,IsByte d y∧True:=by
 have hc:=X9 h1 (by kernel_rfl)
 cases n with
 |zero=>exact absurd h zY
 |succ n=>
  obtain⟨i,hi,hw⟩:=Zt h Tryz.underlying5
  rw[hc] at hi
  injection hi with hi _
  subst hi
  obtain⟨h0,h1⟩:0≤i∧i<256:=by simp[Lit.wf,IntKind.min,IntKind.max,IntKind.signed,IntKind.bits] at hw;omega
  exact⟨UInt8.ofNat i.toNat,by unfold IsByte;simp;omega,trivial⟩
theorem z7q:Tryz.prog.cellsOf 5=1:=by kernel_rfl
theorem rd30 (n:Nat) (xs:List AV) (h:Typed Tryz.prog n 30 xs): ∃d y,xs=[y]∧IsSl IsByte 1 d y∧ ∀x∈d,(fun _=>True) x:=by
 cases n with
 |zero=>exact absurd h zY
 |succ n=>
  obtain⟨d,y,h1,h2⟩:=x9 (R:=fun d y=>IsByte d y∧(fun _=>True) d) h Tryz.underlying30 z7q (fun y h1 h2=>rdb30 n y h1 h2)
  exact⟨d,y,h1,vi h2⟩
theorem cells32:Tryz.prog.cellsOf 32=2:=by kernel_rfl
theorem rd32 (n:Nat) (xs:List AV) (h:Typed Tryz.prog n 32 xs): ∃d,IsRegion d (.agg xs)∧WfRegion d:=by
 cases n with
 |zero=>exact absurd h zY
 |succ n=>
  have hl:=vY h (by kernel_rfl) cells32
  match xs,hl with
  | [c0,c1],_=>
   have k0:=rd29 n _ (zj h (i:=0) (ft:=29) (off:=0) (c:=1) (by kernel_rfl) (by kernel_rfl))
   simp only[w13,w16,w0e,w17] at k0
   obtain⟨d0,y0,e0,p0,w0⟩:=k0
   injection e0 with e0 _
   subst e0
   cases p0
   have k1:=rd30 n _ (zj h (i:=1) (ft:=30) (off:=1) (c:=1) (by kernel_rfl) (by kernel_rfl))
   simp only[w13,w16,w0e,w17] at k1
   obtain⟨d1,y1,e1,p1,w1⟩:=k1
   injection e1 with e1 _
   subst e1
   exact⟨⟨d0,d1⟩,⟨_,rfl,p1⟩,⟨w0,w1⟩⟩
theorem z5v:Tryz.prog.cellsOf 32=2:=by kernel_rfl
theorem rd33 (n:Nat) (xs:List AV) (h:Typed Tryz.prog n 33 xs): ∃d y,xs=[y]∧IsSl IsRegion 2 d y∧ ∀x∈d,WfRegion x:=by
 cases n with
 |zero=>exact absurd h zY
 |succ n=>
  obtain⟨d,y,h1,h2⟩:=x9 (R:=fun d y=>IsRegion d y∧WfRegion d) h Tryz.underlying33 z5v (fun y h1 h2=>by
   obtain⟨cs,rfl⟩:=jk h1 (by kernel_rfl)
   exact rd32 n cs h2)
  exact⟨d,y,h1,vi h2⟩
theorem rd2 (n:Nat) (xs:List AV) (h:Typed Tryz.prog n 2 xs): ∃d y,xs=[y]∧IsK .i64 d y∧in64 d:=by
 cases n with
 |zero=>exact absurd h zY
 |succ n=>obtain⟨i,rfl,hw⟩:=Zt h Tryz.underlying2;exact⟨i,_,rfl,rfl,z69 hw⟩
theorem cells52:Tryz.prog.cellsOf 52=6:=by kernel_rfl
theorem rd52 (n:Nat) (xs:List AV) (h:Typed Tryz.prog n 52 xs): ∃d,IsRoutine d (.agg xs)∧WfRoutine d:=by
 cases n with
 |zero=>exact absurd h zY
 |succ n=>
  have hl:=vY h (by kernel_rfl) cells52
  match xs,hl with
  | [c0,c1,c2,c3,c4,c5],_=>
   have k0:=rd5 n _ (zj h (i:=0) (ft:=5) (off:=0) (c:=1) (by kernel_rfl) (by kernel_rfl))
   simp only[w13,w16,w0e,w17] at k0
   obtain⟨d0,y0,e0,p0,w0⟩:=k0
   injection e0 with e0 _
   subst e0
   cases p0
   have k1:=rd29 n _ (zj h (i:=1) (ft:=29) (off:=1) (c:=1) (by kernel_rfl) (by kernel_rfl))
   simp only[w13,w16,w0e,w17] at k1
   obtain⟨d1,y1,e1,p1,w1⟩:=k1
   injection e1 with e1 _
   subst e1
   cases p1
   have k2:=rd29 n _ (zj h (i:=2) (ft:=29) (off:=2) (c:=1) (by kernel_rfl) (by kernel_rfl))
   simp only[w13,w16,w0e,w17] at k2
   obtain⟨d2,y2,e2,p2,w2⟩:=k2
   injection e2 with e2 _
   subst e2
   cases p2
   have k3:=rd29 n _ (zj h (i:=3) (ft:=29) (off:=3) (c:=1) (by kernel_rfl) (by kernel_rfl))
   simp only[w13,w16,w0e,w17] at k3
   obtain⟨d3,y3,e3,p3,w3⟩:=k3
   injection e3 with e3 _
   subst e3
   cases p3
   have k4:=rd29 n _ (zj h (i:=4) (ft:=29) (off:=4) (c:=1) (by kernel_rfl) (by kernel_rfl))
   simp only[w13,w16,w0e,w17] at k4
   obtain⟨d4,y4,e4,p4,w4⟩:=k4
   injection e4 with e4 _
   subst e4
   cases p4
   have k5:=rd2 n _ (zj h (i:=5) (ft:=2) (off:=5) (c:=1) (by kernel_rfl) (by kernel_rfl))
   simp only[w13,w16,w0e,w17] at k5
   obtain⟨d5,y5,e5,p5,w5⟩:=k5
   injection e5 with e5 _
   subst e5
   cases p5
   exact⟨⟨d0,d1,d2,d3,d4,d5⟩,rfl,⟨w0,w1,w2,w3,w4,w5⟩⟩
theorem z5u:Tryz.prog.cellsOf 52=6:=by kernel_rfl
theorem rd34 (n:Nat) (xs:List AV) (h:Typed Tryz.prog n 34 xs): ∃d y,xs=[y]∧IsSl IsRoutine 6 d y∧ ∀x∈d,WfRoutine x:=by
 cases n with
 |zero=>exact absurd h zY
 |succ n=>
  obtain⟨d,y,h1,h2⟩:=x9 (R:=fun d y=>IsRoutine d y∧WfRoutine d) h Tryz.underlying34 z5u (fun y h1 h2=>by
   obtain⟨cs,rfl⟩:=jk h1 (by kernel_rfl)
   exact rd52 n cs h2)
  exact⟨d,y,h1,vi h2⟩
theorem z5r:Tryz.prog.cellsOf 29=1:=by kernel_rfl
theorem rd99 (n:Nat) (xs:List AV) (h:Typed Tryz.prog n 99 xs): ∃d y,xs=[y]∧IsSl (IsK .u64) 1 d y∧ ∀x∈d,inU64 x:=by
 cases n with
 |zero=>exact absurd h zY
 |succ n=>
  obtain⟨d,y,h1,h2⟩:=x9 (R:=fun d y=>(IsK .u64) d y∧inU64 d) h Tryz.underlying99 z5r (fun y h1 h2=>by
   have hc:=X9 h1 (by kernel_rfl)
   rw[hc] at h2
   obtain⟨d,z,e,hd⟩:=rd29 n _ h2
   injection e with e _
   subst e
   exact⟨d,hd⟩)
  exact⟨d,y,h1,vi h2⟩
theorem z5t:Tryz.prog.cellsOf 99=1:=by kernel_rfl
theorem rd35 (n:Nat) (xs:List AV) (h:Typed Tryz.prog n 35 xs): ∃d y,xs=[y]∧IsSl (IsSl (IsK .u64) 1) 1 d y∧ ∀x∈d,(fun l=> ∀x∈l,inU64 x) x:=by
 cases n with
 |zero=>exact absurd h zY
 |succ n=>
  obtain⟨d,y,h1,h2⟩:=x9 (R:=fun d y=>(IsSl (IsK .u64) 1) d y∧(fun l=> ∀x∈l,inU64 x) d) h Tryz.underlying35 z5t (fun y h1 h2=>by
   have hc:=X9 h1 (by kernel_rfl)
   rw[hc] at h2
   obtain⟨d,z,e,hd⟩:=rd99 n _ h2
   injection e with e _
   subst e
   exact⟨d,hd⟩)
  exact⟨d,y,h1,vi h2⟩
theorem cells37:Tryz.prog.cellsOf 37=12:=by kernel_rfl
theorem rd37 (n:Nat) (xs:List AV) (h:Typed Tryz.prog n 37 xs): ∃d,IsDump d (.agg xs)∧WfDump d:=by
 cases n with
 |zero=>exact absurd h zY
 |succ n=>
  have hl:=vY h (by kernel_rfl) cells37
  match xs,hl with
  | [c0,c1,c2,c3,c4,c5,c6,c7,c8,c9,c10,c11],_=>
   have k0:=rd26 n _ (zj h (i:=0) (ft:=26) (off:=0) (c:=3) (by kernel_rfl) (by kernel_rfl))
   simp only[w13,w16,w0e,w17] at k0
   obtain⟨d0,hh0,w0⟩:=k0
   obtain⟨u0_0,u0_1,u0_2,e0,p0_0,p0_1,p0_2⟩:=hh0
   simp only[IsImage,AV.agg.injEq,List.cons.injEq,and_true] at e0
   obtain⟨rfl,rfl,rfl⟩:=e0
   have k1:=rd28 n _ (zj h (i:=1) (ft:=28) (off:=3) (c:=3) (by kernel_rfl) (by kernel_rfl))
   simp only[w13,w16,w0e,w17] at k1
   obtain⟨d1,hh1,w1⟩:=k1
   have e1:=hh1
   simp only[IsEnded,AV.agg.injEq,List.cons.injEq,and_true] at e1
   obtain⟨rfl,rfl,rfl⟩:=e1
   have k2:=rd32 n _ (zj h (i:=2) (ft:=32) (off:=6) (c:=2) (by kernel_rfl) (by kernel_rfl))
   simp only[w13,w16,w0e,w17] at k2
   obtain⟨d2,hh2,w2⟩:=k2
   obtain⟨u2_0,e2,p2_0⟩:=hh2
   simp only[IsRegion,AV.agg.injEq,List.cons.injEq,and_true] at e2
   obtain⟨rfl,rfl⟩:=e2
   have k3:=rd33 n _ (zj h (i:=3) (ft:=33) (off:=8) (c:=1) (by kernel_rfl) (by kernel_rfl))
   simp only[w13,w16,w0e,w17] at k3
   obtain⟨d3,y3,e3,p3,w3⟩:=k3
   injection e3 with e3 _
   subst e3
   have k4:=rd34 n _ (zj h (i:=4) (ft:=34) (off:=9) (c:=1) (by kernel_rfl) (by kernel_rfl))
   simp only[w13,w16,w0e,w17] at k4
   obtain⟨d4,y4,e4,p4,w4⟩:=k4
   injection e4 with e4 _
   subst e4
   have k5:=rd35 n _ (zj h (i:=5) (ft:=35) (off:=10) (c:=1) (by kernel_rfl) (by kernel_rfl))
   simp only[w13,w16,w0e,w17] at k5
   obtain⟨d5,y5,e5,p5,w5⟩:=k5
   injection e5 with e5 _
   subst e5
   have k6:=rd35 n _ (zj h (i:=6) (ft:=35) (off:=11) (c:=1) (by kernel_rfl) (by kernel_rfl))
   simp only[w13,w16,w0e,w17] at k6
   obtain⟨d6,y6,e6,p6,w6⟩:=k6
   injection e6 with e6 _
   subst e6
   exact⟨⟨d0,d1,d2,d3,d4,d5,d6⟩,⟨_,_,_,_,_,_,_,_,rfl,p0_0,p0_1,p0_2,p2_0,p3,p4,p5,p6⟩,⟨w0,w1,w2,w3,w4,w5,w6⟩⟩
theorem arg37 (y:AV) (h:ArgT Tryz.prog 37 y): ∃d,IsDump d y∧WfDump d:=by
 obtain⟨h1,n,h2⟩:=h
 obtain⟨cs,rfl⟩:=jk h1 (by kernel_rfl)
 exact rd37 n cs h2
theorem z2U:plainAll Tryz.prog [54,99,35,2,52,34,33,30,32,28,29,227,66,63,65,68,24,23,9,214,64,3,5,271,22,26,37]=true:=by kernel_rfl
end Go.Proofs.W
end
