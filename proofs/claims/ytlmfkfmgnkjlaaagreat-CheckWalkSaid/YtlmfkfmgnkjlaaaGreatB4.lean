/-
  Part 5 of the proof, shared by claims of this seat: R6C18, R6C19, R6C5, Pla, Plb, R6C6, R6C7, R6C8, Pld, R6C21, R6C9, Plc, R6C10, R6C22, R6C15a, R6C15b, R6C15c, R6C15d, R6C16a, R6C16b, R6C16c, R6C16d, R6C23, R6S19, R6C20, R6C11, R6C12.
-/
import Derived.Test.YtlmfkfmgnkjlaaaGreatB3
import Derived.Test.YtlmfkfmgnkjlaaaGreatB2
set_option maxHeartbeats 64000000
set_option linter.unusedVariables false
set_option linter.unusedSimpArgs false
open Nat renaming reduceEqDiff → G0, reduceBEq → G1, reduceLT → G2, reduceAdd → G3, reduceLeDiff → G4, reduceSub → G5, reduceBNe → G7, zero_le → w06, le_refl → w09, mul_one → w10, le_of_ble_eq_true → w1c, not_lt_zero → w35, zero_add → w39, lt_or_ge → w3c, add_mul → w43, pow_le_pow_right → w4c, le_trans → w4d, lt_of_lt_of_le → w58
open Int renaming reduceEq → G8, reduceBEq → G9, ofNat_lt → w02, toNat_natCast → w1b, toNat_of_nonneg → w40
open List renaming getD_eq_getElem?_getD → w00, getElem_mem → w04, length_append → w05, take_length → w08, mem_append → w0a, getElem?_eq_some_iff → w0b, getElem?_append_left → w0c, take_succ_eq_append_getElem → w0d, getElem?_eq_getElem → w11, append_assoc → w13, getElem?_append_right → w15, mem_singleton → w16, getElem?_map → w17, getElem?_eq_none → w18, length_singleton → w19, length_take → w1a, eq_nil_of_length_eq_zero → w1d, append_nil → w1f, take_succ_cons → w20, take_zero → w21, mem_cons_self → w24, drop_zero → w25, mem_cons_of_mem → w26, cons_append → w28, length_map → w29, ext_getElem? → w2b, getElem?_take → w2e, length_cons → w2f, length_nil → w30, flatMap_cons → w31, nil_append → w32, mem_cons → w36, map_cons → w37, getElem?_set → w38, getElem?_replicate → w3b, getElem?_range → w3f, mem_range → w42, mem_map → w44, mem_of_mem_take → w45, set_cons_succ → w46, modify_eq_take_cons_drop → w47, getLast?_singleton → w48, mem_append_left → w4b, replicate_succ → w4f, getElem?_cons_succ → w50, getLast?_append → w51, dropLast_concat → w52, take_of_length_le → w53, set_cons_zero → w54, mem_filter → w55, length_drop → w56, set_eq_take_append_cons_drop → w59
open Option renaming bind_eq_some_iff → w07, map_some → w0e, bind_some → w34
open Bool renaming and_eq_true → w0f, false_eq_true → w27, or_eq_true → w2c, eq_iff_iff → w3d
section
namespace Go.Proofs.W
open Go.Vs
set_option linter.unusedSimpArgs false
set_option maxRecDepth 100000
theorem _root_.Go.Vs.IsSl.fromN {α:Type} {R:α→AV→Prop} {s:Nat} {xs:List α} {y:AV} (h:IsSl R s xs y) {n:Nat} (hn:n≤xs.length): ∃y',evSlice s y (some (.int .i64 (n:Nat))) none none=some y'∧IsSl R s (xs.drop n) y':=by
 rcases h with⟨hm,⟨rfl,rfl⟩|⟨tk,ys,rfl,h⟩⟩
 ·have:n=0:=by simpa using hn
  subst this
  exact⟨.nils,by simp[evSlice,bound],.nil s⟩
 ·have hl:=h.len
  have hb:bound (some (.int .i64 (n:Int))) ys.length 0=some n:=by
   unfold bound;simp only;rw[if_pos (by omega)];simp
  have e:evSlice s (.list s tk ys) (some (.int .i64 (n:Int))) none none=some (.list s (if ys.length==ys.length&&(n==0||decide (n<ys.length)) then tk else .none) ((ys.take ys.length).drop n)):=by
   unfold evSlice
   simp only[beq_self_eq_true,if_true]
   rw[show bound none ys.length ys.length=some ys.length from rfl,w34,hb]
   simp
  refine⟨_,e,?_⟩
  rw[w08]
  exact .mk (h.drop n) (by rw[w56];omega)
theorem _root_.Go.Vs.IsSl.toN {α:Type} {R:α→AV→Prop} {s:Nat} {xs:List α} {y:AV} (h:IsSl R s xs y) {n:Nat} (hn:n≤xs.length): ∃y',evSlice s y none (some (.int .i64 (n:Nat))) none=some y'∧IsSl R s (xs.take n) y':=by
 rcases h with⟨hm,⟨rfl,rfl⟩|⟨tk,ys,rfl,h⟩⟩
 ·have:n=0:=by simpa using hn
  subst this
  exact⟨.nils,by simp[evSlice,bound],.nil s⟩
 ·have hl:=h.len
  have hb:bound (some (.int .i64 (n:Int))) ys.length ys.length=some n:=by
   unfold bound;simp only;rw[if_pos (by omega)];simp
  have e: ∃tk',evSlice s (.list s tk ys) none (some (.int .i64 (n:Int))) none=some (.list s tk' ((ys.take n).drop 0)):=by
   unfold evSlice
   simp only[beq_self_eq_true,if_true]
   rw[hb,w34,show bound none n 0=some 0 from rfl]
   exact⟨_,rfl⟩
  obtain⟨tk',e⟩:=e
  refine⟨_,e,?_⟩
  rw[w25]
  exact .mk (h.take n) (by rw[w1a];omega)
theorem z85 (m:Mem):Okv tab x7 [.nils] m .nils:=by
 refine ze jN ?_
 obtain⟨stk,cur,nx,live,fl⟩:=m
 have hsl:evSlice 1 .nils none (some (.int .i64 0)) (some (.int .i64 0))=some .nils:=rfl
 simp only[vb,List.map,go_sem,reduceCtorEq,G0,G2,evLen,hsl]
 rw[z6 rfl rfl,z8]
 exact⟨⟨_,rfl⟩,rfl⟩
theorem z6s (tk:Tok) (ys:List AV) (m:Mem):Okv tab x7 [.list 1 tk ys] m (.list 1 .full ys):=by
 refine ze jN ?_
 obtain⟨stk,cur,nx,live,fl⟩:=m
 have hb: ∀d,bound (some (.int .i64 (ys.length:Int))) ys.length d=some ys.length:=fun d=>by
  unfold bound;simp only;rw[if_pos (by omega)];simp
 have hb0:bound (none:Option AV) ys.length 0=some 0:=rfl
 simp only[vb,List.map,go_sem,reduceCtorEq,G0,G2,evLen,evSlice,hb,hb0,w08]
 rw[z6 rfl rfl,z8]
 exact⟨⟨_,rfl⟩,rfl⟩
theorem zcw {S:List (List Blk)} {C:List Blk} {nx fl:Nat} {live:List (List Nat)} {v:AV}:evApp ⟨S,C,nx,live,fl⟩ 1 8 .nils (.list 1 .full [v])=some (.list 1 (.id nx) [v],⟨S,C,nx+1,addTok nx live,fl⟩):=by
 unfold evApp;rw[zh];simp
theorem zb7 {S:List (List Blk)} {C:List Blk} {nx fl:Nat} {live:List (List Nat)} {ys:List AV} {v:AV} (h:ys.length≤100000):evApp ⟨S,C,nx,live,fl⟩ 1 8 (.list 1 .full ys) (.list 1 .full [v])=some (.list 1 (.id nx) (ys++[v]),⟨S,C,nx+1,addTok nx live,fl⟩):=by
 unfold evApp;rw[zh]
 simp only[beq_self_eq_true,Bool.true_and,w19]
 rw[if_pos (by simp;omega)]
def parT (g:DFunc):List Int:=(List.range g.params.toNat).map fun i=>(fdA g.slots (i:Nat)).typ
theorem z2p (g:DFunc):(parT g).length=g.params.toNat:=by simp[parT]
theorem z6S {g:DFunc} {i:Nat} (h:i<(parT g).length):(parT g)[i]=(fdA g.slots (i:Nat)).typ:=by simp[parT]
def pops (d:DImage) (x:DInstr) (l:List Int):Option (List Int):=
 if 0≤called x then(if(parT (fnA d.funcs (called x).toNat)).length≤l.length∧l.drop (l.length-(parT (fnA d.funcs (called x).toNat)).length)=parT (fnA d.funcs (called x).toNat) then some (l.take (l.length-(parT (fnA d.funcs (called x).toNat)).length)) else none) else some l
def stS (d:DImage) (f:DFunc) (x:DInstr) (l:List Int):Option (List Int):=
 (pops d x (if x.op=24 then l++[slotT f x.a] else l)).bind fun l2=>if sumB d.types l2≤4096 then some l2 else none
theorem z89 {d:DImage} {f:DFunc} {x:DInstr} {l l':List Int} (hx:InstrP x) (hw:WfI x) (hN:NearP d f x) (hs:SlotsP d f) (hl:InT d.types l) (h:stS d f x l=some l'):InT d.types l'∧l'.length≤l.length+1:=by
 have h1:InT d.types (if x.op=24 then l++[slotT f x.a] else l)∧(if x.op=24 then l++[slotT f x.a] else l).length≤l.length+1:=by
  split
  ·rename_i e
   refine⟨fun t ht=> ?_,by simp⟩
   rcases w0a.1 ht with q|q
   ·exact hl t q
   ·rw[w16.1 q]
    have:=Ty hx hw hN hs (k:=0) (by omega) (by right;show(shp x.op).getD 0 45=114;rw[e];rfl)
    exact⟨this,tO hs _⟩
  ·exact⟨hl,by omega⟩
 unfold stS at h
 rw[w07] at h
 generalize (if x.op=24 then l++[slotT f x.a] else l)=l1 at*
 obtain⟨l2,h2,h3⟩:=h
 split at h3
 ·injection h3 with h3;subst h3
  unfold pops at h2
  split at h2
  ·split at h2
   ·injection h2 with h2;subst h2
    exact⟨fun t ht=>h1.1 t (w45 ht),by rw[w1a];omega⟩
   ·cases h2
  ·injection h2 with h2;subst h2;exact h1
 ·cases h3
theorem z0N {x:DInstr} (h:x.op=24):called x= -1:=by unfold called;rw[if_neg (by omega),if_neg (by omega)]
theorem zes (d:DImage) (hd:ImgP d) (hT:TypP d.types) (f:DFunc) (y:AV) (hy:NV d f y) (hs:SlotsP d f) (x:DInstr) (hx:InstrP x) (hw:WfI x) (hN:NearP d f x) (l:List Int) (z:AV) (hz:IsSl IsI 1 l z) (hin:InT d.types l) (hlen:l.length≤1000) (m:Mem):
  OkT tab tG [y,.agg [.int .u8 x.op,.int .i64 x.a,.int .i64 x.b,.int .i64 x.c],z] m (fun r _ _=> ∃q,r= .tup [q,.bool (stS d f x l).isSome]∧ ∀l',stS d f x l=some l'→IsSl IsI 1 l' q):=by
 have hy':=hy
 obtain⟨ty,tx,fs,w0,w1,w2,w3,rfl,h0,h1,h2,h3,h4,h5,h6⟩:=hy
 refine jv Vg ?_
 obtain⟨stk,cur,nx,live,fl⟩:=m
 have hS:=fun s m=>(z0l d f _ hy' s m).eq
 have hCa:=fun m=>(Ua x m).eq
 by_cases h24:x.op=24
 ·have e24:(x.op==24)=true:=by simpa using h24
  have hcl:=z0N h24
  have hst:stS d f x l=if sumB d.types (l++[slotT f x.a])≤4096 then some (l++[slotT f x.a]) else none:=by
   unfold stS pops
   rw[if_pos h24,hcl]
   rfl
  have hin2:InT d.types (l++[slotT f x.a]):=by
   intro t ht
   rcases w0a.1 ht with q|q
   ·exact hin t q
   ·rw[w16.1 q]
    have:=Ty hx hw hN hs (k:=0) (by omega) (by right;show(shp x.op).getD 0 45=114;rw[h24];rfl)
    exact⟨this,tO hs _⟩
  rw[hcl] at hCa
  have fin: ∀(q:AV),IsSl IsI 1 (l++[slotT f x.a]) q→ ∃q',(AV.tup [q,.bool (decide (((sumB d.types (l++[slotT f x.a]):Nat):Int)≤4096))])= .tup [q',.bool (stS d f x l).isSome]∧ ∀l',stS d f x l=some l'→IsSl IsI 1 l' q':=fun q hq=>by
   rw[hst]
   by_cases hle:sumB d.types (l++[slotT f x.a])≤4096
   ·rw[if_pos hle,decide_eq_true (by omega)]
    exact⟨q,rfl,fun l' h=>by injection h with h;subst h;exact hq⟩
   ·rw[if_neg hle,decide_eq_false (by omega)]
    exact⟨q,rfl,fun l' h=>by cases h⟩
  rcases hz with⟨hzm,⟨rfl,rfl⟩|⟨tk,ys,rfl,hys⟩⟩
  ·have hq:IsSl IsI 1 ([]++[slotT f x.a]) (.list 1 (.id (callNx tab zn [.agg [ty,tx,fs,.str f.name,.int .i64 f.params,.int .i64 f.result,w0,w1,w2,w3],.int .i64 x.a] ⟨stk++[cur],[⟨nx,[ty,tx,fs,.str f.name,.int .i64 f.params,.int .i64 f.result,w0,w1,w2,w3]⟩,⟨nx+1,[.int .u8 x.op,.int .i64 x.a,.int .i64 x.b,.int .i64 x.c]⟩],callNx tab x7 [.nils] ⟨stk++[cur],[⟨nx,[ty,tx,fs,.str f.name,.int .i64 f.params,.int .i64 f.result,w0,w1,w2,w3]⟩,⟨nx+1,[.int .u8 x.op,.int .i64 x.a,.int .i64 x.b,.int .i64 x.c]⟩],nx+1+1,[]::live,max fl ((stk++[cur]).length+1)⟩,[]::live,max fl ((stk++[cur]).length+1)⟩)) [.int .i64 (slotT f x.a)]):= .mk ⟨rfl,trivial⟩ (by simp)
   simp only[yy,List.map,go_sem,reduceCtorEq,G3,G0,G2,e24,(z85 _).eq,hS,zcw,hCa,show((-1:Int)≥0)=False from eq_false (by decide)]
   generalize callNx tab zn _ _=k1 at*
   simp only[go_sem,reduceCtorEq,G0,G2,(QD d hT f _ hy' _ _ hq hin2 (by simp) _).eq,show((0:Int)==0)=true from rfl]
   exact zr rfl (fin _ hq)
  ·have hyl:=hys.len
   have hq: ∀k1,IsSl IsI 1 (l++[slotT f x.a]) (.list 1 (.id k1) (ys++[.int .i64 (slotT f x.a)])):=fun k1=> .mk (hys.append (ys':=[.int .i64 (slotT f x.a)]) ⟨rfl,trivial⟩) (by simp;omega)
   simp only[yy,List.map,go_sem,reduceCtorEq,G3,G0,G2,e24,(z6s _ _ _).eq,hS,zb7 (ys:=ys) (by omega),hCa,show((-1:Int)≥0)=False from eq_false (by decide)]
   generalize callNx tab zn _ _=k1 at*
   simp only[go_sem,reduceCtorEq,G0,G2,(QD d hT f _ hy' _ _ (hq _) hin2 (by simp;omega) _).eq,show((0:Int)==0)=true from rfl]
   exact zr rfl (fin _ (hq _))
 have e24:(x.op==24)=false:=by simpa using h24
 by_cases hcl:0≤called x
 ·obtain⟨g,hg⟩: ∃g:Nat,called x=g:=⟨(called x).toNat,by omega⟩
  have hgl:g<d.funcs.length:=by have:=hN.2.1;omega
  obtain⟨v0,v1,v2,v3,ef,q0,q1,q2,q3⟩:=h2.fnA hgl
  have hat:=h2.at .i64 hgl
  obtain⟨g1,g2,g3,g4⟩:=hd.at hgl
  have hst:stS d f x l=if(parT (fnA d.funcs g)).length≤l.length∧l.drop (l.length-(parT (fnA d.funcs g)).length)=parT (fnA d.funcs g) then(if sumB d.types (l.take (l.length-(parT (fnA d.funcs g)).length))≤4096 then some (l.take (l.length-(parT (fnA d.funcs g)).length)) else none) else none:=by
   unfold stS pops
   rw[if_neg h24,if_pos hcl,hg,w1b]
   split<;>rfl
  have hpl:=z2p (fnA d.funcs g)
  have hpg:=fun i h=>z6S (g:=fnA d.funcs g) (i:=i) h
  rw[hg] at hCa
  generalize fnA d.funcs g=F at*
  generalize hP:parT F=P at*
  have hsub:IntKind.i64.wrap ((l.length:Int)-F.params)=(l.length:Int)-P.length:=by
   have:=q0.max
   rw[zb (by omega) (by omega)];omega
  simp only[yy,List.map,go_sem,reduceCtorEq,G3,G0,G2,e24,hCa,show((g:Int)≥0)=True from eq_true (by omega),hat,ef,q0.one,q1.one,q2.one,q3.one,hz.len,hsub]
  by_cases hle:P.length≤l.length
  ·have hsub2:((l.length:Int)-P.length)=((l.length-P.length:Nat):Int):=by omega
   obtain⟨z1,hz1,hzs1⟩:=hz.fromN (n:=l.length-P.length) (by omega)
   obtain⟨z2,hz2,hzs2⟩:=hz.toN (n:=l.length-P.length) (by omega)
   have hdl:(l.drop (l.length-P.length)).length=P.length:=by rw[w56];omega
   simp only[go_sem,reduceCtorEq,G3,G0,G2,hsub2,show¬(((l.length-P.length:Nat):Int)<0) by omega,hz1,hzs1.len,hdl]
   generalize callNx tab qw _ _=k0
   refine za (α:=Nat) (fun k σ=>(k≤P.length∧ ∀j,j<k→(l.drop (l.length-P.length))[j]? =P[j]?)∧ ∃nz,heads [2,3,9,10,45,46,47] 3 σ=⟨tmps 77 [(2,z),(3,.ptr (stk++[cur]).length 0 nx 0),(9,.ptr (stk++[cur]).length 2 k0 0),(10,.int .i64 (l.length-P.length:Nat)),(45,z1),(46,.int .i64 P.length),(47,.int .i64 k)],⟨stk++[cur],[⟨nx,[ty,tx,fs,.str f.name,.int .i64 f.params,.int .i64 f.result,w0,w1,w2,w3]⟩,⟨nx+1,[.int .u8 x.op,.int .i64 x.a,.int .i64 x.b,.int .i64 x.c]⟩,⟨k0,[.str F.name,.int .i64 F.params,.int .i64 F.result,v0,v1,v2,v3]⟩],nz,[]::live,fl⟩⟩) (fun k=>P.length-k) 0 ?_ ?_
   ·refine⟨⟨w06 _,fun j h=>absurd h (w35 _)⟩,?_⟩
    simp only[go_sem,reduceCtorEq,G0,G1]
    exact⟨_,rfl⟩
   ·rintro k σ ⟨⟨hk,ht⟩,nz,hσ⟩
    rw[hσ]
    clear hσ σ
    dsimp only at hk ht⊢
    by_cases h:k<P.length
    ·have hkd:k<(l.drop (l.length-P.length)).length:=by omega
     have e1:nth z1 k= .int .i64 (l.drop (l.length-P.length))[k]:=hzs1.nth hkd
     have hsucc:IntKind.i64.wrap ((k:Int)+1)=((k+1:Nat):Int):=by rw[zb (by omega) (by omega)];omega
     have hks:k<F.slots.length:=by omega
     have hgp:=hpg k h
     by_cases hq:(fdA F.slots (k:Nat)).typ=(l.drop (l.length-P.length))[k]
     ·have hqb:((fdA F.slots (k:Nat)).typ !=(l.drop (l.length-P.length))[k])=false:=by simpa using hq
      simp only[go_sem,G0,G1,G2,w02,h,hzs1.at .i64 hkd,e1,q0.at .i64 hks,q0.fdA hks,hqb,hsucc]
      refine⟨k+1,by omega,⟨h,fun j hj=> ?_⟩,_,rfl⟩
      rcases w3c j k with q|q
      ·exact ht j q
      ·have:j=k:=by omega
       subst this
       rw[w11 hkd,w11 h,hgp,hq]
     ·have hqb:((fdA F.slots (k:Nat)).typ !=(l.drop (l.length-P.length))[k])=true:=by simpa using hq
      simp only[go_sem,G0,G1,G2,w02,h,hzs1.at .i64 hkd,e1,q0.at .i64 hks,q0.fdA hks,hqb]
      have hno:stS d f x l=none:=by
       rw[hst,if_neg]
       rintro⟨_,e⟩
       apply hq
       rw[←hgp]
       simp only[e]
      refine zr rfl ⟨.nils,by rw[hno];rfl,fun l' h=>by rw[hno] at h;cases h⟩
    ·have hke:k=P.length:=by omega
     subst hke
     have heq:l.drop (l.length-P.length)=P:=by
      apply w2b
      intro j
      by_cases hj:j<P.length
      ·exact ht j hj
      ·rw[w18 (by omega),w18 (by omega)]
     have hin2:InT d.types (l.take (l.length-P.length)):=fun t ht=>hin t (w45 ht)
     have hB:=fun m=>(QD d hT f _ hy' _ _ hzs2 hin2 (by rw[w1a];omega) m).eq
     simp only[go_sem,G3,G0,G1,G2,w02,h,hz2,hB,show((0:Int)==0)=true from rfl]
     rw[if_pos ⟨hle,heq⟩] at hst
     refine zr (by simp only[AV.refs,refsAny,hzs2.refs];rfl) ?_
     rw[hst]
     by_cases hle2:sumB d.types (l.take (l.length-P.length))≤4096
     ·rw[if_pos hle2,decide_eq_true (by omega)]
      exact⟨z2,rfl,fun l' h=>by injection h with h;subst h;exact hzs2⟩
     ·rw[if_neg hle2,decide_eq_false (by omega)]
      exact⟨z2,rfl,fun l' h=>by cases h⟩
  ·have hno:stS d f x l=none:=by rw[hst,if_neg fun q=>hle q.1]
   simp only[go_sem,reduceCtorEq,G0,G2,show(((l.length:Int)-P.length)<0)=True from eq_true (by omega)]
   refine zr rfl ⟨.nils,by rw[hno];rfl,fun l' h=>by rw[hno] at h;cases h⟩
 ·have hst:stS d f x l=if sumB d.types l≤4096 then some l else none:=by
   unfold stS pops
   rw[if_neg h24,if_neg hcl]
   rfl
  have hB:=fun m=>(QD d hT f _ hy' _ _ hz hin (by omega) m).eq
  simp only[yy,List.map,go_sem,reduceCtorEq,G3,G0,G2,e24,hCa,show¬(called x≥0) by omega,hB,show((0:Int)==0)=true from rfl]
  refine zr (by simp only[AV.refs,refsAny,hz.refs];rfl) ?_
  rw[hst]
  by_cases hle2:sumB d.types l≤4096
  ·rw[if_pos hle2,decide_eq_true (by omega)]
   exact⟨z,rfl,fun l' h=>by injection h with h;subst h;exact hz⟩
  ·rw[if_neg hle2,decide_eq_false (by omega)]
   exact⟨z,rfl,fun l' h=>by cases h⟩
def takeT (d:DImage) (x:DInstr):List Int:=if 0≤called x then parT (fnA d.funcs (called x).toNat) else []
def pushT (f:DFunc) (x:DInstr):Int:=if x.op=24 then slotT f x.a else-1
theorem zbw {d:DImage} {f:DFunc} {x:DInstr} {l:List Int} (hp:x.op=24→0≤slotT f x.a):stS d f x l=
  if(takeT d x).length≤l.length∧l.drop (l.length-(takeT d x).length)=takeT d x then(if sumB d.types (l.take (l.length-(takeT d x).length)++(if 0≤pushT f x then [pushT f x] else []))≤4096 then some (l.take (l.length-(takeT d x).length)++(if 0≤pushT f x then [pushT f x] else [])) else none) else none:=by
 unfold stS pops takeT pushT
 by_cases h24:x.op=24
 ·have hcl:=z0N h24
  have h0:=hp h24
  rw[if_pos h24,if_pos h24,hcl]
  simp only[show¬(0:Int)≤ -1 by omega,if_false,w30,Nat.sub_zero,w06,true_and,List.drop_length,if_true,w08,h0]
  rfl
 ·rw[if_neg h24,if_neg h24]
  simp only[show¬(0:Int)≤ -1 by omega,if_false,w1f]
  by_cases hcl:0≤called x
  ·simp only[hcl,if_true]
   split<;>rfl
  ·simp only[hcl,if_false,w30,Nat.sub_zero,w06,true_and,List.drop_length,if_true,w08]
   rfl
theorem z6o (d:DImage) (hd:ImgP d) (hsl: ∀k,k<d.funcs.length→(fnA d.funcs k).slots.length≤1000) (y:AV) (hy:IsImage d y) (g:Nat) (hg:g<d.funcs.length) (x:DInstr) (hN:NearP d (fnA d.funcs g) x) (m:Mem):
  OkT tab xF [y,.int .i64 g,.agg [.int .u8 x.op,.int .i64 x.a,.int .i64 x.b,.int .i64 x.c]] m (fun r ts _=> ∃q,r= .tup [q,.int .i64 (pushT (fnA d.funcs g) x)]∧Own IsI 1 q (takeT d x) ts):=by
 have hy':=hy
 obtain⟨ty,tx,fs,rfl,h0,h1,h2⟩:=hy
 refine jv XS ?_
 obtain⟨stk,cur,nx,live,fl⟩:=m
 have hS:=fun s m=>(Tu d _ hy' g hg s m).eq
 have hCa:=fun m=>(jn x m).eq
 generalize fnA d.funcs g=f at*
 by_cases h24:x.op=24
 ·have e24:(x.op==24)=true:=by simpa using h24
  simp only[yQ,List.map,go_sem,reduceCtorEq,G3,G0,G2,e24,hS]
  refine zr rfl ⟨.nils,by unfold pushT;rw[if_pos h24],?_⟩
  unfold takeT
  rw[z0N h24,if_neg (by omega)]
  exact .nil _
 have e24:(x.op==24)=false:=by simpa using h24
 have hpu:pushT f x= -1:=by unfold pushT;rw[if_neg h24]
 by_cases hcl:0≤called x
 ·obtain⟨k,hk⟩: ∃k:Nat,called x=k:=⟨(called x).toNat,by omega⟩
  have hkl:k<d.funcs.length:=by have:=hN.2.1;omega
  obtain⟨v0,v1,v2,v3,ef,q0,q1,q2,q3⟩:=h2.fnA hkl
  have hat:=h2.at .i64 hkl
  obtain⟨g1,g2,g3,g4⟩:=hd.at hkl
  have g5:=hsl k hkl
  have hta:takeT d x=parT (fnA d.funcs k):=by unfold takeT;rw[if_pos hcl,hk,w1b]
  rw[hta]
  rw[hk] at hCa
  generalize fnA d.funcs k=F at*
  have hpl:=z2p F
  have hpg:=fun i h=>z6S (g:=F) (i:=i) h
  have hmx:=q0.max
  generalize hP:parT F=P at*
  simp only[yQ,List.map,go_sem,reduceCtorEq,G3,G0,G2,e24,hCa,show((k:Int)≥0)=True from eq_true (by omega)]
  refine za (α:=Nat) (fun i σ=>i≤P.length∧ ∃nz q e,Own IsI 1 q (P.take i) e∧heads [3,8,9,10] 2 σ=⟨tmps 47 [(3,.ptr (stk++[cur]).length 0 nx 0),(8,q),(9,.int .i64 k),(10,.int .i64 i)],⟨stk++[cur],[⟨nx,[ty,tx,fs]⟩,⟨nx+1,[.int .u8 x.op,.int .i64 x.a,.int .i64 x.b,.int .i64 x.c]⟩],nz,e::live,fl⟩⟩) (fun i=>P.length-i) 0 ?_ ?_
  ·refine⟨w06 _,?_⟩
   simp only[go_sem,reduceCtorEq,G0,G1]
   exact⟨_,_,[],by simpa using Own.nil (R:=IsI) (s:=1) [],rfl⟩
  ·rintro i σ ⟨hi,nz,q,e,ho,hσ⟩
   rw[hσ]
   clear hσ σ
   dsimp only at hi⊢
   by_cases h:i<P.length
   ·have hsucc:IntKind.i64.wrap ((i:Int)+1)=((i+1:Nat):Int):=by rw[zb (by omega) (by omega)];omega
    have hks:i<F.slots.length:=by omega
    simp only[go_sem,G0,G1,G2,hat,ef,show((i:Int)<F.params)=True from eq_true (by omega),q0.at .i64 hks,q0.fdA hks]
    refine ho.xv (zh · 1 .full [.int .i64 (fdA F.slots (i:Nat)).typ]) (YH _) (by rw[w1a];simp;omega) fun q' n' e' ho'=> ?_
    simp only[go_sem,G0,G2,hsucc]
    refine⟨i+1,by omega,h,_,q',e',?_,rfl⟩
    rw[w0d h,hpg i h];exact ho'
   ·have hie:i=P.length:=by omega
    subst hie
    rw[w08] at ho
    simp only[go_sem,G0,G1,G2,hat,ef,show(((P.length:Nat):Int)<F.params)=False from eq_false (by omega)]
    refine zr (by simp only[AV.refs,refsAny,ho.refs];rfl) ⟨q,by rw[hpu],?_⟩
    have:=ho.filter
    simp only[AV.toks,toksAll,w1f]
    exact this
 ·simp only[yQ,List.map,go_sem,reduceCtorEq,G3,G0,G2,e24,hCa,show¬(called x≥0) by omega]
  refine zr rfl ⟨.nils,by rw[hpu],?_⟩
  unfold takeT
  rw[if_neg hcl]
  exact .nil _
theorem zcX (d:DImage) (hd:ImgP d) (hsl: ∀k,k<d.funcs.length→(fnA d.funcs k).slots.length≤1000) (hT:TypP d.types) (y:AV) (hy:IsImage d y) (g:Nat) (hg:g<d.funcs.length) (x:DInstr) (hx:InstrP x) (hw:WfI x) (hN:NearP d (fnA d.funcs g) x) (l:List Int) (z:AV) (hz:IsSl IsI 1 l z) (hin:InT d.types l) (hlen:l.length≤1000) (m:Mem) (hf:m.floor≤m.stk.length+1):
  OkT tab tr [y,.int .i64 g,.agg [.int .u8 x.op,.int .i64 x.a,.int .i64 x.b,.int .i64 x.c],z] m (fun r _ _=> ∃q,r= .tup [q,.bool (stS d (fnA d.funcs g) x l).isSome]∧ ∀l',stS d (fnA d.funcs g) x l=some l'→IsSl IsI 1 l' q):=by
 have hy':=hy
 have hs:=(hd.at hg).1
 have hp24:x.op=24→0≤slotT (fnA d.funcs g) x.a:=fun e=>Ty hx hw hN hs (k:=0) (by omega) (by right;show(shp x.op).getD 0 45=114;rw[e];rfl)
 have hst:=zbw (d:=d) (f:=fnA d.funcs g) (x:=x) (l:=l) hp24
 have hstin:=fun l' h=>z89 (l':=l') hx hw hN hs hin h
 obtain⟨ty,tx,fs,rfl,h0,h1,h2⟩:=hy
 refine jv WP ?_
 obtain⟨stk,cur,nx,live,fl⟩:=m
 dsimp only at hf
 have hf':fl≤(stk++[cur]).length+1:=by simp;omega
 have hpt:0≤pushT (fnA d.funcs g) x→pushT (fnA d.funcs g) x<d.types.length:=fun _=>by
  unfold pushT
  split
  ·exact tO hs _
  ·omega
 have hTl:(takeT d x).length≤9223372036854775807:=by
  unfold takeT
  split
  ·rename_i hcl
   obtain⟨k,hk⟩: ∃k:Nat,called x=k:=⟨(called x).toNat,by omega⟩
   have hkl:k<d.funcs.length:=by have:=hN.2.1;omega
   obtain⟨v0,v1,v2,v3,ef,q0,q1,q2,q3⟩:=h2.fnA hkl
   have h1:=(hd.at hkl).2.1
   have h3:=q0.max
   rw[hk,w1b,z2p];omega
  ·simp
 simp only[uM,List.map,go_sem,reduceCtorEq,G3,G0,G2]
 refine(z6o d hd hsl _ hy' g hg x hN _).xv fun r ts n1 ⟨q,hr,ho⟩=> ?_
 subst hr
 have hlive: ∃e,pushToks ts ([]::live)=e::live:=by cases ts<;>exact⟨_,rfl⟩
 obtain⟨e,he⟩:=hlive
 simp only[he]
 generalize pushT (fnA d.funcs g) x=p at*
 generalize hTe:takeT d x=T at*
 generalize stS d (fnA d.funcs g) x l=res at*
 have hq:=ho.sl (by omega)
 have hsub:IntKind.i64.wrap ((l.length:Int)-T.length)=(l.length:Int)-T.length:=by rw[zb (by omega) (by omega)]
 simp only[go_sem,reduceCtorEq,G0,G2,hz.len,hq.len,hsub]
 by_cases hle:T.length≤l.length
 ·have hsub2:((l.length:Int)-T.length)=((l.length-T.length:Nat):Int):=by omega
  obtain⟨z1,hz1,hzs1⟩:=hz.fromN (n:=l.length-T.length) (by omega)
  obtain⟨z2,hz2,hzs2⟩:=hz.toN (n:=l.length-T.length) (by omega)
  simp only[go_sem,reduceCtorEq,G0,G2,hsub2,show¬(((l.length-T.length:Nat):Int)<0) by omega,hz1,(yD _ _ _ _ hzs1 hq _).eq]
  by_cases heq:l.drop (l.length-T.length)=T
  ·rw[if_pos ⟨hle,heq⟩] at hst
   have hdt:decide (l.drop (l.length-T.length)=T)=true:=decide_eq_true heq
   simp only[go_sem,reduceCtorEq,G0,G2,hdt,hz2]
   obtain⟨zz2,hzz2,hcc2⟩:=hzs2.elems_any
   have hn:Own IsI 1 (.list 1 .full []) [] e:=Own.full (R:=IsI) (xs:=[]) (ys:=[]) trivial e
   refine hn.xv hzz2 hcc2 (by rw[w1a];simp;omega) fun y3 n3 e3 ho3=> ?_
   rw[w32] at ho3
   by_cases hp0:0≤p
   ·rw[if_pos hp0] at hst
    simp only[go_sem,reduceCtorEq,G0,G2,show(p≥0)=True from eq_true hp0]
    refine ho3.xv (zh · 1 .full [.int .i64 p]) (YH _) (by rw[w1a];simp;omega) fun y4 n4 e4 ho4=> ?_
    have hin4:InT d.types (l.take (l.length-T.length)++[p]):=fun t ht=>by
     rcases w0a.1 ht with a|a
     ·exact hin t (w45 a)
     ·rw[w16.1 a];exact⟨hp0,hpt hp0⟩
    have hs4:=ho4.sl (by simp;omega)
    have hB:=fun c n lv=>(z1v d hT _ hy' _ _ hs4 hin4 (by simp;omega) ⟨stk++[cur],c,n,lv,fl⟩ hf').eq
    simp only[go_sem,reduceCtorEq,G3,G0,G2,hB]
    refine zr (by simp only[AV.refs,refsAny,ho4.refs];rfl) ?_
    rw[hst]
    by_cases hle2:sumB d.types (l.take (l.length-T.length)++[p])≤4096
    ·rw[if_pos hle2,decide_eq_true (by omega)]
     exact⟨y4,rfl,fun l' h=>by injection h with h;subst h;exact hs4⟩
    ·rw[if_neg hle2,decide_eq_false (by omega)]
     exact⟨y4,rfl,fun l' h=>by cases h⟩
   ·rw[if_neg hp0,w1f] at hst
    have hin4:InT d.types (l.take (l.length-T.length)):=fun t ht=>hin t (w45 ht)
    have hs4:=ho3.sl (by rw[w1a];omega)
    have hB:=fun c n lv=>(z1v d hT _ hy' _ _ hs4 hin4 (by rw[w1a];omega) ⟨stk++[cur],c,n,lv,fl⟩ hf').eq
    simp only[go_sem,reduceCtorEq,G3,G0,G2,show(p≥0)=False from eq_false hp0,hB]
    refine zr (by simp only[AV.refs,refsAny,ho3.refs];rfl) ?_
    rw[hst]
    by_cases hle2:sumB d.types (l.take (l.length-T.length))≤4096
    ·rw[if_pos hle2,decide_eq_true (by omega)]
     exact⟨y3,rfl,fun l' h=>by injection h with h;subst h;exact hs4⟩
    ·rw[if_neg hle2,decide_eq_false (by omega)]
     exact⟨y3,rfl,fun l' h=>by cases h⟩
  ·rw[if_neg fun a=>heq a.2] at hst
   have hdt:decide (l.drop (l.length-T.length)=T)=false:=decide_eq_false heq
   simp only[go_sem,reduceCtorEq,G0,G2,hdt]
   refine zr rfl ⟨.nils,by rw[hst];rfl,fun l' h=>by rw[hst] at h;cases h⟩
 ·rw[if_neg fun a=>hle a.1] at hst
  simp only[go_sem,reduceCtorEq,G0,G2,show(((l.length:Int)-T.length)<0)=True from eq_true (by omega)]
  refine zr rfl ⟨.nils,by rw[hst];rfl,fun l' h=>by rw[hst] at h;cases h⟩
def i00:DInstr:=⟨0,0,0,0⟩
def inA (l:List DInstr) (k:Nat):DInstr:=l.getD k i00
theorem z9H {l:List DInstr} {j:Nat} (h:j<l.length):l[j]=inA l j:=by simp[inA,w00,h]
theorem _root_.Go.Vs.IsSl.inA {l:List DInstr} {x:AV} (hx:IsSl IsInstr 4 l x) {j:Nat} (h:j<l.length):Vs.nth x j= .agg [.int .u8 (inA l j).op,.int .i64 (inA l j).a,.int .i64 (inA l j).b,.int .i64 (inA l j).c]:=by
 rw[←z9H h];exact hx.nth h
def Ok07 (l:List DInstr):Prop:=(∀j,j<l.length→((inA l j).op=22→(inA l j).a<l.length)∧((inA l j).op=23→(inA l j).b<l.length))∧inA l (l.length-1)=⟨34,-1,0,0⟩
def nxt1 (x:DInstr) (i:Nat):List Nat:=
 if x.op=34∨x.op=28∨x.op=30 then [] else if x.op=22 then [x.a.toNat] else if x.op=23 then(if x.b=i+1 then [i+1] else [min (i+1) x.b.toNat,max (i+1) x.b.toNat]) else [i+1]
def nxt (l:List DInstr) (i:Nat):List Nat:=nxt1 (inA l i) i
theorem QQ (l:List DInstr) (i:Nat):(nxt l i).length≤2:=by unfold nxt nxt1;(repeat' split)<;>simp
def LI (lo lv:Nat) (cur:List Blk) (y:AV) (l:List Nat):Prop:=
 (IsSl IsN 1 l y∧y.toks=[])∨ ∃k st cs,y= .grow 1 lv k st l.length∧cur[k]? =some ⟨st,cs⟩∧l.length≤cs.length∧cs.take l.length=ints l∧lo≤k
theorem LI.len {lo lv:Nat} {cur:List Blk} {y:AV} {l:List Nat} (h:LI lo lv cur y l):evLen y=some (.int .i64 l.length):=by
 rcases h with h|⟨k,st,cs,rfl,_⟩
 ·exact h.1.len
 ·rfl
theorem YG {cs:List AV} {l:List Nat} (h:cs.take l.length=ints l) (hl:l.length≤cs.length) {j:Nat} (hj:j<l.length):takeV false 1 (cs.drop j)=some (.int .i64 (l[j]:Nat)):=by
 have hc:cs[j]? =some (.int .i64 (l[j]:Nat)):=by
  have:(cs.take l.length)[j]? =(ints l)[j]? :=by rw[h]
  rw[w2e,if_pos hj] at this
  rw[this]
  simp[ints,hj]
 refine li _ _ ?_
 rw[List.head?_drop,hc]
theorem isN1 (a:Nat) (tk:Tok):IsSl IsN 1 [a] (.list 1 tk [.int .i64 (a:Nat)]):= .mk ⟨rfl,trivial⟩ (by simp)
theorem isN2 (a b:Nat) (tk:Tok):IsSl IsN 1 [a,b] (.list 1 tk [.int .i64 (a:Nat),.int .i64 (b:Nat)]):= .mk ⟨rfl,rfl,trivial⟩ (by simp)
theorem z9w {l:List DInstr} {i:Nat} (h:(inA l i).op=34∨(inA l i).op=28∨(inA l i).op=30):nxt l i=[]:=by unfold nxt nxt1;rw[if_pos h]
theorem z6W {l:List DInstr} {i:Nat} (h:(inA l i).op=22):nxt l i=[(inA l i).a.toNat]:=by unfold nxt nxt1;rw[if_neg (by omega),if_pos h]
theorem z9y {l:List DInstr} {i:Nat} (h:(inA l i).op=23) (h':(inA l i).b=i+1):nxt l i=[i+1]:=by unfold nxt nxt1;rw[if_neg (by omega),if_neg (by omega),if_pos h,if_pos h']
theorem z9x {l:List DInstr} {i:Nat} (h:(inA l i).op=23) (h':(inA l i).b≠i+1):nxt l i=[min (i+1) (inA l i).b.toNat,max (i+1) (inA l i).b.toNat]:=by unfold nxt nxt1;rw[if_neg (by omega),if_neg (by omega),if_pos h,if_neg h']
theorem z6X {l:List DInstr} {i:Nat} (h: ¬((inA l i).op=34∨(inA l i).op=28∨(inA l i).op=30)) (h2:(inA l i).op≠22) (h3:(inA l i).op≠23):nxt l i=[i+1]:=by unfold nxt nxt1;rw[if_neg h,if_neg h2,if_neg h3]
def Jmp (x:DInstr):Prop:=(x.op=22→0≤x.a)∧(x.op=23→0≤x.b)
theorem Uc (l:List DInstr) (x:AV) (hx:IsSl IsInstr 4 l x) (i:Nat) (hi:i<l.length) (hj:Jmp (inA l i)) (m:Mem):Ok tab yq [x,.int .i64 i] m (fun r=>IsSl IsN 1 (nxt l i) r∧r.toks=[]):=by
 refine z6V XW ?_
 obtain⟨stk,cur,nx,live,fl⟩:=m
 have hmx:=hx.max
 have hsu:IntKind.i64.wrap ((i:Int)+1)=((i+1:Nat):Int):=zd hi hmx
 simp only[ur,List.map,go_sem,reduceCtorEq,G3,G0,G2,hx.at _ hi,hx.inA hi]
 by_cases h:(inA l i).op=34∨(inA l i).op=28∨(inA l i).op=30
 ·rw[z9w h]
  repeat' (((first|refine zp ?_ ?_|refine zk ?_ ?_|refine zl ?_ ?_|refine zi ?_ ?_|refine zj ?_ ?_)<;>intro hq)<;>simp only[go_sem,reduceCtorEq,G0,G2,hq])
  all_goals first
   |(rw[z6 rfl rfl,z8];exact⟨⟨_,rfl⟩,.nil 1,rfl⟩)
   |(exfalso;simp only[beq_iff_eq,beq_eq_false_iff_ne,ne_eq] at*;omega)
 have e1:((inA l i).op==34)=false:=by rw[beq_eq_false_iff_ne];omega
 have e2:((inA l i).op==28)=false:=by rw[beq_eq_false_iff_ne];omega
 have e3:((inA l i).op==30)=false:=by rw[beq_eq_false_iff_ne];omega
 by_cases h2:(inA l i).op=22
 ·have e4:((inA l i).op==22)=true:=by simpa using h2
  simp only[go_sem,reduceCtorEq,G0,G2,e1,e2,e3,e4]
  rw[z6 rfl rfl,z8,z6W h2]
  have ha:=hj.1 h2
  refine⟨⟨_,rfl⟩,?_,rfl⟩
  have:=isN1 (inA l i).a.toNat .full
  rwa [w40 ha] at this
 have e4:((inA l i).op==22)=false:=by simpa using h2
 by_cases h3:(inA l i).op=23
 ·have e5:((inA l i).op==23)=true:=by simpa using h3
  have hb:=hj.2 h3
  by_cases h4:(inA l i).b=i+1
  ·have e6:((inA l i).b==((i+1:Nat):Int))=true:=by rw[beq_iff_eq];omega
   simp only[go_sem,reduceCtorEq,G0,G2,e1,e2,e3,e4,e5,hsu,e6]
   rw[z6 rfl rfl,z8,z9y h3 h4]
   exact⟨⟨_,rfl⟩,isN1 _ _,rfl⟩
  ·have e6:((inA l i).b==((i+1:Nat):Int))=false:=by rw[beq_eq_false_iff_ne];omega
   have e7:(if(inA l i).b<((i+1:Nat):Int) then(inA l i).b else((i+1:Nat):Int))=((min (i+1) (inA l i).b.toNat:Nat):Int):=by split<;>omega
   have e8:(if(inA l i).b>((i+1:Nat):Int) then(inA l i).b else((i+1:Nat):Int))=((max (i+1) (inA l i).b.toNat:Nat):Int):=by split<;>omega
   simp only[go_sem,reduceCtorEq,G0,G2,e1,e2,e3,e4,e5,hsu,e6,e7,e8]
   rw[z6 rfl rfl,z8,z9x h3 h4]
   exact⟨⟨_,rfl⟩,isN2 _ _ _,rfl⟩
 have e5:((inA l i).op==23)=false:=by simpa using h3
 simp only[go_sem,reduceCtorEq,G0,G2,e1,e2,e3,e4,e5,hsu]
 rw[z6 rfl rfl,z8,z6X h h2 h3]
 exact⟨⟨_,rfl⟩,isN1 _ _,rfl⟩
def CallLI (f:Nat) (args:List AV) (l:List Nat) (w:AV→AV) (m:Mem):Prop:=
 ∃y bs k,CALL tab f args m=some (w y,{m with cur:=m.cur++bs,nx:=k})∧LI m.cur.length m.stk.length (m.cur++bs) y l
theorem Wt {m0:Mem} {stk:List (List Blk)} {cur c':List Blk} {nx' fl':Nat} {own:List Nat} {live':List (List Nat)} {y:AV} (h1:y.refs (stk++[cur]).length=false) (h2:y.toks=[]):
  leave m0 ⟨stk++[cur],c',nx',own::live',fl'⟩ y=some (y,⟨stk,cur++[],nx',live',m0.floor⟩):=by
 rw[w1f];exact x9 h1 h2
theorem T3 {m0:Mem} {stk:List (List Blk)} {cur c':List Blk} {nx' fl':Nat} {own:List Nat} {live':List (List Nat)} {k st s n:Nat} {w:AV→AV} (hw:w=id∨w=fun y=> .tup [y,.int .i64 0]):
  ∃bs:List Blk,leave m0 ⟨stk++[cur],c',nx',own::live',fl'⟩ (w (.grow s (stk++[cur]).length k st n))=some (w (.grow s stk.length (k+cur.length) st n),⟨stk,cur++bs,nx',live',m0.floor⟩)∧
   bs=c'.map fun b=>⟨b.st,shiftAll (stk++[cur]).length ((stk++[cur]).length-1) cur.length b.cs⟩:=by
 have e:own.filter (fun _=>false)=[]:=by simp
 refine⟨_,?_,rfl⟩
 rcases hw with rfl|rfl
 ·unfold leave
  simp only[id,w51,w48,Option.some_or,AV.refs,beq_self_eq_true,if_true,AV.toks,List.contains_nil,e,pushToks,w52,AV.shift]
  simp
 ·unfold leave
  simp only[w51,w48,Option.some_or,AV.refs,refsAny,beq_self_eq_true,Bool.true_or,if_true,AV.toks,toksAll,w1f,List.contains_nil,e,pushToks,w52,AV.shift,shiftAll]
  simp
theorem z4T {f:Nat} {fn:AFunc} (h:tab f=some fn) {args:List AV} {l:List Nat} {w:AV→AV} {m:Mem} (hx:X tab fn.body (mk fn.ntmps (.tup []) (numb 0 args)) (enter m) (.fin fn.res m fun v m'=> ∃y bs k,v=w y∧m'={m with cur:=m.cur++bs,nx:=k}∧LI m.cur.length m.stk.length (m.cur++bs) y l)) (hn:args.length≤fn.ntmps:=by exact w1c rfl):
  CallLI f args l w m:=by
 obtain⟨x,h1,y,bs,k,h2,h3,h4⟩:=yn h hx hn;exact⟨y,bs,k,by rw[h1,←h2,←h3],h4⟩
theorem z3n {stk:List (List Blk)} {cur c' bs:List Blk} {k st:Nat} {cs:List AV} {l:List Nat} (hb:bs=c'.map fun b=>(⟨b.st,shiftAll (stk++[cur]).length ((stk++[cur]).length-1) cur.length b.cs⟩:Blk)) (hk:c'[k]? =some ⟨st,cs⟩) (hl:l.length≤cs.length) (ht:cs.take l.length=ints l):
  LI cur.length stk.length (cur++bs) (.grow 1 stk.length (k+cur.length) st l.length) l:=by
 have hlen: ∀(a b c:Nat) (xs:List AV),(shiftAll a b c xs).length=xs.length:=fun a b c xs=>yX a b c xs
 have htk: ∀(a b c n:Nat) (xs:List AV),(shiftAll a b c xs).take n=shiftAll a b c (xs.take n):=by
  intro a b c n xs
  induction xs generalizing n with
  |nil=>simp[shiftAll]
  |cons x r ih=>cases n<;>simp[shiftAll,ih]
 refine .inr ⟨k+cur.length,st,shiftAll (stk++[cur]).length ((stk++[cur]).length-1) cur.length cs,rfl,?_,by rw[hlen];exact hl,by rw[htk,ht,Qk],by omega⟩
 rw[w15 (by omega),show k+cur.length-cur.length=k by omega,hb,w17,hk]
 rfl
theorem z6j (l:List DInstr) (x:AV) (hx:IsSl IsInstr 4 l x) (i:Nat) (hi:i<l.length) (hj:Jmp (inA l i)) (m:Mem) (hf:m.floor≤m.stk.length+1):CallLI kq [x,.int .i64 i] (nxt l i) id m:=by
 refine z4T z3H ?_
 obtain⟨stk,cur,nx,live,fl⟩:=m
 dsimp only at hf
 have hmx:=hx.max
 have hsu:IntKind.i64.wrap ((i:Int)+1)=((i+1:Nat):Int):=zd hi hmx
 have hf':fl≤(stk++[cur]).length:=by simp;omega
 simp only[YR,List.map,go_sem,reduceCtorEq,G3,G0,G2,hx.at _ hi,hx.inA hi]
 by_cases h:(inA l i).op=34∨(inA l i).op=28∨(inA l i).op=30
 ·rw[z9w h]
  repeat' (((first|refine zp ?_ ?_|refine zk ?_ ?_|refine zl ?_ ?_|refine zi ?_ ?_|refine zj ?_ ?_)<;>intro hq)<;>simp only[go_sem,reduceCtorEq,G0,G2,hq])
  all_goals first
   |(rw[Wt rfl rfl,z8];exact⟨_,[],_,rfl,rfl,.inl ⟨.nil 1,rfl⟩⟩)
   |(exfalso;simp only[beq_iff_eq,beq_eq_false_iff_ne,ne_eq] at*;omega)
 have e1:((inA l i).op==34)=false:=by rw[beq_eq_false_iff_ne];omega
 have e2:((inA l i).op==28)=false:=by rw[beq_eq_false_iff_ne];omega
 have e3:((inA l i).op==30)=false:=by rw[beq_eq_false_iff_ne];omega
 by_cases h2:(inA l i).op=22
 ·have e4:((inA l i).op==22)=true:=by simpa using h2
  simp only[go_sem,reduceCtorEq,G0,G2,e1,e2,e3,e4]
  rw[Wt rfl rfl,z8,z6W h2]
  have ha:=hj.1 h2
  refine⟨_,[],_,rfl,rfl,.inl ⟨?_,rfl⟩⟩
  have:=isN1 (inA l i).a.toNat .full
  rwa [w40 ha] at this
 have e4:((inA l i).op==22)=false:=by simpa using h2
 by_cases h3:(inA l i).op=23
 ·have e5:((inA l i).op==23)=true:=by simpa using h3
  have hb:=hj.2 h3
  simp only[go_sem,reduceCtorEq,G3,G0,G2,e1,e2,e3,e4,e5,hsu,evLitB,w31,List.flatMap_nil]
  have hS:=fun nz=>(zeu ((i+1:Nat):Int) (inA l i).b (stk++[cur]) [⟨nx,[.int .u8 (inA l i).op,.int .i64 (inA l i).a,.int .i64 (inA l i).b,.int .i64 (inA l i).c]⟩,⟨nx+1,[.int .i64 ((i+1:Nat):Int),.int .i64 (inA l i).b]⟩] nz fl ([]::live) (stk++[cur]).length 1 (nx+1) (w09 _) hf' (by simp[Mem.blk,Mem.row])).eq
  simp only[go_sem,reduceCtorEq,G0,G2,hS,z1I]
  by_cases h4:(inA l i).b=i+1
  ·have e6:min ((i+1:Nat):Int) (inA l i).b=((i+1:Nat):Int):=by omega
   have e7:max ((i+1:Nat):Int) (inA l i).b=((i+1:Nat):Int):=by omega
   have hC:=fun nz=>(z5e ((i+1:Nat):Int) (stk++[cur]) [⟨nx,[.int .u8 (inA l i).op,.int .i64 (inA l i).a,.int .i64 (inA l i).b,.int .i64 (inA l i).c]⟩,⟨nx+1,[.int .i64 ((i+1:Nat):Int),.int .i64 ((i+1:Nat):Int)]⟩] nz fl ([]::live) (stk++[cur]).length 1 (nx+1) (w09 _) hf' (by simp[Mem.blk,Mem.row])).eq
   simp only[go_sem,reduceCtorEq,G0,G2,e6,e7,hC,z1I]
   obtain⟨bs,hbs,hbe⟩:=T3 (m0:=⟨stk,cur,nx,live,fl⟩) (stk:=stk) (cur:=cur) (c':=[⟨nx,[.int .u8 (inA l i).op,.int .i64 (inA l i).a,.int .i64 (inA l i).b,.int .i64 (inA l i).c]⟩,⟨nx+1,[.int .i64 ((i+1:Nat):Int),.int .i64 0]⟩]) (nx':=setsNx tab ya [.grow 1 (stk++[cur]).length 1 (nx+1) 2] ⟨stk++[cur],[⟨nx,[.int .u8 (inA l i).op,.int .i64 (inA l i).a,.int .i64 (inA l i).b,.int .i64 (inA l i).c]⟩,⟨nx+1,[.int .i64 ((i+1:Nat):Int),.int .i64 ((i+1:Nat):Int)]⟩],setsNx tab vg [.grow 1 (stk++[cur]).length 1 (nx+1) 2] ⟨stk++[cur],[⟨nx,[.int .u8 (inA l i).op,.int .i64 (inA l i).a,.int .i64 (inA l i).b,.int .i64 (inA l i).c]⟩,⟨nx+1,[.int .i64 ((i+1:Nat):Int),.int .i64 (inA l i).b]⟩],nx+1+1,[]::live,fl⟩,[]::live,fl⟩) (own:=[]) (live':=live) (fl':=fl) (k:=1) (st:=nx+1) (s:=1) (n:=1) (w:=id) (.inl rfl)
   simp only[id] at hbs
   rw[hbs,z8,z9y h3 h4]
   exact⟨_,bs,_,rfl,rfl,z3n (l:=[i+1]) hbe rfl (by simp) rfl⟩
  ·have hC:=fun nz=>(z5d (min ((i+1:Nat):Int) (inA l i).b) (max ((i+1:Nat):Int) (inA l i).b) (by omega) (stk++[cur]) [⟨nx,[.int .u8 (inA l i).op,.int .i64 (inA l i).a,.int .i64 (inA l i).b,.int .i64 (inA l i).c]⟩,⟨nx+1,[.int .i64 (min ((i+1:Nat):Int) (inA l i).b),.int .i64 (max ((i+1:Nat):Int) (inA l i).b)]⟩] nz fl ([]::live) (stk++[cur]).length 1 (nx+1) (w09 _) (by simp[Mem.blk,Mem.row])).eq
   simp only[go_sem,reduceCtorEq,G0,G2,hC]
   generalize callNx tab ya _ _=kk
   obtain⟨bs,hbs,hbe⟩:=T3 (m0:=⟨stk,cur,nx,live,fl⟩) (stk:=stk) (cur:=cur) (c':=[⟨nx,[.int .u8 (inA l i).op,.int .i64 (inA l i).a,.int .i64 (inA l i).b,.int .i64 (inA l i).c]⟩,⟨nx+1,[.int .i64 (min ((i+1:Nat):Int) (inA l i).b),.int .i64 (max ((i+1:Nat):Int) (inA l i).b)]⟩]) (nx':=kk) (own:=[]) (live':=live) (fl':=fl) (k:=1) (st:=nx+1) (s:=1) (n:=2) (w:=id) (.inl rfl)
   simp only[id] at hbs
   rw[hbs,z8,z9x h3 h4]
   refine⟨_,bs,_,rfl,rfl,z3n (l:=[min (i+1) (inA l i).b.toNat,max (i+1) (inA l i).b.toNat]) hbe rfl (by simp) ?_⟩
   simp only[ints,w37,List.map_nil,w2f,w30,w20,w21]
   rw[show(min ((i+1:Nat):Int) (inA l i).b)=((min (i+1) (inA l i).b.toNat:Nat):Int) by omega,show(max ((i+1:Nat):Int) (inA l i).b)=((max (i+1) (inA l i).b.toNat:Nat):Int) by omega]
 have e5:((inA l i).op==23)=false:=by simpa using h3
 simp only[go_sem,reduceCtorEq,G0,G2,e1,e2,e3,e4,e5,hsu]
 rw[Wt rfl rfl,z8,z6X h h2 h3]
 exact⟨_,[],_,rfl,rfl,.inl ⟨isN1 _ _,rfl⟩⟩
end Go.Proofs.W
end
section
namespace Go.Vs
section
variable (nx : Nat → List Nat)
inductive Rch:Nat→Prop
 |zero:Rch 0
 |step {i k:Nat}:Rch i→k∈nx i→Rch k
structure RInv (n:Nat) (s:List Bool):Prop where
 len:s.length=n
 zero:s.getD 0 false=true
 sub: ∀i,s.getD i false=true→Rch nx i
theorem RInv.set {n k i:Nat} {s:List Bool} (h:RInv nx n s) (hi:s.getD i false=true) (hk:k∈nx i):RInv nx n (s.set k true):=by
 refine⟨by simp[h.len],?_,fun j hj=> ?_⟩
 ·simp only[w00,w38]
  have:=h.zero
  simp only[w00] at this
  split
  ·rename_i e;subst e
   split
   ·rfl
   ·rename_i hl;rw[w18 (by omega)] at this;cases this
  ·exact this
 ·by_cases e:k=j
  ·subst e;exact .step (h.sub i hi) hk
  ·refine h.sub j ?_
   simp only[w00,w38,if_neg e] at hj
   simpa only[w00] using hj
theorem RInv.all {n:Nat} {s:List Bool} (h:RInv nx n s) (hc: ∀i,s.getD i false=true→ ∀k∈nx i,s.getD k false=true) (i:Nat):s.getD i false=true↔Rch nx i:=by
 refine⟨h.sub i,fun hr=> ?_⟩
 induction hr with
 |zero=>exact h.zero
 |step _ hk ih=>exact hc _ ih _ hk
def unm (s:List Bool):Nat:=(s.filter fun b=> !b).length
theorem QF {s:List Bool} {k:Nat} (hk:k<s.length) (h:s.getD k false=false):unm (s.set k true)+1=unm s:=by
 induction s generalizing k with
 |nil=>simp at hk
 |cons b s ih=>
  cases k with
  |zero=>
   have:b=false:=by simpa using h
   subst this
   simp[unm]
  |succ k=>
   have:=ih (k:=k) (by simpa using hk) (by simpa using h)
   unfold unm at this⊢
   cases b<;>simp at this⊢ <;>omega
theorem zS {s:List Bool} {k:Nat} (hk:k<s.length):(s.set k true).getD k false=true:=by
 simp[w00,w38,hk]
theorem zG {s:List Bool} {k j:Nat} (h:s.getD j false=true):(s.set k true).getD j false=true:=by
 simp only[w00,w38] at h⊢
 split
 ·rename_i e;subst e
  split
  ·rfl
  ·rename_i hl;rw[w18 (by omega)] at h;cases h
 ·exact h
theorem getD_set_ne {α:Type} {s:List α} {k j:Nat} {v d:α} (h:k≠j):(s.set k v).getD j d=s.getD j d:=by
 simp only[w00,w38,if_neg h]
theorem getD_set_eq {α:Type} {s:List α} {k:Nat} {v d:α} (h:k<s.length):(s.set k v).getD k d=v:=by
 simp[w00,w38,h]
variable (st : Nat → List Int → Option (List Int))
inductive Lab:Nat→List Int→Prop
 |zero:Lab 0 []
 |step {i k:Nat} {l l':List Int}:Lab i l→st i l=some l'→k∈nx i→Lab k l'
def GoodS (n:Nat):Prop:=(∀i l,Lab nx st i l→(st i l).isSome=true)∧(∀i l l',Lab nx st i l→Lab nx st i l'→l=l')
def LastS (n:Nat):Prop:= ∀l,Lab nx st (n-1) l→l=[]
noncomputable def labOf (i:Nat):List Int:=open Classical in if h: ∃l,Lab nx st i l then h.choose else []
structure SInv (n:Nat) (kn:List Bool) (out:List (List Int)):Prop where
 len1:kn.length=n
 len2:out.length=n
 zero:kn.getD 0 false=true∧out.getD 0 []=[]
 lab: ∀i,kn.getD i false=true→Lab nx st i (out.getD i [])
 un: ∀i,kn.getD i false=false→out.getD i []=[]
theorem SInv.set {n k i:Nat} {kn:List Bool} {out:List (List Int)} {l:List Int} (h:SInv nx st n kn out) (hkn:k<n) (hu:kn.getD k false=false) (hi:kn.getD i false=true) (hs:st i (out.getD i [])=some l) (hk:k∈nx i):SInv nx st n (kn.set k true) (out.set k l):=by
 have h0:k≠0:=fun e=>by subst e;rw[h.zero.1] at hu;cases hu
 refine⟨by simp[h.len1],by simp[h.len2],⟨zG h.zero.1,by rw[getD_set_ne h0];exact h.zero.2⟩,fun j hj=> ?_,fun j hj=> ?_⟩
 ·by_cases e:k=j
  ·subst e
   rw[getD_set_eq (by rw[h.len2];exact hkn)]
   exact .step (h.lab i hi) hs hk
  ·rw[getD_set_ne e] at hj⊢;exact h.lab j hj
 ·by_cases e:k=j
  ·subst e;rw[getD_set_eq (by rw[h.len1];exact hkn)] at hj;cases hj
  ·rw[getD_set_ne e] at hj⊢;exact h.un j hj
theorem SInv.all {n:Nat} {kn:List Bool} {out:List (List Int)} (h:SInv nx st n kn out) (hc: ∀i,kn.getD i false=true→ ∃l,st i (out.getD i [])=some l∧ ∀k∈nx i,kn.getD k false=true∧out.getD k []=l):
  GoodS nx st n∧ ∀i,out.getD i []=labOf nx st i:=by
 have key: ∀i l,Lab nx st i l→kn.getD i false=true∧l=out.getD i []:=by
  intro i l hl
  induction hl with
  |zero=>exact⟨h.zero.1,h.zero.2.symm⟩
  |step _ hs hk ih=>
   obtain⟨h1,rfl⟩:=ih
   obtain⟨l,h2,h3⟩:=hc _ h1
   rw[hs] at h2;injection h2 with h2;subst h2
   exact⟨(h3 _ hk).1,(h3 _ hk).2.symm⟩
 refine⟨⟨fun i l hl=> ?_,fun i l l' h1 h2=> ?_⟩,fun i=> ?_⟩
 ·obtain⟨h1,rfl⟩:=key i l hl
  obtain⟨l,h2,_⟩:=hc _ h1
  rw[h2];rfl
 ·rw[(key i l h1).2,(key i l' h2).2]
 ·unfold labOf
  split
  ·rename_i he
   exact((key i _ he.choose_spec).2).symm
  ·rename_i he
   cases hk:kn.getD i false with
   |true=>exact absurd ⟨_,h.lab i hk⟩ he
   |false=>exact h.un i hk
theorem Q5 {n i:Nat} {kn:List Bool} {out:List (List Int)} (h:SInv nx st n kn out) (hi:kn.getD i false=true) (hs:st i (out.getD i [])=none): ¬GoodS nx st n:=fun hg=>by
 have:=hg.1 i _ (h.lab i hi);rw[hs] at this;cases this
theorem QR {n i k:Nat} {kn:List Bool} {out:List (List Int)} {l:List Int} (h:SInv nx st n kn out) (hi:kn.getD i false=true) (hs:st i (out.getD i [])=some l) (hk:k∈nx i) (hkn:kn.getD k false=true) (hne:out.getD k []≠l): ¬GoodS nx st n:=fun hg=>
 hne (hg.2 k _ _ (h.lab k hkn) (.step (h.lab i hi) hs hk))
theorem z7i {n:Nat} (hg:GoodS nx st n):LastS nx st n↔labOf nx st (n-1)=[]:=by
 unfold LastS labOf
 split
 ·rename_i he
  exact⟨fun h=>h _ he.choose_spec,fun h l hl=>by rw[←h];exact hg.2 _ _ _ hl he.choose_spec⟩
 ·rename_i he
  exact⟨fun _=>rfl,fun _ l hl=>absurd ⟨l,hl⟩ he⟩
variable (W : Nat → Nat) (p0 : Nat)
def Sub (a b:Nat):Prop:= ∀s,a.testBit s=true→b.testBit s=true
theorem Sub.refl (a:Nat):Sub a a:=fun _ h=>h
theorem Sub.trans {a b c:Nat} (h:Sub a b) (k:Sub b c):Sub a c:=fun s x=>k s (h s x)
theorem Sub.antisymm {a b:Nat} (h:Sub a b) (k:Sub b a):a=b:=Nat.eq_of_testBit_eq fun s=>by
 rw[w3d];exact⟨h s,k s⟩
theorem Sub.and {a b c:Nat} (h:Sub a b) (k:Sub a c):Sub a (b&&&c):=fun s x=>by rw[Nat.testBit_and,h s x,k s x];rfl
theorem Sub.or {a b c d:Nat} (h:Sub a b) (k:Sub c d):Sub (a|||c) (b|||d):=fun s x=>by
 rw[Nat.testBit_or,w2c] at x⊢;exact x.imp (h s) (k s)
theorem TM (a b:Nat):Sub (a&&&b) a:=fun s x=>by rw[Nat.testBit_and,w0f] at x;exact x.1
theorem z0Q (a b:Nat):Sub (a&&&b) b:=fun s x=>by rw[Nat.testBit_and,w0f] at x;exact x.2
theorem zbH {a b c:Nat} (h:Sub a c) (k:Sub b c):Sub (a|||b) c:=fun s x=>by
 rw[Nat.testBit_or,w2c] at x;exact x.elim (h s) (k s)
theorem Sub.le {a b:Nat} (h:Sub a b):a≤b:=by
 have:a&&&b=a:=Sub.antisymm (TM a b) (Sub.and (.refl a) h)
 rw[←this];exact Nat.and_le_right
def Sol (M:Nat→Nat):Prop:=Sub (M 0) p0∧ ∀i,Rch nx i→ ∀k∈nx i,Sub (M k) (M i|||W i)
def Great (out:Nat→Nat):Prop:=(∀i,¬Rch nx i→out i=0)∧Sol nx W p0 out∧ ∀M,Sol nx W p0 M→ ∀i,Rch nx i→Sub (M i) (out i)
theorem Great.unique {a b:Nat→Nat} (h:Great nx W p0 a) (k:Great nx W p0 b) (i:Nat):a i=b i:=by
 by_cases hr:Rch nx i
 ·exact Sub.antisymm (k.2.2 _ h.2.1 i hr) (h.2.2 _ k.2.1 i hr)
 ·rw[h.1 i hr,k.1 i hr]
noncomputable def mskOf (i:Nat):Nat:=open Classical in if h: ∃o,Great nx W p0 o then h.choose i else 0
theorem Great.is {o:Nat→Nat} (h:Great nx W p0 o) (i:Nat):o i=mskOf nx W p0 i:=by
 unfold mskOf
 rw[dif_pos ⟨o,h⟩]
 exact h.unique nx W p0 (Exists.choose_spec (⟨o,h⟩: ∃o,Great nx W p0 o)) i
theorem Great.le {n a:Nat} {o:Nat→Nat} (h:Great nx W p0 o) (hp:Sub p0 a) (hw: ∀i,Sub (W i) a) (i:Nat):Sub (o i) a:=by
 by_cases hr:Rch nx i
 ·induction hr with
  |zero=>exact h.2.1.1.trans hp
  |step hr hk ih=>exact(h.2.1.2 _ hr _ hk).trans (zbH ih (hw _))
 ·rw[h.1 i hr];intro s hs;simp at hs
end
section
variable {σ : Type} (upd : σ → Nat → Option Nat → σ × Bool)
def procK (i:Nat) (p:σ×List Nat) (k:Nat):σ×List Nat:=((upd p.1 k (some i)).1,if(upd p.1 k (some i)).2 then p.2++[k] else p.2)
def proc (i:Nat) (ks:List Nat) (p:σ×List Nat):σ×List Nat:=ks.foldl (procK upd i) p
theorem zab {i j:Nat} {ks:List Nat} (h:j<ks.length) (p:σ×List Nat):proc upd i (ks.take (j+1)) p=procK upd i (proc upd i (ks.take j) p) ks[j]:=by
 unfold proc;rw[w0d h,List.foldl_append];rfl
theorem zac {i k:Nat} {p:σ×List Nat}:(procK upd i p k).2.length≤p.2.length+1:=by
 unfold procK;simp only;split<;>simp
theorem z6Q {i:Nat}: ∀(ks:List Nat) (p:σ×List Nat),(proc upd i ks p).2.length≤p.2.length+ks.length
 | [],_=>by simp[proc]
 |k::ks,p=>by
  have:=z6Q (i:=i) ks (procK upd i p k)
  have h1:=zac upd (i:=i) (k:=k) (p:=p)
  unfold proc at this⊢
  rw[List.foldl_cons,w2f];omega
end
theorem z6P {σ:Type} (upd:σ→Nat→Option Nat→σ×Bool) (i:Nat) (p:σ×List Nat):proc upd i [] p=p:=rfl
theorem z4q {σ:Type} (upd:σ→Nat→Option Nat→σ×Bool) (i k:Nat) (ks:List Nat) (p:σ×List Nat):proc upd i (k::ks) p=proc upd i ks (procK upd i p k):=rfl
section
variable (nx : Nat → List Nat) (n : Nat)
def updR (s:List Bool) (k:Nat) (_:Option Nat):List Bool×Bool:=(s.set k true,!(s.getD k false))
structure RJ (s:List Bool) (op:List Nat):Prop where
 r:RInv nx n s
 cl: ∀j,s.getD j false=true→j∈op∨ ∀k∈nx j,s.getD k false=true
 o: ∀j∈op,j<n∧s.getD j false=true
 b:op.length+unm s≤n
structure RK (i:Nat) (done:List Nat) (M:Nat) (s:List Bool) (op:List Nat):Prop where
 r:RInv nx n s
 cl: ∀j,s.getD j false=true→j=i∨j∈op∨ ∀k∈nx j,s.getD k false=true
 o: ∀j∈op,j<n∧s.getD j false=true
 b:op.length+unm s+1≤n
 i:s.getD i false=true
 d: ∀k∈done,s.getD k false=true
 m:2*unm s+op.length+1≤M
theorem z6K {s:List Bool} {k:Nat} (h:s.getD k false=true):s.set k true=s:=by
 apply w2b
 intro j
 rw[w38]
 by_cases e:k=j
 ·subst e
  rw[w00] at h
  cases hq:s[k]? with
  |none=>rw[hq] at h;cases h
  |some b=>
   rw[hq] at h
   have:b=true:=h
   subst this
   have:=(w0b.1 hq).1
   simp[this]
 ·simp[e]
theorem RK.k {i k M:Nat} {done:List Nat} {s:List Bool} {op:List Nat} (h:RK nx n i done M s op) (hk:k∈nx i) (hkn:k<n):RK nx n i (done++[k]) M (procK updR i (s,op) k).1 (procK updR i (s,op) k).2:=by
 unfold procK updR
 dsimp only
 by_cases hs:s.getD k false=true
 ·rw[z6K hs,hs]
  exact⟨h.r,h.cl,h.o,h.b,h.i,fun k' hk'=>by rcases w0a.1 hk' with q|q;·exact h.d k' q
                                            ·rw[w16.1 q];exact hs,h.m⟩
 ·have hs':s.getD k false=false:=by simpa using hs
  rw[hs']
  have hkl:k<s.length:=by rw[h.r.len];exact hkn
  have hu:=QF hkl hs'
  refine⟨h.r.set nx h.i hk,fun j hj=> ?_,fun j hj=> ?_,?_,zG h.i,fun k' hk'=> ?_,?_⟩
  ·by_cases e:k=j
   ·subst e;exact .inr (.inl (by simp))
   ·rw[getD_set_ne e] at hj
    rcases h.cl j hj with q|q|q
    ·exact .inl q
    ·exact .inr (.inl (by simp[q]))
    ·exact .inr (.inr fun k' hk'=>zG (q k' hk'))
  ·simp only[Bool.not_false,if_true,w0a,w16] at hj
   rcases hj with q|rfl
   ·exact⟨(h.o j q).1,zG (h.o j q).2⟩
   ·exact⟨hkn,zS hkl⟩
  ·simp only[Bool.not_false,if_true,w05,w19]
   have:=h.b;omega
  ·rcases w0a.1 hk' with q|q
   ·exact zG (h.d k' q)
   ·rw[w16.1 q];exact zS hkl
  ·simp only[Bool.not_false,if_true,w05,w19]
   have:=h.m;omega
theorem RK.all {i M:Nat}: ∀{ks done:List Nat} {s:List Bool} {op:List Nat},RK nx n i done M s op→(∀k∈ks,k∈nx i∧k<n)→RK nx n i (done++ks) M (proc updR i ks (s,op)).1 (proc updR i ks (s,op)).2
 | [],done,s,op,h,_=>by rw[w1f,z6P];exact h
 |k::ks,done,s,op,h,hk=>by
  have h1:=h.k nx n (hk k w24).1 (hk k w24).2
  have:=RK.all h1 (fun k' hk'=>hk k' (w26 _ hk'))
  rw[w13,List.singleton_append] at this
  rw[z4q];exact this
theorem RJ.pop {s:List Bool} {op:List Nat} {i:Nat} (h:RJ nx n s (op++[i])):RK nx n i [] (2*unm s+(op++[i]).length) s op:=by
 refine⟨h.r,fun j hj=> ?_,fun j hj=>h.o j (w4b _ hj),?_,(h.o i (by simp)).2,fun k hk=>(by cases hk),?_⟩
 ·rcases h.cl j hj with q|q
  ·rcases w0a.1 q with q|q
   ·exact .inr (.inl q)
   ·exact .inl (w16.1 q)
  ·exact .inr (.inr q)
 ·have:=h.b;simp at this;omega
 ·simp;omega
theorem RJ.next (hnx: ∀i,i<n→ ∀k∈nx i,k<n) {s:List Bool} {op:List Nat} {i:Nat} (h:RJ nx n s (op++[i])):
  RJ nx n (proc updR i (nx i) (s,op)).1 (proc updR i (nx i) (s,op)).2∧2*unm (proc updR i (nx i) (s,op)).1+(proc updR i (nx i) (s,op)).2.length<2*unm s+(op++[i]).length:=by
 have hi:=(h.o i (by simp)).1
 have:=RK.all nx n (h.pop nx n) (ks:=nx i) (fun k hk=>⟨hk,hnx i hi k hk⟩)
 rw[w32] at this
 refine⟨⟨this.r,fun j hj=> ?_,this.o,by have:=this.b;omega⟩,by have:=this.m;omega⟩
 rcases this.cl j hj with q|q|q
 ·subst q;exact .inr this.d
 ·exact .inl q
 ·exact .inr q
theorem RJ.done {s:List Bool} (h:RJ nx n s []) (i:Nat):s.getD i false=true↔Rch nx i:=
 h.r.all nx (fun j hj=>(h.cl j hj).elim (fun q=>by cases q) id) i
theorem RJ.start (hn:0<n):RJ nx n ((List.replicate n false).set 0 true) [0]:=by
 have hl:0<(List.replicate n false).length:=by simpa using hn
 have hg: ∀j,(List.replicate n false).getD j false=false:=fun j=>by
  simp only[w00,w3b];split<;>rfl
 have hu:unm (List.replicate n false)=n:=by unfold unm;rw[List.filter_eq_self.2 (by simp)];simp
 have h1:=QF hl (hg 0)
 refine⟨⟨by simp,zS hl,fun j hj=> ?_⟩,fun j hj=> ?_,fun j hj=> ?_,?_⟩
 ·by_cases e:0=j
  ·subst e;exact .zero
  ·rw[getD_set_ne e,hg] at hj;cases hj
 ·by_cases e:0=j
  ·subst e;exact .inl (by simp)
  ·rw[getD_set_ne e,hg] at hj;cases hj
 ·rw[w16.1 hj];exact⟨hn,zS hl⟩
 ·simp only[w19];omega
def ledK (p:List Bool×Bool) (k:Nat):List Bool×Bool:=if p.1.getD k false then p else(p.1.set k true,true)
def ledI (p:List Bool×Bool) (i:Nat):List Bool×Bool:=if p.1.getD i false then(nx i).foldl ledK p else p
def ledR (s:List Bool):Nat→List Bool×Bool
 |0=>(s,false)
 |i+1=>ledI nx (ledR s i) i
structure LK (s:List Bool) (j:Nat) (p:List Bool×Bool):Prop where
 r:RInv nx n p.1
 le:unm p.1≤unm s
 eq:p.2=false→p.1=s∧ ∀i,i<j→s.getD i false=true→ ∀k∈nx i,s.getD k false=true
 lt:p.2=true→unm p.1<unm s
theorem z0G {s:List Bool} {j i:Nat}: ∀{ks done:List Nat} {p:List Bool×Bool},LK nx n s j p→p.1.getD i false=true→(∀k∈ks,k∈nx i∧k<n)→(p.2=false→ ∀k∈done,s.getD k false=true)→
  LK nx n s j (ks.foldl ledK p)∧(ks.foldl ledK p).1.getD i false=true∧((ks.foldl ledK p).2=false→ ∀k∈done++ks,s.getD k false=true)
 | [],done,p,h,hi,_,hd=>⟨h,hi,by rw[w1f];exact hd⟩
 |k::ks,done,p,h,hi,hk,hd=>by
  have hkk:=hk k w24
  have h1:LK nx n s j (ledK p k)∧(ledK p k).1.getD i false=true∧((ledK p k).2=false→ ∀k'∈done++[k],s.getD k' false=true):=by
   unfold ledK
   split
   ·rename_i hs
    refine⟨h,hi,fun e k' hk'=> ?_⟩
    rcases w0a.1 hk' with q|q
    ·exact hd e k' q
    ·rw[w16.1 q,←(h.eq e).1];exact hs
   ·rename_i hs
    have hs':p.1.getD k false=false:=by simpa using hs
    have hkl:k<p.1.length:=by rw[h.r.len];exact hkk.2
    have hu:=QF hkl hs'
    have hle:=h.le
    exact⟨⟨h.r.set nx hi hkk.1,by simp only;omega,fun e=>(by cases e),fun _=>(by simp only;omega)⟩,zG hi,fun e=>(by cases e)⟩
  have:=z0G h1.1 h1.2.1 (fun k' hk'=>hk k' (w26 _ hk')) h1.2.2
  rw[w13,List.singleton_append] at this
  exact this
theorem QY (hnx: ∀i,i<n→ ∀k∈nx i,k<n) {s:List Bool} (h:RInv nx n s): ∀j,j≤n→LK nx n s j (ledR nx s j)
 |0,_=>⟨h,w09 _,fun _=>⟨rfl,fun i hi=>absurd hi (w35 _)⟩,fun e=>by cases e⟩
 |j+1,hj=>by
  have ih:=QY hnx h j (by omega)
  unfold ledR ledI
  split
  ·rename_i hs
   obtain⟨q1,q2,q3⟩:=z0G nx n ih hs (ks:=nx j) (done:=[]) (fun k hk=>⟨hk,hnx j (by omega) k hk⟩) (fun _ k hk=>by cases hk)
   refine⟨q1.r,q1.le,fun e=>⟨(q1.eq e).1,fun i hi=> ?_⟩,q1.lt⟩
   by_cases hij:i=j
   ·subst hij;intro _;exact q3 e
   ·exact(q1.eq e).2 i (by omega)
  ·rename_i hs
   refine⟨ih.r,ih.le,fun e=>⟨(ih.eq e).1,fun i hi hsi=> ?_⟩,ih.lt⟩
   by_cases hij:i=j
   ·subst hij;rw[←(ih.eq e).1] at hsi;exact absurd hsi hs
   ·exact(ih.eq e).2 i (by omega) hsi
theorem zao (hnx: ∀i,i<n→ ∀k∈nx i,k<n) {s:List Bool} (h:RInv nx n s) (e:(ledR nx s n).2=false) (i:Nat):s.getD i false=true↔Rch nx i:=by
 have:=(QY nx n hnx h n (w09 _)).eq e
 refine h.all nx (fun j hj=>this.2 j ?_ hj) i
 rw[w00] at hj
 rcases w3c j s.length with q|q
 ·rw[←h.len];exact q
 ·rw[w18 q] at hj;cases hj
theorem RInv.start (hn:0<n):RInv nx n ((List.replicate n false).set 0 true):=(RJ.start nx n hn).r
end
end Go.Vs
end
section
namespace Go.Proofs.W
open Go.Vs
set_option linter.unusedSimpArgs false
set_option maxRecDepth 100000
theorem Wx (s l k st n:Nat):evLen (.grow s l k st n)=some (.int .i64 n):=rfl
theorem z08 (s s' l k st n:Nat) (i:AV):evIaddr s (.grow s' l k st n) i=(idx i n).map fun j=> .ptr l k st (j*s):=rfl
theorem z07 (s s' l k st n:Nat) (hi:AV):evSlice s (.grow s' l k st n) none (some hi) none=(bound (some hi) n n).map fun h=> .grow s' l k st h:=by
 simp only[evSlice]
 cases bound (some hi) n n<;>simp[bound]
theorem zcx {S':List (List Blk)} {st nx fl n:Nat} {cs:List AV} {rest:List Blk} {live:List (List Nat)} {v:AV} (hv:v.cells=[v]) (hn:n≤cs.length) (hfl:fl≤S'.length) (hb:(n+1)*8≤140737488355328):
  evApp ⟨S',⟨st,cs⟩::rest,nx,live,fl⟩ 1 8 (.grow 1 S'.length 0 st n) (.list 1 .full [v])=some (.grow 1 S'.length 0 nx (n+1),⟨S',⟨nx,cs.take n++[v]⟩::rest,nx+1,live,fl⟩):=by
 unfold evApp
 rw[zh]
 have hblk:Mem.blk ⟨S',⟨st,cs⟩::rest,nx,live,fl⟩ S'.length 0 st=some cs:=by simp[Mem.blk,Mem.row]
 simp only[hblk]
 rw[if_pos (by simp[hn,hfl];omega)]
 simp[Mem.put,hv]
def frm:Option Nat→Int
 |none=> -1
 |some i=>i
def Meets {σ:Type} (S:List (List Blk)) (C:σ→List Blk) (f:AV) (fl:Nat) (P:σ→Nat→Option Nat→Prop) (upd:σ→Nat→Option Nat→σ×Bool):Prop:=
 ∃g first caps,f= .fn (.func g) first caps∧ ∀s k fr c nz lv,P s k fr→ ∃nz',CALL tab g (first++[.int .i64 (k:Nat),.int .i64 (frm fr)]++caps) ⟨S++[C s],c,nz,lv,fl⟩=some (.bool (upd s k fr).2,⟨S++[C (upd s k fr).1],c,nz',lv,fl⟩)
theorem zcM {lo:Nat} {S':List (List Blk)} {cur:List Blk} {y:AV} {l:List Nat} (h:LI lo S'.length cur y l) {j:Nat} (hj:j<l.length) {nx fl:Nat} {live:List (List Nat)}:
  ∃a,evIaddr 1 y (.int .i64 (j:Nat))=some a∧(Mem.at ⟨S',cur,nx,live,fl⟩ a).bind (fun cs=>(takeV false 1 cs))=some (.int .i64 (l[j]:Nat)):=by
 rcases h with⟨h,_⟩|⟨k,st,cs,rfl,h2,h3,h4,_⟩
 ·have e1:nth y j= .int .i64 (l[j]:Nat):=h.nth hj
  exact⟨_,h.at .i64 hj,by rw[e1];rfl⟩
 ·refine⟨.ptr S'.length k st (j*1),?_,?_⟩
  ·simp only[evIaddr,zB .i64 j l.length hj,w0e]
  ·simp only[Mem.at,Mem.blk,Mem.row,beq_self_eq_true,if_true,h2,w0e,w34,w10]
   exact YG h4 h3 hj
theorem zea {lv lo:Nat} {a b:Blk} {r:List Blk} {y:AV} {l:List Nat} (h:LI (lo+1) lv (a::r) y l):LI (lo+1) lv (b::r) y l:=by
 rcases h with h|⟨k,st,cs,h1,h2,h3,h4,h5⟩
 ·exact .inl h
 ·cases k with
  |zero=>omega
  |succ k=>exact .inr ⟨k+1,st,cs,h1,h2,h3,h4,h5⟩
theorem z9O {tab:Nat→Option AFunc} {o:Option (List AV)} {f:List AV→Option AV} {m:Mem} {d:Option Nat} {l:List AOper} {ρ:List AV} {k:Kont} {v:AV} (h:o.bind f=some v) (q:Xs tab l (setDst ρ d v) m k):Xv tab (o.bind fun cs=>(f cs).map fun v=>(v,m)) d l ρ k:=by
 cases o with
 |none=>cases h
 |some cs=>simp only[w34] at h⊢;rw[h];simp only[w0e];rw[qT];exact q
theorem z6h {σ:Type} (l:List DInstr) (x:AV) (hx:IsSl IsInstr 4 l x) (hjm: ∀j,j<l.length→Jmp (inA l j)) (S:List (List Blk)) (C:σ→List Blk) (f:AV) (fl:Nat) (hfl:fl≤S.length) (P:σ→Nat→Option Nat→Prop) (upd:σ→Nat→Option Nat→σ×Bool)
  (hf:Meets S C f fl P upd) (J:σ→List Nat→Prop) (μ:σ→List Nat→Nat) (s0:σ) (hP0:P s0 0 none) (hJ0:J (upd s0 0 none).1 [0]) (hlen: ∀s op,J s op→op.length≤1000000000) (hop: ∀s op,J s op→ ∀i∈op,i<l.length)
  (hP: ∀s op i,J s (op++[i])→ ∀j (hj:j<(nxt l i).length),P (proc upd i ((nxt l i).take j) (s,op)).1 (nxt l i)[j] (some i))
  (hnext: ∀s op i,J s (op++[i])→J (proc upd i (nxt l i) (s,op)).1 (proc upd i (nxt l i) (s,op)).2∧μ (proc upd i (nxt l i) (s,op)).1 (proc upd i (nxt l i) (s,op)).2<μ s (op++[i]))
  (nx:Nat) (live:List (List Nat)): ∃s' n',CALL tab qQ [x,f] ⟨S,C s0,nx,live,fl⟩=some (.tup [],⟨S,C s',n',live,fl⟩)∧J s' []:=by
 suffices h:Does tab qQ [x,f] ⟨S,C s0,nx,live,fl⟩ fun v m'=> ∃s' n',v= .tup []∧m'=⟨S,C s',n',live,fl⟩∧J s' [] by
  obtain⟨z,h1,s',n',h2,h3,h4⟩:=h
  exact⟨s',n',by rw[h1,←h2,←h3],h4⟩
 refine yn z3G ?_ (w1c rfl)
 obtain⟨g,first,caps,rfl,hcall⟩:=hf
 have hmx:=hx.max
 have hl: ∀s,(S++[C s]).length=S.length+1:=fun s=>by simp
 obtain⟨n1,hc0⟩:=hcall s0 0 none [] nx ([]::live) hP0
 replace hc0:CALL tab g (first++[.int .i64 0,.int .i64 (-1)]++caps) ⟨S++[C s0],[],nx,[]::live,fl⟩=some (.bool (upd s0 0 none).2,⟨S++[C (upd s0 0 none).1],[],n1,[]::live,fl⟩):=hc0
 simp only[YQ,List.map,go_sem,reduceCtorEq,G3,G0,G2,hc0,evLitB,w31,List.flatMap_nil,hl]
 refine za (α:=σ×List Nat) (fun z σ'=>J z.1 z.2∧ ∃nz st cs,z.2.length≤cs.length∧cs.take z.2.length=ints z.2∧heads [0,1,4] 1 σ'=⟨tmps 42 [(0,x),(1,.fn (.func g) first caps),(4,.grow 1 (S.length+1) 0 st z.2.length)],⟨S++[C z.1],[⟨st,cs⟩],nz,[]::live,fl⟩⟩) (fun z=>μ z.1 z.2) ((upd s0 0 none).1,[0]) ?_ ?_
 ·refine⟨hJ0,?_⟩
  simp only[go_sem,reduceCtorEq,G0,G1]
  exact⟨_,_,_,by simp,rfl,rfl⟩
 ·rintro⟨s,op⟩ σ' ⟨hJ,nz,st,cs,hcs,htk,hσ⟩
  rw[hσ]
  clear hσ σ'
  dsimp only at hJ hcs htk⊢
  rcases List.eq_nil_or_concat op with rfl|⟨op,i,rfl⟩
  ·simp only[go_sem,reduceCtorEq,G0,G1,G2,Wx,w30,show((((0:Nat):Int))>0)=False from eq_false (by decide)]
   rw[x9 rfl rfl,z8]
   exact⟨s,_,rfl,rfl,hJ⟩
  ·rw[List.concat_eq_append] at*
   have hi:i<l.length:=hop _ _ hJ i (by simp)
   have hol:=hlen _ _ hJ
   have hn:(op++[i]).length=op.length+1:=by simp
   rw[hn] at hcs htk hol
   have hgt:(((op.length+1:Nat):Int)>0)=True:=eq_true (by omega)
   have hsub:IntKind.i64.wrap (((op.length+1:Nat):Int)-1)=((op.length:Nat):Int):=by rw[zb (by omega) (by omega)];omega
   have hix:idx (.int .i64 ((op.length:Nat):Int)) (op.length+1)=some op.length:=zB .i64 _ _ (by omega)
   have hld:takeV false 1 (cs.drop op.length)=some (.int .i64 (i:Nat)):=by
    have h1:cs.take (op++[i]).length=ints (op++[i]):=by rw[hn];exact htk
    have:=YG h1 (by rw[hn];exact hcs) (j:=op.length) (by simp)
    simpa using this
   have hbd:bound (some (.int .i64 ((op.length:Nat):Int))) (op.length+1) (op.length+1)=some op.length:=by
    unfold bound;simp only;rw[if_pos (by omega)];simp
   have htk2:cs.take op.length=ints op:=by
    have:(cs.take (op.length+1)).take op.length=(ints (op++[i])).take op.length:=by rw[htk]
    rw[List.take_take,Nat.min_eq_left (by omega)] at this
    rw[this];simp[ints]
   obtain⟨y,bs,k1,hB,hLI⟩:=z6j l x hx i hi (hjm i hi) ⟨S++[C s],[⟨st,cs⟩],nz,[]::live,fl⟩ (by simp;omega)
   simp only[id,hl] at hB hLI
   have hyl:=hLI.len
   simp only[go_sem,reduceCtorEq,G0,G1,G2,Wx,hn,hgt,hsub,z08,hix,hl,w10,hld,z07,hbd,hB,hyl]
   obtain⟨hJn,hμ⟩:=hnext s op i hJ
   refine za (α:=Nat) (fun j σ'=>j≤(nxt l i).length∧ ∃nz st cs,(proc upd i ((nxt l i).take j) (s,op)).2.length≤cs.length∧cs.take (proc upd i ((nxt l i).take j) (s,op)).2.length=ints (proc upd i ((nxt l i).take j) (s,op)).2∧LI 1 (S.length+1) (⟨st,cs⟩::bs) y (nxt l i)∧
    heads [0,1,4,5,27,28,29] (bs.length+1) σ'=⟨tmps 42 [(0,x),(1,.fn (.func g) first caps),(4,.grow 1 (S.length+1) 0 st (proc upd i ((nxt l i).take j) (s,op)).2.length),(5,.int .i64 i),(27,y),(28,.int .i64 (nxt l i).length),(29,.int .i64 j)],⟨S++[C (proc upd i ((nxt l i).take j) (s,op)).1],⟨st,cs⟩::bs,nz,[]::live,fl⟩⟩) (fun j=>(nxt l i).length-j) 0 ?_ ?_
   ·refine⟨w06 _,?_⟩
    simp only[go_sem,reduceCtorEq,G0,G1,w08,w21,proc,List.foldl_nil]
    exact⟨_,_,_,by omega,htk2,hLI,rfl⟩
   ·rintro j σ' ⟨hj,nz,st,cs,hcs,htk,hLI,hσ⟩
    rw[hσ]
    clear hσ σ'
    dsimp only at hj hcs htk⊢
    by_cases h:j<(nxt l i).length
    ·have hp:=hP s op i hJ j h
     have hpl:=z6Q upd (i:=i) ((nxt l i).take j) (s,op)
     have hstep:=zab upd (i:=i) h (s,op)
     have hn2:=QQ l i
     rw[w1a] at hpl
     dsimp only at hpl
     generalize proc upd i ((nxt l i).take j) (s,op)=pr at*
     obtain⟨s1,o1⟩:=pr
     dsimp only at hcs htk hp hpl
     have hlt:((j:Int)<((nxt l i).length:Nat))=True:=eq_true (by omega)
     have hsu:IntKind.i64.wrap ((j:Int)+1)=((j+1:Nat):Int):=by rw[zb (by omega) (by omega)];omega
     have hLI':LI 1 (S++[C s1]).length (⟨st,cs⟩::bs) y (nxt l i):=by rw[hl];exact hLI
     obtain⟨a,ha,hat⟩:=zcM hLI' h (nx:=nz) (fl:=fl) (live:=[]::live)
     simp only[go_sem,reduceCtorEq,G0,G1,G2,hlt,ha]
     refine z9O hat ?_
     obtain⟨n2,hc⟩:=hcall s1 (nxt l i)[j] (some i) (⟨st,cs⟩::bs) nz ([]::live) hp
     simp only[frm] at hc
     simp only[go_sem,reduceCtorEq,G0,G2,hc]
     cases hb:(upd s1 (nxt l i)[j] (some i)).2
     ·simp only[go_sem,reduceCtorEq,G0,G2,hsu,w08]
      refine⟨j+1,by omega,h,n2,st,cs,?_⟩
      rw[hstep]
      unfold procK
      dsimp only
      rw[hb]
      exact⟨hcs,htk,hLI,rfl⟩
     ·have happ:=zcx (S':=S++[C (upd s1 (nxt l i)[j] (some i)).1]) (st:=st) (nx:=n2) (fl:=fl) (n:=o1.length) (cs:=cs) (rest:=bs) (live:=[]::live) (v:= .int .i64 ((nxt l i)[j]:Nat)) rfl hcs (by simp;omega) (by omega)
      rw[hl] at happ
      simp only[go_sem,reduceCtorEq,G0,G2,happ,hsu,w08]
      refine⟨j+1,by omega,h,n2+1,n2,cs.take o1.length++[.int .i64 ((nxt l i)[j]:Nat)],?_⟩
      rw[hstep]
      unfold procK
      dsimp only
      rw[hb]
      simp only[if_true,w05,w19,w1a]
      refine⟨by omega,?_,zea hLI,trivial⟩
      rw[htk,w53 (by simp[ints])]
      simp[ints]
    ·have hje:j=(nxt l i).length:=by omega
     subst hje
     rw[w08] at hcs htk⊢
     simp only[go_sem,reduceCtorEq,G0,G1,G2,show(((nxt l i).length:Nat):Int)<((nxt l i).length:Nat)↔False from⟨fun h=>by omega,False.elim⟩,w21]
     refine⟨proc upd i (nxt l i) (s,op),hμ,hJn,nz,st,cs,hcs,htk,rfl⟩
noncomputable def err07 (l:List DInstr):Int:=if pb (Ok07 l) then 0 else 8
theorem ZH {l:List DInstr} (h:Ok07 l):err07 l=0:=by unfold err07;rw[zF h];rfl
theorem Zl {l:List DInstr} (h: ¬Ok07 l):err07 l=8:=by unfold err07;rw[zg h];rfl
structure CodeP (l:List DInstr):Prop where
 len:1≤l.length∧l.length≤200
 p: ∀x∈l,InstrP x
 w: ∀x∈l,WfI x∧inU8 x.op
theorem CodeP.at {l:List DInstr} (h:CodeP l) {j:Nat} (hj:j<l.length):InstrP (inA l j)∧WfI (inA l j)∧inU8 (inA l j).op:=by
 rw[←z9H hj];exact⟨h.p _ (w04 hj),h.w _ (w04 hj)⟩
def iEnd:DInstr:=⟨34,-1,0,0⟩
theorem z7G (x:DInstr):eqAt [(0,1),(1,1),(2,1),(3,1)] [.int .u8 x.op,.int .i64 x.a,.int .i64 x.b,.int .i64 x.c] [.int .u8 34,.int .i64 (-1),.int .i64 0,.int .i64 0]=some (decide (x=iEnd)):=by
 obtain⟨o,a,b,c⟩:=x
 simp only[eqAt,eqCell,List.getD_cons_zero,List.getD_cons_succ,sameKind,if_true]
 by_cases h1:o=34
 ·by_cases h2:a= -1
  ·by_cases h3:b=0
   ·by_cases h4:c=0
    ·subst h1;subst h2;subst h3;subst h4;rfl
    ·have e4:(c==0)=false:=by simpa using h4
     subst h1;subst h2;subst h3
     simp only[beq_self_eq_true,e4]
     rw[decide_eq_false (by unfold iEnd;simp[h4])]
   ·have e3:(b==0)=false:=by simpa using h3
    subst h1;subst h2
    simp only[beq_self_eq_true,e3]
    rw[decide_eq_false (by unfold iEnd;simp[h3])]
  ·have e2:(a== -1)=false:=by simpa using h2
   subst h1
   simp only[beq_self_eq_true,e2]
   rw[decide_eq_false (by unfold iEnd;simp[h2])]
 ·have e1:(o==34)=false:=by simpa using h1
  simp only[e1]
  rw[decide_eq_false (by unfold iEnd;simp[h1])]
theorem Z0 (l:List DInstr) (x:AV) (hx:IsSl IsInstr 4 l x) (hc:CodeP l) (m:Mem) (hf:m.floor≤m.stk.length+1):Okv tab vB [x] m (.int .i64 (err07 l)):=by
 refine ze z5o ?_
 obtain⟨stk,cur,nx,live,fl⟩:=m
 dsimp only at hf
 have hf':fl≤(stk++[cur]).length+1:=by simp;omega
 have hmx:=hx.max
 have hln:=hc.len
 have e0:((l.length:Int)==0)=false:=by rw[beq_eq_false_iff_ne];omega
 have hsub:IntKind.i64.wrap ((l.length:Int)-1)=((l.length-1:Nat):Int):=by rw[zb (by omega) (by omega)];omega
 have hlast:=hx.at .i64 (show l.length-1<l.length by omega)
 have elast:=hx.inA (show l.length-1<l.length by omega)
 simp only[WG,List.map,go_sem,reduceCtorEq,G3,G0,G4,G2,hx.len,e0,show¬((l.length:Int)>200) by omega,hsub,hlast,elast,evBuild,z7G]
 by_cases hE:inA l (l.length-1)=iEnd
 case neg=>
  simp only[go_sem,reduceCtorEq,G0,G2,hE]
  rw[z6 rfl rfl,z8]
  exact⟨⟨_,rfl⟩,by rw[Zl fun h=>hE h.2]⟩
 simp only[go_sem,reduceCtorEq,G0,G2,hE,hx.len]
 refine za (α:=Nat) (fun i σ=>(i≤l.length∧ ∀j,j<i→((inA l j).op=22→(inA l j).a<l.length)∧((inA l j).op=23→(inA l j).b<l.length))∧ ∃nz,heads [3,23,24,25] 0 σ=⟨tmps 53 [(3,.int .i64 l.length),(23,x),(24,.int .i64 l.length),(25,.int .i64 i)],⟨stk++[cur],[],nz,[]::live,fl⟩⟩) (fun i=>l.length-i) 0 ?_ ?_
 ·refine⟨⟨w06 _,fun j h=>absurd h (w35 _)⟩,?_⟩
  simp only[go_sem,reduceCtorEq,G0,G1]
  exact⟨_,rfl⟩
 ·rintro i σ ⟨⟨hi,ht⟩,nz,hσ⟩
  rw[hσ]
  clear hσ σ
  dsimp only at hi ht⊢
  by_cases h:i<l.length
  ·obtain⟨c1,c2,c3⟩:=hc.at h
   have hC:=fun c nz=>(Y4 (inA l i) ⟨stk++[cur],c,nz,[]::live,fl⟩ hf').eq
   rw[kK c1] at hC
   have hsucc:=zd h hmx
   simp only[go_sem,G3,G0,G1,G2,w02,h,hx.at _ h,hx.inA h,hC,show((0:Int) !=0)=false from rfl]
   repeat' (((first|refine zp ?_ ?_|refine zk ?_ ?_|refine zl ?_ ?_|refine zi ?_ ?_|refine zj ?_ ?_)<;>intro hq)<;>simp only[go_sem,G0,G2,hq,hsucc])
   all_goals first
    |(rw[z6 rfl rfl,z8];refine⟨⟨_,rfl⟩,?_⟩;rw[Zl fun h'=> ?_];have:=h'.1 i h;simp only[beq_iff_eq,beq_eq_false_iff_ne,ne_eq,decide_eq_true_eq,decide_eq_false_iff_not] at*;omega)
    |(refine⟨i+1,by omega,⟨by omega,fun j hj=> ?_⟩,_,rfl⟩
      rcases w3c j i with q|q
      ·exact ht j q
      ·have:j=i:=by omega
       subst this
       simp only[beq_iff_eq,beq_eq_false_iff_ne,ne_eq,decide_eq_false_iff_not] at*
       omega)
  ·have:i=l.length:=by omega
   subst this
   simp only[go_sem,G0,G1,G2,w02,h]
   rw[z6 rfl rfl,z8]
   exact⟨⟨_,rfl⟩,by rw[ZH ⟨ht,hE⟩]⟩
theorem Q0 (l:List DInstr) (x:AV) (hx:IsSl IsInstr 4 l x) (hc:CodeP l) (m:Mem):Okv tab yA [x] m (.int .i64 (err07 l)):=by
 refine ze V2 ?_
 obtain⟨stk,cur,nx,live,fl⟩:=m
 have hmx:=hx.max
 have hln:=hc.len
 simp only[uY,List.map,go_sem,reduceCtorEq,G0,G2,hx.len,show¬((l.length:Int)<1) by omega,show¬((l.length:Int)>200) by omega]
 refine za (α:=Nat) (fun i σ=>(i≤l.length∧ ∀j,j<i→((inA l j).op=22→(inA l j).a<l.length)∧((inA l j).op=23→(inA l j).b<l.length))∧ ∃nz,heads [0,3] 0 σ=⟨tmps 58 [(0,x),(3,.int .i64 i)],⟨stk++[cur],[],nz,[]::live,fl⟩⟩) (fun i=>l.length-i) 0 ?_ ?_
 ·refine⟨⟨w06 _,fun j h=>absurd h (w35 _)⟩,?_⟩
  simp only[go_sem,reduceCtorEq,G0,G1]
  exact⟨_,rfl⟩
 ·rintro i σ ⟨⟨hi,ht⟩,nz,hσ⟩
  rw[hσ]
  clear hσ σ
  dsimp only at hi ht⊢
  by_cases h:i<l.length
  ·obtain⟨c1,c2,c3⟩:=hc.at h
   have hC:=fun m=>(Q1 (inA l i) c2 m).eq
   rw[kK c1] at hC
   have hsucc:=zd h hmx
   have hlx:=hx.len
   simp only[go_sem,reduceCtorEq,G3,G0,G1,G2,w02,h,hx.len,hx.at _ h,hx.inA h,hC,show((0:Int) !=0)=false from rfl]
   repeat' (((first|refine zp ?_ ?_|refine zk ?_ ?_|refine zl ?_ ?_|refine zi ?_ ?_|refine zj ?_ ?_)<;>intro hq)<;>simp only[go_sem,reduceCtorEq,G0,G2,hq,hsucc,hlx])
   all_goals first
    |(rw[z6 rfl rfl,z8];refine⟨⟨_,rfl⟩,?_⟩;rw[Zl fun h'=> ?_];have:=h'.1 i h;simp only[beq_iff_eq,beq_eq_false_iff_ne,ne_eq,decide_eq_true_eq,decide_eq_false_iff_not] at*;omega)
    |(refine⟨i+1,by omega,⟨by omega,fun j hj=> ?_⟩,_,rfl⟩
      rcases w3c j i with q|q
      ·exact ht j q
      ·have:j=i:=by omega
       subst this
       simp only[beq_iff_eq,beq_eq_false_iff_ne,ne_eq,decide_eq_false_iff_not] at*
       omega)
  ·have:i=l.length:=by omega
   subst this
   have hsub:IntKind.i64.wrap ((l.length:Int)-1)=((l.length-1:Nat):Int):=by rw[zb (by omega) (by omega)];omega
   have hlast:=hx.at .i64 (show l.length-1<l.length by omega)
   have elast:=hx.inA (show l.length-1<l.length by omega)
   simp only[go_sem,reduceCtorEq,G3,G0,G4,G1,G2,w02,h,hx.len,hsub,hlast,elast,evBuild,z7G]
   by_cases hE:inA l (l.length-1)=iEnd
   ·simp only[go_sem,reduceCtorEq,G0,G2,hE]
    rw[z6 rfl rfl,z8]
    exact⟨⟨_,rfl⟩,by rw[ZH ⟨ht,hE⟩]⟩
   ·simp only[go_sem,reduceCtorEq,G0,G2,hE]
    rw[z6 rfl rfl,z8]
    exact⟨⟨_,rfl⟩,by rw[Zl fun h=>hE h.2]⟩
theorem Wu {x:DInstr} (h:InstrP x):Jmp x:=by
 obtain⟨a,b,c,hs,f1,f2,f3⟩:=h
 refine⟨fun e=> ?_,fun e=> ?_⟩
 ·rw[e] at hs
  have:shp 22=[105,45,45]:=by decide
  rw[this] at hs
  injection hs with hs _
  subst hs
  have:lo 105=0:=by decide
  unfold fitsK at f1;omega
 ·rw[e] at hs
  have:shp 23=[114,105,45]:=by decide
  rw[this] at hs
  injection hs with _ hs
  injection hs with hs _
  subst hs
  have:lo 105=0:=by decide
  unfold fitsK at f2;omega
theorem UI {l:List DInstr} (hc:CodeP l) (h:Ok07 l) {i:Nat} (hi:i<l.length): ∀k∈nxt l i,k<l.length:=by
 have hj:=Wu (hc.at hi).1
 have h1:=h.1 i hi
 have hne:(inA l i).op≠34→i+1<l.length:=fun e=>by
  by_cases hl:i=l.length-1
  ·have:=h.2;rw[←hl] at this;rw[this] at e;exact absurd rfl e
  ·omega
 intro k hk
 unfold nxt nxt1 at hk
 split at hk
 ·cases hk
 ·rename_i a0
  have:=hne (fun e=>a0 (.inl e))
  split at hk
  ·rename_i a1
   have:=h1.1 a1
   have:=hj.1 a1
   rw[w16.1 hk];omega
  ·split at hk
   ·rename_i a2
    have:=h1.2 a2
    have:=hj.2 a2
    split at hk
    ·rw[w16.1 hk];omega
    ·simp only[w36,List.not_mem_nil,or_false] at hk
     rcases hk with rfl|rfl<;>omega
   ·rw[w16.1 hk];omega
theorem zev (l:List DInstr) (x:AV) (hx:IsSl IsInstr 4 l x) (hc:CodeP l) (h7:Ok07 l) (i:Nat) (hi:i<l.length) (m:Mem) (hf:m.floor≤m.stk.length+1):CallLI Tt [x,.int .i64 i] (nxt l i) (fun y=> .tup [y,.int .i64 0]) m:=by
 refine z4T z6G ?_
 obtain⟨stk,cur,nx,live,fl⟩:=m
 dsimp only at hf
 have hf':fl≤(stk++[cur]).length+1:=by simp;omega
 have hC:=fun c nz=>(Z0 l x hx hc ⟨stk++[cur],c,nz,[]::live,fl⟩ hf').eq
 rw[ZH h7] at hC
 simp only[Tq,List.map,go_sem,reduceCtorEq,G3,G0,G2,hC,show((0:Int) !=0)=false from rfl,hx.len,show¬((i:Int)<0) by omega,show¬((i:Int)≥(l.length:Nat)) by omega]
 obtain⟨y,bs,k,h1,h2⟩:=z6j l x hx i hi (Wu (hc.at hi).1) ⟨stk++[cur],[],callNx tab vB [x] ⟨stk++[cur],[],nx,[]::live,fl⟩,[]::live,fl⟩ hf'
 simp only[id,w32] at h1 h2
 simp only[go_sem,reduceCtorEq,G0,G2,h1]
 rcases h2 with⟨h2,h3⟩|⟨q,st,cs,rfl,h3,h4,h5,_⟩
 ·rw[Wt (by simp only[AV.refs,refsAny,h2.refs];rfl) (by simp only[AV.toks,toksAll,h3];rfl),z8]
  exact⟨y,[],_,rfl,rfl,.inl ⟨h2,h3⟩⟩
 ·obtain⟨bs',hbs,hbe⟩:=T3 (m0:=⟨stk,cur,nx,live,fl⟩) (stk:=stk) (cur:=cur) (c':=bs) (nx':=k) (own:=[]) (live':=live) (fl':=fl) (k:=q) (st:=st) (s:=1) (n:=(nxt l i).length) (w:=fun y=> .tup [y,.int .i64 0]) (.inr rfl)
  rw[hbs,z8]
  exact⟨_,bs',_,rfl,rfl,z3n hbe h3 h4 h5⟩
def bools (s:List Bool):List AV:=s.map .bool
theorem qB (s:List Bool):(bools s).length=s.length:=by simp[bools]
theorem vo {s:List Bool} {j:Nat} (h:j<s.length):takeV false 1 ((bools s).drop j)=some (.bool (s.getD j false)):=by
 refine li _ _ ?_
 rw[List.head?_drop]
 simp[bools,w00,h]
theorem qA {s:List Bool} {j:Nat} (v:Bool) (h:j<s.length):(bools s).take j++[.bool v]++(bools s).drop (j+1)=bools (s.set j v):=by
 unfold bools
 rw[List.map_set,w59,if_pos (by simpa using h)];simp
theorem XF (n:Nat):flatRep [.bool false] n=bools (List.replicate n false):=by
 induction n with
 |zero=>rfl
 |succ n ih=>rw[flatRep,ih,w4f];rfl
theorem z0Y (l l' k:Nat) (s:List Bool):shiftAll l l' k (bools s)=bools s:=by
 induction s with
 |nil=>rfl
 |cons b r ih=>simp only[bools,w37,shiftAll,AV.shift] at ih⊢;rw[ih]
theorem z7f {m0:Mem} {stk:List (List Blk)} {cur c':List Blk} {nx' fl':Nat} {own:List Nat} {live':List (List Nat)} {r:AV} (h1:r.refs (stk++[cur]).length=true) (h2:r.toks=[]):
  leave m0 ⟨stk++[cur],c',nx',own::live',fl'⟩ r=some (r.shift (stk++[cur]).length stk.length cur.length,⟨stk,cur++c'.map (fun b=>⟨b.st,shiftAll (stk++[cur]).length stk.length cur.length b.cs⟩),nx',live',m0.floor⟩):=by
 have e:own.filter (fun _=>false)=[]:=by simp
 unfold leave
 simp only[w51,w48,Option.some_or,h1,if_true,h2,List.contains_nil,e,pushToks,w52]
 simp
def CallArr (f:Nat) (args:List AV) (n:Nat) (Q:List AV→Prop) (w:AV→AV) (m:Mem):Prop:=
 ∃bs k j st cs,CALL tab f args m=some (w (.arr m.stk.length j st 0 n),{m with cur:=m.cur++bs,nx:=k})∧(m.cur++bs)[j]? =some ⟨st,cs⟩∧m.cur.length≤j∧Q cs
theorem Wy {f:Nat} {fn:AFunc} (h:tab f=some fn) {args:List AV} {n:Nat} {Q:List AV→Prop} {w:AV→AV} {m:Mem} (hx:X tab fn.body (mk fn.ntmps (.tup []) (numb 0 args)) (enter m) (.fin fn.res m fun v m'=> ∃bs k j st cs,v=w (.arr m.stk.length j st 0 n)∧m'={m with cur:=m.cur++bs,nx:=k}∧(m.cur++bs)[j]? =some ⟨st,cs⟩∧m.cur.length≤j∧Q cs)) (hn:args.length≤fn.ntmps:=by exact w1c rfl):
  CallArr f args n Q w m:=by
 obtain⟨x,h1,bs,k,j,st,cs,h2,h3,h4⟩:=yn h hx hn;exact⟨bs,k,j,st,cs,by rw[h1,←h2,←h3],h4⟩
theorem z04 {stk:List (List Blk)} {cur c':List Blk} {nx nx' fl fl':Nat} {own:List Nat} {live:List (List Nat)} {j st n:Nat} {cs:List AV} {Q:List AV→Prop} {w:AV→AV} (hw:w=id∨ ∃z,z.toks=[]∧z.refs (stk++[cur]).length=false∧z.shift (stk++[cur]).length stk.length cur.length=z∧w=fun y=> .tup [y,z])
  (hj:c'[j]? =some ⟨st,cs⟩) (hs:shiftAll (stk++[cur]).length stk.length cur.length cs=cs) (hQ:Q cs):
  Opt (leave ⟨stk,cur,nx,live,fl⟩ ⟨stk++[cur],c',nx',own::live,fl'⟩ (w (.arr (stk++[cur]).length j st 0 n))) fun r=> ∃bs k j st cs,r.1=w (.arr stk.length j st 0 n)∧r.2=⟨stk,cur++bs,k,live,fl⟩∧(cur++bs)[j]? =some ⟨st,cs⟩∧cur.length≤j∧Q cs:=by
 have h1:(w (.arr (stk++[cur]).length j st 0 n)).refs (stk++[cur]).length=true:=by
  rcases hw with rfl|⟨z,_,_,_,rfl⟩<;>simp[AV.refs,refsAny]
 have h2:(w (.arr (stk++[cur]).length j st 0 n)).toks=[]:=by
  rcases hw with rfl|⟨z,hz,_,_,rfl⟩
  ·rfl
  ·simp only[AV.toks,toksAll,hz,w1f]
 have h3:(w (.arr (stk++[cur]).length j st 0 n)).shift (stk++[cur]).length stk.length cur.length=w (.arr stk.length (j+cur.length) st 0 n):=by
  rcases hw with rfl|⟨z,_,_,hz,rfl⟩
  ·simp[AV.shift]
  ·simp[AV.shift,shiftAll];simpa using hz
 rw[z7f h1 h2,z8,h3]
 refine⟨_,_,j+cur.length,st,cs,rfl,rfl,?_,by omega,hQ⟩
 rw[w15 (by omega),show j+cur.length-cur.length=j by omega,w17,hj]
 rw[w0e];simp only[hs]
theorem XA (S:List (List Blk)) (X c:List Blk):((S++[X])++[c]).getD S.length []=X:=by simp[w00]
theorem TG (S:List (List Blk)) (X c:List Blk) (f:List Blk→List Blk):((S++[X])++[c]).modify S.length f=(S++[f X])++[c]:=by
 rw[w47 (by simp)]
 simp
theorem xS {stk:List (List Blk)} {cur:List Blk} {nx fl:Nat} {live:List (List Nat)} {s bytes n:Nat} {z:List AV} (hb:bytes*n≤281474976710656) (hn:n≤9223372036854775807) (hz:z.length=s):
  evMake ⟨stk,cur,nx,live,fl⟩ s bytes z (.int .i64 (n:Int)) (.int .i64 (n:Int))=some (.arr stk.length cur.length nx 0 n,⟨stk,cur++[⟨nx,flatRep z n⟩],nx+1,live,fl⟩):=by
 unfold evMake
 simp only
 rw[if_pos ⟨trivial,by omega,by rw[←Int.natCast_mul];omega,by omega,hz⟩]
 simp only[w1b]
theorem T7 (S:List (List Blk)) (X c:List Blk):(S.length==((S++[X])++[c]).length)=false:=by simp
def CR (a b L n:Nat) (s:List Bool):List Blk:=[⟨a,bools s⟩,⟨b,[.arr L 0 a 0 n]⟩]
theorem z82 (S:List (List Blk)) (a b n fl:Nat) (hfl:fl≤S.length):Meets S (CR a b S.length n) (.fn (.func uc) [] [.ptr S.length 1 b 0]) fl (fun s k _=>s.length=n∧k<n) updR:=by
 refine⟨_,_,_,rfl,?_⟩
 rintro s k fr c nz lv ⟨hs,hk⟩
 suffices h:Does tab uc [.int .i64 (k:Nat),.int .i64 (frm fr),.ptr S.length 1 b 0] ⟨S++[CR a b S.length n s],c,nz,lv,fl⟩ fun v m'=> ∃nz',v= .bool (updR s k fr).2∧m'=⟨S++[CR a b S.length n (updR s k fr).1],c,nz',lv,fl⟩ by
  obtain⟨z,h1,n',h2,h3⟩:=h
  exact⟨n',by rw[←h2,←h3];exact h1⟩
 refine yn z0x ?_ (w1c rfl)
 have hix:idx (.int .i64 (k:Int)) n=some k:=zB .i64 k n hk
 have hg:=vo (s:=s) (j:=k) (by omega)
 have hst:=qA (s:=s) (j:=k) true (by omega)
 have hbl:k+1≤(bools s).length:=by rw[qB];omega
 simp only[ka,List.map,go_sem,reduceCtorEq,G3,G0,G2,T7,XA,CR,zc,hix,w10,hg,hfl,hbl,hst,TG,X9]
 rw[x9 rfl rfl,z8]
 exact⟨_,rfl,rfl⟩
theorem za3 (l:List DInstr) (x:AV) (hx:IsSl IsInstr 4 l x) (hc:CodeP l) (h7:Ok07 l) (m:Mem) (hf:m.floor≤m.stk.length+1):
  CallArr jG [x] l.length (fun cs=> ∃s:List Bool,cs=bools s∧s.length=l.length∧ ∀i,i<l.length→(s.getD i false=true↔Rch (nxt l) i∨i=l.length-1)) (fun y=> .tup [y,.int .i64 0]) m:=by
 refine Wy UA ?_
 obtain⟨stk,cur,nx,live,fl⟩:=m
 dsimp only at hf
 have hf':fl≤(stk++[cur]).length+1:=by simp;omega
 have hln:=hc.len
 have hC:=fun c nz=>(Z0 l x hx hc ⟨stk++[cur],c,nz,[]::live,fl⟩ hf').eq
 rw[ZH h7] at hC
 simp only[jB,List.map,go_sem,reduceCtorEq,G0,G2,hC,show((0:Int) !=0)=false from rfl,hx.len,xS (s:=1) (bytes:=1) (n:=l.length) (z:=[.bool false]) (by omega) (by omega) rfl,XF]
 generalize callNx tab vB _ _=nz
 have hnx:=fun i hi=>UI hc h7 (i:=i) hi
 obtain⟨s',n',hcall,hJ⟩:=z6h l x hx (fun j hj=>Wu (hc.at hj).1) (stk++[cur]) (CR nz (nz+1) (stk++[cur]).length l.length) (.fn (.func uc) [] [.ptr (stk++[cur]).length 1 (nz+1) 0]) fl (by simp;omega) _ updR
  (z82 (stk++[cur]) nz (nz+1) l.length fl (by simp;omega)) (RJ (nxt l) l.length) (fun s op=>2*unm s+op.length) (List.replicate l.length false) ⟨by simp,by omega⟩ (RJ.start (nxt l) l.length (by omega))
  (fun s op h=>by have:=h.b;omega) (fun s op h i hi=>(h.o i hi).1)
  (fun s op i h j hj=>by
   have hi:=(h.o i (by simp)).1
   have:=RK.all (nxt l) l.length (h.pop (nxt l) l.length) (ks:=(nxt l i).take j) (fun k hk=>⟨w45 hk,hnx i hi k (w45 hk)⟩)
   exact⟨this.r.len,hnx i hi _ (w04 hj)⟩)
  (fun s op i h=>h.next (nxt l) l.length hnx) (nz+1+1) ([]::live)
 simp only[CR] at hcall
 have hsl:=hJ.r.len
 have hsub:IntKind.i64.wrap ((l.length:Int)-1)=((l.length-1:Nat):Int):=by rw[zb (by omega) (by omega)];omega
 have hix:idx (.int .i64 ((l.length-1:Nat):Int)) l.length=some (l.length-1):=zB .i64 _ _ (by omega)
 have hst:=qA (s:=s') (j:=l.length-1) true (by omega)
 have hbl:l.length-1+1≤(bools s').length:=by rw[qB];omega
 simp only[go_sem,reduceCtorEq,G0,G2,hcall,evLen,hsub,zc,hix,w10,hbl,hst]
 refine z04 (w:=fun y=> .tup [y,.int .i64 0]) (.inr ⟨_,rfl,rfl,rfl,rfl⟩) (cs:=bools (s'.set (l.length-1) true)) rfl (z0Y _ _ _ _) ⟨_,rfl,by simp[hsl],fun i hi=> ?_⟩
 by_cases e:l.length-1=i
 ·subst e
  rw[zS (by omega)];simp
 ·rw[Vs.getD_set_ne e,hJ.done (nxt l) l.length i]
  exact⟨.inl,fun q=>q.resolve_right fun q=>e q.symm⟩
end Go.Proofs.W
end
section
namespace Go.Vs
section
variable (nx : Nat → List Nat) (n : Nat) (st : Nat → List Int → Option (List Int)) (T : List Int → Prop)
structure SI (kn:List Bool) (out:List (List Int)):Prop where
 r:SInv nx st n kn out
 t: ∀i,T (out.getD i [])
 len: ∀i,(out.getD i []).length+unm kn+1≤n
theorem SI.set {k i:Nat} {kn:List Bool} {out:List (List Int)} {l:List Int} (h:SI nx n st T kn out) (hkn:k<n) (hu:kn.getD k false=false) (hi:kn.getD i false=true) (hs:st i (out.getD i [])=some l) (hk:k∈nx i) (hl:T l∧l.length≤(out.getD i []).length+1):
  SI nx n st T (kn.set k true) (out.set k l)∧unm (kn.set k true)+1=unm kn:=by
 have hkl:k<kn.length:=by rw[h.r.len1];exact hkn
 have hko:k<out.length:=by rw[h.r.len2];exact hkn
 have hum:=QF hkl hu
 refine⟨⟨h.r.set nx st hkn hu hi hs hk,fun j=> ?_,fun j=> ?_⟩,hum⟩
 ·by_cases e:k=j
  ·subst e;rw[getD_set_eq hko];exact hl.1
  ·rw[getD_set_ne e];exact h.t j
 ·by_cases e:k=j
  ·subst e;rw[getD_set_eq hko]
   have:=h.len i;omega
  ·rw[getD_set_ne e]
   have:=h.len j;omega
theorem SI.start (hn:0<n) (hT:T []):SI nx n st T ((List.replicate n false).set 0 true) (List.replicate n []):=by
 have hR:=RInv.start nx n hn
 have hl:0<(List.replicate n false).length:=by simpa using hn
 have hg: ∀j,(List.replicate n false).getD j false=false:=fun j=>by
  simp only[w00,w3b];split<;>rfl
 have ho: ∀j,(List.replicate n ([]:List Int)).getD j []=[]:=fun j=>by
  simp only[w00,w3b];split<;>rfl
 have hu:unm (List.replicate n false)=n:=by unfold unm;rw[List.filter_eq_self.2 (by simp)];simp
 have h1:=QF hl (hg 0)
 refine⟨⟨hR.len,by simp,⟨hR.zero,ho 0⟩,fun i hi=> ?_,fun i _=>ho i⟩,fun i=>by rw[ho];exact hT,fun i=>by rw[ho];simp;omega⟩
 by_cases e:0=i
 ·subst e;rw[ho];exact .zero
 ·rw[getD_set_ne e,hg] at hi;cases hi
def Done (kn:List Bool) (out:List (List Int)) (j:Nat):Prop:= ∃l,st j (out.getD j [])=some l∧ ∀k∈nx j,kn.getD k false=true∧out.getD k []=l
theorem Done.set {kn:List Bool} {out:List (List Int)} {j k:Nat} {l:List Int} (h:Done nx st kn out j) (hkn:kn.getD j false=true) (hu:kn.getD k false=false):Done nx st (kn.set k true) (out.set k l) j:=by
 obtain⟨l0,h1,h2⟩:=h
 have hjk:k≠j:=fun e=>by subst e;rw[hkn] at hu;cases hu
 refine⟨l0,by rw[getD_set_ne hjk];exact h1,fun k' hk'=> ?_⟩
 have hkk:k≠k':=fun e=>by subst e;rw[(h2 _ hk').1] at hu;cases hu
 exact⟨zG (h2 k' hk').1,by rw[getD_set_ne hkk];exact(h2 k' hk').2⟩
structure SJ (kn:List Bool) (out:List (List Int)) (op:List Nat):Prop where
 r:SI nx n st T kn out
 cl: ∀j,kn.getD j false=true→j∈op∨Done nx st kn out j
 o: ∀j∈op,j<n∧kn.getD j false=true
 b:op.length+unm kn≤n
structure SK (i:Nat) (l:List Int) (done:List Nat) (M:Nat) (kn:List Bool) (out:List (List Int)) (op:List Nat):Prop where
 r:SI nx n st T kn out
 cl: ∀j,kn.getD j false=true→j=i∨j∈op∨Done nx st kn out j
 o: ∀j∈op,j<n∧kn.getD j false=true
 b:op.length+unm kn+1≤n
 hi:kn.getD i false=true
 hs:st i (out.getD i [])=some l
 hl:T l∧l.length≤(out.getD i []).length+1
 d: ∀k∈done,kn.getD k false=true∧out.getD k []=l
 m:2*unm kn+op.length+1≤M
theorem SJ.pop {kn:List Bool} {out:List (List Int)} {op:List Nat} {i:Nat} {l:List Int} (h:SJ nx n st T kn out (op++[i])) (hs:st i (out.getD i [])=some l) (hl:T l∧l.length≤(out.getD i []).length+1):SK nx n st T i l [] (2*unm kn+(op++[i]).length) kn out op:=by
 refine⟨h.r,fun j hj=> ?_,fun j hj=>h.o j (w4b _ hj),?_,(h.o i (by simp)).2,hs,hl,fun k hk=>(by cases hk),?_⟩
 ·rcases h.cl j hj with q|q
  ·rcases w0a.1 q with q|q
   ·exact .inr (.inl q)
   ·exact .inl (w16.1 q)
  ·exact .inr (.inr q)
 ·have:=h.b;simp at this;omega
 ·simp;omega
theorem SK.same {i k M:Nat} {l:List Int} {done:List Nat} {kn:List Bool} {out:List (List Int)} {op:List Nat} (h:SK nx n st T i l done M kn out op) (hk:kn.getD k false=true) (he:out.getD k []=l):SK nx n st T i l (done++[k]) M kn out op:=
 ⟨h.r,h.cl,h.o,h.b,h.hi,h.hs,h.hl,fun k' hk'=>by
  rcases w0a.1 hk' with q|q
  ·exact h.d k' q
  ·rw[w16.1 q];exact⟨hk,he⟩,h.m⟩
theorem SK.new {i k M:Nat} {l:List Int} {done:List Nat} {kn:List Bool} {out:List (List Int)} {op:List Nat} (h:SK nx n st T i l done M kn out op) (hkn:k<n) (hk:k∈nx i) (hu:kn.getD k false=false):SK nx n st T i l (done++[k]) M (kn.set k true) (out.set k l) (op++[k]):=by
 obtain⟨h1,h2⟩:=h.r.set nx n st T hkn hu h.hi h.hs hk h.hl
 have hki:k≠i:=fun e=>by subst e;rw[h.hi] at hu;cases hu
 have hko:k<out.length:=by rw[h.r.r.len2];exact hkn
 have hkl:k<kn.length:=by rw[h.r.r.len1];exact hkn
 refine⟨h1,fun j hj=> ?_,fun j hj=> ?_,?_,zG h.hi,by rw[getD_set_ne hki];exact h.hs,by rw[getD_set_ne hki];exact h.hl,fun k' hk'=> ?_,?_⟩
 ·by_cases e:k=j
  ·subst e;exact .inr (.inl (by simp))
  ·rw[getD_set_ne e] at hj
   rcases h.cl j hj with q|q|q
   ·exact .inl q
   ·exact .inr (.inl (by simp[q]))
   ·exact .inr (.inr (q.set nx st hj hu))
 ·rcases w0a.1 hj with q|q
  ·exact⟨(h.o j q).1,zG (h.o j q).2⟩
  ·rw[w16.1 q];exact⟨hkn,zS hkl⟩
 ·have:=h.b;simp only[w05,w19];omega
 ·rcases w0a.1 hk' with q|q
  ·have hkk:k≠k':=fun e=>by subst e;rw[(h.d _ q).1] at hu;cases hu
   exact⟨zG (h.d k' q).1,by rw[getD_set_ne hkk];exact(h.d k' q).2⟩
  ·rw[w16.1 q];exact⟨zS hkl,getD_set_eq hko⟩
 ·have:=h.m;simp only[w05,w19];omega
theorem SK.fin {i M:Nat} {l:List Int} {kn:List Bool} {out:List (List Int)} {op:List Nat} (h:SK nx n st T i l (nx i) M kn out op):SJ nx n st T kn out op∧2*unm kn+op.length<M:=by
 refine⟨⟨h.r,fun j hj=> ?_,h.o,by have:=h.b;omega⟩,by have:=h.m;omega⟩
 rcases h.cl j hj with q|q|q
 ·subst q;exact .inr ⟨l,h.hs,h.d⟩
 ·exact .inl q
 ·exact .inr q
theorem SJ.done {kn:List Bool} {out:List (List Int)} (h:SJ nx n st T kn out []):GoodS nx st n∧ ∀i,out.getD i []=labOf nx st i:=
 h.r.r.all nx st fun i hi=>(h.cl i hi).elim (fun q=>by cases q) id
theorem SJ.start (hn:0<n) (hT:T []):SJ nx n st T ((List.replicate n false).set 0 true) (List.replicate n []) [0]:=by
 have h:=SI.start nx n st T hn hT
 have hR:=RJ.start nx n hn
 have hg: ∀j,(List.replicate n false).getD j false=false:=fun j=>by
  simp only[w00,w3b];split<;>rfl
 refine⟨h,fun j hj=> ?_,hR.o,hR.b⟩
 by_cases e:0=j
 ·subst e;exact .inl (by simp)
 ·rw[getD_set_ne e,hg] at hj;cases hj
structure SR (kn0:List Bool) (out0:List (List Int)) (j:Nat) (kn:List Bool) (out:List (List Int)) (ch:Bool):Prop where
 r:SI nx n st T kn out
 le:unm kn≤unm kn0
 eq:ch=false→kn=kn0∧out=out0∧ ∀i,i<j→kn0.getD i false=true→Done nx st kn0 out0 i
 lt:ch=true→unm kn<unm kn0
structure SQ (kn0:List Bool) (out0:List (List Int)) (i:Nat) (l:List Int) (done:List Nat) (kn:List Bool) (out:List (List Int)) (ch:Bool):Prop where
 r:SR nx n st T kn0 out0 i kn out ch
 hi:kn.getD i false=true
 hs:st i (out.getD i [])=some l
 hl:T l∧l.length≤(out.getD i []).length+1
 d: ∀k∈done,kn.getD k false=true∧out.getD k []=l
theorem SR.zero {kn:List Bool} {out:List (List Int)} (h:SI nx n st T kn out):SR nx n st T kn out 0 kn out false:=
 ⟨h,w09 _,fun _=>⟨rfl,rfl,fun i hi=>absurd hi (w35 _)⟩,fun e=>by cases e⟩
theorem SR.skip {kn0 kn:List Bool} {out0 out:List (List Int)} {j:Nat} {ch:Bool} (h:SR nx n st T kn0 out0 j kn out ch) (hu:kn.getD j false=false):SR nx n st T kn0 out0 (j+1) kn out ch:=by
 refine⟨h.r,h.le,fun e=>⟨(h.eq e).1,(h.eq e).2.1,fun i hi hk=> ?_⟩,h.lt⟩
 by_cases hij:i=j
 ·subst hij;rw[←(h.eq e).1,hu] at hk;cases hk
 ·exact(h.eq e).2.2 i (by omega) hk
theorem SQ.same {kn0 kn:List Bool} {out0 out:List (List Int)} {i k:Nat} {l:List Int} {done:List Nat} {ch:Bool} (h:SQ nx n st T kn0 out0 i l done kn out ch) (hk:kn.getD k false=true) (he:out.getD k []=l):SQ nx n st T kn0 out0 i l (done++[k]) kn out ch:=
 ⟨h.r,h.hi,h.hs,h.hl,fun k' hk'=>by
  rcases w0a.1 hk' with q|q
  ·exact h.d k' q
  ·rw[w16.1 q];exact⟨hk,he⟩⟩
theorem SQ.new {kn0 kn:List Bool} {out0 out:List (List Int)} {i k:Nat} {l:List Int} {done:List Nat} {ch:Bool} (h:SQ nx n st T kn0 out0 i l done kn out ch) (hkn:k<n) (hk:k∈nx i) (hu:kn.getD k false=false):SQ nx n st T kn0 out0 i l (done++[k]) (kn.set k true) (out.set k l) true:=by
 obtain⟨h1,h2⟩:=h.r.r.set nx n st T hkn hu h.hi h.hs hk h.hl
 have hki:k≠i:=fun e=>by subst e;rw[h.hi] at hu;cases hu
 have hko:k<out.length:=by rw[h.r.r.r.len2];exact hkn
 have hkl:k<kn.length:=by rw[h.r.r.r.len1];exact hkn
 have hle:=h.r.le
 refine⟨⟨h1,by omega,fun e=>(by cases e),fun _=>by omega⟩,zG h.hi,by rw[getD_set_ne hki];exact h.hs,by rw[getD_set_ne hki];exact h.hl,fun k' hk'=> ?_⟩
 rcases w0a.1 hk' with q|q
 ·have hkk:k≠k':=fun e=>by subst e;rw[(h.d _ q).1] at hu;cases hu
  exact⟨zG (h.d k' q).1,by rw[getD_set_ne hkk];exact(h.d k' q).2⟩
 ·rw[w16.1 q];exact⟨zS hkl,getD_set_eq hko⟩
theorem SQ.fin {kn0 kn:List Bool} {out0 out:List (List Int)} {i:Nat} {l:List Int} {ch:Bool} (h:SQ nx n st T kn0 out0 i l (nx i) kn out ch):SR nx n st T kn0 out0 (i+1) kn out ch:=by
 refine⟨h.r.r,h.r.le,fun e=>⟨(h.r.eq e).1,(h.r.eq e).2.1,fun j hj hk=> ?_⟩,h.r.lt⟩
 by_cases hij:j=i
 ·subst hij
  obtain⟨e1,e2,_⟩:=h.r.eq e
  rw[←e1,←e2];exact⟨l,h.hs,h.d⟩
 ·exact(h.r.eq e).2.2 j (by omega) hk
theorem SR.done {kn0 kn:List Bool} {out0 out:List (List Int)} (h:SR nx n st T kn0 out0 n kn out false):GoodS nx st n∧ ∀i,out.getD i []=labOf nx st i:=by
 obtain⟨e1,e2,e3⟩:=h.eq rfl
 have hlt: ∀i,kn.getD i false=true→i<n:=fun i hi=>by
  rcases w3c i n with q|q
  ·exact q
  ·rw[w00,w18 (by rw[h.r.r.len1];exact q)] at hi;cases hi
 refine h.r.r.all nx st fun i hi=> ?_
 have:=e3 i (hlt i hi) (by rw[←e1];exact hi)
 rw[←e1,←e2] at this;exact this
end
end Go.Vs
end
section
namespace Go.Proofs.W
open Go.Vs
set_option linter.unusedSimpArgs false
set_option maxRecDepth 100000
structure FunP (d:DImage) (f:DFunc):Prop where
 img:ImgP d
 ty:TypP d.types
 sl: ∀k,k<d.funcs.length→(fnA d.funcs k).slots.length≤1000
 s:SlotsP d f
 c:CodeP f.code
 o:Ok07 f.code
 n: ∀i,i<f.code.length→NearP d f (inA f.code i)
def stF (d:DImage) (f:DFunc) (i:Nat) (l:List Int):Option (List Int):=stS d f (inA f.code i) l
def lists (out:List (List Int)) (cs:List AV):Prop:=cs.length=out.length∧ ∀i (h:i<out.length),∃y,cs[i]? =some y∧IsSl IsI 1 out[i] y
theorem jc {out:List (List Int)} {cs:List AV} (h:lists out cs) {k:Nat} (hk:k<out.length): ∃y,takeV false 1 (cs.drop k)=some y∧IsSl IsI 1 (out.getD k []) y:=by
 obtain⟨y,h1,h2⟩:=h.2 k hk
 refine⟨y,li _ _ (by rw[List.head?_drop];exact h1),?_⟩
 rw[w00,w11 hk];exact h2
theorem z4x {out:List (List Int)} {cs:List AV} (h:lists out cs) {k:Nat} {l:List Int} {y:AV} (hk:k<out.length) (hy:IsSl IsI 1 l y):lists (out.set k l) (cs.take k++[y]++cs.drop (k+1)):=by
 have hkc:k<cs.length:=by rw[h.1];exact hk
 have he:cs.take k++[y]++cs.drop (k+1)=cs.set k y:=by rw[w59,if_pos hkc];simp
 rw[he]
 refine⟨by simp[h.1],fun i hi=> ?_⟩
 simp only[List.length_set] at hi
 by_cases e:k=i
 ·subst e
  exact⟨y,by simp[hkc],by simpa using hy⟩
 ·obtain⟨z,h1,h2⟩:=h.2 i hi
  exact⟨z,by rw[w38];simp[e,h1],by simpa [List.getElem_set,e] using h2⟩
theorem z4y (n:Nat):lists (List.replicate n []) (flatRep [.nils] n):=by
 have: ∀n,flatRep [.nils] n=List.replicate n .nils:=fun n=>by
  induction n with
  |zero=>rfl
  |succ n ih=>rw[flatRep,ih,w4f];rfl
 rw[this]
 refine⟨by simp,fun i hi=>⟨.nils,?_,?_⟩⟩
 ·simp only[List.length_replicate] at hi;simp[hi]
 ·simpa using IsSl.nil 1
theorem z7d {out:List (List Int)} {cs:List AV} (h:lists out cs) (a b c:Nat):shiftAll a b c cs=cs:=by
 apply w2b
 intro j
 rw[ug]
 by_cases hj:j<out.length
 ·obtain⟨y,h1,h2⟩:=h.2 j hj
  rw[h1,w0e]
  rcases h2 with⟨_,⟨_,rfl⟩|⟨tk,ys,rfl,_⟩⟩<;>rfl
 ·rw[w18 (by rw[h.1];omega)];rfl
noncomputable def labs (d:DImage) (f:DFunc):List (List Int):=(List.range f.code.length).map fun i=>labOf (nxt f.code) (stF d f) i
theorem z9C {d:DImage} {f:DFunc} {out:List (List Int)} (hl:out.length=f.code.length) (h: ∀i,out.getD i []=labOf (nxt f.code) (stF d f) i):out=labs d f:=by
 apply w2b
 intro j
 unfold labs
 rw[w17]
 by_cases hj:j<f.code.length
 ·rw[w3f hj,w0e,←h j,w00,w11 (by omega)];rfl
 ·rw[w18 (by omega),w18 (by simpa using hj)];rfl
theorem z7j (d:DImage) (f:DFunc):(labs d f).length=f.code.length:=by simp[labs]
theorem zbX {d:DImage} {f:DFunc} {i:Nat} (h:i<f.code.length):(labs d f).getD i []=labOf (nxt f.code) (stF d f) i:=by
 unfold labs
 rw[w00,w17,w3f h];rfl
def LabsIn (d:DImage) (f:DFunc):Prop:= ∀k,InT d.types ((labs d f).getD k [])∧((labs d f).getD k []).length≤1000
def GoodF (d:DImage) (f:DFunc):Prop:=GoodS (nxt f.code) (stF d f) f.code.length
def ScrP (d:DImage) (f:DFunc):Prop:=GoodF d f∧LastS (nxt f.code) (stF d f) f.code.length
def CallSc (fn:Nat) (args:List AV) (n:Nat) (G:Prop) (b:Bool) (Q:List AV→Prop) (m:Mem):Prop:=
 ∃y bs k,CALL tab fn args m=some (.tup [y,.bool b],{m with cur:=m.cur++bs,nx:=k})∧(G→ ∃j st cs,y= .arr m.stk.length j st 0 n∧(m.cur++bs)[j]? =some ⟨st,cs⟩∧m.cur.length≤j∧Q cs)
theorem z4S {fn:Nat} {a:AFunc} (h:tab fn=some a) {args:List AV} {n:Nat} {G:Prop} {b:Bool} {Q:List AV→Prop} {m:Mem} (hx:X tab a.body (mk a.ntmps (.tup []) (numb 0 args)) (enter m) (.fin a.res m fun v m'=> ∃y bs k,v= .tup [y,.bool b]∧m'={m with cur:=m.cur++bs,nx:=k}∧(G→ ∃j st cs,y= .arr m.stk.length j st 0 n∧(m.cur++bs)[j]? =some ⟨st,cs⟩∧m.cur.length≤j∧Q cs))) (hn:args.length≤a.ntmps:=by exact w1c rfl):
  CallSc fn args n G b Q m:=by
 obtain⟨x,h1,y,bs,k,h2,h3,h4⟩:=yn h hx hn;exact⟨y,bs,k,by rw[h1,←h2,←h3],h4⟩
theorem z1E {stk:List (List Blk)} {cur c':List Blk} {nx nx' fl fl':Nat} {own:List Nat} {live:List (List Nat)} {n:Nat} {G:Prop} {Q:List AV→Prop} (hG: ¬G):
  Opt (leave ⟨stk,cur,nx,live,fl⟩ ⟨stk++[cur],c',nx',own::live,fl'⟩ (.tup [.nils,.bool false])) fun r=> ∃y bs k,r.1= .tup [y,.bool false]∧r.2=⟨stk,cur++bs,k,live,fl⟩∧(G→ ∃j st cs,y= .arr stk.length j st 0 n∧(cur++bs)[j]? =some ⟨st,cs⟩∧cur.length≤j∧Q cs):=by
 rw[x9 rfl rfl,z8]
 exact⟨.nils,[],nx',rfl,by rw[w1f],fun h=>absurd h hG⟩
theorem z9I {stk:List (List Blk)} {cur c':List Blk} {nx nx' fl fl':Nat} {own:List Nat} {live:List (List Nat)} {j st n:Nat} {cs:List AV} {G:Prop} {b:Bool} {Q:List AV→Prop}
  (hj:c'[j]? =some ⟨st,cs⟩) (hs:shiftAll (stk++[cur]).length stk.length cur.length cs=cs) (hQ:Q cs):
  Opt (leave ⟨stk,cur,nx,live,fl⟩ ⟨stk++[cur],c',nx',own::live,fl'⟩ (.tup [.arr (stk++[cur]).length j st 0 n,.bool b])) fun r=> ∃y bs k,r.1= .tup [y,.bool b]∧r.2=⟨stk,cur++bs,k,live,fl⟩∧(G→ ∃j st cs,y= .arr stk.length j st 0 n∧(cur++bs)[j]? =some ⟨st,cs⟩∧cur.length≤j∧Q cs):=by
 have:=z04 (nx:=nx) (nx':=nx') (fl:=fl) (fl':=fl') (own:=own) (live:=live) (n:=n) (Q:=Q) (w:=fun y=> .tup [y,.bool b]) (.inr ⟨.bool b,rfl,rfl,rfl,rfl⟩) hj hs hQ
 obtain⟨x,h1,bs,k,j2,st2,cs2,h2,h3,h4,h5,h6⟩:=this
 exact⟨x,h1,_,bs,k,h2,h3,fun _=>⟨j2,st2,cs2,rfl,h4,h5,h6⟩⟩
theorem zbx {d:DImage} {f:DFunc} (h:FunP d f) {i:Nat} (hi:i<f.code.length) {l l':List Int} (hl:InT d.types l) (hs:stF d f i l=some l'):InT d.types l'∧l'.length≤l.length+1:=
 z89 (h.c.at hi).1 (h.c.at hi).2.1 (h.n i hi) h.s hl hs
theorem z1U (d:DImage) (y:AV) (hy:IsImage d y) (g:Nat) (hg:g<d.funcs.length) (h:FunP d (fnA d.funcs g)) (m:Mem) (hf:m.floor≤m.stk.length+1):
  CallSc xo [y,.int .i64 g] (fnA d.funcs g).code.length (GoodF d (fnA d.funcs g)) (pb (ScrP d (fnA d.funcs g))) (fun cs=>lists (labs d (fnA d.funcs g)) cs∧LabsIn d (fnA d.funcs g)) m:=by
 have hy':=hy
 obtain⟨ty,tx,fs,rfl,h0,h1,h2⟩:=hy
 obtain⟨w0,w1,w2,w3,ef,q0,q1,q2,q3⟩:=h2.fnA hg
 have hat:=h2.at .i64 hg
 refine z4S X1 ?_
 obtain⟨stk,cur,nx,live,fl⟩:=m
 dsimp only at hf
 have hf':fl≤(stk++[cur]).length:=by simp;omega
 have hmaxf:max fl ((stk++[cur]).length+1)≤(stk++[cur]).length+1:=by omega
 have hAf:=fun x hx hw hN l z hz hin hlen c n lv=>zcX d h.img h.sl h.ty _ hy' g hg x hx hw hN l z hz hin hlen ⟨stk++[cur],c,n,lv,max fl ((stk++[cur]).length+1)⟩ hmaxf
 have hln:=h.c.len
 have hnx:=fun i hi=>UI h.c h.o (i:=i) hi
 have hSC:ScrP d (fnA d.funcs g)↔GoodF d (fnA d.funcs g)∧LastS (nxt (fnA d.funcs g).code) (stF d (fnA d.funcs g)) (fnA d.funcs g).code.length:=Iff.rfl
 have hstok:=fun i hi l l' hl hs=>zbx h (i:=i) hi (l:=l) (l':=l') hl hs
 have hstF: ∀i l,stF d (fnA d.funcs g) i l=stS d (fnA d.funcs g) (inA (fnA d.funcs g).code i) l:=fun _ _=>rfl
 have hNear:=h.n
 have hC:=h.c
 generalize fnA d.funcs g=f at*
 generalize hn:f.code.length=n at*
 generalize hst:stF d f=st at*
 generalize hnxt:nxt f.code=nxf at*
 have hl0:0<(List.replicate n false).length:=by simp;omega
 have hst0:=qA (s:=List.replicate n false) (j:=0) true hl0
 have hbl0:0+1≤(bools (List.replicate n false)).length:=by rw[qB];omega
 have hix0:idx (.int .i64 0) n=some 0:=zB .i64 0 n (by omega)
 have hq1l:evLen w1=some (.int .i64 n):=by rw[←hn];exact q1.len
 simp only[w21,w32,w39] at hst0 hbl0
 simp only[vX,List.map,go_sem,reduceCtorEq,G3,G0,G2,hat,ef,hq1l,xS (s:=1) (bytes:=24) (n:=n) (z:=[.nils]) (by omega) (by omega) rfl,xS (s:=1) (bytes:=1) (n:=n) (z:=[.bool false]) (by omega) (by omega) rfl,XF,zc,hix0,w10,hbl0,hst0]
 have hT0:InT d.types []:=fun t ht=>by cases ht
 have hGF:GoodF d f↔GoodS nxf st n:=by unfold GoodF;rw[hn,hst,hnxt]
 have hlabs: ∀out:List (List Int),out.length=n→(∀i,out.getD i []=labOf nxf st i)→out=labs d f:=fun out h1 h2=>z9C (by rw[hn];exact h1) (by rw[hst,hnxt];exact h2)
 refine za (α:=List Bool×List (List Int)×Bool) (fun z σ=>(SI nxf n st (InT d.types) z.1 z.2.1∧(z.2.2=false→GoodS nxf st n∧ ∀i,z.2.1.getD i []=labOf nxf st i))∧ ∃nz e cs,lists z.2.1 cs∧heads [1,2,6,7,8,9] 3 σ=⟨tmps 105 [(1,.int .i64 g),(2,.ptr (stk++[cur]).length 0 nx 0),(6,w1),(7,.arr (stk++[cur]).length 1 (nx+1) 0 n),(8,.arr (stk++[cur]).length 2 (nx+1+1) 0 n),(9,.bool z.2.2)],⟨stk++[cur],[⟨nx,[ty,tx,fs]⟩,⟨nx+1,cs⟩,⟨nx+1+1,bools z.1⟩],nz,e::live,fl⟩⟩) (fun z=>2*unm z.1+(if z.2.2 then 1 else 0)) ((List.replicate n false).set 0 true,List.replicate n [],true) ?_ ?_
 ·refine⟨⟨SI.start nxf n st (InT d.types) (by omega) hT0,fun e=>by cases e⟩,?_⟩
  simp only[go_sem,reduceCtorEq,G0,G1]
  exact⟨_,_,_,z4y n,rfl⟩
 ·rintro⟨kn0,out0,ch0⟩ σ ⟨⟨hR0,hdone⟩,nz,e,cs,hcs,hσ⟩
  rw[hσ]
  clear hσ σ
  dsimp only at hR0 hdone hcs⊢
  cases ch0 with
  |false=>
   obtain⟨hG,hlab⟩:=hdone rfl
   have hol:=hR0.r.len2
   have hsub:IntKind.i64.wrap ((n:Int)-1)=((n-1:Nat):Int):=by rw[zb (by omega) (by omega)];omega
   have hixl:idx (.int .i64 ((n-1:Nat):Int)) n=some (n-1):=zB .i64 _ _ (by omega)
   obtain⟨yl,hyl,hyls⟩:=jc hcs (k:=n-1) (by omega)
   simp only[go_sem,G0,G1,G2,hq1l,hsub,zc,hixl,w10,hyl,hyls.len]
   have hb:(((out0.getD (n-1) []).length:Int)==0)=pb (ScrP d f):=by
    refine kY ?_
    rw[hSC,hGF,beq_iff_eq,z7i nxf st hG,hlab (n-1)]
    refine⟨fun h=>⟨hG,w1d (by omega)⟩,fun h=>by rw[h.2];rfl⟩
   rw[hb]
   refine z9I (cs:=cs) rfl (z7d hcs _ _ _) ?_
   have hJt:=hR0.t
   have hJl:=hR0.len
   rw[hlabs out0 hol hlab] at hcs hJt hJl
   exact⟨hcs,fun k=>⟨hJt k,by have:=hJl k;omega⟩⟩
  |true=>
   simp only[go_sem,G3,G0,G1,G2]
   refine za (α:=Nat×List Bool×List (List Int)×Bool) (fun z σ=>(z.1≤n∧SR nxf n st (InT d.types) kn0 out0 z.1 z.2.1 z.2.2.1 z.2.2.2)∧ ∃nz e cs,lists z.2.2.1 cs∧heads [1,2,6,7,8,9,10] 3 σ=⟨tmps 105 [(1,.int .i64 g),(2,.ptr (stk++[cur]).length 0 nx 0),(6,w1),(7,.arr (stk++[cur]).length 1 (nx+1) 0 n),(8,.arr (stk++[cur]).length 2 (nx+1+1) 0 n),(9,.bool z.2.2.2),(10,.int .i64 z.1)],⟨stk++[cur],[⟨nx,[ty,tx,fs]⟩,⟨nx+1,cs⟩,⟨nx+1+1,bools z.2.1⟩],nz,e::live,fl⟩⟩) (fun z=>n-z.1) (0,kn0,out0,false) ?_ ?_
   ·refine⟨⟨w06 _,SR.zero nxf n st (InT d.types) hR0⟩,?_⟩
    simp only[go_sem,G0,G1]
    exact⟨_,_,_,hcs,rfl⟩
   ·clear hcs
    rintro⟨i,kn,out,ch⟩ σ ⟨⟨hi,hSR⟩,nz,e,cs,hcs,hσ⟩
    rw[hσ]
    clear hσ σ
    dsimp only at hi hSR hcs⊢
    have hkl:=hSR.r.r.len1
    have hol:=hSR.r.r.len2
    by_cases hin:i<n
    ·have hixi:idx (.int .i64 (i:Int)) n=some i:=zB .i64 i n hin
     have hsu:IntKind.i64.wrap ((i:Int)+1)=((i+1:Nat):Int):=by rw[zb (by omega) (by omega)];omega
     have hgk:=vo (s:=kn) (j:=i) (by omega)
     cases hki:kn.getD i false
     ·rw[hki] at hgk
      simp only[go_sem,reduceCtorEq,G0,G1,G2,hq1l,w02,hin,zc,hixi,w10,hgk,hsu]
      exact⟨(i+1,kn,out,ch),by dsimp only;omega,⟨hin,hSR.skip nxf n st (InT d.types) hki⟩,nz,e,cs,hcs,rfl⟩
     ·rw[hki] at hgk
      have hic:i<f.code.length:=by omega
      obtain⟨c1,c2,c3⟩:=hC.at hic
      obtain⟨yi,hyi,hyis⟩:=jc hcs (k:=i) (by omega)
      have htl:=hSR.r.len i
      simp only[go_sem,G3,G0,G1,G2,hq1l,w02,hin,zc,hixi,w10,hgk,q1.at .i64 hic,q1.inA hic,hyi]
      refine(hAf _ c1 c2 (hNear i hin) _ _ hyis (hSR.r.t i) (by omega) _ _ _).xw fun r ts n1 ⟨q,hr,hq⟩=> ?_
      subst hr
      have hlive: ∃e',pushToks ts (e::live)=e'::live:=by cases ts<;>exact⟨_,rfl⟩
      obtain⟨e',he'⟩:=hlive
      simp only[he',←hstF]
      cases hs:st i (out.getD i []) with
      |none=>
       simp only[go_sem,G0,G2,Option.isSome_none]
       have hng: ¬GoodS nxf st n:=Q5 nxf st hSR.r.r hki hs
       rw[zg fun hh=>hng (hGF.1 (hSC.1 hh).1)]
       exact z1E fun hh=>hng (hGF.1 hh)
      |some l=>
       have hql:IsSl IsI 1 l q:=hq l (by rw[←hstF];exact hs)
       have hlt:=hstok i hin _ _ (hSR.r.t i) hs
       simp only[go_sem,G0,G2,Option.isSome_some]
       refine(Uc f.code w1 q1 i hic (Wu c1) _).xv fun y k1 ⟨hy,hyt⟩=> ?_
       rw[hnxt] at hy
       simp only[go_sem,G3,G0,G2]
       refine za (α:=Nat×List Bool×List (List Int)×Bool) (fun z σ=>(z.1≤(nxf i).length∧SQ nxf n st (InT d.types) kn0 out0 i l ((nxf i).take z.1) z.2.1 z.2.2.1 z.2.2.2)∧ ∃nz cs,lists z.2.2.1 cs∧heads [1,2,6,7,8,9,10,11,13,14] 3 σ=⟨tmps 105 [(1,.int .i64 g),(2,.ptr (stk++[cur]).length 0 nx 0),(6,w1),(7,.arr (stk++[cur]).length 1 (nx+1) 0 n),(8,.arr (stk++[cur]).length 2 (nx+1+1) 0 n),(9,.bool z.2.2.2),(10,.int .i64 i),(11,q),(13,y),(14,.int .i64 z.1)],⟨stk++[cur],[⟨nx,[ty,tx,fs]⟩,⟨nx+1,cs⟩,⟨nx+1+1,bools z.2.1⟩],nz,e'::live,fl⟩⟩) (fun z=>(nxf i).length-z.1) (0,kn,out,ch) ?_ ?_
       ·refine⟨⟨w06 _,hSR,hki,hs,hlt,fun k hk=>by cases hk⟩,?_⟩
        simp only[go_sem,G0,G1]
        exact⟨_,_,hcs,rfl⟩
       ·clear hcs hki hgk hyi hyis hs htl hkl hol hSR
        rintro⟨j,kn,out,ch⟩ σ ⟨⟨hj,hSQ⟩,nz,cs,hcs,hσ⟩
        rw[hσ]
        clear hσ σ
        dsimp only at hj hSQ hcs⊢
        have hkl:=hSQ.r.r.r.len1
        have hol:=hSQ.r.r.r.len2
        by_cases hjn:j<(nxf i).length
        ·have hkn:=hnx i hin (nxf i)[j] (w04 hjn)
         have hmem:(nxf i)[j]∈nxf i:=w04 hjn
         have hts:(nxf i).take (j+1)=(nxf i).take j++[(nxf i)[j]]:=w0d hjn
         have e1:nth y j= .int .i64 ((nxf i)[j]:Nat):=hy.nth hjn
         have hatj:=hy.at .i64 hjn
         generalize hK:(nxf i)[j]=k at*
         have hlen2:(nxf i).length≤2:=by rw[←hnxt];exact QQ _ _
         have hsj:IntKind.i64.wrap ((j:Int)+1)=((j+1:Nat):Int):=by rw[zb (by omega) (by omega)];omega
         have hixk:idx (.int .i64 (k:Nat)) n=some k:=zB .i64 k n hkn
         have hgk:=vo (s:=kn) (j:=k) (by omega)
         obtain⟨yk,hyk,hyks⟩:=jc hcs (k:=k) (by omega)
         have hltj:((j:Int)<((nxf i).length:Nat))=True:=eq_true (by omega)
         have hSI:=fun m=>(yD _ _ _ _ hyks hql m).eq
         cases hkk:kn.getD k false
         ·rw[hkk] at hgk
          have hst1:=qA (s:=kn) (j:=k) true (by omega)
          have hbl1:k+1≤(bools kn).length:=by rw[qB];omega
          have hbl2:k+1≤cs.length:=by rw[hcs.1];omega
          simp only[go_sem,G0,G1,G2,hy.len,hltj,hatj,e1,zc,hixk,w10,hgk,hql.refs_cells,hql.one,hbl2,hbl1,hst1,hsj]
          refine⟨(j+1,kn.set k true,out.set k l,true),by dsimp only;omega,⟨hjn,?_⟩,nz,_,z4x hcs (by omega) hql,rfl⟩
          dsimp only
          rw[hts]
          exact hSQ.new nxf n st (InT d.types) hkn hmem hkk
         ·rw[hkk] at hgk
          by_cases heq:out.getD k []=l
          ·have hd:decide (out.getD k []=l)=true:=decide_eq_true heq
           simp only[go_sem,G0,G1,G2,hy.len,hltj,hatj,e1,zc,hixk,w10,hgk,hyk,hSI,hd,hsj]
           refine⟨(j+1,kn,out,ch),by dsimp only;omega,⟨hjn,?_⟩,?_⟩
           ·dsimp only
            rw[hts]
            exact hSQ.same nxf n st (InT d.types) hkk heq
           ·exact⟨_,_,hcs,rfl⟩
          ·have hd:decide (out.getD k []=l)=false:=decide_eq_false heq
           simp only[go_sem,G0,G1,G2,hy.len,hltj,hatj,e1,zc,hixk,w10,hgk,hyk,hSI,hd]
           have hng: ¬GoodS nxf st n:=QR nxf st hSQ.r.r.r hSQ.hi hSQ.hs hmem hkk heq
           rw[zg fun hh=>hng (hGF.1 (hSC.1 hh).1)]
           exact z1E fun hh=>hng (hGF.1 hh)
        ·have hje:j=(nxf i).length:=by omega
         subst hje
         rw[w08] at hSQ
         simp only[go_sem,reduceCtorEq,G0,G1,G2,hy.len,show(((nxf i).length:Nat):Int)<((nxf i).length:Nat)↔False from⟨fun h=>by omega,False.elim⟩,hsu]
         exact⟨(i+1,kn,out,ch),by dsimp only;omega,⟨hin,hSQ.fin nxf n st (InT d.types)⟩,nz,e',cs,hcs,rfl⟩
    ·have hie:i=n:=by omega
     subst hie
     simp only[go_sem,reduceCtorEq,G0,G1,G2,hq1l,w02,hin]
     refine⟨(kn,out,ch),?_,⟨hSR.r,fun ec=> ?_⟩,nz,e,cs,hcs,rfl⟩
     ·dsimp only
      have h1:=hSR.le
      cases ch
      ·simp;omega
      ·have:=hSR.lt rfl
       simp;omega
     ·dsimp only at ec
      subst ec
      exact hSR.done nxf _ st (InT d.types)
theorem zeh (l:List DInstr) (x:AV) (hx:IsSl IsInstr 4 l x) (hc:CodeP l) (h7:Ok07 l) (m:Mem) (hf:m.floor≤m.stk.length+1):
  CallArr vU [x] l.length (fun cs=> ∃s:List Bool,cs=bools s∧s.length=l.length∧ ∀i,s.getD i false=true↔Rch (nxt l) i) id m:=by
 refine Wy TO ?_
 obtain⟨stk,cur,nx,live,fl⟩:=m
 dsimp only at hf
 have hln:=hc.len
 have hmx:=hx.max
 have hf':fl≤(stk++[cur]).length:=by simp;omega
 have hnx:=fun i hi=>UI hc h7 (i:=i) hi
 have hl0:0<(List.replicate l.length false).length:=by simp;omega
 have hst0:=qA (s:=List.replicate l.length false) (j:=0) true hl0
 have hbl0:0+1≤(bools (List.replicate l.length false)).length:=by rw[qB];omega
 have hix0:idx (.int .i64 0) l.length=some 0:=zB .i64 0 l.length (by omega)
 simp only[w21,w32,w39] at hst0 hbl0
 simp only[qG,List.map,go_sem,reduceCtorEq,G0,G2,hx.len,xS (s:=1) (bytes:=1) (n:=l.length) (z:=[.bool false]) (by omega) (by omega) rfl,XF,zc,hix0,w10,hbl0,hst0]
 refine za (α:=List Bool×Bool) (fun z σ=>(RInv (nxt l) l.length z.1∧(z.2=false→ ∀i,z.1.getD i false=true↔Rch (nxt l) i))∧ ∃nz,heads [0,3,4] 1 σ=⟨tmps 50 [(0,x),(3,.arr (stk++[cur]).length 0 nx 0 l.length),(4,.bool z.2)],⟨stk++[cur],[⟨nx,bools z.1⟩],nz,[]::live,fl⟩⟩) (fun z=>2*unm z.1+(if z.2 then 1 else 0)) ((List.replicate l.length false).set 0 true,true) ?_ ?_
 ·refine⟨⟨RInv.start (nxt l) l.length (by omega),fun e=>by cases e⟩,?_⟩
  simp only[go_sem,reduceCtorEq,G0,G1]
  exact⟨_,rfl⟩
 ·rintro⟨s,ch⟩ σ ⟨⟨hR,hdone⟩,nz,hσ⟩
  rw[hσ]
  clear hσ σ
  dsimp only at hR hdone⊢
  cases ch with
  |false=>
   simp only[go_sem,reduceCtorEq,G0,G1,G2]
   exact z04 (w:=id) (.inl rfl) (cs:=bools s) rfl (z0Y _ _ _ _) ⟨_,rfl,hR.len,hdone rfl⟩
  |true=>
   simp only[go_sem,reduceCtorEq,G0,G1,G2]
   refine za (α:=Nat) (fun i σ=>i≤l.length∧ ∃nz,heads [0,3,4,5] 1 σ=⟨tmps 50 [(0,x),(3,.arr (stk++[cur]).length 0 nx 0 l.length),(4,.bool (ledR (nxt l) s i).2),(5,.int .i64 i)],⟨stk++[cur],[⟨nx,bools (ledR (nxt l) s i).1⟩],nz,[]::live,fl⟩⟩) (fun i=>l.length-i) 0 ?_ ?_
   ·refine⟨w06 _,?_⟩
    simp only[go_sem,reduceCtorEq,G0,G1,ledR]
    exact⟨_,rfl⟩
   ·rintro i σ ⟨hi,nz,hσ⟩
    rw[hσ]
    clear hσ σ
    dsimp only at hi⊢
    by_cases h:i<l.length
    ·have hK:=QY (nxt l) l.length hnx hR i hi
     have hstep:ledR (nxt l) s (i+1)=ledI (nxt l) (ledR (nxt l) s i) i:=rfl
     have hsu:IntKind.i64.wrap ((i:Int)+1)=((i+1:Nat):Int):=zd h hmx
     have hixi:idx (.int .i64 (i:Int)) l.length=some i:=zB .i64 i l.length h
     simp only[go_sem,reduceCtorEq,G0,G1,G2,w02,h,hx.len]
     refine(Uc l x hx i h (Wu (hc.at h).1) _).xv fun y k1 ⟨hy,hyt⟩=> ?_
     simp only[go_sem,reduceCtorEq,G0,G2]
     generalize ledR (nxt l) s i=p0 at*
     have hpl:=hK.r.len
     by_cases hin:p0.1.getD i false=true
     ·have hfold: ∀q,q≤(nxt l i).length→LK (nxt l) l.length s i (((nxt l i).take q).foldl ledK p0)∧(((nxt l i).take q).foldl ledK p0).1.getD i false=true:=fun q hq=>by
       have:=z0G (nxt l) l.length hK hin (ks:=(nxt l i).take q) (done:=[]) (fun k hk=>⟨w45 hk,hnx i h k (w45 hk)⟩) (fun _ k hk=>by cases hk)
       exact⟨this.1,this.2.1⟩
      refine za (α:=Nat) (fun q σ=>q≤(nxt l i).length∧ ∃nz,heads [0,3,4,5,6,7] 1 σ=⟨tmps 50 [(0,x),(3,.arr (stk++[cur]).length 0 nx 0 l.length),(4,.bool (((nxt l i).take q).foldl ledK p0).2),(5,.int .i64 i),(6,y),(7,.int .i64 q)],⟨stk++[cur],[⟨nx,bools (((nxt l i).take q).foldl ledK p0).1⟩],nz,[]::live,fl⟩⟩) (fun q=>(nxt l i).length-q) 0 ?_ ?_
      ·refine⟨w06 _,?_⟩
       simp only[go_sem,reduceCtorEq,G0,G1,w21,List.foldl_nil]
       exact⟨_,rfl⟩
      ·rintro q σ ⟨hq,nz,hσ⟩
       rw[hσ]
       clear hσ σ
       dsimp only at hq⊢
       obtain⟨hKq,hiq⟩:=hfold q hq
       by_cases hqn:q<(nxt l i).length
       ·have hsucc:((nxt l i).take (q+1)).foldl ledK p0=ledK (((nxt l i).take q).foldl ledK p0) (nxt l i)[q]:=by rw[w0d hqn,List.foldl_append];rfl
        have hkn:=hnx i h (nxt l i)[q] (w04 hqn)
        generalize ((nxt l i).take q).foldl ledK p0=p at*
        have hpl2:=hKq.r.len
        have e1:nth y q= .int .i64 ((nxt l i)[q]:Nat):=hy.nth hqn
        have hsq:IntKind.i64.wrap ((q:Int)+1)=((q+1:Nat):Int):=by have:=QQ l i;rw[zb (by omega) (by omega)];omega
        have hgi:=vo (s:=p.1) (j:=i) (by omega)
        rw[hiq] at hgi
        have hixk:idx (.int .i64 ((nxt l i)[q]:Nat)) l.length=some (nxt l i)[q]:=zB .i64 _ l.length hkn
        have hgk:=vo (s:=p.1) (j:=(nxt l i)[q]) (by omega)
        have hlt:((q:Int)<((nxt l i).length:Nat))=True:=eq_true (by omega)
        simp only[go_sem,reduceCtorEq,G0,G1,G2,hy.len,hlt,zc,hixi,w10,hgi,hy.at .i64 hqn,e1,hixk,hgk]
        cases hk:p.1.getD (nxt l i)[q] false
        ·have hst:=qA (s:=p.1) (j:=(nxt l i)[q]) true (by omega)
         have hbl:(nxt l i)[q]+1≤(bools p.1).length:=by rw[qB];omega
         simp only[go_sem,reduceCtorEq,G0,G2,hy.at .i64 hqn,e1,zc,hixk,w10,hbl,hst,hsq]
         refine⟨q+1,by omega,by omega,nz,?_⟩
         rw[hsucc];unfold ledK;rw[hk];rfl
        ·simp only[go_sem,reduceCtorEq,G0,G2,hsq]
         refine⟨q+1,by omega,by omega,nz,?_⟩
         rw[hsucc];unfold ledK;rw[hk];rfl
       ·have hqe:q=(nxt l i).length:=by omega
        subst hqe
        rw[w08] at*
        simp only[go_sem,reduceCtorEq,G0,G1,G2,hy.len,show(((nxt l i).length:Nat):Int)<((nxt l i).length:Nat)↔False from⟨fun h=>by omega,False.elim⟩,hsu]
        refine⟨i+1,by omega,by omega,nz,?_⟩
        rw[hstep];unfold ledI;rw[hin];rfl
     ·have hin':p0.1.getD i false=false:=by simpa using hin
      have hgi:=vo (s:=p0.1) (j:=i) (by omega)
      rw[hin'] at hgi
      rw[yw]
      by_cases hq0:((0:Int)<((nxt l i).length:Nat))
      ·simp only[go_sem,reduceCtorEq,G0,G1,G2,hy.len,hq0,zc,hixi,w10,hgi,hsu]
       refine⟨i+1,by omega,by omega,k1,?_⟩
       rw[hstep];unfold ledI;rw[hin'];rfl
      ·simp only[go_sem,reduceCtorEq,G0,G1,G2,hy.len,hq0,hsu]
       refine⟨i+1,by omega,by omega,k1,?_⟩
       rw[hstep];unfold ledI;rw[hin'];rfl
    ·have hie:i=l.length:=by omega
     subst hie
     have hK:=QY (nxt l) l.length hnx hR l.length (w09 _)
     simp only[go_sem,reduceCtorEq,G0,G1,G2,w02,h,hx.len]
     refine⟨ledR (nxt l) s l.length,?_,⟨hK.r,fun e j=>by rw[(hK.eq e).1];exact zao (nxt l) l.length hnx hR e j⟩,_,rfl⟩
     have h1:=hK.le
     cases hch:(ledR (nxt l) s l.length).2
     ·simp;omega
     ·have:=hK.lt hch
      simp;omega
end Go.Proofs.W
end
section
namespace Go.Vs
section
variable (nx : Nat → List Nat) (n : Nat) (W : Nat → Nat) (p0 : Nat)
abbrev MS:=List Bool×List Nat
def updM (s:MS) (k:Nat) (fr:Option Nat):MS×Bool:=
 match fr with
 |none=>((s.1.set k true,s.2.set k p0),true)
 |some i=>if s.1.getD k false then((s.1,s.2.set k (s.2.getD k 0&&&(s.2.getD i 0|||W i))),(s.2.getD k 0&&&(s.2.getD i 0|||W i)) !=s.2.getD k 0) else((s.1.set k true,s.2.set k (s.2.getD i 0|||W i)),true)
def phi:List Bool→List Nat→Nat
 |b::s,o::r=>(if b then o else 65536)+phi s r
 |_,_=>0
theorem z1y: ∀{s:List Bool} {o:List Nat} {k v:Nat} {b:Bool},k<s.length→k<o.length→phi (s.set k b) (o.set k v)+(if s.getD k false then o.getD k 0 else 65536)=phi s o+(if b then v else 65536)
 | [],_,_,_,_,h,_=>by simp at h
 |_::_,[],_,_,_,_,h=>by simp at h
 |b0::s,o0::o,0,v,b,_,_=>by simp[phi];omega
 |b0::s,o0::o,k+1,v,b,h,h'=>by
  have:=z1y (s:=s) (o:=o) (k:=k) (v:=v) (b:=b) (by simpa using h) (by simpa using h')
  simp only[w46,phi,List.getD_cons_succ];omega
theorem zbE: ∀(s:List Bool) (o:List Nat),(∀j,o.getD j 0<65536)→phi s o≤s.length*65536
 | [],_,_=>by simp[phi]
 |_::_,[],_=>by simp[phi]
 |b::s,o0::o,h=>by
  have h0:=h 0
  have:=zbE s o (fun j=>by have:=h (j+1);simpa using this)
  simp only[List.getD_cons_zero] at h0
  simp only[phi,w2f,w43]
  split<;>omega
theorem TA {a b:Nat} (h:a<65536) (k:b<65536):a|||b<65536:=Nat.or_lt_two_pow (n:=16) h k
theorem zbV {a b:Nat} (h:a<65536):a&&&b<65536:=Nat.lt_of_le_of_lt Nat.and_le_left h
theorem z0f {a b:Nat} (h:a&&&b≠a):a&&&b<a:=Nat.lt_of_le_of_ne Nat.and_le_left h
structure MI (s:MS):Prop where
 l1:s.1.length=n
 l2:s.2.length=n
 zero:s.1.getD 0 false=true
 sub: ∀i,s.1.getD i false=true→Rch nx i
 un: ∀i,s.1.getD i false=false→s.2.getD i 0=0
 p:Sub (s.2.getD 0 0) p0
 abv: ∀M,Sol nx W p0 M→ ∀i,s.1.getD i false=true→Sub (M i) (s.2.getD i 0)
 lt: ∀i,s.2.getD i 0<65536
structure MJ (s:MS) (op:List Nat):Prop where
 r:MI nx n W p0 s
 cl: ∀j,s.1.getD j false=true→j∈op∨ ∀k∈nx j,s.1.getD k false=true∧Sub (s.2.getD k 0) (s.2.getD j 0|||W j)
 o: ∀j∈op,j<n∧s.1.getD j false=true
 b:op.length+phi s.1 s.2≤n*65536
structure MK (i:Nat) (done:List Nat) (M:Nat) (s:MS) (op:List Nat):Prop where
 r:MI nx n W p0 s
 cl: ∀j,s.1.getD j false=true→j=i∨j∈op∨ ∀k∈nx j,s.1.getD k false=true∧Sub (s.2.getD k 0) (s.2.getD j 0|||W j)
 o: ∀j∈op,j<n∧s.1.getD j false=true
 b:op.length+phi s.1 s.2+1≤n*65536
 hi:s.1.getD i false=true
 d: ∀k∈done,s.1.getD k false=true∧Sub (s.2.getD k 0) (s.2.getD i 0|||W i)
 m:2*phi s.1 s.2+op.length+1≤M
theorem zeB {α:Type} {s:List α} {k:Nat} {d:α}:s.set k (s.getD k d)=s:=by
 apply w2b
 intro j
 rw[w38]
 by_cases e:k=j
 ·subst e
  rw[if_pos rfl]
  split
  ·rename_i h;simp[w00,h]
  ·rename_i h;rw[w18 (by omega)]
 ·rw[if_neg e]
theorem MK.k (hW: ∀i,W i<65536) {i k M:Nat} {done:List Nat} {s:MS} {op:List Nat} (h:MK nx n W p0 i done M s op) (hk:k∈nx i) (hkn:k<n):MK nx n W p0 i (done++[k]) M (procK (updM W p0) i (s,op) k).1 (procK (updM W p0) i (s,op) k).2:=by
 unfold procK updM
 dsimp only
 obtain⟨met,out⟩:=s
 have hl1:k<met.length:=by rw[h.r.l1];exact hkn
 have hl2:k<out.length:=by rw[h.r.l2];exact hkn
 by_cases hs:met.getD k false=true
 ·simp only[hs,if_true]
  by_cases he:out.getD k 0&&&(out.getD i 0|||W i)=out.getD k 0
  ·have hb:(out.getD k 0&&&(out.getD i 0|||W i) !=out.getD k 0)=false:=by simpa using he
   rw[hb,he,zeB]
   refine⟨h.r,h.cl,h.o,h.b,h.hi,fun k' hk'=> ?_,h.m⟩
   rcases w0a.1 hk' with q|q
   ·exact h.d k' q
   ·rw[w16.1 q]
    exact⟨hs,by dsimp only;rw[←he];exact z0Q _ _⟩
  ·have hb:(out.getD k 0&&&(out.getD i 0|||W i) !=out.getD k 0)=true:=by simpa using he
   have hki:k≠i:=fun e=>he (by subst e;exact Sub.antisymm (TM _ _) (Sub.and (.refl _) fun s x=>by rw[Nat.testBit_or,x];rfl))
   rw[hb]
   simp only[if_true]
   have hlt:=z0f he
   have hph:=z1y (s:=met) (o:=out) (k:=k) (v:=out.getD k 0&&&(out.getD i 0|||W i)) (b:=true) hl1 hl2
   rw[z6K hs,hs] at hph
   simp only[if_true] at hph
   have hget: ∀j,j≠k→(out.set k (out.getD k 0&&&(out.getD i 0|||W i))).getD j 0=out.getD j 0:=fun j hj=>getD_set_ne (Ne.symm hj)
   have hgk:(out.set k (out.getD k 0&&&(out.getD i 0|||W i))).getD k 0=out.getD k 0&&&(out.getD i 0|||W i):=getD_set_eq hl2
   have hsub: ∀j,Sub ((out.set k (out.getD k 0&&&(out.getD i 0|||W i))).getD j 0) (out.getD j 0):=fun j=>by
    by_cases e:j=k
    ·subst e;rw[hgk];exact TM _ _
    ·rw[hget j e];exact .refl _
   refine⟨⟨h.r.l1,by simp[h.r.l2],h.r.zero,h.r.sub,fun j hj=> ?_,(hsub 0).trans h.r.p,fun M hM j hj=> ?_,fun j=>Nat.lt_of_le_of_lt (hsub j).le (h.r.lt j)⟩,fun j hj=> ?_,fun j hj=> ?_,?_,h.hi,fun k' hk'=> ?_,?_⟩
   ·have e:j≠k:=fun e=>by subst e;rw[hs] at hj;cases hj
    rw[hget j e];exact h.r.un j hj
   ·by_cases e:j=k
    ·subst e;rw[hgk]
     exact Sub.and (h.r.abv M hM _ hj) ((hM.2 i (h.r.sub i h.hi) _ hk).trans (Sub.or (h.r.abv M hM i h.hi) (.refl _)))
    ·rw[hget j e];exact h.r.abv M hM j hj
   ·by_cases e:j=k
    ·subst e;exact .inr (.inl (by simp))
    ·rcases h.cl j hj with q|q|q
     ·exact .inl q
     ·exact .inr (.inl (by simp[q]))
     ·exact .inr (.inr fun k' hk'=>⟨(q k' hk').1,by rw[hget j e];exact(hsub k').trans (q k' hk').2⟩)
   ·rcases w0a.1 hj with q|q
    ·exact h.o j q
    ·rw[w16.1 q];exact⟨hkn,hs⟩
   ·have:=h.b;simp only[w05,w19] at this⊢;(try dsimp only at this);omega
   ·rw[hget i (Ne.symm hki)]
    rcases w0a.1 hk' with q|q
    ·exact⟨(h.d k' q).1,(hsub k').trans (h.d k' q).2⟩
    ·rw[w16.1 q];exact⟨hs,by rw[hgk];exact z0Q _ _⟩
   ·have:=h.m;simp only[w05,w19];(try dsimp only at this);omega
 ·have hs':met.getD k false=false:=by simpa using hs
  have hki:k≠i:=fun e=>by subst e;exact hs h.hi
  simp only[hs',w27,if_false,if_true]
  have hph:=z1y (s:=met) (o:=out) (k:=k) (v:=out.getD i 0|||W i) (b:=true) hl1 hl2
  rw[hs'] at hph
  simp only[if_true,w27,if_false] at hph
  have hv:=TA (h.r.lt i) (hW i)
  dsimp only at hv
  have hget: ∀j,j≠k→(out.set k (out.getD i 0|||W i)).getD j 0=out.getD j 0:=fun j hj=>getD_set_ne (Ne.symm hj)
  have hgk:(out.set k (out.getD i 0|||W i)).getD k 0=out.getD i 0|||W i:=getD_set_eq hl2
  have hmet: ∀j,j≠k→(met.set k true).getD j false=met.getD j false:=fun j hj=>getD_set_ne (Ne.symm hj)
  have h0:0≠k:=fun e=>by subst e;rw[h.r.zero] at hs';cases hs'
  refine⟨⟨by simp[h.r.l1],by simp[h.r.l2],zG h.r.zero,fun j hj=> ?_,fun j hj=> ?_,by rw[hget 0 h0];exact h.r.p,fun M hM j hj=> ?_,fun j=> ?_⟩,fun j hj=> ?_,fun j hj=> ?_,?_,zG h.hi,fun k' hk'=> ?_,?_⟩
  ·by_cases e:j=k
   ·subst e;exact .step (h.r.sub i h.hi) hk
   ·rw[hmet j e] at hj;exact h.r.sub j hj
  ·by_cases e:j=k
   ·subst e;rw[zS hl1] at hj;cases hj
   ·rw[hmet j e] at hj;rw[hget j e];exact h.r.un j hj
  ·by_cases e:j=k
   ·subst e;rw[hgk]
    exact(hM.2 i (h.r.sub i h.hi) _ hk).trans (Sub.or (h.r.abv M hM i h.hi) (.refl _))
   ·rw[hmet j e] at hj;rw[hget j e];exact h.r.abv M hM j hj
  ·by_cases e:j=k
   ·subst e;rw[hgk];exact hv
   ·rw[hget j e];exact h.r.lt j
  ·by_cases e:j=k
   ·subst e;exact .inr (.inl (by simp))
   ·rw[hmet j e] at hj
    rcases h.cl j hj with q|q|q
    ·exact .inl q
    ·exact .inr (.inl (by simp[q]))
    ·refine .inr (.inr fun k' hk'=> ?_)
     have hkk:k'≠k:=fun e'=>by subst e';rw[(q k' hk').1] at hs';cases hs'
     exact⟨zG (q k' hk').1,by rw[hget j e,hget k' hkk];exact(q k' hk').2⟩
  ·rcases w0a.1 hj with q|q
   ·exact⟨(h.o j q).1,zG (h.o j q).2⟩
   ·rw[w16.1 q];exact⟨hkn,zS hl1⟩
  ·have:=h.b;simp only[w05,w19] at this⊢;(try dsimp only at this);omega
  ·rw[hget i (Ne.symm hki)]
   rcases w0a.1 hk' with q|q
   ·have hkk:k'≠k:=fun e'=>by subst e';have:=(h.d k' q).1;rw[this] at hs';cases hs'
    exact⟨zG (h.d k' q).1,by rw[hget k' hkk];exact(h.d k' q).2⟩
   ·rw[w16.1 q];exact⟨zS hl1,by rw[hgk];exact .refl _⟩
  ·have:=h.m;simp only[w05,w19];(try dsimp only at this);omega
theorem MK.all (hW: ∀i,W i<65536) {i M:Nat}: ∀{ks done:List Nat} {s:MS} {op:List Nat},MK nx n W p0 i done M s op→(∀k∈ks,k∈nx i∧k<n)→MK nx n W p0 i (done++ks) M (proc (updM W p0) i ks (s,op)).1 (proc (updM W p0) i ks (s,op)).2
 | [],done,s,op,h,_=>by rw[w1f,z6P];exact h
 |k::ks,done,s,op,h,hk=>by
  have h1:=h.k nx n W p0 hW (hk k w24).1 (hk k w24).2
  have:=MK.all hW h1 (fun k' hk'=>hk k' (w26 _ hk'))
  rw[w13,List.singleton_append] at this
  rw[z4q];exact this
theorem MJ.pop {s:MS} {op:List Nat} {i:Nat} (h:MJ nx n W p0 s (op++[i])):MK nx n W p0 i [] (2*phi s.1 s.2+(op++[i]).length) s op:=by
 refine⟨h.r,fun j hj=> ?_,fun j hj=>h.o j (w4b _ hj),?_,(h.o i (by simp)).2,fun k hk=>(by cases hk),?_⟩
 ·rcases h.cl j hj with q|q
  ·rcases w0a.1 q with q|q
   ·exact .inr (.inl q)
   ·exact .inl (w16.1 q)
  ·exact .inr (.inr q)
 ·have:=h.b;simp at this;omega
 ·simp;omega
theorem MJ.next (hW: ∀i,W i<65536) (hnx: ∀i,i<n→ ∀k∈nx i,k<n) {s:MS} {op:List Nat} {i:Nat} (h:MJ nx n W p0 s (op++[i])):
  MJ nx n W p0 (proc (updM W p0) i (nx i) (s,op)).1 (proc (updM W p0) i (nx i) (s,op)).2∧2*phi (proc (updM W p0) i (nx i) (s,op)).1.1 (proc (updM W p0) i (nx i) (s,op)).1.2+(proc (updM W p0) i (nx i) (s,op)).2.length<2*phi s.1 s.2+(op++[i]).length:=by
 have hi:=(h.o i (by simp)).1
 have:=MK.all nx n W p0 hW (h.pop nx n W p0) (ks:=nx i) (fun k hk=>⟨hk,hnx i hi k hk⟩)
 rw[w32] at this
 refine⟨⟨this.r,fun j hj=> ?_,this.o,by have:=this.b;omega⟩,by have:=this.m;omega⟩
 rcases this.cl j hj with q|q|q
 ·subst q;exact .inr this.d
 ·exact .inl q
 ·exact .inr q
theorem MJ.done {s:MS} (h:MJ nx n W p0 s []) (i:Nat):s.2.getD i 0=mskOf nx W p0 i:=by
 have hcl: ∀j,s.1.getD j false=true→ ∀k∈nx j,s.1.getD k false=true∧Sub (s.2.getD k 0) (s.2.getD j 0|||W j):=fun j hj=>(h.cl j hj).elim (fun q=>by cases q) id
 have hr: ∀j,Rch nx j→s.1.getD j false=true:=fun j hj=>by
  induction hj with
  |zero=>exact h.r.zero
  |step _ hk ih=>exact(hcl _ ih _ hk).1
 refine Great.is nx W p0 (o:=fun i=>s.2.getD i 0) ⟨fun j hj=>h.r.un j ?_,⟨h.r.p,fun j hj k hk=>(hcl j (hr j hj) k hk).2⟩,fun M hM j hj=>h.r.abv M hM j (hr j hj)⟩ i
 cases hb:s.1.getD j false with
 |false=>rfl
 |true=>exact absurd (h.r.sub j hb) hj
theorem MJ.start (hn:0<n) (hp:p0<65536):MJ nx n W p0 (updM W p0 (List.replicate n false,List.replicate n 0) 0 none).1 [0]:=by
 have hl:0<(List.replicate n false).length:=by simpa using hn
 have hl2:0<(List.replicate n 0).length:=by simpa using hn
 have hg: ∀j,(List.replicate n false).getD j false=false:=fun j=>by
  simp only[w00,w3b];split<;>rfl
 have hg2: ∀j,(List.replicate n 0).getD j 0=0:=fun j=>by
  simp only[w00,w3b];split<;>rfl
 have hmet: ∀j,j≠0→((List.replicate n false).set 0 true).getD j false=false:=fun j hj=>by rw[getD_set_ne (Ne.symm hj),hg]
 have hout: ∀j,j≠0→((List.replicate n 0).set 0 p0).getD j 0=0:=fun j hj=>by rw[getD_set_ne (Ne.symm hj),hg2]
 have ho0:((List.replicate n 0).set 0 p0).getD 0 0=p0:=getD_set_eq hl2
 have hph:=z1y (s:=List.replicate n false) (o:=List.replicate n 0) (k:=0) (v:=p0) (b:=true) hl hl2
 have hp0:=zbE (List.replicate n false) (List.replicate n 0) (fun j=>by rw[hg2];omega)
 rw[hg] at hph
 simp only[List.length_replicate,if_true,w27,if_false] at hph hp0
 unfold updM
 dsimp only
 refine⟨⟨by simp,by simp,zS hl,fun j hj=> ?_,fun j hj=> ?_,by dsimp only;rw[ho0];exact .refl _,fun M hM j hj=> ?_,fun j=> ?_⟩,fun j hj=> ?_,fun j hj=> ?_,?_⟩
 ·by_cases e:j=0
  ·subst e;exact .zero
  ·dsimp only at hj;rw[hmet j e] at hj;cases hj
 ·by_cases e:j=0
  ·subst e;dsimp only at hj;rw[zS hl] at hj;cases hj
  ·exact hout j e
 ·by_cases e:j=0
  ·subst e;dsimp only;rw[ho0];exact hM.1
  ·dsimp only at hj;rw[hmet j e] at hj;cases hj
 ·by_cases e:j=0
  ·subst e;dsimp only;rw[ho0];exact hp
  ·dsimp only;rw[hout j e];omega
 ·by_cases e:j=0
  ·subst e;exact .inl (by simp)
  ·dsimp only at hj;rw[hmet j e] at hj;cases hj
 ·rw[w16.1 hj];exact⟨hn,zS hl⟩
 ·simp only[w19];omega
def livK (i:Nat) (p:List Nat×Bool) (k:Nat):List Nat×Bool:=if(p.1.getD k 0&&&(p.1.getD i 0|||W i)) !=p.1.getD k 0 then(p.1.set k (p.1.getD k 0&&&(p.1.getD i 0|||W i)),true) else p
def livI (led:List Bool) (p:List Nat×Bool) (i:Nat):List Nat×Bool:=if led.getD i false then(nx i).foldl (livK W i) p else p
def livR (led:List Bool) (m:List Nat):Nat→List Nat×Bool
 |0=>(m,false)
 |i+1=>livI nx W led (livR led m i) i
structure VI (m:List Nat):Prop where
 l:m.length=n
 p:Sub (m.getD 0 0) p0
 abv: ∀M,Sol nx W p0 M→ ∀i,Rch nx i→Sub (M i) (m.getD i 0)
 lt: ∀i,m.getD i 0<65536
structure VK (m:List Nat) (j:Nat) (p:List Nat×Bool):Prop where
 r:VI nx n W p0 p.1
 le:p.1.sum≤m.sum
 eq:p.2=false→p.1=m∧ ∀i,i<j→Rch nx i→ ∀k∈nx i,Sub (m.getD k 0) (m.getD i 0|||W i)
 lt:p.2=true→p.1.sum<m.sum
theorem z9m: ∀{m:List Nat} {k v:Nat},k<m.length→(m.set k v).sum+m.getD k 0=m.sum+v
 | [],_,_,h=>by simp at h
 |a::m,0,v,_=>by simp;omega
 |a::m,k+1,v,h=>by
  have:=z9m (m:=m) (k:=k) (v:=v) (by simpa using h)
  simp only[w46,List.sum_cons,List.getD_cons_succ];omega
theorem z0F {m:List Nat} {j i:Nat} (hr:Rch nx i): ∀{ks done:List Nat} {p:List Nat×Bool},VK nx n W p0 m j p→(∀k∈ks,k∈nx i∧k<n)→(p.2=false→ ∀k∈done,Sub (m.getD k 0) (m.getD i 0|||W i))→
  VK nx n W p0 m j (ks.foldl (livK W i) p)∧((ks.foldl (livK W i) p).2=false→ ∀k∈done++ks,Sub (m.getD k 0) (m.getD i 0|||W i))
 | [],done,p,h,_,hd=>⟨h,by rw[w1f];exact hd⟩
 |k::ks,done,p,h,hk,hd=>by
  have hkk:=hk k w24
  have h1:VK nx n W p0 m j (livK W i p k)∧((livK W i p k).2=false→ ∀k'∈done++[k],Sub (m.getD k' 0) (m.getD i 0|||W i)):=by
   unfold livK
   have hl:k<p.1.length:=by rw[h.r.l];exact hkk.2
   by_cases he:p.1.getD k 0&&&(p.1.getD i 0|||W i)=p.1.getD k 0
   ·have hb:(p.1.getD k 0&&&(p.1.getD i 0|||W i) !=p.1.getD k 0)=false:=by simpa using he
    rw[hb]
    simp only[w27,if_false]
    refine⟨h,fun e k' hk'=> ?_⟩
    rcases w0a.1 hk' with q|q
    ·exact hd e k' q
    ·rw[w16.1 q,←(h.eq e).1,←he];exact z0Q _ _
   ·have hb:(p.1.getD k 0&&&(p.1.getD i 0|||W i) !=p.1.getD k 0)=true:=by simpa using he
    rw[hb]
    simp only[if_true]
    have hlt:=z0f he
    have hs:=z9m (m:=p.1) (v:=p.1.getD k 0&&&(p.1.getD i 0|||W i)) hl
    have hget: ∀j,j≠k→(p.1.set k (p.1.getD k 0&&&(p.1.getD i 0|||W i))).getD j 0=p.1.getD j 0:=fun j hj=>getD_set_ne (Ne.symm hj)
    have hgk:(p.1.set k (p.1.getD k 0&&&(p.1.getD i 0|||W i))).getD k 0=p.1.getD k 0&&&(p.1.getD i 0|||W i):=getD_set_eq hl
    have hsub: ∀j,Sub ((p.1.set k (p.1.getD k 0&&&(p.1.getD i 0|||W i))).getD j 0) (p.1.getD j 0):=fun j=>by
     by_cases e:j=k
     ·subst e;rw[hgk];exact TM _ _
     ·rw[hget j e];exact .refl _
    have hle:=h.le
    refine⟨⟨⟨by simp[h.r.l],(hsub 0).trans h.r.p,fun M hM j hj=> ?_,fun j=>Nat.lt_of_le_of_lt (hsub j).le (h.r.lt j)⟩,by dsimp only;omega,fun e=>(by cases e),fun _=>(by dsimp only;omega)⟩,fun e=>(by cases e)⟩
    by_cases e:j=k
    ·subst e;dsimp only;rw[hgk]
     exact Sub.and (h.r.abv M hM _ hj) ((hM.2 i hr _ hkk.1).trans (Sub.or (h.r.abv M hM i hr) (.refl _)))
    ·dsimp only;rw[hget j e];exact h.r.abv M hM j hj
  have:=z0F hr h1.1 (fun k' hk'=>hk k' (w26 _ hk')) h1.2
  rw[w13,List.singleton_append] at this
  exact this
theorem QX (hnx: ∀i,i<n→ ∀k∈nx i,k<n) {led:List Bool} (hled: ∀i,led.getD i false=true↔Rch nx i) {m:List Nat} (h:VI nx n W p0 m): ∀j,j≤n→VK nx n W p0 m j (livR nx W led m j)
 |0,_=>⟨h,w09 _,fun _=>⟨rfl,fun i hi=>absurd hi (w35 _)⟩,fun e=>by cases e⟩
 |j+1,hj=>by
  have ih:=QX hnx hled h j (by omega)
  unfold livR livI
  split
  ·rename_i hs
   have hr:=(hled j).1 hs
   obtain⟨q1,q3⟩:=z0F nx n W p0 hr ih (ks:=nx j) (done:=[]) (fun k hk=>⟨hk,hnx j (by omega) k hk⟩) (fun _ k hk=>by cases hk)
   refine⟨q1.r,q1.le,fun e=>⟨(q1.eq e).1,fun i hi=> ?_⟩,q1.lt⟩
   by_cases hij:i=j
   ·subst hij;intro _;exact q3 e
   ·exact(q1.eq e).2 i (by omega)
  ·rename_i hs
   refine⟨ih.r,ih.le,fun e=>⟨(ih.eq e).1,fun i hi hri=> ?_⟩,ih.lt⟩
   by_cases hij:i=j
   ·subst hij;exact absurd ((hled i).2 hri) hs
   ·exact(ih.eq e).2 i (by omega) hri
theorem zbD (hn:0<n) (hnx: ∀i,i<n→ ∀k∈nx i,k<n) {i:Nat} (h:Rch nx i):i<n:=by
 induction h with
 |zero=>exact hn
 |step _ hk ih=>exact hnx _ ih _ hk
theorem zak (hn:0<n) (hnx: ∀i,i<n→ ∀k∈nx i,k<n) {led:List Bool} (hled: ∀i,led.getD i false=true↔Rch nx i) {m:List Nat} (h:VI nx n W p0 m) (e:(livR nx W led m n).2=false) (i:Nat):(if led.getD i false then m.getD i 0 else 0)=mskOf nx W p0 i:=by
 have hK:=(QX nx n W p0 hnx hled h n (w09 _)).eq e
 refine Great.is nx W p0 (o:=fun i=>if led.getD i false then m.getD i 0 else 0) ⟨fun j hj=> ?_,⟨?_,fun j hj k hk=> ?_⟩,fun M hM j hj=> ?_⟩ i
 ·dsimp only;rw[if_neg fun q=>hj ((hled j).1 q)]
 ·dsimp only;rw[if_pos ((hled 0).2 .zero)];exact h.p
 ·dsimp only;rw[if_pos ((hled j).2 hj),if_pos ((hled k).2 (.step hj hk))]
  exact hK.2 j (zbD nx n hn hnx hj) hj k hk
 ·dsimp only;rw[if_pos ((hled j).2 hj)];exact h.abv M hM j hj
theorem Sol.le {M:Nat→Nat} (h:Sol nx W p0 M) {a:Nat} (hp:Sub p0 a) (hw: ∀i,Sub (W i) a) {i:Nat} (hr:Rch nx i):Sub (M i) a:=by
 induction hr with
 |zero=>exact h.1.trans hp
 |step hr hk ih=>exact(h.2 _ hr _ hk).trans (zbH ih (hw _))
theorem VI.start (hn:0<n) (hnx: ∀i,i<n→ ∀k∈nx i,k<n) {a:Nat} (hp:Sub p0 a) (hw: ∀i,Sub (W i) a) (ha:a<65536):VI nx n W p0 ((List.replicate n a).set 0 p0):=by
 have hl:0<(List.replicate n a).length:=by simpa using hn
 have h0:((List.replicate n a).set 0 p0).getD 0 0=p0:=getD_set_eq hl
 have hp':=hp.le
 refine⟨by simp,by rw[h0];exact .refl _,fun M hM j hj=> ?_,fun j=> ?_⟩
 ·by_cases e:j=0
  ·subst e;rw[h0];exact hM.1
  ·rw[getD_set_ne (Ne.symm e)]
   intro s hs
   have:=hM.le nx W p0 hp hw hj s hs
   simp only[w00,w3b]
   split
   ·exact this
   ·rename_i hjn
    exact absurd (zbD nx n hn hnx hj) hjn
 ·by_cases e:j=0
  ·subst e;rw[h0];omega
  ·rw[getD_set_ne (Ne.symm e)]
   simp only[w00,w3b]
   split
   ·exact ha
   ·simp
end
end Go.Vs
end
section
namespace Go.Proofs.W
open Go.Vs
set_option linter.unusedSimpArgs false
set_option maxRecDepth 100000
def us (s:List Nat):List AV:=s.map fun n:Nat=> .int .u64 (n:Int)
theorem Ue (s:List Nat):(us s).length=s.length:=by simp[us]
theorem jR {s:List Nat} {j:Nat} (h:j<s.length):takeV false 1 ((us s).drop j)=some (.int .u64 ((s.getD j 0:Nat):Int)):=by
 refine li _ _ ?_
 rw[List.head?_drop]
 simp[us,w00,h]
theorem Ud {s:List Nat} {j:Nat} (v:Nat) (h:j<s.length):(us s).take j++[.int .u64 (v:Int)]++(us s).drop (j+1)=us (s.set j v):=by
 unfold us
 rw[List.map_set,w59,if_pos (by simpa using h)];simp
theorem z5h (n:Nat):flatRep [.int .u64 0] n=us (List.replicate n 0):=by
 induction n with
 |zero=>rfl
 |succ n ih=>rw[flatRep,ih,w4f];rfl
theorem z2i (l l' k:Nat) (s:List Nat):shiftAll l l' k (us s)=us s:=by
 induction s with
 |nil=>rfl
 |cons b r ih=>simp only[us,w37,shiftAll,AV.shift] at ih⊢;rw[ih]
theorem Zi (a:Nat) (h:a<65536):(BitVec.ofInt 64 (a:Int)).toNat=a:=by
 rw[BitVec.ofInt_natCast,BitVec.toNat_ofNat];omega
theorem z2Z {a b:Nat} (ha:a<65536) (hb:b<65536):evBits .or .u64 (a:Int) (b:Int)=some (.int .u64 ((a|||b:Nat):Int)):=by
 have h:=TA ha hb
 unfold evBits
 show some (AV.int .u64 (IntKind.u64.wrap (((BitVec.ofInt 64 (a:Int)|||BitVec.ofInt 64 (b:Int):BitVec 64).toNat:Nat):Int)))=_
 rw[BitVec.toNat_or,Zi a ha,Zi b hb,zM (by omega) (by omega)]
theorem z8L {a b:Nat} (ha:a<65536) (hb:b<65536):evBits .and .u64 (a:Int) (b:Int)=some (.int .u64 ((a&&&b:Nat):Int)):=by
 have h:=zbV (b:=b) ha
 unfold evBits
 show some (AV.int .u64 (IntKind.u64.wrap (((BitVec.ofInt 64 (a:Int)&&&BitVec.ofInt 64 (b:Int):BitVec 64).toNat:Nat):Int)))=_
 rw[BitVec.toNat_and,Zi a ha,Zi b hb,zM (by omega) (by omega)]
theorem pow16 {s:Nat} (h:s<16):2^s<65536:=Nat.pow_lt_pow_right (by decide) h
theorem zcm {s:Int} (h:0≤s∧s<16):evShift .shl .u64 1 s=some (.int .u64 ((2^s.toNat:Nat):Int)):=by
 have hp:=pow16 (s:=s.toNat) (by omega)
 unfold evShift
 rw[if_neg (by omega)]
 simp only[IntKind.bits,Int.one_mul]
 rw[Nat.min_eq_left (by omega)]
 have:((2:Int)^s.toNat)=((2^s.toNat:Nat):Int):=by simp
 rw[this]
 generalize 2^s.toNat=p at*
 rw[zM (by omega) (by omega)]
theorem z7B {s:Int} (h:0≤s∧s≤16):evShift .shl .u64 1 s=some (.int .u64 ((2^s.toNat:Nat):Int)):=by
 have hp:2^s.toNat≤65536:=w4c (by decide) (show s.toNat≤16 by omega)
 unfold evShift
 rw[if_neg (by omega)]
 simp only[IntKind.bits,Int.one_mul]
 rw[Nat.min_eq_left (by omega)]
 have:((2:Int)^s.toNat)=((2^s.toNat:Nat):Int):=by simp
 rw[this]
 generalize 2^s.toNat=p at*
 rw[zM (by omega) (by omega)]
theorem z61 {a:Nat} {s:Int} (h:0≤s∧s≤16):evShift .shr .u64 (a:Int) s=some (.int .u64 ((a>>>s.toNat:Nat):Int)):=by
 unfold evShift
 rw[if_neg (by omega)]
 simp only[IntKind.bits]
 rw[Nat.min_eq_left (by omega)]
 congr 2
 have:((2:Int)^s.toNat)=((2^s.toNat:Nat):Int):=by simp
 rw[this,Nat.shiftRight_eq_div_pow]
 generalize 2^s.toNat=p at*
 rw[Int.fdiv_eq_ediv_of_nonneg _ (by omega)];simp
def maskK (l:List Int) (k:Nat):Nat:=(l.take k).foldl (fun m s=>m|||2^s.toNat) 0
def maskN (l:List Int):Nat:=maskK l l.length
theorem Qp {l:List Int} {k:Nat} (h:k<l.length):maskK l (k+1)=maskK l k|||2^(l[k]).toNat:=by
 unfold maskK;rw[w0d h,List.foldl_append];rfl
theorem T1 {l:List Int} {n:Nat} (h: ∀s∈l,0≤s∧s<n): ∀k,k≤l.length→maskK l k<2^n
 |0,_=>by unfold maskK;simp;exact Nat.two_pow_pos n
 |k+1,hk=>by
  rw[Qp (by omega)]
  have:=h _ (w04 (show k<l.length by omega))
  exact Nat.or_lt_two_pow (T1 h k (by omega)) (Nat.pow_lt_pow_right (by decide) (by omega))
def Low (l:List Int):Prop:= ∀s∈l,0≤s∧s<16
theorem kG {l:List Int} (h:Low l) {k:Nat} (hk:k≤l.length):maskK l k<65536:=T1 (n:=16) (fun s hs=>by have:=h s hs;omega) k hk
theorem zbg (l:List Int) (x:AV) (hx:IsSl IsI 1 l x) (hl:Low l) (m:Mem):Okv tab Yb [x] m (.int .u64 (maskN l:Nat)):=by
 refine ze z6F ?_
 obtain⟨stk,cur,nx,live,fl⟩:=m
 simp only[Tp,List.map,go_sem,reduceCtorEq,G0,G2,hx.len]
 refine za (α:=Nat) (fun k σ=>k≤l.length∧ ∃nz,heads [3,6,7,8] 0 σ=⟨tmps 18 [(3,.int .u64 (maskK l k:Nat)),(6,x),(7,.int .i64 l.length),(8,.int .i64 k)],⟨stk++[cur],[],nz,[]::live,fl⟩⟩) (fun k=>l.length-k) 0 ?_ ?_
 ·refine⟨w06 _,?_⟩
  simp only[go_sem,reduceCtorEq,G0,G1]
  exact⟨_,rfl⟩
 ·rintro k σ ⟨hk,nz,hσ⟩
  rw[hσ]
  clear hσ σ
  dsimp only at hk⊢
  by_cases h:k<l.length
  ·have e1:nth x k= .int .i64 l[k]:=hx.nth h
   have hsucc:=zd h hx.max
   have hb:=hl _ (w04 h)
   simp only[go_sem,G0,G1,G2,w02,h,hx.at _ h,e1,zcm hb,z2Z (kG hl hk) (pow16 (s:=(l[k]).toNat) (by omega)),hsucc]
   refine⟨k+1,by omega,h,nz,?_⟩
   rw[Qp h]
  ·have:k=l.length:=by omega
   subst this
   simp only[go_sem,G0,G1,G2,w02,h]
   rw[z6 rfl rfl,z8]
   exact⟨⟨_,rfl⟩,rfl⟩
theorem zfd {c:UInt8} (h:rd c=true):hi c=15:=by
 unfold rd at h
 simp only[w2c,beq_iff_eq] at h
 rcases h with rfl|rfl<;>rfl
theorem zfc {c:UInt8} (h:wt c=true):hi c=15:=by
 unfold wt at h
 simp only[w2c,beq_iff_eq] at h
 rcases h with rfl|rfl<;>rfl
theorem z5R {x:DInstr} (hx:InstrP x) (hw:WfI x):Low (rds x):=by
 obtain⟨a,b,c,hs,_⟩:=hx
 have hx:InstrP x:=⟨a,b,c,hs,by assumption⟩
 intro s h
 unfold rds rdsk at h
 simp only[w44,w55,w42,w0f,decide_eq_true_eq] at h
 obtain⟨k,⟨hk,h1,h2⟩,rfl⟩:=h
 have:=(ZG hs hx hw hk).2.1
 unfold fitsK at this
 rw[zfd h1] at this;omega
theorem Z6 {x:DInstr} (hx:InstrP x) (hw:WfI x):Low (wrs x):=by
 obtain⟨a,b,c,hs,_⟩:=hx
 have hx:InstrP x:=⟨a,b,c,hs,by assumption⟩
 intro s h
 unfold wrs wrsk at h
 simp only[w44,w55,w42,w0f,decide_eq_true_eq] at h
 obtain⟨k,⟨hk,h1,h2⟩,rfl⟩:=h
 have:=(ZG hs hx hw hk).2.1
 unfold fitsK at this
 rw[zfc h1] at this;omega
theorem z0p (x:DInstr) (hw:WfI x) (hx:InstrP x) (m:Mem):Okv tab xp [.agg [.int .u8 x.op,.int .i64 x.a,.int .i64 x.b,.int .i64 x.c]] m (.int .u64 (maskN (wrs x):Nat)):=by
 refine ze X2 ?_
 obtain⟨stk,cur,nx,live,fl⟩:=m
 have hl:=Z6 hx hw
 simp only[vY,List.map,go_sem,reduceCtorEq,G3,G0,G2]
 refine(YZ x hw hx _).xv fun r ts n1 ⟨y1,y2,hr,ho⟩=> ?_
 subst hr
 have hy:=ho.r.sl (by have:=Zn x 3;unfold wrs;omega)
 generalize wrs x=l at*
 simp only[go_sem,reduceCtorEq,G0,G2]
 refine za (α:=Nat) (fun k σ=>k≤l.length∧ ∃nz e,heads [4,5,6] 1 σ=⟨tmps 26 [(4,y2),(5,.int .u64 (maskK l k:Nat)),(6,.int .i64 k)],⟨stk++[cur],[⟨nx,[.int .u8 x.op,.int .i64 x.a,.int .i64 x.b,.int .i64 x.c]⟩],nz,e::live,fl⟩⟩) (fun k=>l.length-k) 0 ?_ ?_
 ·refine⟨w06 _,?_⟩
  cases ts<;>simp only[go_sem,reduceCtorEq,G0,G1]<;>exact⟨_,_,rfl⟩
 ·rintro k σ ⟨hk,nz,e,hσ⟩
  rw[hσ]
  clear hσ σ
  dsimp only at hk⊢
  by_cases h:k<l.length
  ·have e1:nth y2 k= .int .i64 l[k]:=hy.nth h
   have hsucc:=zd h hy.max
   have hb:=hl _ (w04 h)
   simp only[go_sem,G0,G1,G2,w02,h,hy.len,hy.at _ h,e1,zcm hb,z2Z (kG hl hk) (pow16 (s:=(l[k]).toNat) (by omega)),hsucc]
   refine⟨k+1,by omega,h,nz,e,?_⟩
   rw[Qp h]
  ·have:k=l.length:=by omega
   subst this
   simp only[go_sem,G0,G1,G2,w02,h,hy.len]
   rw[z6 rfl rfl,z8]
   exact⟨⟨_,rfl⟩,rfl⟩
theorem z5c (n:Int) (h:0≤n∧n≤16) (m:Mem):Okv tab yz [.int .i64 n] m (.int .u64 ((2^n.toNat-1:Nat):Int)):=by
 refine ze V1 ?_
 obtain⟨stk,cur,nx,live,fl⟩:=m
 have hp:2^n.toNat≤65536:=w4c (by decide) (show n.toNat≤16 by omega)
 have h1:1≤2^n.toNat:=Nat.one_le_two_pow
 have hw:IntKind.u64.wrap (((2^n.toNat:Nat):Int)-1)=((2^n.toNat-1:Nat):Int):=by rw[zM (by omega) (by omega)];omega
 simp only[uX,List.map,go_sem,reduceCtorEq,G0,G2,z7B h,hw]
 rw[z6 rfl rfl,z8]
 exact⟨⟨_,rfl⟩,rfl⟩
theorem zb6 {S':List (List Blk)} {b0 b1 b2:Blk} {st nx fl n:Nat} {cs:List AV} {rest:List Blk} {live:List (List Nat)} {v:AV} (hv:v.cells=[v]) (hn:n≤cs.length) (hfl:fl≤S'.length) (hb:(n+1)*8≤140737488355328):
  evApp ⟨S',b0::b1::b2::⟨st,cs⟩::rest,nx,live,fl⟩ 1 8 (.grow 1 S'.length 3 st n) (.list 1 .full [v])=some (.grow 1 S'.length 3 nx (n+1),⟨S',b0::b1::b2::⟨nx,cs.take n++[v]⟩::rest,nx+1,live,fl⟩):=by
 unfold evApp
 rw[zh]
 have hblk:Mem.blk ⟨S',b0::b1::b2::⟨st,cs⟩::rest,nx,live,fl⟩ S'.length 3 st=some cs:=by simp[Mem.blk,Mem.row]
 simp only[hblk]
 rw[if_pos (by simp[hn,hfl];omega)]
 simp[Mem.put,hv]
theorem zcL {lv:Nat} {a0 a1 a2 a3 b0 b1 b2 b3:Blk} {r:List Blk} {y:AV} {l:List Nat} (h:LI 4 lv (a0::a1::a2::a3::r) y l):LI 4 lv (b0::b1::b2::b3::r) y l:=by
 rcases h with h|⟨k,st,cs,h1,h2,h3,h4,h5⟩
 ·exact .inl h
 ·obtain⟨k,rfl⟩: ∃q,k=q+4:=⟨k-4,by omega⟩
  exact .inr ⟨k+4,st,cs,h1,h2,h3,h4,h5⟩
theorem take4 {α:Type} (a b c e:α) (l:List α):List.take (l.length+4) (a::b::c::e::l)=a::b::c::e::l:=w53 (w09 _)
theorem z03 {l:List Nat} {i:Nat} (h:i<l.length):l.getD i 0=l[i]:=by rw[w00,w11 h];rfl
theorem z9V (d:DImage) (f:DFunc) (h:FunP d f) (y:AV) (hy:NV d f y) (m:Mem) (hf:m.floor≤m.stk.length+1):
  CallSc vR [y] f.code.length (GoodF d f) (pb (ScrP d f)) (fun cs=>cs=us ((labs d f).map (sumB d.types))) m:=by
 have hy':=hy
 obtain⟨ty,tx,fs,w0,w1,w2,w3,rfl,h0,h1,h2,q0,q1,q2,q3⟩:=hy
 refine z4S Yq ?_
 obtain⟨stk,cur,nx,live,fl⟩:=m
 dsimp only at hf
 have hf':fl≤(stk++[cur]).length+1:=by simp;omega
 have hAf:=fun x hx hw hN l z hz hin hlen c n lv fl'=>zes d h.img h.ty _ _ hy' h.s x hx hw hN l z hz hin hlen ⟨stk++[cur],c,n,lv,fl'⟩
 have hNx:=fun i hi c n lv=>zev f.code w1 q1 h.c h.o i hi ⟨stk++[cur],c,n,lv,fl⟩ hf'
 have hby:=fun ts x hx hin hlen m=>(QD d h.ty f _ hy' ts x hx hin hlen m).eq
 have hln:=h.c.len
 have hnx:=fun i hi=>UI h.c h.o (i:=i) hi
 have hSC:ScrP d f↔GoodF d f∧LastS (nxt f.code) (stF d f) f.code.length:=Iff.rfl
 have hstok:=fun i hi l l' hl hs=>zbx h (i:=i) hi (l:=l) (l':=l') hl hs
 have hstF: ∀i l,stF d f i l=stS d f (inA f.code i) l:=fun _ _=>rfl
 have hNear:=h.n
 have hC:=h.c
 generalize hn:f.code.length=n at*
 generalize hst:stF d f=st at*
 generalize hnxt:nxt f.code=nxf at*
 have hl0:0<(List.replicate n false).length:=by simp;omega
 have hst0:=qA (s:=List.replicate n false) (j:=0) true hl0
 have hbl0:0+1≤(bools (List.replicate n false)).length:=by rw[qB];omega
 have hix0:idx (.int .i64 0) n=some 0:=zB .i64 0 n (by omega)
 have hq1l:evLen w1=some (.int .i64 n):=by rw[←hn];exact q1.len
 simp only[w21,w32,w39] at hst0 hbl0
 simp only[vM,List.map,go_sem,reduceCtorEq,G3,G0,G2,hq1l,xS (s:=1) (bytes:=24) (n:=n) (z:=[.nils]) (by omega) (by omega) rfl,xS (s:=1) (bytes:=1) (n:=n) (z:=[.bool false]) (by omega) (by omega) rfl,XF,zc,hix0,w10,hbl0,hst0,evLitB,w31,List.flatMap_nil]
 have hT0:InT d.types []:=fun t ht=>by cases ht
 have hGF:GoodF d f↔GoodS nxf st n:=by unfold GoodF;rw[hn,hst,hnxt]
 have hlabs: ∀out:List (List Int),out.length=n→(∀i,out.getD i []=labOf nxf st i)→out=labs d f:=fun out h1 h2=>z9C (by rw[hn];exact h1) (by rw[hst,hnxt];exact h2)
 have hbox: ∀c:List Blk,(⟨nx,[ty,tx,fs,.str f.name,.int .i64 f.params,.int .i64 f.result,w0,w1,w2,w3]⟩::c:List Blk)=⟨nx,[ty,tx,fs,.str f.name,.int .i64 f.params,.int .i64 f.result,w0,w1,w2,w3]⟩::c:=fun _=>rfl
 refine za (α:=List Bool×List (List Int)×List Nat) (fun z σ=>SJ nxf n st (InT d.types) z.1 z.2.1 z.2.2∧ ∃nz e cs os st3,lists z.2.1 cs∧z.2.2.length≤os.length∧os.take z.2.2.length=ints z.2.2∧heads [1,4,5,6,7] 4 σ=⟨tmps 136 [(1,.ptr (stk++[cur]).length 0 nx 0),(4,w1),(5,.arr (stk++[cur]).length 1 (nx+1) 0 n),(6,.arr (stk++[cur]).length 2 (nx+1+1) 0 n),(7,.grow 1 (stk++[cur]).length 3 st3 z.2.2.length)],⟨stk++[cur],[⟨nx,[ty,tx,fs,.str f.name,.int .i64 f.params,.int .i64 f.result,w0,w1,w2,w3]⟩,⟨nx+1,cs⟩,⟨nx+1+1,bools z.1⟩,⟨st3,os⟩],nz,e::live,fl⟩⟩) (fun z=>2*unm z.1+z.2.2.length) ((List.replicate n false).set 0 true,List.replicate n [],[0]) ?_ ?_
 ·refine⟨SJ.start nxf n st (InT d.types) (by omega) hT0,?_⟩
  simp only[go_sem,reduceCtorEq,G0,G1]
  exact⟨_,_,_,_,_,z4y n,by simp,rfl,rfl⟩
 ·rintro⟨kn0,out0,op⟩ σ ⟨hJ,nz,e,cs,os,st3,hcs,hos,htk,hσ⟩
  rw[hσ]
  clear hσ σ
  dsimp only at hJ hcs hos htk⊢
  rcases List.eq_nil_or_concat op with rfl|⟨op,i,rfl⟩
  ·obtain⟨hG,hlab⟩:=hJ.done
   have hol:=hJ.r.r.len2
   have hout:=hlabs out0 hol hlab
   have hJt:=hJ.r.t
   have hJl:=hJ.r.len
   subst hout
   simp only[go_sem,G3,G0,G1,G2,Wx,w30,show((((0:Nat):Int))>0)=False from eq_false (by decide),hq1l,xS (s:=1) (bytes:=8) (n:=n) (z:=[.int .u64 0]) (by omega) (by omega) rfl]
   have hel:evLen (.arr (stk++[cur]).length 1 (nx+1) 0 n)=some (.int .i64 n):=rfl
   simp only[go_sem,G3,hel]
   refine za (α:=Nat) (fun k σ=>k≤n∧ ∃so nz e vs,vs.length=n∧(∀j,j<k→vs.getD j 0=sumB d.types ((labs d f).getD j []))∧heads [1,4,5,15,106,107,108] 5 σ=⟨tmps 136 [(1,.ptr (stk++[cur]).length 0 nx 0),(4,w1),(5,.arr (stk++[cur]).length 1 (nx+1) 0 n),(15,.arr (stk++[cur]).length 4 so 0 n),(106,.arr (stk++[cur]).length 1 (nx+1) 0 n),(107,.int .i64 n),(108,.int .i64 k)],⟨stk++[cur],[⟨nx,[ty,tx,fs,.str f.name,.int .i64 f.params,.int .i64 f.result,w0,w1,w2,w3]⟩,⟨nx+1,cs⟩,⟨nx+1+1,bools kn0⟩,⟨st3,os⟩,⟨so,us vs⟩],nz,e::live,fl⟩⟩) (fun k=>n-k) 0 ?_ ?_
   ·refine⟨w06 _,?_⟩
    simp only[go_sem,G0,G1]
    exact⟨_,_,_,List.replicate n 0,by simp,fun j hj=>absurd hj (w35 _),by rw[z5h];rfl⟩
   ·clear hJ hos htk
    rintro k σ ⟨hk,so,nz,e,vs,hvl,hvs,hσ⟩
    rw[hσ]
    clear hσ σ
    dsimp only at hk⊢
    by_cases hkn:k<n
    ·have hixk:idx (.int .i64 (k:Int)) n=some k:=zB .i64 k n hkn
     obtain⟨yk,hyk,hyks⟩:=jc hcs (k:=k) (by omega)
     have hT1:=hJt k
     have hT2:=hJl k
     have hb:=fun m=>hby _ _ hyks hT1 (by omega) m
     have hsu:IntKind.i64.wrap ((k:Int)+1)=((k+1:Nat):Int):=by rw[zb (by omega) (by omega)];omega
     have hB1:sumB d.types ((labs d f).getD k [])≤264*1001:=w4d (QI h.ty hT1 _ (w09 _)) (Nat.mul_le_mul_left _ (by omega))
     have hwu:IntKind.u64.wrap ((sumB d.types ((labs d f).getD k []):Nat):Int)=((sumB d.types ((labs d f).getD k []):Nat):Int):=zM (by omega) (by omega)
     have hus:=Ud (s:=vs) (j:=k) (sumB d.types ((labs d f).getD k [])) (by omega)
     have hubl:k+1≤(us vs).length:=by rw[Ue];omega
     simp only[go_sem,G3,G0,G1,G2,w02,hkn,zc,hixk,w10,hyk,hb,show((0:Int) !=0)=false from rfl,hsu,hwu,hus,hubl]
     refine⟨k+1,by omega,hkn,so,_,e,vs.set k (sumB d.types ((labs d f).getD k [])),by simpa using hvl,fun j hj=> ?_,rfl⟩
     by_cases hjk:k=j
     ·subst hjk
      rw[w00];simp[hvl,hkn]
     ·rw[w00,w38]
      simp only[hjk,if_false]
      rw[←w00];exact hvs j (by omega)
    ·have hke:k=n:=by omega
     subst hke
     have hsub:IntKind.i64.wrap ((k:Int)-1)=((k-1:Nat):Int):=by rw[zb (by omega) (by omega)];omega
     have hixl:idx (.int .i64 ((k-1:Nat):Int)) k=some (k-1):=zB .i64 _ _ (by omega)
     obtain⟨yl,hyl,hyls⟩:=jc hcs (k:=k-1) (by omega)
     simp only[go_sem,G0,G1,G2,w02,hkn,hq1l,hsub,zc,hixl,w10,hyl,hyls.len]
     have hb:((((labs d f).getD (k-1) []).length:Int)==0)=pb (ScrP d f):=by
      refine kY ?_
      rw[hSC,hGF,beq_iff_eq,z7i nxf st hG,hlab (k-1)]
      refine⟨fun h=>⟨hG,w1d (by omega)⟩,fun h=>by rw[h.2];rfl⟩
     rw[hb]
     refine z9I (cs:=us vs) rfl (z2i _ _ _ _) ?_
     have hve:vs=(labs d f).map (sumB d.types):=by
      apply List.ext_getElem
      ·rw[hvl,w29,hol]
      ·intro j h1 h2
       have:=hvs j (by omega)
       rw[List.getElem_map,←z03 (by omega),this]
       congr 1
       simp only[w29] at h2
       rw[w00,w11 h2];rfl
     rw[hve]
  ·rw[List.concat_eq_append] at*
   obtain⟨hi,hki⟩:=hJ.o i (by simp)
   have hb0:=hJ.b
   have hnl:(op++[i]).length=op.length+1:=by simp
   rw[hnl] at hos htk hb0
   have hgt:(((op.length+1:Nat):Int)>0)=True:=eq_true (by omega)
   have hsub:IntKind.i64.wrap (((op.length+1:Nat):Int)-1)=((op.length:Nat):Int):=by rw[zb (by omega) (by omega)];omega
   have hix:idx (.int .i64 ((op.length:Nat):Int)) (op.length+1)=some op.length:=zB .i64 _ _ (by omega)
   have hld:takeV false 1 (os.drop op.length)=some (.int .i64 (i:Nat)):=by
    have h1:os.take (op++[i]).length=ints (op++[i]):=by rw[hnl];exact htk
    have:=YG h1 (by rw[hnl];exact hos) (j:=op.length) (by simp)
    simpa using this
   have hbd:bound (some (.int .i64 ((op.length:Nat):Int))) (op.length+1) (op.length+1)=some op.length:=by
    unfold bound;simp only;rw[if_pos (by omega)];simp
   have htk2:os.take op.length=ints op:=by
    have:(os.take (op.length+1)).take op.length=(ints (op++[i])).take op.length:=by rw[htk]
    rw[List.take_take,Nat.min_eq_left (by omega)] at this
    rw[this];simp[ints]
   have hic:i<f.code.length:=by omega
   have hixi:idx (.int .i64 (i:Int)) n=some i:=zB .i64 i n hi
   obtain⟨c1,c2,c3⟩:=hC.at hic
   obtain⟨yi,hyi,hyis⟩:=jc hcs (k:=i) (by rw[hJ.r.r.len2];exact hi)
   have htl:=hJ.r.len i
   simp only[go_sem,G3,G0,G1,G2,Wx,hnl,hgt,hsub,z08,hix,w10,hld,z07,hbd,zc,hixi,hyi,q1.at .i64 hic,q1.inA hic]
   refine(hAf _ c1 c2 (hNear i hi) _ _ hyis (hJ.r.t i) (by omega) _ _ _ _).xw fun r ts n1 ⟨q,hr,hq⟩=> ?_
   subst hr
   have hlive: ∃e',pushToks ts (e::live)=e'::live:=by cases ts<;>exact⟨_,rfl⟩
   obtain⟨e',he'⟩:=hlive
   simp only[he',←hstF]
   cases hs:st i (out0.getD i []) with
   |none=>
    have hng: ¬GoodS nxf st n:=Q5 nxf st hJ.r.r hki hs
    obtain⟨y,bs,k1,hN,hLI⟩:=hNx i hi [⟨nx,[ty,tx,fs,.str f.name,.int .i64 f.params,.int .i64 f.result,w0,w1,w2,w3]⟩,⟨nx+1,cs⟩,⟨nx+1+1,bools kn0⟩,⟨st3,os⟩] n1 (e'::live)
    simp only[go_sem,G0,G2,Option.isSome_none,hN]
    rw[zg fun hh=>hng (hGF.1 (hSC.1 hh).1)]
    exact z1E fun hh=>hng (hGF.1 hh)
   |some l=>
    have hql:IsSl IsI 1 l q:=hq l (by rw[←hstF];exact hs)
    have hlt:=hstok i hi _ _ (hJ.r.t i) hs
    have hSK:=hJ.pop nxf n st (InT d.types) hs hlt
    obtain⟨y,bs,k1,hN,hLI⟩:=hNx i hi [⟨nx,[ty,tx,fs,.str f.name,.int .i64 f.params,.int .i64 f.result,w0,w1,w2,w3]⟩,⟨nx+1,cs⟩,⟨nx+1+1,bools kn0⟩,⟨st3,os⟩] n1 (e'::live)
    simp only[w2f,w30,w39,G3,w28,w32] at hN hLI
    have hyl:=hLI.len
    simp only[go_sem,G0,G2,Option.isSome_some,hN,show((0:Int) !=0)=false from rfl,hyl]
    refine za (α:=Nat×List Bool×List (List Int)×List Nat) (fun z σ=>(z.1≤(nxf i).length∧SK nxf n st (InT d.types) i l ((nxf i).take z.1) (2*unm kn0+(op++[i]).length) z.2.1 z.2.2.1 z.2.2.2)∧ ∃nz cs os st3,lists z.2.2.1 cs∧z.2.2.2.length≤os.length∧os.take z.2.2.2.length=ints z.2.2.2∧LI 4 (stk++[cur]).length (⟨nx,[ty,tx,fs,.str f.name,.int .i64 f.params,.int .i64 f.result,w0,w1,w2,w3]⟩::⟨nx+1,cs⟩::⟨nx+1+1,bools z.2.1⟩::⟨st3,os⟩::bs) y (nxf i)∧heads [1,4,5,6,7,9,71,72,73] (bs.length+4) σ=⟨tmps 136 [(1,.ptr (stk++[cur]).length 0 nx 0),(4,w1),(5,.arr (stk++[cur]).length 1 (nx+1) 0 n),(6,.arr (stk++[cur]).length 2 (nx+1+1) 0 n),(7,.grow 1 (stk++[cur]).length 3 st3 z.2.2.2.length),(9,q),(71,y),(72,.int .i64 (nxf i).length),(73,.int .i64 z.1)],⟨stk++[cur],⟨nx,[ty,tx,fs,.str f.name,.int .i64 f.params,.int .i64 f.result,w0,w1,w2,w3]⟩::⟨nx+1,cs⟩::⟨nx+1+1,bools z.2.1⟩::⟨st3,os⟩::bs,nz,e'::live,fl⟩⟩) (fun z=>(nxf i).length-z.1) (0,kn0,out0,op) ?_ ?_
    ·refine⟨⟨w06 _,hSK⟩,?_⟩
     simp only[go_sem,G0,G1,take4]
     exact⟨_,_,_,_,hcs,by omega,htk2,hLI,rfl⟩
    ·clear hcs hki hyi hyis hs htl hJ hSK hos htk htk2 hld hLI hb0
     rintro⟨j,kn,out,op1⟩ σ ⟨⟨hj,hSK⟩,nz,cs,os,st3,hcs,hos,htk,hLI,hσ⟩
     rw[hσ]
     clear hσ σ
     dsimp only at hj hSK hcs hos htk hLI⊢
     have hkl:=hSK.r.r.len1
     have hol:=hSK.r.r.len2
     have hob:=hSK.b
     by_cases hjn:j<(nxf i).length
     ·have hkn:=hnx i hi (nxf i)[j] (w04 hjn)
      have hmem:(nxf i)[j]∈nxf i:=w04 hjn
      have hts:(nxf i).take (j+1)=(nxf i).take j++[(nxf i)[j]]:=w0d hjn
      obtain⟨a,ha,hat⟩:=zcM hLI hjn (nx:=nz) (fl:=fl) (live:=e'::live)
      generalize hK:(nxf i)[j]=k at*
      have hlen2:(nxf i).length≤2:=by rw[←hnxt];exact QQ _ _
      have hsj:IntKind.i64.wrap ((j:Int)+1)=((j+1:Nat):Int):=by rw[zb (by omega) (by omega)];omega
      have hixk:idx (.int .i64 (k:Nat)) n=some k:=zB .i64 k n hkn
      have hgk:=vo (s:=kn) (j:=k) (by omega)
      obtain⟨yk,hyk,hyks⟩:=jc hcs (k:=k) (by omega)
      have hltj:((j:Int)<((nxf i).length:Nat))=True:=eq_true (by omega)
      have hSI:=fun m=>(XM _ _ _ _ hyks hql m).eq
      simp only[go_sem,G0,G1,G2,hltj,ha]
      refine z9O hat ?_
      cases hkk:kn.getD k false
      ·rw[hkk] at hgk
       have hst1:=qA (s:=kn) (j:=k) true (by omega)
       have hbl1:k+1≤(bools kn).length:=by rw[qB];omega
       have hbl2:k+1≤cs.length:=by rw[hcs.1];omega
       have happ:=fun b2=>zb6 (S':=stk++[cur]) (b0:=⟨nx,[ty,tx,fs,.str f.name,.int .i64 f.params,.int .i64 f.result,w0,w1,w2,w3]⟩) (b1:=⟨nx+1,cs⟩) (b2:=b2) (st:=st3) (nx:=nz) (fl:=fl) (n:=op1.length) (cs:=os) (rest:=bs) (live:=e'::live) (v:= .int .i64 (k:Nat)) rfl hos (by simp;omega) (by omega)
       simp only[go_sem,G0,G2,zc,hixk,w10,hgk,happ,hql.refs_cells,hql.one,hbl2,hbl1,hst1,hsj,take4]
       refine⟨(j+1,kn.set k true,out.set k l,op1++[k]),by dsimp only;omega,⟨hjn,?_⟩,nz+1,cs.take k++[q]++cs.drop (k+1),os.take op1.length++[.int .i64 (k:Nat)],nz,z4x hcs (by omega) hql,?_,?_,zcL hLI,?_⟩
       ·dsimp only
        rw[hts]
        exact hSK.new nxf n st (InT d.types) hkn hmem hkk
       ·dsimp only;simp only[w05,w19,w1a];omega
       ·dsimp only
        simp only[w05,w19]
        rw[w53 (by simp;omega),htk];simp[ints]
       ·dsimp only;simp only[w05,w19]
      ·rw[hkk] at hgk
       by_cases heq:out.getD k []=l
       ·have hd:decide (out.getD k []=l)=true:=decide_eq_true heq
        simp only[go_sem,G0,G2,zc,hixk,w10,hgk,hyk,hSI,hd,hsj,take4]
        refine⟨(j+1,kn,out,op1),by dsimp only;omega,⟨hjn,?_⟩,?_⟩
        ·dsimp only
         rw[hts]
         exact hSK.same nxf n st (InT d.types) hkk heq
        ·exact⟨_,_,_,_,hcs,hos,htk,hLI,rfl⟩
       ·have hd:decide (out.getD k []=l)=false:=decide_eq_false heq
        simp only[go_sem,G0,G2,zc,hixk,w10,hgk,hyk,hSI,hd]
        have hng: ¬GoodS nxf st n:=QR nxf st hSK.r.r hSK.hi hSK.hs hmem hkk heq
        rw[zg fun hh=>hng (hGF.1 (hSC.1 hh).1)]
        exact z1E fun hh=>hng (hGF.1 hh)
     ·have hje:j=(nxf i).length:=by omega
      subst hje
      rw[w08] at hSK
      obtain⟨h1,h2⟩:=hSK.fin nxf n st (InT d.types)
      simp only[go_sem,reduceCtorEq,G0,G1,G2,show(((nxf i).length:Nat):Int)<((nxf i).length:Nat)↔False from⟨fun h=>by omega,False.elim⟩]
      exact⟨(kn,out,op1),by rw[hnl] at h2;exact h2,h1,_,_,_,_,_,hcs,hos,htk,rfl⟩
theorem z9U (d:DImage) (hd:ImgP d) (f:DFunc) (y:AV) (hy:NV d f y) (hs:SlotsP d f) (x:DInstr) (hx:InstrP x) (hN:NearP d f x) (hop:x.op=1∨x.op=2∨x.op=3∨x.op=4∨x.op=5∨x.op=6∨x.op=7∨x.op=8∨x.op=9∨x.op=10∨x.op=11) (m:Mem) (hf:m.floor≤m.stk.length+1):
  Okv tab zK [y,.agg [.int .u8 x.op,.int .i64 x.a,.int .i64 x.b,.int .i64 x.c]] m (.bool (typP d f x)):=by
 have hy':=hy
 obtain⟨ty,tx,fs,w0,w1,w2,w3,rfl,h0,h1,h2,h3,h4,h5,h6⟩:=hy
 refine ze xy ?_
 obtain⟨stk,cur,nx,live,fl⟩:=m
 dsimp only at hf
 have hf':fl≤(stk++[cur]).length+1:=by simp;omega
 have hsl:=tO hs
 have hS:=fun s m=>(z0l d f _ hy' s m).eq
 have hI:=fun t ht ks z hz m=>(z58 d f _ hy' t ht ks z hz m).eq
 have hE:=fun t e ht ks z hz m=>(z5b d f _ hy' t e ht ks z hz m).eq
 have hM:=fun t i e ht m=>(Tw d f _ hy' t i e ht m).eq
 have hb: ∀X nz,Mem.blk ⟨stk++[cur],[⟨nx,cellsN ty tx fs w0 w1 w2 w3 f⟩,X],nz,[]::live,fl⟩ (stk++[cur]).length 0 nx=some (cellsN ty tx fs w0 w1 w2 w3 f):=fun X nz=>by simp[Mem.blk,Mem.row]
 have hn:=fun l z hz hl X nz=>(z9h d f ty tx fs w0 w1 w2 w3 hy' l z hz hl _ (stk++[cur]).length nx (w09 _) (hb X nz)).eq
 have hfl:=fun t ht X nz=>(z5a d f ty tx fs w0 w1 w2 w3 hy' t ht _ (stk++[cur]).length nx (w09 _) (hb X nz)).eq
 simp only[cellsN] at hn hfl
 have nA:=hn [slotT f x.a] _ (isI1 _ .full) (by simp[hsl])
 have nB:=hn [slotT f x.b] _ (isI1 _ .full) (by simp[hsl])
 have nC:=hn [slotT f x.c] _ (isI1 _ .full) (by simp[hsl])
 have nBC:=hn [slotT f x.b,slotT f x.c] _ (isI2 _ _ .full) (by simp[hsl])
 have nABC:=hn [slotT f x.a,slotT f x.b,slotT f x.c] _ (isI3 _ _ _ .full) (by simp[hsl])
 have gA:=hfl (slotT f x.a) (hsl _)
 have gB:=hfl (slotT f x.b) (hsl _)
 clear hn hfl
 simp only[yo,List.map,go_sem,reduceCtorEq,G3,G0,G2,hS]
 generalize callNx tab zn _ _=nz
 rcases hop with h|h|h|h|h|h|h|h|h|h|h
 ·skip
  simp only[go_sem,reduceCtorEq,G0,G2,h,nA]
  repeat' (((first|refine zp ?_ ?_|refine zk ?_ ?_|refine zl ?_ ?_|refine zi ?_ ?_|refine zj ?_ ?_)<;>intro hq)<;>simp only[go_sem,reduceIte,reduceCtorEq,G3,G5,G0,G4,G1,G2,hq,nA])
  all_goals
   rw[z6 rfl rfl,z8]
   refine⟨⟨_,rfl⟩,congrArg AV.bool ?_⟩
   unfold typP
   simp only[h,G8,reduceIte,or_false,or_self]<;>first|rfl|simp[*]
 ·skip
  simp only[go_sem,reduceCtorEq,G3,G0,G2,h,G9,hI _ (hsl _) _ _ (isL1 3 .full)]
  repeat' (((first|refine zp ?_ ?_|refine zk ?_ ?_|refine zl ?_ ?_|refine zi ?_ ?_|refine zj ?_ ?_)<;>intro hq)<;>simp only[go_sem,reduceIte,reduceCtorEq,G3,G5,G0,G4,G1,G2,hq,hI _ (hsl _) _ _ (isL1 3 .full)])
  all_goals
   rw[z6 rfl rfl,z8]
   refine⟨⟨_,rfl⟩,congrArg AV.bool ?_⟩
   unfold typP
   simp only[h,G8,reduceIte,or_self]<;>first|rfl|simp[*]
 ·skip
  simp only[go_sem,reduceCtorEq,G0,G2,h,G9,gA]
  repeat' (((first|refine zp ?_ ?_|refine zk ?_ ?_|refine zl ?_ ?_|refine zi ?_ ?_|refine zj ?_ ?_)<;>intro hq)<;>simp only[go_sem,reduceIte,reduceCtorEq,G3,G5,G0,G4,G1,G2,hq,gA])
  all_goals
   rw[z6 rfl rfl,z8]
   refine⟨⟨_,rfl⟩,congrArg AV.bool ?_⟩
   unfold typP
   simp only[h,G8,reduceIte,or_false,or_self]<;>first|rfl|simp[*]
 ·skip
  simp only[go_sem,reduceCtorEq,G0,G2,h,G9]
  repeat' (((first|refine zp ?_ ?_|refine zk ?_ ?_|refine zl ?_ ?_|refine zi ?_ ?_|refine zj ?_ ?_)<;>intro hq)<;>simp only[go_sem,reduceIte,reduceCtorEq,G3,G5,G0,G4,G1,G2,hq,h])
  all_goals
   rw[z6 rfl rfl,z8]
   refine⟨⟨_,rfl⟩,congrArg AV.bool ?_⟩
   unfold typP
   simp only[h,G8,reduceIte,or_self]<;>first|rfl|simp[*]
 ·skip
  simp only[go_sem,reduceCtorEq,G0,G2,h,G9]
  repeat' (((first|refine zp ?_ ?_|refine zk ?_ ?_|refine zl ?_ ?_|refine zi ?_ ?_|refine zj ?_ ?_)<;>intro hq)<;>simp only[go_sem,reduceIte,reduceCtorEq,G3,G5,G0,G4,G1,G2,hq,h])
  all_goals
   rw[z6 rfl rfl,z8]
   refine⟨⟨_,rfl⟩,congrArg AV.bool ?_⟩
   unfold typP
   simp only[h,G8,reduceIte,or_self]<;>first|rfl|simp[*]
 ·skip
  simp only[go_sem,reduceCtorEq,G0,G2,h,G9,nABC]
  repeat' (((first|refine zp ?_ ?_|refine zk ?_ ?_|refine zl ?_ ?_|refine zi ?_ ?_|refine zj ?_ ?_)<;>intro hq)<;>simp only[go_sem,reduceIte,reduceCtorEq,G3,G5,G0,G4,G1,G2,hq,nABC])
  all_goals
   rw[z6 rfl rfl,z8]
   refine⟨⟨_,rfl⟩,congrArg AV.bool ?_⟩
   unfold typP
   simp only[h,G8,reduceIte,or_false,or_self]<;>first|rfl|simp[*]
 ·skip
  simp only[go_sem,reduceCtorEq,G0,G2,h,G9,nABC]
  repeat' (((first|refine zp ?_ ?_|refine zk ?_ ?_|refine zl ?_ ?_|refine zi ?_ ?_|refine zj ?_ ?_)<;>intro hq)<;>simp only[go_sem,reduceIte,reduceCtorEq,G3,G5,G0,G4,G1,G2,hq,nABC])
  all_goals
   rw[z6 rfl rfl,z8]
   refine⟨⟨_,rfl⟩,congrArg AV.bool ?_⟩
   unfold typP
   simp only[h,G8,reduceIte,or_false,or_self,or_true]<;>first|rfl|simp[*]
 ·skip
  simp only[go_sem,reduceCtorEq,G0,G2,h,G9,nABC]
  repeat' (((first|refine zp ?_ ?_|refine zk ?_ ?_|refine zl ?_ ?_|refine zi ?_ ?_|refine zj ?_ ?_)<;>intro hq)<;>simp only[go_sem,reduceIte,reduceCtorEq,G3,G5,G0,G4,G1,G2,hq,nABC])
  all_goals
   rw[z6 rfl rfl,z8]
   refine⟨⟨_,rfl⟩,congrArg AV.bool ?_⟩
   unfold typP
   simp only[h,G8,reduceIte,or_false,or_self,or_true]<;>first|rfl|simp[*]
 ·skip
  simp only[go_sem,reduceCtorEq,G0,G2,h,G9,nABC]
  repeat' (((first|refine zp ?_ ?_|refine zk ?_ ?_|refine zl ?_ ?_|refine zi ?_ ?_|refine zj ?_ ?_)<;>intro hq)<;>simp only[go_sem,reduceIte,reduceCtorEq,G3,G5,G0,G4,G1,G2,hq,nABC])
  all_goals
   rw[z6 rfl rfl,z8]
   refine⟨⟨_,rfl⟩,congrArg AV.bool ?_⟩
   unfold typP
   simp only[h,G8,reduceIte,or_self,or_true]<;>first|rfl|simp[*]
 ·skip
  simp only[go_sem,reduceCtorEq,G0,G2,h,G9,gA]
  repeat' (((first|refine zp ?_ ?_|refine zk ?_ ?_|refine zl ?_ ?_|refine zi ?_ ?_|refine zj ?_ ?_)<;>intro hq)<;>simp only[go_sem,reduceCtorEq,G0,G2,hq,nBC])
  all_goals
   rw[z6 rfl rfl,z8]
   refine⟨⟨_,rfl⟩,congrArg AV.bool ?_⟩
   unfold typP
   simp only[h,G8,reduceIte,or_self]<;>first|rfl|simp[*]
 ·skip
  simp only[go_sem,reduceCtorEq,G0,G2,h,G9,gA]
  repeat' (((first|refine zp ?_ ?_|refine zk ?_ ?_|refine zl ?_ ?_|refine zi ?_ ?_|refine zj ?_ ?_)<;>intro hq)<;>simp only[go_sem,reduceCtorEq,G3,G0,G2,hq,hI _ (hsl _) _ _ (isL3 2 1 4 .full)])
  all_goals
   rw[z6 rfl rfl,z8]
   refine⟨⟨_,rfl⟩,congrArg AV.bool ?_⟩
   unfold typP
   simp only[h,G8,reduceIte,or_self]<;>first|rfl|simp[*]
theorem z9T (d:DImage) (hd:ImgP d) (f:DFunc) (y:AV) (hy:NV d f y) (hs:SlotsP d f) (x:DInstr) (hx:InstrP x) (hN:NearP d f x) (hop:x.op=12∨x.op=13∨x.op=14∨x.op=15∨x.op=16∨x.op=17∨x.op=18∨x.op=19∨x.op=20) (m:Mem) (hf:m.floor≤m.stk.length+1):
  Okv tab zK [y,.agg [.int .u8 x.op,.int .i64 x.a,.int .i64 x.b,.int .i64 x.c]] m (.bool (typP d f x)):=by
 have hy':=hy
 obtain⟨ty,tx,fs,w0,w1,w2,w3,rfl,h0,h1,h2,h3,h4,h5,h6⟩:=hy
 refine ze xy ?_
 obtain⟨stk,cur,nx,live,fl⟩:=m
 dsimp only at hf
 have hf':fl≤(stk++[cur]).length+1:=by simp;omega
 have hsl:=tO hs
 have hS:=fun s m=>(z0l d f _ hy' s m).eq
 have hI:=fun t ht ks z hz m=>(z58 d f _ hy' t ht ks z hz m).eq
 have hE:=fun t e ht ks z hz m=>(z5b d f _ hy' t e ht ks z hz m).eq
 have hM:=fun t i e ht m=>(Tw d f _ hy' t i e ht m).eq
 have hb: ∀X nz,Mem.blk ⟨stk++[cur],[⟨nx,cellsN ty tx fs w0 w1 w2 w3 f⟩,X],nz,[]::live,fl⟩ (stk++[cur]).length 0 nx=some (cellsN ty tx fs w0 w1 w2 w3 f):=fun X nz=>by simp[Mem.blk,Mem.row]
 have hn:=fun l z hz hl X nz=>(z9h d f ty tx fs w0 w1 w2 w3 hy' l z hz hl _ (stk++[cur]).length nx (w09 _) (hb X nz)).eq
 have hfl:=fun t ht X nz=>(z5a d f ty tx fs w0 w1 w2 w3 hy' t ht _ (stk++[cur]).length nx (w09 _) (hb X nz)).eq
 simp only[cellsN] at hn hfl
 have nA:=hn [slotT f x.a] _ (isI1 _ .full) (by simp[hsl])
 have nB:=hn [slotT f x.b] _ (isI1 _ .full) (by simp[hsl])
 have nC:=hn [slotT f x.c] _ (isI1 _ .full) (by simp[hsl])
 have nBC:=hn [slotT f x.b,slotT f x.c] _ (isI2 _ _ .full) (by simp[hsl])
 have nABC:=hn [slotT f x.a,slotT f x.b,slotT f x.c] _ (isI3 _ _ _ .full) (by simp[hsl])
 have gA:=hfl (slotT f x.a) (hsl _)
 have gB:=hfl (slotT f x.b) (hsl _)
 clear hn hfl
 simp only[yo,List.map,go_sem,reduceCtorEq,G3,G0,G2,hS]
 generalize callNx tab zn _ _=nz
 rcases hop with h|h|h|h|h|h|h|h|h
 ·skip
  simp only[go_sem,reduceCtorEq,G0,G2,h,G9,gA]
  repeat' (((first|refine zp ?_ ?_|refine zk ?_ ?_|refine zl ?_ ?_|refine zi ?_ ?_|refine zj ?_ ?_)<;>intro hq)<;>simp only[go_sem,reduceCtorEq,G0,G2,hq,gB])
  all_goals
   rw[z6 rfl rfl,z8]
   refine⟨⟨_,rfl⟩,congrArg AV.bool ?_⟩
   unfold typP
   simp only[h,G8,reduceIte,or_self]<;>first|rfl|simp[*]
 ·skip
  simp only[go_sem,reduceCtorEq,G3,G0,G2,h,G9,hM _ _ _ (hsl _)]
  repeat' (((first|refine zp ?_ ?_|refine zk ?_ ?_|refine zl ?_ ?_|refine zi ?_ ?_|refine zj ?_ ?_)<;>intro hq)<;>simp only[go_sem,reduceIte,reduceCtorEq,G3,G5,G0,G4,G1,G2,hq,hM _ _ _ (hsl _)])
  all_goals
   rw[z6 rfl rfl,z8]
   refine⟨⟨_,rfl⟩,congrArg AV.bool ?_⟩
   unfold typP
   simp only[h,G8,reduceIte,or_self]<;>first|rfl|simp[*]
 ·skip
  simp only[go_sem,reduceCtorEq,G3,G0,G2,h,G9,hM _ _ _ (hsl _)]
  repeat' (((first|refine zp ?_ ?_|refine zk ?_ ?_|refine zl ?_ ?_|refine zi ?_ ?_|refine zj ?_ ?_)<;>intro hq)<;>simp only[go_sem,reduceIte,reduceCtorEq,G3,G5,G0,G4,G1,G2,hq,hM _ _ _ (hsl _)])
  all_goals
   rw[z6 rfl rfl,z8]
   refine⟨⟨_,rfl⟩,congrArg AV.bool ?_⟩
   unfold typP
   simp only[h,G8,reduceIte,or_self]<;>first|rfl|simp[*]
 ·skip
  simp only[go_sem,reduceCtorEq,G3,G0,G2,h,G9,hI _ (hsl _) _ _ (isL1 4 .full)]
  repeat' (((first|refine zp ?_ ?_|refine zk ?_ ?_|refine zl ?_ ?_|refine zi ?_ ?_|refine zj ?_ ?_)<;>intro hq)<;>simp only[go_sem,reduceIte,reduceCtorEq,G3,G5,G0,G4,G1,G2,hq,hI _ (hsl _) _ _ (isL1 4 .full)])
  all_goals
   rw[z6 rfl rfl,z8]
   refine⟨⟨_,rfl⟩,congrArg AV.bool ?_⟩
   unfold typP
   simp only[h,G8,reduceIte,or_self]<;>first|rfl|simp[*]
 ·skip
  simp only[go_sem,reduceCtorEq,G3,G0,G2,h,G9,hE _ _ (hsl _) _ _ (isL1 4 .full)]
  repeat' (((first|refine zp ?_ ?_|refine zk ?_ ?_|refine zl ?_ ?_|refine zi ?_ ?_|refine zj ?_ ?_)<;>intro hq)<;>simp only[go_sem,reduceIte,reduceCtorEq,G3,G5,G0,G4,G1,G2,hq,hE _ _ (hsl _) _ _ (isL1 4 .full)])
  all_goals
   rw[z6 rfl rfl,z8]
   refine⟨⟨_,rfl⟩,congrArg AV.bool ?_⟩
   unfold typP
   simp only[h,G8,reduceIte,or_self]<;>first|rfl|simp[*]
 ·skip
  simp only[go_sem,reduceCtorEq,G3,G0,G2,h,G9,hE _ _ (hsl _) _ _ (isL1 4 .full)]
  repeat' (((first|refine zp ?_ ?_|refine zk ?_ ?_|refine zl ?_ ?_|refine zi ?_ ?_|refine zj ?_ ?_)<;>intro hq)<;>simp only[go_sem,reduceIte,reduceCtorEq,G3,G5,G0,G4,G1,G2,hq,hE _ _ (hsl _) _ _ (isL1 4 .full)])
  all_goals
   rw[z6 rfl rfl,z8]
   refine⟨⟨_,rfl⟩,congrArg AV.bool ?_⟩
   unfold typP
   simp only[h,G8,reduceIte,or_self]<;>first|rfl|simp[*]
 ·skip
  simp only[go_sem,reduceCtorEq,G3,G0,G2,h,G9,hI _ (hsl _) _ _ (isL1 7 .full)]
  repeat' (((first|refine zp ?_ ?_|refine zk ?_ ?_|refine zl ?_ ?_|refine zi ?_ ?_|refine zj ?_ ?_)<;>intro hq)<;>simp only[go_sem,reduceCtorEq,G0,G2,hq,nB])
  all_goals
   rw[z6 rfl rfl,z8]
   refine⟨⟨_,rfl⟩,congrArg AV.bool ?_⟩
   unfold typP
   simp only[h,G8,reduceIte,or_self]<;>first|rfl|simp[*]
 ·skip
  simp only[go_sem,reduceCtorEq,G3,G0,G2,h,G9,hE _ _ (hsl _) _ _ (isL2 7 6 .full)]
  repeat' (((first|refine zp ?_ ?_|refine zk ?_ ?_|refine zl ?_ ?_|refine zi ?_ ?_|refine zj ?_ ?_)<;>intro hq)<;>simp only[go_sem,reduceCtorEq,G0,G2,hq,nC])
  all_goals
   rw[z6 rfl rfl,z8]
   refine⟨⟨_,rfl⟩,congrArg AV.bool ?_⟩
   unfold typP
   simp only[h,G8,reduceIte,or_self]<;>first|rfl|simp[*]
 ·skip
  simp only[go_sem,reduceCtorEq,G3,G0,G2,h,G9,hE _ _ (hsl _) _ _ (isL2 7 6 .full)]
  repeat' (((first|refine zp ?_ ?_|refine zk ?_ ?_|refine zl ?_ ?_|refine zi ?_ ?_|refine zj ?_ ?_)<;>intro hq)<;>simp only[go_sem,reduceCtorEq,G0,G2,hq,nB])
  all_goals
   rw[z6 rfl rfl,z8]
   refine⟨⟨_,rfl⟩,congrArg AV.bool ?_⟩
   unfold typP
   simp only[h,G8,reduceIte,or_self]<;>first|rfl|simp[*]
theorem z9S (d:DImage) (hd:ImgP d) (f:DFunc) (y:AV) (hy:NV d f y) (hs:SlotsP d f) (x:DInstr) (hx:InstrP x) (hN:NearP d f x) (hop:x.op=21∨x.op=22∨x.op=23∨x.op=24∨x.op=25∨x.op=26∨x.op=27) (m:Mem) (hf:m.floor≤m.stk.length+1):
  Okv tab zK [y,.agg [.int .u8 x.op,.int .i64 x.a,.int .i64 x.b,.int .i64 x.c]] m (.bool (typP d f x)):=by
 have hy':=hy
 obtain⟨ty,tx,fs,w0,w1,w2,w3,rfl,h0,h1,h2,h3,h4,h5,h6⟩:=hy
 refine ze xy ?_
 obtain⟨stk,cur,nx,live,fl⟩:=m
 dsimp only at hf
 have hf':fl≤(stk++[cur]).length+1:=by simp;omega
 have hsl:=tO hs
 have hS:=fun s m=>(z0l d f _ hy' s m).eq
 have hI:=fun t ht ks z hz m=>(z58 d f _ hy' t ht ks z hz m).eq
 have hE:=fun t e ht ks z hz m=>(z5b d f _ hy' t e ht ks z hz m).eq
 have hM:=fun t i e ht m=>(Tw d f _ hy' t i e ht m).eq
 have hb: ∀X nz,Mem.blk ⟨stk++[cur],[⟨nx,cellsN ty tx fs w0 w1 w2 w3 f⟩,X],nz,[]::live,fl⟩ (stk++[cur]).length 0 nx=some (cellsN ty tx fs w0 w1 w2 w3 f):=fun X nz=>by simp[Mem.blk,Mem.row]
 have hn:=fun l z hz hl X nz=>(z9h d f ty tx fs w0 w1 w2 w3 hy' l z hz hl _ (stk++[cur]).length nx (w09 _) (hb X nz)).eq
 have hfl:=fun t ht X nz=>(z5a d f ty tx fs w0 w1 w2 w3 hy' t ht _ (stk++[cur]).length nx (w09 _) (hb X nz)).eq
 simp only[cellsN] at hn hfl
 have nA:=hn [slotT f x.a] _ (isI1 _ .full) (by simp[hsl])
 have nB:=hn [slotT f x.b] _ (isI1 _ .full) (by simp[hsl])
 have nC:=hn [slotT f x.c] _ (isI1 _ .full) (by simp[hsl])
 have nBC:=hn [slotT f x.b,slotT f x.c] _ (isI2 _ _ .full) (by simp[hsl])
 have nABC:=hn [slotT f x.a,slotT f x.b,slotT f x.c] _ (isI3 _ _ _ .full) (by simp[hsl])
 have gA:=hfl (slotT f x.a) (hsl _)
 have gB:=hfl (slotT f x.b) (hsl _)
 clear hn hfl
 simp only[yo,List.map,go_sem,reduceCtorEq,G3,G0,G2,hS]
 generalize callNx tab zn _ _=nz
 rcases hop with h|h|h|h|h|h|h
 ·skip
  simp only[go_sem,reduceCtorEq,G0,G2,h,G9,nA]
  repeat' (((first|refine zp ?_ ?_|refine zk ?_ ?_|refine zl ?_ ?_|refine zi ?_ ?_|refine zj ?_ ?_)<;>intro hq)<;>simp only[go_sem,reduceCtorEq,G3,G0,G2,hq,hI _ (hsl _) _ _ (isL3 3 7 6 .full)])
  all_goals
   rw[z6 rfl rfl,z8]
   refine⟨⟨_,rfl⟩,congrArg AV.bool ?_⟩
   unfold typP
   simp only[h,G8,reduceIte,or_self]<;>first|rfl|simp[*]
 ·skip
  simp only[go_sem,reduceCtorEq,G0,G2,h,G9]
  repeat' (((first|refine zp ?_ ?_|refine zk ?_ ?_|refine zl ?_ ?_|refine zi ?_ ?_|refine zj ?_ ?_)<;>intro hq)<;>simp only[go_sem,reduceIte,reduceCtorEq,G3,G5,G0,G4,G1,G2,hq,h])
  all_goals
   rw[z6 rfl rfl,z8]
   refine⟨⟨_,rfl⟩,congrArg AV.bool ?_⟩
   unfold typP
   simp only[h,G8,reduceIte,or_self]<;>first|rfl|simp[*]
 ·skip
  simp only[go_sem,reduceCtorEq,G0,G2,h,G9,gA]
  repeat' (((first|refine zp ?_ ?_|refine zk ?_ ?_|refine zl ?_ ?_|refine zi ?_ ?_|refine zj ?_ ?_)<;>intro hq)<;>simp only[go_sem,reduceIte,reduceCtorEq,G3,G5,G0,G4,G1,G2,hq,gA])
  all_goals
   rw[z6 rfl rfl,z8]
   refine⟨⟨_,rfl⟩,congrArg AV.bool ?_⟩
   unfold typP
   simp only[h,G8,reduceIte,or_self,or_true]<;>first|rfl|simp[*]
 ·skip
  simp only[go_sem,reduceCtorEq,G0,G2,h,G9]
  repeat' (((first|refine zp ?_ ?_|refine zk ?_ ?_|refine zl ?_ ?_|refine zi ?_ ?_|refine zj ?_ ?_)<;>intro hq)<;>simp only[go_sem,reduceIte,reduceCtorEq,G3,G5,G0,G4,G1,G2,hq,h])
  all_goals
   rw[z6 rfl rfl,z8]
   refine⟨⟨_,rfl⟩,congrArg AV.bool ?_⟩
   unfold typP
   simp only[h,G8,reduceIte,or_self]<;>first|rfl|simp[*]
 ·obtain⟨q,hq⟩: ∃q:Nat,x.b=q:=⟨x.b.toNat,by have:=z69 hx hN h;omega⟩
  have hqk:q<d.funcs.length:=by have:=z69 hx hN h;omega
  obtain⟨v0,v1,v2,v3,ef,q0,q1,q2,q3⟩:=h2.fnA hqk
  have hat:=h2.at .i64 hqk
  simp only[go_sem,reduceCtorEq,G0,G2,h,G9,hq]
  repeat' (((first|refine zp ?_ ?_|refine zk ?_ ?_|refine zl ?_ ?_|refine zi ?_ ?_|refine zj ?_ ?_)<;>intro hq)<;>simp only[go_sem,reduceCtorEq,G0,G2,hq,hat,ef])
  all_goals
   rw[z6 rfl rfl,z8]
   refine⟨⟨_,rfl⟩,congrArg AV.bool ?_⟩
   unfold typP
   simp only[h,hq,G8,reduceIte,or_self]<;>first|rfl|simp[*]
 ·obtain⟨q,hq⟩: ∃q:Nat,x.a=q:=⟨x.a.toNat,by have:=Td hx hN (by omega);omega⟩
  have hqk:q<d.funcs.length:=by have:=Td hx hN (by omega);omega
  obtain⟨v0,v1,v2,v3,ef,q0,q1,q2,q3⟩:=h2.fnA hqk
  have hat:=h2.at .i64 hqk
  have hIG:=hd.at hqk
  have hL:=fun c nz lv=>(z9i d f _ hy' (fnA d.funcs q) _ ⟨v0,v1,v2,v3,rfl,q0,q1,q2,q3⟩ hIG.1 hIG.2.1 ⟨stk++[cur],c,nz,lv,max fl ((stk++[cur]).length+1)⟩ (by simp;omega)).eq
  simp only[go_sem,reduceCtorEq,G3,G0,G2,h,G9,hq,hat,ef,hL]
  repeat' (((first|refine zp ?_ ?_|refine zk ?_ ?_|refine zl ?_ ?_|refine zi ?_ ?_|refine zj ?_ ?_)<;>intro hq)<;>simp only[go_sem,reduceIte,reduceCtorEq,G3,G5,G0,G4,G1,G2,hq,hq,hat,ef,hL])
  all_goals
   rw[z6 rfl rfl,z8]
   refine⟨⟨_,rfl⟩,congrArg AV.bool ?_⟩
   unfold typP
   simp only[h,hq,G8,reduceIte,or_false,or_self,w1b]<;>first|rfl|simp[*]
 ·obtain⟨q,hq⟩: ∃q:Nat,x.a=q:=⟨x.a.toNat,by have:=Td hx hN (by omega);omega⟩
  have hqk:q<d.funcs.length:=by have:=Td hx hN (by omega);omega
  obtain⟨v0,v1,v2,v3,ef,q0,q1,q2,q3⟩:=h2.fnA hqk
  have hat:=h2.at .i64 hqk
  have hIG:=hd.at hqk
  have hL:=fun c nz lv=>(z9i d f _ hy' (fnA d.funcs q) _ ⟨v0,v1,v2,v3,rfl,q0,q1,q2,q3⟩ hIG.1 hIG.2.1 ⟨stk++[cur],c,nz,lv,max fl ((stk++[cur]).length+1)⟩ (by simp;omega)).eq
  simp only[go_sem,reduceCtorEq,G3,G0,G2,h,G9,hq,hat,ef,hL]
  repeat' (((first|refine zp ?_ ?_|refine zk ?_ ?_|refine zl ?_ ?_|refine zi ?_ ?_|refine zj ?_ ?_)<;>intro hq)<;>simp only[go_sem,reduceIte,reduceCtorEq,G3,G5,G0,G4,G1,G2,hq,hq,hat,ef,hL])
  all_goals
   rw[z6 rfl rfl,z8]
   refine⟨⟨_,rfl⟩,congrArg AV.bool ?_⟩
   unfold typP
   simp only[h,hq,G8,reduceIte,or_self,or_true,w1b]<;>first|rfl|simp[*]
theorem z9R (d:DImage) (hd:ImgP d) (f:DFunc) (y:AV) (hy:NV d f y) (hs:SlotsP d f) (x:DInstr) (hx:InstrP x) (hN:NearP d f x) (hop:x.op=28∨x.op=29∨x.op=30∨x.op=31∨x.op=32∨x.op=33∨x.op=34) (m:Mem) (hf:m.floor≤m.stk.length+1):
  Okv tab zK [y,.agg [.int .u8 x.op,.int .i64 x.a,.int .i64 x.b,.int .i64 x.c]] m (.bool (typP d f x)):=by
 have hy':=hy
 obtain⟨ty,tx,fs,w0,w1,w2,w3,rfl,h0,h1,h2,h3,h4,h5,h6⟩:=hy
 refine ze xy ?_
 obtain⟨stk,cur,nx,live,fl⟩:=m
 dsimp only at hf
 have hf':fl≤(stk++[cur]).length+1:=by simp;omega
 have hsl:=tO hs
 have hS:=fun s m=>(z0l d f _ hy' s m).eq
 have hI:=fun t ht ks z hz m=>(z58 d f _ hy' t ht ks z hz m).eq
 have hE:=fun t e ht ks z hz m=>(z5b d f _ hy' t e ht ks z hz m).eq
 have hM:=fun t i e ht m=>(Tw d f _ hy' t i e ht m).eq
 have hb: ∀X nz,Mem.blk ⟨stk++[cur],[⟨nx,cellsN ty tx fs w0 w1 w2 w3 f⟩,X],nz,[]::live,fl⟩ (stk++[cur]).length 0 nx=some (cellsN ty tx fs w0 w1 w2 w3 f):=fun X nz=>by simp[Mem.blk,Mem.row]
 have hn:=fun l z hz hl X nz=>(z9h d f ty tx fs w0 w1 w2 w3 hy' l z hz hl _ (stk++[cur]).length nx (w09 _) (hb X nz)).eq
 have hfl:=fun t ht X nz=>(z5a d f ty tx fs w0 w1 w2 w3 hy' t ht _ (stk++[cur]).length nx (w09 _) (hb X nz)).eq
 simp only[cellsN] at hn hfl
 have nA:=hn [slotT f x.a] _ (isI1 _ .full) (by simp[hsl])
 have nB:=hn [slotT f x.b] _ (isI1 _ .full) (by simp[hsl])
 have nC:=hn [slotT f x.c] _ (isI1 _ .full) (by simp[hsl])
 have nBC:=hn [slotT f x.b,slotT f x.c] _ (isI2 _ _ .full) (by simp[hsl])
 have nABC:=hn [slotT f x.a,slotT f x.b,slotT f x.c] _ (isI3 _ _ _ .full) (by simp[hsl])
 have gA:=hfl (slotT f x.a) (hsl _)
 have gB:=hfl (slotT f x.b) (hsl _)
 clear hn hfl
 simp only[yo,List.map,go_sem,reduceCtorEq,G3,G0,G2,hS]
 generalize callNx tab zn _ _=nz
 rcases hop with h|h|h|h|h|h|h
 ·skip
  simp only[go_sem,reduceCtorEq,G3,G0,G2,h,G9,hI _ (hsl _) _ _ (isL3 2 1 3 .full)]
  repeat' (((first|refine zp ?_ ?_|refine zk ?_ ?_|refine zl ?_ ?_|refine zi ?_ ?_|refine zj ?_ ?_)<;>intro hq)<;>simp only[go_sem,reduceIte,reduceCtorEq,G3,G5,G0,G4,G1,G2,hq,hI _ (hsl _) _ _ (isL3 2 1 3 .full)])
  all_goals
   rw[z6 rfl rfl,z8]
   refine⟨⟨_,rfl⟩,congrArg AV.bool ?_⟩
   unfold typP
   simp only[h,G8,reduceIte,or_self]<;>first|rfl|simp[*]
 ·skip
  simp only[go_sem,reduceCtorEq,G0,G2,h,G9,gA]
  repeat' (((first|refine zp ?_ ?_|refine zk ?_ ?_|refine zl ?_ ?_|refine zi ?_ ?_|refine zj ?_ ?_)<;>intro hq)<;>simp only[go_sem,reduceCtorEq,G0,G2,hq,nB])
  all_goals
   rw[z6 rfl rfl,z8]
   refine⟨⟨_,rfl⟩,congrArg AV.bool ?_⟩
   unfold typP
   simp only[h,G8,reduceIte,or_false,or_self]<;>first|rfl|simp[*]
 ·skip
  simp only[go_sem,reduceCtorEq,G0,G2,h,G9]
  repeat' (((first|refine zp ?_ ?_|refine zk ?_ ?_|refine zl ?_ ?_|refine zi ?_ ?_|refine zj ?_ ?_)<;>intro hq)<;>simp only[go_sem,reduceIte,reduceCtorEq,G3,G5,G0,G4,G1,G2,hq,h])
  all_goals
   rw[z6 rfl rfl,z8]
   refine⟨⟨_,rfl⟩,congrArg AV.bool ?_⟩
   unfold typP
   simp only[h,G8,reduceIte,or_self]<;>first|rfl|simp[*]
 ·skip
  simp only[go_sem,reduceCtorEq,G0,G2,h,G9]
  repeat' (((first|refine zp ?_ ?_|refine zk ?_ ?_|refine zl ?_ ?_|refine zi ?_ ?_|refine zj ?_ ?_)<;>intro hq)<;>simp only[go_sem,reduceIte,reduceCtorEq,G3,G5,G0,G4,G1,G2,hq,h])
  all_goals
   rw[z6 rfl rfl,z8]
   refine⟨⟨_,rfl⟩,congrArg AV.bool ?_⟩
   unfold typP
   simp only[h,G8,reduceIte,or_self]<;>first|rfl|simp[*]
 ·skip
  simp only[go_sem,reduceCtorEq,G0,G2,h,G9,nA]
  repeat' (((first|refine zp ?_ ?_|refine zk ?_ ?_|refine zl ?_ ?_|refine zi ?_ ?_|refine zj ?_ ?_)<;>intro hq)<;>simp only[go_sem,reduceIte,reduceCtorEq,G3,G5,G0,G4,G1,G2,hq,nA])
  all_goals
   rw[z6 rfl rfl,z8]
   refine⟨⟨_,rfl⟩,congrArg AV.bool ?_⟩
   unfold typP
   simp only[h,G8,reduceIte,or_self,or_true]<;>first|rfl|simp[*]
 ·skip
  simp only[go_sem,reduceCtorEq,G0,G2,h,G9,gA]
  repeat' (((first|refine zp ?_ ?_|refine zk ?_ ?_|refine zl ?_ ?_|refine zi ?_ ?_|refine zj ?_ ?_)<;>intro hq)<;>simp only[go_sem,reduceCtorEq,G0,G2,hq,nB])
  all_goals
   rw[z6 rfl rfl,z8]
   refine⟨⟨_,rfl⟩,congrArg AV.bool ?_⟩
   unfold typP
   simp only[h,G8,reduceIte,or_self,or_true]<;>first|rfl|simp[*]
 ·skip
  simp only[go_sem,reduceCtorEq,G0,G2,h,G9]
  repeat' (((first|refine zp ?_ ?_|refine zk ?_ ?_|refine zl ?_ ?_|refine zi ?_ ?_|refine zj ?_ ?_)<;>intro hq)<;>simp only[go_sem,reduceCtorEq,G3,G0,G2,hq])
  all_goals
   rw[z6 rfl rfl,z8]
   refine⟨⟨_,rfl⟩,congrArg AV.bool ?_⟩
   unfold typP
   simp only[h,G8,reduceIte,or_self]<;>first|rfl|simp[*]
theorem za0 (d:DImage) (hd:ImgP d) (y:AV) (hy:IsImage d y) (g:Nat) (hg:g<d.funcs.length) (x:DInstr) (hx:InstrP x) (hw:WfI x) (hN:NearP d (fnA d.funcs g) x) (hop:x.op=1∨x.op=2∨x.op=3∨x.op=4∨x.op=5∨x.op=6∨x.op=7∨x.op=8∨x.op=9∨x.op=10∨x.op=11) (m:Mem) (hf:m.floor≤m.stk.length+1):
  Okv tab zN [y,.int .i64 g,.agg [.int .u8 x.op,.int .i64 x.a,.int .i64 x.b,.int .i64 x.c]] m (.bool (typR d (fnA d.funcs g) x)):=by
 have hy':=hy
 obtain⟨ty,tx,fs,rfl,h0,h1,h2⟩:=hy
 obtain⟨gw0,gw1,gw2,gw3,gef,gq0,gq1,gq2,gq3⟩:=h2.fnA hg
 have ghat:=h2.at .i64 hg
 have hs:=(hd.at hg).1
 refine ze v8 ?_
 obtain⟨stk,cur,nx,live,fl⟩:=m
 dsimp only at hf
 have hf':fl≤(stk++[cur]).length+1:=by simp;omega
 have hS:=fun s m=>(Tu d _ hy' g hg s m).eq
 generalize fnA d.funcs g=f at*
 have hsl:=tO hs
 have hK:=fun t ht m=>(z0n d _ hy' t ht m).eq
 have hM:=fun t i ht m=>(Tv d _ hy' t i ht m).eq
 have hO:=fun t a b ht m=>(z9g d _ hy' t a b ht m).eq
 have hK1:=hK _ (hsl x.a)
 have hK2:=hK _ (hsl x.b)
 have hK3:=hK _ (hsl x.c)
 have hsl2:=hsl x.b
 simp only[yx,List.map,go_sem,reduceCtorEq,G3,G0,G2,hS]
 generalize callNx tab zt _ _=nz
 simp only[go_sem,reduceCtorEq,G3,G0,G2,hK1,hK2,hK3]
 generalize callNx tab zD _ _=nz2
 rcases hop with h|h|h|h|h|h|h|h|h|h|h
 ·skip
  simp only[go_sem,reduceCtorEq,G0,G2,h]
  repeat' (((first|refine zp ?_ ?_|refine zk ?_ ?_|refine zl ?_ ?_|refine zi ?_ ?_|refine zj ?_ ?_)<;>intro hq)<;>simp only[go_sem,reduceIte,reduceCtorEq,G3,G5,G0,G4,G1,G2,hq,h])
  all_goals
   rw[z6 rfl rfl,z8]
   refine⟨⟨_,rfl⟩,congrArg AV.bool ?_⟩
   unfold typR
   simp only[h,G8,reduceIte,or_false,or_self]<;>first|rfl|simp[*]
 ·skip
  simp only[go_sem,reduceCtorEq,G0,G2,h,G9]
  repeat' (((first|refine zp ?_ ?_|refine zk ?_ ?_|refine zl ?_ ?_|refine zi ?_ ?_|refine zj ?_ ?_)<;>intro hq)<;>simp only[go_sem,reduceIte,reduceCtorEq,G3,G5,G0,G4,G1,G2,hq,h])
  all_goals
   rw[z6 rfl rfl,z8]
   refine⟨⟨_,rfl⟩,congrArg AV.bool ?_⟩
   unfold typR
   simp only[h,G8,reduceIte,or_self]<;>first|rfl|simp[*]
 ·skip
  simp only[go_sem,reduceCtorEq,G0,G2,h,G9]
  repeat' (((first|refine zp ?_ ?_|refine zk ?_ ?_|refine zl ?_ ?_|refine zi ?_ ?_|refine zj ?_ ?_)<;>intro hq)<;>simp only[go_sem,reduceIte,reduceCtorEq,G3,G5,G0,G4,G1,G2,hq,h])
  all_goals
   rw[z6 rfl rfl,z8]
   refine⟨⟨_,rfl⟩,congrArg AV.bool ?_⟩
   unfold typR
   simp only[h,G8,reduceIte,or_false,or_self]<;>first|rfl|simp[*]
 ·skip
  simp only[go_sem,reduceCtorEq,G0,G2,h,G9]
  repeat' (((first|refine zp ?_ ?_|refine zk ?_ ?_|refine zl ?_ ?_|refine zi ?_ ?_|refine zj ?_ ?_)<;>intro hq)<;>simp only[go_sem,reduceIte,reduceCtorEq,G3,G5,G0,G4,G1,G2,hq,h])
  all_goals
   rw[z6 rfl rfl,z8]
   refine⟨⟨_,rfl⟩,congrArg AV.bool ?_⟩
   unfold typR
   simp only[h,G8,reduceIte,or_self]<;>first|rfl|simp[*]
 ·skip
  simp only[go_sem,reduceCtorEq,G0,G2,h,G9]
  repeat' (((first|refine zp ?_ ?_|refine zk ?_ ?_|refine zl ?_ ?_|refine zi ?_ ?_|refine zj ?_ ?_)<;>intro hq)<;>simp only[go_sem,reduceIte,reduceCtorEq,G3,G5,G0,G4,G1,G2,hq,h])
  all_goals
   rw[z6 rfl rfl,z8]
   refine⟨⟨_,rfl⟩,congrArg AV.bool ?_⟩
   unfold typR
   simp only[h,G8,reduceIte,or_self]<;>first|rfl|simp[*]
 ·skip
  simp only[go_sem,reduceCtorEq,G0,G2,h,G9]
  repeat' (((first|refine zp ?_ ?_|refine zk ?_ ?_|refine zl ?_ ?_|refine zi ?_ ?_|refine zj ?_ ?_)<;>intro hq)<;>simp only[go_sem,reduceCtorEq,G0,G2,hq])
  all_goals
   rw[z6 rfl rfl,z8]
   refine⟨⟨_,rfl⟩,congrArg AV.bool ?_⟩
   unfold typR
   simp only[h,G8,reduceIte,or_false,or_self]<;>first|rfl|simp[*]
 ·skip
  simp only[go_sem,reduceCtorEq,G0,G2,h,G9]
  repeat' (((first|refine zp ?_ ?_|refine zk ?_ ?_|refine zl ?_ ?_|refine zi ?_ ?_|refine zj ?_ ?_)<;>intro hq)<;>simp only[go_sem,reduceCtorEq,G0,G2,hq])
  all_goals
   rw[z6 rfl rfl,z8]
   refine⟨⟨_,rfl⟩,congrArg AV.bool ?_⟩
   unfold typR
   simp only[h,G8,reduceIte,or_false,or_self,or_true]<;>first|rfl|simp[*]
 ·skip
  simp only[go_sem,reduceCtorEq,G0,G2,h,G9]
  repeat' (((first|refine zp ?_ ?_|refine zk ?_ ?_|refine zl ?_ ?_|refine zi ?_ ?_|refine zj ?_ ?_)<;>intro hq)<;>simp only[go_sem,reduceCtorEq,G0,G2,hq])
  all_goals
   rw[z6 rfl rfl,z8]
   refine⟨⟨_,rfl⟩,congrArg AV.bool ?_⟩
   unfold typR
   simp only[h,G8,reduceIte,or_false,or_self,or_true]<;>first|rfl|simp[*]
 ·skip
  simp only[go_sem,reduceCtorEq,G0,G2,h,G9]
  repeat' (((first|refine zp ?_ ?_|refine zk ?_ ?_|refine zl ?_ ?_|refine zi ?_ ?_|refine zj ?_ ?_)<;>intro hq)<;>simp only[go_sem,reduceCtorEq,G0,G2,hq])
  all_goals
   rw[z6 rfl rfl,z8]
   refine⟨⟨_,rfl⟩,congrArg AV.bool ?_⟩
   unfold typR
   simp only[h,G8,reduceIte,or_self,or_true]<;>first|rfl|simp[*]
 ·skip
  simp only[go_sem,reduceCtorEq,G0,G2,h,G9]
  repeat' (((first|refine zp ?_ ?_|refine zk ?_ ?_|refine zl ?_ ?_|refine zi ?_ ?_|refine zj ?_ ?_)<;>intro hq)<;>simp only[go_sem,reduceCtorEq,G0,G2,hq])
  all_goals
   rw[z6 rfl rfl,z8]
   refine⟨⟨_,rfl⟩,congrArg AV.bool ?_⟩
   unfold typR
   simp only[h,G8,reduceIte,or_self]<;>first|rfl|simp[*]
 ·have hb0:=Ty hx hw hN hs (k:=1) (by omega) (by right;show(shp x.op).getD 1 45=114;rw[h];rfl)
  change 0≤slotT f x.b at hb0
  obtain⟨q,hq⟩: ∃q:Nat,slotT f x.b=q:=⟨(slotT f x.b).toNat,by omega⟩
  have hqk:q<d.types.length:=by have:=hsl x.b;omega
  obtain⟨u0,e2,e3⟩:=h0.tyA hqk
  have hat:=h0.at .i64 hqk
  have hW:=fun m=>(zbk (tyA d.types q) _ ⟨u0,rfl,e3⟩ m).eq
  rw[hq] at hK2 hsl2
  simp only[hq]
  simp only[go_sem,reduceCtorEq,G0,G2,h,G9]
  repeat' (((first|refine zp ?_ ?_|refine zk ?_ ?_|refine zl ?_ ?_|refine zi ?_ ?_|refine zj ?_ ?_)<;>intro hq)<;>simp only[go_sem,reduceCtorEq,G3,G0,G2,hq,hat,e2,hW])
  all_goals
   rw[z6 rfl rfl,z8]
   refine⟨⟨_,rfl⟩,congrArg AV.bool ?_⟩
   unfold typR
   simp only[h,hq,G8,reduceIte,or_self]<;>first|rfl|simp[*]
theorem z9Z (d:DImage) (hd:ImgP d) (y:AV) (hy:IsImage d y) (g:Nat) (hg:g<d.funcs.length) (x:DInstr) (hx:InstrP x) (hw:WfI x) (hN:NearP d (fnA d.funcs g) x) (hop:x.op=12∨x.op=13∨x.op=14∨x.op=15∨x.op=16∨x.op=17∨x.op=18∨x.op=19∨x.op=20) (m:Mem) (hf:m.floor≤m.stk.length+1):
  Okv tab zN [y,.int .i64 g,.agg [.int .u8 x.op,.int .i64 x.a,.int .i64 x.b,.int .i64 x.c]] m (.bool (typR d (fnA d.funcs g) x)):=by
 have hy':=hy
 obtain⟨ty,tx,fs,rfl,h0,h1,h2⟩:=hy
 obtain⟨gw0,gw1,gw2,gw3,gef,gq0,gq1,gq2,gq3⟩:=h2.fnA hg
 have ghat:=h2.at .i64 hg
 have hs:=(hd.at hg).1
 refine ze v8 ?_
 obtain⟨stk,cur,nx,live,fl⟩:=m
 dsimp only at hf
 have hf':fl≤(stk++[cur]).length+1:=by simp;omega
 have hS:=fun s m=>(Tu d _ hy' g hg s m).eq
 generalize fnA d.funcs g=f at*
 have hsl:=tO hs
 have hK:=fun t ht m=>(z0n d _ hy' t ht m).eq
 have hM:=fun t i ht m=>(Tv d _ hy' t i ht m).eq
 have hO:=fun t a b ht m=>(z9g d _ hy' t a b ht m).eq
 have hK1:=hK _ (hsl x.a)
 have hK2:=hK _ (hsl x.b)
 have hK3:=hK _ (hsl x.c)
 have hsl2:=hsl x.b
 simp only[yx,List.map,go_sem,reduceCtorEq,G3,G0,G2,hS]
 generalize callNx tab zt _ _=nz
 simp only[go_sem,reduceCtorEq,G3,G0,G2,hK1,hK2,hK3]
 generalize callNx tab zD _ _=nz2
 rcases hop with h|h|h|h|h|h|h|h|h
 ·skip
  simp only[go_sem,reduceCtorEq,G0,G2,h,G9]
  repeat' (((first|refine zp ?_ ?_|refine zk ?_ ?_|refine zl ?_ ?_|refine zi ?_ ?_|refine zj ?_ ?_)<;>intro hq)<;>simp only[go_sem,reduceCtorEq,G0,G2,hq])
  all_goals
   rw[z6 rfl rfl,z8]
   refine⟨⟨_,rfl⟩,congrArg AV.bool ?_⟩
   unfold typR
   simp only[h,G8,reduceIte,or_self]<;>first|rfl|simp[*]
 ·skip
  simp only[go_sem,reduceCtorEq,G3,G0,G2,h,G9,hM _ _ (hsl _)]
  repeat' (((first|refine zp ?_ ?_|refine zk ?_ ?_|refine zl ?_ ?_|refine zi ?_ ?_|refine zj ?_ ?_)<;>intro hq)<;>simp only[go_sem,reduceIte,reduceCtorEq,G3,G5,G0,G4,G1,G2,hq,hM _ _ (hsl _)])
  all_goals
   rw[z6 rfl rfl,z8]
   refine⟨⟨_,rfl⟩,congrArg AV.bool ?_⟩
   unfold typR
   simp only[h,G8,reduceIte,or_self]<;>first|rfl|simp[*]
 ·skip
  simp only[go_sem,reduceCtorEq,G3,G0,G2,h,G9,hM _ _ (hsl _)]
  repeat' (((first|refine zp ?_ ?_|refine zk ?_ ?_|refine zl ?_ ?_|refine zi ?_ ?_|refine zj ?_ ?_)<;>intro hq)<;>simp only[go_sem,reduceIte,reduceCtorEq,G3,G5,G0,G4,G1,G2,hq,hM _ _ (hsl _)])
  all_goals
   rw[z6 rfl rfl,z8]
   refine⟨⟨_,rfl⟩,congrArg AV.bool ?_⟩
   unfold typR
   simp only[h,G8,reduceIte,or_self]<;>first|rfl|simp[*]
 ·skip
  simp only[go_sem,reduceCtorEq,G0,G2,h,G9]
  repeat' (((first|refine zp ?_ ?_|refine zk ?_ ?_|refine zl ?_ ?_|refine zi ?_ ?_|refine zj ?_ ?_)<;>intro hq)<;>simp only[go_sem,reduceIte,reduceCtorEq,G3,G5,G0,G4,G1,G2,hq,h])
  all_goals
   rw[z6 rfl rfl,z8]
   refine⟨⟨_,rfl⟩,congrArg AV.bool ?_⟩
   unfold typR
   simp only[h,G8,reduceIte,or_self]<;>first|rfl|simp[*]
 ·skip
  simp only[go_sem,reduceCtorEq,G3,G0,G2,h,G9,hO _ _ _ (hsl _)]
  repeat' (((first|refine zp ?_ ?_|refine zk ?_ ?_|refine zl ?_ ?_|refine zi ?_ ?_|refine zj ?_ ?_)<;>intro hq)<;>simp only[go_sem,reduceIte,reduceCtorEq,G3,G5,G0,G4,G1,G2,hq,hO _ _ _ (hsl _)])
  all_goals
   rw[z6 rfl rfl,z8]
   refine⟨⟨_,rfl⟩,congrArg AV.bool ?_⟩
   unfold typR
   simp only[h,G8,reduceIte,or_self]<;>first|rfl|simp[*]
 ·skip
  simp only[go_sem,reduceCtorEq,G3,G0,G2,h,G9,hO _ _ _ (hsl _)]
  repeat' (((first|refine zp ?_ ?_|refine zk ?_ ?_|refine zl ?_ ?_|refine zi ?_ ?_|refine zj ?_ ?_)<;>intro hq)<;>simp only[go_sem,reduceIte,reduceCtorEq,G3,G5,G0,G4,G1,G2,hq,hO _ _ _ (hsl _)])
  all_goals
   rw[z6 rfl rfl,z8]
   refine⟨⟨_,rfl⟩,congrArg AV.bool ?_⟩
   unfold typR
   simp only[h,G8,reduceIte,or_self]<;>first|rfl|simp[*]
 ·skip
  simp only[go_sem,reduceCtorEq,G0,G2,h,G9]
  repeat' (((first|refine zp ?_ ?_|refine zk ?_ ?_|refine zl ?_ ?_|refine zi ?_ ?_|refine zj ?_ ?_)<;>intro hq)<;>simp only[go_sem,reduceCtorEq,G0,G2,hq])
  all_goals
   rw[z6 rfl rfl,z8]
   refine⟨⟨_,rfl⟩,congrArg AV.bool ?_⟩
   unfold typR
   simp only[h,G8,reduceIte,or_self]<;>first|rfl|simp[*]
 ·skip
  simp only[go_sem,reduceCtorEq,G3,G0,G2,h,G9,hO _ _ _ (hsl _)]
  repeat' (((first|refine zp ?_ ?_|refine zk ?_ ?_|refine zl ?_ ?_|refine zi ?_ ?_|refine zj ?_ ?_)<;>intro hq)<;>simp only[go_sem,reduceCtorEq,G0,G2,hq])
  all_goals
   rw[z6 rfl rfl,z8]
   refine⟨⟨_,rfl⟩,congrArg AV.bool ?_⟩
   unfold typR
   simp only[h,G8,reduceIte,or_self]<;>first|rfl|simp[*]
 ·skip
  simp only[go_sem,reduceCtorEq,G3,G0,G2,h,G9,hO _ _ _ (hsl _)]
  repeat' (((first|refine zp ?_ ?_|refine zk ?_ ?_|refine zl ?_ ?_|refine zi ?_ ?_|refine zj ?_ ?_)<;>intro hq)<;>simp only[go_sem,reduceCtorEq,G0,G2,hq])
  all_goals
   rw[z6 rfl rfl,z8]
   refine⟨⟨_,rfl⟩,congrArg AV.bool ?_⟩
   unfold typR
   simp only[h,G8,reduceIte,or_self]<;>first|rfl|simp[*]
theorem z9Y (d:DImage) (hd:ImgP d) (y:AV) (hy:IsImage d y) (g:Nat) (hg:g<d.funcs.length) (x:DInstr) (hx:InstrP x) (hw:WfI x) (hN:NearP d (fnA d.funcs g) x) (hop:x.op=21∨x.op=22∨x.op=23∨x.op=24∨x.op=25∨x.op=26∨x.op=27) (m:Mem) (hf:m.floor≤m.stk.length+1):
  Okv tab zN [y,.int .i64 g,.agg [.int .u8 x.op,.int .i64 x.a,.int .i64 x.b,.int .i64 x.c]] m (.bool (typR d (fnA d.funcs g) x)):=by
 have hy':=hy
 obtain⟨ty,tx,fs,rfl,h0,h1,h2⟩:=hy
 obtain⟨gw0,gw1,gw2,gw3,gef,gq0,gq1,gq2,gq3⟩:=h2.fnA hg
 have ghat:=h2.at .i64 hg
 have hs:=(hd.at hg).1
 refine ze v8 ?_
 obtain⟨stk,cur,nx,live,fl⟩:=m
 dsimp only at hf
 have hf':fl≤(stk++[cur]).length+1:=by simp;omega
 have hS:=fun s m=>(Tu d _ hy' g hg s m).eq
 generalize fnA d.funcs g=f at*
 have hsl:=tO hs
 have hK:=fun t ht m=>(z0n d _ hy' t ht m).eq
 have hM:=fun t i ht m=>(Tv d _ hy' t i ht m).eq
 have hO:=fun t a b ht m=>(z9g d _ hy' t a b ht m).eq
 have hK1:=hK _ (hsl x.a)
 have hK2:=hK _ (hsl x.b)
 have hK3:=hK _ (hsl x.c)
 have hsl2:=hsl x.b
 simp only[yx,List.map,go_sem,reduceCtorEq,G3,G0,G2,hS]
 generalize callNx tab zt _ _=nz
 simp only[go_sem,reduceCtorEq,G3,G0,G2,hK1,hK2,hK3]
 generalize callNx tab zD _ _=nz2
 rcases hop with h|h|h|h|h|h|h
 ·skip
  simp only[go_sem,reduceCtorEq,G0,G2,h,G9]
  repeat' (((first|refine zp ?_ ?_|refine zk ?_ ?_|refine zl ?_ ?_|refine zi ?_ ?_|refine zj ?_ ?_)<;>intro hq)<;>simp only[go_sem,reduceCtorEq,G0,G2,hq])
  all_goals
   rw[z6 rfl rfl,z8]
   refine⟨⟨_,rfl⟩,congrArg AV.bool ?_⟩
   unfold typR
   simp only[h,G8,reduceIte,or_self]<;>first|rfl|simp[*]
 ·skip
  simp only[go_sem,reduceCtorEq,G0,G2,h,G9]
  repeat' (((first|refine zp ?_ ?_|refine zk ?_ ?_|refine zl ?_ ?_|refine zi ?_ ?_|refine zj ?_ ?_)<;>intro hq)<;>simp only[go_sem,reduceIte,reduceCtorEq,G3,G5,G0,G4,G1,G2,hq,h])
  all_goals
   rw[z6 rfl rfl,z8]
   refine⟨⟨_,rfl⟩,congrArg AV.bool ?_⟩
   unfold typR
   simp only[h,G8,reduceIte,or_self]<;>first|rfl|simp[*]
 ·skip
  simp only[go_sem,reduceCtorEq,G0,G2,h,G9]
  repeat' (((first|refine zp ?_ ?_|refine zk ?_ ?_|refine zl ?_ ?_|refine zi ?_ ?_|refine zj ?_ ?_)<;>intro hq)<;>simp only[go_sem,reduceIte,reduceCtorEq,G3,G5,G0,G4,G1,G2,hq,h])
  all_goals
   rw[z6 rfl rfl,z8]
   refine⟨⟨_,rfl⟩,congrArg AV.bool ?_⟩
   unfold typR
   simp only[h,G8,reduceIte,or_self,or_true]<;>first|rfl|simp[*]
 ·skip
  simp only[go_sem,reduceCtorEq,G0,G2,h,G9]
  repeat' (((first|refine zp ?_ ?_|refine zk ?_ ?_|refine zl ?_ ?_|refine zi ?_ ?_|refine zj ?_ ?_)<;>intro hq)<;>simp only[go_sem,reduceIte,reduceCtorEq,G3,G5,G0,G4,G1,G2,hq,h])
  all_goals
   rw[z6 rfl rfl,z8]
   refine⟨⟨_,rfl⟩,congrArg AV.bool ?_⟩
   unfold typR
   simp only[h,G8,reduceIte,or_self]<;>first|rfl|simp[*]
 ·obtain⟨q,hq⟩: ∃q:Nat,x.b=q:=⟨x.b.toNat,by have:=z69 hx hN h;omega⟩
  have hqk:q<d.funcs.length:=by have:=z69 hx hN h;omega
  obtain⟨v0,v1,v2,v3,ef,q0,q1,q2,q3⟩:=h2.fnA hqk
  have hat:=h2.at .i64 hqk
  simp only[go_sem,reduceCtorEq,G0,G2,h,G9,hq]
  repeat' (((first|refine zp ?_ ?_|refine zk ?_ ?_|refine zl ?_ ?_|refine zi ?_ ?_|refine zj ?_ ?_)<;>intro hq)<;>simp only[go_sem,reduceCtorEq,G0,G2,hq,hat,ef])
  all_goals
   rw[z6 rfl rfl,z8]
   refine⟨⟨_,rfl⟩,congrArg AV.bool ?_⟩
   unfold typR
   simp only[h,hq,G8,reduceIte,or_self]<;>first|rfl|simp[*]
 ·obtain⟨q,hq⟩: ∃q:Nat,x.a=q:=⟨x.a.toNat,by have:=Td hx hN (by omega);omega⟩
  have hqk:q<d.funcs.length:=by have:=Td hx hN (by omega);omega
  have hIG:=hd.at hqk
  have hL:=fun c nz lv=>(z6p d _ hy' q hqk hIG.1 hIG.2.1 hIG.2.2.2 ⟨stk++[cur],c,nz,lv,fl⟩ hf').eq
  simp only[go_sem,reduceCtorEq,G3,G0,G2,h,G9,hq,hL]
  repeat' (((first|refine zp ?_ ?_|refine zk ?_ ?_|refine zl ?_ ?_|refine zi ?_ ?_|refine zj ?_ ?_)<;>intro hq)<;>simp only[go_sem,reduceIte,reduceCtorEq,G3,G5,G0,G4,G1,G2,hq,hq,hL])
  all_goals
   rw[z6 rfl rfl,z8]
   refine⟨⟨_,rfl⟩,congrArg AV.bool ?_⟩
   unfold typR
   simp only[h,hq,G8,reduceIte,or_false,or_self,w1b]<;>first|rfl|simp[*]
 ·obtain⟨q,hq⟩: ∃q:Nat,x.a=q:=⟨x.a.toNat,by have:=Td hx hN (by omega);omega⟩
  have hqk:q<d.funcs.length:=by have:=Td hx hN (by omega);omega
  have hIG:=hd.at hqk
  have hL:=fun c nz lv=>(z6p d _ hy' q hqk hIG.1 hIG.2.1 hIG.2.2.2 ⟨stk++[cur],c,nz,lv,fl⟩ hf').eq
  simp only[go_sem,reduceCtorEq,G3,G0,G2,h,G9,hq,hL]
  repeat' (((first|refine zp ?_ ?_|refine zk ?_ ?_|refine zl ?_ ?_|refine zi ?_ ?_|refine zj ?_ ?_)<;>intro hq)<;>simp only[go_sem,reduceIte,reduceCtorEq,G3,G5,G0,G4,G1,G2,hq,hq,hL])
  all_goals
   rw[z6 rfl rfl,z8]
   refine⟨⟨_,rfl⟩,congrArg AV.bool ?_⟩
   unfold typR
   simp only[h,hq,G8,reduceIte,or_self,or_true,w1b]<;>first|rfl|simp[*]
theorem z9X (d:DImage) (hd:ImgP d) (y:AV) (hy:IsImage d y) (g:Nat) (hg:g<d.funcs.length) (x:DInstr) (hx:InstrP x) (hw:WfI x) (hN:NearP d (fnA d.funcs g) x) (hop:x.op=28∨x.op=29∨x.op=30∨x.op=31∨x.op=32∨x.op=33∨x.op=34) (m:Mem) (hf:m.floor≤m.stk.length+1):
  Okv tab zN [y,.int .i64 g,.agg [.int .u8 x.op,.int .i64 x.a,.int .i64 x.b,.int .i64 x.c]] m (.bool (typR d (fnA d.funcs g) x)):=by
 have hy':=hy
 obtain⟨ty,tx,fs,rfl,h0,h1,h2⟩:=hy
 obtain⟨gw0,gw1,gw2,gw3,gef,gq0,gq1,gq2,gq3⟩:=h2.fnA hg
 have ghat:=h2.at .i64 hg
 have hs:=(hd.at hg).1
 refine ze v8 ?_
 obtain⟨stk,cur,nx,live,fl⟩:=m
 dsimp only at hf
 have hf':fl≤(stk++[cur]).length+1:=by simp;omega
 have hS:=fun s m=>(Tu d _ hy' g hg s m).eq
 generalize fnA d.funcs g=f at*
 have hsl:=tO hs
 have hK:=fun t ht m=>(z0n d _ hy' t ht m).eq
 have hM:=fun t i ht m=>(Tv d _ hy' t i ht m).eq
 have hO:=fun t a b ht m=>(z9g d _ hy' t a b ht m).eq
 have hK1:=hK _ (hsl x.a)
 have hK2:=hK _ (hsl x.b)
 have hK3:=hK _ (hsl x.c)
 have hsl2:=hsl x.b
 simp only[yx,List.map,go_sem,reduceCtorEq,G3,G0,G2,hS]
 generalize callNx tab zt _ _=nz
 simp only[go_sem,reduceCtorEq,G3,G0,G2,hK1,hK2,hK3]
 generalize callNx tab zD _ _=nz2
 rcases hop with h|h|h|h|h|h|h
 ·skip
  simp only[go_sem,reduceCtorEq,G0,G2,h,G9]
  repeat' (((first|refine zp ?_ ?_|refine zk ?_ ?_|refine zl ?_ ?_|refine zi ?_ ?_|refine zj ?_ ?_)<;>intro hq)<;>simp only[go_sem,reduceCtorEq,G0,G2,hq])
  all_goals
   rw[z6 rfl rfl,z8]
   refine⟨⟨_,rfl⟩,congrArg AV.bool ?_⟩
   unfold typR
   simp only[h,G8,reduceIte,or_self]<;>first|rfl|simp[*]
 ·skip
  simp only[go_sem,reduceCtorEq,G0,G2,h,G9]
  repeat' (((first|refine zp ?_ ?_|refine zk ?_ ?_|refine zl ?_ ?_|refine zi ?_ ?_|refine zj ?_ ?_)<;>intro hq)<;>simp only[go_sem,reduceCtorEq,G0,G2,hq])
  all_goals
   rw[z6 rfl rfl,z8]
   refine⟨⟨_,rfl⟩,congrArg AV.bool ?_⟩
   unfold typR
   simp only[h,G8,reduceIte,or_false,or_self]<;>first|rfl|simp[*]
 ·skip
  simp only[go_sem,reduceCtorEq,G0,G2,h,G9]
  repeat' (((first|refine zp ?_ ?_|refine zk ?_ ?_|refine zl ?_ ?_|refine zi ?_ ?_|refine zj ?_ ?_)<;>intro hq)<;>simp only[go_sem,reduceIte,reduceCtorEq,G3,G5,G0,G4,G1,G2,hq,h])
  all_goals
   rw[z6 rfl rfl,z8]
   refine⟨⟨_,rfl⟩,congrArg AV.bool ?_⟩
   unfold typR
   simp only[h,G8,reduceIte,or_self]<;>first|rfl|simp[*]
 ·skip
  simp only[go_sem,reduceCtorEq,G0,G2,h,G9]
  repeat' (((first|refine zp ?_ ?_|refine zk ?_ ?_|refine zl ?_ ?_|refine zi ?_ ?_|refine zj ?_ ?_)<;>intro hq)<;>simp only[go_sem,reduceIte,reduceCtorEq,G3,G5,G0,G4,G1,G2,hq,h])
  all_goals
   rw[z6 rfl rfl,z8]
   refine⟨⟨_,rfl⟩,congrArg AV.bool ?_⟩
   unfold typR
   simp only[h,G8,reduceIte,or_self]<;>first|rfl|simp[*]
 ·skip
  simp only[go_sem,reduceCtorEq,G0,G2,h,G9]
  repeat' (((first|refine zp ?_ ?_|refine zk ?_ ?_|refine zl ?_ ?_|refine zi ?_ ?_|refine zj ?_ ?_)<;>intro hq)<;>simp only[go_sem,reduceIte,reduceCtorEq,G3,G5,G0,G4,G1,G2,hq,h])
  all_goals
   rw[z6 rfl rfl,z8]
   refine⟨⟨_,rfl⟩,congrArg AV.bool ?_⟩
   unfold typR
   simp only[h,G8,reduceIte,or_self,or_true]<;>first|rfl|simp[*]
 ·skip
  simp only[go_sem,reduceCtorEq,G0,G2,h,G9]
  repeat' (((first|refine zp ?_ ?_|refine zk ?_ ?_|refine zl ?_ ?_|refine zi ?_ ?_|refine zj ?_ ?_)<;>intro hq)<;>simp only[go_sem,reduceCtorEq,G0,G2,hq])
  all_goals
   rw[z6 rfl rfl,z8]
   refine⟨⟨_,rfl⟩,congrArg AV.bool ?_⟩
   unfold typR
   simp only[h,G8,reduceIte,or_self,or_true]<;>first|rfl|simp[*]
 ·skip
  simp only[go_sem,reduceCtorEq,G0,G2,h,G9]
  repeat' (((first|refine zp ?_ ?_|refine zk ?_ ?_|refine zl ?_ ?_|refine zi ?_ ?_|refine zj ?_ ?_)<;>intro hq)<;>simp only[go_sem,reduceCtorEq,G0,G2,hq,ghat,gef])
  all_goals
   rw[z6 rfl rfl,z8]
   refine⟨⟨_,rfl⟩,congrArg AV.bool ?_⟩
   unfold typR
   simp only[h,G8,reduceIte,or_self]<;>first|rfl|simp[*]
theorem TD {d:DImage} {t k:Int} (hk:k≠0):isT d t [k]=(kindI d.types t==k):=by
 unfold isT
 rw[w3d,decide_eq_true_iff,beq_iff_eq,w16]
 refine⟨fun h=>h.2,fun h=>⟨?_,h⟩⟩
 apply Classical.byContradiction
 intro hn
 unfold kindI at h
 rw[if_pos (by omega)] at h
 exact hk h.symm
theorem z2O {d:DImage} {t:Int} {ks:List Int} (h:0≤t):isT d t ks=decide (kindI d.types t∈ks):=by
 unfold isT;simp[h]
theorem z5E {d:DImage} {t a b e:Int} (h:0≤t) (he:0≤e):(ofT d t a b==e)=(decide (kindI d.types t=a∨kindI d.types t=b)&&decide ((tyA d.types t).elem=e)):=by
 unfold ofT
 by_cases hc:kindI d.types t=a∨kindI d.types t=b
 ·rw[if_pos ⟨h,hc⟩];simp[hc];rfl
 ·rw[if_neg (fun q=>hc q.2)]
  simp only[hc,decide_false,Bool.false_and,beq_eq_false_iff_ne,ne_eq];omega
theorem z9A {d:DImage} {t k e:Int} (he:0≤e):(memT d t k==e)=memB d t k e:=by
 unfold memT memB
 rw[w3d,beq_iff_eq,decide_eq_true_iff]
 split
 ·rename_i h;exact⟨fun q=>⟨h.1,h.2.1,h.2.2.1,h.2.2.2,q⟩,fun q=>q.2.2.2.2⟩
 ·rename_i h;exact⟨fun q=>by omega,fun q=>absurd ⟨q.1,q.2.1,q.2.2.1,q.2.2.2.1⟩ h⟩
theorem zdp {d:DImage} {t:Int} (h:0≤t):kindI d.types t=(tyA d.types t).kind:=by unfold kindI;rw[if_neg (by omega)]
theorem zex {d:DImage} {f:DFunc} {x:DInstr} (hs:SlotsP d f) (hx:InstrP x) (hw:WfI x) (hN:NearP d f x):typP d f x=typR d f x:=by
 have h1:isT d (slotT f x.a) [1]=(kindI d.types (slotT f x.a)==1):=TD (by decide)
 have h2:=fun t=>TD (d:=d) (t:=t) (k:=1) (by decide)
 have h3:=fun t=>TD (d:=d) (t:=t) (k:=2) (by decide)
 have h4:=fun t=>TD (d:=d) (t:=t) (k:=3) (by decide)
 have h5:=fun t=>TD (d:=d) (t:=t) (k:=4) (by decide)
 have h6:=fun t=>TD (d:=d) (t:=t) (k:=7) (by decide)
 have nn:=fun k hk hl=>Ty hx hw hN hs (k:=k) hk hl
 have n0:=fun hl=>nn 0 (by decide) hl
 have n1:=fun hl=>nn 1 (by decide) hl
 have n2:=fun hl=>nn 2 (by decide) hl
 simp only[opn,sk] at n0 n1 n2
 have hx':=hx
 obtain⟨la,lb,lc,hsh,hf1,hf2,hf3⟩:=hx'
 rcases z2q hx with h|h|h|h|h|h|h|h|h|h|h|h|h|h|h|h|h|h|h|h|h|h|h|h|h|h|h|h|h|h|h|h|h|h
 all_goals
  unfold typP typR
  rw[h] at n0 n1 n2 hsh
  simp only[h,G8,or_false,or_true,if_true,if_false,List.all_cons,List.all_nil,Bool.and_true,h2,h3,h4,h5,h6,Bool.and_assoc]
 all_goals try with_reducible rfl
 ·have:=n1 (by decide)
  rw[z2O this,zdp this]
  congr 2
  refine decide_eq_decide.2 ?_
  simp only[w36,List.not_mem_nil,or_false];omega
 ·have:=n0 (by decide)
  rw[z9A this]
 ·have:=n2 (by decide)
  rw[z9A this]
 ·have q1:=n1 (by decide)
  have q0:=n0 (by decide)
  rw[z5E q1 q0];simp[Bool.beq_eq_decide_eq]
 ·have q1:=n0 (by decide)
  have q0:=n1 (by decide)
  rw[z5E q1 q0];simp[Bool.beq_eq_decide_eq]
 ·have q1:=n1 (by decide)
  have q0:=n0 (by decide)
  rw[z5E q1 q0,z2O q1]
  simp only[w36,List.not_mem_nil,or_false,Bool.and_assoc]
 ·have q1:=n0 (by decide)
  have q0:=n2 (by decide)
  rw[z5E q1 q0,z2O q1]
  simp only[w36,List.not_mem_nil,or_false,Bool.and_assoc]
 ·have q1:=n1 (by decide)
  rw[z2O q1]
  congr 1
  rw[w3d]
  simp[or_assoc]
 ·have e:la=103:=by
   have:shp 25=[103,99,45]:=by decide
   rw[this] at hsh;injection hsh with e _;exact e.symm
  have:lo 103= -1:=by decide
  unfold fitsK at hf1
  rw[e] at hf1
  congr 1
  rw[w3d,decide_eq_true_iff,beq_iff_eq];omega
 ·have q1:=n0 (by decide)
  rw[z2O q1,w3d]
  simp[or_assoc]
 ·have e:la=101:=by
   have:shp 34=[101,45,45]:=by decide
   rw[this] at hsh;injection hsh with e _;exact e.symm
  have:lo 101= -1:=by decide
  unfold fitsK at hf1
  rw[e] at hf1
  congr 1
  rw[w3d,decide_eq_true_iff,beq_iff_eq];omega
theorem z9f (d:DImage) (hd:ImgP d) (f:DFunc) (y:AV) (hy:NV d f y) (hs:SlotsP d f) (x:DInstr) (hx:InstrP x) (hN:NearP d f x) (m:Mem) (hf:m.floor≤m.stk.length+1):
  Okv tab zK [y,.agg [.int .u8 x.op,.int .i64 x.a,.int .i64 x.b,.int .i64 x.c]] m (.bool (typP d f x)):=by
 have h:=z2q hx
 by_cases h1:x.op≤11
 ·exact z9U d hd f y hy hs x hx hN (by omega) m hf
 by_cases h2:x.op≤20
 ·exact z9T d hd f y hy hs x hx hN (by omega) m hf
 by_cases h3:x.op≤27
 ·exact z9S d hd f y hy hs x hx hN (by omega) m hf
 ·exact z9R d hd f y hy hs x hx hN (by omega) m hf
theorem z9j (d:DImage) (hd:ImgP d) (y:AV) (hy:IsImage d y) (g:Nat) (hg:g<d.funcs.length) (x:DInstr) (hx:InstrP x) (hw:WfI x) (hN:NearP d (fnA d.funcs g) x) (m:Mem) (hf:m.floor≤m.stk.length+1):
  Okv tab zN [y,.int .i64 g,.agg [.int .u8 x.op,.int .i64 x.a,.int .i64 x.b,.int .i64 x.c]] m (.bool (typP d (fnA d.funcs g) x)):=by
 rw[zex (hd.at hg).1 hx hw hN]
 have h:=z2q hx
 by_cases h1:x.op≤11
 ·exact za0 d hd y hy g hg x hx hw hN (by omega) m hf
 by_cases h2:x.op≤20
 ·exact z9Z d hd y hy g hg x hx hw hN (by omega) m hf
 by_cases h3:x.op≤27
 ·exact z9Y d hd y hy g hg x hx hw hN (by omega) m hf
 ·exact z9X d hd y hy g hg x hx hw hN (by omega) m hf
def r0:DRun:=⟨0,0⟩
def runAt (l:List DRun) (j:Nat):DRun:=l.getD j r0
theorem z4k {l:List DRun} {j:Nat} (h:j<l.length):l[j]=runAt l j:=by simp[runAt,w00,h]
def stepOk (l:List DRun) (n:Int) (j:Nat):Prop:=(runAt l j).frm<n∧(0<j→(runAt l (j-1)).frm<(runAt l j).frm∧(runAt l (j-1)).value≠(runAt l j).value)
def FineR (l:List DRun) (n:Int):Prop:=0<l.length∧(runAt l 0).frm=0∧ ∀j,j<l.length→stepOk l n j
theorem IsSl.run {l:List DRun} {x:AV} (hx:IsSl IsRun 2 l x) {j:Nat} (h:j<l.length):nth x j= .agg [.int .i64 (runAt l j).frm,.int .u64 (runAt l j).value]:=by
 have:=hx.nth h
 rw[z4k h] at this
 exact this
theorem at0 {α:Type} {R:α→AV→Prop} {s:Nat} {xs:List α} {y:AV} (h:IsSl R s xs y) (hi:0<xs.length):evIaddr s y (.int .i64 0)=some (.ro (nth y 0).cells):=h.at .i64 hi
theorem z9M {α:Type} {R:α→AV→Prop} {s:Nat} {xs:List α} {y:AV} (h:IsSl R s xs y) {i:Nat} (h0:0<i) (hi:i-1<xs.length):evIaddr s y (.int .i64 ((i:Int)-1))=some (.ro (nth y (i-1)).cells):=by
 have:=h.at .i64 hi
 rwa [show((i-1:Nat):Int)=(i:Int)-1 by omega] at this
theorem QC (l:List DRun) (x:AV) (hx:IsSl IsRun 2 l x) (n:Int) (m:Mem):Okv tab vy [x,.int .i64 n] m (.bool (pb (FineR l n))):=by
 refine ze Ur ?_
 obtain⟨stk,cur,nx,live,fl⟩:=m
 simp only[qc,List.map,go_sem,reduceCtorEq,G3,G0,G2,hx.len]
 by_cases h0:0<l.length
 case neg=>
  have h0':(l.length:Int)<1:=by omega
  simp only[go_sem,reduceCtorEq,G0,G2,h0']
  rw[z6 rfl rfl,z8]
  exact⟨⟨_,rfl⟩,by rw[zg fun h=>h0 h.1]⟩
 have h0': ¬(l.length:Int)<1:=by omega
 by_cases hz:(runAt l 0).frm=0
 case neg=>
  have hz':((runAt l 0).frm !=0)=true:=by simpa using hz
  simp only[go_sem,reduceCtorEq,G0,G2,h0',at0 hx h0,IsSl.run hx h0,hz']
  rw[z6 rfl rfl,z8]
  exact⟨⟨_,rfl⟩,by rw[zg fun h=>hz h.2.1]⟩
 have hz':((runAt l 0).frm !=0)=false:=by simpa using hz
 simp only[go_sem,reduceCtorEq,G0,G2,h0',at0 hx h0,IsSl.run hx h0,hz']
 refine za (α:=Nat) (fun i σ=>(i≤l.length∧ ∀j,j<i→stepOk l n j)∧ ∃nz,heads [0,1,5] 0 σ=⟨tmps 61 [(0,x),(1,.int .i64 n),(5,.int .i64 i)],⟨stk++[cur],[],nz,[]::live,fl⟩⟩) (fun i=>l.length-i) 0 ?_ ?_
 ·refine⟨⟨w06 _,fun j h=>absurd h (w35 _)⟩,?_⟩
  simp only[go_sem,reduceCtorEq,G0,G1]
  exact⟨_,rfl⟩
 ·rintro i σ ⟨⟨hi,ht⟩,nz,hσ⟩
  rw[hσ]
  clear hσ σ
  dsimp only at hi ht⊢
  by_cases h:i<l.length
  ·have e1:=IsSl.run hx h
   have hat:=hx.at .i64 h
   have bad: ¬stepOk l n i→pb (FineR l n)=false:=fun hb=>zg fun h'=>hb (h'.2.2 i h)
   have hsucc:=zd h hx.max
   have hmx:=hx.max
   have next:stepOk l n i→ ∀j,j<i+1→stepOk l n j:=fun hs j hj=>by
    rcases Nat.lt_succ_iff_lt_or_eq.1 hj with q|q
    ·exact ht j q
    ·exact q▸hs
   simp only[go_sem,reduceCtorEq,G0,G1,G2,w02,h,hx.len,hat,e1]
   by_cases hn:(runAt l i).frm<n
   case neg=>
    have hn':(runAt l i).frm≥n:=by omega
    simp only[go_sem,reduceCtorEq,G0,G2,hn']
    rw[z6 rfl rfl,z8]
    exact⟨⟨_,rfl⟩,by rw[bad fun h'=>hn h'.1]⟩
   have hn': ¬(runAt l i).frm≥n:=by omega
   by_cases hp:0<i
   case neg=>
    have hp': ¬((i:Int)>0):=by omega
    simp only[go_sem,reduceCtorEq,G0,G2,hn',hp',hsucc]
    exact⟨i+1,by omega,⟨h,next ⟨hn,fun h'=>absurd h' hp⟩⟩,_,rfl⟩
   have hp':(i:Int)>0:=by omega
   have hsub:IntKind.i64.wrap ((i:Int)-1)=(i:Int)-1:=zb (by omega) (by omega)
   have e2:=IsSl.run hx (show i-1<l.length by omega)
   have hat2:=z9M hx hp (show i-1<l.length by omega)
   by_cases hq:(runAt l (i-1)).frm≥(runAt l i).frm
   ·simp only[go_sem,reduceCtorEq,G0,G2,hn',hp',hsub,hat,e1,hat2,e2,hq]
    rw[z6 rfl rfl,z8]
    exact⟨⟨_,rfl⟩,by rw[bad fun h'=>by have:=(h'.2 hp).1;omega]⟩
   ·by_cases hv:(runAt l (i-1)).value=(runAt l i).value
    ·have hv':((runAt l (i-1)).value==(runAt l i).value)=true:=by simpa using hv
     simp only[go_sem,reduceCtorEq,G0,G2,hn',hp',hsub,hat,e1,hat2,e2,hq,hv']
     rw[z6 rfl rfl,z8]
     exact⟨⟨_,rfl⟩,by rw[bad fun h'=>(h'.2 hp).2 hv]⟩
    ·have hv':((runAt l (i-1)).value==(runAt l i).value)=false:=by simpa using hv
     simp only[go_sem,reduceCtorEq,G0,G2,hn',hp',hsub,hat,e1,hat2,e2,hq,hv',hsucc]
     exact⟨i+1,by omega,⟨h,next ⟨hn,fun _=>⟨by omega,hv⟩⟩⟩,_,rfl⟩
  ·have:i=l.length:=by omega
   subst this
   simp only[go_sem,reduceCtorEq,G0,G1,G2,w02,h,hx.len]
   rw[z6 rfl rfl,z8]
   exact⟨⟨_,rfl⟩,by rw[zF ⟨h0,hz,ht⟩]⟩
noncomputable def err08 (l:List DRun) (n:Int):Int:=if n<1∨n>200 then 2 else if pb (FineR l n) then 0 else 8
theorem z48 (n:Int) (m:Mem):Okv tab qC [.int .i64 n] m (.int .i64 (if n<1∨n>200 then 2 else 0)):=by
 refine ze z0u ?_
 obtain⟨stk,cur,nx,live,fl⟩:=m
 simp only[jX,List.map,go_sem,reduceCtorEq,G0,G2]
 repeat' (((first|refine zp ?_ ?_|refine zk ?_ ?_|refine zl ?_ ?_|refine zi ?_ ?_|refine zj ?_ ?_)<;>intro hq)<;>simp only[go_sem,reduceCtorEq,G0,G2,hq])
 all_goals
  rw[z6 rfl rfl,z8]
  refine⟨⟨_,rfl⟩,?_⟩
  simp only[decide_eq_true_eq,decide_eq_false_iff_not] at*
  simp[*]
theorem IsSl.from1 {α:Type} {R:α→AV→Prop} {s:Nat} {xs:List α} {y:AV} (h:IsSl R s xs y) (h0:0<xs.length): ∃y',evSlice s y (some (.int .i64 1)) none none=some y'∧IsSl R s (xs.drop 1) y':=by
 rcases h with⟨hm,⟨rfl,rfl⟩|⟨tk,ys,rfl,h⟩⟩
 ·simp at h0
 ·have hl:=h.len
  have hb:bound (some (.int .i64 1)) ys.length 0=some 1:=by
   unfold bound;simp only;rw[if_pos (by omega)];rfl
  have e:evSlice s (.list s tk ys) (some (.int .i64 1)) none none=some (.list s (if ys.length==ys.length&&(1==0||decide (1<ys.length)) then tk else .none) ((ys.take ys.length).drop 1)):=by
   unfold evSlice
   simp only[beq_self_eq_true,if_true]
   rw[show bound none ys.length ys.length=some ys.length from rfl,w34,hb]
   simp
  refine⟨_,e,?_⟩
  rw[w08]
  exact .mk (h.drop 1) (by rw[w56];omega)
theorem z4H {l:List DRun} {n:Int} (h0:0<l.length) (hl:(runAt l (l.length-1)).frm<n) (hs: ∀j,0<j→j<l.length→(runAt l (j-1)).frm<(runAt l j).frm): ∀k,k<l.length→(runAt l (l.length-1-k)).frm<n
 |0,_=>by simpa using hl
 |k+1,hk=>by
  have ih:=z4H h0 hl hs k (by omega)
  have:=hs (l.length-1-k) (by omega) (by omega)
  rw[show l.length-1-k-1=l.length-1-(k+1) by omega] at this
  omega
theorem z3p (l:List DRun) (x:AV) (hx:IsSl IsRun 2 l x) (n:Int) (m:Mem):Okv tab YV [x,.int .i64 n] m (.bool (pb (FineR l n))):=by
 refine ze z3A ?_
 obtain⟨stk,cur,nx,live,fl⟩:=m
 have hmx:=hx.max
 simp only[YK,List.map,go_sem,reduceCtorEq,G3,G0,G2,hx.len]
 by_cases h0:0<l.length
 case neg=>
  have h0':((l.length:Int)==0)=true:=beq_iff_eq.2 (by omega)
  simp only[go_sem,reduceCtorEq,G0,G2,h0']
  rw[z6 rfl rfl,z8]
  exact⟨⟨_,rfl⟩,by rw[zg fun h=>h0 h.1]⟩
 have h0':((l.length:Int)==0)=false:=beq_eq_false_iff_ne.2 (by omega)
 by_cases hz:(runAt l 0).frm=0
 case neg=>
  have hz':((runAt l 0).frm !=0)=true:=by simpa using hz
  simp only[go_sem,reduceCtorEq,G0,G2,h0',at0 hx h0,IsSl.run hx h0,hz']
  rw[z6 rfl rfl,z8]
  exact⟨⟨_,rfl⟩,by rw[zg fun h=>hz h.2.1]⟩
 have hz':((runAt l 0).frm !=0)=false:=by simpa using hz
 have hsub:IntKind.i64.wrap ((l.length:Int)-1)=(l.length:Int)-1:=zb (by omega) (by omega)
 have hlast:=z9M hx h0 (show l.length-1<l.length by omega)
 have elast:=IsSl.run hx (show l.length-1<l.length by omega)
 by_cases hn:(runAt l (l.length-1)).frm<n
 case neg=>
  have hn':(runAt l (l.length-1)).frm≥n:=by omega
  simp only[go_sem,reduceCtorEq,G0,G2,h0',at0 hx h0,IsSl.run hx h0,hz',hx.len,hsub,hlast,elast,hn']
  rw[z6 rfl rfl,z8]
  exact⟨⟨_,rfl⟩,by rw[zg fun h=>hn (h.2.2 _ (by omega)).1]⟩
 have hn': ¬(runAt l (l.length-1)).frm≥n:=by omega
 obtain⟨y,hy,hys⟩:=IsSl.from1 hx h0
 have hyl:=hys.len
 rw[w56] at hyl
 simp only[go_sem,reduceCtorEq,G3,G0,G2,h0',at0 hx h0,IsSl.run hx h0,hz',hx.len,hsub,hlast,elast,hn',hy,hyl]
 refine za (α:=Nat) (fun i σ=>(i+1≤l.length∧ ∀j,0<j→j≤i→(runAt l (j-1)).frm<(runAt l j).frm∧(runAt l (j-1)).value≠(runAt l j).value)∧ ∃nz,heads [5,33,34,35] 1 σ=⟨tmps 55 [(5,.ptr (stk++[cur]).length 0 nx 0),(33,y),(34,.int .i64 (l.length-1:Nat)),(35,.int .i64 i)],⟨stk++[cur],[⟨nx,[.int .i64 (runAt l i).frm,.int .u64 (runAt l i).value]⟩],nz,[]::live,fl⟩⟩) (fun i=>l.length-i) 0 ?_ ?_
 ·refine⟨⟨h0,fun j h h'=>absurd h (by omega)⟩,?_⟩
  simp only[go_sem,reduceCtorEq,G0,G1]
  exact⟨_,rfl⟩
 ·rintro i σ ⟨⟨hi,ht⟩,nz,hσ⟩
  rw[hσ]
  clear hσ σ
  dsimp only at hi ht⊢
  by_cases h:i<l.length-1
  ·have hd:i<(l.drop 1).length:=by rw[w56];exact h
   have e1:nth y i= .agg [.int .i64 (runAt l (i+1)).frm,.int .u64 (runAt l (i+1)).value]:=by
    have:=IsSl.run hys hd
    rw[this]
    have:runAt (l.drop 1) i=runAt l (i+1):=by simp[runAt,w00]
    rw[this]
   have hat:=hys.at .i64 hd
   have hsucc:=zd hd hys.max
   have bad: ¬((runAt l i).frm<(runAt l (i+1)).frm∧(runAt l i).value≠(runAt l (i+1)).value)→pb (FineR l n)=false:=fun hb=>zg fun h'=>hb (by have:=(h'.2.2 (i+1) (by omega)).2 (by omega);simpa using this)
   simp only[go_sem,G3,G0,G1,G2,w02,h,hat,e1]
   by_cases hq:(runAt l (i+1)).frm≤(runAt l i).frm
   ·simp only[go_sem,G0,G2,hq]
    rw[z6 rfl rfl,z8]
    exact⟨⟨_,rfl⟩,by rw[bad fun h'=>by omega]⟩
   ·by_cases hv:(runAt l (i+1)).value=(runAt l i).value
    ·have hv':((runAt l (i+1)).value==(runAt l i).value)=true:=by simpa using hv
     simp only[go_sem,G3,G0,G4,G2,hq,evBuild,eqAt,eqCell,hv']
     rw[z6 rfl rfl,z8]
     exact⟨⟨_,rfl⟩,by rw[bad fun h'=>h'.2 hv.symm]⟩
    ·have hv':((runAt l (i+1)).value==(runAt l i).value)=false:=by simpa using hv
     simp only[go_sem,G3,G0,G4,G2,hq,evBuild,eqAt,eqCell,hv',hsucc]
     refine⟨i+1,by omega,⟨by omega,fun j hj hji=> ?_⟩,_,rfl⟩
     rcases Nat.lt_or_eq_of_le hji with q|q
     ·exact ht j hj (by omega)
     ·subst q;exact⟨by simpa using (by omega:(runAt l i).frm<(runAt l (i+1)).frm),fun e=>hv (by simpa using e.symm)⟩
  ·have hil:i=l.length-1:=by omega
   simp only[go_sem,G0,G1,G2,w02,h]
   rw[z6 rfl rfl,z8]
   refine⟨⟨_,rfl⟩,by rw[zF ⟨h0,hz,fun j hj=>⟨?_,fun hp=>ht j hp (by omega)⟩⟩]⟩
   have:=z4H h0 hn (fun j hp hj=>(ht j hp (by omega)).1) (l.length-1-j) (by omega)
   rwa [show l.length-1-(l.length-1-j)=j by omega] at this
theorem Zo (l:List DRun) (x:AV) (hx:IsSl IsRun 2 l x) (n:Int) (m:Mem):Okv tab qs [x,.int .i64 n] m (.int .i64 (err08 l n)):=by
 refine ze z25 ?_
 obtain⟨stk,cur,nx,live,fl⟩:=m
 have hF:=fun m=>(z3p l x hx n m).eq
 have hC:=fun m=>(z48 n m).eq
 simp only[ZK,List.map,go_sem,reduceCtorEq,G3,G0,G2,hC]
 by_cases hn:n<1∨n>200
 ·simp only[go_sem,reduceCtorEq,G0,G2,hn,show((2:Int) !=0)=true from rfl]
  rw[z6 rfl rfl,z8]
  exact⟨⟨_,rfl⟩,by unfold err08;rw[if_pos hn]⟩
 ·simp only[go_sem,reduceCtorEq,G0,G2,hn,show((0:Int) !=0)=false from rfl,hF]
  cases hp:pb (FineR l n)
  ·simp only[go_sem,reduceCtorEq,G0,G2]
   rw[z6 rfl rfl,z8]
   exact⟨⟨_,rfl⟩,by unfold err08;rw[if_neg hn,hp];rfl⟩
  ·simp only[go_sem,reduceCtorEq,G0,G2]
   rw[z6 rfl rfl,z8]
   exact⟨⟨_,rfl⟩,by unfold err08;rw[if_neg hn,hp];rfl⟩
def rns (v:List Nat):Nat→List DRun
 |0=>[]
 |k+1=>if k=0∨v.getD k 0≠v.getD (k-1) 0 then rns v k++[⟨k,(v.getD k 0:Nat)⟩] else rns v k
theorem Y5 (v:List Nat): ∀k,(rns v k).length≤k
 |0=>by simp[rns]
 |k+1=>by
  have:=Y5 v k
  unfold rns
  split<;>simp<;>omega
def madeR (v:List Nat):List DRun:=rns v v.length
theorem z0R (a b:Int):All2 IsRun [⟨a,b⟩] [.agg [.int .i64 a,.int .u64 b]]:=⟨rfl,trivial⟩
theorem zbo (v:List Nat) (hv:1≤v.length∧v.length≤200) (m:Mem) (L j st:Nat) (hL:L≤m.stk.length) (hb:m.blk L j st=some (us v)):Okp IsRun 2 tab kp [.arr L j st 0 v.length] m (madeR v) 0:=by
 refine z5D z3B ?_
 obtain⟨stk,cur,nx,live,fl⟩:=m
 have hrow:=qM hb hL
 have hne:(L==(stk++[cur]).length)=false:=by simp at hL⊢;omega
 have hidx: ∀k,k<v.length→idx (.int .i64 (k:Nat)) v.length=some k:=fun k h=>zB .i64 k _ h
 have hC:=fun m=>(z48 (v.length:Nat) m).eq
 rw[if_neg (by omega)] at hC
 simp only[YL,List.map,go_sem,reduceCtorEq,G0,G2,evLen,hC,show((0:Int) !=0)=false from rfl]
 refine za (α:=Nat) (fun k σ=>k≤v.length∧ ∃nz y e,Own IsRun 2 y (rns v k) e∧heads [0,5,14,15] 0 σ=⟨tmps 43 [(0,.arr L j st 0 v.length),(5,y),(14,.int .i64 v.length),(15,.int .i64 k)],⟨stk++[cur],[],nz,e::live,fl⟩⟩) (fun k=>v.length-k) 0 ?_ ?_
 ·refine⟨w06 _,?_⟩
  simp only[go_sem,reduceCtorEq,G0,G1]
  exact⟨_,_,[],.nil _,rfl⟩
 ·rintro k σ ⟨hk,nz,y,e,ho,hσ⟩
  rw[hσ]
  clear hσ σ
  dsimp only at hk⊢
  have hrl:=Y5 v k
  by_cases h:k<v.length
  ·have hsucc:IntKind.i64.wrap ((k:Int)+1)=((k+1:Nat):Int):=by rw[zb (by omega) (by omega)];omega
   have hgk:=jR h
   have hik:=hidx k h
   by_cases h0:k=0
   ·subst h0
    rw[w25] at hgk
    have hr:rns v 1=[]++[⟨(0:Nat),(v.getD 0 0:Nat)⟩]:=by simp[rns]
    simp only[go_sem,reduceCtorEq,G3,G0,G4,G1,G2,w02,h,show(((0:Nat):Int)>0)=False from eq_false (by decide),zc,hik,w10,hne,hrow,hgk,evBuild]
    refine ho.xv (bytes:=16) (zh · 2 .full [.agg [.int .i64 ((0:Nat):Int),.int .u64 ((v.getD 0 0:Nat):Int)]]) (z0R _ _) (by simp only[w19];omega) fun y' n' e' ho'=> ?_
    simp only[go_sem,reduceCtorEq,G0,G2,hsucc]
    exact⟨1,by omega,h,n',y',e',by rw[hr];exact ho',rfl⟩
   ·have hk1:k-1<v.length:=by omega
    have hgk1:=jR hk1
    have hik1:=hidx (k-1) hk1
    have hsub:IntKind.i64.wrap ((k:Int)-1)=((k-1:Nat):Int):=by rw[zb (by omega) (by omega)];omega
    by_cases he:v.getD k 0=v.getD (k-1) 0
    ·have hr:rns v (k+1)=rns v k:=by rw[rns,if_neg fun q=>q.elim h0 (fun q=>q he)]
     have hbq:(((v.getD k 0:Nat):Int)==((v.getD (k-1) 0:Nat):Int))=true:=by rw[he];simp
     simp only[go_sem,reduceCtorEq,G0,G1,G2,w02,h,show((k:Int)>0)=True from eq_true (by omega),zc,hik,hik1,w10,hne,hrow,hgk,hsub,hgk1,hbq,hsucc]
     exact⟨k+1,by omega,h,nz,y,e,by rw[hr];exact ho,rfl⟩
    ·have hr:rns v (k+1)=rns v k++[⟨k,(v.getD k 0:Nat)⟩]:=by rw[rns,if_pos (Or.inr he)]
     have hbq:(((v.getD k 0:Nat):Int)==((v.getD (k-1) 0:Nat):Int))=false:=by rw[beq_eq_false_iff_ne,ne_eq,Int.ofNat_inj];exact he
     simp only[go_sem,reduceCtorEq,G3,G0,G4,G1,G2,w02,h,show((k:Int)>0)=True from eq_true (by omega),zc,hik,hik1,w10,hne,hrow,hgk,hsub,hgk1,hbq,evBuild]
     refine ho.xv (zh · 2 .full [.agg [.int .i64 (k:Int),.int .u64 ((v.getD k 0:Nat):Int)]]) (z0R _ _) (by simp only[w19];omega) fun y' n' e' ho'=> ?_
     simp only[go_sem,reduceCtorEq,G0,G2,hsucc]
     exact⟨k+1,by omega,h,n',y',e',by rw[hr];exact ho',rfl⟩
  ·have:k=v.length:=by omega
   subst this
   simp only[go_sem,reduceCtorEq,G0,G1,G2,w02,h]
   exact XB ho
def IsU (n:Nat) (y:AV):Prop:=y= .int .u64 (n:Int)
theorem zd1 (v:List Nat) (hv:v.length≤200) (x:AV) (hx:IsSl IsU 1 v x) (m:Mem):Okl IsRun 2 tab xj [x] m (madeR v):=by
 have hel: ∀k,k<v.length→nth x k= .int .u64 ((v.getD k 0:Nat):Int):=fun k h=>by
  have:=hx.nth h
  rw[show v[k]=v.getD k 0 by simp[w00,h]] at this
  exact this
 have hlx:=hx.len
 refine j4 kA ?_
 obtain⟨stk,cur,nx,live,fl⟩:=m
 skip
 simp only[vt,List.map,go_sem]
 refine za (α:=Nat) (fun k σ=>k≤v.length∧ ∃nz y e,Own IsRun 2 y (rns v k) e∧heads [0,3,4] 0 σ=⟨tmps 35 [(0,x),(3,y),(4,.int .i64 k)],⟨stk++[cur],[],nz,e::live,fl⟩⟩) (fun k=>v.length-k) 0 ?_ ?_
 ·refine⟨w06 _,?_⟩
  simp only[go_sem,reduceCtorEq,G0,G1]
  exact⟨_,_,[],.nil _,rfl⟩
 ·rintro k σ ⟨hk,nz,y,e,ho,hσ⟩
  rw[hσ]
  clear hσ σ
  dsimp only at hk⊢
  have hrl:=Y5 v k
  by_cases h:k<v.length
  ·have hsucc:IntKind.i64.wrap ((k:Int)+1)=((k+1:Nat):Int):=by rw[zb (by omega) (by omega)];omega
   obtain⟨a1,a2⟩:=(⟨hx.at .i64 h,hel k h⟩:_∧_)
   by_cases h0:k=0
   ·subst h0
    try rw[w25] at a2
    have hr:rns v 1=[]++[⟨(0:Nat),(v.getD 0 0:Nat)⟩]:=by simp[rns]
    simp only[go_sem,reduceCtorEq,G3,G0,G4,G1,G2,hlx,w02,h,show(((0:Nat):Int)==0)=true from rfl,a1,a2,evBuild]
    refine ho.xv (bytes:=16) (zh · 2 .full [.agg [.int .i64 ((0:Nat):Int),.int .u64 ((v.getD 0 0:Nat):Int)]]) (z0R _ _) (by simp only[w19];omega) fun y' n' e' ho'=> ?_
    simp only[go_sem,reduceCtorEq,G0,G2,hsucc]
    exact⟨1,by omega,h,n',y',e',by rw[hr];exact ho',rfl⟩
   ·have hk1:k-1<v.length:=by omega
    obtain⟨b1,b2⟩:=(⟨hx.at .i64 hk1,hel _ hk1⟩:_∧_)
    have hsub:IntKind.i64.wrap ((k:Int)-1)=((k-1:Nat):Int):=by rw[zb (by omega) (by omega)];omega
    have hk0:((k:Int)==0)=false:=by rw[beq_eq_false_iff_ne];omega
    by_cases he:v.getD k 0=v.getD (k-1) 0
    ·have hr:rns v (k+1)=rns v k:=by rw[rns,if_neg fun q=>q.elim h0 (fun q=>q he)]
     have hbq:(((v.getD k 0:Nat):Int) !=((v.getD (k-1) 0:Nat):Int))=false:=by rw[he];simp
     simp only[go_sem,reduceCtorEq,G0,G1,G2,hlx,w02,h,hk0,a1,a2,b1,b2,hsub,hbq,hsucc]
     exact⟨k+1,by omega,h,nz,y,e,by rw[hr];exact ho,rfl⟩
    ·have hr:rns v (k+1)=rns v k++[⟨k,(v.getD k 0:Nat)⟩]:=by rw[rns,if_pos (Or.inr he)]
     have hbq:(((v.getD k 0:Nat):Int) !=((v.getD (k-1) 0:Nat):Int))=true:=by rw[bne_iff_ne,ne_eq,Int.ofNat_inj];exact he
     simp only[go_sem,reduceCtorEq,G3,G0,G4,G1,G2,hlx,w02,h,hk0,a1,a2,b1,b2,hsub,hbq,evBuild]
     refine ho.xv (zh · 2 .full [.agg [.int .i64 (k:Int),.int .u64 ((v.getD k 0:Nat):Int)]]) (z0R _ _) (by simp only[w19];omega) fun y' n' e' ho'=> ?_
     simp only[go_sem,reduceCtorEq,G0,G2,hsucc]
     exact⟨k+1,by omega,h,n',y',e',by rw[hr];exact ho',rfl⟩
  ·have:k=v.length:=by omega
   subst this
   simp only[go_sem,reduceCtorEq,G0,G1,G2,hlx,w02,h]
   exact vT ho
theorem zd2 (v:List Nat) (hv:v.length≤200) (m:Mem) (L j st:Nat) (hL:L≤m.stk.length) (hb:m.blk L j st=some (us v)) (x:AV) (hx:x= .arr L j st 0 v.length):Okl IsRun 2 tab xj [x] m (madeR v):=by
 have hlx:evLen x=some (.int .i64 v.length):=by rw[hx];rfl
 have hat: ∀k,k<v.length→evIaddr 1 x (.int .i64 (k:Nat))=some (.ptr L j st k):=fun k h=>by
  rw[hx,zc,zB .i64 k _ h];simp
 refine j4 kA ?_
 obtain⟨stk,cur,nx,live,fl⟩:=m
 have hrow:=qM hb hL
 have hne:(L==(stk++[cur]).length)=false:=by simp at hL⊢;omega
 have hidx: ∀k,k<v.length→idx (.int .i64 (k:Nat)) v.length=some k:=fun k h=>zB .i64 k _ h
 simp only[vt,List.map,go_sem]
 refine za (α:=Nat) (fun k σ=>k≤v.length∧ ∃nz y e,Own IsRun 2 y (rns v k) e∧heads [0,3,4] 0 σ=⟨tmps 35 [(0,x),(3,y),(4,.int .i64 k)],⟨stk++[cur],[],nz,e::live,fl⟩⟩) (fun k=>v.length-k) 0 ?_ ?_
 ·refine⟨w06 _,?_⟩
  simp only[go_sem,reduceCtorEq,G0,G1]
  exact⟨_,_,[],.nil _,rfl⟩
 ·rintro k σ ⟨hk,nz,y,e,ho,hσ⟩
  rw[hσ]
  clear hσ σ
  dsimp only at hk⊢
  have hrl:=Y5 v k
  by_cases h:k<v.length
  ·have hsucc:IntKind.i64.wrap ((k:Int)+1)=((k+1:Nat):Int):=by rw[zb (by omega) (by omega)];omega
   obtain⟨a1,a2⟩:=(⟨hat k h,jR h⟩:_∧_)
   by_cases h0:k=0
   ·subst h0
    try rw[w25] at a2
    have hr:rns v 1=[]++[⟨(0:Nat),(v.getD 0 0:Nat)⟩]:=by simp[rns]
    simp only[go_sem,reduceCtorEq,G3,G0,G4,G1,G2,hlx,hne,hrow,w02,h,show(((0:Nat):Int)==0)=true from rfl,a1,a2,evBuild]
    refine ho.xv (bytes:=16) (zh · 2 .full [.agg [.int .i64 ((0:Nat):Int),.int .u64 ((v.getD 0 0:Nat):Int)]]) (z0R _ _) (by simp only[w19];omega) fun y' n' e' ho'=> ?_
    simp only[go_sem,reduceCtorEq,G0,G2,hsucc]
    exact⟨1,by omega,h,n',y',e',by rw[hr];exact ho',rfl⟩
   ·have hk1:k-1<v.length:=by omega
    obtain⟨b1,b2⟩:=(⟨hat _ hk1,jR hk1⟩:_∧_)
    have hsub:IntKind.i64.wrap ((k:Int)-1)=((k-1:Nat):Int):=by rw[zb (by omega) (by omega)];omega
    have hk0:((k:Int)==0)=false:=by rw[beq_eq_false_iff_ne];omega
    by_cases he:v.getD k 0=v.getD (k-1) 0
    ·have hr:rns v (k+1)=rns v k:=by rw[rns,if_neg fun q=>q.elim h0 (fun q=>q he)]
     have hbq:(((v.getD k 0:Nat):Int) !=((v.getD (k-1) 0:Nat):Int))=false:=by rw[he];simp
     simp only[go_sem,reduceCtorEq,G0,G1,G2,hlx,hne,hrow,w02,h,hk0,a1,a2,b1,b2,hsub,hbq,hsucc]
     exact⟨k+1,by omega,h,nz,y,e,by rw[hr];exact ho,rfl⟩
    ·have hr:rns v (k+1)=rns v k++[⟨k,(v.getD k 0:Nat)⟩]:=by rw[rns,if_pos (Or.inr he)]
     have hbq:(((v.getD k 0:Nat):Int) !=((v.getD (k-1) 0:Nat):Int))=true:=by rw[bne_iff_ne,ne_eq,Int.ofNat_inj];exact he
     simp only[go_sem,reduceCtorEq,G3,G0,G4,G1,G2,hlx,hne,hrow,w02,h,hk0,a1,a2,b1,b2,hsub,hbq,evBuild]
     refine ho.xv (zh · 2 .full [.agg [.int .i64 (k:Int),.int .u64 ((v.getD k 0:Nat):Int)]]) (z0R _ _) (by simp only[w19];omega) fun y' n' e' ho'=> ?_
     simp only[go_sem,reduceCtorEq,G0,G2,hsucc]
     exact⟨k+1,by omega,h,n',y',e',by rw[hr];exact ho',rfl⟩
  ·have:k=v.length:=by omega
   subst this
   simp only[go_sem,reduceCtorEq,G0,G1,G2,hlx,w02,h]
   exact vT ho
def Wm (l:List DInstr) (i:Nat):Nat:=if i<l.length then maskN (wrs (inA l i)) else 0
theorem z3k {l:List DInstr} (hc:CodeP l) (i:Nat):Wm l i<65536:=by
 unfold Wm
 split
 ·rename_i h;exact kG (Z6 (hc.at h).1 (hc.at h).2.1) (w09 _)
 ·omega
def wsA (l:List DInstr) (k:Nat):List Nat:=(List.range l.length).map fun j=>if j<k then Wm l j else 0
theorem Qz (l:List DInstr) (k:Nat):(wsA l k).length=l.length:=by simp[wsA]
theorem z9d {l:List DInstr} {k j:Nat} (h:j<l.length):(wsA l k).getD j 0=if j<k then Wm l j else 0:=by
 simp[wsA,w00,h]
theorem zbc (l:List DInstr):wsA l 0=List.replicate l.length 0:=by
 apply w2b
 intro j
 simp only[wsA,w17,w3b]
 by_cases h:j<l.length
 ·simp[h]
 ·rw[w18 (by simpa using h),if_neg h];rfl
theorem zcO {l:List DInstr} {k:Nat} (h:k<l.length):(wsA l k).set k (Wm l k)=wsA l (k+1):=by
 apply w2b
 intro j
 rw[w38]
 simp only[wsA,w29,List.length_range,w17]
 by_cases e:k=j
 ·subst e;simp[h]
 ·rw[if_neg e]
  by_cases hj:j<l.length
  ·simp only[w3f hj,w0e,Option.some.injEq]
   by_cases q:j<k
   ·rw[if_pos q,if_pos (by omega)]
   ·rw[if_neg q,if_neg (by omega)]
  ·rw[w18 (by simpa using hj)];rfl
def CM (a0 a1 a2 a3 a4 a5 a6 L n:Nat) (pr:Int) (ws:List Nat) (s:MS):List Blk:=
 [⟨a0,[.int .i64 pr]⟩,⟨a1,us ws⟩,⟨a2,[.arr L 1 a1 0 n]⟩,⟨a3,[.arr L 5 a5 0 n]⟩,⟨a4,[.arr L 6 a6 0 n]⟩,⟨a5,us s.2⟩,⟨a6,bools s.1⟩]
def PM (n:Nat) (s:MS) (k:Nat) (fr:Option Nat):Prop:=s.1.length=n∧s.2.length=n∧k<n∧(∀i,fr=some i→i<n)∧ ∀j,s.2.getD j 0<65536
theorem zbn (S:List (List Blk)) (a0 a1 a2 a3 a4 a5 a6 n fl:Nat) (pr:Int) (hpr:0≤pr∧pr≤16) (ws:List Nat) (hws:ws.length=n) (hw16: ∀j,ws.getD j 0<65536) (hfl:fl≤S.length):
  Meets S (CM a0 a1 a2 a3 a4 a5 a6 S.length n pr ws) (.fn (.func jH) [] [.ptr S.length 0 a0 0,.ptr S.length 4 a4 0,.ptr S.length 3 a3 0,.ptr S.length 2 a2 0]) fl (PM n) (updM (fun i=>ws.getD i 0) (2^pr.toNat-1)):=by
 refine⟨_,_,_,rfl,?_⟩
 rintro s k fr c nz lv ⟨hs1,hs2,hk,hfr,hbits⟩
 suffices h:Does tab jH [.int .i64 (k:Nat),.int .i64 (frm fr),.ptr S.length 0 a0 0,.ptr S.length 4 a4 0,.ptr S.length 3 a3 0,.ptr S.length 2 a2 0] ⟨S++[CM a0 a1 a2 a3 a4 a5 a6 S.length n pr ws s],c,nz,lv,fl⟩ fun v m'=> ∃nz',v= .bool (updM (fun i=>ws.getD i 0) (2^pr.toNat-1) s k fr).2∧m'=⟨S++[CM a0 a1 a2 a3 a4 a5 a6 S.length n pr ws (updM (fun i=>ws.getD i 0) (2^pr.toNat-1) s k fr).1],c,nz',lv,fl⟩ by
  obtain⟨z,h1,n',h2,h3⟩:=h
  exact⟨n',by rw[←h2,←h3];exact h1⟩
 refine yn z2c ?_ (w1c rfl)
 obtain⟨met,out⟩:=s
 dsimp only at hs1 hs2 hbits
 have hix:idx (.int .i64 (k:Int)) n=some k:=zB .i64 k n hk
 have hst1:=qA (s:=met) (j:=k) true (by omega)
 have hbl1:k+1≤(bools met).length:=by rw[qB];omega
 have hbl2:k+1≤(us out).length:=by rw[Ue];omega
 have hst2:=fun v=>Ud (s:=out) (j:=k) v (by omega)
 have hgk:=jR (s:=out) (j:=k) (by omega)
 have hgm:=vo (s:=met) (j:=k) (by omega)
 cases fr with
 |none=>
  have hp:2^pr.toNat≤65536:=w4c (by decide) (show pr.toNat≤16 by omega)
  have h1:1≤2^pr.toNat:=Nat.one_le_two_pow
  have hw:IntKind.u64.wrap (((2^pr.toNat:Nat):Int)-1)=((2^pr.toNat-1:Nat):Int):=by
   generalize 2^pr.toNat=p at*
   rw[zM (by omega) (by omega)];omega
  simp only[jC,List.map,go_sem,reduceCtorEq,G3,G0,G4,G2,frm,show((-1:Int)<0)=True from eq_true (by decide),T7,XA,CM,z7B hpr,hw,zc,hix,w10,hfl,hbl1,hst1,hbl2,hst2,TG,X9,G7,List.all_cons,List.all_nil,bne_self_eq_false]
  rw[x9 rfl rfl,z8]
  exact⟨_,rfl,rfl⟩
 |some i=>
  have hi:=hfr i rfl
  have hixi:idx (.int .i64 (i:Int)) n=some i:=zB .i64 i n hi
  have hgi:=jR (s:=out) (j:=i) (by omega)
  have hgw:=jR (s:=ws) (j:=i) (by omega)
  have hor:=z2Z (hbits i) (hw16 i)
  have hand:=z8L (b:=out.getD i 0|||ws.getD i 0) (hbits k) (TA (hbits i) (hw16 i))
  simp only[jC,List.map,go_sem,reduceCtorEq,G3,G0,G2,frm,show((i:Int)<0)=False from eq_false (by omega),T7,XA,CM,zc,hix,hixi,w10,hgi,hgw,hor,hgm]
  cases hm:met.getD k false
  ·simp only[go_sem,reduceCtorEq,G0,G4,G2,T7,XA,zc,hix,w10,hfl,hbl1,hst1,hbl2,hst2,TG,X9,G7,List.all_nil,bne_self_eq_false]
   rw[x9 rfl rfl,z8]
   refine⟨nz,?_,?_⟩
   ·unfold updM;dsimp only;rw[hm];rfl
   ·unfold updM;dsimp only;rw[hm];rfl
  ·have hgk2:=jR (s:=out.set k (out.getD k 0&&&(out.getD i 0|||ws.getD i 0))) (j:=k) (by simp;omega)
   rw[Vs.getD_set_eq (by omega)] at hgk2
   simp only[go_sem,reduceCtorEq,G0,G2,T7,XA,zc,hix,w10,hgk,hand,hfl,hbl2,hst2,TG,X9,hgk2]
   rw[x9 rfl rfl,z8]
   refine⟨nz,?_,?_⟩
   ·unfold updM;dsimp only;rw[hm]
    simp only[if_true]
    congr 1
    rw[w3d,bne_iff_ne,bne_iff_ne,ne_eq,ne_eq,Int.ofNat_inj]
   ·unfold updM;dsimp only;rw[hm];rfl
def Near16 (l:List DInstr) (n:Int):Prop:= ∀i,i<l.length→(∀s∈rds (inA l i),s<n)∧ ∀s∈wrs (inA l i),s<n
theorem zbz {a n:Nat} (h:a<2^n):a>>>n=0:=by rw[Nat.shiftRight_eq_div_pow,Nat.div_eq_of_lt h]
theorem zd0 (l:List DInstr) (x:AV) (hx:IsSl IsInstr 4 l x) (hc:CodeP l) (h7:Ok07 l) (pr sl:Int) (hp:0≤pr∧pr≤sl∧sl≤16) (hn:Near16 l sl) (m:Mem) (hf:m.floor≤m.stk.length+1):
  CallArr WJ [x,.int .i64 pr,.int .i64 sl] l.length (fun cs=> ∃o:List Nat,cs=us o∧o.length=l.length∧ ∀i,i<l.length→o.getD i 0=if i=l.length-1 then 0 else mskOf (nxt l) (Wm l) (2^pr.toNat-1) i) (fun y=> .tup [y,.int .i64 0]) m:=by
 refine Wy z5n ?_
 obtain⟨stk,cur,nx,live,fl⟩:=m
 dsimp only at hf
 have hf':fl≤(stk++[cur]).length+1:=by simp;omega
 have hfl:fl≤(stk++[cur]).length:=by simp;omega
 have hln:=hc.len
 have hmx:=hx.max
 have hC:=fun c nz=>(Z0 l x hx hc ⟨stk++[cur],c,nz,[]::live,fl⟩ hf').eq
 rw[ZH h7] at hC
 simp only[WF,List.map,go_sem,reduceCtorEq,G3,G0,G2,hC,show((0:Int) !=0)=false from rfl,show¬(sl<0) by omega,show¬(sl>16) by omega,show¬(pr<0) by omega,show¬(pr>sl) by omega,hx.len,xS (s:=1) (bytes:=8) (n:=l.length) (z:=[.int .u64 0]) (by omega) (by omega) rfl,z5h]
 generalize callNx tab vB _ _=nz
 refine za (α:=Nat) (fun k σ=>k≤l.length∧ ∃nz' e,heads [0,2,4,9,40,41,42] 3 σ=⟨tmps 87 [(0,x),(2,.int .i64 sl),(4,.ptr (stk++[cur]).length 0 nx 0),(9,.ptr (stk++[cur]).length 2 (nz+1) 0),(40,x),(41,.int .i64 l.length),(42,.int .i64 k)],⟨stk++[cur],[⟨nx,[.int .i64 pr]⟩,⟨nz,us (wsA l k)⟩,⟨nz+1,[.arr (stk++[cur]).length 1 nz 0 l.length]⟩],nz',e::live,fl⟩⟩) (fun k=>l.length-k) 0 ?_ ?_
 ·refine⟨w06 _,?_⟩
  simp only[go_sem,reduceCtorEq,G0,G1,zbc]
  exact⟨_,_,rfl⟩
 ·rintro k σ ⟨hk,nz',e,hσ⟩
  rw[hσ]
  clear hσ σ
  dsimp only at hk⊢
  by_cases h:k<l.length
  ·obtain⟨c1,c2,c3⟩:=hc.at h
   have hsucc:=zd h hmx
   have hixk:idx (.int .i64 (k:Int)) l.length=some k:=zB .i64 k l.length h
   simp only[go_sem,reduceCtorEq,G3,G0,G1,G2,w02,h,hx.at _ h,hx.inA h]
   refine(z1t (inA l k) c2 c1 _ hf').xv fun r ts n1 ⟨y1,y2,hr,ho⟩=> ?_
   subst hr
   have hy1:=ho.l.sl (by have:=UG (inA l k) 3;unfold rds;omega)
   have hy2:=ho.r.sl (by have:=Zn (inA l k) 3;unfold wrs;omega)
   have m1:=fun m=>(zbg _ y1 hy1 (z5R c1 c2) m).eq
   have m2:=fun m=>(zbg _ y2 hy2 (Z6 c1 c2) m).eq
   have hW:maskN (wrs (inA l k))=Wm l k:=by unfold Wm;rw[if_pos h]
   have hbl:k+1≤(us (wsA l k)).length:=by rw[Ue,Qz];exact h
   have hst:=Ud (s:=wsA l k) (j:=k) (Wm l k) (by rw[Qz];exact h)
   have hgw:=jR (s:=wsA l (k+1)) (j:=k) (by rw[Qz];exact h)
   rw[z9d h,if_pos (Nat.lt_succ_self k)] at hgw
   rw[zcO h] at hst
   have hor:=z2Z (a:=maskN (rds (inA l k))) (kG (z5R c1 c2) (w09 _)) (z3k hc k)
   have hshr:=z61 (a:=maskN (rds (inA l k))|||Wm l k) (s:=sl) ⟨by omega,hp.2.2⟩
   have hlt:maskN (rds (inA l k))|||Wm l k<2^sl.toNat:=by
    refine Nat.or_lt_two_pow ?_ ?_
    ·exact T1 (fun s hs=>⟨(z5R c1 c2 s hs).1,by have:=(hn k h).1 s hs;omega⟩) _ (w09 _)
    ·rw[←hW];exact T1 (fun s hs=>⟨(Z6 c1 c2 s hs).1,by have:=(hn k h).2 s hs;omega⟩) _ (w09 _)
   rw[zbz hlt] at hshr
   rw[hW] at m2
   cases ts with
   |nil=>
    simp only[go_sem,reduceCtorEq,G0,G2,show((0:Int) !=0)=false from rfl,m2,zc,hixk,w10,hbl,hst,hgw,m1,hor,hshr,show(((0:Nat):Int) !=0)=false from rfl,hsucc]
    exact⟨k+1,by omega,h,_,_,rfl⟩
   |cons t0 ts=>
    simp only[go_sem,reduceCtorEq,G0,G2,show((0:Int) !=0)=false from rfl,m2,zc,hixk,w10,hbl,hst,hgw,m1,hor,hshr,show(((0:Nat):Int) !=0)=false from rfl,hsucc]
    exact⟨k+1,by omega,h,_,_,rfl⟩
  ·have hke:k=l.length:=by omega
   subst hke
   simp only[go_sem,reduceCtorEq,G3,G0,G1,G2,w02,h,hx.len,xS (s:=1) (bytes:=8) (n:=l.length) (z:=[.int .u64 0]) (by omega) (by omega) rfl,z5h,xS (s:=1) (bytes:=1) (n:=l.length) (z:=[.bool false]) (by omega) (by omega) rfl,XF]
   have hnx:=fun i hi=>UI hc h7 (i:=i) hi
   have hWeq:(fun i=>(wsA l l.length).getD i 0)=Wm l:=by
    funext i
    by_cases hi:i<l.length
    ·rw[z9d hi,if_pos hi]
    ·rw[w00,w18 (by rw[Qz];omega)]
     unfold Wm;rw[if_neg hi];rfl
   have hp0:2^pr.toNat-1<65536:=by
    have:2^pr.toNat≤65536:=w4c (by decide) (show pr.toNat≤16 by omega)
    have h1:1≤2^pr.toNat:=Nat.one_le_two_pow
    omega
   have hM:=zbn (stk++[cur]) nx nz (nz+1) nz' (nz'+1) (nz'+1+1) (nz'+1+1+1) l.length fl pr ⟨hp.1,by omega⟩ (wsA l l.length) (Qz _ _) (fun j=>by have:=congrFun hWeq j;rw[this];exact z3k hc j) hfl
   rw[hWeq] at hM
   obtain⟨s',n',hcall,hJ⟩:=z6h l x hx (fun j hj=>Wu (hc.at hj).1) (stk++[cur]) _ _ fl hfl _ _ hM (MJ (nxt l) l.length (Wm l) (2^pr.toNat-1)) (fun s op=>2*phi s.1 s.2+op.length)
    (List.replicate l.length false,List.replicate l.length 0) ⟨by simp,by simp,by omega,fun i h=>(by cases h),fun j=>by simp only[w00,w3b];split<;>simp⟩
    (MJ.start (nxt l) l.length (Wm l) _ (by omega) hp0)
    (fun s op h=>by have:=h.b;have:l.length*65536≤200*65536:=Nat.mul_le_mul_right _ hln.2;omega) (fun s op h i hi=>(h.o i hi).1)
    (fun s op i h j hj=>by
     have hi:=(h.o i (by simp)).1
     have:=MK.all (nxt l) l.length (Wm l) _ (z3k hc) (h.pop (nxt l) l.length (Wm l) _) (ks:=(nxt l i).take j) (fun k hk=>⟨w45 hk,hnx i hi k (w45 hk)⟩)
     exact⟨this.r.l1,this.r.l2,hnx i hi _ (w04 hj),fun i' hi'=>by injection hi' with hi';omega,this.r.lt⟩)
    (fun s op i h=>h.next (nxt l) l.length (Wm l) _ (z3k hc) hnx) (nz'+1+1+1+1) (e::live)
   simp only[CM] at hcall
   have hsl:=hJ.r.l2
   have hsub:IntKind.i64.wrap ((l.length:Int)-1)=((l.length-1:Nat):Int):=by rw[zb (by omega) (by omega)];omega
   have hix:idx (.int .i64 ((l.length-1:Nat):Int)) l.length=some (l.length-1):=zB .i64 _ _ (by omega)
   have hst:=Ud (s:=s'.2) (j:=l.length-1) 0 (by omega)
   have hbl:l.length-1+1≤(us s'.2).length:=by rw[Ue];omega
   simp only[go_sem,reduceCtorEq,G0,G2,hcall,evLen,hsub,zc,hix,w10,hbl]
   have hst0:(us s'.2).take (l.length-1)++[.int .u64 0]++(us s'.2).drop (l.length-1+1)=us (s'.2.set (l.length-1) 0):=hst
   rw[hst0]
   refine z04 (w:=fun y=> .tup [y,.int .i64 0]) (.inr ⟨_,rfl,rfl,rfl,rfl⟩) (cs:=us (s'.2.set (l.length-1) 0)) rfl (z2i _ _ _ _) ⟨_,rfl,by simp[hsl],fun i hi=> ?_⟩
   by_cases ei:l.length-1=i
   ·subst ei
    rw[Vs.getD_set_eq (by omega),if_pos rfl]
   ·rw[Vs.getD_set_ne ei,hJ.done (nxt l) l.length (Wm l) _ i,if_neg fun q=>ei q.symm]
def fillA (n k A:Nat):List Nat:=List.replicate k A++List.replicate (n-k) 0
theorem TH {n k A:Nat} (h:k≤n):(fillA n k A).length=n:=by simp[fillA];omega
theorem zaJ {n k A:Nat} (h:k<n):(fillA n k A).set k A=fillA n (k+1) A:=by
 unfold fillA
 rw[List.set_append_right _ _ (by simp),List.length_replicate,Nat.sub_self,show n-k=(n-(k+1))+1 by omega,w4f,w54]
 apply w2b
 intro j
 rcases Nat.lt_trichotomy j k with q|q|q
 ·rw[w0c (by simp;omega),w0c (by simp;omega)]
  simp[q,show j<k+1 by omega]
 ·subst q
  rw[w15 (by simp),w0c (by simp)]
  simp
 ·rw[w15 (by simp;omega),w15 (by simp;omega)]
  simp only[List.length_replicate]
  rw[show j-k=(j-(k+1))+1 by omega,w50]
theorem z8I (n A:Nat):fillA n 0 A=List.replicate n 0:=by simp[fillA]
theorem z4I (n A:Nat):fillA n n A=List.replicate n A:=by simp[fillA]
theorem zdn {a b:Nat} (h:a≤b):Sub (2^a-1) (2^b-1):=fun s hs=>by
 rw[Nat.testBit_two_pow_sub_one,decide_eq_true_eq] at hs⊢;omega
theorem zeH {a b:Nat} (h:a<2^b):Sub a (2^b-1):=fun s hs=>by
 rw[Nat.testBit_two_pow_sub_one,decide_eq_true_eq]
 rcases w3c s b with q|q
 ·exact q
 ·have:=Nat.testBit_lt_two_pow (w58 h (w4c (by decide) q))
  rw[this] at hs;cases hs
theorem zbp (l:List DInstr) (x:AV) (hx:IsSl IsInstr 4 l x) (hc:CodeP l) (h7:Ok07 l) (pr sl:Int) (hp:0≤pr∧pr≤sl∧sl≤16) (hn:Near16 l sl) (m:Mem) (hf:m.floor≤m.stk.length+1):
  CallArr vz [x,.int .i64 pr,.int .i64 sl] l.length (fun cs=> ∃o:List Nat,cs=us o∧o.length=l.length∧ ∀i,i<l.length→o.getD i 0=if i=l.length-1 then 0 else mskOf (nxt l) (Wm l) (2^pr.toNat-1) i) id m:=by
 refine Wy Ut ?_
 obtain⟨stk,cur,nx,live,fl⟩:=m
 dsimp only at hf
 have hf':fl≤(stk++[cur]).length+1:=by simp;omega
 have hfl:fl≤(stk++[cur]).length:=by simp;omega
 have hln:=hc.len
 have hmx:=hx.max
 have hnx:=fun i hi=>UI hc h7 (i:=i) hi
 have hpA:2^sl.toNat-1<65536:=by
  have:2^sl.toNat≤65536:=w4c (by decide) (show sl.toNat≤16 by omega)
  have h1:1≤2^sl.toNat:=Nat.one_le_two_pow
  omega
 have hpp:2^pr.toNat-1<65536:=by
  have:2^pr.toNat≤65536:=w4c (by decide) (show pr.toNat≤16 by omega)
  have h1:1≤2^pr.toNat:=Nat.one_le_two_pow
  omega
 have hWsub: ∀i,Sub (Wm l i) (2^sl.toNat-1):=fun i=>by
  refine zeH ?_
  unfold Wm
  split
  ·rename_i hi
   exact T1 (fun s hs=>⟨(Z6 (hc.at hi).1 (hc.at hi).2.1 s hs).1,by have:=(hn i hi).2 s hs;omega⟩) _ (w09 _)
  ·exact Nat.two_pow_pos _
 generalize hP0:2^pr.toNat-1=p0 at*
 have hps:Sub p0 (2^sl.toNat-1):=by rw[←hP0];exact zdn (by omega)
 generalize hA:2^sl.toNat-1=A at*
 have hL1:=fun m=>(z5c sl ⟨by omega,hp.2.2⟩ m).eq
 have hL2:=fun m=>(z5c pr ⟨hp.1,by omega⟩ m).eq
 rw[hA] at hL1
 rw[hP0] at hL2
 obtain⟨bs,n1,j,st,cs,hcall,hbj,_,led,rfl,hledl,hled⟩:=zeh l x hx hc h7 ⟨stk++[cur],[],nx,[]::live,fl⟩ hf'
 simp only[id,w32] at hcall hbj
 have hjl:j<bs.length:=(w0b.1 hbj).1
 have hbj': ∀b:Blk,(bs++[b])[j]? =some ⟨st,bools led⟩:=fun b=>by rw[w0c hjl];exact hbj
 simp only[qe,List.map,go_sem,reduceCtorEq,G3,G0,G2,hcall,hx.len,xS (s:=1) (bytes:=8) (n:=l.length) (z:=[.int .u64 0]) (by omega) (by omega) rfl,z5h,xu]
 refine za (α:=Nat) (fun k σ=>k≤l.length∧ ∃nz,heads [0,1,2,7,8,9] (bs.length+1) σ=⟨tmps 114 [(0,x),(1,.int .i64 pr),(2,.int .i64 sl),(7,.arr (stk++[cur]).length j st 0 l.length),(8,.arr (stk++[cur]).length bs.length n1 0 l.length),(9,.int .i64 k)],⟨stk++[cur],bs++[⟨n1,us (fillA l.length k A)⟩],nz,[]::live,fl⟩⟩) (fun k=>l.length-k) 0 ?_ ?_
 ·refine⟨w06 _,?_⟩
  simp only[go_sem,reduceCtorEq,G0,G1,vr,z8I]
  exact⟨_,rfl⟩
 ·rintro k σ ⟨hk,nz,hσ⟩
  rw[hσ]
  clear hσ σ
  dsimp only at hk⊢
  by_cases h:k<l.length
  ·have hsucc:=zd h hmx
   have hixk:idx (.int .i64 (k:Int)) l.length=some k:=zB .i64 k l.length h
   have hbl:k+1≤(us (fillA l.length k A)).length:=by rw[Ue,TH hk];exact h
   have hst:=Ud (s:=fillA l.length k A) (j:=k) A (by rw[TH hk];exact h)
   rw[zaJ h] at hst
   simp only[go_sem,reduceCtorEq,G0,G1,G2,Wz,z0b,vr,w10,w02,h,hx.len,hL1,zc,hixk,hbl,hst,hsucc]
   exact⟨k+1,by omega,h,_,rfl⟩
  ·have hke:k=l.length:=by omega
   subst hke
   have hix0:idx (.int .i64 0) l.length=some 0:=zB .i64 0 l.length (by omega)
   have hbl0:0+1≤(us (fillA l.length l.length A)).length:=by rw[Ue,TH (w09 _)];omega
   have hst0:=Ud (s:=fillA l.length l.length A) (j:=0) p0 (by rw[TH (w09 _)];omega)
   simp only[w21,w32,w39,z4I] at hst0 hbl0
   simp only[go_sem,reduceCtorEq,G0,G1,G2,xu,Wz,z0b,w10,w02,h,hx.len,hL2,zc,hix0,z4I,hbl0,hst0]
   refine za (α:=List Nat×Bool) (fun z σ=>(VI (nxt l) l.length (Wm l) p0 z.1∧(z.2=false→ ∀i,(if led.getD i false then z.1.getD i 0 else 0)=mskOf (nxt l) (Wm l) p0 i))∧ ∃nz,heads [0,7,8,10] (bs.length+1) σ=⟨tmps 114 [(0,x),(7,.arr (stk++[cur]).length j st 0 l.length),(8,.arr (stk++[cur]).length bs.length n1 0 l.length),(10,.bool z.2)],⟨stk++[cur],bs++[⟨n1,us z.1⟩],nz,[]::live,fl⟩⟩) (fun z=>2*z.1.sum+(if z.2 then 1 else 0)) ((List.replicate l.length A).set 0 p0,true) ?_ ?_
   ·refine⟨⟨VI.start (nxt l) l.length (Wm l) p0 (by omega) hnx hps hWsub hpA,fun e=>by cases e⟩,?_⟩
    simp only[go_sem,reduceCtorEq,G0,G1,vr]
    exact⟨_,rfl⟩
   ·rintro⟨mm,ch⟩ σ ⟨⟨hR,hdone⟩,nz,hσ⟩
    rw[hσ]
    clear hσ σ
    dsimp only at hR hdone⊢
    cases ch with
    |false=>
     have hdone:=hdone rfl
     simp only[go_sem,reduceCtorEq,G0,G1,G2,xu]
     refine za (α:=Nat) (fun k σ=>k≤l.length∧ ∃nz mk,(mk.length=l.length∧ ∀i,i<l.length→mk.getD i 0=if i<k then(if i=l.length-1 then 0 else mskOf (nxt l) (Wm l) p0 i) else mm.getD i 0)∧heads [0,7,8,15] (bs.length+1) σ=⟨tmps 114 [(0,x),(7,.arr (stk++[cur]).length j st 0 l.length),(8,.arr (stk++[cur]).length bs.length n1 0 l.length),(15,.int .i64 k)],⟨stk++[cur],bs++[⟨n1,us mk⟩],nz,[]::live,fl⟩⟩) (fun k=>l.length-k) 0 ?_ ?_
     ·refine⟨w06 _,?_⟩
      simp only[go_sem,reduceCtorEq,G0,G1,vr]
      exact⟨_,mm,⟨hR.l,fun i _=>by rw[if_neg (w35 _)]⟩,rfl⟩
     ·rintro k σ ⟨hk,nz,mk,⟨hml,hmk⟩,hσ⟩
      rw[hσ]
      clear hσ σ
      dsimp only at hk⊢
      by_cases h:k<l.length
      ·have hsucc:=zd h hmx
       have hixk:idx (.int .i64 (k:Int)) l.length=some k:=zB .i64 k l.length h
       have hgl:=vo (s:=led) (j:=k) (by omega)
       have hbl:k+1≤(us mk).length:=by rw[Ue,hml];exact h
       have hst:(us mk).take k++[.int .u64 0]++(us mk).drop (k+1)=us (mk.set k 0):=Ud (s:=mk) (j:=k) 0 (by omega)
       have hsub:IntKind.i64.wrap ((l.length:Int)-1)=((l.length-1:Nat):Int):=by rw[zb (by omega) (by omega)];omega
       have hdk:=hdone k
       have zero:(mskOf (nxt l) (Wm l) p0 k=0∨k=l.length-1)→(mk.set k 0).length=l.length∧ ∀i,i<l.length→(mk.set k 0).getD i 0=if i<k+1 then(if i=l.length-1 then 0 else mskOf (nxt l) (Wm l) p0 i) else mm.getD i 0:=fun q=>by
        refine⟨by simp[hml],fun i hi=> ?_⟩
        by_cases e:k=i
        ·subst e
         rw[Vs.getD_set_eq (by omega),if_pos (Nat.lt_succ_self _)]
         rcases q with q|q
         ·rw[q];split<;>rfl
         ·rw[if_pos q]
        ·rw[Vs.getD_set_ne e,hmk i hi]
         by_cases q:i<k
         ·rw[if_pos q,if_pos (show i<k+1 by omega)]
         ·rw[if_neg q,if_neg (show¬i<k+1 by omega)]
       cases hlk:led.getD k false
       ·rw[hlk] at hgl hdk
        simp only[go_sem,reduceCtorEq,G0,G1,G2,Wz,z0b,vr,w10,w02,h,hx.len,zc,hixk,hbj',hgl,hbl,hst,hsucc]
        refine⟨k+1,by omega,h,nz,mk.set k 0,zero (.inl ?_),rfl⟩
        simpa using hdk.symm
       ·rw[hlk] at hgl hdk
        by_cases hkl:k=l.length-1
        ·have hkb:((k:Int)==((l.length-1:Nat):Int))=true:=by rw[beq_iff_eq];omega
         simp only[go_sem,reduceCtorEq,G0,G1,G2,Wz,z0b,vr,w10,w02,h,hx.len,zc,hixk,hbj',hgl,hsub,hkb,hbl,hst,hsucc]
         exact⟨k+1,by omega,h,nz,mk.set k 0,zero (.inr hkl),rfl⟩
        ·have hkb:((k:Int)==((l.length-1:Nat):Int))=false:=by rw[beq_eq_false_iff_ne];omega
         simp only[go_sem,reduceCtorEq,G0,G1,G2,vr,w10,w02,h,hx.len,zc,hixk,hbj',hgl,hsub,hkb,hsucc]
         refine⟨k+1,by omega,h,nz,mk,⟨hml,fun i hi=> ?_⟩,rfl⟩
         rw[hmk i hi]
         by_cases e:i=k
         ·subst e
          rw[if_neg (Nat.lt_irrefl _),if_pos (Nat.lt_succ_self _),if_neg hkl,←hdk];rfl
         ·by_cases q:i<k
          ·rw[if_pos q,if_pos (show i<k+1 by omega)]
          ·rw[if_neg q,if_neg (show¬i<k+1 by omega)]
      ·have hke:k=l.length:=by omega
       subst hke
       simp only[go_sem,reduceCtorEq,G0,G1,G2,w02,h,hx.len]
       refine z04 (w:=id) (.inl rfl) (cs:=us mk) (Wz _ _) (z2i _ _ _ _) ⟨_,rfl,hml,fun i hi=> ?_⟩
       rw[hmk i hi,if_pos hi]
    |true=>
     simp only[go_sem,reduceCtorEq,G0,G1,G2,xu]
     refine za (α:=Nat) (fun i σ=>i≤l.length∧ ∃nz,heads [0,7,8,10,11] (bs.length+1) σ=⟨tmps 114 [(0,x),(7,.arr (stk++[cur]).length j st 0 l.length),(8,.arr (stk++[cur]).length bs.length n1 0 l.length),(10,.bool (livR (nxt l) (Wm l) led mm i).2),(11,.int .i64 i)],⟨stk++[cur],bs++[⟨n1,us (livR (nxt l) (Wm l) led mm i).1⟩],nz,[]::live,fl⟩⟩) (fun i=>l.length-i) 0 ?_ ?_
     ·refine⟨w06 _,?_⟩
      simp only[go_sem,reduceCtorEq,G0,G1,vr,livR]
      exact⟨_,rfl⟩
     ·rintro i σ ⟨hi,nz,hσ⟩
      rw[hσ]
      clear hσ σ
      dsimp only at hi⊢
      by_cases h:i<l.length
      ·have hK:=QX (nxt l) l.length (Wm l) p0 hnx hled hR i hi
       have hstep:livR (nxt l) (Wm l) led mm (i+1)=livI (nxt l) (Wm l) led (livR (nxt l) (Wm l) led mm i) i:=rfl
       have hsu:IntKind.i64.wrap ((i:Int)+1)=((i+1:Nat):Int):=zd h hmx
       have hixi:idx (.int .i64 (i:Int)) l.length=some i:=zB .i64 i l.length h
       have hgl:=vo (s:=led) (j:=i) (by omega)
       obtain⟨c1,c2,c3⟩:=hc.at h
       have hWr:=fun m=>(z0p (inA l i) c2 c1 m).eq
       have hWi:maskN (wrs (inA l i))=Wm l i:=by unfold Wm;rw[if_pos h]
       rw[hWi] at hWr
       simp only[go_sem,reduceCtorEq,G0,G1,G2,w02,h,hx.len]
       refine(Uc l x hx i h (Wu c1) _).xv fun y k1 ⟨hy,hyt⟩=> ?_
       simp only[go_sem,reduceCtorEq,G0,G2,xu]
       generalize livR (nxt l) (Wm l) led mm i=q0 at*
       cases hin:led.getD i false
       ·rw[hin] at hgl
        rw[yw]
        by_cases hq0:((0:Int)<((nxt l i).length:Nat))
        ·simp only[go_sem,reduceCtorEq,G0,G1,G2,xu,vr,w10,hy.len,hq0,zc,hixi,hbj',hgl,hsu]
         refine⟨i+1,by omega,by omega,k1,?_⟩
         rw[hstep];unfold livI;rw[hin];rfl
        ·simp only[go_sem,reduceCtorEq,G0,G1,G2,xu,vr,hy.len,hq0,hsu]
         refine⟨i+1,by omega,by omega,k1,?_⟩
         rw[hstep];unfold livI;rw[hin];rfl
       ·rw[hin] at hgl
        have hri:=(hled i).1 hin
        have hfold: ∀q,q≤(nxt l i).length→VK (nxt l) l.length (Wm l) p0 mm i (((nxt l i).take q).foldl (livK (Wm l) i) q0):=fun q hq=>
         (z0F (nxt l) l.length (Wm l) p0 hri hK (ks:=(nxt l i).take q) (done:=[]) (fun k hk=>⟨w45 hk,hnx i h k (w45 hk)⟩) (fun _ k hk=>by cases hk)).1
        refine za (α:=Nat) (fun q σ=>q≤(nxt l i).length∧ ∃nz,heads [0,7,8,10,11,12,13] (bs.length+1) σ=⟨tmps 114 [(0,x),(7,.arr (stk++[cur]).length j st 0 l.length),(8,.arr (stk++[cur]).length bs.length n1 0 l.length),(10,.bool (((nxt l i).take q).foldl (livK (Wm l) i) q0).2),(11,.int .i64 i),(12,y),(13,.int .i64 q)],⟨stk++[cur],bs++[⟨n1,us (((nxt l i).take q).foldl (livK (Wm l) i) q0).1⟩],nz,[]::live,fl⟩⟩) (fun q=>(nxt l i).length-q) 0 ?_ ?_
        ·refine⟨w06 _,?_⟩
         simp only[go_sem,reduceCtorEq,G0,G1,vr,w21,List.foldl_nil]
         exact⟨_,rfl⟩
        ·rintro q σ ⟨hq,nz,hσ⟩
         rw[hσ]
         clear hσ σ
         dsimp only at hq⊢
         have hKq:=hfold q hq
         by_cases hqn:q<(nxt l i).length
         ·have hsucc:((nxt l i).take (q+1)).foldl (livK (Wm l) i) q0=livK (Wm l) i (((nxt l i).take q).foldl (livK (Wm l) i) q0) (nxt l i)[q]:=by rw[w0d hqn,List.foldl_append];rfl
          have hkn:=hnx i h (nxt l i)[q] (w04 hqn)
          generalize ((nxt l i).take q).foldl (livK (Wm l) i) q0=p at*
          have hpl2:=hKq.r.l
          have e1:nth y q= .int .i64 ((nxt l i)[q]:Nat):=hy.nth hqn
          have hsq:IntKind.i64.wrap ((q:Int)+1)=((q+1:Nat):Int):=by have:=QQ l i;rw[zb (by omega) (by omega)];omega
          have hgi:=jR (s:=p.1) (j:=i) (by omega)
          have hixk:idx (.int .i64 ((nxt l i)[q]:Nat)) l.length=some (nxt l i)[q]:=zB .i64 _ l.length hkn
          have hgk:=jR (s:=p.1) (j:=(nxt l i)[q]) (by omega)
          have hlt:((q:Int)<((nxt l i).length:Nat))=True:=eq_true (by omega)
          have hor:=z2Z (hKq.r.lt i) (z3k hc i)
          have hand:=z8L (b:=p.1.getD i 0|||Wm l i) (hKq.r.lt (nxt l i)[q]) (TA (hKq.r.lt i) (z3k hc i))
          simp only[go_sem,reduceCtorEq,G3,G0,G1,G2,Wz,w10,hy.len,hlt,zc,hixi,hbj',hgl,hgi,hy.at .i64 hqn,e1,hixk,hgk,hx.at _ h,hx.inA h,hWr,hor,hand]
          by_cases he:p.1.getD (nxt l i)[q] 0&&&(p.1.getD i 0|||Wm l i)=p.1.getD (nxt l i)[q] 0
          ·have hb:(((p.1.getD (nxt l i)[q] 0&&&(p.1.getD i 0|||Wm l i):Nat):Int) !=((p.1.getD (nxt l i)[q] 0:Nat):Int))=false:=by rw[he];simp
           simp only[go_sem,reduceCtorEq,G0,G2,vr,hb,hsq]
           refine⟨q+1,by omega,by omega,?_⟩
           rw[hsucc];unfold livK
           rw[show(p.1.getD (nxt l i)[q] 0&&&(p.1.getD i 0|||Wm l i) !=p.1.getD (nxt l i)[q] 0)=false by simpa using he]
           exact⟨_,rfl⟩
          ·have hb:(((p.1.getD (nxt l i)[q] 0&&&(p.1.getD i 0|||Wm l i):Nat):Int) !=((p.1.getD (nxt l i)[q] 0:Nat):Int))=true:=by rw[bne_iff_ne,ne_eq,Int.ofNat_inj];exact he
           have hst:=Ud (s:=p.1) (j:=(nxt l i)[q]) (p.1.getD (nxt l i)[q] 0&&&(p.1.getD i 0|||Wm l i)) (by omega)
           have hbl:(nxt l i)[q]+1≤(us p.1).length:=by rw[Ue];omega
           simp only[go_sem,reduceCtorEq,G0,G2,Wz,z0b,vr,w10,hb,hy.at .i64 hqn,e1,zc,hixk,hbl,hst,hsq]
           refine⟨q+1,by omega,by omega,?_⟩
           rw[hsucc];unfold livK
           rw[show(p.1.getD (nxt l i)[q] 0&&&(p.1.getD i 0|||Wm l i) !=p.1.getD (nxt l i)[q] 0)=true by simpa using he]
           exact⟨_,rfl⟩
         ·have hqe:q=(nxt l i).length:=by omega
          subst hqe
          rw[w08] at*
          simp only[go_sem,reduceCtorEq,G0,G1,G2,xu,vr,hy.len,show(((nxt l i).length:Nat):Int)<((nxt l i).length:Nat)↔False from⟨fun h=>by omega,False.elim⟩,hsu]
          refine⟨i+1,by omega,by omega,nz,?_⟩
          rw[hstep];unfold livI;rw[hin];rfl
      ·have hie:i=l.length:=by omega
       subst hie
       have hK:=QX (nxt l) l.length (Wm l) p0 hnx hled hR l.length (w09 _)
       simp only[go_sem,reduceCtorEq,G0,G1,G2,xu,vr,w02,h,hx.len]
       refine⟨livR (nxt l) (Wm l) led mm l.length,?_,⟨hK.r,fun e j=>by rw[(hK.eq e).1];exact zak (nxt l) l.length (Wm l) p0 (by omega) hnx hled hR e j⟩,_,rfl⟩
       have h1:=hK.le
       cases hch:(livR (nxt l) (Wm l) led mm l.length).2
       ·simp;omega
       ·have:=hK.lt hch
        simp;omega
end Go.Proofs.W
end
