/-
  Part 4 of the proof, shared by claims of this seat: R9S22, R9S2, KVr, R9S3, R9S4, R9S5, R9S6, R9S7, R9S8, R9S9, R9S10, R9S11, R9S12, R9S13, KVba, R9C1, R9C2, R9C13, R9SG, R9C27, KVbc, R9T0, R9T2, R9T3, R9T4, R9T5, R9C4, R9C14, R9S14.
-/
import Derived.Test.YtlmfkfmgnkjlaaaGreatO2
set_option maxHeartbeats 64000000
set_option linter.unusedVariables false
set_option linter.unusedSimpArgs false
open Nat renaming reduceEqDiff → G0, reduceBEq → G1, reduceLT → G2, reduceAdd → G3, reduceLeDiff → G4, reduceSub → G5, reduceMul → G6, le_refl → w0b, zero_le → w0c, mul_one → w15, not_lt_zero → w38, lt_or_ge → w3e, le_trans → w4a, pow_le_pow_right → w57, lt_of_lt_of_le → w58
open Int renaming ofNat_lt → w03, toNat_natCast → w2d, toNat_of_nonneg → w41
open List renaming getD_eq_getElem?_getD → w00, length_append → w04, getElem?_eq_some_iff → w06, getElem?_append_left → w07, getElem_mem → w08, take_length → w09, mem_append → w0a, append_assoc → w0f, getElem?_append_right → w10, mem_singleton → w11, getElem?_eq_getElem → w13, take_succ_eq_append_getElem → w14, mem_cons_of_mem → w18, getElem?_map → w19, append_nil → w1a, eq_nil_of_length_eq_zero → w1b, mem_cons_self → w1c, length_singleton → w1d, length_take → w1f, getElem?_set_ne → w20, cons_append → w21, take_succ_cons → w22, take_zero → w24, drop_succ_cons → w25, length_cons → w29, ext_getElem? → w2c, nil_append → w2e, take_of_length_le → w2f, flatMap_cons → w30, mem_cons → w32, map_append → w33, length_nil → w34, map_cons → w35, getElem?_set → w36, getElem?_modify → w37, mem_map → w3a, getElem?_replicate → w3d, flatten_cons → w43, length_map → w44, getLast?_singleton → w45, mem_append_right → w46, mem_range → w47, mem_of_getElem? → w49, nodup_append → w4c, set_cons_succ → w4d, modify_eq_take_cons_drop → w4e, all_eq_true → w4f, getElem?_set_self → w50, getLast?_append → w51, dropLast_concat → w52, mem_filter → w53, replicate_succ → w54, take_append_of_le_length → w56
open Option renaming map_eq_some_iff → w02, bind_eq_some_iff → w05, map_some → w0d, bind_some → w26, getD_some → w2a
open Bool renaming and_eq_true → w0e, or_eq_true → w31, or_eq_false_iff → w3b, eq_iff_iff → w40
section
namespace Go.Proofs.W
open Go.Vs
set_option linter.unusedSimpArgs false
set_option maxRecDepth 100000
theorem z1p {op:Int} {a b c:UInt8} (h:shp op=[a,b,c]):shapeOf op= .tup [.agg [.int .i64 (lo a),.int .i64 (hi a),.bool (rd a),.bool (wt a),.int .i64 (lo b),.int .i64 (hi b),.bool (rd b),.bool (wt b),.int .i64 (lo c),.int .i64 (hi c),.bool (rd c),.bool (wt c)],.int .i64 (cnt [a,b,c])]:=by
 unfold shapeOf;rw[h];rfl
theorem z9u {op:Int} (h:shp op=[]):shapeOf op= .tup [.agg [.int .i64 0,.int .i64 0,.bool false,.bool false,.int .i64 0,.int .i64 0,.bool false,.bool false,.int .i64 0,.int .i64 0,.bool false,.bool false],.int .i64 (-1)]:=by
 unfold shapeOf;rw[if_pos h];rfl
theorem z87 (s:List UInt8): ¬cnt s<0:=by unfold cnt;omega
theorem Zi (x:DInstr) (m:Mem) (hf:m.floor≤m.stk.length+1):Okv tab qK [.agg [.int .u8 x.op,.int .i64 x.a,.int .i64 x.b,.int .i64 x.c]] m (.int .i64 (err06 x)):=by
 refine zf z5D ?_
 obtain⟨stk,cur,nx,live,fl⟩:=m
 dsimp only at hf
 have hS:=fun c nz lv=>(Ve x.op ⟨stk++[cur],c,nz,lv,fl⟩ (by simp;omega)).eq
 simp only[Us,List.map,go_sem,G3,G0,G2,hS]
 rcases z8G x.op with hs|⟨a,b,c,hs⟩
 ·simp only[go_sem,G3,G0,G2,z9u hs,show((-1:Int)<0)=True from eq_true (by decide)]
  rw[z6 rfl rfl,z8]
  exact⟨⟨_,rfl⟩,by rw[xu];rintro⟨a,b,c,h,_⟩;rw[hs] at h;cases h⟩
 ·simp only[go_sem,G3,G0,G2,z1p hs,z87,(kN x _).eq]
  rw[yg]
  simp only[go_sem,G0,G1,G2,l03,i0,evIaddrA,Nat.zero_mul]
  by_cases hl1:x.a<lo a
  ·simp only[go_sem,G0,G2,hl1]
   rw[z6 rfl rfl,z8]
   exact⟨⟨_,rfl⟩,by rw[xu fun h'=>by have:=((xU hs).1 h').1;unfold fitsK at this;omega]⟩
  by_cases hh1:x.a>hi a
  ·simp only[go_sem,G0,G2,hl1,i0,evIaddrA,Nat.zero_mul,hh1]
   rw[z6 rfl rfl,z8]
   exact⟨⟨_,rfl⟩,by rw[xu fun h'=>by have:=((xU hs).1 h').1;unfold fitsK at this;omega]⟩
  simp only[go_sem,G0,G2,hl1,i0,evIaddrA,Nat.zero_mul,hh1,w01]
  rw[yg]
  simp only[go_sem,G0,G1,G2,l13,i1,evIaddrA,G6,w15]
  by_cases hl2:x.b<lo b
  ·simp only[go_sem,G0,G2,hl2]
   rw[z6 rfl rfl,z8]
   exact⟨⟨_,rfl⟩,by rw[xu fun h'=>by have:=((xU hs).1 h').2.1;unfold fitsK at this;omega]⟩
  by_cases hh2:x.b>hi b
  ·simp only[go_sem,G3,G0,G2,hl2,i1,evIaddrA,G6,hh2]
   rw[z6 rfl rfl,z8]
   exact⟨⟨_,rfl⟩,by rw[xu fun h'=>by have:=((xU hs).1 h').2.1;unfold fitsK at this;omega]⟩
  simp only[go_sem,G3,G0,G2,hl2,i1,evIaddrA,G6,hh2,w12]
  rw[yg]
  simp only[go_sem,G0,G1,G2,l23,i2,evIaddrA,G6,w15]
  by_cases hl3:x.c<lo c
  ·simp only[go_sem,G0,G2,hl3]
   rw[z6 rfl rfl,z8]
   exact⟨⟨_,rfl⟩,by rw[xu fun h'=>by have:=((xU hs).1 h').2.2;unfold fitsK at this;omega]⟩
  by_cases hh3:x.c>hi c
  ·simp only[go_sem,G3,G0,G2,hl3,i2,evIaddrA,G6,hh3]
   rw[z6 rfl rfl,z8]
   exact⟨⟨_,rfl⟩,by rw[xu fun h'=>by have:=((xU hs).1 h').2.2;unfold fitsK at this;omega]⟩
  simp only[go_sem,G3,G0,G2,hl3,i2,evIaddrA,G6,hh3,w23]
  rw[yg]
  simp only[go_sem,G0,G1,G2,l33]
  rw[z6 rfl rfl,z8]
  exact⟨⟨_,rfl⟩,by rw[jN ((xU hs).2 ⟨⟨by omega,by omega⟩,⟨by omega,by omega⟩,⟨by omega,by omega⟩⟩)]⟩
def codeOf (c:UInt8) (n:Int):List UInt8:=if c=45 then [] else if c=110∨c=103∨c=101 then minimal (zigzag n) else minimal n.toNat
def sk (x:DInstr) (k:Nat):UInt8:=(shp x.op).getD k 45
def cod6k (x:DInstr):Nat→List UInt8
 |0=>[UInt8.ofNat x.op.toNat]
 |k+1=>cod6k x k++codeOf (sk x k) (opn x k)
def cod6 (x:DInstr):List UInt8:=cod6k x 3
theorem z7D {c:UInt8} (h:letterOk c):lo c<0↔(c=110∨c=103∨c=101):=by
 unfold letterOk at h
 rcases h with rfl|rfl|rfl|rfl|rfl|rfl|rfl|rfl|rfl|rfl|rfl<;>decide
theorem z13 (c:UInt8) (m:Mem):Okv tab uf [.int .u8 c.toNat] m (.bool (decide (c=110∨c=103∨c=101))):=by
 refine zf YX ?_
 obtain⟨stk,cur,nx,live,fl⟩:=m
 have hk: ∀k:UInt8,(((c.toNat:Int))=(k.toNat:Int))↔c=k:=fun k=>by
  rw[Int.ofNat_inj,UInt8.toNat_inj]
 have e110:=hk 110
 have e103:=hk 103
 have e101:=hk 101
 simp only[u5,List.map,go_sem,G0,G2]
 repeat' (((first|refine zo ?_ ?_|refine zl ?_ ?_|refine zm ?_ ?_|refine zj ?_ ?_|refine zk ?_ ?_)<;>intro hq)<;>simp only[go_sem,G0,G2,hq])
 all_goals
  rw[z6 rfl rfl,z8]
  refine⟨⟨_,rfl⟩,congrArg AV.bool ?_⟩
  simp only[beq_iff_eq,beq_eq_false_iff_ne,ne_eq] at*
  rw[w40]
  simp_all
theorem z1V {a:Int} (h:0≤a∧a<256):IsByte (UInt8.ofNat a.toNat) (.int .u8 a):=by
 have:=Yx (a:=a.toNat) (by omega)
 rwa [show((a.toNat:Nat):Int)=a by omega] at this
theorem Tx {c:UInt8} {n:Int} (hc:letterOk c) (hf:fitsK c n) (hn:in64 n):(codeOf c n).length≤10:=by
 unfold codeOf
 split
 ·simp
 ·split
  ·exact zi (qD hn)
  ·exact zi (by unfold in64 at hn;omega)
theorem z6E {c:UInt8} {n:Int} (hc:letterOk c) (hf:fitsK c n) (hs: ¬(c=110∨c=103∨c=101)):0≤n:=by
 have h1: ¬lo c<0:=fun h=>hs ((z7D hc).1 h)
 unfold fitsK at hf;omega
theorem three {k:Nat} (h:k<3):k=0∨k=1∨k=2:=by omega
theorem Z1 {x:DInstr} {a b c:UInt8} (hs:shp x.op=[a,b,c]) (h:InstrP x) (hw:WfI x) {k:Nat} (hk:k<3):letterOk (sk x k)∧fitsK (sk x k) (opn x k)∧in64 (opn x k)∧(cnt [a,b,c]≤k↔sk x k=45)∧[a,b,c][k]? =some (sk x k):=by
 obtain⟨f1,f2,f3⟩:=(xU hs).1 h
 obtain⟨l1,l2,l3,c1,c2,c3⟩:=z09 hs
 obtain⟨w1,w2,w3⟩:=hw
 unfold sk
 rw[hs]
 rcases three hk with rfl|rfl|rfl
 ·exact⟨l1,f1,w1,c1,rfl⟩
 ·exact⟨l2,f2,w2,c2,rfl⟩
 ·exact⟨l3,f3,w3,c3,rfl⟩
theorem UI {x:DInstr} {a b c:UInt8} (hs:shp x.op=[a,b,c]) (h:InstrP x) (hw:WfI x): ∀k,k≤3→(cod6k x k).length≤1+10*k
 |0,_=>by simp[cod6k]
 |k+1,hk=>by
  have ih:=UI hs h hw k (by omega)
  obtain⟨h1,h2,h3,_⟩:=Z1 hs h hw (show k<3 by omega)
  have:=Tx h1 h2 h3
  simp only[cod6k,w04];omega
theorem cell3 (x:DInstr) {k:Nat} (h:k<3):takeV false 1 (([AV.int .i64 x.a,.int .i64 x.b,.int .i64 x.c]).drop k)=some (.int .i64 (opn x k)):=by
 rcases three h with rfl|rfl|rfl<;>rfl
theorem cell12 {x:DInstr} {a b c:UInt8} (hs:shp x.op=[a,b,c]) {k:Nat} (h:k<3):takeV false 1 (([.int .i64 (lo a),.int .i64 (hi a),.bool (rd a),.bool (wt a),.int .i64 (lo b),.int .i64 (hi b),.bool (rd b),.bool (wt b),.int .i64 (lo c),.int .i64 (hi c),.bool (rd c),.bool (wt c)]:List AV).drop (k*4))=some (.int .i64 (lo (sk x k))):=by
 unfold sk;rw[hs]
 rcases three h with rfl|rfl|rfl<;>rfl
theorem z2A (x:DInstr) (hop:inU8 x.op) (hw:WfI x) (hx:InstrP x) (m:Mem):Okl IsByte 1 tab uW [.agg [.int .u8 x.op,.int .i64 x.a,.int .i64 x.b,.int .i64 x.c]] m (cod6 x):=by
 refine qy We ?_
 obtain⟨stk,cur,nx,live,fl⟩:=m
 have hx':=hx
 obtain⟨a,b,c,hs,_⟩:=hx'
 simp only[uD,List.map,go_sem,G3,G0,G2,(z0D x.op _).eq,(qT x _).eq,hs]
 refine zb (α:=Nat) (fun k σ=>k≤3∧ ∃nz y e,Own IsByte 1 y (cod6k x k) e∧heads [3,4,5,6] 2 σ=⟨tmps 42 [(3,y),(4,.str [a,b,c]),(5,.ptr (stk++[cur]).length 1 (nx+1) 0),(6,.int .i64 k)],⟨stk++[cur],[⟨nx,[.int .u8 x.op,.int .i64 x.a,.int .i64 x.b,.int .i64 x.c]⟩,⟨nx+1,[.int .i64 x.a,.int .i64 x.b,.int .i64 x.c]⟩],nz,e::live,fl⟩⟩) (fun k=>3-k) 0 ?_ ?_
 ·refine⟨w0c _,?_⟩
  simp only[go_sem,G0,G1]
  exact⟨_,_,[],.full (zJ (z1V hop)) _,rfl⟩
 ·rintro k σ ⟨hk,nz,y,e,ho,hσ⟩
  rw[hσ]
  clear hσ σ
  dsimp only at hk⊢
  by_cases h:k<3
  ·skip
   obtain⟨hlt,hfit,hin,hcnt,hget⟩:=Z1 hs hx hw h
   have hix:idx (.int .i64 (k:Int)) 3=some k:=zw .i64 k 3 h
   have hc3:=cell3 x h
   have hlen:=UI hs hx hw k (by omega)
   have hcl:=Tx hlt hfit hin
   have hlt3:((k:Int)<3)=True:=eq_true (by omega)
   have hsucc:IntKind.i64.wrap ((k:Int)+1)=((k+1:Nat):Int):=by rw[zc (by omega) (by omega)];omega
   simp only[go_sem,G3,G0,G1,G2,hlt3,hix,hget]
   by_cases h45:sk x k=45
   ·have h45':(((sk x k).toNat:Int)==45)=true:=by rw[h45];rfl
    simp only[go_sem,G0,G2,h45',hsucc]
    refine⟨k+1,by omega,h,nz,y,e,?_,rfl⟩
    rw[cod6k,codeOf,if_pos h45,w1a];exact ho
   ·have h45':(((sk x k).toNat:Int)==45)=false:=by
     rw[beq_eq_false_iff_ne];intro e;apply h45;apply UInt8.toNat_inj.1;show(sk x k).toNat=45;omega
    by_cases hsg:sk x k=110∨sk x k=103∨sk x k=101
    ·have hcode:codeOf (sk x k) (opn x k)=minimal (zigzag (opn x k)):=by unfold codeOf;rw[if_neg h45,if_pos hsg]
     simp only[go_sem,G3,G0,G2,h45',hix,hget,(z13 _ _).eq,hsg,evIaddrA,w15,hc3,(qS _ hin _).eq]
     refine(zF _ (qD hin) _).xv fun y1 t1 k1 ho1=> ?_
     simp only[go_sem,G0,G2]
     obtain⟨z1,hz1,hc1⟩:=ho1.elems
     rw[←hcode] at hc1
     refine(ho.push t1).xv hz1 hc1 (by omega) fun y2 k2 e2 ho2=> ?_
     simp only[go_sem,G0,G2,hsucc]
     exact⟨k+1,by omega,h,k2,y2,e2,ho2,rfl⟩
    ·have hpos:=z6E hlt hfit hsg
     have hcode:codeOf (sk x k) (opn x k)=minimal (opn x k).toNat:=by unfold codeOf;rw[if_neg h45,if_neg hsg]
     have ew:IntKind.u64.wrap (opn x k)=(((opn x k).toNat:Nat):Int):=by unfold in64 at hin;rw[zH (by omega) (by omega)];omega
     simp only[go_sem,G3,G0,G2,h45',hix,hget,(z13 _ _).eq,hsg,evIaddrA,w15,hc3,ew]
     refine(zF _ (by unfold in64 at hin;omega) _).xv fun y1 t1 k1 ho1=> ?_
     simp only[go_sem,G0,G2]
     obtain⟨z1,hz1,hc1⟩:=ho1.elems
     rw[←hcode] at hc1
     refine(ho.push t1).xv hz1 hc1 (by omega) fun y2 k2 e2 ho2=> ?_
     simp only[go_sem,G0,G2,hsucc]
     exact⟨k+1,by omega,h,k2,y2,e2,ho2,rfl⟩
  ·have:k=3:=by omega
   subst this
   simp only[go_sem,G5,G0,G1,G2,show(((3:Nat):Int)<3)=False from eq_false (by decide)]
   exact vz ho
theorem z4c (x:DInstr) (hop:inU8 x.op) (hw:WfI x) (hx:InstrP x) (m:Mem) (hf:m.floor≤m.stk.length+1):Okp IsByte 1 tab XR [.agg [.int .u8 x.op,.int .i64 x.a,.int .i64 x.b,.int .i64 x.c]] m (cod6 x) 0:=by
 refine z4H z4o ?_
 obtain⟨stk,cur,nx,live,fl⟩:=m
 dsimp only at hf
 have hf':fl≤(stk++[cur]).length+1:=by simp;omega
 have hx':=hx
 obtain⟨a,b,c,hs,_⟩:=hx'
 have hS:=fun c nz lv=>(Ve x.op ⟨stk++[cur],c,nz,lv,fl⟩ hf').eq
 have hC:=fun c nz lv=>(Zi x ⟨stk++[cur],c,nz,lv,fl⟩ hf').eq
 rw[jN hx] at hC
 simp only[XJ,List.map,go_sem,G3,G0,G2,hC,show((0:Int) !=0)=false from rfl,hS,z1p hs,(kN x _).eq]
 refine zb (α:=Nat) (fun k σ=>k≤3∧ ∃nz st y e,Own IsByte 1 y (cod6k x k) e∧heads [5,6,7,25,26] 2 σ=⟨tmps 51 [(5,.ptr (stk++[cur]).length 1 st 0),(6,.int .i64 (cnt [a,b,c])),(7,y),(25,.agg [.int .i64 x.a,.int .i64 x.b,.int .i64 x.c]),(26,.int .i64 k)],⟨stk++[cur],[⟨nx,[.int .u8 x.op,.int .i64 x.a,.int .i64 x.b,.int .i64 x.c]⟩,⟨st,[.int .i64 (lo a),.int .i64 (hi a),.bool (rd a),.bool (wt a),.int .i64 (lo b),.int .i64 (hi b),.bool (rd b),.bool (wt b),.int .i64 (lo c),.int .i64 (hi c),.bool (rd c),.bool (wt c)]⟩],nz,e::live,fl⟩⟩) (fun k=>3-k) 0 ?_ ?_
 ·refine⟨w0c _,?_⟩
  simp only[go_sem,G0,G1]
  exact⟨_,_,_,[],.full (zJ (z1V hop)) _,rfl⟩
 ·rintro k σ ⟨hk,nz,st,y,e,ho,hσ⟩
  rw[hσ]
  clear hσ σ
  dsimp only at hk⊢
  by_cases h:k<3
  ·skip
   obtain⟨hlt,hfit,hin,hcnt,hget⟩:=Z1 hs hx hw h
   have hix:idx (.int .i64 (k:Int)) 3=some k:=zw .i64 k 3 h
   have hc3:=cell3 x h
   have hlen:=UI hs hx hw k (by omega)
   have hcl:=Tx hlt hfit hin
   have hlt3:((k:Int)<3)=True:=eq_true (by omega)
   have hsucc:IntKind.i64.wrap ((k:Int)+1)=((k+1:Nat):Int):=by rw[zc (by omega) (by omega)];omega
   have hc12:=cell12 hs h
   by_cases h45:sk x k=45
   ·have hge:(k:Int)≥cnt [a,b,c]:=hcnt.2 h45
    simp only[go_sem,G0,G1,G2,hlt3,hix,w15,hc3,hge,hsucc]
    refine⟨k+1,by omega,h,nz,st,y,e,?_,rfl⟩
    rw[cod6k,codeOf,if_pos h45,w1a];exact ho
   ·have hge: ¬((k:Int)≥cnt [a,b,c]):=fun e=>h45 (hcnt.1 e)
    by_cases hsg:sk x k=110∨sk x k=103∨sk x k=101
    ·have hcode:codeOf (sk x k) (opn x k)=minimal (zigzag (opn x k)):=by unfold codeOf;rw[if_neg h45,if_pos hsg]
     have hneg:=(z7D hlt).2 hsg
     simp only[go_sem,G0,G1,G2,hlt3,hix,w15,hc3,hge,evIaddrA,hc12,hneg]
     refine(UX _ hin _ _ _ _ _ hf').xv fun y1 t1 k1 ho1=> ?_
     simp only[go_sem,G0,G2]
     obtain⟨z1,hz1,hc1⟩:=ho1.elems
     rw[←hcode] at hc1
     refine(ho.push t1).xv hz1 hc1 (by omega) fun y2 k2 e2 ho2=> ?_
     simp only[go_sem,G0,G2,hsucc]
     exact⟨k+1,by omega,h,k2,st,y2,e2,ho2,rfl⟩
    ·have hpos:=z6E hlt hfit hsg
     have hneg: ¬lo (sk x k)<0:=fun e=>hsg ((z7D hlt).1 e)
     have hcode:codeOf (sk x k) (opn x k)=minimal (opn x k).toNat:=by unfold codeOf;rw[if_neg h45,if_neg hsg]
     have ew:IntKind.u64.wrap (opn x k)=(((opn x k).toNat:Nat):Int):=by unfold in64 at hin;rw[zH (by omega) (by omega)];omega
     simp only[go_sem,G0,G1,G2,hlt3,hix,w15,hc3,hge,evIaddrA,hc12,hneg,ew]
     refine(qE _ (by unfold in64 at hin;omega) _ _ _ _ _ hf').xv fun y1 t1 k1 ho1=> ?_
     simp only[go_sem,G0,G2]
     obtain⟨z1,hz1,hc1⟩:=ho1.elems
     rw[←hcode] at hc1
     refine(ho.push t1).xv hz1 hc1 (by omega) fun y2 k2 e2 ho2=> ?_
     simp only[go_sem,G0,G2,hsucc]
     exact⟨k+1,by omega,h,k2,st,y2,e2,ho2,rfl⟩
  ·have:k=3:=by omega
   subst this
   simp only[go_sem,G5,G0,G1,G2,show(((3:Nat):Int)<3)=False from eq_false (by decide)]
   exact YC ho
def letter (c:Nat):Bool:=(decide (97≤c)&&decide (c≤122))||(decide (65≤c)&&decide (c≤90))
def alnum (c:Nat):Bool:=letter c||(decide (48≤c)&&decide (c≤57))
def named (s:List UInt8):Bool:=decide (1≤s.length)&&decide (s.length≤16)&&letter (s.headD 0).toNat&&s.all fun c=>alnum c.toNat
theorem QF {s:List UInt8} {i:Nat} (h:i<s.length) (hc:alnum s[i].toNat=false):named s=false:=by
 have:(s.all fun c=>alnum c.toNat)=false:=by
  rw[Bool.eq_false_iff];intro ha;rw[w4f] at ha;rw[ha _ (w08 h)] at hc;cases hc
 simp[named,this]
theorem QQ {s:List UInt8} (h:0<s.length):s.headD 0=s[0]:=by
 cases s with
 |nil=>simp at h
 |cons a r=>rfl
theorem z61 {s:List UInt8} (h1:0<s.length) (h2:s.length≤16) (h3:letter s[0].toNat=true) (h4: ∀c∈s,alnum c.toNat=true):named s=true:=by
 have:(s.all fun c=>alnum c.toNat)=true:=w4f.2 h4
 have h5:1≤s.length:=h1
 unfold named
 rw[this,QQ h1,h3,decide_eq_true h2,decide_eq_true h5];rfl
theorem qQ (c:Nat) (m:Mem):Okv tab yD [.int .u8 c] m (.bool (letter c)):=by
 refine zf YY ?_
 obtain⟨stk,cur,nx,live,fl⟩:=m
 simp only[u6,List.map,go_sem,G0,G2]
 repeat' (((first|refine zo ?_ ?_|refine zl ?_ ?_|refine zm ?_ ?_|refine zj ?_ ?_|refine zk ?_ ?_)<;>intro hq)<;>simp only[go_sem,G0,G2,hq])
 all_goals
  rw[z6 rfl rfl,z8]
  refine⟨⟨_,rfl⟩,?_⟩
  simp only[decide_eq_true_eq,decide_eq_false_iff_not] at*
  unfold letter
  congr 1
  grind
theorem jf (s:List UInt8) (hs:s.length≤9223372036854775807) (m:Mem):Okv tab xP [.str s] m (.bool (named s)):=by
 refine zf Wi ?_
 obtain⟨stk,cur,nx,live,fl⟩:=m
 have hL: ∃K:Nat→Mem→Nat,∀(c:Nat) m,CALL tab yD [.int .u8 c] m=some (.bool (letter c),m.bump (K c m)):=
  ⟨fun c m=>(qQ c m).choose,fun c m=>(qQ c m).choose_spec⟩
 obtain⟨K,hK⟩:=hL
 simp only[uH,List.map,go_sem,G0,G2]
 by_cases h0:s.length<1
 ·have h0':(s.length:Int)<1:=by omega
  simp only[go_sem,G0,G2,h0']
  rw[z6 rfl rfl,z8]
  exact⟨⟨_,rfl⟩,by simp[named,show¬1≤s.length by omega]⟩
 have h0': ¬(s.length:Int)<1:=by omega
 by_cases h1:s.length>16
 ·have h1':(s.length:Int)>16:=by omega
  simp only[go_sem,G0,G2,h0',h1']
  rw[z6 rfl rfl,z8]
  exact⟨⟨_,rfl⟩,by simp[named,show¬s.length≤16 by omega]⟩
 have h1': ¬(s.length:Int)>16:=by omega
 have hi0:idx (.int .i64 0) s.length=some 0:=zw .i64 0 _ (by omega)
 have hg0:s[0]? =some s[0]:=w13 (by omega)
 cases h2:letter s[0].toNat
 ·simp only[go_sem,G0,G2,h0',h1',hi0,hg0,hK,h2]
  rw[z6 rfl rfl,z8]
  exact⟨⟨_,rfl⟩,by simp only[named,QQ (show 0<s.length by omega),h2];simp⟩
 ·simp only[go_sem,G0,G2,h0',h1',hi0,hg0,hK,h2]
  refine zb (α:=Nat) (fun i σ=>(i≤s.length∧ ∀c∈s.take i,alnum c.toNat=true)∧ ∃nz,heads [0,3] 0 σ=⟨tmps 41 [(0,.str s),(3,.int .i64 i)],⟨stk++[cur],[],nz,[]::live,fl⟩⟩) (fun i=>s.length-i) 0 ?_ ?_
  ·refine⟨⟨w0c _,by simp⟩,?_⟩
   simp only[go_sem,G0,G1]
   exact⟨_,rfl⟩
  ·rintro i σ ⟨⟨hi,ht⟩,nz,hσ⟩
   rw[hσ]
   clear hσ σ
   dsimp only at hi ht⊢
   by_cases h:i<s.length
   ·have hg:s[i]? =some s[i]:=w13 h
    cases hc:alnum s[i].toNat
    ·have hc':=hc
     simp only[alnum,w3b] at hc'
     simp only[go_sem,G0,G1,G2,w03,h,zw,hg,hK,hc'.1]
     have hidx:=zw .i64 i _ h
     repeat' (((first|refine zo ?_ ?_|refine zl ?_ ?_|refine zm ?_ ?_|refine zj ?_ ?_|refine zk ?_ ?_)<;>intro hq)<;>simp only[go_sem,G0,G2,hq,hidx,hg])
     all_goals first
      |(rw[z6 rfl rfl,z8];exact⟨⟨_,rfl⟩,by rw[QF h hc]⟩)
      |(exfalso;simp only[decide_eq_false_iff_not,Bool.and_eq_false_iff] at*;omega)
    ·have hn:=zn (P:=fun c:UInt8=>alnum c.toNat=true) h ht hc
     have hc':=hc
     simp only[alnum] at hc'
     cases hl:letter s[i].toNat
     ·rw[hl] at hc'
      simp only[Bool.false_or,w0e,decide_eq_true_eq] at hc'
      simp only[go_sem,G0,G1,G2,w03,h,zw,hg,hK,hl,show¬(s[i].toNat:Int)<48 by omega,show¬(s[i].toNat:Int)>57 by omega,zd h hs]
      exact⟨i+1,by omega,⟨h,hn⟩,_,rfl⟩
     ·simp only[go_sem,G0,G1,G2,w03,h,zw,hg,hK,hl,zd h hs]
      exact⟨i+1,by omega,⟨h,hn⟩,_,rfl⟩
   ·have:i=s.length:=by omega
    subst this
    rw[w09] at ht
    simp only[go_sem,G0,G1,G2,w03,h]
    rw[z6 rfl rfl,z8]
    exact⟨⟨_,rfl⟩,by rw[z61 (by omega) (by omega) h2 ht]⟩
theorem z6o: ∀c:Fin 256,((decide (IntKind.u8.wrap ((BitVec.ofInt 8 (c.val:Int)|||BitVec.ofInt 8 32).toNat:Int)<97)||decide (IntKind.u8.wrap ((BitVec.ofInt 8 (c.val:Int)|||BitVec.ofInt 8 32).toNat:Int)>122)||(IntKind.u8.wrap ((BitVec.ofInt 8 (c.val:Int)&&&BitVec.ofInt 8 64).toNat:Int)==0))&&(decide ((c.val:Int)<48)||decide ((c.val:Int)>57)))= !(alnum c.val):=by decide+kernel
theorem z7K {c:Nat} (hc:c<256): ∃a b:Int,evBits .or .u8 (c:Int) 32=some (.int .u8 a)∧evBits .and .u8 (c:Int) 64=some (.int .u8 b)∧
  ((decide (a<97)||decide (a>122)||(b==0))&&(decide ((c:Int)<48)||decide ((c:Int)>57)))= !(alnum c):=⟨_,_,rfl,rfl,z6o ⟨c,hc⟩⟩
theorem Qi {c:Nat} (h:alnum c=true):letter c=decide (57<c):=by
 unfold alnum letter at*
 grind
theorem Zt (s:List UInt8) (m:Mem):Okv tab ul [.str s] m (.bool (named s)):=by
 refine zf z2M ?_
 obtain⟨stk,cur,nx,live,fl⟩:=m
 simp only[ZZ,List.map,go_sem,G0,G2]
 by_cases h0:(s.length:Int)=0
 ·have h0':((s.length:Int)==0)=true:=by simp[h0]
  simp only[go_sem,G0,G2,h0']
  rw[z6 rfl rfl,z8]
  exact⟨⟨_,rfl⟩,by simp[named,show¬1≤s.length by omega]⟩
 have h0':((s.length:Int)==0)=false:=by simpa using h0
 by_cases h1:s.length>16
 ·have h1':(s.length:Int)>16:=by omega
  simp only[go_sem,G0,G2,h0',h1']
  rw[z6 rfl rfl,z8]
  exact⟨⟨_,rfl⟩,by simp[named,show¬s.length≤16 by omega]⟩
 have h1': ¬(s.length:Int)>16:=by omega
 have hp:0<s.length:=by omega
 have hi0:idx (.int .i64 0) s.length=some 0:=zw .i64 0 _ (by omega)
 have hg0:s[0]? =some s[0]:=w13 (by omega)
 by_cases h2:(s[0].toNat:Int)≤57
 ·simp only[go_sem,G0,G2,h0',h1',hi0,hg0,h2]
  rw[z6 rfl rfl,z8]
  refine⟨⟨_,rfl⟩,?_⟩
  cases ha:alnum s[0].toNat
  ·rw[QF hp ha]
  ·have:=Qi ha
   rw[decide_eq_false (by omega)] at this
   simp only[named,QQ hp,this];simp
 ·simp only[go_sem,G0,G2,h0',h1',hi0,hg0,h2,show s.length≤140737488355328 by omega]
  have hs:IsSl IsByte 1 s (.list 1 (.id nx) (ofBytes s)):= .mk (kr s) (by omega)
  simp only[go_sem,hs.len]
  refine zb (α:=Nat) (fun i σ=>(i≤s.length∧ ∀c∈s.take i,alnum c.toNat=true)∧ ∃nz,heads [19,20,21] 0 σ=⟨tmps 47 [(19,.list 1 (.id nx) (ofBytes s)),(20,.int .i64 s.length),(21,.int .i64 i)],⟨stk++[cur],[],nz,[nx]::live,fl⟩⟩) (fun i=>s.length-i) 0 ?_ ?_
  ·refine⟨⟨w0c _,by simp⟩,?_⟩
   simp only[go_sem,G0,G1]
   exact⟨_,rfl⟩
  ·rintro i σ ⟨⟨hi,ht⟩,nz,hσ⟩
   rw[hσ]
   clear hσ σ
   dsimp only at hi ht⊢
   by_cases h:i<s.length
   ·have e1:nth (.list 1 (.id nx) (ofBytes s)) i= .int .u8 s[i].toNat:=hs.nth h
    obtain⟨a,b,q1,q2,q3⟩:=z7K (UInt8.toNat_lt s[i])
    simp only[go_sem,G0,G1,G2,w03,h,hs.at _ h,e1,q1]
    cases hc:alnum s[i].toNat
    ·rw[hc] at q3
     have hat:=hs.at .i64 h
     repeat' (((first|refine zo ?_ ?_|refine zl ?_ ?_|refine zm ?_ ?_|refine zj ?_ ?_|refine zk ?_ ?_)<;>intro hq)<;>simp only[go_sem,G0,G2,hq,q1,q2])
     all_goals first
      |(rw[z6 rfl rfl,z8];exact⟨⟨_,rfl⟩,by rw[QF (by assumption) hc]⟩)
      |(exfalso;simp_all;done)
    ·have hn:=zn (P:=fun c:UInt8=>alnum c.toNat=true) h ht hc
     have hsucc:=zd h hs.max
     rw[hc] at q3
     have hat:=hs.at .i64 h
     repeat' (((first|refine zo ?_ ?_|refine zl ?_ ?_|refine zm ?_ ?_|refine zj ?_ ?_|refine zk ?_ ?_)<;>intro hq)<;>simp only[go_sem,G0,G2,hq,q1,q2,hsucc])
     all_goals first
      |exact⟨i+1,by omega,⟨by assumption,hn⟩,_,rfl⟩
      |(exfalso;simp_all;done)
   ·have:i=s.length:=by omega
    subst this
    rw[w09] at ht
    simp only[go_sem,G0,G1,G2,w03,h]
    rw[z6 rfl rfl,z8]
    refine⟨⟨_,rfl⟩,?_⟩
    have:=Qi (ht s[0] (w08 hp))
    rw[decide_eq_true (by omega)] at this
    rw[z61 hp (by omega) this ht]
end Go.Proofs.W
end
section
namespace Go.Vs
section
variable {P : Program} {n t : Nat} {xs : List AV}
def fieldI (P:Program) (t i:Nat):Option (Nat×Nat):=
 match P.underlying t with
 |some (.struct fs)=>(fs[i]?).map fun f=>(f.type,f.offset)
 |_=>none
theorem zA {i ft off c:Nat} (h:Typed P (n+1) t xs) (e:fieldI P t i=some (ft,off)) (hc:P.cellsOf ft=c):Typed P n ft ((xs.drop off).take c):=by
 unfold fieldI at e
 split at e
 ·rename_i fs hu
  simp only[Typed,hu] at h
  simp only[w02,Prod.mk.injEq] at e
  obtain⟨f,hf,rfl,rfl⟩:=e
  have:=h.2 f (by simpa using Array.mem_of_getElem? hf)
  rw[hc] at this
  exact this
 ·cases e
theorem kB {c:Nat} (h:Typed P (n+1) t xs) (e:(fieldI P t 0).isSome=true) (hc:P.cellsOf t=c):xs.length=c:=by
 unfold fieldI at e
 split at e
 ·rename_i fs hu
  simp only[Typed,hu] at h
  rw[←hc];exact h.1
 ·cases e
theorem Qu {k:IntKind} (h:Typed P (n+1) t xs) (hu:P.underlying t=some (.int k)): ∃i,xs=[.int k i]∧(Lit.int k i).wf=true:=by
 simp only[Typed,hu] at h
 exact h
theorem z9r (h:Typed P (n+1) t xs) (hu:P.underlying t=some .string): ∃s,xs=[.str s]∧s.length≤maxLen:=by
 simp only[Typed,hu] at h
 exact h
theorem qF {α:Type} {R:α→AV→Prop} {e s:Nat} (h:Typed P (n+1) t xs) (hu:P.underlying t=some (.slice e)) (hs:P.cellsOf e=s) (hR: ∀y,IsElem P e y→Typed P n e y.cells→ ∃d,R d y): ∃d y,xs=[y]∧IsSl R s d y:=by
 simp only[Typed,hu] at h
 rcases h with rfl|⟨ys,rfl,hl,hy⟩
 ·exact⟨[],_,rfl,.nil s⟩
 ·obtain⟨d,hd⟩:=All2.of_each (R:=R) ys fun y hm=>hR y (hy y hm).1 (hy y hm).2
  refine⟨d,_,rfl,?_⟩
  rw[hs]
  exact .mk hd (by rw[←hd.len];exact hl)
theorem zdr {n:Int} (h:(Lit.int .i64 n).wf=true):in64 n:=by
 simp[Lit.wf,IntKind.min,IntKind.max,IntKind.signed,IntKind.bits] at h
 unfold in64;omega
theorem zbI {n:Int} (h:(Lit.int .u64 n).wf=true):inU64 n:=by
 simp[Lit.wf,IntKind.min,IntKind.max,IntKind.signed,IntKind.bits] at h
 unfold inU64;omega
theorem zdq {n:Int} (h:(Lit.int .u8 n).wf=true):inU8 n:=by
 simp[Lit.wf,IntKind.min,IntKind.max,IntKind.signed,IntKind.bits] at h
 unfold inU8;omega
theorem kG {α:Type} {R:α→AV→Prop} {W:α→Prop} {s:Nat} {xs:List α} {y:AV} (h:IsSl (fun d y=>R d y∧W d) s xs y):IsSl R s xs y∧ ∀x∈xs,W x:=by
 refine⟨h.mono fun _ _ _ h=>h.1,fun x hx=> ?_⟩
 obtain⟨i,hi,rfl⟩:=List.mem_iff_getElem.1 hx
 exact(h.nth hi).2
theorem yd: ¬Typed P 0 t xs:=fun h=>h
theorem YG {e:Nat} {y:AV} (h:IsElem P e y) (ha:aggT P e=some true): ∃cs,y= .agg cs:=by
 unfold IsElem at h;rw[if_pos ha] at h;exact h
theorem zbS {e:Nat} {y:AV} (h:IsElem P e y) (ha:aggT P e=some false):y.cells=[y]:=by
 unfold IsElem at h;rw[if_neg (by rw[ha];simp)] at h;exact h
end
end Go.Vs
end
section
namespace Go.Proofs.W
open Go.Vs
set_option linter.unusedSimpArgs false
set_option maxRecDepth 100000
theorem z0Y (n:Int) (m:Mem):Okv tab vM [.int .i64 n] m (.bool (n !=0)):=by
 refine zf z1e ?_
 obtain⟨stk,cur,nx,live,fl⟩:=m
 simp only[Z7,List.map,go_sem,G0,G2]
 rw[z6 rfl rfl,z8]
 exact⟨⟨_,rfl⟩,rfl⟩
theorem z0r (xs:List Int) (x:AV) (hx:IsSl (IsK .i64) 1 xs x) (m:Mem):
  Ok tab yF [x,.fn (.func vM) [] []] m (fun r=> ∃n:Int,r= .int .i64 n∧decide (n≥0)=xs.any (· !=0)):=by
 refine z5W tg ?_
 obtain⟨stk,cur,nx,live,fl⟩:=m
 simp only[yB,List.map,go_sem,G3,G0,G2,hx.len]
 refine zb (α:=Nat) (fun i σ=>(i≤xs.length∧ ∀c∈xs.take i,(c !=0)=false)∧ ∃nz,heads [0,1,7,8] 0 σ=⟨tmps 19 [(0,x),(1,.fn (.func vM) [] []),(7,.int .i64 xs.length),(8,.int .i64 i)],⟨stk++[cur],[],nz,[]::live,fl⟩⟩) (fun i=>xs.length-i) 0 ?_ ?_
 ·refine⟨⟨w0c _,by simp⟩,?_⟩
  simp only[go_sem,G0,G1]
  exact⟨_,rfl⟩
 ·rintro i σ ⟨⟨hi,ht⟩,nz,hσ⟩
  rw[hσ]
  clear hσ σ
  dsimp only at hi ht⊢
  by_cases h:i<xs.length
  ·have e1:nth x i= .int .i64 xs[i]:=hx.nth h
   simp only[go_sem,G0,G1,G2,w03,h,hx.at _ h,e1,(z0Y _ _).eq]
   cases hc:(xs[i] !=0)
   ·simp only[go_sem,G0,G2,zd h hx.max]
    exact⟨i+1,by omega,⟨h,zn (P:=fun c=>(c !=0)=false) h ht hc⟩,_,rfl⟩
   ·simp only[go_sem,G0,G2]
    rw[z6 rfl rfl,z8]
    refine⟨⟨_,rfl⟩,_,rfl,?_⟩
    rw[List.any_eq_true.2 ⟨_,w08 h,hc⟩]
    simp
  ·have:i=xs.length:=by omega
   subst this
   rw[w09] at ht
   simp only[go_sem,G0,G1,G2,w03,h]
   rw[z6 rfl rfl,z8]
   refine⟨⟨_,rfl⟩,_,rfl,?_⟩
   rw[List.any_eq_false.2 fun c hc=>by rw[ht c hc];simp]
   rfl
theorem Te (xs:List Int) (x:AV) (hx:IsSl (IsK .i64) 1 xs x) (m:Mem):
  Okv tab zN [x,.fn (.func vM) [] []] m (.bool (xs.any (· !=0))):=by
 refine zf vO ?_
 obtain⟨stk,cur,nx,live,fl⟩:=m
 simp only[yf,List.map,go_sem,G3,G0,G2]
 obtain⟨r,k,h1,n,rfl,h2⟩:=z0r xs x hx ⟨stk++[cur],[],nx,[]::live,fl⟩
 simp only[go_sem,G0,G2,h1,h2]
 rw[z6 rfl rfl,z8]
 exact⟨⟨_,rfl⟩,rfl⟩
theorem YO (xs:List Int) (x:AV) (hx:IsSl (IsK .i64) 1 xs x) (m:Mem):Okv tab yr [x] m (.bool (!xs.any (· !=0))):=by
 refine zf z4q ?_
 obtain⟨stk,cur,nx,live,fl⟩:=m
 simp only[XM,List.map,go_sem,G0,G2,(Te xs x hx _).eq]
 rw[z6 rfl rfl,z8]
 exact⟨⟨_,rfl⟩,rfl⟩
theorem zcs (a:Int) (m:Mem):Okv tab yr [.list 1 .full [.int .i64 a]] m (.bool (pb (a=0))):=by
 have hh:IsSl (IsK .i64) 1 [a] (.list 1 .full [.int .i64 a]):= .mk (ys:=[.int .i64 a]) ⟨rfl,trivial⟩ (by simp)
 have:=YO [a] _ hh m
 have e:(!([a]:List Int).any (· !=0))=pb (a=0):=kc (by simp)
 rw[e] at this;exact this
theorem zcr (a b:Int) (m:Mem):Okv tab yr [.list 1 .full [.int .i64 a,.int .i64 b]] m (.bool (pb (a=0∧b=0))):=by
 have hh:IsSl (IsK .i64) 1 [a,b] (.list 1 .full [.int .i64 a,.int .i64 b]):= .mk (ys:=[.int .i64 a,.int .i64 b]) ⟨rfl,rfl,trivial⟩ (by simp)
 have:=YO [a,b] _ hh m
 have e:(!([a,b]:List Int).any (· !=0))=pb (a=0∧b=0):=kc (by simp)
 rw[e] at this;exact this
theorem zcq (a b c:Int) (m:Mem):Okv tab yr [.list 1 .full [.int .i64 a,.int .i64 b,.int .i64 c]] m (.bool (pb (a=0∧b=0∧c=0))):=by
 have hh:IsSl (IsK .i64) 1 [a,b,c] (.list 1 .full [.int .i64 a,.int .i64 b,.int .i64 c]):= .mk (ys:=[.int .i64 a,.int .i64 b,.int .i64 c]) ⟨rfl,rfl,rfl,trivial⟩ (by simp)
 have:=YO [a,b,c] _ hh m
 have e:(!([a,b,c]:List Int).any (· !=0))=pb (a=0∧b=0∧c=0):=kc (by simp)
 rw[e] at this;exact this
theorem z10 (a b:Int) (m:Mem):Okv tab tT [.int .i64 a,.int .i64 b] m (.bool (pb (0≤a∧a<b))):=by
 refine zf z1g ?_
 obtain⟨stk,cur,nx,live,fl⟩:=m
 simp only[Z9,List.map,go_sem,G3,G0,G2]
 repeat' (((first|refine zo ?_ ?_|refine zl ?_ ?_|refine zm ?_ ?_|refine zj ?_ ?_|refine zk ?_ ?_)<;>intro hq)<;>simp only[go_sem,G0,G2,hq])
 all_goals
  rw[z6 rfl rfl,z8]
  refine⟨⟨_,rfl⟩,?_⟩
  refine congrArg AV.bool (kc ?_)
  grind
def FieldsP (l:List DField) (most:Int):Prop:=(l.length:Int)≤most∧(∀f∈l,named f.name=true)∧(l.map DField.name).Nodup
theorem kU {α:Type} {l:List α} {i:Nat} (h:i<l.length) (h1:(l.take i).Nodup) (h2: ∀x∈l.take i,x≠l[i]):(l.take (i+1)).Nodup:=by
 rw[w14 h,w4c]
 refine⟨h1,by simp,fun a ha b hb=> ?_⟩
 simp at hb;rw[hb];exact h2 a ha
theorem Yl {α:Type} {l:List α} {i k:Nat} (hk:k<i) (h:i<l.length) (he:l[k]=l[i]): ¬l.Nodup:=fun hn=>by
 have:=(List.nodup_iff_pairwise_ne.1 hn)
 rw[List.pairwise_iff_getElem] at this
 exact this k i (by omega) h hk he
theorem qR (xs:List DField) (most:Int) (x:AV) (hx:IsSl IsField 2 xs x) (hm: ∀f∈xs,f.name.length≤9223372036854775807) (m:Mem):Okv tab yE [x,.int .i64 most] m (.bool (pb (FieldsP xs most))):=by
 refine zf YZ ?_
 obtain⟨stk,cur,nx,live,fl⟩:=m
 simp only[u7,List.map,go_sem,G3,G0,G2,hx.len]
 by_cases hb:(xs.length:Int)>most
 ·simp only[go_sem,G0,G2,hb]
  rw[z6 rfl rfl,z8]
  exact⟨⟨_,rfl⟩,by rw[zg fun h=>by have:=h.1;omega]⟩
 simp only[go_sem,hb]
 have hml:(xs.map DField.name).length=xs.length:=by simp
 refine zb (α:=Nat) (fun i σ=>(i≤xs.length∧(∀c∈xs.take i,named c.name=true)∧((xs.map DField.name).take i).Nodup)∧ ∃nz,heads [0,5] 0 σ=⟨tmps 40 [(0,x),(5,.int .i64 i)],⟨stk++[cur],[],nz,[]::live,fl⟩⟩) (fun i=>xs.length-i) 0 ?_ ?_
 ·refine⟨⟨w0c _,by simp,by simp⟩,?_⟩
  simp only[go_sem,G0,G1]
  exact⟨_,rfl⟩
 ·rintro i σ ⟨⟨hi,ht,hd⟩,nz,hσ⟩
  rw[hσ]
  clear hσ σ
  dsimp only at hi ht hd⊢
  by_cases h:i<xs.length
  ·have e1:nth x i= .agg [.str xs[i].name,.int .i64 xs[i].typ]:=hx.nth h
   simp only[go_sem,G0,G1,G2,w03,h,hx.len,hx.at _ h,e1,(jf _ (hm _ (w08 h)) _).eq]
   cases hc:named xs[i].name
   ·simp only[go_sem,G0,G2]
    rw[z6 rfl rfl,z8]
    exact⟨⟨_,rfl⟩,by rw[zg fun h'=>by have:=h'.2.1 _ (w08 h);rw[hc] at this;cases this]⟩
   ·simp only[go_sem]
    refine zb (α:=Nat) (fun k σ=>(k≤i∧ ∀c∈(xs.map DField.name).take k,c≠xs[i].name)∧ ∃nz,heads [0,5,6] 0 σ=⟨tmps 40 [(0,x),(5,.int .i64 i),(6,.int .i64 k)],⟨stk++[cur],[],nz,[]::live,fl⟩⟩) (fun k=>i-k) 0 ?_ ?_
    ·refine⟨⟨w0c _,by simp⟩,?_⟩
     simp only[go_sem,G0,G1]
     exact⟨_,rfl⟩
    ·rintro k σ ⟨⟨hk,hks⟩,nz,hσ⟩
     rw[hσ]
     clear hσ σ
     dsimp only at hk hks⊢
     by_cases hki:k<i
     ·have hkl:k<xs.length:=by omega
      have e2:nth x k= .agg [.str xs[k].name,.int .i64 xs[k].typ]:=hx.nth hkl
      simp only[go_sem,G0,G1,G2,w03,hki,hx.at _ hkl,e2,hx.at _ h,e1,evStr]
      by_cases hq:xs[k].name=xs[i].name
      ·have hq':(xs[k].name==xs[i].name)=true:=by simp[hq]
       simp only[go_sem,G0,G2,hq']
       rw[z6 rfl rfl,z8]
       exact⟨⟨_,rfl⟩,by rw[zg fun h'=>Yl hki (by rw[hml];exact h) (by simpa using hq) h'.2.2]⟩
      ·have hq':(xs[k].name==xs[i].name)=false:=by simpa using hq
       simp only[go_sem,G0,G2,hq',zd hkl hx.max]
       exact⟨k+1,by omega,⟨hki,zn (P:=fun c=>c≠xs[i].name) (by rw[hml];exact hkl) hks (by simpa using hq)⟩,_,rfl⟩
     ·have:k=i:=by omega
      subst this
      simp only[go_sem,G0,G1,G2,w03,hki,zd h hx.max]
      refine⟨k+1,by omega,⟨h,zn (P:=fun c=>named c.name=true) h ht hc,?_⟩,_,rfl⟩
      exact kU (by rw[hml];exact h) hd (by simpa using hks)
  ·have:i=xs.length:=by omega
   subst this
   rw[w09] at ht
   rw[←hml,w09] at hd
   simp only[go_sem,G0,G1,G2,w03,h,hx.len]
   rw[z6 rfl rfl,z8]
   exact⟨⟨_,rfl⟩,by rw[zD ⟨by omega,ht,hd⟩]⟩
def StructP (i:Nat) (t:DTyp):Prop:=(∀f∈t.fields,0≤f.typ∧f.typ<i)∧t.elem=0∧t.len=0∧0<t.fields.length∧FieldsP t.fields 8
def FineT (n i:Nat) (t:DTyp):Prop:=
 ((t.kind=1∨t.kind=2∨t.kind=3)∧t.elem=0∧t.len=0∧t.fields.length=0)∨((t.kind=4∨t.kind=7)∧0≤t.elem∧t.elem<n∧t.len=0∧t.fields.length=0)∨
 (t.kind=6∧0≤t.elem∧t.elem<i∧1≤t.len∧t.len≤16∧t.fields.length=0)∨(t.kind=5∧StructP i t)
theorem tn {n i:Nat} {t:DTyp} (h:t.kind=5):FineT n i t↔StructP i t:=by
 unfold FineT;rw[h];simp
theorem b51:((5:Int)==1)=false:=rfl
theorem b52:((5:Int)==2)=false:=rfl
theorem b53:((5:Int)==3)=false:=rfl
theorem b54:((5:Int)==4)=false:=rfl
theorem b56:((5:Int)==6)=false:=rfl
theorem b57:((5:Int)==7)=false:=rfl
def NamesOk (l:List DField):Prop:= ∀f∈l,f.name.length≤9223372036854775807
theorem Vc (xs:List DTyp) (x:AV) (hx:IsSl IsTyp 4 xs x) (i:Nat) (hi:i<xs.length) (hn:NamesOk xs[i].fields) (m:Mem):
  Okv tab tP [x,.int .i64 i] m (.bool (pb (FineT xs.length i xs[i]))):=by
 refine zf Vz ?_
 obtain⟨stk,cur,nx,live,fl⟩:=m
 obtain⟨v,e1,q1⟩:=hx.nth hi
 have hlen:=hx.len
 have hat:=hx.at .i64 hi
 have hm:=hx.max
 generalize ht:xs[i]=t at*
 clear ht
 generalize hxn:xs.length=n at*
 obtain⟨kind,elem,len,fields⟩:=t
 dsimp only at e1 q1 hn
 simp only[tG,List.map,go_sem,G3,G0,G2,hat,e1,q1.one]
 by_cases hk:kind=5
 ·subst hk
  simp only[go_sem,G0,G2,b51,b52,b53,b54,b56,b57]
  refine zb (α:=Nat) (fun k σ=>(k≤fields.length∧ ∀f∈fields.take k,0≤f.typ∧f.typ<i)∧ ∃nz,heads [1,5,6] 1 σ=⟨tmps 127 [(1,.int .i64 i),(5,.ptr (stk++[cur]).length 0 nx 0),(6,.int .i64 k)],⟨stk++[cur],[⟨nx,[.int .u8 5,.int .i64 elem,.int .i64 len,v]⟩],nz,[]::live,fl⟩⟩) (fun k=>fields.length-k) 0 ?_ ?_
  ·refine⟨⟨w0c _,by simp⟩,?_⟩
   simp only[go_sem,G0,G1]
   exact⟨_,rfl⟩
  ·rintro k σ ⟨⟨hk,hks⟩,nz,hσ⟩
   rw[hσ]
   clear hσ σ
   dsimp only at hk hks⊢
   by_cases h:k<fields.length
   ·have e2:nth v k= .agg [.str fields[k].name,.int .i64 fields[k].typ]:=q1.nth h
    have hat2:=q1.at .i64 h
    have hlen2:=q1.len
    have hsucc:=zd h q1.max
    simp only[go_sem,G0,G1,G2,w03,h,hlen2,hat2,e2]
    by_cases hf:0≤fields[k].typ∧fields[k].typ<i
    ·have hkn:=zn (P:=fun f=>0≤f.typ∧f.typ<i) h hks hf
     simp only[go_sem,G0,G2,show¬fields[k].typ<0 by omega,show¬fields[k].typ≥i by omega,hat2,e2,hsucc]
     exact⟨k+1,by omega,⟨h,hkn⟩,_,rfl⟩
    ·repeat' (((first|refine zo ?_ ?_|refine zl ?_ ?_|refine zm ?_ ?_|refine zj ?_ ?_|refine zk ?_ ?_)<;>intro hq)<;>simp only[go_sem,G0,G2,hq,hat2,e2])
     all_goals first
      |(rw[z6 rfl rfl,z8];exact⟨⟨_,rfl⟩,by rw[zg fun h'=>hf (((tn rfl).1 h').1 _ (w08 h))]⟩)
      |(exfalso;simp only[decide_eq_false_iff_not] at*;omega)
   ·have:k=fields.length:=by omega
    subst this
    rw[w09] at hks
    have hF: ∀m,CALL tab yE [v,.int .i64 8] m=_:=fun m=>(qR fields 8 v q1 hn m).eq
    simp only[go_sem,G0,G1,G2,w03,h,q1.len]
    repeat' (((first|refine zo ?_ ?_|refine zl ?_ ?_|refine zm ?_ ?_|refine zj ?_ ?_|refine zk ?_ ?_)<;>intro hq)<;>simp only[go_sem,G0,G2,hq,q1.len,hF])
    all_goals
     rw[z6 rfl rfl,z8]
     refine⟨⟨_,rfl⟩,congrArg AV.bool (kc ?_)⟩
     rw[tn rfl]
     unfold StructP
     simp only[decide_eq_true_eq,decide_eq_false_iff_not,beq_iff_eq,beq_eq_false_iff_ne,X4] at*
     grind
 ·have hk5:(kind==5)=false:=by simpa using hk
  repeat' (((first|refine zo ?_ ?_|refine zl ?_ ?_|refine zm ?_ ?_|refine zj ?_ ?_|refine zk ?_ ?_)<;>intro hq)<;>simp only[go_sem,G0,G2,hq,hlen,q1.len,hk5])
  all_goals
   rw[z6 rfl rfl,z8]
   refine⟨⟨_,rfl⟩,congrArg AV.bool (kc ?_)⟩
   unfold FineT
   clear hat hlen e1 q1 hn
   simp only[decide_eq_true_eq,decide_eq_false_iff_not,beq_iff_eq,beq_eq_false_iff_ne] at*
   grind
def ents (ns:List (List UInt8)):List AV:=ns.map fun s=> .tup [.str s,.bool true]
theorem Xz (s:List UInt8): ∀ns,mapGet true (.bool false) (.str s) (ents ns)=some (.bool (pb (s∈ns)))
 | []=>by rw[zg (by simp)];rfl
 |n::r=>by
  have ih:=Xz s r
  simp only[ents,w35,mapGet,keyEq] at ih⊢
  by_cases h:s=n
  ·subst h;rw[zD w1c];simp
  ·have:(s==n)=false:=by simpa using h
   rw[this];simp only[ih]
   congr 2
   exact kc (by rw[X4];simp[h])
theorem Xy (s:List UInt8): ∀ns,s∉ns→mapPut true (.str s) (.bool true) (ents ns)=some (ents (ns++[s]))
 | [],_=>rfl
 |n::r,h=>by
  have ih:=Xy s r (fun h'=>h (w18 _ h'))
  have hne:(s==n)=false:=by simp only[beq_eq_false_iff_ne];intro e;exact h (e▸w1c)
  simp only[ents,w35,w21,mapPut,keyEq,hne] at ih⊢
  rw[ih];rfl
theorem jw {α β:Type} (f:α→β) {l:List α} {i:Nat} (h:i<l.length):(l.map f).take (i+1)=(l.map f).take i++[f l[i]]:=by
 rw[w14 (by simpa using h)];simp
theorem z4e (xs:List DTyp) (x:AV) (hx:IsSl IsTyp 4 xs x) (i:Nat) (hi:i<xs.length) (hw:WfTyp xs[i]) (m:Mem):
  Okv tab XS [x,.int .i64 i] m (.bool (pb (FineT xs.length i xs[i]))):=by
 refine zf z4r ?_
 obtain⟨stk,cur,nx,live,fl⟩:=m
 obtain⟨v,e1,q1⟩:=hx.nth hi
 have hlen:=hx.len
 have hat:=hx.at .i64 hi
 have hm:=hx.max
 generalize ht:xs[i]=t at*
 clear ht
 generalize hxn:xs.length=n at*
 obtain⟨kind,elem,len,fields⟩:=t
 dsimp only at e1 q1
 have hlm:=q1.max
 have ew:(0≤IntKind.i64.wrap (len-1)∧IntKind.i64.wrap (len-1)<16)↔(1≤len∧len≤16):=by
  have:=hw.len
  unfold in64 at this
  dsimp only at this
  by_cases hh:len= -9223372036854775808
  ·subst hh;decide
  ·rw[zc (by omega) (by omega)];omega
 have hW: ∀a b m,CALL tab tT [.int .i64 a,.int .i64 b] m=_:=fun a b m=>(z10 a b m).eq
 have hz1: ∀a m,CALL tab yr [.list 1 .full [.int .i64 a]] m=_:=fun a m=>(zcs a m).eq
 have hz2: ∀a b m,CALL tab yr [.list 1 .full [.int .i64 a,.int .i64 b]] m=_:=fun a b m=>(zcr a b m).eq
 have hz3: ∀a b c m,CALL tab yr [.list 1 .full [.int .i64 a,.int .i64 b,.int .i64 c]] m=_:=fun a b c m=>(zcq a b c m).eq
 simp only[XN,List.map,go_sem,G3,G0,G2,hat,e1,q1.one]
 by_cases hk:kind=5
 ·subst hk
  have hlen2:=q1.len
  simp only[go_sem,G3,G0,G2,b51,b52,b53,b54,b56,b57,hlen2]
  refine zb (α:=Nat) (fun k σ=>(k≤fields.length∧(∀f∈fields.take k,0≤f.typ∧f.typ<i)∧(∀f∈fields.take k,named f.name=true)∧((fields.map DField.name).take k).Nodup)∧ ∃nz,heads [1,5,6,7,72,73,74] 2 σ=⟨tmps 118 [(1,.int .i64 i),(5,.ptr (stk++[cur]).length 0 nx 0),(6,.fn (.func tT) [] []),(7,.mapR (stk++[cur]).length 1 (nx+1)),(72,v),(73,.int .i64 fields.length),(74,.int .i64 k)],
   ⟨stk++[cur],[⟨nx,[.int .u8 5,.int .i64 elem,.int .i64 len,v]⟩,⟨nx+1,[.tup (ents ((fields.map DField.name).take k))]⟩],nz,[]::live,fl⟩⟩) (fun k=>fields.length-k) 0 ?_ ?_
  ·refine⟨⟨w0c _,by simp,by simp,by simp⟩,?_⟩
   simp only[go_sem,G0,G1]
   exact⟨_,rfl⟩
  ·rintro k σ ⟨⟨hk,hks,hkn,hkd⟩,nz,hσ⟩
   rw[hσ]
   clear hσ σ
   dsimp only at hk hks hkn hkd⊢
   have hml:(fields.map DField.name).length=fields.length:=by simp
   by_cases h:k<fields.length
   ·have e2:nth v k= .agg [.str fields[k].name,.int .i64 fields[k].typ]:=q1.nth h
    have hat2:=q1.at .i64 h
    have hsucc:=zd h q1.max
    have hN: ∀m,CALL tab ul [.str fields[k].name] m=_:=fun m=>(Zt fields[k].name m).eq
    simp only[go_sem,G3,G0,G1,G2,w03,h,hat2,e2,hN]
    by_cases hc:named fields[k].name=true
    case neg=>
     have hc':named fields[k].name=false:=by simpa using hc
     simp only[go_sem,G0,G2,hc']
     rw[z6 rfl rfl,z8]
     refine⟨⟨_,rfl⟩,congrArg AV.bool (zg fun h'=> ?_).symm⟩
     exact hc ((((tn rfl).1 h').2.2.2.2).2.1 _ (w08 h))
    simp only[go_sem,G0,G2,hc,Xz]
    by_cases hs:fields[k].name∈(fields.map DField.name).take k
    ·simp only[go_sem,G0,G2,zD hs]
     rw[z6 rfl rfl,z8]
     refine⟨⟨_,rfl⟩,congrArg AV.bool (zg fun h'=> ?_).symm⟩
     have hnd:=(((tn rfl).1 h').2.2.2.2).2.2
     obtain⟨j,hj,he⟩:=List.mem_take_iff_getElem.1 hs
     refine Yl (l:=fields.map DField.name) (i:=k) (k:=j) (by omega) (by rw[hml];exact h) ?_ hnd
     rw[he];simp
    simp only[go_sem,G0,G2,zg hs,hW]
    by_cases hf:0≤fields[k].typ∧fields[k].typ<i
    case neg=>
     simp only[go_sem,G0,G2,zg hf]
     rw[z6 rfl rfl,z8]
     exact⟨⟨_,rfl⟩,by rw[zg fun h'=>hf (((tn rfl).1 h').1 _ (w08 h))]⟩
    simp only[go_sem,G0,G2,zD hf,Xy _ _ hs,hsucc,w04]
    have htk:=jw DField.name h
    rw[←htk]
    refine⟨k+1,by omega,⟨h,zn (P:=fun f=>0≤f.typ∧f.typ<i) h hks hf,zn (P:=fun f=>named f.name=true) h hkn hc,?_⟩,_,rfl⟩
    exact kU (by rw[hml];exact h) hkd (fun y hy e=>hs (by rw[List.getElem_map] at e;exact e▸hy))
   ·have:k=fields.length:=by omega
    subst this
    rw[w09] at hks hkn
    rw[←hml,w09] at hkd
    simp only[go_sem,G0,G1,G2,w03,h,hz2]
    repeat' (((first|refine zo ?_ ?_|refine zl ?_ ?_|refine zm ?_ ?_|refine zj ?_ ?_|refine zk ?_ ?_)<;>intro hq)<;>simp only[go_sem,G0,G2,hq,q1.len])
    all_goals
     rw[z6 rfl rfl,z8]
     refine⟨⟨_,rfl⟩,congrArg AV.bool (kc ?_)⟩
     rw[tn rfl]
     unfold StructP FieldsP
     clear hz1 hz2 hz3 hW ew
     simp only[decide_eq_true_eq,decide_eq_false_iff_not,X4,TR] at*
     grind
 ·have hk5:(kind==5)=false:=by simpa using hk
  repeat' (((first|refine zo ?_ ?_|refine zl ?_ ?_|refine zm ?_ ?_|refine zj ?_ ?_|refine zk ?_ ?_)<;>intro hq)<;>simp only[go_sem,G0,G2,hq,hlen,q1.len,hk5,hW,hz1,hz2,hz3])
  all_goals
   rw[z6 rfl rfl,z8]
   refine⟨⟨_,rfl⟩,congrArg AV.bool (kc ?_)⟩
   unfold FineT
   clear hat hlen e1 q1 hz1 hz2 hz3 hW
   simp only[beq_iff_eq,beq_eq_false_iff_ne,X4,TR] at*
   grind
def IsN (n:Nat) (y:AV):Prop:=y= .int .i64 (n:Int)
def ValidT (l:List DTyp):Prop:= ∀i (h:i<l.length),FineT l.length i l[i]
def contrib (t:DTyp) (below out:List Nat):Nat:=
 if t.kind=4 then below.getD t.elem.toNat 0 else if t.kind=7 then 16*below.getD t.elem.toNat 0 else if t.kind=6 then t.len.toNat*out.getD t.elem.toNat 0 else 0
def fsum (fs:List DField) (out:List Nat):Nat:=(fs.map fun f=>out.getD f.typ.toNat 0).sum
def w1 (t:DTyp) (below out:List Nat):Nat:=min 5001 (1+contrib t below out+fsum t.fields out)
def rnd (below:List Nat) (l:List DTyp):List Nat:=l.foldl (fun out t=>out++[w1 t below out]) []
def rounds (l:List DTyp):Nat→List Nat
 |0=>List.replicate l.length 0
 |r+1=>rnd (rounds l r) l
theorem VL (b:List Nat) (l:List DTyp) {i:Nat} (h:i<l.length):rnd b (l.take (i+1))=rnd b (l.take i)++[w1 l[i] b (rnd b (l.take i))]:=by
 unfold rnd
 rw[w14 h,List.foldl_append];rfl
theorem TN (b:List Nat) (l:List DTyp): ∀i,i≤l.length→(rnd b (l.take i)).length=i
 |0,_=>by simp[rnd]
 |i+1,h=>by rw[VL b l h,w04,TN b l i (by omega)];rfl
theorem z1r (b:List Nat) (l:List DTyp): ∀i,i≤l.length→ ∀x∈rnd b (l.take i),x≤5001
 |0,_=>by simp[rnd]
 |i+1,h=>by
  rw[VL b l h]
  intro x hx
  rcases w0a.1 hx with hx|hx
  ·exact z1r b l i (by omega) x hx
  ·simp at hx;subst hx;unfold w1;omega
theorem kS (l:List DTyp): ∀r,(rounds l r).length=l.length
 |0=>by simp[rounds]
 |r+1=>by have:=TN (rounds l r) l l.length (w0b _);rw[w09] at this;exact this
theorem z3t (l:List DTyp): ∀r,∀x∈rounds l r,x≤5001
 |0,x,h=>by simp[rounds] at h;omega
 |r+1,x,h=>by have:=z1r (rounds l r) l l.length (w0b _) x;rw[w09] at this;exact this h
theorem ko {l:List Nat} {c:Nat} (h: ∀x∈l,x≤c) (i:Nat):l.getD i 0≤c:=by
 rw[w00]
 cases hq:l[i]? with
 |none=>simp
 |some x=>simp only[w2a];exact h x (w49 hq)
theorem qX {l:List Nat} {i:Nat} (h:i<l.length):l.getD i 0=l[i]:=by simp[w00,h]
theorem za5 {fs:List DField} {k:Nat} (h:k<fs.length) (out:List Nat):fsum (fs.take (k+1)) out=fsum (fs.take k) out+out.getD fs[k].typ.toNat 0:=by
 unfold fsum
 rw[w14 h,w33,List.sum_append];simp
theorem z52 {fs:List DField} {out:List Nat} {c:Nat} (h: ∀x∈out,x≤c):fsum fs out≤c*fs.length:=by
 unfold fsum
 induction fs with
 |nil=>simp
 |cons f r ih=>
  have:=ko h f.typ.toNat
  simp only[w35,List.sum_cons,w29,Nat.mul_add,w15];omega
def parts (t:DTyp):List Int:=(if t.kind=6 then [t.elem] else [])++t.fields.map DField.typ
theorem je (t:DTyp) (x:AV) (hx:IsTyp t x) (hl:t.fields.length≤100) (m:Mem):Okl (IsK .i64) 1 tab uX [x] m (parts t):=by
 refine qy Wh ?_
 obtain⟨stk,cur,nx,live,fl⟩:=m
 obtain⟨kind,elem,len,fields⟩:=t
 obtain⟨v,rfl,q1⟩:=hx
 dsimp only at q1 hl
 unfold parts
 dsimp only
 simp only[uG,List.map,go_sem,G3,G0,G2]
 by_cases hk:kind=6
 ·have hk':(kind==6)=true:=by simpa using hk
  rw[if_pos hk]
  simp only[go_sem,G0,G2,hk']
  refine(Own.nil (R:=IsK .i64) (s:=1) []).xv (zh · _ _ _) (zJ (R:=IsK .i64) (x:=elem) rfl) (by simp) fun y' n' e' ho'=> ?_
  simp only[go_sem,G0,G2]
  rw[w2e] at ho'
  refine zb (α:=Nat) (fun k σ=>k≤fields.length∧ ∃nz y e,Own (IsK .i64) 1 y ([elem]++(fields.map DField.typ).take k) e∧heads [1,3,4] 1 σ=⟨tmps 30 [(1,.ptr (stk++[cur]).length 0 nx 0),(3,y),(4,.int .i64 k)],⟨stk++[cur],[⟨nx,[.int .u8 kind,.int .i64 elem,.int .i64 len,v]⟩],nz,e::live,fl⟩⟩) (fun k=>fields.length-k) 0 ?_ ?_
  ·refine⟨w0c _,n',y',e',by simpa using ho',?_⟩
   simp only[go_sem,G0,G1]
   rfl
  ·rintro k σ ⟨hk,nz,y,e,ho,hσ⟩
   rw[hσ]
   clear hσ σ
   dsimp only at hk⊢
   by_cases h:k<fields.length
   ·have e2:nth v k= .agg [.str fields[k].name,.int .i64 fields[k].typ]:=q1.nth h
    have hat2:=q1.at .i64 h
    simp only[go_sem,G0,G1,G2,w03,h,q1.len,hat2,e2]
    refine ho.xv (zh · _ _ _) (zJ (R:=IsK .i64) (x:=fields[k].typ) rfl) (by simp;omega) fun y' n' e' ho'=> ?_
    simp only[go_sem,G0,G2,zd h q1.max]
    rw[w0f,←jw DField.typ h] at ho'
    exact⟨k+1,by omega,h,_,y',e',ho',rfl⟩
   ·have:k=fields.length:=by omega
    subst this
    rw[show(fields.map DField.typ).take fields.length=fields.map DField.typ by rw[show fields.length=(fields.map DField.typ).length by simp,w09]] at ho
    simp only[go_sem,G0,G1,G2,w03,h,q1.len]
    exact vz ho
 ·have hk':(kind==6)=false:=by simpa using hk
  rw[if_neg hk]
  simp only[go_sem,hk']
  refine zb (α:=Nat) (fun k σ=>k≤fields.length∧ ∃nz y e,Own (IsK .i64) 1 y ([]++(fields.map DField.typ).take k) e∧heads [1,3,4] 1 σ=⟨tmps 30 [(1,.ptr (stk++[cur]).length 0 nx 0),(3,y),(4,.int .i64 k)],⟨stk++[cur],[⟨nx,[.int .u8 kind,.int .i64 elem,.int .i64 len,v]⟩],nz,e::live,fl⟩⟩) (fun k=>fields.length-k) 0 ?_ ?_
  ·refine⟨w0c _,nx+1,.nils,[],by simpa using Own.nil (R:=IsK .i64) (s:=1) [],?_⟩
   simp only[go_sem,G0,G1]
   rfl
  ·rintro k σ ⟨hk,nz,y,e,ho,hσ⟩
   rw[hσ]
   clear hσ σ
   dsimp only at hk⊢
   by_cases h:k<fields.length
   ·have e2:nth v k= .agg [.str fields[k].name,.int .i64 fields[k].typ]:=q1.nth h
    have hat2:=q1.at .i64 h
    simp only[go_sem,G0,G1,G2,w03,h,q1.len,hat2,e2]
    refine ho.xv (zh · _ _ _) (zJ (R:=IsK .i64) (x:=fields[k].typ) rfl) (by simp;omega) fun y' n' e' ho'=> ?_
    simp only[go_sem,G0,G2,zd h q1.max]
    rw[w0f,←jw DField.typ h] at ho'
    exact⟨k+1,by omega,h,_,y',e',ho',rfl⟩
   ·have:k=fields.length:=by omega
    subst this
    rw[show(fields.map DField.typ).take fields.length=fields.map DField.typ by rw[show fields.length=(fields.map DField.typ).length by simp,w09]] at ho
    simp only[go_sem,G0,G1,G2,w03,h,q1.len]
    exact vz ho
theorem z5S {n i:Nat} {t:DTyp} (h:FineT n i t): ∀p∈parts t,0≤p∧p<i:=by
 intro p hp
 unfold parts at hp
 rcases h with⟨h1,_,_,h4⟩|⟨h1,_,_,_,h4⟩|⟨h1,h2,h3,_,_,h4⟩|⟨h1,h2⟩
 ·have:t.fields=[]:=w1b h4
  rw[this,if_neg (by omega)] at hp;simp at hp
 ·have:t.fields=[]:=w1b h4
  rw[this,if_neg (by omega)] at hp;simp at hp
 ·have:t.fields=[]:=w1b h4
  rw[this,if_pos h1] at hp;simp at hp;subst hp;exact⟨h2,h3⟩
 ·rw[if_neg (by omega)] at hp
  simp only[w2e,w3a] at hp
  obtain⟨f,hf,rfl⟩:=hp
  exact h2.1 f hf
def partBy (t:DTyp):Nat:=if t.kind=6 then t.len.toNat else 1
def psum (t:DTyp) (out:List Nat) (k:Nat):Nat:=(((parts t).take k).map fun p=>partBy t*out.getD p.toNat 0).sum
theorem z3w {t:DTyp} {k:Nat} (h:k<(parts t).length) (out:List Nat):psum t out (k+1)=psum t out k+partBy t*out.getD (parts t)[k].toNat 0:=by
 unfold psum
 rw[w14 h,w33,List.sum_append];simp
theorem z5O {n i:Nat} {t:DTyp} (h:FineT n i t) (out:List Nat):psum t out (parts t).length=(if t.kind=6 then t.len.toNat*out.getD t.elem.toNat 0 else 0)+fsum t.fields out:=by
 unfold psum
 rw[w09]
 unfold parts partBy fsum
 by_cases h6:t.kind=6
 ·have hf:t.fields=[]:=by
   rcases h with⟨h1,_,_,h4⟩|⟨h1,_,_,_,h4⟩|⟨h1,h2,h3,_,_,h4⟩|⟨h1,h2⟩<;>first|omega|exact w1b h4
  simp[h6,hf]
 ·simp[h6,List.map_map,Function.comp_def]
theorem to {n i:Nat} {t:DTyp} (h:FineT n i t):t.fields.length≤8∧(t.kind=6→1≤t.len∧t.len≤16)∧((t.kind=4∨t.kind=7)→0≤t.elem∧t.elem<n∧t.fields=[])∧(t.kind=6→0≤t.elem∧t.elem<i∧t.fields=[])∧(t.kind≠5→t.fields=[])∧(∀f∈t.fields,0≤f.typ∧f.typ<i):=by
 rcases h with⟨h1,h2,h3,h4⟩|⟨h1,h2,h3,h5,h4⟩|⟨h1,h2,h3,h5,h6,h4⟩|⟨h1,h2⟩
 ·have hf:t.fields=[]:=w1b h4
  rw[hf];refine⟨by simp,by omega,by omega,by omega,by simp,by simp⟩
 ·have hf:t.fields=[]:=w1b h4
  rw[hf];refine⟨by simp,by omega,fun _=>⟨h2,h3,rfl⟩,by omega,by simp,by simp⟩
 ·have hf:t.fields=[]:=w1b h4
  rw[hf];refine⟨by simp,fun _=>⟨h5,h6⟩,by omega,fun _=>⟨h2,h3,rfl⟩,by simp,by simp⟩
 ·exact⟨by have:=h2.2.2.2.2.1;omega,by omega,by omega,by omega,fun h=>absurd h1 h,h2.1⟩
theorem z3y {n i:Nat} {t:DTyp} (h:FineT n i t):partBy t≤16:=by
 have:=(to h).2.1
 unfold partBy;split
 ·rename_i h6;have:=this h6;omega
 ·omega
theorem min5001 (a:Nat):(if(5001:Int)<(a:Int) then(5001:Int) else(a:Int))=((min 5001 a:Nat):Int):=by split<;>omega
theorem toNat_lt {p:Int} {i:Nat} (h:0≤p∧p<i):p.toNat<i:=by omega
theorem qW {a b:Nat} (ha:a≤16) (hb:b≤5001):a*b≤80016:=w4a (Nat.mul_le_mul ha hb) (by decide)
theorem qP (l:List DTyp) (x:AV) (hx:IsSl IsTyp 4 l x) (hv:ValidT l) (hl:l.length≤100): ∀(d:Nat),d≤3→ ∀m,Okl IsN 1 tab xm [x,.int .i64 (d:Nat)] m (rounds l (d+1))
 |0,_=>fun m=>by
  refine qy qU ?_
  obtain⟨stk,cur,nx,live,fl⟩:=m
  rw[show rounds l (0+1)=rnd (rounds l 0) l from rfl]
  simp only[xe,List.map,go_sem,reduceCtorEq,G3,G0,G2,(by decide: ¬((0:Nat):Int)>0)]
  refine zb (α:=Nat) (fun i σ=>i≤l.length∧ ∃nz y e,Own IsN 1 y (rnd (rounds l 0) (l.take i)) e∧heads [0,1,5,6,7] 0 σ=⟨tmps 106 [(0,x),(1,.int .i64 (0:Nat)),(5,.nils),(6,y),(7,.int .i64 i)],⟨stk++[cur],[],nz,e::live,fl⟩⟩) (fun i=>l.length-i) 0 ?_ ?_
  ·refine⟨w0c _,nx,.nils,[],by simpa [rnd] using Own.nil _,?_⟩
   simp only[go_sem,reduceCtorEq,G0,G1]
   rfl
  ·rintro i σ ⟨hi,nz,y,e,ho,hσ⟩
   rw[hσ]
   clear hσ σ
   dsimp only at hi⊢
   by_cases h:i<l.length
   ·have hfine:=hv i h
    obtain⟨v,e1,q1⟩:=hx.nth h
    have hty:IsTyp l[i] (nth x i):=hx.nth h
    have hat:=hx.at .i64 h
    have hol:=TN (rounds l 0) l i hi
    have hsucc:=VL (rounds l 0) l h
    have hle:=z1r (rounds l 0) l i hi
    have hflen:=to hfine
    have hpok:=z5S hfine
    generalize hout:rnd (rounds l 0) (l.take i)=out at*
    have hty':=je l[i] (nth x i) hty (by omega)
    have hag:=hty.agg.1
    simp only[go_sem,reduceCtorEq,G0,G1,G2,w03,h,hx.len,hat,hag]
    refine(hty' _).xv fun yp ts np hp=> ?_
    simp only[go_sem,reduceCtorEq,G0,G2]
    refine zb (α:=Nat) (fun k σ=>k≤(parts l[i]).length∧ ∃nz,heads [0,1,5,6,7,8,9,10] 0 σ=⟨tmps 106 [(0,x),(1,.int .i64 (0:Nat)),(5,.nils),(6,y),(7,.int .i64 i),(8,.int .i64 (min 5001 (1+psum l[i] out k):Nat)),(9,yp),(10,.int .i64 k)],⟨stk++[cur],[],nz,(ts++e)::live,fl⟩⟩) (fun k=>(parts l[i]).length-k) 0 ?_ ?_
    ·refine⟨w0c _,?_⟩
     simp only[go_sem,reduceCtorEq,G0,G1,psum]
     exact⟨_,rfl⟩
    ·rintro k σ ⟨hk,nz,hσ⟩
     rw[hσ]
     clear hσ σ
     dsimp only at hk⊢
     have hplen:(parts l[i]).length≤9:=by unfold parts;rw[w04,w44];split<;>simp<;>omega
     by_cases hkl:k<(parts l[i]).length
     ·have hpk:=hpok _ (w08 hkl)
      have e2:nth yp k= .int .i64 (parts l[i])[k]:=hp.nth hkl
      have e2':nth yp k= .int .i64 ((parts l[i])[k].toNat:Nat):=by rw[e2];congr 1;omega
      have hoi:(parts l[i])[k].toNat<out.length:=by omega
      have e3:nth y (parts l[i])[k].toNat= .int .i64 (out[(parts l[i])[k].toNat]:Nat):=ho.nth hoi
      have hb:=z3y hfine
      have hc:=ko hle (parts l[i])[k].toNat
      have hmul:=qW hb hc
      rw[qX hoi] at hc hmul
      have hps:=z3w hkl out
      rw[qX hoi] at hps
      have ew:IntKind.i64.wrap ((min 5001 (1+psum l[i] out k):Nat)+IntKind.i64.wrap ((partBy l[i]:Nat)*(out[(parts l[i])[k].toNat]:Nat)))=((min 5001 (1+psum l[i] out k)+partBy l[i]*out[(parts l[i])[k].toNat]:Nat):Int):=by
       have:IntKind.i64.wrap ((partBy l[i]:Nat)*(out[(parts l[i])[k].toNat]:Nat))=((partBy l[i]*out[(parts l[i])[k].toNat]:Nat):Int):=by
        rw[←Int.natCast_mul,zc (by omega) (by omega)]
       rw[this,zc (by omega) (by omega)];omega
      have hmin:min 5001 (min 5001 (1+psum l[i] out k)+partBy l[i]*out[(parts l[i])[k].toNat])=min 5001 (1+psum l[i] out (k+1)):=by rw[hps];omega
      have hsk:IntKind.i64.wrap ((k:Int)+1)=((k+1:Nat):Int):=by rw[zc (by omega) (by omega)];omega
      by_cases h6:l[i].kind=6
      ·have h6':(l[i].kind==6)=true:=by simpa using h6
       have hl6:l[i].len=((partBy l[i]:Nat):Int):=by have:=hflen.2.1 h6;unfold partBy;rw[if_pos h6];omega
       simp only[go_sem,reduceCtorEq,G0,G1,G2,w03,hkl,hp.len,hat,e1,h6',hp.at _ hkl,e2',ho.at _ hoi,e3,hl6,ew,min5001,hmin,hsk]
       exact⟨k+1,by omega,hkl,_,rfl⟩
      ·have h6':(l[i].kind==6)=false:=by simpa using h6
       have hl6:(1:Int)=((partBy l[i]:Nat):Int):=by unfold partBy;rw[if_neg h6];first|done|rfl
       have ew2:=ew
       rw[←hl6] at ew2
       simp only[go_sem,reduceCtorEq,G0,G1,G2,w03,hkl,hp.len,hat,e1,h6',hp.at _ hkl,e2',ho.at _ hoi,e3,ew2,min5001,hmin,hsk]
       exact⟨k+1,by omega,hkl,_,rfl⟩
     ·have:k=(parts l[i]).length:=by omega
      subst this
      have hps:=z5O hfine out
      generalize psum l[i] out (parts l[i]).length=ps at*
      have hfs:=z52 (fs:=l[i].fields) hle
      have hps5:ps≤200000:=by
       rw[hps]
       have:=Nat.mul_le_mul (w0b 5001) hflen.1
       split
       ·rename_i h6
        have h16:=hflen.2.1 h6
        have:=qW (a:=l[i].len.toNat) (by omega) (ko hle l[i].elem.toNat)
        omega
       ·omega
      have hsuc:=zd h hx.max
      simp only[go_sem,reduceCtorEq,G0,G1,G2,w03,hkl,hp.len]
      have hw:min 5001 (1+ps)=w1 l[i] (rounds l 0) out:=by
       unfold w1 contrib
       have hz: ∀j,(rounds l 0).getD j 0=0:=fun j=>by
        simp only[rounds,w00,w3d];split<;>rfl
       rw[hps,hz]
       by_cases h4:l[i].kind=4
       ·simp[h4]
       ·by_cases h7:l[i].kind=7
        ·simp[h7]
        ·simp only[h4,h7,if_false];omega
      rw[hw] at*
      simp only[go_sem,reduceCtorEq,G0,G2,(by decide: ¬((0:Nat):Int)>0)]
      refine(ho.push ts).xv (zh · _ _ _) (zJ (R:=IsN) (x:=w1 l[i] (rounds l 0) out) rfl) (by simp;omega) fun y' n' e' ho'=> ?_
      simp only[go_sem,reduceCtorEq,G0,G2,hsuc]
      rw[←hsucc] at ho'
      exact⟨i+1,by omega,h,_,_,_,ho',rfl⟩
   ·have:i=l.length:=by omega
    subst this
    rw[w09] at ho
    simp only[go_sem,reduceCtorEq,G0,G1,G2,w03,h,hx.len]
    exact vz ho
 |d+1,hd=>fun m=>by
  have ih:=qP l x hx hv hl d (by omega)
  refine qy qU ?_
  obtain⟨stk,cur,nx,live,fl⟩:=m
  rw[show rounds l (d+1+1)=rnd (rounds l (d+1)) l from rfl]
  have hd0:(((d+1:Nat):Int)>0)=True:=by first|(simp;done)|(simp;omega)
  have hsub:IntKind.i64.wrap (((d+1:Nat):Int)-1)=((d:Nat):Int):=by rw[zc (by omega) (by omega)];omega
  simp only[xe,List.map,go_sem,reduceCtorEq,G3,G0,G2,hd0,hsub]
  refine(ih _).xv fun B tb nb hB=> ?_
  simp only[go_sem,reduceCtorEq,G0,G2]
  refine zb (α:=Nat) (fun i σ=>i≤l.length∧ ∃nz y e,Own IsN 1 y (rnd (rounds l (d+1)) (l.take i)) e∧heads [0,1,5,6,7] 0 σ=⟨tmps 106 [(0,x),(1,.int .i64 ((d+1):Nat)),(5,B),(6,y),(7,.int .i64 i)],⟨stk++[cur],[],nz,e::live,fl⟩⟩) (fun i=>l.length-i) 0 ?_ ?_
  ·refine⟨w0c _,nb,.nils,tb,by simpa [rnd] using Own.nil _,?_⟩
   simp only[go_sem,reduceCtorEq,G0,G1]
   rfl
  ·rintro i σ ⟨hi,nz,y,e,ho,hσ⟩
   rw[hσ]
   clear hσ σ
   dsimp only at hi⊢
   by_cases h:i<l.length
   ·have hfine:=hv i h
    obtain⟨v,e1,q1⟩:=hx.nth h
    have hty:IsTyp l[i] (nth x i):=hx.nth h
    have hat:=hx.at .i64 h
    have hol:=TN (rounds l (d+1)) l i hi
    have hsucc:=VL (rounds l (d+1)) l h
    have hle:=z1r (rounds l (d+1)) l i hi
    have hflen:=to hfine
    have hpok:=z5S hfine
    generalize hout:rnd (rounds l (d+1)) (l.take i)=out at*
    have hty':=je l[i] (nth x i) hty (by omega)
    have hag:=hty.agg.1
    simp only[go_sem,reduceCtorEq,G0,G1,G2,w03,h,hx.len,hat,hag]
    refine(hty' _).xv fun yp ts np hp=> ?_
    simp only[go_sem,reduceCtorEq,G0,G2]
    refine zb (α:=Nat) (fun k σ=>k≤(parts l[i]).length∧ ∃nz,heads [0,1,5,6,7,8,9,10] 0 σ=⟨tmps 106 [(0,x),(1,.int .i64 ((d+1):Nat)),(5,B),(6,y),(7,.int .i64 i),(8,.int .i64 (min 5001 (1+psum l[i] out k):Nat)),(9,yp),(10,.int .i64 k)],⟨stk++[cur],[],nz,(ts++e)::live,fl⟩⟩) (fun k=>(parts l[i]).length-k) 0 ?_ ?_
    ·refine⟨w0c _,?_⟩
     simp only[go_sem,reduceCtorEq,G0,G1,psum]
     exact⟨_,rfl⟩
    ·rintro k σ ⟨hk,nz,hσ⟩
     rw[hσ]
     clear hσ σ
     dsimp only at hk⊢
     have hplen:(parts l[i]).length≤9:=by unfold parts;rw[w04,w44];split<;>simp<;>omega
     by_cases hkl:k<(parts l[i]).length
     ·have hpk:=hpok _ (w08 hkl)
      have e2:nth yp k= .int .i64 (parts l[i])[k]:=hp.nth hkl
      have e2':nth yp k= .int .i64 ((parts l[i])[k].toNat:Nat):=by rw[e2];congr 1;omega
      have hoi:(parts l[i])[k].toNat<out.length:=by omega
      have e3:nth y (parts l[i])[k].toNat= .int .i64 (out[(parts l[i])[k].toNat]:Nat):=ho.nth hoi
      have hb:=z3y hfine
      have hc:=ko hle (parts l[i])[k].toNat
      have hmul:=qW hb hc
      rw[qX hoi] at hc hmul
      have hps:=z3w hkl out
      rw[qX hoi] at hps
      have ew:IntKind.i64.wrap ((min 5001 (1+psum l[i] out k):Nat)+IntKind.i64.wrap ((partBy l[i]:Nat)*(out[(parts l[i])[k].toNat]:Nat)))=((min 5001 (1+psum l[i] out k)+partBy l[i]*out[(parts l[i])[k].toNat]:Nat):Int):=by
       have:IntKind.i64.wrap ((partBy l[i]:Nat)*(out[(parts l[i])[k].toNat]:Nat))=((partBy l[i]*out[(parts l[i])[k].toNat]:Nat):Int):=by
        rw[←Int.natCast_mul,zc (by omega) (by omega)]
       rw[this,zc (by omega) (by omega)];omega
      have hmin:min 5001 (min 5001 (1+psum l[i] out k)+partBy l[i]*out[(parts l[i])[k].toNat])=min 5001 (1+psum l[i] out (k+1)):=by rw[hps];omega
      have hsk:IntKind.i64.wrap ((k:Int)+1)=((k+1:Nat):Int):=by rw[zc (by omega) (by omega)];omega
      by_cases h6:l[i].kind=6
      ·have h6':(l[i].kind==6)=true:=by simpa using h6
       have hl6:l[i].len=((partBy l[i]:Nat):Int):=by have:=hflen.2.1 h6;unfold partBy;rw[if_pos h6];omega
       simp only[go_sem,reduceCtorEq,G0,G1,G2,w03,hkl,hp.len,hat,e1,h6',hp.at _ hkl,e2',ho.at _ hoi,e3,hl6,ew,min5001,hmin,hsk]
       exact⟨k+1,by omega,hkl,_,rfl⟩
      ·have h6':(l[i].kind==6)=false:=by simpa using h6
       have hl6:(1:Int)=((partBy l[i]:Nat):Int):=by unfold partBy;rw[if_neg h6];first|done|rfl
       have ew2:=ew
       rw[←hl6] at ew2
       simp only[go_sem,reduceCtorEq,G0,G1,G2,w03,hkl,hp.len,hat,e1,h6',hp.at _ hkl,e2',ho.at _ hoi,e3,ew2,min5001,hmin,hsk]
       exact⟨k+1,by omega,hkl,_,rfl⟩
     ·have:k=(parts l[i]).length:=by omega
      subst this
      have hps:=z5O hfine out
      generalize psum l[i] out (parts l[i]).length=ps at*
      have hfs:=z52 (fs:=l[i].fields) hle
      have hps5:ps≤200000:=by
       rw[hps]
       have:=Nat.mul_le_mul (w0b 5001) hflen.1
       split
       ·rename_i h6
        have h16:=hflen.2.1 h6
        have:=qW (a:=l[i].len.toNat) (by omega) (ko hle l[i].elem.toNat)
        omega
       ·omega
      have hsuc:=zd h hx.max
      simp only[go_sem,reduceCtorEq,G0,G1,G2,w03,hkl,hp.len]
      have hd0:(((d+1:Nat):Int)>0)=True:=by first|(simp;done)|(simp;omega)
      have hbel:=z3t l (d+1)
      have hblen:=kS l (d+1)
      generalize rounds l (d+1)=bel at*
      have hbs:IsSl IsN 1 bel B:=hB.sl (by omega)
      have hcb:=ko hbel l[i].elem.toNat
      by_cases h4:l[i].kind=4
      ·have h4':(l[i].kind==4)=true:=by simpa using h4
       have h7':(l[i].kind==7)=false:=by rw[h4];rfl
       have hel:=hflen.2.2.1 (.inl h4)
       have hbi:l[i].elem.toNat<bel.length:=by omega
       have e4:nth B l[i].elem.toNat= .int .i64 (bel[l[i].elem.toNat]:Nat):=hbs.nth hbi
       have hat4:=hbs.at .i64 hbi
       rw[w41 hel.1] at hat4
       rw[qX hbi] at hcb
       have ew:IntKind.i64.wrap ((min 5001 (1+ps):Nat)+(bel[l[i].elem.toNat]:Nat))=((min 5001 (1+ps)+bel[l[i].elem.toNat]:Nat):Int):=by
        rw[zc (by omega) (by omega)];omega
       have hw:min 5001 (min 5001 (1+ps)+bel[l[i].elem.toNat])=w1 l[i] bel out:=by
        unfold w1 contrib
        rw[if_pos h4,qX hbi,hps,if_neg (by omega)];omega
       simp only[go_sem,reduceCtorEq,G0,G2,hd0,hat,e1,h4',h7',hat4,e4,ew,min5001]
       refine(ho.push ts).xv (zh · _ _ _) (zJ (R:=IsN) (x:=min 5001 (min 5001 (1+ps)+bel[l[i].elem.toNat])) rfl) (by simp;omega) fun y' n' e' ho'=> ?_
       simp only[go_sem,reduceCtorEq,G0,G2,hsuc]
       rw[hw,←hsucc] at ho'
       exact⟨i+1,by omega,h,_,_,_,ho',rfl⟩
      ·have h4':(l[i].kind==4)=false:=by simpa using h4
       by_cases h7:l[i].kind=7
       ·have h7':(l[i].kind==7)=true:=by simpa using h7
        have hel:=hflen.2.2.1 (.inr h7)
        have hbi:l[i].elem.toNat<bel.length:=by omega
        have e4:nth B l[i].elem.toNat= .int .i64 (bel[l[i].elem.toNat]:Nat):=hbs.nth hbi
        have hat4:=hbs.at .i64 hbi
        rw[w41 hel.1] at hat4
        rw[qX hbi] at hcb
        have ew:IntKind.i64.wrap ((min 5001 (1+ps):Nat)+IntKind.i64.wrap (16*(bel[l[i].elem.toNat]:Nat)))=((min 5001 (1+ps)+16*bel[l[i].elem.toNat]:Nat):Int):=by
         rw[zc (n:=16*(bel[l[i].elem.toNat]:Nat)) (by omega) (by omega),zc (by omega) (by omega)];omega
        have hw:min 5001 (min 5001 (1+ps)+16*bel[l[i].elem.toNat])=w1 l[i] bel out:=by
         unfold w1 contrib
         rw[if_neg h4,if_pos h7,qX hbi,hps,if_neg (by omega)];omega
        simp only[go_sem,reduceCtorEq,G0,G2,hd0,hat,e1,h4',h7',hat4,e4,ew,min5001]
        refine(ho.push ts).xv (zh · _ _ _) (zJ (R:=IsN) (x:=min 5001 (min 5001 (1+ps)+16*bel[l[i].elem.toNat])) rfl) (by simp;omega) fun y' n' e' ho'=> ?_
        simp only[go_sem,reduceCtorEq,G0,G2,hsuc]
        rw[hw,←hsucc] at ho'
        exact⟨i+1,by omega,h,_,_,_,ho',rfl⟩
       ·have h7':(l[i].kind==7)=false:=by simpa using h7
        have hw:min 5001 (1+ps)=w1 l[i] bel out:=by
         unfold w1 contrib
         rw[if_neg h4,if_neg h7,hps];omega
        simp only[go_sem,reduceCtorEq,G0,G2,hd0,hat,e1,h4',h7']
        refine(ho.push ts).xv (zh · _ _ _) (zJ (R:=IsN) (x:=min 5001 (1+ps)) rfl) (by simp;omega) fun y' n' e' ho'=> ?_
        simp only[go_sem,reduceCtorEq,G0,G2,hsuc]
        rw[hw,←hsucc] at ho'
        exact⟨i+1,by omega,h,_,_,_,ho',rfl⟩
   ·have:i=l.length:=by omega
    subst this
    rw[w09] at ho
    simp only[go_sem,reduceCtorEq,G0,G1,G2,w03,h,hx.len]
    exact vz ho
theorem TL {A:List Nat} {n i v:Nat} (h:A.length=i) (hi:i<n):(A++List.replicate (n-i) 0).set i v=A++[v]++List.replicate (n-(i+1)) 0:=by
 rw[List.set_append,if_neg (by omega)]
 rw[show n-i=(n-(i+1))+1 by omega,w54,show i-A.length=0 by omega]
 simp
theorem z6z {A B:List Nat} {j:Nat} (h:j<A.length):(A++B).getD j 0=A.getD j 0:=by
 simp[w00,w07 h]
theorem z0Z (l:List DTyp) (x:AV) (hx:IsSl IsTyp 4 l x) (hv:ValidT l) (hl:l.length≤100) (stk:List (List Blk)) (cur:List Blk) (nx fl:Nat) (live:List (List Nat)):
  ∃bs j st k,CALL tab j8 [x] ⟨stk,cur,nx,live,fl⟩=some (.arr stk.length (cur.length+j) st 0 l.length,⟨stk,cur++bs,k,live,fl⟩)∧bs[j]? =some ⟨st,ints (rounds l 4)⟩:=by
 suffices h:Does tab j8 [x] ⟨stk,cur,nx,live,fl⟩ fun v m'=> ∃bs j st k,v= .arr stk.length (cur.length+j) st 0 l.length∧m'=⟨stk,cur++bs,k,live,fl⟩∧bs[j]? =some ⟨st,ints (rounds l 4)⟩ by
  obtain⟨z,h1,bs,j,st,k,h2,h3,h4⟩:=h
  exact⟨bs,j,st,k,by rw[h1,←h2,←h3],h4⟩
 refine zW z1f ?_ (Nat.le_of_ble_eq_true rfl)
 have hmk: ∀m:Mem,evMake m 1 8 [.int .i64 0] (.int .i64 l.length) (.int .i64 l.length)=some (.arr m.stk.length m.cur.length m.nx 0 l.length,{m with cur:=m.cur++[⟨m.nx,ints (List.replicate l.length 0)⟩],nx:=m.nx+1}):=fun m=>by
  unfold evMake
  simp only
  rw[if_pos ⟨trivial,by omega,by omega,by omega,rfl⟩,w2d,z6x]
 simp only[Z8,List.map,go_sem,G0,G2,hx.len,hmk]
 refine zb (α:=Nat) (fun r σ=>r≤4∧ ∃L k st nz,k<L.length∧L[k]? =some ⟨st,ints (rounds l r)⟩∧heads [0,3,13,999999] 1 σ=⟨tmps 82 [(0,x),(3,.arr (stk++[cur]).length k st 0 l.length),(13,.int .i64 r),(999999,.undef)],⟨stk++[cur],L,nz,[]::live,fl⟩⟩) (fun r=>4-r) 0 ?_ ?_
 ·refine⟨by omega,[⟨nx,ints (List.replicate l.length 0)⟩],0,nx,nx+1,by simp,rfl,?_⟩
  simp only[go_sem,G0,G1]
  rfl
 ·rintro r σ ⟨hr,L,kb,st,nz,hkb,hLk,hσ⟩
  rw[hσ]
  clear hσ σ
  dsimp only at hr⊢
  by_cases h4:r<4
  ·have h4':(r:Int)<4:=by omega
   have hr1:IntKind.i64.wrap ((r:Int)+1)=((r+1:Nat):Int):=by rw[zc (by omega) (by omega)];omega
   simp only[go_sem,G0,G1,G2,yX,h4',hx.len,hmk]
   have hbel:=z3t l r
   have hblen:=kS l r
   have hrr:rounds l (r+1)=rnd (rounds l r) l:=rfl
   generalize rounds l r=bel at*
   refine zb (α:=Nat) (fun i σ=>i≤l.length∧ ∃nz',heads [0,3,4,13,18,19,20] (L.length+1) σ=⟨tmps 82 [(0,x),(3,.arr (stk++[cur]).length kb st 0 l.length),(4,.arr (stk++[cur]).length L.length nz 0 l.length),(13,.int .i64 r),(18,x),(19,.int .i64 l.length),(20,.int .i64 i)],⟨stk++[cur],L++[⟨nz,ints (rnd bel (l.take i)++List.replicate (l.length-i) 0)⟩],nz',[]::live,fl⟩⟩) (fun i=>l.length-i) 0 ?_ ?_
   ·refine⟨w0c _,?_⟩
    simp only[go_sem,G0,G1,xX,rnd,Nat.sub_zero]
    exact⟨_,rfl⟩
   ·rintro i σ ⟨hi,nz',hσ⟩
    rw[hσ]
    clear hσ σ
    dsimp only at hi⊢
    by_cases h:i<l.length
    ·have hfine:=hv i h
     obtain⟨v,e1,q1⟩:=hx.nth h
     have hat:=hx.at .i64 h
     have hAl:=TN bel l i hi
     have hrs:=VL bel l h
     have hle:=z1r bel l i hi
     have hflen:=to hfine
     generalize hout:rnd bel (l.take i)=A at*
     have hmax:=hx.max
     generalize ht:l[i]=t at*
     clear ht
     generalize hn:l.length=n at*
     obtain⟨kind,elem,len,fields⟩:=t
     dsimp only at e1 q1 hflen
     have hgA: ∀j,j<i→takeV false 1 ((ints (A++List.replicate (n-i) 0)).drop j)=some (.int .i64 ((A.getD j 0:Nat):Int)):=fun j hj=>by
      rw[Q5 (by simp;omega),z6z (by omega)]
     have hgB: ∀j,j<n→takeV false 1 ((ints bel).drop j)=some (.int .i64 ((bel.getD j 0:Nat):Int)):=fun j hj=>Q5 (by omega)
     have hcB:=ko hbel elem.toNat
     have hcA:=ko hle elem.toNat
     simp only[go_sem,G3,G0,G1,G2,yX,XH,z97,w03,h,hat,e1,q1.one]
     by_cases k4:kind=4
     ·subst k4
      have hel:=hflen.2.2.1 (.inl rfl)
      have hf:=hel.2.2
      have hix:=qc .i64 (p:=elem) (n:=n) ⟨hel.1,hel.2.1⟩
      have ew:IntKind.i64.wrap (1+((bel.getD elem.toNat 0:Nat):Int))=((1+bel.getD elem.toNat 0:Nat):Int):=by rw[zc (by omega) (by omega)];omega
      have hV:min 5001 (1+bel.getD elem.toNat 0)=w1 ⟨4,elem,len,fields⟩ bel A:=by unfold w1 contrib fsum;simp[hf]
      simp only[go_sem,G0,G2,yX,XH,w15,za,hix,Uj _ _ _ hkb,hLk,hgB _ (show elem.toNat<n by omega),ew,q1.len]
      have hf0:((fields.length:Nat):Int)=0:=by rw[hf];rfl
      rw[yg]
      simp only[go_sem,G0,G1,G2,Zq,Qf,hf0,(by decide: ¬(0:Int)<0)]
      have hsucc:=zd h hmax
      have hix:=qc .i64 (p:=(i:Int)) (n:=n) (by omega)
      rw[w2d] at hix
      have hset:=U8 (ws:=A++List.replicate (n-i) 0) (j:=i) (min 5001 (1+bel.getD elem.toNat 0)) (by simp;omega)
      rw[TL hAl h,hV,←hrs] at hset
      have hcl:decide (i+1≤(A++List.replicate (n-i) 0).length)=true:=by simp;omega
      simp only[go_sem,G0,G2,UJ,z0Q,Zq,Yz,w15,za,hix,min5001,hcl,hset,hV,hsucc]
      exact⟨i+1,by omega,h,_,rfl⟩
     have k4':(kind==4)=false:=by simpa using k4
     by_cases k7:kind=7
     ·subst k7
      have hel:=hflen.2.2.1 (.inr rfl)
      have hf:=hel.2.2
      have hix:=qc .i64 (p:=elem) (n:=n) ⟨hel.1,hel.2.1⟩
      have ew:IntKind.i64.wrap (1+IntKind.i64.wrap (16*((bel.getD elem.toNat 0:Nat):Int)))=((1+16*bel.getD elem.toNat 0:Nat):Int):=by
       rw[zc (n:=16*_) (by omega) (by omega),zc (by omega) (by omega)];omega
      have hV:min 5001 (1+16*bel.getD elem.toNat 0)=w1 ⟨7,elem,len,fields⟩ bel A:=by unfold w1 contrib fsum;simp[hf]
      simp only[go_sem,G0,G2,yX,XH,w15,k4',za,hix,Uj _ _ _ hkb,hLk,hgB _ (show elem.toNat<n by omega),ew,q1.len]
      have hf0:((fields.length:Nat):Int)=0:=by rw[hf];rfl
      rw[yg]
      simp only[go_sem,G0,G1,G2,Zq,Qf,hf0,(by decide: ¬(0:Int)<0)]
      have hsucc:=zd h hmax
      have hix:=qc .i64 (p:=(i:Int)) (n:=n) (by omega)
      rw[w2d] at hix
      have hset:=U8 (ws:=A++List.replicate (n-i) 0) (j:=i) (min 5001 (1+16*bel.getD elem.toNat 0)) (by simp;omega)
      rw[TL hAl h,hV,←hrs] at hset
      have hcl:decide (i+1≤(A++List.replicate (n-i) 0).length)=true:=by simp;omega
      simp only[go_sem,G0,G2,UJ,z0Q,Zq,Yz,w15,za,hix,min5001,hcl,hset,hV,hsucc]
      exact⟨i+1,by omega,h,_,rfl⟩
     have k7':(kind==7)=false:=by simpa using k7
     by_cases k6:kind=6
     ·subst k6
      have hel:=hflen.2.2.2.1 rfl
      have hf:=hel.2.2
      have hlen:=hflen.2.1 rfl
      have hmul:=qW (a:=len.toNat) (by omega) hcA
      have hix:=qc .i64 (p:=elem) (n:=n) ⟨hel.1,by omega⟩
      have ew:IntKind.i64.wrap (1+IntKind.i64.wrap (len*((A.getD elem.toNat 0:Nat):Int)))=((1+len.toNat*A.getD elem.toNat 0:Nat):Int):=by
       have:len*((A.getD elem.toNat 0:Nat):Int)=((len.toNat*A.getD elem.toNat 0:Nat):Int):=by
        rw[Int.natCast_mul,w41 (by omega)]
       rw[this,zc (n:=((len.toNat*A.getD elem.toNat 0:Nat):Int)) (by omega) (by omega),zc (by omega) (by omega)];omega
      have hV:min 5001 (1+len.toNat*A.getD elem.toNat 0)=w1 ⟨6,elem,len,fields⟩ bel A:=by unfold w1 contrib fsum;simp[hf]
      simp only[go_sem,G0,G2,yX,UJ,XH,w15,k4',k7',za,hix,hgA _ (show elem.toNat<i by omega),ew,q1.len]
      have hf0:((fields.length:Nat):Int)=0:=by rw[hf];rfl
      rw[yg]
      simp only[go_sem,G0,G1,G2,Zq,Qf,hf0,(by decide: ¬(0:Int)<0)]
      have hsucc:=zd h hmax
      have hix:=qc .i64 (p:=(i:Int)) (n:=n) (by omega)
      rw[w2d] at hix
      have hset:=U8 (ws:=A++List.replicate (n-i) 0) (j:=i) (min 5001 (1+len.toNat*A.getD elem.toNat 0)) (by simp;omega)
      rw[TL hAl h,hV,←hrs] at hset
      have hcl:decide (i+1≤(A++List.replicate (n-i) 0).length)=true:=by simp;omega
      simp only[go_sem,G0,G2,UJ,z0Q,Zq,Yz,w15,za,hix,min5001,hcl,hset,hV,hsucc]
      exact⟨i+1,by omega,h,_,rfl⟩
     have k6':(kind==6)=false:=by simpa using k6
     simp only[go_sem,G0,G2,yX,XH,k4',k7',k6',q1.len]
     refine zb (α:=Nat) (fun k σ=>k≤fields.length∧ ∃nz'',heads [0,3,4,5,7,13,18,19,20,59,60,61] (L.length+2) σ=⟨tmps 82 [(0,x),(3,.arr (stk++[cur]).length kb st 0 n),(4,.arr (stk++[cur]).length L.length nz 0 n),(5,.int .i64 i),(7,.int .i64 ((1+fsum (fields.take k) A:Nat):Int)),(13,.int .i64 r),(18,x),(19,.int .i64 n),(20,.int .i64 i),(59,v),(60,.int .i64 fields.length),(61,.int .i64 k)],
      ⟨stk++[cur],L++[⟨nz,ints (A++List.replicate (n-i) 0)⟩]++[⟨nz',[.int .u8 kind,.int .i64 elem,.int .i64 len,v]⟩],nz'',[]::live,fl⟩⟩) (fun k=>fields.length-k) 0 ?_ ?_
     ·refine⟨w0c _,?_⟩
      simp only[go_sem,G0,G1,Qf,fsum]
      exact⟨_,rfl⟩
     ·rintro k σ ⟨hk,nz'',hσ⟩
      rw[hσ]
      clear hσ σ
      dsimp only at hk⊢
      have hfs:=z52 (fs:=fields.take k) hle
      have hfl:(fields.take k).length≤8:=by rw[w1f];omega
      have hfs8:fsum (fields.take k) A≤40008:=w4a hfs (by omega)
      by_cases hkl:k<fields.length
      ·have e2:nth v k= .agg [.str fields[k].name,.int .i64 fields[k].typ]:=q1.nth hkl
       have hat2:=q1.at .i64 hkl
       have htk:=hflen.2.2.2.2.2 _ (w08 hkl)
       have hix:=qc .i64 (p:=fields[k].typ) (n:=n) ⟨htk.1,by omega⟩
       have hcA:=ko hle fields[k].typ.toNat
       have hsu:=za5 hkl A
       have ew:IntKind.i64.wrap (((1+fsum (fields.take k) A:Nat):Int)+((A.getD fields[k].typ.toNat 0:Nat):Int))=((1+fsum (fields.take (k+1)) A:Nat):Int):=by rw[zc (by omega) (by omega)];omega
       simp only[go_sem,G3,G0,G1,G2,yX,zdF,zdE,zdD,zdC,w15,w03,hkl,hat2,e2,za,hix,hgA _ (show fields[k].typ.toNat<i by omega),ew,zd hkl q1.max]
       exact⟨k+1,by omega,hkl,_,rfl⟩
      ·have:k=fields.length:=by omega
       subst this
       rw[w09] at hfs8⊢
       have hV:min 5001 (1+fsum fields A)=w1 ⟨kind,elem,len,fields⟩ bel A:=by unfold w1 contrib;rw[if_neg k4,if_neg k7,if_neg k6]
       simp only[go_sem,G0,G1,G2,Zq,w03,hkl]
       have hsucc:=zd h hmax
       have hix:=qc .i64 (p:=(i:Int)) (n:=n) (by omega)
       rw[w2d] at hix
       have hset:=U8 (ws:=A++List.replicate (n-i) 0) (j:=i) (min 5001 (1+fsum fields A)) (by simp;omega)
       rw[TL hAl h,hV,←hrs] at hset
       have hcl:decide (i+1≤(A++List.replicate (n-i) 0).length)=true:=by simp;omega
       simp only[go_sem,G0,G2,UJ,z0Q,Zq,Yz,w15,za,hix,min5001,hcl,hset,hV,hsucc]
       exact⟨i+1,by omega,h,_,rfl⟩
    ·have:i=l.length:=by omega
     subst this
     rw[w09,Nat.sub_self,List.replicate_zero,w1a]
     simp only[go_sem,G0,G1,G2,w03,h,hr1]
     exact⟨r+1,by omega,h4,_,L.length,nz,_,by simp,by rw[hrr];simp,rfl⟩
  ·have:r=4:=by omega
   subst this
   simp only[go_sem,G5,G0,G1,G2,(by decide: ¬(((4:Nat):Int)<4))]
   obtain⟨bs,hbs,hg⟩:=z9O (m0:=⟨stk,cur,nx,live,fl⟩) (stk:=stk) (cur:=cur) (c':=L) (nx':=nz) (own:=[]) (live':=live) (fl':=fl) (k:=kb) (st:=st) (off:=0) (len:=l.length)
   rw[hbs,z8]
   exact⟨bs,kb,st,nz,by rw[Nat.add_comm],rfl,hg _ hLk⟩
def CheckP (l:List DTyp):Prop:=l.length≤32∧ValidT l∧ ∀w∈rounds l 4,w≤5000
noncomputable def err04 (l:List DTyp):Int:=if pb (CheckP l) then 0 else 8
theorem Zn {l:List DTyp} (h: ¬CheckP l):err04 l=8:=by unfold err04;rw[zg h];rfl
theorem QU {l:List DTyp} (h:CheckP l):err04 l=0:=by unfold err04;rw[zD h];rfl
def WfTypes (l:List DTyp):Prop:= ∀t∈l,WfTyp t
theorem WfTypes.names {l:List DTyp} (h:WfTypes l) {i:Nat} (hi:i<l.length):NamesOk l[i].fields:=fun f hf=>((h _ (w08 hi)).fields f hf).name
theorem Zu (l:List DTyp) (x:AV) (hx:IsSl IsTyp 4 l x) (hw:WfTypes l) (m:Mem):Okv tab um [x] m (.int .i64 (err04 l)):=by
 refine zf z2N ?_
 obtain⟨stk,cur,nx,live,fl⟩:=m
 simp only[Y0,List.map,go_sem,G0,G2,hx.len]
 by_cases hl:(l.length:Int)>32
 ·simp only[go_sem,G0,G2,hl]
  rw[z6 rfl rfl,z8]
  exact⟨⟨_,rfl⟩,by rw[Zn fun h'=>by have:=h'.1;omega]⟩
 simp only[go_sem,G0,G2,hl,hx.len]
 refine zb (α:=Nat) (fun i σ=>(i≤l.length∧ ∀j (h:j<l.length),j<i→FineT l.length j l[j])∧ ∃nz,heads [0,10,11] 0 σ=⟨tmps 29 [(0,x),(10,.int .i64 l.length),(11,.int .i64 i)],⟨stk++[cur],[],nz,[]::live,fl⟩⟩) (fun i=>l.length-i) 0 ?_ ?_
 ·refine⟨⟨w0c _,fun j _ h=>absurd h (w38 _)⟩,?_⟩
  simp only[go_sem,G0,G1]
  exact⟨_,rfl⟩
 ·rintro i σ ⟨⟨hi,hv⟩,nz,hσ⟩
  rw[hσ]
  clear hσ σ
  dsimp only at hi hv⊢
  by_cases h:i<l.length
  ·have hF:=fun m=>z4e l x hx i h (hw _ (w08 h)) m
   by_cases hf:FineT l.length i l[i]
   ·rw[zD hf] at hF
    have hFe:=fun m=>(hF m).eq
    simp only[go_sem,G0,G1,G2,w03,h,hFe,zd h hx.max]
    refine⟨i+1,by omega,⟨h,fun j hj hji=> ?_⟩,_,rfl⟩
    rcases Nat.lt_succ_iff_lt_or_eq.1 hji with q|q
    ·exact hv j hj q
    ·subst q;exact hf
   ·rw[zg hf] at hF
    have hFe:=fun m=>(hF m).eq
    simp only[go_sem,G0,G1,G2,w03,h,hFe]
    rw[z6 rfl rfl,z8]
    exact⟨⟨_,rfl⟩,by rw[Zn fun h'=>hf (h'.2.1 i h)]⟩
  ·have:i=l.length:=by omega
   subst this
   have hval:ValidT l:=fun j hj=>hv j hj hj
   simp only[go_sem,G0,G1,G2,w03,h]
   obtain⟨bs,j,st,k,hcall,hbs⟩:=z0Z l x hx hval (by omega) (stk++[cur]) [] nz fl ([]::live)
   simp only[go_sem,G0,G2,hcall,evLen]
   have hwl:=kS l 4
   refine zb (α:=Nat) (fun i σ=>(i≤l.length∧ ∀w∈(rounds l 4).take i,w≤5000)∧ ∃nz,heads [20,21,22] bs.length σ=⟨tmps 29 [(20,.arr (stk++[cur]).length j st 0 l.length),(21,.int .i64 l.length),(22,.int .i64 i)],⟨stk++[cur],bs,nz,[]::live,fl⟩⟩) (fun i=>l.length-i) 0 ?_ ?_
   ·refine⟨⟨w0c _,by simp⟩,?_⟩
    simp only[go_sem,G0,G1,w09]
    exact⟨_,rfl⟩
   ·rintro i σ ⟨⟨hi,hws⟩,nz,hσ⟩
    rw[hσ]
    clear hσ σ
    dsimp only at hi hws⊢
    by_cases h:i<l.length
    ·have hix:=qc .i64 (p:=(i:Int)) (n:=l.length) (by omega)
     rw[w2d] at hix
     have hg:=Q5 (ws:=rounds l 4) (j:=i) (by omega)
     rw[qX (by omega)] at hg
     by_cases hw:(rounds l 4)[i]≤5000
     ·simp only[go_sem,G0,G1,G2,w03,h,za,hix,w15,hbs,hg,show¬(((rounds l 4)[i]:Nat):Int)>5000 by omega,zd h hx.max,w09]
      exact⟨i+1,by omega,⟨h,zn (P:=fun w=>w≤5000) (by omega) hws hw⟩,_,rfl⟩
     ·simp only[go_sem,G0,G1,G2,w03,h,za,hix,w15,hbs,hg,show(((rounds l 4)[i]:Nat):Int)>5000 by omega]
      rw[z6 rfl rfl,z8]
      exact⟨⟨_,rfl⟩,by rw[Zn fun h'=>hw (h'.2.2 _ (w08 (by omega)))]⟩
    ·have:i=l.length:=by omega
     subst this
     rw[←hwl,w09] at hws
     simp only[go_sem,G0,G1,G2,w03,h]
     rw[z6 rfl rfl,z8]
     exact⟨⟨_,rfl⟩,by rw[QU ⟨by omega,hval,hws⟩]⟩
theorem W0 (l:List DTyp) (x:AV) (hx:IsSl IsTyp 4 l x) (hw:WfTypes l) (m:Mem):Okv tab xQ [x] m (.int .i64 (err04 l)):=by
 refine zf Wk ?_
 obtain⟨stk,cur,nx,live,fl⟩:=m
 simp only[uJ,List.map,go_sem,G0,G2,hx.len]
 by_cases hl:(l.length:Int)>32
 ·simp only[go_sem,G0,G2,hl]
  rw[z6 rfl rfl,z8]
  exact⟨⟨_,rfl⟩,by rw[Zn fun h'=>by have:=h'.1;omega]⟩
 simp only[go_sem,hl]
 refine zb (α:=Nat) (fun i σ=>(i≤l.length∧ ∀j (h:j<l.length),j<i→FineT l.length j l[j])∧ ∃nz,heads [0,3] 0 σ=⟨tmps 32 [(0,x),(3,.int .i64 i)],⟨stk++[cur],[],nz,[]::live,fl⟩⟩) (fun i=>l.length-i) 0 ?_ ?_
 ·refine⟨⟨w0c _,fun j _ h=>absurd h (w38 _)⟩,?_⟩
  simp only[go_sem,G0,G1]
  exact⟨_,rfl⟩
 ·rintro i σ ⟨⟨hi,hv⟩,nz,hσ⟩
  rw[hσ]
  clear hσ σ
  dsimp only at hi hv⊢
  by_cases h:i<l.length
  ·have hF:=fun m=>Vc l x hx i h (hw.names h) m
   by_cases hf:FineT l.length i l[i]
   ·rw[zD hf] at hF
    have hFe:=fun m=>(hF m).eq
    simp only[go_sem,G0,G1,G2,w03,h,hx.len,hFe,zd h hx.max]
    refine⟨i+1,by omega,⟨h,fun j hj hji=> ?_⟩,_,rfl⟩
    rcases Nat.lt_succ_iff_lt_or_eq.1 hji with q|q
    ·exact hv j hj q
    ·subst q;exact hf
   ·rw[zg hf] at hF
    have hFe:=fun m=>(hF m).eq
    simp only[go_sem,G0,G1,G2,w03,h,hx.len,hFe]
    rw[z6 rfl rfl,z8]
    exact⟨⟨_,rfl⟩,by rw[Zn fun h'=>hf (h'.2.1 i h)]⟩
  ·have:i=l.length:=by omega
   subst this
   have hval:ValidT l:=fun j hj=>hv j hj hj
   simp only[go_sem,G0,G1,G2,w03,h,hx.len]
   refine(qP l x hx hval (by omega) 3 (by omega) _).xv fun y ts n ho=> ?_
   simp only[go_sem,G0,G2]
   have hwl:=kS l 4
   refine zb (α:=Nat) (fun i σ=>(i≤l.length∧ ∀w∈(rounds l 4).take i,w≤5000)∧ ∃nz,heads [0,4,5] 0 σ=⟨tmps 32 [(0,x),(4,y),(5,.int .i64 i)],⟨stk++[cur],[],nz,ts::live,fl⟩⟩) (fun i=>l.length-i) 0 ?_ ?_
   ·refine⟨⟨w0c _,by simp⟩,?_⟩
    simp only[go_sem,G0,G1]
    exact⟨_,rfl⟩
   ·rintro i σ ⟨⟨hi,hws⟩,nz,hσ⟩
    rw[hσ]
    clear hσ σ
    dsimp only at hi hws⊢
    by_cases h:i<l.length
    ·have hiw:i<(rounds l (3+1)).length:=by rw[kS];exact h
     have e1:nth y i= .int .i64 ((rounds l (3+1))[i]:Nat):=ho.nth hiw
     by_cases hw:(rounds l (3+1))[i]≤5000
     ·simp only[go_sem,G3,G0,G1,G2,w03,h,hx.len,ho.at _ hiw,e1,show¬(((rounds l (3+1))[i]:Nat):Int)>5000 by omega,zd h hx.max]
      exact⟨i+1,by omega,⟨h,zn (P:=fun w=>w≤5000) (by omega) hws hw⟩,_,rfl⟩
     ·simp only[go_sem,G3,G0,G1,G2,w03,h,hx.len,ho.at _ hiw,e1,show(((rounds l (3+1))[i]:Nat):Int)>5000 by omega]
      rw[z6 rfl rfl,z8]
      exact⟨⟨_,rfl⟩,by rw[Zn fun h'=>hw (h'.2.2 _ (w08 hiw))]⟩
    ·have:i=l.length:=by omega
     subst this
     rw[←hwl,w09] at hws
     simp only[go_sem,G0,G1,G2,w03,h,hx.len]
     rw[z6 rfl rfl,z8]
     exact⟨⟨_,rfl⟩,by rw[QU ⟨by omega,hval,hws⟩]⟩
def up (n a:Nat):Nat:=(n+a-1)/a*a
theorem z7g (n:Nat):up n 1=n:=by unfold up;simp
theorem z18 (n:Nat):up n 8=(n+7)/8*8:=rfl
def is18 (a:Nat):Prop:=a=1∨a=8
theorem z17 {n a:Nat} (h:is18 a):n≤up n a∧up n a≤n+7:=by
 rcases h with rfl|rfl
 ·rw[z7g];omega
 ·rw[z18];omega
theorem zbH {a b:Nat} (ha:is18 a) (hb:is18 b):is18 (max a b):=by unfold is18 at*;omega
theorem zc7 (x:BitVec 64):(x&&& ~~~(7#64)).toNat=x.toNat/8*8:=by
 apply Nat.eq_of_testBit_eq
 intro i
 rw[BitVec.testBit_toNat,BitVec.getLsbD_and,BitVec.getLsbD_not,show(8:Nat)=2^3 from rfl,Nat.testBit_mul_two_pow,Nat.testBit_div_two_pow,BitVec.testBit_toNat]
 by_cases h3:3≤i
 ·have:(7#64).getLsbD i=false:=by
   rw[←BitVec.testBit_toNat]
   exact Nat.testBit_lt_two_pow (w58 (by decide:(7#64).toNat<2^3) (w57 (by omega) h3))
  by_cases h64:i<64
  ·rw[this,Nat.sub_add_cancel h3];simp[h3,h64]
  ·have:x.getLsbD i=false:=BitVec.getLsbD_of_ge x i (by omega)
   rw[Nat.sub_add_cancel h3,this];simp
 ·have:i=0∨i=1∨i=2:=by omega
  rcases this with rfl|rfl|rfl<;>simp<;>decide
theorem z45 {n a:Nat} (h:is18 a) (hn:n≤4194304):evBits .andNot .i64 (IntKind.i64.wrap (IntKind.i64.wrap ((n:Int)+(a:Int))-1)) (IntKind.i64.wrap ((a:Int)-1))=some (.int .i64 ((up n a:Nat):Int)):=by
 have e0:(a:Int)=1∨(a:Int)=8:=by unfold is18 at h;omega
 have e1:IntKind.i64.wrap ((n:Int)+(a:Int))=n+a:=zc (by omega) (by omega)
 have e2:IntKind.i64.wrap ((n:Int)+a-1)=n+a-1:=zc (by omega) (by omega)
 have e3:IntKind.i64.wrap ((a:Int)-1)=a-1:=zc (by omega) (by omega)
 rw[e1,e2,e3]
 have hx: ∀y:Nat,y≤5000000→(BitVec.ofInt 64 (y:Int)).toNat=y:=fun y hy=>by
  rw[BitVec.toNat_ofInt];omega
 refine congrArg (fun z=>some (AV.int .i64 z)) (?_:IntKind.i64.wrap ((BitVec.ofInt 64 ((n:Int)+a-1)&&& ~~~BitVec.ofInt 64 ((a:Int)-1)).toNat:Int)=((up n a:Nat):Int))
 rcases h with rfl|rfl
 ·have:BitVec.ofInt 64 (((1:Nat):Int)-1)=0#64:=rfl
  rw[this]
  have h2:(BitVec.ofInt 64 ((n:Int)+((1:Nat):Int)-1)&&& ~~~(0#64))=BitVec.ofInt 64 (n:Int):=by
   rw[show(n:Int)+((1:Nat):Int)-1=n by omega,show~~~(0#64)=BitVec.allOnes 64 from by decide,BitVec.and_allOnes]
  rw[h2,hx n (by omega),z7g,zc (by omega) (by omega)]
 ·have:BitVec.ofInt 64 (((8:Nat):Int)-1)=7#64:=rfl
  rw[this,zc7,show(n:Int)+((8:Nat):Int)-1=((n+7:Nat):Int) by omega,hx _ (by omega),z18,zc (by omega) (by omega)]
def togStep (far:Nat) (out:List (Nat×Nat)) (s:List Nat×Nat×Nat) (f:DField):List Nat×Nat×Nat:=
 (s.1++[up s.2.1 (out.getD f.typ.toNat (0,0)).2],min far (up s.2.1 (out.getD f.typ.toNat (0,0)).2+(out.getD f.typ.toNat (0,0)).1),max s.2.2 (out.getD f.typ.toNat (0,0)).2)
def tog (far:Nat) (out:List (Nat×Nat)) (fs:List DField):List Nat×Nat×Nat:=fs.foldl (togStep far out) ([],0,1)
def togEnd (far:Nat) (out:List (Nat×Nat)) (fs:List DField):Nat×Nat:=(min far (up (tog far out fs).2.1 (tog far out fs).2.2),(tog far out fs).2.2)
def ext1 (far:Nat) (out:List (Nat×Nat)) (t:DTyp):Nat×Nat:=
 if t.kind=1 then(1,1) else if t.kind=3 then(16,8) else if t.kind=7 then(24,8) else if t.kind=6 then(min far (t.len.toNat*(out.getD t.elem.toNat (0,0)).1),(out.getD t.elem.toNat (0,0)).2)
 else if t.kind=5 then togEnd far out t.fields else(8,8)
def exts (far:Nat) (l:List DTyp):List (Nat×Nat):=l.foldl (fun out t=>out++[ext1 far out t]) []
theorem Vl (far:Nat) (out:List (Nat×Nat)) {fs:List DField} {k:Nat} (h:k<fs.length):tog far out (fs.take (k+1))=togStep far out (tog far out (fs.take k)) fs[k]:=by
 unfold tog;rw[w14 h,List.foldl_append];rfl
theorem kH (far:Nat) {l:List DTyp} {i:Nat} (h:i<l.length):exts far (l.take (i+1))=exts far (l.take i)++[ext1 far (exts far (l.take i)) l[i]]:=by
 unfold exts;rw[w14 h,List.foldl_append];rfl
theorem uk (far:Nat) (l:List DTyp): ∀i,i≤l.length→(exts far (l.take i)).length=i
 |0,_=>by simp[exts]
 |i+1,h=>by rw[kH far h,w04,uk far l i (by omega)];rfl
def GoodP (out:List (Nat×Nat)):Prop:= ∀p∈out,p.1≤1048576∧is18 p.2
theorem GoodP.get {out:List (Nat×Nat)} (h:GoodP out) {j:Nat} (hj:j<out.length):(out.getD j (0,0)).1≤1048576∧is18 (out.getD j (0,0)).2:=by
 have:out.getD j (0,0)=out[j]:=by simp[w00,hj]
 rw[this];exact h _ (w08 hj)
theorem Yc {far:Nat} (hfar:far≤1048576) {out:List (Nat×Nat)} (h:GoodP out) {fs:List DField} (hf: ∀f∈fs,0≤f.typ∧f.typ<out.length): ∀k,k≤fs.length→(tog far out (fs.take k)).1.length=k∧(tog far out (fs.take k)).2.1≤1048576∧is18 (tog far out (fs.take k)).2.2
 |0,_=>by simp[tog,is18]
 |k+1,hk=>by
  obtain⟨h1,h2,h3⟩:=Yc hfar h hf k (by omega)
  have hfk:=hf _ (w08 (show k<fs.length by omega))
  have hg:=h.get (j:=fs[k].typ.toNat) (by omega)
  rw[Vl far out (show k<fs.length by omega)]
  exact⟨by simp[togStep,h1],by simp only[togStep];omega,zbH h3 hg.2⟩
theorem za8 {far:Nat} (hfar:far≤1048576) {out:List (Nat×Nat)} (h:GoodP out) {n i:Nat} {t:DTyp} (hf:FineT n i t) (hi:out.length=i):(ext1 far out t).1≤1048576∧is18 (ext1 far out t).2:=by
 have hl:=to hf
 unfold ext1
 split
 ·simp[is18]
 ·split
  ·simp[is18]
  ·split
   ·simp[is18]
   ·split
    ·rename_i h6
     have:=hl.2.2.2.1 h6
     exact⟨by simp only;omega,(h.get (by omega)).2⟩
    ·split
     ·have:=Yc hfar h (fs:=t.fields) (by rw[hi];exact hl.2.2.2.2.2) t.fields.length (w0b _)
      rw[w09] at this
      exact⟨by simp only[togEnd];omega,this.2.2⟩
     ·simp[is18]
theorem UH {far:Nat} (hfar:far≤1048576) {l:List DTyp} (hv:ValidT l): ∀i,i≤l.length→GoodP (exts far (l.take i))
 |0,_=>by simp[exts,GoodP]
 |i+1,h=>by
  have ih:=UH hfar hv i (by omega)
  rw[kH far h]
  intro p hp
  rcases w0a.1 hp with hp|hp
  ·exact ih p hp
  ·simp at hp;subst hp;exact za8 hfar ih (hv i (by omega)) (uk far l i (by omega))
def prs (ws:List (Nat×Nat)):List AV:=ws.flatMap fun p=>[.int .i64 (p.1:Int),.int .i64 (p.2:Int)]
theorem zcT (ws:List (Nat×Nat)):(prs ws).length=ws.length*2:=by
 induction ws with
 |nil=>rfl
 |cons w r ih=>simp only[prs,w30,w04,w29,w34] at ih⊢;omega
theorem TO: ∀(ws:List (Nat×Nat)) (j:Nat),j<ws.length→(prs ws).drop (j*2)= .int .i64 ((ws.getD j (0,0)).1:Int):: .int .i64 ((ws.getD j (0,0)).2:Int)::(prs ws).drop (j*2+2)
 | [],_,h=>by simp at h
 |w::r,0,_=>rfl
 |w::r,j+1,h=>by
  have:=TO r j (by simpa using h)
  simp only[prs,w30,show(j+1)*2=j*2+2 by omega,w21,w2e,w25,List.getD_cons_succ] at this⊢
  exact this
theorem zcS (n:Nat):flatRep [.int .i64 0,.int .i64 0] n=prs (List.replicate n (0,0)):=by
 induction n with
 |zero=>rfl
 |succ n ih=>rw[flatRep,ih,w54];rfl
theorem Zl: ∀(ws:List (Nat×Nat)) (j a b:Nat),j<ws.length→(prs ws).take (j*2)++[.int .i64 (a:Int),.int .i64 (b:Int)]++(prs ws).drop (j*2+2)=prs (ws.set j (a,b))
 | [],_,_,_,h=>by simp at h
 |w::r,0,a,b,_=>rfl
 |w::r,j+1,a,b,h=>by
  have:=Zl r j a b (by simpa using h)
  simp only[prs,w30,show(j+1)*2=j*2+2 by omega,w21,w2e,w25,w22,w4d] at this⊢
  rw[this]
theorem z5P {ws:List (Nat×Nat)} {j:Nat} (h:j<ws.length):takeV true 2 ((prs ws).drop (j*2))=some (.agg [.int .i64 ((ws.getD j (0,0)).1:Int),.int .i64 ((ws.getD j (0,0)).2:Int)]):=by
 rw[TO ws j h];simp[takeV]
theorem z3o (l l' k:Nat) (ws:List (Nat×Nat)):shiftAll l l' k (prs ws)=prs ws:=by
 induction ws with
 |nil=>rfl
 |cons w r ih=>simp only[prs,w30,w21,w2e,shiftAll,AV.shift] at ih⊢;rw[ih]
theorem z8V (a:Nat):(if(a:Int)<(1048576:Int) then(a:Int) else(1048576:Int))=((min 1048576 a:Nat):Int):=by split<;>omega
theorem z4T (a:Nat):(if(a:Int)<(1000000:Int) then(a:Int) else(1000000:Int))=((min 1000000 a:Nat):Int):=by split<;>omega
theorem zd3 (a b:Nat):(if(b:Int)>(a:Int) then(b:Int) else(a:Int))=((max a b:Nat):Int):=by split<;>omega
theorem zel {n a:Nat} (ha:is18 a) (h:n≤1048576):min 1048576 (up n a)=up n a:=by
 rcases ha with rfl|rfl
 ·rw[z7g];omega
 ·rw[z18];omega
theorem zbk (a b:Nat):(if a<b then(b:Int) else(a:Int))=((max a b:Nat):Int):=by split<;>omega
theorem z9N {m0:Mem} {stk:List (List Blk)} {cur c':List Blk} {nx' fl':Nat} {own:List Nat} {live':List (List Nat)} {k st off len:Nat} {a b:Int}:
  ∃bs:List Blk,leave m0 ⟨stk++[cur],c',nx',own::live',fl'⟩ (.tup [.arr (stk++[cur]).length k st off len,.agg [.int .i64 a,.int .i64 b]])=some (.tup [.arr stk.length (k+cur.length) st off len,.agg [.int .i64 a,.int .i64 b]],⟨stk,cur++bs,nx',live',m0.floor⟩)∧
   ∀ws,c'[k]? =some ⟨st,ints ws⟩→bs[k]? =some ⟨st,ints ws⟩:=by
 have e:own.filter (fun _=>false)=[]:=by simp
 refine⟨c'.map fun b=>⟨b.st,shiftAll (stk++[cur]).length ((stk++[cur]).length-1) cur.length b.cs⟩,?_,?_⟩
 ·unfold leave
  simp only[w51,w45,Option.some_or,AV.refs,refsAny,beq_self_eq_true,Bool.true_or,if_true,AV.toks,toksAll,w1a,List.contains_nil,e,pushToks,w52,AV.shift,shiftAll]
  simp
 ·intro ws h
  rw[w19,h,w0d,Th]
theorem z4d (ws W:List (Nat×Nat)) (hg:GoodP ws) (hle:ws.length≤W.length) (hW: ∀j,j<ws.length→W.getD j (0,0)=ws.getD j (0,0)) (fields:List DField) (v:AV) (q1:IsSl IsField 2 fields v) (hf: ∀f∈fields,0≤f.typ∧f.typ<ws.length) (hlen:fields.length≤100)
  (stk:List (List Blk)) (cur:List Blk) (nx fl:Nat) (live:List (List Nat)) (lv kb st:Nat) (hlv:lv≤stk.length) (hb:((stk++[cur]).getD lv [])[kb]? =some ⟨st,prs W⟩):
  ∃bs j s k,CALL tab ky [.arr lv kb st 0 W.length,v] ⟨stk,cur,nx,live,fl⟩=some (.tup [.arr stk.length (cur.length+j) s 0 fields.length,.agg [.int .i64 ((togEnd 1048576 ws fields).1:Nat),.int .i64 ((togEnd 1048576 ws fields).2:Nat)]],⟨stk,cur++bs,k,live,fl⟩)∧bs[j]? =some ⟨s,ints (tog 1048576 ws fields).1⟩:=by
 suffices h:Does tab ky [.arr lv kb st 0 W.length,v] ⟨stk,cur,nx,live,fl⟩ fun r m'=> ∃bs j s k,r= .tup [.arr stk.length (cur.length+j) s 0 fields.length,.agg [.int .i64 ((togEnd 1048576 ws fields).1:Nat),.int .i64 ((togEnd 1048576 ws fields).2:Nat)]]∧m'=⟨stk,cur++bs,k,live,fl⟩∧bs[j]? =some ⟨s,ints (tog 1048576 ws fields).1⟩ by
  obtain⟨z,h1,bs,j,s,k,h2,h3,h4⟩:=h
  exact⟨bs,j,s,k,by rw[h1,←h2,←h3],h4⟩
 refine zW z4p ?_ (Nat.le_of_ble_eq_true rfl)
 have hmk: ∀m:Mem,evMake m 1 8 [.int .i64 0] (.int .i64 fields.length) (.int .i64 fields.length)=some (.arr m.stk.length m.cur.length m.nx 0 fields.length,{m with cur:=m.cur++[⟨m.nx,ints (List.replicate fields.length 0)⟩],nx:=m.nx+1}):=fun m=>by
  unfold evMake
  simp only
  rw[if_pos ⟨trivial,by omega,by omega,by omega,rfl⟩,w2d,z6x]
 have hne:(lv==(stk++[cur]).length)=false:=by simp;omega
 simp only[XK,List.map,go_sem,G3,G0,G4,G2,q1.len,hmk,evBuild]
 refine zb (α:=Nat) (fun k σ=>k≤fields.length∧ ∃nz,heads [0,5,6,7,15,16,17] 3 σ=⟨tmps 68 [(0,.arr lv kb st 0 W.length),(5,.ptr (stk++[cur]).length 0 nx 0),(6,.arr (stk++[cur]).length 1 (nx+1) 0 fields.length),(7,.ptr (stk++[cur]).length 2 (nx+1+1) 0),(15,v),(16,.int .i64 fields.length),(17,.int .i64 k)],
  ⟨stk++[cur],[⟨nx,[.int .i64 0,.int .i64 0]⟩,⟨nx+1,ints ((tog 1048576 ws (fields.take k)).1++List.replicate (fields.length-k) 0)⟩,⟨nx+1+1,[.int .i64 ((tog 1048576 ws (fields.take k)).2.1:Nat),.int .i64 ((tog 1048576 ws (fields.take k)).2.2:Nat)]⟩],nz,[]::live,fl⟩⟩) (fun k=>fields.length-k) 0 ?_ ?_
 ·refine⟨w0c _,?_⟩
  simp only[go_sem,G0,G1,tog,w24,List.foldl_nil,Nat.sub_zero]
  exact⟨_,rfl⟩
 ·rintro k σ ⟨hk,nz,hσ⟩
  rw[hσ]
  clear hσ σ
  dsimp only at hk⊢
  obtain⟨g1,g2,g3⟩:=Yc (far:=1048576) (w0b _) hg hf k hk
  by_cases h:k<fields.length
  ·have e2:nth v k= .agg [.str fields[k].name,.int .i64 fields[k].typ]:=q1.nth h
   have hat2:=q1.at .i64 h
   have hfk:=hf _ (w08 h)
   have hgk:=hg.get (j:=fields[k].typ.toNat) (by omega)
   have hix:=qc .i64 (p:=fields[k].typ) (n:=W.length) ⟨hfk.1,by omega⟩
   have hld:=z5P (ws:=W) (j:=fields[k].typ.toNat) (by omega)
   rw[hW _ (by omega)] at hld
   have hts:=Vl 1048576 ws h
   unfold togStep at hts
   generalize tog 1048576 ws (fields.take k)=s at*
   obtain⟨offs,en,mo⟩:=s
   dsimp only at g1 g2 g3
   generalize ws.getD fields[k].typ.toNat (0,0)=pr at*
   have hix2:=qc .i64 (p:=(k:Int)) (n:=fields.length) (by omega)
   rw[w2d] at hix2
   have hsz:offs.length=k:=g1
   have hcl:decide (k+1≤(ints (offs++List.replicate (fields.length-k) 0)).length)=true:=by rw[Yz];simp;omega
   have hset:=U8 (ws:=offs++List.replicate (fields.length-k) 0) (j:=k) (up en pr.2) (by simp;omega)
   rw[TL hsz h] at hset
   have hg2:=Q5 (ws:=offs++[up en pr.2]++List.replicate (fields.length-(k+1)) 0) (j:=k) (by simp;omega)
   have hv2:(offs++[up en pr.2]++List.replicate (fields.length-(k+1)) 0).getD k 0=up en pr.2:=by
    rw[z6z (by simp;omega)];simp[w00,←hsz]
   rw[hv2] at hg2
   have hup:=z17 (n:=en) hgk.2
   have ew:IntKind.i64.wrap ((up en pr.2:Nat)+(pr.1:Nat))=((up en pr.2+pr.1:Nat):Int):=by rw[zc (by omega) (by omega)];omega
   simp only[go_sem,G3,G0,G4,G1,G2,w03,h,hat2,e2,za,hix,hne,hb,hld,z45 hgk.2 (show en≤4194304 by omega),hix2,w15,hcl,hset,hg2,ew,z8V,zbk,evBuild,zd h q1.max]
   refine⟨k+1,by omega,h,nz+1+1,?_⟩
   rw[hts]
  ·have:k=fields.length:=by omega
   subst this
   rw[w09,Nat.sub_self,List.replicate_zero,w1a] at*
   have hup:=z17 (n:=(tog 1048576 ws fields).2.1) g3
   have hfar:=zel g3 g2
   simp only[go_sem,G3,G0,G4,G1,G2,w03,h,z45 g3 (show(tog 1048576 ws fields).2.1≤4194304 by omega)]
   obtain⟨bs,hbs,hgb⟩:=z9N (m0:=⟨stk,cur,nx,live,fl⟩) (stk:=stk) (cur:=cur) (c':=[⟨nx,[.int .i64 ((up (tog 1048576 ws fields).2.1 (tog 1048576 ws fields).2.2:Nat):Int),.int .i64 ((tog 1048576 ws fields).2.2:Nat)]⟩,⟨nx+1,ints (tog 1048576 ws fields).1⟩,⟨nx+1+1,[.int .i64 ((up (tog 1048576 ws fields).2.1 (tog 1048576 ws fields).2.2:Nat):Int),.int .i64 ((tog 1048576 ws fields).2.2:Nat)]⟩]) (nx':=nz) (own:=[]) (live':=live) (fl':=fl) (k:=1) (st:=nx+1) (off:=0) (len:=fields.length) (a:=((up (tog 1048576 ws fields).2.1 (tog 1048576 ws fields).2.2:Nat):Int)) (b:=((tog 1048576 ws fields).2.2:Nat))
   rw[hbs,z8]
   refine⟨bs,1,nx+1,nz,?_,rfl,hgb _ rfl⟩
   unfold togEnd
   rw[hfar,Nat.add_comm]
theorem kT {A:List (Nat×Nat)} {n i:Nat} {v:Nat×Nat} (h:A.length=i) (hi:i<n):(A++List.replicate (n-i) (0,0)).set i v=A++[v]++List.replicate (n-(i+1)) (0,0):=by
 rw[List.set_append,if_neg (by omega)]
 rw[show n-i=(n-(i+1))+1 by omega,w54,show i-A.length=0 by omega]
 simp
theorem Uz {A B:List (Nat×Nat)} {j:Nat} (h:j<A.length):(A++B).getD j (0,0)=A.getD j (0,0):=by
 simp[w00,w07 h]
theorem z7H {m0:Mem} {stk:List (List Blk)} {cur c':List Blk} {nx' fl':Nat} {own:List Nat} {live':List (List Nat)} {k st off len:Nat}:
  ∃bs:List Blk,leave m0 ⟨stk++[cur],c',nx',own::live',fl'⟩ (.arr (stk++[cur]).length k st off len)=some (.arr stk.length (k+cur.length) st off len,⟨stk,cur++bs,nx',live',m0.floor⟩)∧
   ∀ws,c'[k]? =some ⟨st,prs ws⟩→bs[k]? =some ⟨st,prs ws⟩:=by
 have e:own.filter (fun _=>false)=[]:=by simp
 refine⟨c'.map fun b=>⟨b.st,shiftAll (stk++[cur]).length ((stk++[cur]).length-1) cur.length b.cs⟩,?_,?_⟩
 ·unfold leave
  simp only[w51,w45,Option.some_or,AV.refs,beq_self_eq_true,if_true,AV.toks,List.contains_nil,e,pushToks,w52,AV.shift]
  simp
 ·intro ws h
  rw[w19,h,w0d,z3o]
theorem Yb (l:List DTyp) (x:AV) (hx:IsSl IsTyp 4 l x) (hv:ValidT l) (hl:l.length≤100) (stk:List (List Blk)) (cur:List Blk) (nx fl:Nat) (live:List (List Nat)):
  ∃bs j st k,CALL tab qa [x] ⟨stk,cur,nx,live,fl⟩=some (.arr stk.length (cur.length+j) st 0 l.length,⟨stk,cur++bs,k,live,fl⟩)∧bs[j]? =some ⟨st,prs (exts 1048576 l)⟩:=by
 suffices h:Does tab qa [x] ⟨stk,cur,nx,live,fl⟩ fun v m'=> ∃bs j st k,v= .arr stk.length (cur.length+j) st 0 l.length∧m'=⟨stk,cur++bs,k,live,fl⟩∧bs[j]? =some ⟨st,prs (exts 1048576 l)⟩ by
  obtain⟨z,h1,bs,j,st,k,h2,h3,h4⟩:=h
  exact⟨bs,j,st,k,by rw[h1,←h2,←h3],h4⟩
 refine zW Qx ?_ (Nat.le_of_ble_eq_true rfl)
 have hmk: ∀m:Mem,evMake m 2 16 [.int .i64 0,.int .i64 0] (.int .i64 l.length) (.int .i64 l.length)=some (.arr m.stk.length m.cur.length m.nx 0 l.length,{m with cur:=m.cur++[⟨m.nx,prs (List.replicate l.length (0,0))⟩],nx:=m.nx+1}):=fun m=>by
  unfold evMake
  simp only
  rw[if_pos ⟨trivial,by omega,by omega,by omega,rfl⟩,w2d,zcS]
 simp only[js,List.map,go_sem,G0,G2,hx.len,hmk]
 refine zb (α:=Nat) (fun i σ=>i≤l.length∧ ∃nz,heads [3,10,11,12] 1 σ=⟨tmps 77 [(3,.arr (stk++[cur]).length 0 nx 0 l.length),(10,x),(11,.int .i64 l.length),(12,.int .i64 i)],
  ⟨stk++[cur],[⟨nx,prs (exts 1048576 (l.take i)++List.replicate (l.length-i) (0,0))⟩],nz,[]::live,fl⟩⟩) (fun i=>l.length-i) 0 ?_ ?_
 ·refine⟨w0c _,?_⟩
  simp only[go_sem,G0,G1,exts,w24,List.foldl_nil,Nat.sub_zero]
  exact⟨_,rfl⟩
 ·rintro i σ ⟨hi,nz,hσ⟩
  rw[hσ]
  clear hσ σ
  dsimp only at hi⊢
  by_cases h:i<l.length
  ·have hfine:=hv i h
   obtain⟨v,e1,q1⟩:=hx.nth h
   have hat:=hx.at .i64 h
   have hsucc:=zd h hx.max
   have hAl:=uk 1048576 l i hi
   have hrs:=kH 1048576 h
   have hgood:=UH (far:=1048576) (w0b _) hv i hi
   have hflen:=to hfine
   generalize hout:exts 1048576 (l.take i)=A at*
   generalize ht:l[i]=t at*
   clear ht
   generalize hn:l.length=n at*
   obtain⟨kind,elem,len,fields⟩:=t
   dsimp only at e1 q1 hflen
   have hix2:=qc .i64 (p:=(i:Int)) (n:=n) (by omega)
   rw[w2d] at hix2
   have hcl:decide (i*2+2≤(prs (A++List.replicate (n-i) (0,0))).length)=true:=by rw[zcT];simp;omega
   simp only[go_sem,G3,G0,G1,G2,w03,h,hat,e1,q1.one]
   by_cases k1:kind=1
   ·subst k1
    have hV:((1:Nat),(1:Nat))=ext1 1048576 A ⟨1,elem,len,fields⟩:=rfl
    simp only[go_sem,G0,G2]
    have hset:(prs (A++List.replicate (n-i) (0,0))).take (i*2)++[.int .i64 1,.int .i64 1]++(prs (A++List.replicate (n-i) (0,0))).drop (i*2+2)=prs ((A++List.replicate (n-i) (0,0)).set i (1,1)):=Zl (A++List.replicate (n-i) (0,0)) i 1 1 (by simp;omega)
    rw[kT hAl h] at hset
    simp only[go_sem,G3,G0,G4,G2,evBuild,za,hix2,hcl,hset,hsucc]
    refine⟨i+1,by omega,h,?_⟩
    rw[hrs,←hV]
    exact⟨_,rfl⟩
   have k1':(kind==1)=false:=by simpa using k1
   by_cases k2:kind=2
   ·subst k2
    have hV:((8:Nat),(8:Nat))=ext1 1048576 A ⟨2,elem,len,fields⟩:=rfl
    simp only[go_sem,G0,G2,k1']
    have hset:(prs (A++List.replicate (n-i) (0,0))).take (i*2)++[.int .i64 8,.int .i64 8]++(prs (A++List.replicate (n-i) (0,0))).drop (i*2+2)=prs ((A++List.replicate (n-i) (0,0)).set i (8,8)):=Zl (A++List.replicate (n-i) (0,0)) i 8 8 (by simp;omega)
    rw[kT hAl h] at hset
    simp only[go_sem,G3,G0,G4,G2,evBuild,za,hix2,hcl,hset,hsucc]
    refine⟨i+1,by omega,h,?_⟩
    rw[hrs,←hV]
    exact⟨_,rfl⟩
   have k2':(kind==2)=false:=by simpa using k2
   by_cases k4:kind=4
   ·subst k4
    have hV:((8:Nat),(8:Nat))=ext1 1048576 A ⟨4,elem,len,fields⟩:=rfl
    simp only[go_sem,G0,G2,k1',k2']
    have hset:(prs (A++List.replicate (n-i) (0,0))).take (i*2)++[.int .i64 8,.int .i64 8]++(prs (A++List.replicate (n-i) (0,0))).drop (i*2+2)=prs ((A++List.replicate (n-i) (0,0)).set i (8,8)):=Zl (A++List.replicate (n-i) (0,0)) i 8 8 (by simp;omega)
    rw[kT hAl h] at hset
    simp only[go_sem,G3,G0,G4,G2,evBuild,za,hix2,hcl,hset,hsucc]
    refine⟨i+1,by omega,h,?_⟩
    rw[hrs,←hV]
    exact⟨_,rfl⟩
   have k4':(kind==4)=false:=by simpa using k4
   by_cases k3:kind=3
   ·subst k3
    have hV:((16:Nat),(8:Nat))=ext1 1048576 A ⟨3,elem,len,fields⟩:=rfl
    simp only[go_sem,G0,G2,k1',k2',k4']
    have hset:(prs (A++List.replicate (n-i) (0,0))).take (i*2)++[.int .i64 16,.int .i64 8]++(prs (A++List.replicate (n-i) (0,0))).drop (i*2+2)=prs ((A++List.replicate (n-i) (0,0)).set i (16,8)):=Zl (A++List.replicate (n-i) (0,0)) i 16 8 (by simp;omega)
    rw[kT hAl h] at hset
    simp only[go_sem,G3,G0,G4,G2,evBuild,za,hix2,hcl,hset,hsucc]
    refine⟨i+1,by omega,h,?_⟩
    rw[hrs,←hV]
    exact⟨_,rfl⟩
   have k3':(kind==3)=false:=by simpa using k3
   by_cases k7:kind=7
   ·subst k7
    have hV:((24:Nat),(8:Nat))=ext1 1048576 A ⟨7,elem,len,fields⟩:=rfl
    simp only[go_sem,G0,G2,k1',k2',k4',k3']
    have hset:(prs (A++List.replicate (n-i) (0,0))).take (i*2)++[.int .i64 24,.int .i64 8]++(prs (A++List.replicate (n-i) (0,0))).drop (i*2+2)=prs ((A++List.replicate (n-i) (0,0)).set i (24,8)):=Zl (A++List.replicate (n-i) (0,0)) i 24 8 (by simp;omega)
    rw[kT hAl h] at hset
    simp only[go_sem,G3,G0,G4,G2,evBuild,za,hix2,hcl,hset,hsucc]
    refine⟨i+1,by omega,h,?_⟩
    rw[hrs,←hV]
    exact⟨_,rfl⟩
   have k7':(kind==7)=false:=by simpa using k7
   by_cases k6:kind=6
   ·subst k6
    have hel:=hflen.2.2.2.1 rfl
    have hle:=hflen.2.1 rfl
    have hge:=hgood.get (j:=elem.toNat) (by omega)
    have hix:=qc .i64 (p:=elem) (n:=n) ⟨hel.1,by omega⟩
    have hld:=z5P (ws:=A++List.replicate (n-i) (0,0)) (j:=elem.toNat) (by simp;omega)
    rw[Uz (by omega)] at hld
    have hV:(min 1048576 (len.toNat*(A.getD elem.toNat (0,0)).1),(A.getD elem.toNat (0,0)).2)=ext1 1048576 A ⟨6,elem,len,fields⟩:=rfl
    generalize A.getD elem.toNat (0,0)=pr at*
    have hmul:len.toNat*pr.1≤16*1048576:=Nat.mul_le_mul (by omega) hge.1
    have ew:IntKind.i64.wrap (len*(pr.1:Int))=((len.toNat*pr.1:Nat):Int):=by
     have:len*(pr.1:Int)=((len.toNat*pr.1:Nat):Int):=by rw[Int.natCast_mul,w41 (by omega)]
     rw[this,zc (by omega) (by omega)]
    simp only[go_sem,G3,G0,G4,G2,k1',k2',k4',k3',k7',za,hix,hld,ew,z8V,evBuild]
    have hset:=Zl (A++List.replicate (n-i) (0,0)) i (min 1048576 (len.toNat*pr.1)) (pr.2) (by simp;omega)
    rw[kT hAl h] at hset
    simp only[go_sem,G3,G0,G2,hix2,hcl,hset,hsucc]
    refine⟨i+1,by omega,h,?_⟩
    rw[hrs,←hV]
    exact⟨_,rfl⟩
   have k6':(kind==6)=false:=by simpa using k6
   have k5:kind=5:=by
    rcases hfine with⟨h1,_⟩|⟨h1,_⟩|⟨h1,_⟩|⟨h1,_⟩<;>dsimp only at h1<;>omega
   subst k5
   have hV:togEnd 1048576 A fields=ext1 1048576 A ⟨5,elem,len,fields⟩:=rfl
   obtain⟨bs,j,s,k,hcall,_⟩:=z4d A (A++List.replicate (n-i) (0,0)) hgood (by simp) (fun j hj=>Uz hj) fields v q1 (by rw[hAl];exact hflen.2.2.2.2.2) (by omega) (stk++[cur])
    [⟨nx,prs (A++List.replicate (n-i) (0,0))⟩,⟨nz,[.int .u8 5,.int .i64 elem,.int .i64 len,v]⟩] (nz+1) fl ([]::live) (stk++[cur]).length 0 nx (w0b _) (by simp)
   have hlW:List.length (A++List.replicate (n-i) ((0:Nat),(0:Nat)))=n:=by simp;omega
   rw[hlW] at hcall
   simp only[go_sem,G3,G0,G2,k1',k2',k4',k3',k7',k6',hcall]
   generalize togEnd 1048576 A fields=pr at*
   have hset:=Zl (A++List.replicate (n-i) (0,0)) i (pr.1) (pr.2) (by simp;omega)
   rw[kT hAl h] at hset
   simp only[go_sem,G3,G0,G2,za,hix2,hcl,hset,hsucc]
   refine⟨i+1,by omega,h,?_⟩
   rw[hrs,←hV]
   exact⟨_,rfl⟩
  ·have:i=l.length:=by omega
   subst this
   rw[w09,Nat.sub_self,List.replicate_zero,w1a]
   simp only[go_sem,G0,G1,G2,w03,h]
   obtain⟨bs,hbs,hgb⟩:=z7H (m0:=⟨stk,cur,nx,live,fl⟩) (stk:=stk) (cur:=cur) (c':=[⟨nx,prs (exts 1048576 l)⟩]) (nx':=nz) (own:=[]) (live':=live) (fl':=fl) (k:=0) (st:=nx) (off:=0) (len:=l.length)
   rw[hbs,z8]
   exact⟨bs,0,nx,nz,by rw[Nat.add_comm],rfl,hgb _ rfl⟩
theorem zdA {tab:Nat→Option AFunc} {f:Nat} {args:List AV} {m m':Mem} {r:AV} (h:CALL tab f args m=some (r,m')) (hf:m.floor≤m.stk.length+1):m.nx≤m'.nx:=by
 obtain⟨n,h⟩:=YK.1 h
 exact(Uh n _ _ _ _ _ h hf).nx
structure Own2 {α β:Type} (R1:α→AV→Prop) (s1:Nat) (y1:AV) (a:List α) (R2:β→AV→Prop) (s2:Nat) (y2:AV) (b:List β) (e:List Nat) (nx:Nat):Prop where
 l:Own R1 s1 y1 a e
 r:Own R2 s2 y2 b e
 dj: ∀t∈y1.toks,t∉y2.toks
 bl: ∀t∈y1.toks,t<nx
 br: ∀t∈y2.toks,t<nx
section
variable {α β : Type} {R1 : α → AV → Prop} {s1 : Nat} {y1 : AV} {a : List α} {R2 : β → AV → Prop} {s2 : Nat} {y2 : AV} {b : List β} {e : List Nat} {nx : Nat}
theorem Own2.symm (h:Own2 R1 s1 y1 a R2 s2 y2 b e nx):Own2 R2 s2 y2 b R1 s1 y1 a e nx:=⟨h.r,h.l,fun t h1 h2=>h.dj t h2 h1,h.br,h.bl⟩
theorem Own2.nil (e:List Nat) (nx:Nat):Own2 R1 s1 .nils [] R2 s2 .nils [] e nx:=⟨.nil e,.nil e,fun t h=>by simp[AV.toks] at h,fun t h=>by simp[AV.toks] at h,fun t h=>by simp[AV.toks] at h⟩
theorem Own2.mono {e':List Nat} {nx':Nat} (h:Own2 R1 s1 y1 a R2 s2 y2 b e nx) (k: ∀t∈e,t∈e') (hn:nx≤nx'):Own2 R1 s1 y1 a R2 s2 y2 b e' nx':=
 ⟨h.l.mono k,h.r.mono k,h.dj,fun t ht=>w58 (h.bl t ht) hn,fun t ht=>w58 (h.br t ht) hn⟩
theorem z9B {α:Type} {R:α→AV→Prop} {s:Nat} {y:AV} {xs:List α} {e:List Nat} {t:Nat} (h:Own R s y xs e) (ht:t∉y.toks):Own R s y xs (e.erase t):=by
 rcases h with h|⟨tk,ys,h1,h2,h3|⟨u,h3,h4⟩⟩
 ·exact .inl h
 ·exact .inr ⟨tk,ys,h1,h2,.inl h3⟩
 ·refine .inr ⟨tk,ys,h1,h2,.inr ⟨u,(List.mem_erase_of_ne ?_).2 h3,h4⟩⟩
  rintro rfl
  exact ht (by rw[h1,h4];simp[AV.toks])
theorem Own2.app {cs:List α} {z:AV} {zs:List AV} {bytes:Nat} (h:Own2 R1 s1 y1 a R2 s2 y2 b e nx) (hz: ∀m:Mem,m.elems s1 z=some zs) (hc:All2 R1 cs zs) (hl:(a.length+cs.length)*bytes≤140737488355328)
  (stk:List (List Blk)) (cur:List Blk) (rest:List (List Nat)) (fl:Nat):
  ∃y' n e',evApp ⟨stk,cur,nx,e::rest,fl⟩ s1 bytes y1 z=some (y',⟨stk,cur,n,e'::rest,fl⟩)∧Own2 R1 s1 y' (a++cs) R2 s2 y2 b e' n:=by
 have new: ∀ys (e':List Nat),All2 R1 (a++cs) ys→Own R2 s2 y2 b e'→nx∈e'→Own2 R1 s1 (.list s1 (.id nx) ys) (a++cs) R2 s2 y2 b e' (nx+1):=fun ys e' q ho hn=>
  ⟨.inr ⟨_,ys,rfl,q,.inr ⟨nx,hn,rfl⟩⟩,ho,fun t ht h2=>by
   simp only[AV.toks,w11] at ht
   subst ht
   exact Nat.lt_irrefl _ (h.br _ h2),fun t ht=>by
   simp only[AV.toks,w11] at ht
   omega,fun t ht=>Nat.lt_succ_of_lt (h.br t ht)⟩
 rcases Own.app (m:=⟨stk,cur,nx,e::rest,fl⟩) (h.l.mono fun t h=>by simp only[w43,w0a];exact .inl h) (hz _) hc hl with⟨hcs,q⟩|⟨ys,q,eq⟩|⟨t,ys,q0,hy,_,q,eq⟩
 ·subst hcs;rw[w1a];exact⟨_,_,_,q,h⟩
 ·exact⟨_,_,nx::e,eq,new ys _ q (h.r.mono fun t h=>w18 _ h) w1c⟩
 ·have ht:t∈e:=by
   rcases h.l with⟨h1,_⟩|⟨tk,ys',e1,_,e2|⟨t',e3,e2⟩⟩
   ·rw[h1] at hy;cases hy
   ·rw[e1,e2] at hy;cases hy
   ·rw[e1,e2] at hy;injection hy with _ hy _;injection hy with hy;exact hy▸e3
  have hd:dropTok t (e::rest)=e.erase t::rest:=by
   simp only[dropTok];rw[if_pos (by simpa using ht)]
  rw[show(Mem.live ⟨stk,cur,nx,e::rest,fl⟩)=e::rest from rfl,hd] at eq
  refine⟨_,_,nx::e.erase t,eq,new ys _ q ((z9B h.r (h.dj t (by rw[hy];simp[AV.toks]))).mono fun t h=>w18 _ h) w1c⟩
variable {tab : Nat → Option AFunc} {ρ : List AV} {k : Kont} {l : List AOper} {d : Option Nat}
theorem Own2.xv1 {cs:List α} {z:AV} {zs:List AV} {bytes fl:Nat} {stk:List (List Blk)} {cur:List Blk} {rest:List (List Nat)} (h:Own2 R1 s1 y1 a R2 s2 y2 b e nx) (hz: ∀m:Mem,m.elems s1 z=some zs) (hc:All2 R1 cs zs) (hl:(a.length+cs.length)*bytes≤140737488355328)
  (q: ∀y' n e',Own2 R1 s1 y' (a++cs) R2 s2 y2 b e' n→Xs tab l (setDst ρ d y') ⟨stk,cur,n,e'::rest,fl⟩ k):Xv tab (evApp ⟨stk,cur,nx,e::rest,fl⟩ s1 bytes y1 z) d l ρ k:=by
 obtain⟨y',n,e',h1,h2⟩:=h.app hz hc hl stk cur rest fl
 rw[h1,td];exact q y' n e' h2
theorem Own2.xv2 {cs:List β} {z:AV} {zs:List AV} {bytes fl:Nat} {stk:List (List Blk)} {cur:List Blk} {rest:List (List Nat)} (h:Own2 R1 s1 y1 a R2 s2 y2 b e nx) (hz: ∀m:Mem,m.elems s2 z=some zs) (hc:All2 R2 cs zs) (hl:(b.length+cs.length)*bytes≤140737488355328)
  (q: ∀y' n e',Own2 R1 s1 y1 a R2 s2 y' (b++cs) e' n→Xs tab l (setDst ρ d y') ⟨stk,cur,n,e'::rest,fl⟩ k):Xv tab (evApp ⟨stk,cur,nx,e::rest,fl⟩ s2 bytes y2 z) d l ρ k:=by
 obtain⟨y',n,e',h1,h2⟩:=h.symm.app hz hc hl stk cur rest fl
 rw[h1,td];exact q y' n e' h2.symm
end
theorem zed {n a:Nat} (ha:is18 a) (hn:n≤4194304) (m:Mem):Okv tab xB [.int .i64 n,.int .i64 a] m (.int .i64 (up n a:Nat)):=by
 refine zf Tg ?_
 obtain⟨stk,cur,nx,live,fl⟩:=m
 have e1:IntKind.i64.wrap ((n:Int)+(a:Int))=((n+a:Nat):Int):=by unfold is18 at ha;rw[zc (by omega) (by omega)];omega
 have e2:IntKind.i64.wrap (((n+a:Nat):Int)-1)=((n+a-1:Nat):Int):=by unfold is18 at ha;rw[zc (by omega) (by omega)];omega
 have e3:IntKind.i64.wrap (((n+a-1:Nat):Int).tdiv (a:Int))=(((n+a-1)/a:Nat):Int):=by
  rw[zaY]
  have:(n+a-1)/a≤n+a-1:=Nat.div_le_self _ _
  unfold is18 at ha
  generalize (n+a-1)/a=q at*
  rw[zc (by omega) (by omega)]
 have e4:IntKind.i64.wrap ((((n+a-1)/a:Nat):Int)*(a:Int))=((up n a:Nat):Int):=by
  rw[←Int.natCast_mul]
  have:=z17 (n:=n) ha
  show IntKind.i64.wrap ((up n a:Nat):Int)=_
  rw[zc (by omega) (by omega)]
 have e0: ¬((a:Int)=0):=by unfold is18 at ha;omega
 simp only[qB,List.map,go_sem,G3,G0,G2,e1,e2,e0,e3,e4]
 rw[z6 rfl rfl,z8]
 exact⟨⟨_,rfl⟩,rfl⟩
def szs (ws:List (Nat×Nat)):List Nat:=ws.map Prod.fst
def als (ws:List (Nat×Nat)):List Nat:=ws.map Prod.snd
theorem z4w {ws:List (Nat×Nat)} {j:Nat} (h:j<ws.length):(szs ws)[j]'(by simpa [szs] using h)=(ws.getD j (0,0)).1:=by simp[szs,w00,h]
theorem z9a {ws:List (Nat×Nat)} {j:Nat} (h:j<ws.length):(als ws)[j]'(by simpa [als] using h)=(ws.getD j (0,0)).2:=by simp[als,w00,h]
theorem z75 (ws:List (Nat×Nat)) (hg:GoodP ws) (y1 y2:AV) (h1:IsSl IsN 1 (szs ws) y1) (h2:IsSl IsN 1 (als ws) y2) (fields:List DField) (v:AV) (q1:IsSl IsField 2 fields v) (hf: ∀f∈fields,0≤f.typ∧f.typ<ws.length) (hlen:fields.length≤100) (m:Mem):
  ∃y ts k,CALL tab yV [y1,y2,v] m=some (.tup [y,.int .i64 ((togEnd 1000000 ws fields).1:Nat),.int .i64 ((togEnd 1000000 ws fields).2:Nat)],{m with nx:=k,live:=pushToks ts m.live})∧Own IsN 1 y (tog 1000000 ws fields).1 ts:=by
 suffices h:Does tab yV [y1,y2,v] m fun r m'=> ∃y ts k,r= .tup [y,.int .i64 ((togEnd 1000000 ws fields).1:Nat),.int .i64 ((togEnd 1000000 ws fields).2:Nat)]∧m'={m with nx:=k,live:=pushToks ts m.live}∧Own IsN 1 y (tog 1000000 ws fields).1 ts by
  obtain⟨z,e1,y,ts,k,e2,e3,e4⟩:=h
  exact⟨y,ts,k,by rw[e1,←e2,←e3],e4⟩
 refine zW Zz ?_ (Nat.le_of_ble_eq_true rfl)
 obtain⟨stk,cur,nx,live,fl⟩:=m
 simp only[vj,List.map,go_sem,G3]
 refine zb (α:=Nat) (fun k σ=>k≤fields.length∧ ∃nz y e,Own IsN 1 y (tog 1000000 ws (fields.take k)).1 e∧heads [0,1,2,9,10,11,12] 0 σ=⟨tmps 55 [(0,y1),(1,y2),(2,v),(9,y),(10,.int .i64 ((tog 1000000 ws (fields.take k)).2.1:Nat)),(11,.int .i64 ((tog 1000000 ws (fields.take k)).2.2:Nat)),(12,.int .i64 k)],⟨stk++[cur],[],nz,e::live,fl⟩⟩) (fun k=>fields.length-k) 0 ?_ ?_
 ·refine⟨w0c _,nx,.nils,[],.nil _,?_⟩
  simp only[go_sem,G0,G1,tog,w24,List.foldl_nil]
  rfl
 ·rintro k σ ⟨hk,nz,y,e,ho,hσ⟩
  rw[hσ]
  clear hσ σ
  dsimp only at hk⊢
  obtain⟨g1,g2,g3⟩:=Yc (far:=1000000) (by omega) hg hf k hk
  by_cases h:k<fields.length
  ·have e2:nth v k= .agg [.str fields[k].name,.int .i64 fields[k].typ]:=q1.nth h
   have hat2:=q1.at .i64 h
   have hfk:=hf _ (w08 h)
   have hj:fields[k].typ.toNat<ws.length:=by omega
   have hgk:=hg.get hj
   have ht1:fields[k].typ.toNat<(szs ws).length:=by simpa [szs] using hj
   have ht2:fields[k].typ.toNat<(als ws).length:=by simpa [als] using hj
   have s1:nth y1 fields[k].typ.toNat= .int .i64 ((szs ws)[fields[k].typ.toNat]:Nat):=h1.nth ht1
   have s2:nth y2 fields[k].typ.toNat= .int .i64 ((als ws)[fields[k].typ.toNat]:Nat):=h2.nth ht2
   have a1:=h1.at .i64 ht1
   have a2:=h2.at .i64 ht2
   rw[w41 hfk.1] at a1 a2
   rw[z4w hj] at s1
   rw[z9a hj] at s2
   have hts:=Vl 1000000 ws h
   unfold togStep at hts
   generalize tog 1000000 ws (fields.take k)=s at*
   obtain⟨offs,en,mo⟩:=s
   dsimp only at g1 g2 g3 ho
   generalize ws.getD fields[k].typ.toNat (0,0)=pr at*
   have hup:=z17 (n:=en) hgk.2
   have ew:IntKind.i64.wrap ((up en pr.2:Nat)+(pr.1:Nat))=((up en pr.2+pr.1:Nat):Int):=by rw[zc (by omega) (by omega)];omega
   simp only[go_sem,G0,G1,G2,w03,h,q1.len,hat2,e2,a2,s2,(zed hgk.2 (show en≤4194304 by omega) _).eq]
   refine ho.xv (zh · _ _ _) (zJ (R:=IsN) (x:=up en pr.2) rfl) (by simp;omega) fun y' n' e' ho'=> ?_
   simp only[go_sem,G0,G2,a1,s1,a2,s2,ew,z4T,zd3,zd h q1.max]
   refine⟨k+1,by omega,h,n',y',e',?_,?_⟩
   ·rw[hts];exact ho'
   ·rw[hts]
  ·have:k=fields.length:=by omega
   subst this
   rw[w09] at*
   have hup:=z17 (n:=(tog 1000000 ws fields).2.1) g3
   simp only[go_sem,G0,G1,G2,w03,h,q1.len,(zed g3 (show(tog 1000000 ws fields).2.1≤4194304 by omega) _).eq,z4T]
   rw[Yu (by simp only[AV.refs,refsAny,ho.refs];rfl),z8]
   refine⟨y,_,_,rfl,rfl,?_⟩
   simp only[AV.toks,toksAll,w1a]
   exact ho.filter
end Go.Proofs.W
end
section
namespace Go.Vs
def OkT (tab:Nat→Option AFunc) (f:Nat) (args:List AV) (m:Mem) (Q:AV→List Nat→Nat→Prop):Prop:=
 ∃y ts k,CALL tab f args m=some (y,{m with nx:=k,live:=pushToks ts m.live})∧Q y ts k
def FinT (m:Mem) (Q:AV→List Nat→Nat→Prop) (v:AV) (m':Mem):Prop:= ∃ts k,m'={m with nx:=k,live:=pushToks ts m.live}∧Q v ts k
theorem VN {tab:Nat→Option AFunc} {f:Nat} {fn:AFunc} (h:tab f=some fn) {args:List AV} {m:Mem} {Q:AV→List Nat→Nat→Prop} (hx:X tab fn.body (mk fn.ntmps (.tup []) (numb 0 args)) (enter m) (.fin fn.res m (FinT m Q))) (hn:args.length≤fn.ntmps:=by exact Nat.le_of_ble_eq_true rfl):
  OkT tab f args m Q:=by
 obtain⟨x,h1,ts,k,h2,h3⟩:=zW h hx hn;exact⟨x.1,ts,k,by rw[h1,←h2],h3⟩
section
variable {tab : Nat → Option AFunc} {ρ : List AV} {m : Mem} {k : Kont} {l : List AOper} {d : Option Nat} {f : Nat} {args : List AV}
theorem OkT.xv {Q:AV→List Nat→Nat→Prop} (h:OkT tab f args m Q) (q: ∀y ts n,Q y ts n→Xs tab l (setDst ρ d y) {m with nx:=n,live:=pushToks ts m.live} k):Xv tab (CALL tab f args m) d l ρ k:=by
 obtain⟨y,ts,n,h1,h2⟩:=h
 rw[h1,td];exact q y ts n h2
theorem Ok.xv {R:AV→Prop} (h:Ok tab f args m R) (q: ∀y n,R y→Xs tab l (setDst ρ d y) (m.bump n) k):Xv tab (CALL tab f args m) d l ρ k:=by
 obtain⟨y,n,h1,h2⟩:=h
 rw[h1,td];exact q y n h2
theorem OkT.xw {Q:AV→List Nat→Nat→Prop} {fl:Nat} {m0:Mem} {ws:Watch} (h:OkT tab f args m Q) (q: ∀y ts n,Q y ts n→Xd tab fl m0 ws l (setDst ρ d y) {m with nx:=n,live:=pushToks ts m.live} k):Xw tab (CALL tab f args m) 2 fl m0 ws d l ρ m k:=by
 obtain⟨y,ts,n,h1,h2⟩:=h
 rw[h1,zdG];exact q y ts n h2
theorem OkT.mono {Q Q':AV→List Nat→Nat→Prop} (h:OkT tab f args m Q) (k: ∀y ts n,Q y ts n→Q' y ts n):OkT tab f args m Q':=let ⟨y,ts,n,h1,h2⟩:=h;⟨y,ts,n,h1,k _ _ _ h2⟩
end
theorem ye {stk:List (List Blk)} {cur c':List Blk} {nx nx' fl fl':Nat} {live:List (List Nat)} {own:List Nat} {r:AV} {Q:AV→List Nat→Nat→Prop} (h1:r.refs (stk++[cur]).length=false) (h:Q r (own.filter fun t=>r.toks.contains t) nx'):
  Opt (leave ⟨stk,cur,nx,live,fl⟩ ⟨stk++[cur],c',nx',own::live,fl'⟩ r) fun q=>FinT ⟨stk,cur,nx,live,fl⟩ Q q.1 q.2:=by
 rw[Yu h1,z8]
 exact⟨_,nx',rfl,h⟩
theorem IsSl.refs {α:Type} {R:α→AV→Prop} {s:Nat} {xs:List α} {y:AV} (h:IsSl R s xs y) (l:Nat):y.refs l=false:=by
 rcases h with⟨_,⟨rfl,rfl⟩|⟨tk,ys,rfl,h⟩⟩<;>rfl
theorem IsSl.fld {l:List DField} {x:AV} (hx:IsSl IsField 2 l x) {j:Nat} (h:j<l.length):Vs.nth x j= .agg [.str l[j].name,.int .i64 l[j].typ]:=hx.nth h
theorem z8j {tab:Nat→Option AFunc} {f:Nat} {b:Bool} (h:tab f=some (constFn b)) (m:Mem):CALL tab f [] m=some (.bool b,m):=by
 refine YK.2 ⟨1,?_⟩
 simp only[callN,h,evFn,constFn,ev,w34,Nat.sub_self,List.replicate_zero,w1a,evRess,evRes,w26,w0d,w00,List.getElem?_cons_zero,w2a,packRes]
 exact z0e m b
end Go.Vs
end
section
namespace Go.Proofs.W
open Go.Vs
set_option linter.unusedSimpArgs false
set_option maxRecDepth 100000
theorem z0P {p q:Prop} [Decidable p] [Decidable q] (h:p↔q):AV.bool (decide p)=AV.bool (decide q):=congrArg AV.bool (decide_eq_decide.2 h)
theorem z2l {q:Prop} [Decidable q] (h: ¬q):AV.bool false=AV.bool (decide q):=congrArg AV.bool (decide_eq_false h).symm
theorem zeJ {b:Bool} {q:Prop} [Decidable q] (h:b=true↔q):AV.bool b=AV.bool (decide q):=congrArg AV.bool (by rw[w40,decide_eq_true_eq];exact h)
def t00:DTyp:=⟨0,0,0,[]⟩
def f00:DField:=⟨[],0⟩
def tyA (l:List DTyp) (t:Int):DTyp:=l.getD t.toNat t00
def fdA (l:List DField) (i:Int):DField:=l.getD i.toNat f00
theorem zcH {l:List DTyp} {k:Nat} (h:k<l.length):tyA l k=l[k]:=by simp[tyA,w00,h]
theorem Qa {l:List DField} {k:Nat} (h:k<l.length):fdA l k=l[k]:=by simp[fdA,w00,h]
def kindI (l:List DTyp) (t:Int):Int:=if t<0 then 0 else(tyA l t).kind
def slotT (f:DFunc) (s:Int):Int:=if 0≤s∧s<f.slots.length then(fdA f.slots s).typ else-1
def called (x:DInstr):Int:=if x.op=25 then x.b else if x.op=26∨x.op=27 then x.a else-1
def NV (d:DImage) (f:DFunc) (y:AV):Prop:= ∃ty tx fs w0 w1 w2 w3,y= .agg [ty,tx,fs,.str f.name,.int .i64 f.params,.int .i64 f.result,w0,w1,w2,w3]∧IsSl IsTyp 4 d.types ty∧IsSl IsStr 1 d.texts tx∧IsSl IsFunc 7 d.funcs fs∧
 IsSl IsField 2 f.slots w0∧IsSl IsInstr 4 f.code w1∧IsSl IsRun 2 f.sizes w2∧IsSl IsRun 2 f.lives w3
theorem _root_.Go.Vs.IsSl.tyA {l:List DTyp} {x:AV} (hx:IsSl IsTyp 4 l x) {j:Nat} (h:j<l.length): ∃v0,nth x j= .agg [.int .u8 (tyA l j).kind,.int .i64 (tyA l j).elem,.int .i64 (tyA l j).len,v0]∧IsSl IsField 2 (tyA l j).fields v0:=by
 obtain⟨v0,h1,h2⟩:=hx.nth h
 rw[←zcH h] at h1 h2
 exact⟨v0,h1,h2⟩
theorem _root_.Go.Vs.IsSl.fdA {l:List DField} {x:AV} (hx:IsSl IsField 2 l x) {j:Nat} (h:j<l.length):nth x j= .agg [.str (fdA l j).name,.int .i64 (fdA l j).typ]:=by
 rw[Qa h];exact hx.fld h
theorem qx {α:Type} {R:α→AV→Prop} {s:Nat} (l:List α) (x:AV) (hx:IsSl R s l x) (i:Int) (m:Mem):Okv tab yq [x,.int .i64 i] m (.bool (decide (0≤i∧i<l.length))):=by
 refine zf ZC ?_
 obtain⟨stk,cur,nx,live,fl⟩:=m
 generalize hr:decide (0≤i∧i<(l.length:Int))=r
 simp only[vl,List.map,go_sem,G3,G0,G2]
 by_cases h:i≥0
 ·simp only[go_sem,G0,G2,h,hx.len]
  rw[z6 rfl rfl,z8]
  exact⟨⟨_,rfl⟩,by rw[←hr];exact z0P (by omega)⟩
 ·simp only[go_sem,G0,G2,h]
  rw[z6 rfl rfl,z8]
  exact⟨⟨_,rfl⟩,by rw[←hr];exact z2l (by omega)⟩
theorem XV {α:Type} {R:α→AV→Prop} {s:Nat} (l:List α) (x:AV) (hx:IsSl R s l x) (i:Int) (m:Mem):Okv tab t6 [x,.int .i64 i] m (.bool (decide (0≤i∧i<l.length))):=by
 refine zf Wq ?_
 obtain⟨stk,cur,nx,live,fl⟩:=m
 generalize hr:decide (0≤i∧i<(l.length:Int))=r
 simp only[uN,List.map,go_sem,G3,G0,G2]
 by_cases h:i≥0
 ·simp only[go_sem,G0,G2,h,hx.len]
  rw[z6 rfl rfl,z8]
  exact⟨⟨_,rfl⟩,by rw[←hr];exact z0P (by omega)⟩
 ·simp only[go_sem,G0,G2,h]
  rw[z6 rfl rfl,z8]
  exact⟨⟨_,rfl⟩,by rw[←hr];exact z2l (by omega)⟩
theorem Vg (x:DInstr) (m:Mem):Okv tab tU [.agg [.int .u8 x.op,.int .i64 x.a,.int .i64 x.b,.int .i64 x.c]] m (.int .i64 (called x)):=by
 refine zf z1k ?_
 obtain⟨stk,cur,nx,live,fl⟩:=m
 simp only[Zc,List.map,go_sem,G3,G0,G2]
 repeat' (((first|refine zo ?_ ?_|refine zl ?_ ?_|refine zm ?_ ?_|refine zj ?_ ?_|refine zk ?_ ?_)<;>intro hq)<;>simp only[go_sem,G0,G2,hq])
 all_goals
  rw[z6 rfl rfl,z8]
  refine⟨⟨_,rfl⟩,?_⟩
  unfold called
  simp only[beq_iff_eq,beq_eq_false_iff_ne,ne_eq] at*
  simp[*]
theorem qO (x:DInstr) (m:Mem):Okv tab xj [.agg [.int .u8 x.op,.int .i64 x.a,.int .i64 x.b,.int .i64 x.c]] m (.int .i64 (called x)):=by
 refine zf YS ?_
 obtain⟨stk,cur,nx,live,fl⟩:=m
 simp only[vX,List.map,go_sem,G3,G0,G2]
 repeat' (((first|refine zo ?_ ?_|refine zl ?_ ?_|refine zm ?_ ?_|refine zj ?_ ?_|refine zk ?_ ?_)<;>intro hq)<;>simp only[go_sem,G0,G2,hq])
 all_goals
  rw[z6 rfl rfl,z8]
  refine⟨⟨_,rfl⟩,?_⟩
  unfold called
  simp only[beq_iff_eq,beq_eq_false_iff_ne,ne_eq] at*
  simp[*]
theorem z0X (d:DImage) (f:DFunc) (y:AV) (hy:NV d f y) (s:Int) (m:Mem):Okv tab zq [y,.int .i64 s] m (.int .i64 (slotT f s)):=by
 obtain⟨ty,tx,fs,w0,w1,w2,w3,rfl,h0,h1,h2,h3,h4,h5,h6⟩:=hy
 refine zf Wt ?_
 obtain⟨stk,cur,nx,live,fl⟩:=m
 simp only[uO,List.map,go_sem,G3,G0,G2,(qx _ _ h3 _ _).eq]
 by_cases h:0≤s∧s<f.slots.length
 ·obtain⟨k,rfl⟩: ∃k:Nat,s=k:=⟨s.toNat,by omega⟩
  have hk:k<f.slots.length:=by omega
  have hd:decide ((0:Int)≤k∧(k:Int)<f.slots.length)=true:=by simpa using h
  simp only[go_sem,G3,G0,G2,hd,h3.at _ hk,h3.fdA hk]
  rw[z6 rfl rfl,z8]
  exact⟨⟨_,rfl⟩,by unfold slotT;rw[if_pos h]⟩
 ·simp only[go_sem,G0,G2,h]
  rw[z6 rfl rfl,z8]
  exact⟨⟨_,rfl⟩,by unfold slotT;rw[if_neg h]⟩
theorem Qq (d:DImage) (y:AV) (hy:IsImage d y) (t:Int) (ht:t<d.types.length) (m:Mem):Okv tab zy [y,.int .i64 t] m (.int .u8 (kindI d.types t)):=by
 obtain⟨ty,tx,fs,rfl,h0,h1,h2⟩:=hy
 refine zf Vo ?_
 obtain⟨stk,cur,nx,live,fl⟩:=m
 simp only[tu,List.map,go_sem,G3,G0,G2]
 by_cases h:t<0
 ·simp only[go_sem,G0,G2,h]
  rw[z6 rfl rfl,z8]
  exact⟨⟨_,rfl⟩,by unfold kindI;rw[if_pos h]⟩
 ·obtain⟨k,rfl⟩: ∃k:Nat,t=k:=⟨t.toNat,by omega⟩
  have hk:k<d.types.length:=by omega
  obtain⟨v0,e1,e2⟩:=h0.tyA hk
  simp only[go_sem,G0,G2,h,h0.at _ hk,e1]
  rw[z6 rfl rfl,z8]
  exact⟨⟨_,rfl⟩,by unfold kindI;rw[if_neg h]⟩
theorem z7e (l:List Int) (x:AV) (hx:IsSl (IsK .u8) 1 l x) (v:Int) (m:Mem):Ok tab xD [x,.int .u8 v] m (fun r=> ∃i,r= .int .i64 i∧(0≤i↔v∈l)):=by
 refine z5W kQ ?_
 obtain⟨stk,cur,nx,live,fl⟩:=m
 simp only[xz,List.map,go_sem,G3,G0,G2,hx.len]
 refine zb (α:=Nat) (fun k σ=>(k≤l.length∧v∉l.take k)∧ ∃nz,heads [0,1,7,8] 0 σ=⟨tmps 19 [(0,x),(1,.int .u8 v),(7,.int .i64 l.length),(8,.int .i64 k)],⟨stk++[cur],[],nz,[]::live,fl⟩⟩) (fun k=>l.length-k) 0 ?_ ?_
 ·refine⟨⟨w0c _,by simp⟩,?_⟩
  simp only[go_sem,G0,G1]
  exact⟨_,rfl⟩
 ·rintro k σ ⟨⟨hk,hv⟩,nz,hσ⟩
  rw[hσ]
  clear hσ σ
  dsimp only at hk hv⊢
  by_cases h:k<l.length
  ·have e1:nth x k= .int .u8 l[k]:=hx.nth h
   have hat:=hx.at .i64 h
   have hsucc:=zd h hx.max
   by_cases hq:v=l[k]
   ·have hq':(v==l[k])=true:=by simpa using hq
    simp only[go_sem,G0,G1,G2,w03,h,hat,e1,hq']
    rw[z6 rfl rfl,z8]
    exact⟨⟨_,rfl⟩,_,rfl,⟨fun _=>hq▸w08 h,fun _=>by omega⟩⟩
   ·have hq':(v==l[k])=false:=by simpa using hq
    simp only[go_sem,G0,G1,G2,w03,h,hat,e1,hq',hsucc]
    refine⟨k+1,by omega,⟨h,?_⟩,_,rfl⟩
    rw[w14 h]
    simp only[w0a,w11,not_or];exact⟨hv,hq⟩
  ·have:k=l.length:=by omega
   subst this
   rw[w09] at hv
   simp only[go_sem,G0,G1,G2,w03,h]
   rw[z6 rfl rfl,z8]
   exact⟨⟨_,rfl⟩,_,rfl,⟨fun h=>absurd h (by decide),fun h=>absurd h hv⟩⟩
theorem z2G (l:List Int) (x:AV) (hx:IsSl (IsK .u8) 1 l x) (v:Int) (m:Mem):Okv tab x5 [x,.int .u8 v] m (.bool (decide (v∈l))):=by
 refine zf jJ ?_
 obtain⟨stk,cur,nx,live,fl⟩:=m
 simp only[yY,List.map,go_sem,G3,G0,G2]
 refine(z7e l x hx v _).xv fun y n ⟨i,hy,hi⟩=> ?_
 subst hy
 simp only[go_sem,G0,G2]
 rw[z6 rfl rfl,z8]
 exact⟨⟨_,rfl⟩,z0P hi⟩
theorem isL1 (a:Int) (tk:Tok):IsSl (IsK .u8) 1 [a] (.list 1 tk [.int .u8 a]):= .mk ⟨rfl,trivial⟩ (by simp)
theorem isL2 (a b:Int) (tk:Tok):IsSl (IsK .u8) 1 [a,b] (.list 1 tk [.int .u8 a,.int .u8 b]):= .mk ⟨rfl,rfl,trivial⟩ (by simp)
theorem isL3 (a b c:Int) (tk:Tok):IsSl (IsK .u8) 1 [a,b,c] (.list 1 tk [.int .u8 a,.int .u8 b,.int .u8 c]):= .mk ⟨rfl,rfl,rfl,trivial⟩ (by simp)
def isT (d:DImage) (t:Int) (ks:List Int):Bool:=decide (0≤t∧kindI d.types t∈ks)
theorem z4f (d:DImage) (f:DFunc) (y:AV) (hy:NV d f y) (t:Int) (ht:t<d.types.length) (ks:List Int) (x:AV) (hx:IsSl (IsK .u8) 1 ks x) (m:Mem):Okv tab zu [y,.int .i64 t,x] m (.bool (isT d t ks)):=by
 obtain⟨ty,tx,fs,w0,w1,w2,w3,rfl,h0,h1,h2,h3,h4,h5,h6⟩:=hy
 refine zf UQ ?_
 obtain⟨stk,cur,nx,live,fl⟩:=m
 simp only[qh,List.map,go_sem,G3,G0,G2]
 by_cases h:t≥0
 ·obtain⟨k,rfl⟩: ∃k:Nat,t=k:=⟨t.toNat,by omega⟩
  have hk:k<d.types.length:=by omega
  obtain⟨v0,e1,e2⟩:=h0.tyA hk
  simp only[go_sem,G0,G2,h,h0.at _ hk,e1,(z2G _ _ hx _ _).eq]
  rw[z6 rfl rfl,z8]
  exact⟨⟨_,rfl⟩,by unfold isT kindI;rw[if_neg (by omega)];exact z0P ⟨fun h=>⟨by omega,h⟩,fun h=>h.2⟩⟩
 ·simp only[go_sem,G0,G2,h]
  rw[z6 rfl rfl,z8]
  exact⟨⟨_,rfl⟩,by unfold isT;exact z2l (fun h'=>h (by omega))⟩
theorem z4i (d:DImage) (f:DFunc) (y:AV) (hy:NV d f y) (t e:Int) (ht:t<d.types.length) (ks:List Int) (x:AV) (hx:IsSl (IsK .u8) 1 ks x) (m:Mem):Okv tab ym [y,.int .i64 t,.int .i64 e,x] m (.bool (isT d t ks&&decide ((tyA d.types t).elem=e))):=by
 have hy':=hy
 obtain⟨ty,tx,fs,w0,w1,w2,w3,rfl,h0,h1,h2,h3,h4,h5,h6⟩:=hy
 refine zf Wv ?_
 obtain⟨stk,cur,nx,live,fl⟩:=m
 simp only[uQ,List.map,go_sem,G3,G0,G2,(z4f d f _ hy' t ht ks x hx _).eq]
 by_cases h:isT d t ks=true
 ·have h':=h
  unfold isT at h'
  simp only[decide_eq_true_eq] at h'
  obtain⟨k,rfl⟩: ∃k:Nat,t=k:=⟨t.toNat,by omega⟩
  have hk:k<d.types.length:=by omega
  obtain⟨v0,e1,e2⟩:=h0.tyA hk
  simp only[go_sem,G0,G2,h,h0.at _ hk,e1]
  rw[z6 rfl rfl,z8]
  exact⟨⟨_,rfl⟩,rfl⟩
 ·have h2:isT d t ks=false:=by simpa using h
  simp only[go_sem,G0,G2,h2]
  rw[z6 rfl rfl,z8]
  exact⟨⟨_,rfl⟩,rfl⟩
def memT (d:DImage) (t k:Int):Int:=if 0≤t∧kindI d.types t=5∧0≤k∧k<(tyA d.types t).fields.length then(fdA (tyA d.types t).fields k).typ else-1
def memB (d:DImage) (t k e:Int):Bool:=decide (0≤t∧kindI d.types t=5∧0≤k∧k<(tyA d.types t).fields.length∧(fdA (tyA d.types t).fields k).typ=e)
theorem Uy (d:DImage) (f:DFunc) (y:AV) (hy:NV d f y) (t i e:Int) (ht:t<d.types.length) (m:Mem):Okv tab x9 [y,.int .i64 t,.int .i64 i,.int .i64 e] m (.bool (memB d t i e)):=by
 have hy':=hy
 obtain⟨ty,tx,fs,w0,w1,w2,w3,rfl,h0,h1,h2,h3,h4,h5,h6⟩:=hy
 refine zf Yj ?_
 obtain⟨stk,cur,nx,live,fl⟩:=m
 simp only[vJ,List.map,go_sem,G3,G0,G2,(z4f d f _ hy' t ht [5] _ (isL1 5 _) _).eq]
 by_cases h:isT d t [5]=true
 ·have h':=h
  unfold isT at h'
  simp only[decide_eq_true_eq,w11] at h'
  obtain⟨k,rfl⟩: ∃k:Nat,t=k:=⟨t.toNat,by omega⟩
  have hk:k<d.types.length:=by omega
  obtain⟨v0,e1,e2⟩:=h0.tyA hk
  simp only[go_sem,G0,G2,h,h0.at _ hk,e1,(qx _ _ e2 _ _).eq]
  by_cases hi:0≤i∧i<(tyA d.types k).fields.length
  ·obtain⟨j,rfl⟩: ∃j:Nat,i=j:=⟨i.toNat,by omega⟩
   have hj:j<(tyA d.types k).fields.length:=by omega
   have hd:decide ((0:Int)≤j∧(j:Int)<(tyA d.types k).fields.length)=true:=by simpa using hi
   simp only[go_sem,G0,G2,hd,h0.at _ hk,e1,e2.at _ hj,e2.fdA hj]
   rw[z6 rfl rfl,z8]
   refine⟨⟨_,rfl⟩,?_⟩
   unfold memB
   exact zeJ (by rw[beq_iff_eq];exact⟨fun q=>⟨h'.1,h'.2,hi.1,hi.2,q⟩,fun q=>q.2.2.2.2⟩)
  ·have hd:decide (0≤i∧i<(tyA d.types k).fields.length)=false:=by simpa using hi
   simp only[go_sem,G0,G2,hd]
   rw[z6 rfl rfl,z8]
   exact⟨⟨_,rfl⟩,by unfold memB;exact z2l (fun q=>hi ⟨q.2.2.1,q.2.2.2.1⟩)⟩
 ·have h2:isT d t [5]=false:=by simpa using h
  simp only[go_sem,G0,G2,h2]
  rw[z6 rfl rfl,z8]
  exact⟨⟨_,rfl⟩,by unfold memB;exact z2l (fun q=>h (by unfold isT;simpa using ⟨q.1,q.2.1⟩))⟩
theorem Ux (d:DImage) (y:AV) (hy:IsImage d y) (t i:Int) (ht:t<d.types.length) (m:Mem):Okv tab xh [y,.int .i64 t,.int .i64 i] m (.int .i64 (memT d t i)):=by
 have hy':=hy
 obtain⟨ty,tx,fs,rfl,h0,h1,h2⟩:=hy
 refine zf YP ?_
 obtain⟨stk,cur,nx,live,fl⟩:=m
 simp only[vV,List.map,go_sem,G3,G0,G2,(Qq d _ hy' t ht _).eq]
 by_cases h:0≤t∧kindI d.types t=5
 ·obtain⟨k,rfl⟩: ∃k:Nat,t=k:=⟨t.toNat,by omega⟩
  have hk:k<d.types.length:=by omega
  obtain⟨v0,e1,e2⟩:=h0.tyA hk
  have h5:(kindI d.types k !=5)=false:=by simpa using h.2
  by_cases hi:0≤i∧i<(tyA d.types k).fields.length
  ·obtain⟨j,rfl⟩: ∃j:Nat,i=j:=⟨i.toNat,by omega⟩
   have hj:j<(tyA d.types k).fields.length:=by omega
   simp only[go_sem,G0,G2,h5,show¬((j:Int)<0) by omega,h0.at _ hk,e1,e2.len,show¬((j:Int)≥(tyA d.types k).fields.length) by omega,e2.at _ hj,e2.fdA hj]
   rw[z6 rfl rfl,z8]
   exact⟨⟨_,rfl⟩,by unfold memT;rw[if_pos ⟨h.1,h.2,hi⟩]⟩
  ·have hm:memT d k i= -1:=by unfold memT;rw[if_neg fun q=>hi q.2.2]
   by_cases hi0:i<0
   ·simp only[go_sem,G0,G2,h5,hi0]
    rw[z6 rfl rfl,z8]
    exact⟨⟨_,rfl⟩,by rw[hm]⟩
   ·simp only[go_sem,G0,G2,h5,hi0,h0.at _ hk,e1,e2.len,show i≥(tyA d.types k).fields.length by omega]
    rw[z6 rfl rfl,z8]
    exact⟨⟨_,rfl⟩,by rw[hm]⟩
 ·have h5:(kindI d.types t !=5)=true:=by
   rw[bne_iff_ne];intro e
   by_cases ht0:0≤t
   ·exact h ⟨ht0,e⟩
   ·unfold kindI at e;rw[if_pos (by omega)] at e;omega
  simp only[go_sem,G0,G2,h5]
  rw[z6 rfl rfl,z8]
  exact⟨⟨_,rfl⟩,by unfold memT;rw[if_neg fun q=>h ⟨q.1,q.2.1⟩]⟩
def ofT (d:DImage) (t a b:Int):Int:=if 0≤t∧(kindI d.types t=a∨kindI d.types t=b) then(tyA d.types t).elem else-1
theorem z8x (d:DImage) (y:AV) (hy:IsImage d y) (t a b:Int) (ht:t<d.types.length) (m:Mem):Okv tab yQ [y,.int .i64 t,.int .u8 a,.int .u8 b] m (.int .i64 (ofT d t a b)):=by
 have hy':=hy
 obtain⟨ty,tx,fs,rfl,h0,h1,h2⟩:=hy
 refine zf Tf ?_
 obtain⟨stk,cur,nx,live,fl⟩:=m
 simp only[qA,List.map,go_sem,G3,G0,G2,(Qq d _ hy' t ht _).eq]
 by_cases h:t<0
 ·simp only[go_sem,G0,G2,h]
  rw[z6 rfl rfl,z8]
  exact⟨⟨_,rfl⟩,by unfold ofT;rw[if_neg (by omega)]⟩
 ·obtain⟨k,rfl⟩: ∃k:Nat,t=k:=⟨t.toNat,by omega⟩
  have hk:k<d.types.length:=by omega
  obtain⟨v0,e1,e2⟩:=h0.tyA hk
  simp only[go_sem,G0,G2,h]
  have fine:kindI d.types k=a∨kindI d.types k=b→ofT d k a b=(tyA d.types k).elem:=fun q=>by unfold ofT;rw[if_pos ⟨by omega,q⟩]
  by_cases ha:kindI d.types k=a
  ·have ha':(kindI d.types k !=a)=false:=by simpa using ha
   simp only[go_sem,G0,G2,ha',h0.at _ hk,e1]
   rw[z6 rfl rfl,z8]
   exact⟨⟨_,rfl⟩,by rw[fine (.inl ha)]⟩
  ·have ha':(kindI d.types k !=a)=true:=by simpa using ha
   by_cases hb:kindI d.types k=b
   ·have hb':(kindI d.types k !=b)=false:=by simpa using hb
    simp only[go_sem,G0,G2,ha',hb',h0.at _ hk,e1]
    rw[z6 rfl rfl,z8]
    exact⟨⟨_,rfl⟩,by rw[fine (.inr hb)]⟩
   ·have hb':(kindI d.types k !=b)=true:=by simpa using hb
    simp only[go_sem,G0,G2,ha',hb']
    rw[z6 rfl rfl,z8]
    exact⟨⟨_,rfl⟩,by unfold ofT;rw[if_neg fun q=>q.2.elim ha hb]⟩
abbrev IsI:Int→AV→Prop:=IsK .i64
def rdsk (x:DInstr) (k:Nat):List Int:=((List.range k).filter fun j=>rd (sk x j)&&decide (0≤opn x j)).map (opn x)
def wrsk (x:DInstr) (k:Nat):List Int:=((List.range k).filter fun j=>wt (sk x j)&&decide (0≤opn x j)).map (opn x)
def rds (x:DInstr):List Int:=rdsk x 3
def wrs (x:DInstr):List Int:=wrsk x 3
theorem z4C {x:DInstr} {k:Nat} (h:rd (sk x k)=true) (h':0≤opn x k):rdsk x (k+1)=rdsk x k++[opn x k]:=by
 unfold rdsk;rw[List.range_succ,List.filter_append,w33];simp[h,h']
theorem z1t {x:DInstr} {k:Nat} (h: ¬(rd (sk x k)=true∧0≤opn x k)):rdsk x (k+1)=rdsk x k:=by
 unfold rdsk;rw[List.range_succ,List.filter_append,w33];simp at h⊢;exact h
theorem z49 {x:DInstr} {k:Nat} (h:wt (sk x k)=true) (h':0≤opn x k):wrsk x (k+1)=wrsk x k++[opn x k]:=by
 unfold wrsk;rw[List.range_succ,List.filter_append,w33];simp[h,h']
theorem z0S {x:DInstr} {k:Nat} (h: ¬(wt (sk x k)=true∧0≤opn x k)):wrsk x (k+1)=wrsk x k:=by
 unfold wrsk;rw[List.range_succ,List.filter_append,w33];simp at h⊢;exact h
theorem VM (x:DInstr) (k:Nat):(rdsk x k).length≤k:=by unfold rdsk;rw[w44];exact w4a (List.length_filter_le _ _) (by simp)
theorem Y9 (x:DInstr) (k:Nat):(wrsk x k).length≤k:=by unfold wrsk;rw[w44];exact w4a (List.length_filter_le _ _) (by simp)
theorem XI (a:Int):All2 IsI [a] [.int .i64 a]:=⟨rfl,trivial⟩
theorem z5U {y1 y2:AV} {a b:List Int} {own:List Nat} {nx:Nat} (h:Own2 IsI 1 y1 a IsI 1 y2 b own nx) {r:AV} (hr: ∀t,t∈y1.toks∨t∈y2.toks→t∈r.toks):Own2 IsI 1 y1 a IsI 1 y2 b (own.filter fun t=>r.toks.contains t) nx:=by
 have key: ∀{y:AV} {xs:List Int},Own IsI 1 y xs own→(∀t∈y.toks,t∈r.toks)→Own IsI 1 y xs (own.filter fun t=>r.toks.contains t):=by
  intro y xs h k
  rcases h with h|⟨tk,ys,rfl,h2,h3|⟨t,h3,rfl⟩⟩
  ·exact .inl h
  ·exact .inr ⟨tk,ys,rfl,h2,.inl h3⟩
  ·exact .inr ⟨_,ys,rfl,h2,.inr ⟨t,w53.2 ⟨h3,by simpa using k t (by simp[AV.toks])⟩,rfl⟩⟩
 exact⟨key h.l fun t ht=>hr t (.inl ht),key h.r fun t ht=>hr t (.inr ht),h.dj,h.bl,h.br⟩
theorem Qs (x:DInstr) (hw:WfI x) (hx:InstrP x) (m:Mem):OkT tab yw [.agg [.int .u8 x.op,.int .i64 x.a,.int .i64 x.b,.int .i64 x.c]] m (fun r ts n=> ∃y1 y2,r= .tup [y1,y2]∧Own2 IsI 1 y1 (rds x) IsI 1 y2 (wrs x) ts n):=by
 refine VN Yf ?_
 obtain⟨stk,cur,nx,live,fl⟩:=m
 have hx':=hx
 obtain⟨a,b,c,hs,_⟩:=hx'
 simp only[vF,List.map,go_sem,G3,G0,G2,(z0D x.op _).eq,(qT x _).eq,hs]
 refine zb (α:=Nat) (fun k σ=>k≤3∧ ∃nz y1 y2 e,Own2 IsI 1 y1 (rdsk x k) IsI 1 y2 (wrsk x k) e nz∧heads [4,5,6,7,8] 2 σ=⟨tmps 64 [(4,y1),(5,y2),(6,.str [a,b,c]),(7,.ptr (stk++[cur]).length 1 (nx+1) 0),(8,.int .i64 k)],⟨stk++[cur],[⟨nx,[.int .u8 x.op,.int .i64 x.a,.int .i64 x.b,.int .i64 x.c]⟩,⟨nx+1,[.int .i64 x.a,.int .i64 x.b,.int .i64 x.c]⟩],nz,e::live,fl⟩⟩) (fun k=>3-k) 0 ?_ ?_
 ·refine⟨w0c _,?_⟩
  simp only[go_sem,G0,G1]
  exact⟨_,_,_,[],.nil _ _,rfl⟩
 ·rintro k σ ⟨hk,nz,y1,y2,e,ho,hσ⟩
  rw[hσ]
  clear hσ σ
  dsimp only at hk⊢
  by_cases h:k<3
  ·obtain⟨hlt,hfit,hin,hcnt,hget⟩:=Z1 hs hx hw h
   have hix:idx (.int .i64 (k:Int)) 3=some k:=zw .i64 k 3 h
   have hc3:=cell3 x h
   have hlt3:((k:Int)<3)=True:=eq_true (by omega)
   have hsucc:IntKind.i64.wrap ((k:Int)+1)=((k+1:Nat):Int):=by rw[zc (by omega) (by omega)];omega
   have hl1:=VM x k
   have hl2:=Y9 x k
   have q: ∀c:UInt8,(((sk x k).toNat:Int)==(c.toNat:Int))=(sk x k==c):=fun c=>by
    rw[w40,beq_iff_eq,beq_iff_eq,Int.ofNat_inj,UInt8.toNat_inj]
   have q114:=q 114
   have q101:=q 101
   have q119:=q 119
   have q103:=q 103
   change (((sk x k).toNat:Int)==114)=_ at q114
   change (((sk x k).toNat:Int)==101)=_ at q101
   change (((sk x k).toNat:Int)==119)=_ at q119
   change (((sk x k).toNat:Int)==103)=_ at q103
   by_cases hr:rd (sk x k)=true∧0≤opn x k
   ·obtain⟨hr,hp⟩:=hr
    have hw':wt (sk x k)=false:=by
     unfold rd at hr;unfold wt
     simp only[w31,beq_iff_eq] at hr
     rcases hr with e|e<;>rw[e]<;>rfl
    have hge:opn x k≥0:=hp
    have w1:(sk x k==119)=false:=by unfold wt at hw';simp only[w3b] at hw';exact hw'.1
    have w2:(sk x k==103)=false:=by unfold wt at hw';simp only[w3b] at hw';exact hw'.2
    by_cases r1:(sk x k==114)=true
    ·simp only[go_sem,G3,G0,G1,G2,hlt3,hix,hget,q114,r1,evIaddrA,w15,hc3,hge]
     refine ho.xv1 (zh · 1 .full [.int .i64 (opn x k)]) (XI _) (by simp;omega) fun y' n' e' ho'=> ?_
     simp only[go_sem,G3,G0,G2,hix,hget,q119,q103,w1,w2,hsucc]
     ·refine⟨k+1,by omega,by omega,_,_,_,_,?_,rfl⟩
      rw[z4C hr hp,z0S (by simp[hw'])];assumption
    ·have r1:(sk x k==114)=false:=by simpa using r1
     have r2:(sk x k==101)=true:=by unfold rd at hr;rw[r1] at hr;simpa using hr
     simp only[go_sem,G3,G0,G1,G2,hlt3,hix,hget,q114,q101,r1,r2,evIaddrA,w15,hc3,hge]
     refine ho.xv1 (zh · 1 .full [.int .i64 (opn x k)]) (XI _) (by simp;omega) fun y' n' e' ho'=> ?_
     simp only[go_sem,G3,G0,G2,hix,hget,q119,q103,w1,w2,hsucc]
     ·refine⟨k+1,by omega,by omega,_,_,_,_,?_,rfl⟩
      rw[z4C hr hp,z0S (by simp[hw'])];assumption
   ·by_cases hwp:wt (sk x k)=true∧0≤opn x k
    ·obtain⟨hwt,hp⟩:=hwp
     have hge:opn x k≥0:=hp
     have hr':rd (sk x k)=false:=by
      cases hq:rd (sk x k) with
      |false=>rfl
      |true=>exact absurd ⟨hq,hp⟩ hr
     have r1:(sk x k==114)=false:=by unfold rd at hr';simp only[w3b] at hr';exact hr'.1
     have r2:(sk x k==101)=false:=by unfold rd at hr';simp only[w3b] at hr';exact hr'.2
     by_cases w1:(sk x k==119)=true
     ·simp only[go_sem,G3,G0,G1,G2,hlt3,hix,hget,q114,q101,q119,r1,r2,w1,evIaddrA,w15,hc3,hge]
      refine ho.xv2 (zh · 1 .full [.int .i64 (opn x k)]) (XI _) (by simp;omega) fun y' n' e' ho'=> ?_
      simp only[go_sem,G0,G2,hsucc]
      ·refine⟨k+1,by omega,by omega,_,_,_,_,?_,rfl⟩
       rw[z1t hr,z49 hwt hp];assumption
     ·have w1:(sk x k==119)=false:=by simpa using w1
      have w2:(sk x k==103)=true:=by unfold wt at hwt;rw[w1] at hwt;simpa using hwt
      simp only[go_sem,G3,G0,G1,G2,hlt3,hix,hget,q114,q101,q119,q103,r1,r2,w1,w2,evIaddrA,w15,hc3,hge]
      refine ho.xv2 (zh · 1 .full [.int .i64 (opn x k)]) (XI _) (by simp;omega) fun y' n' e' ho'=> ?_
      simp only[go_sem,G0,G2,hsucc]
      ·refine⟨k+1,by omega,by omega,_,_,_,_,?_,rfl⟩
       rw[z1t hr,z49 hwt hp];assumption
    ·simp only[go_sem,G3,G0,G1,G2,hlt3,hix,hget,q114]
     repeat' (((first|refine zo ?_ ?_|refine zl ?_ ?_|refine zm ?_ ?_|refine zj ?_ ?_|refine zk ?_ ?_)<;>intro hq)<;>simp only[go_sem,G3,G0,G2,hq,hix,hget,q101,q119,q103,evIaddrA,w15,hc3,hsucc])
     all_goals first
      |(refine⟨k+1,by omega,by omega,_,_,_,_,?_,rfl⟩;rw[z1t hr,z0S hwp];exact ho)
      |(exfalso;simp only[rd,wt,w31,decide_eq_true_eq] at*;simp_all)
  ·have:k=3:=by omega
   subst this
   simp only[go_sem,G5,G0,G1,G2,show(((3:Nat):Int)<3)=False from eq_false (by decide)]
   refine ye ?_ ⟨y1,y2,rfl,z5U ho fun t ht=> ?_⟩
   ·simp only[AV.refs,refsAny,ho.l.refs,ho.r.refs];rfl
   ·simp only[AV.toks,toksAll,w0a,List.not_mem_nil,or_false];exact ht
theorem cellR {x:DInstr} {a b c:UInt8} (hs:shp x.op=[a,b,c]) {k:Nat} (h:k<3):takeV false 1 (([.bool (rd a),.bool (wt a),.int .i64 (lo b),.int .i64 (hi b),.bool (rd b),.bool (wt b),.int .i64 (lo c),.int .i64 (hi c),.bool (rd c),.bool (wt c)]:List AV).drop (k*4))=some (.bool (rd (sk x k))):=by
 unfold sk;rw[hs]
 rcases three h with rfl|rfl|rfl<;>rfl
theorem cellW {x:DInstr} {a b c:UInt8} (hs:shp x.op=[a,b,c]) {k:Nat} (h:k<3):takeV false 1 (([.bool (wt a),.int .i64 (lo b),.int .i64 (hi b),.bool (rd b),.bool (wt b),.int .i64 (lo c),.int .i64 (hi c),.bool (rd c),.bool (wt c)]:List AV).drop (k*4))=some (.bool (wt (sk x k))):=by
 unfold sk;rw[hs]
 rcases three h with rfl|rfl|rfl<;>rfl
theorem z4j (x:DInstr) (hw:WfI x) (hx:InstrP x) (m:Mem) (hf:m.floor≤m.stk.length+1):OkT tab jS [.agg [.int .u8 x.op,.int .i64 x.a,.int .i64 x.b,.int .i64 x.c]] m (fun r ts n=> ∃y1 y2,r= .tup [y1,y2,.int .i64 0]∧Own2 IsI 1 y1 (rds x) IsI 1 y2 (wrs x) ts n):=by
 refine VN z5C ?_
 obtain⟨stk,cur,nx,live,fl⟩:=m
 dsimp only at hf
 have hf':fl≤(stk++[cur]).length+1:=by simp;omega
 have hx':=hx
 obtain⟨a,b,c,hs,_⟩:=hx'
 have hS:=fun c nz lv=>(Ve x.op ⟨stk++[cur],c,nz,lv,fl⟩ hf').eq
 have hC:=fun c nz lv=>(Zi x ⟨stk++[cur],c,nz,lv,fl⟩ hf').eq
 rw[jN hx] at hC
 simp only[Ur,List.map,go_sem,G3,G0,G2,hC,show((0:Int) !=0)=false from rfl,hS,z1p hs,(kN x _).eq]
 refine zb (α:=Nat) (fun k σ=>k≤3∧ ∃nz st y1 y2 e,Own2 IsI 1 y1 (rdsk x k) IsI 1 y2 (wrsk x k) e nz∧heads [2,3,6,22,23] 2 σ=⟨tmps 54 [(2,y1),(3,y2),(6,.ptr (stk++[cur]).length 1 st 0),(22,.agg [.int .i64 x.a,.int .i64 x.b,.int .i64 x.c]),(23,.int .i64 k)],⟨stk++[cur],[⟨nx,[.int .u8 x.op,.int .i64 x.a,.int .i64 x.b,.int .i64 x.c]⟩,⟨st,[.int .i64 (lo a),.int .i64 (hi a),.bool (rd a),.bool (wt a),.int .i64 (lo b),.int .i64 (hi b),.bool (rd b),.bool (wt b),.int .i64 (lo c),.int .i64 (hi c),.bool (rd c),.bool (wt c)]⟩],nz,e::live,fl⟩⟩) (fun k=>3-k) 0 ?_ ?_
 ·refine⟨w0c _,?_⟩
  simp only[go_sem,G0,G1]
  exact⟨_,_,_,_,[],.nil _ _,rfl⟩
 ·rintro k σ ⟨hk,nz,st,y1,y2,e,ho,hσ⟩
  rw[hσ]
  clear hσ σ
  dsimp only at hk⊢
  by_cases h:k<3
  ·have hix:idx (.int .i64 (k:Int)) 3=some k:=zw .i64 k 3 h
   have hc3:=cell3 x h
   have hcr:=cellR hs h
   have hcw:=cellW hs h
   have hlt3:((k:Int)<3)=True:=eq_true (by omega)
   have hsucc:IntKind.i64.wrap ((k:Int)+1)=((k+1:Nat):Int):=by rw[zc (by omega) (by omega)];omega
   have hl1:=VM x k
   have hl2:=Y9 x k
   simp only[go_sem,G0,G1,G2,hlt3,hix,w15,hc3,evIaddrA,hcr]
   by_cases hr:rd (sk x k)=true∧0≤opn x k
   ·obtain⟨hr,hp⟩:=hr
    have hge:opn x k≥0:=hp
    simp only[go_sem,G0,G2,hr,hge]
    refine ho.xv1 (zh · 1 .full [.int .i64 (opn x k)]) (XI _) (by simp;omega) fun y' n' e' ho'=> ?_
    simp only[go_sem,G0,G2,hix,evIaddrA,hcw]
    by_cases hwt:wt (sk x k)=true
    ·simp only[go_sem,G0,G2,hwt,hge]
     refine ho'.xv2 (zh · 1 .full [.int .i64 (opn x k)]) (XI _) (by simp;omega) fun y2' n2 e2 ho2=> ?_
     simp only[go_sem,G0,G2,hsucc]
     refine⟨k+1,by omega,by omega,_,_,_,_,_,?_,rfl⟩
     rw[z4C hr hp,z49 hwt hp];exact ho2
    ·have hwt':wt (sk x k)=false:=by simpa using hwt
     simp only[go_sem,G0,G2,hwt',hsucc]
     refine⟨k+1,by omega,by omega,_,_,_,_,_,?_,rfl⟩
     rw[z4C hr hp,z0S (fun q=>hwt q.1)];exact ho'
   ·by_cases hwp:wt (sk x k)=true∧0≤opn x k
    ·obtain⟨hwt,hp⟩:=hwp
     have hge:opn x k≥0:=hp
     have hr':rd (sk x k)=false:=by
      cases hq:rd (sk x k) with
      |false=>rfl
      |true=>exact absurd ⟨hq,hp⟩ hr
     simp only[go_sem,G0,G2,hr',hix,evIaddrA,hcw,hwt,hge]
     refine ho.xv2 (zh · 1 .full [.int .i64 (opn x k)]) (XI _) (by simp;omega) fun y2' n2 e2 ho2=> ?_
     simp only[go_sem,G0,G2,hsucc]
     refine⟨k+1,by omega,by omega,_,_,_,_,_,?_,rfl⟩
     rw[z1t hr,z49 hwt hp];exact ho2
    ·repeat' (((first|refine zo ?_ ?_|refine zl ?_ ?_|refine zm ?_ ?_|refine zj ?_ ?_|refine zk ?_ ?_)<;>intro hq)<;>simp only[go_sem,G0,G2,hq,hix,evIaddrA,hcw,hsucc])
     all_goals first
      |(refine⟨k+1,by omega,by omega,_,_,_,_,_,?_,rfl⟩;rw[z1t hr,z0S hwp];exact ho)
      |(exfalso;simp only[decide_eq_true_eq] at*;simp_all)
  ·have:k=3:=by omega
   subst this
   simp only[go_sem,G5,G0,G1,G2,show(((3:Nat):Int)<3)=False from eq_false (by decide)]
   refine ye ?_ ⟨y1,y2,rfl,z5U ho fun t ht=> ?_⟩
   ·simp only[AV.refs,refsAny,ho.l.refs,ho.r.refs];rfl
   ·simp only[AV.toks,toksAll,w0a,List.not_mem_nil,or_false];exact ht
theorem zb5 {x:DInstr}: ∀s∈rds x,0≤s:=by
 intro s h
 unfold rds rdsk at h
 simp only[w3a,w53,w47,w0e,decide_eq_true_eq] at h
 obtain⟨k,⟨hk,h1,h2⟩,rfl⟩:=h
 exact h2
theorem zec {x:DInstr}: ∀s∈wrs x,0≤s:=by
 intro s h
 unfold wrs wrsk at h
 simp only[w3a,w53,w47,w0e,decide_eq_true_eq] at h
 obtain⟨k,⟨hk,h1,h2⟩,rfl⟩:=h
 exact h2
def NearP (d:DImage) (f:DFunc) (x:DInstr):Prop:=(∀s∈rds x++wrs x,s<f.slots.length)∧called x<d.funcs.length∧(x.op=2→x.b<d.texts.length)
theorem zen {x:DInstr} (h:InstrP x) (e:x.op=2):0≤x.b:=by
 obtain⟨a,b,c,hs,f1,f2,f3⟩:=h
 rw[e] at hs
 have:shp 2=[119,116,45]:=by decide
 rw[this] at hs
 injection hs with _ hs
 injection hs with hs _
 subst hs
 have:lo 116=0:=by decide
 unfold fitsK at f2;omega
theorem zeg (d:DImage) (f:DFunc) (y:AV) (hy:NV d f y) (x:DInstr) (hx:InstrP x) (hw:WfI x) (m:Mem) (hf:m.floor≤m.stk.length+1):
  Okv tab ta [y,.agg [.int .u8 x.op,.int .i64 x.a,.int .i64 x.b,.int .i64 x.c]] m (.int .i64 (if pb (NearP d f x) then 0 else 16)):=by
 obtain⟨ty,tx,fs,w0,w1,w2,w3,rfl,h0,h1,h2,h3,h4,h5,h6⟩:=hy
 refine zf Wu ?_
 obtain⟨stk,cur,nx,live,fl⟩:=m
 dsimp only at hf
 have hf':fl≤(stk++[cur]).length+1:=by simp;omega
 simp only[uP,List.map,go_sem,G3,G0,G2]
 refine(z4j x hw hx _ hf').xv fun r ts n1 ⟨y1,y2,hr,ho⟩=> ?_
 subst hr
 have hl1:=VM x 3
 have hl2:=Y9 x 3
 have hlive: ∃e,pushToks ts ([]::live)=e::live∧Own2 IsI 1 y1 (rds x) IsI 1 y2 (wrs x) e n1:=by
  cases ts with
  |nil=>exact⟨[],rfl,ho⟩
  |cons t ts=>exact⟨_,rfl,by simpa using ho⟩
 obtain⟨e,he,ho⟩:=hlive
 simp only[he]
 simp only[go_sem,G0,G2,show((0:Int) !=0)=false from rfl]
 obtain⟨z2,hz2,hc2⟩:=ho.r.elems
 refine ho.l.xv hz2 hc2 (by unfold rds wrs;omega) fun y3 n3 e3 ho3=> ?_
 have hy3:=ho3.sl (by rw[w04];unfold rds wrs;omega)
 have hlen3:(rds x++wrs x).length≤6:=by rw[w04];unfold rds wrs;omega
 have hnn: ∀s∈rds x++wrs x,0≤s:=fun s hs=>by
  rcases w0a.1 hs with q|q
  ·exact zb5 s q
  ·exact zec s q
 have hNP:NearP d f x↔(∀s∈rds x++wrs x,s<f.slots.length)∧called x<d.funcs.length∧(x.op=2→x.b<d.texts.length):=Iff.rfl
 generalize hL:rds x++wrs x=l at*
 simp only[go_sem,G3,G0,G2,hy3.len]
 refine zb (α:=Nat) (fun k σ=>(k≤l.length∧ ∀j,(hj:j<k)→(hl:j<l.length)→l[j]<f.slots.length)∧ ∃nz e,heads [2,3,22,23,24] 2 σ=⟨tmps 57 [(2,.ptr (stk++[cur]).length 0 nx 0),(3,.ptr (stk++[cur]).length 1 (nx+1) 0),(22,y3),(23,.int .i64 l.length),(24,.int .i64 k)],⟨stk++[cur],[⟨nx,[ty,tx,fs,.str f.name,.int .i64 f.params,.int .i64 f.result,w0,w1,w2,w3]⟩,⟨nx+1,[.int .u8 x.op,.int .i64 x.a,.int .i64 x.b,.int .i64 x.c]⟩],nz,e::live,fl⟩⟩) (fun k=>l.length-k) 0 ?_ ?_
 ·refine⟨⟨w0c _,fun j h=>absurd h (w38 _)⟩,?_⟩
  simp only[go_sem,G0,G1]
  exact⟨_,_,rfl⟩
 ·rintro k σ ⟨⟨hk,ht⟩,nz,e4,hσ⟩
  rw[hσ]
  clear hσ σ
  dsimp only at hk ht⊢
  by_cases h:k<l.length
  ·have e1:nth y3 k= .int .i64 l[k]:=hy3.nth h
   have hsucc:=zd h hy3.max
   have hnn':=hnn _ (w08 h)
   simp only[go_sem,G3,G0,G1,G2,w03,h,hy3.at _ h,e1,(qx _ _ h3 _ _).eq]
   by_cases hq:l[k]<f.slots.length
   ·have hd:decide (0≤l[k]∧l[k]<f.slots.length)=true:=decide_eq_true ⟨hnn',hq⟩
    simp only[go_sem,G0,G2,hd,hsucc]
    refine⟨k+1,by omega,⟨h,fun j hj hl=> ?_⟩,_,_,rfl⟩
    rcases w3e j k with q|q
    ·exact ht j q hl
    ·have:j=k:=by omega
     subst this;exact hq
   ·have hd:decide (0≤l[k]∧l[k]<f.slots.length)=false:=decide_eq_false fun q=>hq q.2
    simp only[go_sem,G0,G2,hd]
    rw[z6 rfl rfl,z8]
    refine⟨⟨_,rfl⟩,?_⟩
    rw[zg fun q=>hq ((hNP.1 q).1 _ (w08 h))];rfl
  ·have hke:k=l.length:=by omega
   subst hke
   have hall: ∀s∈l,s<f.slots.length:=fun s hs=>by
    obtain⟨j,hj,rfl⟩:=List.mem_iff_getElem.1 hs
    exact ht j hj hj
   simp only[go_sem,G3,G0,G1,G2,w03,h,(Vg x _).eq,h2.len]
   by_cases hcl:called x≥d.funcs.length
   ·simp only[go_sem,G0,G2,hcl]
    rw[z6 rfl rfl,z8]
    refine⟨⟨_,rfl⟩,?_⟩
    rw[zg fun q=>by have:=(hNP.1 q).2.1;omega];rfl
   ·by_cases h2o:x.op=2
    ·have h2b:(x.op==2)=true:=by simpa using h2o
     have hnn2:=zen hx h2o
     by_cases hb:x.b<d.texts.length
     ·have hd:decide (0≤x.b∧x.b<d.texts.length)=true:=decide_eq_true ⟨hnn2,hb⟩
      simp only[go_sem,G0,G2,hcl,h2b,(XV _ _ h1 _ _).eq,hd]
      rw[z6 rfl rfl,z8]
      refine⟨⟨_,rfl⟩,?_⟩
      rw[zD (hNP.2 ⟨hall,by omega,fun _=>hb⟩)];rfl
     ·have hd:decide (0≤x.b∧x.b<d.texts.length)=false:=decide_eq_false fun q=>hb q.2
      simp only[go_sem,G0,G2,hcl,h2b,(XV _ _ h1 _ _).eq,hd]
      rw[z6 rfl rfl,z8]
      refine⟨⟨_,rfl⟩,?_⟩
      rw[zg fun q=>hb ((hNP.1 q).2.2 h2o)];rfl
    ·have h2b:(x.op==2)=false:=by simpa using h2o
     simp only[go_sem,G0,G2,hcl,h2b]
     rw[z6 rfl rfl,z8]
     refine⟨⟨_,rfl⟩,?_⟩
     rw[zD (hNP.2 ⟨hall,by omega,fun q=>absurd q h2o⟩)];rfl
def fn00:DFunc:=⟨[],0,0,[],[],[],[]⟩
def fnA (l:List DFunc) (k:Nat):DFunc:=l.getD k fn00
theorem z0N {l:List DFunc} {j:Nat} (h:j<l.length):l[j]=fnA l j:=by simp[fnA,w00,h]
theorem _root_.Go.Vs.IsSl.fnA {l:List DFunc} {x:AV} (hx:IsSl IsFunc 7 l x) {j:Nat} (h:j<l.length): ∃w0 w1 w2 w3,Vs.nth x j= .agg [.str (fnA l j).name,.int .i64 (fnA l j).params,.int .i64 (fnA l j).result,w0,w1,w2,w3]∧
  IsSl IsField 2 (fnA l j).slots w0∧IsSl IsInstr 4 (fnA l j).code w1∧IsSl IsRun 2 (fnA l j).sizes w2∧IsSl IsRun 2 (fnA l j).lives w3:=by
 rw[←z0N h];exact hx.nth h
theorem zek (d:DImage) (y:AV) (hy:IsImage d y) (g:Nat) (hg:g<d.funcs.length) (x:DInstr) (hx:InstrP x) (hw:WfI x) (m:Mem):
  Okv tab tK [y,.int .i64 g,.agg [.int .u8 x.op,.int .i64 x.a,.int .i64 x.b,.int .i64 x.c]] m (.bool (pb (NearP d (fnA d.funcs g) x))):=by
 obtain⟨ty,tx,fs,rfl,h0,h1,h2⟩:=hy
 obtain⟨w0,w1,w2,w3,ef,h3,h4,h5,h6⟩:=h2.fnA hg
 have hatg:=h2.at .i64 hg
 refine zf Vq ?_
 obtain⟨stk,cur,nx,live,fl⟩:=m
 simp only[tw,List.map,go_sem,G3,G0,G2]
 refine(Qs x hw hx _).xv fun r ts n1 ⟨y1,y2,hr,ho⟩=> ?_
 subst hr
 have hl1:=VM x 3
 have hl2:=Y9 x 3
 have hlive: ∃e,pushToks ts ([]::live)=e::live∧Own2 IsI 1 y1 (rds x) IsI 1 y2 (wrs x) e n1:=by
  cases ts with
  |nil=>exact⟨[],rfl,ho⟩
  |cons t ts=>exact⟨_,rfl,by simpa using ho⟩
 obtain⟨e,he,ho⟩:=hlive
 simp only[he]
 simp only[go_sem,G0,G2]
 obtain⟨z1,hz1,hc1⟩:=ho.l.elems
 obtain⟨z2,hz2,hc2⟩:=ho.r.elems
 have hn:Own IsI 1 (.list 1 .full []) [] e:=Own.full (R:=IsI) (xs:=[]) (ys:=[]) trivial e
 refine hn.xv hz1 hc1 (by unfold rds;simp;omega) fun y3 n3 e3 ho3=> ?_
 simp only[go_sem,G0,G2]
 rw[w2e] at ho3
 refine ho3.xv hz2 hc2 (by unfold rds wrs;omega) fun y4 n4 e4 ho4=> ?_
 have hy3:=ho4.sl (by rw[w04];unfold rds wrs;omega)
 have hNP:NearP d (fnA d.funcs g) x↔(∀s∈rds x++wrs x,s<(fnA d.funcs g).slots.length)∧called x<d.funcs.length∧(x.op=2→x.b<d.texts.length):=Iff.rfl
 generalize fnA d.funcs g=f at*
 generalize hL:rds x++wrs x=l at*
 simp only[go_sem,G3,G0,G2]
 refine zb (α:=Nat) (fun k σ=>(k≤l.length∧ ∀j,(hj:j<k)→(hl:j<l.length)→l[j]<f.slots.length)∧ ∃nz e,heads [1,3,5,9,10] 2 σ=⟨tmps 60 [(1,.int .i64 g),(3,.ptr (stk++[cur]).length 0 nx 0),(5,.ptr (stk++[cur]).length 1 (nx+1) 0),(9,y4),(10,.int .i64 k)],⟨stk++[cur],[⟨nx,[ty,tx,fs]⟩,⟨nx+1,[.int .u8 x.op,.int .i64 x.a,.int .i64 x.b,.int .i64 x.c]⟩],nz,e::live,fl⟩⟩) (fun k=>l.length-k) 0 ?_ ?_
 ·refine⟨⟨w0c _,fun j h=>absurd h (w38 _)⟩,?_⟩
  simp only[go_sem,G0,G1]
  exact⟨_,_,rfl⟩
 ·rintro k σ ⟨⟨hk,ht⟩,nz,e5,hσ⟩
  rw[hσ]
  clear hσ σ
  dsimp only at hk ht⊢
  by_cases h:k<l.length
  ·have e1:nth y4 k= .int .i64 l[k]:=hy3.nth h
   have hsucc:=zd h hy3.max
   by_cases hq:l[k]<f.slots.length
   ·simp only[go_sem,G0,G1,G2,w03,h,hy3.len,hy3.at _ h,e1,hatg,ef,h3.len,show¬l[k]≥f.slots.length by omega,hsucc]
    refine⟨k+1,by omega,⟨h,fun j hj hl=> ?_⟩,_,_,rfl⟩
    rcases w3e j k with q|q
    ·exact ht j q hl
    ·have:j=k:=by omega
     subst this;exact hq
   ·simp only[go_sem,G0,G1,G2,w03,h,hy3.len,hy3.at _ h,e1,hatg,ef,h3.len,show l[k]≥f.slots.length by omega]
    rw[z6 rfl rfl,z8]
    refine⟨⟨_,rfl⟩,?_⟩
    rw[zg fun q=>hq ((hNP.1 q).1 _ (w08 h))]
  ·have hke:k=l.length:=by omega
   subst hke
   have hall: ∀s∈l,s<f.slots.length:=fun s hs=>by
    obtain⟨j,hj,rfl⟩:=List.mem_iff_getElem.1 hs
    exact ht j hj hj
   simp only[go_sem,G3,G0,G1,G2,w03,h,hy3.len,(qO x _).eq,h2.len]
   by_cases hcl:called x<d.funcs.length
   ·by_cases h2o:x.op=2
    ·have h2b:(x.op !=2)=false:=by simpa using h2o
     simp only[go_sem,G0,G2,hcl,h2b,h1.len]
     rw[z6 rfl rfl,z8]
     refine⟨⟨_,rfl⟩,congrArg AV.bool (kc ?_)⟩
     rw[decide_eq_true_eq]
     exact⟨fun q=>hNP.2 ⟨hall,hcl,fun _=>q⟩,fun q=>(hNP.1 q).2.2 h2o⟩
    ·have h2b:(x.op !=2)=true:=by simpa using h2o
     simp only[go_sem,G0,G2,hcl,h2b]
     rw[z6 rfl rfl,z8]
     refine⟨⟨_,rfl⟩,?_⟩
     rw[zD (hNP.2 ⟨hall,hcl,fun q=>absurd q h2o⟩)]
   ·simp only[go_sem,G0,G2,hcl]
    rw[z6 rfl rfl,z8]
    refine⟨⟨_,rfl⟩,?_⟩
    rw[zg fun q=>hcl (hNP.1 q).2.1]
def great04 (l:List DTyp):Bool:=decide (40<l.length)||l.any fun t=>decide (20<t.fields.length)||t.fields.any fun f=>decide (100<f.name.length)
theorem XZ (xs:List DTyp) (x:AV) (hx:IsSl IsTyp 4 xs x) (m:Mem):Okv tab uY [x] m (.bool (great04 xs)):=by
 refine zf Wj ?_
 obtain⟨stk,cur,nx,live,fl⟩:=m
 simp only[uI,List.map,go_sem,G0,G2,hx.len]
 by_cases h40:(xs.length:Int)>40
 ·simp only[go_sem,G0,G2,h40]
  rw[z6 rfl rfl,z8]
  exact⟨⟨_,rfl⟩,by simp[great04,show 40<xs.length by omega]⟩
 ·simp only[go_sem,h40]
  refine zb (α:=Nat) (fun i σ=>(i≤xs.length∧ ∀t∈xs.take i,(decide (20<t.fields.length)||t.fields.any fun f=>decide (100<f.name.length))=false)∧heads [0,3] 0 σ=⟨tmps 42 [(0,x),(3,.int .i64 i)],⟨stk++[cur],[],nx,[]::live,fl⟩⟩) (fun i=>xs.length-i) 0 ?_ ?_
  ·refine⟨⟨w0c _,by simp⟩,?_⟩
   simp only[go_sem,G0,G1]
   rfl
  ·rintro i σ ⟨⟨hi,hs⟩,hσ⟩
   rw[hσ]
   dsimp only at hi hs⊢
   by_cases h:i<xs.length
   ·obtain⟨v,e1,e2⟩:=hx.nth h
    have hany: ∀(hb:(decide (20<xs[i].fields.length)||xs[i].fields.any fun f=>decide (100<f.name.length))=true),great04 xs=true:=fun hb=>by
     have:(xs.any fun t=>decide (20<t.fields.length)||t.fields.any fun f=>decide (100<f.name.length))=true:=List.any_eq_true.2 ⟨xs[i],w08 h,hb⟩
     simp only[great04,this,Bool.or_true]
    by_cases h20:(xs[i].fields.length:Int)>20
    ·simp only[go_sem,G0,G1,G2,w03,h,hx.len,hx.at _ h,e1,e2.len,h20]
     rw[z6 rfl rfl,z8]
     exact⟨⟨_,rfl⟩,by rw[hany (by simp[show 20<xs[i].fields.length by omega])]⟩
    ·simp only[go_sem,G0,G1,G2,w03,h,hx.len,hx.at _ h,e1,e2.len,h20]
     refine zb (α:=Nat) (fun k σ=>(k≤xs[i].fields.length∧ ∀f∈xs[i].fields.take k,f.name.length≤100)∧heads [0,3,4] 0 σ=⟨tmps 42 [(0,x),(3,.int .i64 i),(4,.int .i64 k)],⟨stk++[cur],[],nx,[]::live,fl⟩⟩) (fun k=>xs[i].fields.length-k) 0 ?_ ?_
     ·refine⟨⟨w0c _,by simp⟩,?_⟩
      simp only[go_sem,G0,G1]
      rfl
     ·rintro k σ ⟨⟨hk,hks⟩,hσ⟩
      rw[hσ]
      dsimp only at hk hks⊢
      by_cases hkl:k<xs[i].fields.length
      ·have e3:nth v k= .agg [.str xs[i].fields[k].name,.int .i64 xs[i].fields[k].typ]:=e2.nth hkl
       by_cases hn:(xs[i].fields[k].name.length:Int)>100
       ·simp only[go_sem,G0,G1,G2,w03,hx.at _ h,e1,e2.len,hkl,e2.at _ hkl,e3,hn]
        rw[z6 rfl rfl,z8]
        refine⟨⟨_,rfl⟩,?_⟩
        rw[hany]
        have:(xs[i].fields.any fun f=>decide (100<f.name.length))=true:=List.any_eq_true.2 ⟨_,w08 hkl,by simp;omega⟩
        rw[this,Bool.or_true]
       ·simp only[go_sem,G0,G1,G2,w03,hx.at _ h,e1,e2.len,hkl,e2.at _ hkl,e3,hn,zd hkl e2.max]
        exact⟨k+1,by omega,⟨hkl,zn (P:=fun f=>f.name.length≤100) hkl hks (by omega)⟩,rfl⟩
      ·have:k=xs[i].fields.length:=by omega
       subst this
       rw[w09] at hks
       simp only[go_sem,G0,G1,G2,w03,hx.at _ h,e1,e2.len,hkl,zd h hx.max]
       refine⟨i+1,by omega,⟨h,zn (P:=fun t=>(decide (20<t.fields.length)||t.fields.any fun f=>decide (100<f.name.length))=false) h hs ?_⟩,rfl⟩
       have:(xs[i].fields.any fun f=>decide (100<f.name.length))=false:=List.any_eq_false.2 fun f hf=>by simpa using hks f hf
       rw[this,Bool.or_false]
       simp;omega
   ·have:i=xs.length:=by omega
    subst this
    rw[w09] at hs
    simp only[go_sem,G0,G1,G2,w03,h,hx.len]
    rw[z6 rfl rfl,z8]
    refine⟨⟨_,rfl⟩,?_⟩
    have:(xs.any fun t=>decide (20<t.fields.length)||t.fields.any fun f=>decide (100<f.name.length))=false:=List.any_eq_false.2 fun t ht=>by rw[hs t ht];simp
    simp only[great04,this,Bool.or_false]
    congr 1
    simp;omega
def greatF (f:DFunc):Bool:=decide (100<f.name.length)||decide (20<f.slots.length)||decide (210<f.code.length)||decide (210<f.sizes.length)||decide (210<f.lives.length)||f.slots.any fun s=>decide (100<s.name.length)
def sumCode (l:List DFunc):Nat:=(l.map fun f=>f.code.length).sum
theorem z4x (l:List DFunc) (i:Nat) (h:i<l.length):sumCode (l.take (i+1))=sumCode (l.take i)+l[i].code.length:=by
 unfold sumCode
 rw[w14 h,w33,List.sum_append];rfl
theorem z0w (l:List DFunc) (i:Nat):sumCode (l.take i)≤sumCode l:=by
 have:sumCode l=sumCode (l.take i)+sumCode (l.drop i):=by
  conv=>lhs;rw[←List.take_append_drop i l]
  unfold sumCode
  rw[w33,List.sum_append]
 omega
def great09 (m:DImage):Bool:=great04 m.types||decide (40<m.texts.length)||decide (40<m.funcs.length)||m.texts.any (fun t=>decide (100<t.length))||m.funcs.any greatF||decide (1000<sumCode m.funcs)
theorem XY (d:DImage) (x:AV) (hx:IsImage d x) (m:Mem):Okv tab xI [x] m (.bool (great09 d)):=by
 refine zf W7 ?_
 obtain⟨stk,cur,nx,live,fl⟩:=m
 obtain⟨types,texts,funcs⟩:=d
 obtain⟨v0,v1,v2,rfl,h0,h1,h2⟩:=hx
 dsimp only at h0 h1 h2
 obtain⟨K,hK⟩:=Okv.all (XZ _ _ h0)
 simp only[ux,List.map,go_sem,G3,G0,G2,hK]
 have done: ∀{b c:Bool} {stk':List (List Blk)} {cur':List Blk} {k:Nat},b=c→((∃k',(⟨stk,cur,k,live,fl⟩:Mem)=(⟨stk,cur,nx,live,fl⟩:Mem).bump k')∧AV.bool b=AV.bool c):=fun h=>⟨⟨_,rfl⟩,by rw[h]⟩
 cases hg:great04 types
 case true=>
  simp only[go_sem,G0,G2]
  rw[z6 rfl rfl,z8]
  exact⟨⟨_,rfl⟩,by simp[great09,hg]⟩
 by_cases ht:(texts.length:Int)>40
 ·simp only[go_sem,G0,G2,h1.len,ht]
  rw[z6 rfl rfl,z8]
  exact⟨⟨_,rfl⟩,by simp[great09,show 40<texts.length by omega]⟩
 by_cases hf:(funcs.length:Int)>40
 ·simp only[go_sem,G0,G2,h1.len,h2.len,ht,hf]
  rw[z6 rfl rfl,z8]
  exact⟨⟨_,rfl⟩,by simp[great09,show 40<funcs.length by omega]⟩
 simp only[go_sem,G0,G2,h1.len,h2.len,ht,hf]
 refine zb (α:=Nat) (fun i σ=>(i≤texts.length∧ ∀t∈texts.take i,t.length≤100)∧heads [1,3] 1 σ=⟨tmps 101 [(1,.ptr (stk++[cur]).length 0 nx 0),(3,.int .i64 i)],⟨stk++[cur],[⟨nx,[v0,v1,v2]⟩],K ⟨stk++[cur],[⟨nx,[v0,v1,v2]⟩],nx+1,[]::live,fl⟩,[]::live,fl⟩⟩) (fun i=>texts.length-i) 0 ?_ ?_
 ·refine⟨⟨w0c _,by simp⟩,?_⟩
  simp only[go_sem,G0,G1]
  rfl
 ·rintro i σ ⟨⟨hi,hs⟩,hσ⟩
  rw[hσ]
  dsimp only at hi hs⊢
  by_cases h:i<texts.length
  ·have e1:nth v1 i= .str texts[i]:=h1.nth h
   by_cases hn:(texts[i].length:Int)>100
   ·simp only[go_sem,G0,G1,G2,w03,h,h1.len,h1.at _ h,e1,hn]
    rw[z6 rfl rfl,z8]
    have:texts.any (fun t=>decide (100<t.length))=true:=List.any_eq_true.2 ⟨_,w08 h,by simp;omega⟩
    exact⟨⟨_,rfl⟩,by simp only[great09,this,Bool.or_true,Bool.true_or]⟩
   ·simp only[go_sem,G0,G1,G2,w03,h,h1.len,h1.at _ h,e1,hn,zd h h1.max]
    exact⟨i+1,by omega,⟨h,zn (P:=fun t=>t.length≤100) h hs (by omega)⟩,rfl⟩
  ·have:i=texts.length:=by omega
   subst this
   rw[w09] at hs
   have htx:texts.any (fun t=>decide (100<t.length))=false:=List.any_eq_false.2 fun t ht=>by simpa using hs t ht
   clear hσ σ
   simp only[go_sem,G0,G1,G2,w03,h,h1.len]
   refine zb (α:=Nat×Nat) (fun z σ=>(z.1≤funcs.length∧(∀f∈funcs.take z.1,greatF f=false)∧sumCode (funcs.take z.1)≤1000)∧heads [1,4,5] 1 σ=⟨tmps 101 [(1,.ptr (stk++[cur]).length 0 nx 0),(4,.int .i64 (sumCode (funcs.take z.1):Nat)),(5,.int .i64 z.1)],⟨stk++[cur],[⟨nx,[v0,v1,v2]⟩],z.2,[]::live,fl⟩⟩) (fun z=>funcs.length-z.1) (0,K ⟨stk++[cur],[⟨nx,[v0,v1,v2]⟩],nx+1,[]::live,fl⟩) ?_ ?_
   ·refine⟨⟨w0c _,by simp,by simp[sumCode]⟩,?_⟩
    simp only[go_sem,G0,G1,sumCode]
    rfl
   ·rintro⟨i,z⟩ σ ⟨⟨hi,hs,hsum⟩,hσ⟩
    rw[hσ]
    dsimp only at hi hs hsum⊢
    by_cases h:i<funcs.length
    ·obtain⟨w0,w1,w2,w3,e1,q0,q1,q2,q3⟩:=h2.nth h
     have hst:=z4x funcs i h
     have hany: ∀(hb:greatF funcs[i]=true),great09 ⟨types,texts,funcs⟩=true:=fun hb=>by
      have:funcs.any greatF=true:=List.any_eq_true.2 ⟨_,w08 h,hb⟩
      simp only[great09,this,Bool.or_true,Bool.true_or]
     have hcm:=q1.max
     simp only[go_sem,G3,G0,G1,G2,w03,h,h2.len,h2.at _ h,e1,q0.one,q1.one,q2.one,q3.one,q1.len]
     by_cases c1:(funcs[i].name.length:Int)>100
     ·simp only[go_sem,G0,G2,c1]
      rw[z6 rfl rfl,z8]
      exact⟨⟨_,rfl⟩,by rw[hany (by simp[greatF,show 100<funcs[i].name.length by omega])]⟩
     simp only[go_sem,G0,G2,c1,q0.len]
     by_cases c2:(funcs[i].slots.length:Int)>20
     ·simp only[go_sem,G0,G2,c2]
      rw[z6 rfl rfl,z8]
      exact⟨⟨_,rfl⟩,by rw[hany (by simp[greatF,show 20<funcs[i].slots.length by omega])]⟩
     simp only[go_sem,G0,G2,c2,q1.len]
     by_cases c3:(funcs[i].code.length:Int)>210
     ·simp only[go_sem,G0,G2,c3]
      rw[z6 rfl rfl,z8]
      exact⟨⟨_,rfl⟩,by rw[hany (by simp[greatF,show 210<funcs[i].code.length by omega])]⟩
     have ew:IntKind.i64.wrap ((sumCode (funcs.take i):Int)+funcs[i].code.length)=((sumCode (funcs.take (i+1)):Nat):Int):=by
      rw[zc (by omega) (by omega)];omega
     simp only[go_sem,G0,G2,c3,q2.len,ew]
     by_cases c4:(funcs[i].sizes.length:Int)>210
     ·simp only[go_sem,G0,G2,c4]
      rw[z6 rfl rfl,z8]
      exact⟨⟨_,rfl⟩,by rw[hany (by simp[greatF,show 210<funcs[i].sizes.length by omega])]⟩
     simp only[go_sem,G0,G2,c4,q3.len]
     by_cases c5:(funcs[i].lives.length:Int)>210
     ·simp only[go_sem,G0,G2,c5]
      rw[z6 rfl rfl,z8]
      exact⟨⟨_,rfl⟩,by rw[hany (by simp[greatF,show 210<funcs[i].lives.length by omega])]⟩
     simp only[go_sem,G0,G2,c5]
     by_cases c6:(sumCode (funcs.take (i+1)):Int)>1000
     ·simp only[go_sem,G0,G2,c6]
      rw[z6 rfl rfl,z8]
      have:=z0w funcs (i+1)
      exact⟨⟨_,rfl⟩,by simp[great09,show 1000<sumCode funcs by omega]⟩
     simp only[go_sem,G3,c6]
     refine zb (α:=Nat) (fun k σ=>(k≤funcs[i].slots.length∧ ∀s∈funcs[i].slots.take k,s.name.length≤100)∧heads [1,4,5,6,7] 2 σ=⟨tmps 101 [(1,.ptr (stk++[cur]).length 0 nx 0),(4,.int .i64 (sumCode (funcs.take (i+1)):Nat)),(5,.int .i64 i),(6,.ptr (stk++[cur]).length 1 z 0),(7,.int .i64 k)],
      ⟨stk++[cur],[⟨nx,[v0,v1,v2]⟩,⟨z,[.str funcs[i].name,.int .i64 funcs[i].params,.int .i64 funcs[i].result,w0,w1,w2,w3]⟩],z+1,[]::live,fl⟩⟩) (fun k=>funcs[i].slots.length-k) 0 ?_ ?_
     ·refine⟨⟨w0c _,by simp⟩,?_⟩
      simp only[go_sem,G0,G1]
      rfl
     ·rintro k σ ⟨⟨hk,hks⟩,hσ⟩
      rw[hσ]
      dsimp only at hk hks⊢
      by_cases hkl:k<funcs[i].slots.length
      ·have e3:nth w0 k= .agg [.str funcs[i].slots[k].name,.int .i64 funcs[i].slots[k].typ]:=q0.nth hkl
       by_cases hn:(funcs[i].slots[k].name.length:Int)>100
       ·simp only[go_sem,G0,G1,G2,w03,q0.len,hkl,q0.at _ hkl,e3,hn]
        rw[z6 rfl rfl,z8]
        refine⟨⟨_,rfl⟩,?_⟩
        rw[hany]
        have:(funcs[i].slots.any fun s=>decide (100<s.name.length))=true:=List.any_eq_true.2 ⟨_,w08 hkl,by simp;omega⟩
        simp only[greatF,this,Bool.or_true]
       ·simp only[go_sem,G0,G1,G2,w03,q0.len,hkl,q0.at _ hkl,e3,hn,zd hkl q0.max]
        exact⟨k+1,by omega,⟨hkl,zn (P:=fun f=>f.name.length≤100) hkl hks (by omega)⟩,rfl⟩
      ·have:k=funcs[i].slots.length:=by omega
       subst this
       rw[w09] at hks
       simp only[go_sem,G0,G1,G2,w03,q0.len,hkl,zd h h2.max]
       refine⟨(i+1,_),by dsimp only;omega,⟨h,zn (P:=fun f=>greatF f=false) h hs ?_,by dsimp only;omega⟩,rfl⟩
       have:(funcs[i].slots.any fun s=>decide (100<s.name.length))=false:=List.any_eq_false.2 fun f hf=>by simpa using hks f hf
       simp only[greatF,this,Bool.or_false]
       simp;omega
    ·have:i=funcs.length:=by omega
     subst this
     rw[w09] at hs hsum
     simp only[go_sem,G0,G1,G2,w03,h,h2.len]
     rw[z6 rfl rfl,z8]
     refine⟨⟨_,rfl⟩,?_⟩
     have:funcs.any greatF=false:=List.any_eq_false.2 fun f hf=>by rw[hs f hf];simp
     simp only[great09,hg,htx,this,Bool.or_false,Bool.false_or]
     congr 1
     simp;omega
theorem tY {α:Type} {R:α→AV→Prop} {s bytes:Nat} {stk:List (List Blk)} {cur:List Blk} {nx fl:Nat} {e:List Nat} {rest:List (List Nat)} {xs:List α} {z:AV} (hz:IsSl R s xs z) (hl:xs.length*bytes≤140737488355328):
  ∃y n e',evApp ⟨stk,cur,nx,e::rest,fl⟩ s bytes (.list s .full []) z=some (y,⟨stk,cur,n,e'::rest,fl⟩)∧IsSl R s xs y∧ ∀t∈e,t∈e':=by
 obtain⟨zs,h1,h2⟩:=hz.elems_any
 have ho:Own R s (.list s .full []) ([]:List α) (Mem.live ⟨stk,cur,nx,e::rest,fl⟩).flatten:=Own.full (show All2 R [] [] from trivial) _
 have hmx:=hz.max
 rcases ho.app (m:=⟨stk,cur,nx,e::rest,fl⟩) (h1 _) h2 (by simpa using hl) with⟨hcs,q⟩|⟨ys,q,eq⟩|⟨t,ys,q0,hy,_,q,eq⟩
 ·subst hcs;exact⟨_,_,_,q,.mk (show All2 R [] [] from trivial) (by simp),fun t h=>h⟩
 ·exact⟨_,_,_,eq,.mk q hmx,fun t h=>w18 _ h⟩
 ·cases hy
theorem z5o (l:List DTyp) (x:AV) (hx:IsSl IsTyp 4 l x) (hs:l.length≤1000∧ ∀t∈l,t.fields.length≤1000) (m:Mem):Okl IsTyp 4 tab vb [x] m l:=by
 refine qy VA ?_
 obtain⟨stk,cur,nx,live,fl⟩:=m
 simp only[tH,List.map,go_sem]
 refine zb (α:=Nat) (fun k σ=>k≤l.length∧ ∃nz y e,Own IsTyp 4 y (l.take k) e∧heads [0,3,4] 0 σ=⟨tmps 29 [(0,x),(3,y),(4,.int .i64 k)],⟨stk++[cur],[],nz,e::live,fl⟩⟩) (fun k=>l.length-k) 0 ?_ ?_
 ·refine⟨w0c _,?_⟩
  simp only[go_sem,G0,G1]
  exact⟨_,_,[],.nil _,rfl⟩
 ·rintro k σ ⟨hk,nz,y,e,ho,hσ⟩
  rw[hσ]
  clear hσ σ
  dsimp only at hk⊢
  by_cases h:k<l.length
  ·have hsucc:=zd h hx.max
   obtain⟨v0,e1,e2⟩:=hx.nth h
   have hat:=hx.at .i64 h
   have htk:=w14 h
   have hfl:=hs.2 _ (w08 h)
   have hkl:(l.take k).length=k:=by rw[w1f];omega
   simp only[go_sem,G3,G0,G1,G2,hx.len,w03,h,hat,e1,e2.one]
   obtain⟨y',n',e',ha,hy',hm⟩:=tY (stk:=stk++[cur]) (cur:=[⟨nz,[.int .u8 l[k].kind,.int .i64 l[k].elem,.int .i64 l[k].len,v0]⟩]) (nx:=nz+1) (fl:=fl) (e:=e) (rest:=live) (bytes:=24) e2 (by omega)
   simp only[go_sem,G3,G0,G2,ha,hy'.one,hy'.refs_cells]
   have ho':=ho.mono hm
   refine ho'.xv (cs:=[l[k]]) (zh · 4 .full [.agg [.int .u8 l[k].kind,.int .i64 l[k].elem,.int .i64 l[k].len,y']]) (show All2 IsTyp [l[k]] [.agg [.int .u8 l[k].kind,.int .i64 l[k].elem,.int .i64 l[k].len,y']] from⟨⟨y',rfl,hy'⟩,trivial⟩) (by rw[hkl,w1d];omega) fun y2 n2 e2 ho2=> ?_
   simp only[go_sem,G0,G2,hsucc]
   exact⟨k+1,by omega,h,n2,y2,e2,by rw[htk];exact ho2,rfl⟩
  ·have:k=l.length:=by omega
   subst this
   rw[w09] at ho
   simp only[go_sem,G0,G1,G2,hx.len,w03,h]
   exact vz ho
structure SmallI (d:DImage):Prop where
 t:d.types.length≤1000∧ ∀t∈d.types,t.fields.length≤1000
 x:d.texts.length≤1000
 f:d.funcs.length≤1000∧ ∀f∈d.funcs,f.slots.length≤1000∧f.code.length≤1000∧f.sizes.length≤1000∧f.lives.length≤1000
theorem SmallI.of {d:DImage} (h:great09 d=false):SmallI d:=by
 unfold great09 great04 greatF at h
 simp only[w3b,List.any_eq_false,decide_eq_false_iff_not,Bool.not_eq_true,Nat.not_lt] at h
 obtain⟨⟨⟨⟨⟨⟨h1,h2⟩,h3⟩,h4⟩,h5⟩,h6⟩,h7⟩:=h
 exact⟨⟨by omega,fun t ht=>by have:=(h2 t ht).1;omega⟩,by omega,by omega,fun f hf=>by have:=h6 f hf;omega⟩
theorem zaK (d:DImage) (y:AV) (hy:IsImage d y) (hs:SmallI d) (m:Mem) (hf:m.floor≤m.stk.length+1):OkT tab tL [y] m (fun r _ _=>IsImage d r):=by
 obtain⟨ty,tx,fs,rfl,h0,h1,h2⟩:=hy
 refine VN Vr ?_
 obtain⟨stk,cur,nx,live,fl⟩:=m
 obtain⟨z0,t0,k0,hc,hz⟩:=z5o d.types ty h0 hs.t ⟨stk++[cur],[⟨nx,[ty,tx,fs]⟩,⟨nx+1,[.nils,.nils,.nils]⟩,⟨nx+1+1,[.nils,.nils,.nils]⟩],nx+1+1+1,[]::live,max fl ((stk++[cur]).length+1)⟩
 have hlive: ∃e',pushToks t0 ([]::live)=e'::live:=by cases t0<;>exact⟨_,rfl⟩
 obtain⟨e0,he0⟩:=hlive
 simp only[he0] at hc
 have hzs:=hz.sl h0.max
 obtain⟨z1,k1,e1,ha1,hz1,hm1⟩:=tY (stk:=stk++[cur]) (cur:=[⟨nx,[ty,tx,fs]⟩,⟨nx+1,[.nils,.nils,.nils]⟩,⟨nx+1+1,[.nils,.nils,.nils]⟩]) (nx:=k0) (fl:=max fl ((stk++[cur]).length+1)) (e:=e0) (rest:=live) (bytes:=16) h1 (by have:=hs.x;omega)
 simp only[tz,List.map,go_sem,G3,G0,G4,G2,hc,ha1,hzs.one,hz1.one,hzs.refs_cells,hz1.refs_cells,evBuild]
 refine zb (α:=Nat) (fun k σ=>k≤d.funcs.length∧ ∃nz y e,Own IsFunc 7 y (d.funcs.take k) e∧heads [1,2,3,4] 3 σ=⟨tmps 53 [(1,.ptr (stk++[cur]).length 0 nx 0),(2,.ptr (stk++[cur]).length 1 (nx+1) 0),(3,.ptr (stk++[cur]).length 2 (nx+1+1) 0),(4,.int .i64 k)],⟨stk++[cur],[⟨nx,[ty,tx,fs]⟩,⟨nx+1,[.nils,.nils,.nils]⟩,⟨nx+1+1,[z0,z1,y]⟩],nz,e::live,fl⟩⟩) (fun k=>d.funcs.length-k) 0 ?_ ?_
 ·refine⟨w0c _,?_⟩
  simp only[go_sem,G0,G1]
  exact⟨_,_,_,.nil _,rfl⟩
 ·rintro k σ ⟨hk,nz,y,e,ho,hσ⟩
  rw[hσ]
  clear hσ σ
  dsimp only at hk⊢
  by_cases h:k<d.funcs.length
  ·have hsucc:=zd h h2.max
   obtain⟨w0,w1,w2,w3,ef,q0,q1,q2,q3⟩:=h2.nth h
   have hat:=h2.at .i64 h
   have htk:=w14 h
   obtain⟨f0,f1,f2,f3⟩:=hs.f.2 _ (w08 h)
   have hfn:=hs.f.1
   have hkl:(d.funcs.take k).length=k:=by rw[w1f];omega
   have o3:=q0.one
   have o4:=q1.one
   have o5:=q2.one
   have o6:=q3.one
   simp only[go_sem,G3,G0,G1,G2,h2.len,w03,h,hat,ef,o3,o4,o5,o6]
   generalize d.funcs[k]=f at*
   obtain⟨v0,n0,e0,a0,p0,m0⟩:=tY (stk:=stk++[cur]) (cur:=[⟨nx,[ty,tx,fs]⟩,⟨nx+1,[.nils,.nils,.nils]⟩,⟨nx+1+1,[z0,z1,y]⟩,⟨nz,[.str f.name,.int .i64 f.params,.int .i64 f.result,w0,w1,w2,w3]⟩]) (nx:=nz+1) (fl:=fl) (e:=e) (rest:=live) (bytes:=24) q0 (by omega)
   simp only[go_sem,G3,G0,G4,G2,a0,p0.one,p0.refs_cells]
   obtain⟨v1,n1,e1,a1,p1,m1⟩:=tY (stk:=stk++[cur]) (cur:=[⟨nx,[ty,tx,fs]⟩,⟨nx+1,[.nils,.nils,.nils]⟩,⟨nx+1+1,[z0,z1,y]⟩,⟨nz,[.str f.name,.int .i64 f.params,.int .i64 f.result,v0,w1,w2,w3]⟩]) (nx:=n0) (fl:=fl) (e:=e0) (rest:=live) (bytes:=32) q1 (by omega)
   simp only[go_sem,G3,G0,G4,G2,a1,p1.one,p1.refs_cells]
   obtain⟨v2,n2,e2,a2,p2,m2⟩:=tY (stk:=stk++[cur]) (cur:=[⟨nx,[ty,tx,fs]⟩,⟨nx+1,[.nils,.nils,.nils]⟩,⟨nx+1+1,[z0,z1,y]⟩,⟨nz,[.str f.name,.int .i64 f.params,.int .i64 f.result,v0,v1,w2,w3]⟩]) (nx:=n1) (fl:=fl) (e:=e1) (rest:=live) (bytes:=16) q2 (by omega)
   simp only[go_sem,G3,G0,G4,G2,a2,p2.one,p2.refs_cells]
   obtain⟨v3,n3,e3,a3,p3,m3⟩:=tY (stk:=stk++[cur]) (cur:=[⟨nx,[ty,tx,fs]⟩,⟨nx+1,[.nils,.nils,.nils]⟩,⟨nx+1+1,[z0,z1,y]⟩,⟨nz,[.str f.name,.int .i64 f.params,.int .i64 f.result,v0,v1,v2,w3]⟩]) (nx:=n2) (fl:=fl) (e:=e2) (rest:=live) (bytes:=16) q3 (by omega)
   simp only[go_sem,G3,G0,G2,a3,p0.one,p1.one,p2.one,p3.one,p3.refs_cells]
   have ho':=((((ho.mono m0).mono m1).mono m2).mono m3)
   refine ho'.xv (cs:=[f]) (zh · 7 .full [.agg [.str f.name,.int .i64 f.params,.int .i64 f.result,v0,v1,v2,v3]]) (show All2 IsFunc [f] [.agg [.str f.name,.int .i64 f.params,.int .i64 f.result,v0,v1,v2,v3]] from⟨⟨v0,v1,v2,v3,rfl,p0,p1,p2,p3⟩,trivial⟩) (by rw[hkl,w1d];omega) fun y2 n2 e2 ho2=> ?_
   simp only[go_sem,G3,G0,G2,hsucc,ho2.one,ho2.cells]
   exact⟨k+1,by omega,h,n2,y2,e2,by rw[htk];exact ho2,rfl⟩
  ·have:k=d.funcs.length:=by omega
   subst this
   rw[w09] at ho
   have hos:=ho.sl h2.max
   simp only[go_sem,G3,G0,G1,G2,h2.len,w03,h,hzs.one,hz1.one,hos.one]
   refine ye (by simp only[AV.refs,refsAny,hzs.refs,hz1.refs,hos.refs];rfl) ?_
   exact⟨_,_,_,rfl,hzs,hz1,hos⟩
end Go.Proofs.W
end
section
namespace Go.Vs
def rwC (stk:List (List Blk)) (cur:List Blk) (lv k st:Nat) (y:List AV):List (List Blk):=(stk++[cur]).modify lv fun f=>f.set k ⟨st,y⟩
section
variable {stk : List (List Blk)} {cur : List Blk} {lv k st : Nat} {y y' : List AV}
theorem z8J:(rwC stk cur lv k st y).length=(stk++[cur]).length:=by simp[rwC]
theorem z8K (h:lv≤stk.length) (hk:k<((stk++[cur]).getD lv []).length):((rwC stk cur lv k st y).getD lv [])[k]? =some ⟨st,y⟩:=by
 have hl:lv<(stk++[cur]).length:=by simp;omega
 unfold rwC
 simp only[w00,w37] at hk⊢
 rw[w13 hl] at hk⊢
 simp only[if_true,Option.map_eq_map,w0d,w2a] at hk⊢
 simp[hk]
theorem z8I:(rwC stk cur lv k st y).modify lv (fun f=>f.set k ⟨st,y'⟩)=rwC stk cur lv k st y':=by
 unfold rwC
 apply w2c
 intro j
 simp only[w37]
 cases (stk++[cur])[j]? with
 |none=>simp
 |some f=>
  by_cases e:lv=j
  ·simp[e,List.set_set]
  ·simp[e]
theorem zb3 (h:((stk++[cur]).getD lv [])[k]? =some ⟨st,y⟩):stk++[cur]=rwC stk cur lv k st y:=by
 unfold rwC
 apply w2c
 intro j
 simp only[w37]
 by_cases e:lv=j
 ·subst e
  simp only[w00] at h
  cases hq:(stk++[cur])[lv]? with
  |none=>rfl
  |some f=>
   rw[hq] at h
   simp only[w2a] at h
   simp only[if_true,Option.map_eq_map,w0d,Option.some.injEq]
   apply w2c
   intro q
   rw[w36]
   by_cases e2:k=q
   ·subst e2
    obtain⟨hkf,hke⟩:=w06.1 h
    simp[hkf,hke]
   ·simp[e2]
 ·simp[e]
def wroteC (m:Mem) (lv k st:Nat) (y:List AV) (n:Nat) (l:List (List Nat)):Mem:={m.put lv k st y with nx:=n,live:=l}
theorem z0T {nx fl n:Nat} {live l:List (List Nat)}:wroteC ⟨stk,cur,nx,live,fl⟩ stk.length k st y' n l=⟨stk,cur.set k ⟨st,y'⟩,n,l,fl⟩:=by
 unfold wroteC Mem.put
 rw[if_pos (by simp)]
theorem Yv {m0:Mem} {c':List Blk} {nx' fl':Nat} {own:List Nat} {live':List (List Nat)} {r:AV} (hlv:lv≤stk.length) (h1:r.refs (stk++[cur]).length=false) (h2:r.toks=[]) (nx:Nat) (live:List (List Nat)):
  leave m0 ⟨rwC stk cur lv k st y,c',nx',own::live',fl'⟩ r=some (r,wroteC ⟨stk,cur,nx,live,m0.floor⟩ lv k st y nx' live'):=by
 unfold wroteC
 by_cases e:lv=stk.length
 ·have:rwC stk cur lv k st y=stk++[cur.set k ⟨st,y⟩]:=by
   unfold rwC;subst e
   rw[w4e (by simp)];simp
  rw[this,yO (by simpa using h1) h2]
  unfold Mem.put
  simp[e]
 ·have:rwC stk cur lv k st y=(stk.modify lv fun f=>f.set k ⟨st,y⟩)++[cur]:=by
   unfold rwC
   apply w2c
   intro j
   simp only[w37]
   by_cases hj:j<stk.length
   ·rw[w07 hj,w07 (by simpa using hj),w37]
   ·rw[w10 (by omega),w10 (by simp;omega),List.length_modify]
    cases [cur][j-stk.length]? with
    |none=>rfl
    |some z=>simp[show¬lv=j by omega]
  rw[this,yO (by simpa using h1) h2]
  unfold Mem.put
  simp[e]
end
theorem qm {S:List (List Blk)} {C:List Blk} {nx fl:Nat} {live:List (List Nat)} {lv k st:Nat} {cs:List AV} (h:Mem.blk ⟨S,C,nx,live,fl⟩ lv k st=some cs) (hlv:lv≤S.length):((S++[C]).getD lv [])[k]? =some ⟨st,cs⟩:=by
 unfold Mem.blk at h
 split at h
 ·rename_i b hb
  split at h
  ·rename_i e
   injection h with h
   have hb':b=⟨st,cs⟩:=by rw[←h,←eq_of_beq e]
   subst hb'
   unfold Mem.row at hb
   by_cases e:lv=S.length
   ·subst e;simpa using hb
   ·simp only at hb
    rw[if_neg (by simpa using e)] at hb
    simp only[w00] at hb⊢
    rw[w07 (by omega)];exact hb
  ·cases h
 ·cases h
theorem TB {S:List (List Blk)} {C c:List Blk} {nx fl n L k st:Nat} {live l:List (List Nat)} {y:List AV} (h:L≤S.length):wroteC ⟨S++[C],c,nx,live,fl⟩ L k st y n l=⟨rwC S C L k st y,c,n,l,fl⟩:=by
 unfold wroteC Mem.put rwC
 rw[if_neg (by simp;omega)]
theorem zc4 {S:List (List Blk)} {C:List Blk} {nx fl:Nat} {live:List (List Nat)} {lv k st:Nat} {cs:List AV} (h:Mem.blk ⟨S,C,nx,live,fl⟩ lv k st=some cs) (hlv:lv≤S.length):k<((S++[C]).getD lv []).length:=
 (w06.1 (qm h hlv)).1
theorem YJ {S:List (List Blk)} {C c:List Blk} {nx fl nx' fl':Nat} {live live':List (List Nat)} {lv k st:Nat} {cs:List AV} (h:Mem.blk ⟨S,C,nx,live,fl⟩ lv k st=some cs) (hlv:lv≤S.length):Mem.blk ⟨S++[C],c,nx',live',fl'⟩ lv k st=some cs:=by
 have h1:=qm h hlv
 unfold Mem.blk Mem.row
 simp only
 rw[if_neg (by simp;omega),h1]
 simp
end Go.Vs
end
section
namespace Go.Proofs.W
open Go.Vs
set_option linter.unusedSimpArgs false
set_option maxRecDepth 100000
def CallB (f:Nat) (args:List AV) (m:Mem) (Q:AV→List Blk→Prop):Prop:=
 ∃y bs k ts,CALL tab f args m=some (y,{m with cur:=m.cur++bs,nx:=k,live:=pushToks ts m.live})∧Q y (m.cur++bs)
theorem CallB.xv {f:Nat} {args:List AV} {m:Mem} {Q:AV→List Blk→Prop} {ρ:List AV} {k:Kont} {l:List AOper} {d:Option Nat} (h:CallB f args m Q) (q: ∀y bs n ts,Q y (m.cur++bs)→Xs tab l (setDst ρ d y) {m with cur:=m.cur++bs,nx:=n,live:=pushToks ts m.live} k):Xv tab (CALL tab f args m) d l ρ k:=by
 obtain⟨y,bs,n,ts,h1,h2⟩:=h
 rw[h1,td];exact q y bs n ts h2
def Pln (c:AV):Prop:=c.one=true∧(∀a b k,c.shift a b k=c)∧ ∀n m,frzV n m c=some (c,m)
theorem z8N (s:List UInt8):Pln (.str s):=⟨rfl,fun _ _ _=>rfl,fun n m=>by cases n<;>rfl⟩
theorem TQ (k:IntKind) (z:Int):Pln (.int k z):=⟨rfl,fun _ _ _=>rfl,fun n m=>by cases n<;>rfl⟩
theorem uo {α:Type} {R:α→AV→Prop} {s:Nat} {xs:List α} {y:AV} (h:IsSl R s xs y):Pln y:=by
 rcases h with⟨_,⟨rfl,rfl⟩|⟨tk,ys,rfl,h⟩⟩
 ·exact⟨rfl,fun _ _ _=>rfl,fun n m=>by cases n<;>rfl⟩
 ·exact⟨rfl,fun _ _ _=>rfl,fun n m=>by cases n<;>rfl⟩
theorem TP: ∀{cs:List AV},(∀c∈cs,Pln c)→allOne cs=true
 | [],_=>rfl
 |c::r,h=>by simp only[allOne,(h c w1c).1,TP fun x hx=>h x (w18 _ hx),Bool.and_self]
theorem z1u (a b k:Nat): ∀{cs:List AV},(∀c∈cs,Pln c)→shiftAll a b k cs=cs
 | [],_=>rfl
 |c::r,h=>by simp only[shiftAll,(h c w1c).2.1,z1u a b k fun x hx=>h x (w18 _ hx)]
theorem z1v (n:Nat) (m:Mem): ∀{cs:List AV},(∀c∈cs,Pln c)→frzL (frzV n) m cs=some (cs,m)
 | [],_=>rfl
 |c::r,h=>by simp only[frzL,(h c w1c).2.2 n m,w26,z1v n m fun x hx=>h x (w18 _ hx),w0d]
theorem z7T {f:DFunc} {y:AV} (h:IsFunc f y): ∃cs,y= .agg cs∧cs.length=7∧ ∀c∈cs,Pln c:=by
 obtain⟨v0,v1,v2,v3,rfl,h0,h1,h2,h3⟩:=h
 refine⟨_,rfl,rfl,fun c hc=> ?_⟩
 simp only[w32,List.not_mem_nil,or_false] at hc
 rcases hc with rfl|rfl|rfl|rfl|rfl|rfl|rfl
 ·exact z8N _
 ·exact TQ _ _
 ·exact TQ _ _
 ·exact uo h0
 ·exact uo h1
 ·exact uo h2
 ·exact uo h3
def Rows:List DFunc→List AV→Prop
 | [],cs=>cs=[]
 |f::fs,cs=> ∃y r,IsFunc f (.agg y)∧cs=y++r∧Rows fs r
theorem QR {f:DFunc} {y:List AV} (h:IsFunc f (.agg y)):y.length=7:=by
 obtain⟨cs,e,h,_⟩:=z7T h;injection e with e;rw[e];exact h
theorem Rows.len: ∀{fs:List DFunc} {cs:List AV},Rows fs cs→cs.length=fs.length*7
 | [],_,h=>by rw[show _=[] from h];rfl
 |f::fs,_,⟨y,r,h1,h2,h3⟩=>by rw[h2,w04,QR h1,h3.len,w29];omega
theorem Rows.pln: ∀{fs:List DFunc} {cs:List AV},Rows fs cs→ ∀c∈cs,Pln c
 | [],_,h=>by rw[show _=[] from h];simp
 |f::fs,_,⟨y,r,h1,h2,h3⟩=>by
  intro c hc
  rw[h2,w0a] at hc
  rcases hc with hc|hc
  ·obtain⟨cs,e,_,h⟩:=z7T h1;injection e with e;exact h c (e▸hc)
  ·exact h3.pln c hc
theorem Rows.snoc {f:DFunc} {y:List AV} (hf:IsFunc f (.agg y)): ∀{fs:List DFunc} {cs:List AV},Rows fs cs→Rows (fs++[f]) (cs++y)
 | [],_,h=>by rw[show _=[] from h];exact⟨y,[],hf,by simp,rfl⟩
 |g::fs,_,⟨z,r,h1,h2,h3⟩=>⟨z,r++y,h1,by rw[h2,w0f],h3.snoc hf⟩
theorem Rows.set {f:DFunc} {y:List AV} (hf:IsFunc f (.agg y)): ∀{fs:List DFunc} {cs:List AV} {j:Nat},Rows fs cs→j<fs.length→Rows (fs.set j f) (splice cs (j*7) y)
 | [],_,_,_,hj=>by simp at hj
 |g::fs,_,0,⟨z,r,h1,h2,h3⟩,_=>by
  refine⟨y,r,hf,?_,h3⟩
  subst h2
  unfold splice
  simp[QR hf,←QR h1]
 |g::fs,_,j+1,⟨z,r,h1,h2,h3⟩,hj=>by
  refine⟨z,_,h1,?_,h3.set hf (by simpa using hj)⟩
  subst h2
  have hz:=QR h1
  unfold splice
  rw[show(j+1)*7=z.length+j*7 by omega,List.take_length_add_append,show z.length+j*7+y.length=z.length+(j*7+y.length) by omega,List.drop_length_add_append]
  simp only[w0f]
theorem Rows.all2: ∀{fs:List DFunc} {cs:List AV},Rows fs cs→All2 IsFunc fs (chunk 7 fs.length cs)
 | [],_,_=>trivial
 |f::fs,_,⟨y,r,h1,h2,h3⟩=>by
  subst h2
  have hy:=QR h1
  refine⟨?_,?_⟩
  ·show IsFunc f (if(7==1)=true then _ else AV.agg ((y++r).take 7))
   rw[if_neg (by decide),w56 (by omega),w2f (by omega)];exact h1
  ·show All2 IsFunc fs (chunk 7 fs.length ((y++r).drop 7))
   rw[List.drop_append_of_le_length (by omega),List.drop_of_length_le (by omega),w2e];exact h3.all2
theorem Rows.sl {fs:List DFunc} {cs:List AV} (h:Rows fs cs) (hl:fs.length≤9223372036854775807):IsSl IsFunc 7 fs (.list 7 .none (chunk 7 fs.length cs)):= .mk h.all2 hl
def IRows:List DInstr→List AV→Prop
 | [],cs=>cs=[]
 |x::xs,cs=> ∃y r,IsInstr x (.agg y)∧cs=y++r∧IRows xs r
theorem z4Y {x:DInstr} {y:AV} (h:IsInstr x y): ∃cs,y= .agg cs∧cs.length=4∧ ∀c∈cs,Pln c:=by
 obtain rfl:=h
 refine⟨_,rfl,rfl,fun c hc=> ?_⟩
 simp only[w32,List.not_mem_nil,or_false] at hc
 rcases hc with rfl|rfl|rfl|rfl<;>exact TQ _ _
theorem Q6 {x:DInstr} {y:List AV} (h:IsInstr x (.agg y)):y.length=4:=by
 obtain⟨cs,e,h,_⟩:=z4Y h;injection e with e;rw[e];exact h
theorem IRows.len: ∀{xs:List DInstr} {cs:List AV},IRows xs cs→cs.length=xs.length*4
 | [],_,h=>by rw[show _=[] from h];rfl
 |x::xs,_,⟨y,r,h1,h2,h3⟩=>by rw[h2,w04,Q6 h1,h3.len,w29];omega
theorem IRows.pln: ∀{xs:List DInstr} {cs:List AV},IRows xs cs→ ∀c∈cs,Pln c
 | [],_,h=>by rw[show _=[] from h];simp
 |x::xs,_,⟨y,r,h1,h2,h3⟩=>by
  intro c hc
  rw[h2,w0a] at hc
  rcases hc with hc|hc
  ·obtain⟨cs,e,_,h⟩:=z4Y h1;injection e with e;exact h c (e▸hc)
  ·exact h3.pln c hc
theorem IRows.set {x:DInstr} {y:List AV} (hf:IsInstr x (.agg y)): ∀{xs:List DInstr} {cs:List AV} {j:Nat},IRows xs cs→j<xs.length→IRows (xs.set j x) (splice cs (j*4) y)
 | [],_,_,_,hj=>by simp at hj
 |g::fs,_,0,⟨z,r,h1,h2,h3⟩,_=>by
  refine⟨y,r,hf,?_,h3⟩
  subst h2
  unfold splice
  simp[Q6 hf,←Q6 h1]
 |g::fs,_,j+1,⟨z,r,h1,h2,h3⟩,hj=>by
  refine⟨z,_,h1,?_,h3.set hf (by simpa using hj)⟩
  subst h2
  have hz:=Q6 h1
  unfold splice
  rw[show(j+1)*4=z.length+j*4 by omega,List.take_length_add_append,show z.length+j*4+y.length=z.length+(j*4+y.length) by omega,List.drop_length_add_append]
  simp only[w0f]
theorem IRows.all2: ∀{xs:List DInstr} {cs:List AV},IRows xs cs→All2 IsInstr xs (chunk 4 xs.length cs)
 | [],_,_=>trivial
 |f::fs,_,⟨y,r,h1,h2,h3⟩=>by
  subst h2
  have hy:=Q6 h1
  refine⟨?_,?_⟩
  ·show IsInstr f (if(4==1)=true then _ else AV.agg ((y++r).take 4))
   rw[if_neg (by decide),w56 (by omega),w2f (by omega)];exact h1
  ·show All2 IsInstr fs (chunk 4 fs.length ((y++r).drop 4))
   rw[List.drop_append_of_le_length (by omega),List.drop_of_length_le (by omega),w2e];exact h3.all2
theorem IRows.of: ∀{xs:List DInstr} {ys:List AV},All2 IsInstr xs ys→IRows xs (ys.flatMap AV.cells)
 | [],[],_=>rfl
 |x::xs,y::ys,h=>by
  obtain⟨cs,rfl,_,_⟩:=z4Y h.1
  exact⟨cs,_,h.1,rfl,IRows.of h.2⟩
 | [],_::_,h=>h.elim
 |_::_,[],h=>h.elim
def CodeB (L:Nat) (cur:List Blk) (ex lo:Nat) (l:List DInstr) (y:AV) (hi:Nat):Prop:=
 (l=[]∧IsSl IsInstr 4 l y∧hi=lo)∨ ∃j st cs,y= .grow 4 L j st l.length∧cur[j]? =some ⟨st,cs⟩∧IRows l cs∧lo≤j∧j≠ex∧hi=j+1∧l≠[]
def RowsN (L:Nat) (cur:List Blk) (ex:Nat):Nat→List DFunc→List AV→Nat→Prop
 |lo,[],cs,hi=>cs=[]∧hi=lo
 |lo,f::fs,cs,hi=> ∃v0 v1 v2 v3 r mid,cs=[.str f.name,.int .i64 f.params,.int .i64 f.result,v0,v1,v2,v3]++r∧IsSl IsField 2 f.slots v0∧CodeB L cur ex lo f.code v1 mid∧IsSl IsRun 2 f.sizes v2∧IsSl IsRun 2 f.lives v3∧RowsN L cur ex mid fs r hi
theorem CodeB.le {L:Nat} {cur:List Blk} {ex lo hi:Nat} {l:List DInstr} {y:AV} (h:CodeB L cur ex lo l y hi):lo≤hi:=by
 rcases h with⟨_,_,e⟩|⟨j,_,_,_,_,_,h1,_,h2,_⟩<;>omega
theorem CodeB.cur {L:Nat} {cur cur':List Blk} {ex lo hi:Nat} {l:List DInstr} {y:AV} (h:CodeB L cur ex lo l y hi) (k: ∀j,lo≤j→j≠ex→ ∀b,cur[j]? =some b→cur'[j]? =some b):CodeB L cur' ex lo l y hi:=by
 rcases h with h|⟨j,st,cs,h1,h2,h3,h4,h5,h6⟩
 ·exact .inl h
 ·exact .inr ⟨j,st,cs,h1,k j h4 h5 _ h2,h3,h4,h5,h6⟩
theorem RowsN.cur {L:Nat} {cur cur':List Blk} {ex:Nat}: ∀{fs:List DFunc} {lo hi:Nat} {cs:List AV},RowsN L cur ex lo fs cs hi→(∀j,lo≤j→j≠ex→ ∀b,cur[j]? =some b→cur'[j]? =some b)→RowsN L cur' ex lo fs cs hi
 | [],_,_,_,h,_=>h
 |f::fs,lo,hi,_,⟨v0,v1,v2,v3,r,mid,e,h0,h1,h2,h3,h4⟩,k=>⟨v0,v1,v2,v3,r,mid,e,h0,h1.cur k,h2,h3,h4.cur fun j hj=>k j (w4a h1.le hj)⟩
theorem CodeB.cur2 {L:Nat} {cur cur':List Blk} {ex lo hi:Nat} {l:List DInstr} {y:AV} (h:CodeB L cur ex lo l y hi) (k: ∀j,lo≤j→j≠ex→j<hi→ ∀b,cur[j]? =some b→cur'[j]? =some b):CodeB L cur' ex lo l y hi:=by
 rcases h with h|⟨j,st,cs,h1,h2,h3,h4,h5,h6,h7⟩
 ·exact .inl h
 ·exact .inr ⟨j,st,cs,h1,k j h4 h5 (by omega) _ h2,h3,h4,h5,h6,h7⟩
theorem RowsN.le' {L:Nat} {cur:List Blk} {ex:Nat}: ∀{fs:List DFunc} {lo hi:Nat} {cs:List AV},RowsN L cur ex lo fs cs hi→lo≤hi
 | [],_,_,_,h=>by rw[h.2];exact w0b _
 |f::fs,lo,hi,_,⟨v0,v1,v2,v3,r,mid,e,h0,h1,h2,h3,h4⟩=>w4a h1.le h4.le'
theorem RowsN.cur2 {L:Nat} {cur cur':List Blk} {ex:Nat}: ∀{fs:List DFunc} {lo hi:Nat} {cs:List AV},RowsN L cur ex lo fs cs hi→(∀j,lo≤j→j≠ex→j<hi→ ∀b,cur[j]? =some b→cur'[j]? =some b)→RowsN L cur' ex lo fs cs hi
 | [],_,_,_,h,_=>h
 |f::fs,lo,hi,_,⟨v0,v1,v2,v3,r,mid,e,h0,h1,h2,h3,h4⟩,k=>⟨v0,v1,v2,v3,r,mid,e,h0,h1.cur2 fun j a b c=>k j a b (w58 c h4.le'),h2,h3,h4.cur2 fun j hj=>k j (w4a h1.le hj)⟩
theorem RowsN.len {L:Nat} {cur:List Blk} {ex:Nat}: ∀{fs:List DFunc} {lo hi:Nat} {cs:List AV},RowsN L cur ex lo fs cs hi→cs.length=fs.length*7
 | [],_,_,_,h=>by rw[h.1];rfl
 |f::fs,lo,hi,_,⟨v0,v1,v2,v3,r,mid,e,h0,h1,h2,h3,h4⟩=>by rw[e,w04,h4.len,w29];simp;omega
theorem RowsN.snoc {L:Nat} {cur:List Blk} {ex hi':Nat} {f:DFunc} {v0 v1 v2 v3:AV} (q0:IsSl IsField 2 f.slots v0) (q2:IsSl IsRun 2 f.sizes v2) (q3:IsSl IsRun 2 f.lives v3): ∀{fs:List DFunc} {lo hi:Nat} {cs:List AV},RowsN L cur ex lo fs cs hi→CodeB L cur ex hi f.code v1 hi'→
  RowsN L cur ex lo (fs++[f]) (cs++[.str f.name,.int .i64 f.params,.int .i64 f.result,v0,v1,v2,v3]) hi'
 | [],_,_,_,h,q1=>by
  obtain⟨rfl,rfl⟩:=h
  exact⟨v0,v1,v2,v3,[],hi',by simp,q0,q1,q2,q3,rfl,rfl⟩
 |g::fs,lo,hi,_,⟨u0,u1,u2,u3,r,mid,e,h0,h1,h2,h3,h4⟩,q1=>⟨u0,u1,u2,u3,_,mid,by rw[e,w0f],h0,h1,h2,h3,h4.snoc q0 q2 q3 q1⟩
theorem RowsN.le {L:Nat} {cur:List Blk} {ex:Nat}: ∀{fs:List DFunc} {lo hi:Nat} {cs:List AV},RowsN L cur ex lo fs cs hi→lo≤hi
 | [],_,_,_,h=>by rw[h.2];exact w0b _
 |f::fs,lo,hi,_,⟨v0,v1,v2,v3,r,mid,e,h0,h1,h2,h3,h4⟩=>w4a h1.le h4.le
theorem RowsN.frz {S:List (List Blk)} {fl:Nat} {live:List (List Nat)} {ex:Nat} (hfl:fl≤S.length): ∀{fs:List DFunc} {lo hi nx:Nat} {cur:List Blk} {cs:List AV},(∀f∈fs,f.code.length≤1000)→RowsN S.length cur ex lo fs cs hi→
  ∃cs' cur' nx',frzL (frzV 2) ⟨S,cur,nx,live,fl⟩ cs=some (cs',⟨S,cur',nx',live,fl⟩)∧Rows fs cs'∧cur'.length=cur.length∧ ∀i,i<lo∨i=ex∨hi≤i→cur'[i]? =cur[i]?
 | [],lo,hi,nx,cur,_,_,h=>by rw[h.1];exact⟨[],cur,nx,rfl,rfl,rfl,fun _ _=>rfl⟩
 |f::fs,lo,hi,nx,cur,_,hc,⟨v0,v1,v2,v3,r,mid,e,h0,h1,h2,h3,h4⟩=>by
  have n0:=(z8N f.name).2.2 2
  have n1:=(TQ .i64 f.params).2.2 2
  have n2:=(TQ .i64 f.result).2.2 2
  have p0:=(uo h0).2.2 2
  have p2:=(uo h2).2.2 2
  have p3:=(uo h3).2.2 2
  rcases h1 with⟨e1,e2,e3⟩|⟨j,st,ks,e1,e2,e3,e4,e5,e6,e7⟩
  ·obtain⟨cs',cur',nx',a1,a2,a3,a4⟩:=RowsN.frz (live:=live) hfl (nx:=nx) (fun g hg=>hc g (w18 _ hg)) h4
   have p1:=(uo e2).2.2 2
   refine⟨[.str f.name,.int .i64 f.params,.int .i64 f.result,v0,v1,v2,v3]++cs',cur',nx',?_,⟨_,cs',⟨v0,v1,v2,v3,rfl,h0,e2,h2,h3⟩,rfl,a2⟩,a3,fun i hi=>a4 i (hi.imp (fun h=>by omega) _root_.id)⟩
   rw[e]
   simp only[w21,w2e,frzL,n0,n1,n2,p0,p1,p2,p3,w26,a1,w0d]
  ·have hj:j<cur.length:=(w06.1 e2).1
   have hl:=e3.len
   have hb:Mem.blk ⟨S,cur,nx,live,fl⟩ S.length j st=some ks:=by simp[Mem.blk,Mem.row,e2]
   have g:frzV 2 ⟨S,cur,nx,live,fl⟩ v1=some (.list 4 .none (chunk 4 f.code.length ks),⟨S,cur.set j ⟨nx,[]⟩,nx+1,live,fl⟩):=by
    have q:=z1v 1 ⟨S,cur,nx,live,fl⟩ e3.pln
    rw[e1]
    simp only[frzV,hb]
    rw[if_pos ⟨hfl,by omega,by omega⟩,w2f (show ks.length≤f.code.length*4 by omega)]
    simp only[q,w26,TP e3.pln,hb,Option.isSome_some,and_self,if_true,Mem.put,beq_self_eq_true]
   have h4':RowsN S.length (cur.set j ⟨nx,[]⟩) ex mid fs r hi:=h4.cur fun i hi _ b hb=>by rw[w20 (by omega)];exact hb
   obtain⟨cs',cur',nx',a1,a2,a3,a4⟩:=RowsN.frz (live:=live) hfl (nx:=nx+1) (fun g hg=>hc g (w18 _ hg)) h4'
   have hsl:IsSl IsInstr 4 f.code (.list 4 .none (chunk 4 f.code.length ks)):= .mk e3.all2 (by have:=hc f w1c;omega)
   refine⟨[.str f.name,.int .i64 f.params,.int .i64 f.result,v0,.list 4 .none (chunk 4 f.code.length ks),v2,v3]++cs',cur',nx',?_,⟨_,cs',⟨v0,_,v2,v3,rfl,h0,hsl,h2,h3⟩,rfl,a2⟩,by rw[a3,List.length_set],fun i hi=> ?_⟩
   ·rw[e]
    simp only[w21,w2e,frzL,n0,n1,n2,p0,p2,p3,g,w26,a1,w0d]
   ·rw[a4 i (hi.imp (fun h=>by omega) _root_.id),w20 (by have:=h4.le;rcases hi with h|h|h<;>omega)]
section
variable (L xs : List Blk) (b b' : Blk)
theorem zc3:(L++[b]++xs)[L.length]? =some b:=by rw[w0f,w10 (w0b _)];simp
theorem zc2:(L++[b]++xs).set L.length b'=L++[b']++xs:=by rw[w0f,List.set_append_right _ _ (w0b _)];simp
theorem zdB {k:Nat} (h:k<L.length):(L++[b]++xs)[k]? =L[k]? :=by rw[w0f,w07 h]
end
theorem zbW {S:List (List Blk)} {cur:List Blk} {nx fl:Nat} {live:List (List Nat)} {l:List DInstr} {z:AV} (hz:IsSl IsInstr 4 l z) (hl:l.length≤1000):
  ∃y n xs,evAppB ⟨S,cur,nx,live,fl⟩ 4 32 (.list 4 .full []) z=some (y,⟨S,cur++xs,n,live,fl⟩)∧(l≠[]→xs.length=1)∧y.one=true∧y.cells=[y]∧y.toks=[]∧
   ∀cur':List Blk,cur'.length=cur.length→ ∀ex lo,lo≤cur.length→(l≠[]→ex≠cur.length)→ ∃hi,hi≤(cur'++xs).length∧CodeB S.length (cur'++xs) ex lo l y hi:=by
 obtain⟨zs,h1,h2⟩:=hz.elems_any
 cases l with
 |nil=>
  cases zs with
  |cons _ _=>exact h2.elim
  |nil=>
   refine⟨.list 4 .full [],nx,[],?_,fun h=>absurd rfl h,rfl,rfl,rfl,fun cur' hc ex lo hlo _=>⟨lo,by simp;omega,.inl ⟨rfl,.mk (show All2 IsInstr [] [] from trivial) (by simp),rfl⟩⟩⟩
   unfold evAppB evApp
   simp only[h1,beq_self_eq_true,if_true,w1a]
 |cons i is=>
  cases zs with
  |nil=>exact h2.elim
  |cons e r=>
   have hlen:(e::r).length=(i::is).length:=by
    have: ∀{xs:List DInstr} {ys:List AV},All2 IsInstr xs ys→ys.length=xs.length:=by
     intro xs
     induction xs with
     |nil=>intro ys h;cases ys with|nil=>rfl|cons _ _=>exact h.elim
     |cons x xs ih=>intro ys h;cases ys with|nil=>exact h.elim|cons y ys=>simp[ih h.2]
    exact this h2
   refine⟨.grow 4 S.length cur.length nx (i::is).length,nx+1,[⟨nx,(e::r).flatMap AV.cells⟩],?_,fun _=>rfl,rfl,rfl,rfl,fun cur' hc ex lo hlo hex=>⟨cur.length+1,by simp;omega,.inr ⟨cur.length,nx,_,rfl,by rw[←hc];exact vT _ _,IRows.of h2,hlo,fun e=>hex (by simp) e.symm,rfl,by simp⟩⟩⟩
   unfold evAppB
   simp only[h1,beq_self_eq_true,if_true,w2e,newRowB]
   rw[if_pos (by rw[hlen];omega),hlen]
def FnsN (fs:List DFunc) (L:Nat) (y:AV) (cur:List Blk):Prop:=
 (fs=[]∧y= .nils)∨ ∃j st cs hi,y= .grow 7 L j st fs.length∧cur[j]? =some ⟨st,cs⟩∧3≤j∧RowsN L cur j 3 fs cs hi∧hi≤cur.length
theorem zbM {fs:List DFunc} {f:DFunc} {S:List (List Blk)} {L ys:List Blk} {Y v0 v1 v2 v3:AV} {nx fl:Nat} {live:List (List Nat)} (ho:FnsN fs S.length Y L) (h3:3≤L.length) (hys:1≤ys.length) (hy2:f.code≠[]→ys.length=2)
  (q0:IsSl IsField 2 f.slots v0) (q2:IsSl IsRun 2 f.sizes v2) (q3:IsSl IsRun 2 f.lives v3) (hcode: ∀ex lo,lo≤L.length+1→(f.code≠[]→ex≠L.length+1)→ ∃hi,hi≤(L++ys).length∧CodeB S.length (L++ys) ex lo f.code v1 hi) (hfl:fl≤S.length) (hl:fs.length≤1000):
  ∃Y' n cur',evAppB ⟨S,L++ys,nx,live,fl⟩ 7 128 Y (.list 7 .full [.agg [.str f.name,.int .i64 f.params,.int .i64 f.result,v0,v1,v2,v3]])=some (Y',⟨S,cur',n,live,fl⟩)∧FnsN (fs++[f]) S.length Y' cur'∧(∀i,i<3→cur'[i]? =L[i]?)∧Y'.one=true∧Y'.cells=[Y']∧Y'.toks=[]:=by
 have hel: ∀m:Mem,m.elems 7 (.list 7 .full [.agg [.str f.name,.int .i64 f.params,.int .i64 f.result,v0,v1,v2,v3]])=some [.agg [.str f.name,.int .i64 f.params,.int .i64 f.result,v0,v1,v2,v3]]:=fun m=>zh m 7 .full _
 have hLy:(L++ys).length=L.length+ys.length:=by simp
 rcases ho with⟨rfl,rfl⟩|⟨j,st,cs,hi0,rfl,hb,hj,hr,hhi⟩
 ·obtain⟨hi,hh1,hh2⟩:=hcode (L++ys).length 3 (by omega) (fun h=>by have:=hy2 h;omega)
  have hc2:CodeB S.length (L++ys++[⟨nx,[.str f.name,.int .i64 f.params,.int .i64 f.result,v0,v1,v2,v3]⟩]) (L++ys).length 3 f.code v1 hi:=hh2.cur fun k _ _ b hb=>by rw[w07 (w06.1 hb).1];exact hb
  refine⟨.grow 7 S.length (L++ys).length nx 1,nx+1,L++ys++[⟨nx,[.str f.name,.int .i64 f.params,.int .i64 f.result,v0,v1,v2,v3]⟩],?_,.inr ⟨(L++ys).length,nx,_,hi,rfl,vT _ _,by omega,⟨v0,v1,v2,v3,[],hi,by simp,q0,hc2,q2,q3,rfl,rfl⟩,by simp;omega⟩,fun i hi=>by rw[w0f,w07 (by omega)],rfl,rfl,rfl⟩
  unfold evAppB
  simp only[hel,newRowB]
  rw[if_pos (by simp)]
  simp[AV.cells]
 ·have hcs:=hr.len
  have hjl:j<L.length:=(w06.1 hb).1
  obtain⟨hi,hh1,hh2⟩:=hcode j hi0 (by omega) (fun _=>by omega)
  have hjl2:j<(L++ys).length:=by omega
  have hb2:(L++ys)[j]? =some ⟨st,cs⟩:=by rw[w07 hjl];exact hb
  have mv: ∀k,k≠j→ ∀b X,(L++ys)[k]? =some b→((L++ys).set j X)[k]? =some b:=fun k hk b X h=>by rw[w20 (fun e=>hk e.symm)];exact h
  have hr2:RowsN S.length ((L++ys).set j ⟨nx,cs++[.str f.name,.int .i64 f.params,.int .i64 f.result,v0,v1,v2,v3]⟩) j 3 fs cs hi0:=hr.cur fun k _ hk b h=>mv k hk b _ (by rw[w07 (w06.1 h).1];exact h)
  have hc2:CodeB S.length ((L++ys).set j ⟨nx,cs++[.str f.name,.int .i64 f.params,.int .i64 f.result,v0,v1,v2,v3]⟩) j hi0 f.code v1 hi:=hh2.cur fun k _ hk b h=>mv k hk b _ h
  refine⟨.grow 7 S.length j nx (fs++[f]).length,nx+1,(L++ys).set j ⟨nx,cs++[.str f.name,.int .i64 f.params,.int .i64 f.result,v0,v1,v2,v3]⟩,?_,.inr ⟨j,nx,_,hi,rfl,by rw[w50 hjl2],hj,hr2.snoc q0 q2 q3 hc2,by rw[List.length_set];exact hh1⟩,fun i hi=>by rw[w20 (by omega),w07 (by omega)],rfl,rfl,rfl⟩
  have hblk:Mem.blk ⟨S,L++ys,nx,live,fl⟩ S.length j st=some cs:=by simp[Mem.blk,Mem.row,hb2]
  unfold evAppB evApp
  simp only[hel,hblk,beq_self_eq_true,Bool.true_and,w1d]
  rw[if_pos (by simp only[w0e,decide_eq_true_eq];omega)]
  simp only[w04,w1d,Mem.put,beq_self_eq_true,if_true,w30,List.flatMap_nil,w1a,AV.cells,w2f (show cs.length≤fs.length*7 by omega)]
theorem FnsN.set2 {fs:List DFunc} {L:Nat} {Y:AV} {cur:List Blk} (h:FnsN fs L Y cur) {i:Nat} (hi:i<3) (b:Blk):FnsN fs L Y (cur.set i b):=by
 rcases h with h|⟨j,st,cs,hi',h1,h2,h3,h4,h5⟩
 ·exact .inl h
 ·exact .inr ⟨j,st,cs,hi',h1,by rw[w20 (by omega)];exact h2,h3,h4.cur fun k hk _ b' hb=>by rw[w20 (by omega)];exact hb,by rw[List.length_set];exact h5⟩
def CallC (f:Nat) (args:List AV) (m:Mem) (Q:AV→List Blk→List Nat→Prop):Prop:=
 ∃y bs k ts,CALL tab f args m=some (y,{m with cur:=m.cur++bs,nx:=k,live:=pushToks ts m.live})∧Q y (m.cur++bs) ts
theorem zc1 {f:Nat} {a:AFunc} (h:tab f=some a) {args:List AV} {m:Mem} {Q:AV→List Blk→List Nat→Prop} (hx:X tab a.body (mk a.ntmps (.tup []) (numb 0 args)) (enter m) (.fin a.res m fun v m'=> ∃bs k ts,m'={m with cur:=m.cur++bs,nx:=k,live:=pushToks ts m.live}∧Q v (m.cur++bs) ts)) (hn:args.length≤a.ntmps:=by exact Nat.le_of_ble_eq_true rfl):
  CallC f args m Q:=by
 obtain⟨x,h1,bs,k,ts,h2,h3⟩:=zW h hx hn;exact⟨x.1,bs,k,ts,by rw[h1,←h2],h3⟩
theorem CallC.xv {f:Nat} {args:List AV} {m:Mem} {Q:AV→List Blk→List Nat→Prop} {ρ:List AV} {k:Kont} {l:List AOper} {d:Option Nat} (h:CallC f args m Q) (q: ∀y bs n ts,Q y (m.cur++bs) ts→Xs tab l (setDst ρ d y) {m with cur:=m.cur++bs,nx:=n,live:=pushToks ts m.live} k):Xv tab (CALL tab f args m) d l ρ k:=by
 obtain⟨y,bs,n,ts,h1,h2⟩:=h
 rw[h1,td];exact q y bs n ts h2
theorem z8k {α:Type} {R:α→AV→Prop} {s bytes:Nat} {stk:List (List Blk)} {cur:List Blk} {nx fl:Nat} {e:List Nat} {rest:List (List Nat)} {xs:List α} {z:AV} (hz:IsSl R s xs z) (hl:xs.length*bytes≤140737488355328):
  ∃y n e',evApp ⟨stk,cur,nx,e::rest,fl⟩ s bytes (.list s .full []) z=some (y,⟨stk,cur,n,e'::rest,fl⟩)∧Own R s y xs e'∧ ∀t∈e,t∈e':=by
 obtain⟨zs,h1,h2⟩:=hz.elems_any
 have ho:Own R s (.list s .full []) ([]:List α) (Mem.live ⟨stk,cur,nx,e::rest,fl⟩).flatten:=Own.full (show All2 R [] [] from trivial) _
 rcases ho.app (m:=⟨stk,cur,nx,e::rest,fl⟩) (h1 _) h2 (by simpa using hl) with⟨hcs,q⟩|⟨ys,q,eq⟩|⟨t,ys,q0,hy,_,q,eq⟩
 ·subst hcs;exact⟨_,_,_,q,Own.full (show All2 R [] [] from trivial) _,fun t h=>h⟩
 ·exact⟨_,_,_,eq,.inr ⟨_,ys,rfl,q,.inr ⟨_,w1c,rfl⟩⟩,fun t h=>w18 _ h⟩
 ·cases hy
theorem z7r {α:Type} {R:α→AV→Prop} {s:Nat} {y r:AV} {xs:List α} {e:List Nat} (h:Own R s y xs e) (hr: ∀t∈y.toks,t∈r.toks):Own R s y xs (e.filter fun t=>r.toks.contains t):=by
 rcases h with⟨rfl,rfl⟩|⟨tk,ys,rfl,h2,h3⟩
 ·exact .nil _
 ·rcases h3 with rfl|⟨t,ht,rfl⟩
  ·exact Own.full h2 _
  ·exact .inr ⟨_,ys,rfl,h2,.inr ⟨t,w53.2 ⟨ht,by rw[List.contains_iff_mem];exact hr t (by simp[AV.toks])⟩,rfl⟩⟩
def TwinN (d:DImage) (L lo:Nat) (y:AV) (cur:List Blk) (ts:List Nat):Prop:=
 ∃z0 z1 j st cs hi,y= .agg [z0,z1,.grow 7 L j st d.funcs.length]∧IsSl IsTyp 4 d.types z0∧IsSl IsStr 1 d.texts z1∧cur[j]? =some ⟨st,cs⟩∧lo≤j∧RowsN L cur j (lo+3) d.funcs cs hi∧Own IsStr 1 z1 d.texts ts∧hi≤cur.length
theorem z3p (a b c:Nat): ∀(xs ys:List AV),shiftAll a b c (xs++ys)=shiftAll a b c xs++shiftAll a b c ys
 | [],ys=>rfl
 |x::xs,ys=>by simp only[w21,shiftAll,z3p a b c xs ys]
theorem CodeB.shift {l l':Nat} {cur cur0:List Blk} {ex lo hi:Nat} {c:List DInstr} {y:AV} (h:CodeB l cur ex lo c y hi):
  CodeB l' (cur0++cur.map fun b=>⟨b.st,shiftAll l l' cur0.length b.cs⟩) (ex+cur0.length) (lo+cur0.length) c (y.shift l l' cur0.length) (hi+cur0.length):=by
 rcases h with⟨h1,h2,h3⟩|⟨j,st,cs,rfl,h2,h3,h4,h5,h6,h7⟩
 ·exact .inl ⟨h1,by rw[(uo h2).2.1];exact h2,by omega⟩
 ·refine .inr ⟨j+cur0.length,st,cs,by simp[AV.shift],?_,h3,by omega,by omega,by omega,h7⟩
  rw[Nat.add_comm,w10 (by omega),Nat.add_sub_cancel_left,w19,h2,w0d,z1u _ _ _ h3.pln]
theorem RowsN.shift {l l':Nat} {cur cur0:List Blk} {ex:Nat}: ∀{fs:List DFunc} {lo hi:Nat} {cs:List AV},RowsN l cur ex lo fs cs hi→
  RowsN l' (cur0++cur.map fun b=>⟨b.st,shiftAll l l' cur0.length b.cs⟩) (ex+cur0.length) (lo+cur0.length) fs (shiftAll l l' cur0.length cs) (hi+cur0.length)
 | [],_,_,_,h=>by rw[h.1];exact⟨rfl,by rw[h.2]⟩
 |f::fs,_,_,_,⟨v0,v1,v2,v3,r,mid,e,h0,h1,h2,h3,h4⟩=>by
  refine⟨v0,_,v2,v3,_,_,?_,h0,h1.shift,h2,h3,h4.shift⟩
  rw[e,z3p]
  simp only[shiftAll,AV.shift,(uo h0).2.1,(uo h2).2.1,(uo h3).2.1]
theorem zbN {stk:List (List Blk)} {cur c':List Blk} {nx nx' fl fl':Nat} {own:List Nat} {live:List (List Nat)} {z0 z1:AV} {j st n hi:Nat} {fs:List DFunc} {cs:List AV} {Q:AV×Mem→Prop} (h0:Pln z0) (h1:Pln z1) (hb:c'[j]? =some ⟨st,cs⟩) (hr:RowsN (stk++[cur]).length c' j 3 fs cs hi)
  (q: ∀bs k cs',(cur++bs)[j+cur.length]? =some ⟨st,cs'⟩→RowsN stk.length (cur++bs) (j+cur.length) (cur.length+3) fs cs' (hi+cur.length)→(cur++bs).length=cur.length+c'.length→Q (.agg [z0,z1,.grow 7 stk.length (j+cur.length) st n],⟨stk,cur++bs,k,pushToks (own.filter fun t=>(AV.agg [z0,z1,.grow 7 (stk++[cur]).length j st n]).toks.contains t) live,fl⟩)):
  Opt (leave ⟨stk,cur,nx,live,fl⟩ ⟨stk++[cur],c',nx',own::live,fl'⟩ (.agg [z0,z1,.grow 7 (stk++[cur]).length j st n])) Q:=by
 have e:leave ⟨stk,cur,nx,live,fl⟩ ⟨stk++[cur],c',nx',own::live,fl'⟩ (.agg [z0,z1,.grow 7 (stk++[cur]).length j st n])=some (.agg [z0,z1,.grow 7 stk.length (j+cur.length) st n],⟨stk,cur++c'.map (fun b=>⟨b.st,shiftAll (stk++[cur]).length stk.length cur.length b.cs⟩),nx',pushToks (own.filter fun t=>(AV.agg [z0,z1,.grow 7 (stk++[cur]).length j st n]).toks.contains t) live,fl⟩):=by
  unfold leave
  simp only[w51,w45,Option.some_or,AV.refs,refsAny,beq_self_eq_true,Bool.or_true,Bool.true_or,if_true,AV.shift,shiftAll,h0.2.1,h1.2.1,w52]
  simp
 rw[e,z8]
 refine q _ _ (shiftAll (stk++[cur]).length stk.length cur.length cs) ?_ ?_ (by simp)
 ·rw[Nat.add_comm,w10 (by omega),Nat.add_sub_cancel_left,w19,hb,w0d]
 ·rw[Nat.add_comm cur.length 3];exact hr.shift
theorem z8A (d:DImage) (y:AV) (hy:IsImage d y) (hs:SmallI d) (h0f:1≤d.funcs.length) (m:Mem) (hf:m.floor≤m.stk.length+1):CallC xl [y] m (fun r cur ts=>TwinN d m.stk.length m.cur.length r cur ts):=by
 obtain⟨ty,tx,fs,rfl,h0,h1,h2⟩:=hy
 refine zc1 YV ?_
 obtain⟨stk,cur,nx,live,fl⟩:=m
 dsimp only at hf
 have hfl:fl≤(stk++[cur]).length:=by simp;omega
 obtain⟨z0,t0,k0,hc,hz⟩:=z5o d.types ty h0 hs.t ⟨stk++[cur],[⟨nx,[ty,tx,fs]⟩,⟨nx+1,[.nils,.nils,.nils]⟩,⟨nx+1+1,[.nils,.nils,.nils]⟩],nx+1+1+1,[]::live,max fl ((stk++[cur]).length+1)⟩
 have hlive: ∃e',pushToks t0 ([]::live)=e'::live:=by cases t0<;>exact⟨_,rfl⟩
 obtain⟨e0,he0⟩:=hlive
 simp only[he0] at hc
 have hzs:=hz.sl h0.max
 obtain⟨z1,k1,e1,ha1,hw1,hm1⟩:=z8k (stk:=stk++[cur]) (cur:=[⟨nx,[ty,tx,fs]⟩,⟨nx+1,[.nils,.nils,.nils]⟩,⟨nx+1+1,[.nils,.nils,.nils]⟩]) (nx:=k0) (fl:=max fl ((stk++[cur]).length+1)) (e:=e0) (rest:=live) (bytes:=16) h1 (by have:=hs.x;omega)
 have hz1:=hw1.sl h1.max
 simp only[xd,List.map,go_sem,reduceIte,G3,G5,G0,G4,G1,G2,h0.one,h1.one,h2.one,hc,ha1,hzs.one,hz1.one,hzs.refs_cells,hz1.refs_cells,evBuild]
 refine zb (α:=Nat) (fun k σ=>k≤d.funcs.length∧ ∃nz e L Y,L[0]? =some ⟨nx,[ty,tx,fs]⟩∧L[1]? =some ⟨nx+1,[.nils,.nils,.nils]⟩∧L[2]? =some ⟨nx+1+1,[z0,z1,Y]⟩∧FnsN (d.funcs.take k) (stk++[cur]).length Y L∧Own IsStr 1 z1 d.texts e∧heads [1,2,3,4,999999] 3 σ=⟨tmps 53 [(1,.ptr (stk++[cur]).length 0 nx 0),(2,.ptr (stk++[cur]).length 1 (nx+1) 0),(3,.ptr (stk++[cur]).length 2 (nx+1+1) 0),(4,.int .i64 k),(999999,.undef)],⟨stk++[cur],L,nz,e::live,fl⟩⟩) (fun k=>d.funcs.length-k) 0 ?_ ?_
 ·refine⟨w0c _,?_⟩
  simp only[go_sem,reduceIte,G3,G5,G0,G4,G1,G2]
  exact⟨_,_,_,_,rfl,rfl,rfl,.inl ⟨rfl,rfl⟩,hw1,rfl⟩
 ·rintro k σ ⟨hk,nz,e,L,Y,g0,g1,g2,ho,hw,hσ⟩
  rw[hσ]
  clear hσ σ
  dsimp only at hk⊢
  have hL3:2<L.length:=(w06.1 g2).1
  by_cases h:k<d.funcs.length
  ·have hsucc:=zd h h2.max
   obtain⟨w0,w1,w2,w3,ef,q0,q1,q2,q3⟩:=h2.nth h
   have hat:=h2.at .i64 h
   have htk:=w14 h
   obtain⟨f0,f1,f2,f3⟩:=hs.f.2 _ (w08 h)
   have hfn:=hs.f.1
   have hkl:(d.funcs.take k).length=k:=by rw[w1f];omega
   have o3:=q0.one
   have o4:=q1.one
   have o5:=q2.one
   have o6:=q3.one
   simp only[go_sem,reduceIte,G3,G5,G0,G4,G1,G2,g0,h2.len,w03,h,hat,ef,o3,o4,o5,o6,vT,jz]
   generalize d.funcs[k]=f at*
   obtain⟨v0,n0,e0,a0,p0,m0⟩:=tY (stk:=stk++[cur]) (cur:=L++[⟨nz,[.str f.name,.int .i64 f.params,.int .i64 f.result,w0,w1,w2,w3]⟩]) (nx:=nz+1) (fl:=fl) (e:=e) (rest:=live) (bytes:=24) q0 (by omega)
   simp only[go_sem,reduceIte,G3,G5,G0,G4,G1,G2,a0,p0.one,p0.refs_cells,vT,jz]
   obtain⟨v1,n1,xs,a1,hx1,o1,oc1,ot1,hcode⟩:=zbW (S:=stk++[cur]) (cur:=L++[⟨nz,[.str f.name,.int .i64 f.params,.int .i64 f.result,v0,w1,w2,w3]⟩]) (nx:=n0) (fl:=fl) (live:=e0::live) q1 (by omega)
   simp only[go_sem,reduceIte,G3,G5,G0,G4,G1,G2,a1,o1,oc1,ot1,zc3,zc2]
   obtain⟨v2,n2,e2,a2,p2,m2⟩:=tY (stk:=stk++[cur]) (cur:=L++[⟨nz,[.str f.name,.int .i64 f.params,.int .i64 f.result,v0,v1,w2,w3]⟩]++xs) (nx:=n1) (fl:=fl) (e:=e0) (rest:=live) (bytes:=16) q2 (by omega)
   simp only[go_sem,reduceIte,G3,G5,G0,G4,G1,G2,a2,p2.one,p2.refs_cells,zc3,zc2]
   obtain⟨v3,n3,e3,a3,p3,m3⟩:=tY (stk:=stk++[cur]) (cur:=L++[⟨nz,[.str f.name,.int .i64 f.params,.int .i64 f.result,v0,v1,v2,w3]⟩]++xs) (nx:=n2) (fl:=fl) (e:=e2) (rest:=live) (bytes:=16) q3 (by omega)
   have b2: ∀b:Blk,(L++[b]++xs)[2]? =some ⟨nx+1+1,[z0,z1,Y]⟩:=fun b=>by rw[zdB _ _ _ hL3];exact g2
   simp only[go_sem,reduceIte,G3,G5,G0,G4,G1,G2,a3,p0.one,o1,p2.one,p3.one,p3.refs_cells,zc3,zc2,b2]
   obtain⟨Y',n4,cur',ha4,ho',hc',y1,y2,y3⟩:=zbM (S:=stk++[cur]) (nx:=n3) (fl:=fl) (live:=e3::live) (L:=L) (ys:=[⟨nz,[.str f.name,.int .i64 f.params,.int .i64 f.result,v0,v1,v2,v3]⟩]++xs) (Y:=Y) (fs:=d.funcs.take k) (f:=f) (v0:=v0) (v1:=v1) (v2:=v2) (v3:=v3) ho hL3 (by simp) (fun h=>by have:=hx1 h;simp;omega) p0 p2 p3
    (fun ex lo h1 h2=>by
     rw[←w0f]
     exact hcode (L++[⟨nz,[.str f.name,.int .i64 f.params,.int .i64 f.result,v0,v1,v2,v3]⟩]) (by simp) ex lo (by simpa using h1) (fun h=>by simpa using h2 h)) hfl (by omega)
   rw[←w0f] at ha4
   have c2:cur'[2]? =some ⟨nx+1+1,[z0,z1,Y]⟩:=by rw[hc' 2 (by omega)];exact g2
   have c0:cur'[0]? =some ⟨nx,[ty,tx,fs]⟩:=by rw[hc' 0 (by omega)];exact g0
   have c1:cur'[1]? =some ⟨nx+1,[.nils,.nils,.nils]⟩:=by rw[hc' 1 (by omega)];exact g1
   have c2l:2<cur'.length:=(w06.1 c2).1
   simp only[go_sem,reduceIte,G3,G5,G0,G4,G1,G2,ha4,c2,y1,y2,y3,hsucc]
   exact⟨k+1,by omega,h,n4,e3,_,Y',by rw[w20 (by omega)];exact c0,by rw[w20 (by omega)];exact c1,by rw[w50 c2l],by rw[htk];exact ho'.set2 (by omega) _,((hw.mono m0).mono m2).mono m3,rfl⟩
  ·have:k=d.funcs.length:=by omega
   subst this
   rw[w09] at ho
   rcases ho with⟨q,_⟩|⟨j,st,cs,hi,rfl,hb,hj,hr,hhi⟩
   ·rw[q] at h0f;simp at h0f
   have l1:1<L.length:=by omega
   have gs: ∀b:Blk,(L.set 1 b)[1]? =some b:=fun b=>w50 l1
   simp only[go_sem,reduceIte,G3,G5,G0,G4,G1,G2,g0,h2.len,w03,h,g2,hzs.one,hz1.one,g1,gs,show∀a b c e f,(AV.grow a b c e f).one=true from fun _ _ _ _ _=>rfl]
   have hr':=hr.cur (cur':=L.set 1 ⟨nx+1,[z0,z1,.grow 7 (stk++[cur]).length j st d.funcs.length]⟩) fun i hi _ b hb=>by rw[w20 (by omega)];exact hb
   refine zbN (uo hzs) (uo hz1) (cs:=cs) (by rw[w20 (by omega)];exact hb) hr' fun bs k cs' hbs hrs hbl=> ?_
   exact⟨bs,k,_,rfl,z0,z1,_,st,cs',_,rfl,hzs,hz1,hbs,by omega,hrs,z7r hw fun t ht=>by simp only[AV.toks,toksAll,w0a];exact .inr (.inl ht),by rw[hbl,List.length_set];omega⟩
theorem z6B {f:Mem→AV→Option (AV×Mem)} {ys ys':List AV} {m2:Mem}: ∀{xs xs':List AV} {m m1:Mem},frzL f m xs=some (xs',m1)→frzL f m1 ys=some (ys',m2)→frzL f m (xs++ys)=some (xs'++ys',m2)
 | [],xs',m,m1,h,k=>by
  simp only[frzL,Option.some.injEq,Prod.mk.injEq] at h
  obtain⟨rfl,rfl⟩:=h
  exact k
 |c::r,xs',m,m1,h,k=>by
  simp only[frzL,w05,w02] at h
  obtain⟨⟨c',ma⟩,h1,⟨r',mb⟩,h2,h3⟩:=h
  simp only[Prod.mk.injEq] at h3
  obtain⟨rfl,rfl⟩:=h3
  simp only[w21,frzL,h1,w26,z6B h2 k,w0d]
theorem Rows.append: ∀{fs gs:List DFunc} {a b:List AV},Rows fs a→Rows gs b→Rows (fs++gs) (a++b)
 | [],_,_,_,h,k=>by rw[show _=[] from h];exact k
 |f::fs,_,_,_,⟨y,r,h1,h2,h3⟩,k=>⟨y,_,h1,by rw[h2,w0f],h3.append k⟩
theorem z6A {S:List (List Blk)} {M:List Blk} {nx fl:Nat} {live:List (List Nat)} {t K sk j st lo hi:Nat} {z0 z1:AV} {fs gs:List DFunc} {cs gy:List AV} (hb:M[K]? =some ⟨sk,[z0,z1,.grow 7 S.length j st (fs.length+gs.length)]⟩) (hc:M[j]? =some ⟨st,cs++gy⟩)
  (hr:RowsN S.length M j lo fs cs hi) (hg:Rows gs gy) (hK:hi≤K) (hjK:j≠K) (hfl:fl≤S.length) (h0:Pln z0) (h1:Pln z1) (hcode: ∀f∈fs,f.code.length≤1000):
  ∃M' nx' cs',(∀ρ:List AV,ρ.getD t (.tup [])= .ptr S.length K sk 0→frzT [t] ⟨ρ,⟨S,M,nx,live,fl⟩⟩=some ⟨ρ,⟨S,M',nx',live,fl⟩⟩)∧M'[K]? =some ⟨sk,[z0,z1,.list 7 .none (chunk 7 (fs.length+gs.length) cs')]⟩∧Rows (fs++gs) cs'∧M'.length=M.length∧ ∀i,i<lo→i<j→M'[i]? =M[i]? :=by
 have b1:Mem.blk ⟨S,M,nx,live,fl⟩ S.length K sk=some [z0,z1,.grow 7 S.length j st (fs.length+gs.length)]:=by simp[Mem.blk,Mem.row,hb]
 have b2:Mem.blk ⟨S,M,nx,live,fl⟩ S.length j st=some (cs++gy):=by simp[Mem.blk,Mem.row,hc]
 have hl:(cs++gy).length=(fs.length+gs.length)*7:=by rw[w04,hr.len,hg.len];omega
 obtain⟨ca,M1,nx1,a1,a2,a3,a4⟩:=hr.frz hfl (nx:=nx) (live:=live) hcode
 have e:=z6B a1 (z1v 2 ⟨S,M1,nx1,live,fl⟩ hg.pln)
 have hrows:=a2.append hg
 have p:=hrows.pln
 have hMj:M1[j]? =some ⟨st,cs++gy⟩:=by rw[a4 j (.inr (.inl rfl))];exact hc
 have hMK:M1[K]? =some ⟨sk,[z0,z1,.grow 7 S.length j st (fs.length+gs.length)]⟩:=by rw[a4 K (.inr (.inr hK))];exact hb
 have b2':Mem.blk ⟨S,M1,nx1,live,fl⟩ S.length j st=some (cs++gy):=by simp[Mem.blk,Mem.row,hMj]
 have g:frzV 3 ⟨S,M,nx,live,fl⟩ (.grow 7 S.length j st (fs.length+gs.length))=some (.list 7 .none (chunk 7 (fs.length+gs.length) (ca++gy)),⟨S,M1.set j ⟨nx1,[]⟩,nx1+1,live,fl⟩):=by
  simp only[frzV,b2]
  rw[if_pos ⟨hfl,by omega,by omega⟩,w2f (show(cs++gy).length≤(fs.length+gs.length)*7 by omega)]
  simp only[e,w26,TP p,b2',Option.isSome_some,and_self,if_true,Mem.put,beq_self_eq_true]
 have hMK2:(M1.set j ⟨nx1,[]⟩)[K]? =some ⟨sk,[z0,z1,.grow 7 S.length j st (fs.length+gs.length)]⟩:=by rw[w20 hjK];exact hMK
 have b3:Mem.blk ⟨S,M1.set j ⟨nx1,[]⟩,nx1+1,live,fl⟩ S.length K sk=some [z0,z1,.grow 7 S.length j st (fs.length+gs.length)]:=by simp[Mem.blk,Mem.row,hMK2]
 have hKl:K<M1.length:=(w06.1 hMK).1
 refine⟨(M1.set j ⟨nx1,[]⟩).set K ⟨sk,[z0,z1,.list 7 .none (chunk 7 (fs.length+gs.length) (ca++gy))]⟩,nx1+1,ca++gy,?_,w50 (by rw[List.length_set];exact hKl),hrows,by rw[List.length_set,List.length_set];exact a3,fun i hi1 hi2=> ?_⟩
 ·intro ρ hρ
  simp only[frzT,hρ,b1]
  rw[if_pos hfl]
  simp only[frzL,h0.2.2,h1.2.2,g,w26,w0d,b3,Option.isSome_some,if_true,Mem.put,beq_self_eq_true]
 ·have:=hr.le
  rw[w20 (by omega),w20 (by omega),a4 i (.inl hi1)]
theorem Yk (j:Nat) (l:List (List Nat)):Vs.sink j [] l=l:=rfl
theorem zcy (p:Int) (m:Mem):Okv tab qw [.int .i64 p] m (.bool false):=by
 refine zf z0v ?_
 obtain⟨stk,cur,nx,live,fl⟩:=m
 simp only[jX,List.map,go_sem,G0,G2]
 rw[z6 rfl rfl,z8]
 exact⟨⟨_,rfl⟩,by simp⟩
theorem zaQ (p q:Int) (m:Mem):Okv tab jb [.int .i64 p,.int .i64 q] m (.bool (decide (p<q))):=by
 refine zf z1j ?_
 obtain⟨stk,cur,nx,live,fl⟩:=m
 simp only[Zb,List.map,go_sem,G3,G0,G2,(zcy p _).eq]
 rw[z6 rfl rfl,z8]
 exact⟨⟨_,rfl⟩,rfl⟩
def Sets (tab:Nat→Option AFunc) (f:Nat) (args:List AV) (m:Mem) (L k st:Nat) (y:List AV) (r:AV):Prop:= ∃n,CALL tab f args m=some (r,wroteC m L k st y n m.live)
noncomputable def setsNx (tab:Nat→Option AFunc) (f:Nat) (args:List AV) (m:Mem):Nat:=match CALL tab f args m with|some (_,m')=>m'.nx|none=>0
theorem Sets.eq {tab:Nat→Option AFunc} {f:Nat} {args:List AV} {m:Mem} {L k st:Nat} {y:List AV} {r:AV} (h:Sets tab f args m L k st y r):CALL tab f args m=some (r,wroteC m L k st y (setsNx tab f args m) m.live):=by
 obtain⟨n,h⟩:=h
 rw[h]
 unfold setsNx
 rw[h]
 rfl
theorem z0E {tab:Nat→Option AFunc} {f:Nat} {fn:AFunc} (h:tab f=some fn) {args:List AV} {m:Mem} {L k st:Nat} {y:List AV} {r:AV} (hx:X tab fn.body (mk fn.ntmps (.tup []) (numb 0 args)) (enter m) (.fin fn.res m fun v m'=> ∃n,v=r∧m'=wroteC m L k st y n m.live)) (hn:args.length≤fn.ntmps:=by exact Nat.le_of_ble_eq_true rfl):
  Sets tab f args m L k st y r:=by
 obtain⟨x,h1,n,h2,h3⟩:=zW h hx hn;exact⟨n,by rw[h1,←h2,←h3]⟩
theorem li (l:List AV) (k:Nat) {v:AV} (h:(l.drop k).head? =some v):takeV false 1 (l.drop k)=some v:=by
 unfold takeV
 cases hd:l.drop k with
 |nil=>rw[hd] at h;cases h
 |cons a r=>rw[hd] at h;simp at h⊢;exact h
theorem zaI (p q:Int) (S:List (List Blk)) (C:List Blk) (nx fl:Nat) (live:List (List Nat)) (L k st:Nat) (hL:L≤S.length) (hfl:fl≤L) (hb:Mem.blk ⟨S,C,nx,live,fl⟩ L k st=some [.int .i64 p,.int .i64 q]):
  Sets tab yy [.grow 1 L k st 2,.int .i64 0,.int .i64 2] ⟨S,C,nx,live,fl⟩ L k st [.int .i64 (min p q),.int .i64 (max p q)] (.tup []):=by
 refine z0E qL ?_
 have hrow:=qm hb hL
 have hk:=zc4 hb hL
 have hne: ∀y,(L==(rwC S C L k st y).length)=false:=fun y=>by rw[z8J];simp;omega
 have hget: ∀y,((rwC S C L k st y).getD L [])[k]? =some ⟨st,y⟩:=fun y=>z8K hL hk
 have i0:idx (.int .i64 0) 2=some 0:=rfl
 have i1:idx (.int .i64 1) 2=some 1:=rfl
 have a01:IntKind.i64.wrap (0+1)=1:=rfl
 have a12:IntKind.i64.wrap (1+1)=2:=rfl
 have s10:IntKind.i64.wrap (1-1)=0:=rfl
 simp only[yx,List.map,go_sem,G3,G0,G2,zb3 hrow]
 rw[yg]
 simp only[go_sem,G0,G1,G2,a01,show((1:Int)<2)=True from eq_true (by decide)]
 rw[yg]
 by_cases h:q<p
 ·have h1:min p q=q:=by omega
  have h2:max p q=p:=by omega
  rw[h1,h2]
  simp only[go_sem,G3,G0,G4,G1,G2,show((1:Int)>0)=True from eq_true (by decide),evIaddr,i0,i1,hne,hget,s10,w15,(zaQ q p _).eq,h,hfl,z8I,Yk]
  rw[yg]
  simp only[go_sem,G0,G1,G2,show((0:Int)>0)=False from eq_false (by decide),a12]
  rw[yg]
  simp only[go_sem,G0,G1,G2,show((2:Int)<2)=False from eq_false (by decide)]
  rw[Yv hL rfl rfl nx live,z8]
  exact⟨_,rfl,rfl⟩
 ·have h1:min p q=p:=by omega
  have h2:max p q=q:=by omega
  rw[h1,h2]
  simp only[go_sem,G0,G1,G2,show((1:Int)>0)=True from eq_true (by decide),evIaddr,i0,i1,hne,hget,s10,w15,(zaQ q p _).eq,h,a12]
  rw[yg]
  simp only[go_sem,G0,G1,G2,show((2:Int)<2)=False from eq_false (by decide)]
  rw[Yv hL rfl rfl nx live,z8]
  exact⟨_,rfl,rfl⟩
theorem zf0 (p q:Int) (S:List (List Blk)) (C:List Blk) (nx fl:Nat) (live:List (List Nat)) (L k st:Nat) (hL:L≤S.length) (hfl:fl≤L) (hb:Mem.blk ⟨S,C,nx,live,fl⟩ L k st=some [.int .i64 p,.int .i64 q]) (z:Int):
  Sets tab zV [.grow 1 L k st 2,.int .i64 0,.int .i64 2,.int .i64 z] ⟨S,C,nx,live,fl⟩ L k st [.int .i64 (min p q),.int .i64 (max p q)] (.tup []):=by
 refine z0E kh ?_
 simp only[xg,List.map,go_sem,G3]
 rw[yg]
 simp only[go_sem,G0,G1,G2,show IntKind.i64.wrap (2-0)=2 from rfl,show((2:Int)≤12)=True from eq_true (by decide),(zaI p q (S++[C]) [] nx fl ([]::live) L k st (by simp;omega) hfl (YJ hb hL)).eq,TB hL]
 rw[Yv hL rfl rfl nx live,z8]
 exact⟨_,rfl,rfl⟩
theorem zcG (m:Mem):Okv tab j7 [.int .u64 2] m (.int .i64 2):=by
 refine zf TI ?_
 obtain⟨stk,cur,nx,live,fl⟩:=m
 simp only[qZ,List.map,go_sem,G3,G0,G2,show((2:Int)≥4294967296)=False from eq_false (by decide),show((2:Int)≥65536)=False from eq_false (by decide),show((2:Int)≥256)=False from eq_false (by decide),show IntKind.u8.wrap 2=2 from rfl,show idx (.int .u8 2) 256=some 2 from rfl,
  UInt8.toNat_ofNat]
 rw[z6 rfl rfl,z8]
 exact⟨⟨_,rfl⟩,rfl⟩
theorem zf3 (m:Mem):Okv tab ka [.int .u64 2] m (.int .i64 2):=by
 refine zf z0t ?_
 obtain⟨stk,cur,nx,live,fl⟩:=m
 simp only[jV,List.map,go_sem,G0,G2,(zcG _).eq]
 rw[z6 rfl rfl,z8]
 exact⟨⟨_,rfl⟩,rfl⟩
theorem zei (p q:Int) (S:List (List Blk)) (C:List Blk) (nx fl:Nat) (live:List (List Nat)) (L k st:Nat) (hL:L≤S.length) (hfl:fl≤L) (hb:Mem.blk ⟨S,C,nx,live,fl⟩ L k st=some [.int .i64 p,.int .i64 q]):
  Sets tab xR [.grow 1 L k st 2] ⟨S,C,nx,live,fl⟩ L k st [.int .i64 (min p q),.int .i64 (max p q)] (.tup []):=by
 refine z0E Wn ?_
 have hP:=fun n z=>(zf0 p q (S++[C]) [] n fl ([]::live) L k st (by simp;omega) hfl (YJ hb hL) z).eq
 simp only[uK,List.map,go_sem,G0,G2,evLen,show IntKind.u64.wrap (2:Int)=2 from rfl,(zf3 _).eq,show(((2:Nat):Int))=2 from rfl,hP,TB hL]
 rw[Yv hL rfl rfl nx live,z8]
 exact⟨_,rfl,rfl⟩
theorem z4k (p q:Int) (h:p≠q) (S:List (List Blk)) (C:List Blk) (nx fl:Nat) (live:List (List Nat)) (L k st:Nat) (hL:L≤S.length) (hb:Mem.blk ⟨S,C,nx,live,fl⟩ L k st=some [.int .i64 p,.int .i64 q]):
  Okv tab zS [.grow 1 L k st 2] ⟨S,C,nx,live,fl⟩ (.grow 1 L k st 2):=by
 refine zf qj ?_
 have hrow:=qm hb hL
 have hne:(L==(S++[C]).length)=false:=by simp;omega
 have i0:idx (.int .i64 0) 2=some 0:=rfl
 have i1:idx (.int .i64 1) 2=some 1:=rfl
 have hq:(q==p)=false:=by simpa using fun e:q=p=>h e.symm
 simp only[yT,List.map,go_sem,G0,G2,evLen,show(((2:Nat):Int)<2)=False from eq_false (by decide)]
 rw[yg]
 simp only[go_sem,G0,G1,G2,evLen,show((1:Int)<((2:Nat):Int))=True from eq_true (by decide),evIaddr,i0,i1,show IntKind.i64.wrap (1-1)=0 from rfl,hne,hrow,w15,hq,show IntKind.i64.wrap (1+1)=2 from rfl]
 rw[yg]
 simp only[go_sem,G0,G1,G2,evLen,show((2:Int)<((2:Nat):Int))=False from eq_false (by decide)]
 rw[z6 (by simp only[AV.refs];simp;omega) rfl,z8]
 exact⟨⟨_,rfl⟩,rfl⟩
theorem z4l (p:Int) (S:List (List Blk)) (C:List Blk) (nx fl:Nat) (live:List (List Nat)) (L k st:Nat) (hL:L≤S.length) (hfl:fl≤L) (hb:Mem.blk ⟨S,C,nx,live,fl⟩ L k st=some [.int .i64 p,.int .i64 p]):
  Sets tab zS [.grow 1 L k st 2] ⟨S,C,nx,live,fl⟩ L k st [.int .i64 p,.int .i64 0] (.grow 1 L k st 1):=by
 refine z0E qj ?_
 have hrow:=qm hb hL
 have hk:=zc4 hb hL
 have hne: ∀y,(L==(rwC S C L k st y).length)=false:=fun y=>by rw[z8J];simp;omega
 have hget: ∀y,((rwC S C L k st y).getD L [])[k]? =some ⟨st,y⟩:=fun y=>z8K hL hk
 have i0:idx (.int .i64 0) 2=some 0:=rfl
 have i1:idx (.int .i64 1) 2=some 1:=rfl
 have b1:bound (some (.int .i64 1)) 2 0=some 1:=rfl
 have b2:bound (none:Option AV) 2 2=some 2:=rfl
 have b3:bound (some (.int .i64 1)) 2 2=some 1:=rfl
 have b4:bound (none:Option AV) 1 0=some 0:=rfl
 simp only[yT,List.map,go_sem,G0,G2,evLen,show(((2:Nat):Int)<2)=False from eq_false (by decide),zb3 hrow]
 rw[yg]
 simp only[go_sem,G5,G0,G1,G2,evLen,show((1:Int)<((2:Nat):Int))=True from eq_true (by decide),evIaddr,i0,i1,show IntKind.i64.wrap (1-1)=0 from rfl,hne,hget,w15,evSlice,b1,b2]
 rw[yg]
 simp only[go_sem,G3,G5,G0,G1,G2,evLen,show((1:Int)<((1:Nat):Int))=False from eq_false (by decide),evSlice,b1,b2,b3,b4,show((1:Nat)==0)=false from rfl,show((0:Nat)==0)=true from rfl,evClr,evClr0,AV.asArr,hne,hget,hfl,z8I,flatRep,w15,Nat.one_ne_zero]
 rw[Yv hL (by simp only[AV.refs];simp;omega) rfl nx live,z8]
 exact⟨_,rfl,rfl⟩
def SlotsP (d:DImage) (f:DFunc):Prop:= ∀s∈f.slots,0≤s.typ∧s.typ<d.types.length
theorem tj {d:DImage} {f:DFunc} (h:SlotsP d f) (s:Int):slotT f s<d.types.length:=by
 unfold slotT
 split
 ·rename_i hs
  obtain⟨k,rfl⟩: ∃k:Nat,s=k:=⟨s.toNat,by omega⟩
  have hk:k<f.slots.length:=by omega
  rw[Qa hk]
  exact(h _ (w08 hk)).2
 ·omega
def cellsN (ty tx fs w0 w1 w2 w3:AV) (f:DFunc):List AV:=[ty,tx,fs,.str f.name,.int .i64 f.params,.int .i64 f.result,w0,w1,w2,w3]
section
variable (d : DImage) (f : DFunc) (ty tx fs w0 w1 w2 w3 : AV) (hy : NV d f (.agg (cellsN ty tx fs w0 w1 w2 w3 f)))
include hy
theorem z4h (t:Int) (ht:t<d.types.length) (m:Mem) (L st:Nat) (hL:L≤m.stk.length) (hb:m.blk L 0 st=some (cellsN ty tx fs w0 w1 w2 w3 f)):Okv tab vu [.int .i64 t,.ptr L 0 st 0] m (.bool (isT d t [1])):=by
 refine zf ZD ?_
 obtain⟨stk,cur,nx,live,fl⟩:=m
 have hI:=fun m=>(z4f d f _ hy t ht [1] _ (isL1 1 .full) m).eq
 simp only[cellsN] at hI
 have hrow:=qm hb hL
 have hne:(L==(stk++[cur]).length)=false:=by simp at hL⊢;omega
 simp only[vm,List.map,go_sem,G3,G0,G2,hne,hrow,cellsN]
 simp only[go_sem,G0,G2,hI]
 rw[z6 rfl rfl,z8]
 exact⟨⟨_,rfl⟩,rfl⟩
theorem zaH (t:Int) (ht:t<d.types.length) (m:Mem) (L st:Nat) (hL:L≤m.stk.length) (hb:m.blk L 0 st=some (cellsN ty tx fs w0 w1 w2 w3 f)):Okv tab vy [.int .i64 t,.ptr L 0 st 0] m (.bool (isT d t [1,2,4])):=by
 refine zf ZG ?_
 obtain⟨stk,cur,nx,live,fl⟩:=m
 have hI:=fun m=>(z4f d f _ hy t ht [1,2,4] _ (isL3 1 2 4 .full) m).eq
 simp only[cellsN] at hI
 have hrow:=qm hb hL
 have hne:(L==(stk++[cur]).length)=false:=by simp at hL⊢;omega
 simp only[vp,List.map,go_sem,G3,G0,G2,hne,hrow,cellsN]
 simp only[go_sem,G0,G2,hI]
 rw[z6 rfl rfl,z8]
 exact⟨⟨_,rfl⟩,rfl⟩
theorem zcx (t:Int) (ht:t<d.types.length) (m:Mem) (L st:Nat) (hL:L≤m.stk.length) (hb:m.blk L 0 st=some (cellsN ty tx fs w0 w1 w2 w3 f)):Okv tab zK [.int .i64 t,.ptr L 0 st 0] m (.bool (!isT d t [2])):=by
 refine zf kR ?_
 obtain⟨stk,cur,nx,live,fl⟩:=m
 have hI:=fun m=>(z4f d f _ hy t ht [2] _ (isL1 2 .full) m).eq
 simp only[cellsN] at hI
 have hrow:=qm hb hL
 have hne:(L==(stk++[cur]).length)=false:=by simp at hL⊢;omega
 simp only[xA,List.map,go_sem,G3,G0,G2,hne,hrow,cellsN]
 simp only[go_sem,G0,G2,hI]
 rw[z6 rfl rfl,z8]
 exact⟨⟨_,rfl⟩,rfl⟩
theorem zaR (l:List Int) (x:AV) (hx:IsSl IsI 1 l x) (hl: ∀t∈l,t<d.types.length) (m:Mem) (L st:Nat) (hL:L≤m.stk.length) (hb:m.blk L 0 st=some (cellsN ty tx fs w0 w1 w2 w3 f)):
  Ok tab yF [x,.fn (.func zK) [] [.ptr L 0 st 0]] m (fun r=> ∃i,r= .int .i64 i∧(0≤i↔ ∃t∈l,isT d t [2]=false)):=by
 refine z5W tg ?_
 obtain⟨stk,cur,nx,live,fl⟩:=m
 simp only[yB,List.map,go_sem,G3,G0,G2,hx.len]
 refine zb (α:=Nat) (fun k σ=>(k≤l.length∧ ∀t∈l.take k,isT d t [2]=true)∧ ∃nz,heads [0,1,7,8] 0 σ=⟨tmps 19 [(0,x),(1,.fn (.func zK) [] [.ptr L 0 st 0]),(7,.int .i64 l.length),(8,.int .i64 k)],⟨stk++[cur],[],nz,[]::live,fl⟩⟩) (fun k=>l.length-k) 0 ?_ ?_
 ·refine⟨⟨w0c _,by simp⟩,?_⟩
  simp only[go_sem,G0,G1]
  exact⟨_,rfl⟩
 ·rintro k σ ⟨⟨hk,hv⟩,nz,hσ⟩
  rw[hσ]
  clear hσ σ
  dsimp only at hk hv⊢
  by_cases h:k<l.length
  ·have e1:nth x k= .int .i64 l[k]:=hx.nth h
   have hsucc:=zd h hx.max
   have hC:=(zcx d f ty tx fs w0 w1 w2 w3 hy l[k] (hl _ (w08 h)) ⟨stk++[cur],[],nz,[]::live,fl⟩ L st (by simp at hL⊢;omega) (YJ hb hL)).eq
   simp only[go_sem,G0,G1,G2,w03,h,hx.at _ h,e1,hC]
   cases hq:isT d l[k] [2]
   ·simp only[go_sem,G0,G2]
    rw[z6 rfl rfl,z8]
    exact⟨⟨_,rfl⟩,_,rfl,⟨fun _=>⟨_,w08 h,hq⟩,fun _=>by omega⟩⟩
   ·simp only[go_sem,G0,G2,hsucc]
    refine⟨k+1,by omega,⟨h,fun t ht=> ?_⟩,_,rfl⟩
    rw[w14 h] at ht
    rcases w0a.1 ht with q|q
    ·exact hv t q
    ·rw[w11.1 q];exact hq
  ·have:k=l.length:=by omega
   subst this
   rw[w09] at hv
   simp only[go_sem,G0,G1,G2,w03,h]
   rw[z6 rfl rfl,z8]
   exact⟨⟨_,rfl⟩,_,rfl,⟨fun h=>absurd h (by decide),fun⟨t,h1,h2⟩=>by rw[hv t h1] at h2;cases h2⟩⟩
theorem z5r (l:List Int) (x:AV) (hx:IsSl IsI 1 l x) (hl: ∀t∈l,t<d.types.length) (m:Mem) (L st:Nat) (hL:L≤m.stk.length) (hb:m.blk L 0 st=some (cellsN ty tx fs w0 w1 w2 w3 f)):
  Okv tab zN [x,.fn (.func zK) [] [.ptr L 0 st 0]] m (.bool (!l.all fun t=>isT d t [2])):=by
 refine zf vO ?_
 obtain⟨stk,cur,nx,live,fl⟩:=m
 simp only[yf,List.map,go_sem,G3,G0,G2]
 refine(zaR d f ty tx fs w0 w1 w2 w3 hy l x hx hl _ L st (by simp at hL⊢;omega) (YJ hb hL)).xv fun y n ⟨i,hy,hi⟩=> ?_
 subst hy
 simp only[go_sem,G0,G2]
 rw[z6 rfl rfl,z8]
 refine⟨⟨_,rfl⟩,congrArg AV.bool ?_⟩
 rw[w40,decide_eq_true_eq,Bool.not_eq_true',List.all_eq_false]
 refine Iff.trans hi ⟨fun⟨t,h1,h2⟩=>⟨t,h1,by simp[h2]⟩,fun⟨t,h1,h2⟩=>⟨t,h1,by simpa using h2⟩⟩
theorem z8y (l:List Int) (x:AV) (hx:IsSl IsI 1 l x) (hl: ∀t∈l,t<d.types.length) (m:Mem) (L st:Nat) (hL:L≤m.stk.length) (hb:m.blk L 0 st=some (cellsN ty tx fs w0 w1 w2 w3 f)):
  Okv tab vw [x,.ptr L 0 st 0] m (.bool (l.all fun t=>isT d t [2])):=by
 refine zf ZE ?_
 obtain⟨stk,cur,nx,live,fl⟩:=m
 simp only[vn,List.map,go_sem,G3,G0,G2,(z5r d f ty tx fs w0 w1 w2 w3 hy l x hx hl ⟨stk++[cur],[],nx,[]::live,fl⟩ L st (by simp at hL⊢;omega) (YJ hb hL)).eq]
 rw[z6 rfl rfl,z8]
 exact⟨⟨_,rfl⟩,rfl⟩
end
def laterB (d:DImage) (g:DFunc):Bool:=decide (g.result<0)&&(decide (g.params=0)||(decide (g.params=1)&&isT d (fdA g.slots 0).typ [1,2,4]))
theorem z8z (d:DImage) (f:DFunc) (y:AV) (hy:NV d f y) (g:DFunc) (z:AV) (hz:IsFunc g z) (hg:SlotsP d g) (hgp:g.params≤g.slots.length) (m:Mem) (hf:m.floor≤m.stk.length+1):Okv tab uh [y,z] m (.bool (laterB d g)):=by
 have hy':=hy
 obtain⟨ty,tx,fs,w0,w1,w2,w3,rfl,h0,h1,h2,h3,h4,h5,h6⟩:=hy
 obtain⟨v0,v1,v2,v3,rfl,q0,q1,q2,q3⟩:=hz
 refine zf X2 ?_
 obtain⟨stk,cur,nx,live,fl⟩:=m
 simp only[ub,List.map,go_sem,G3,G0,G2]
 unfold laterB
 by_cases hr:g.result<0
 ·by_cases hp0:g.params=0
  ·have e0:(g.params==0)=true:=by simpa using hp0
   simp only[go_sem,G0,G2,hr,e0]
   rw[z6 rfl rfl,z8]
   exact⟨⟨_,rfl⟩,by simp[hp0]⟩
  ·have e0:(g.params==0)=false:=by simpa using hp0
   by_cases hp1:g.params=1
   ·have e1:(g.params==1)=true:=by simpa using hp1
    have hlen:0<g.slots.length:=by omega
    have hat:evIaddr 2 v0 (.int .i64 0)=some (.ro (nth v0 0).cells):=q0.at .i64 hlen
    have eg:nth v0 0= .agg [.str (fdA g.slots 0).name,.int .i64 (fdA g.slots 0).typ]:=q0.fdA hlen
    have ht:(fdA g.slots 0).typ<d.types.length:=by
     have h00:fdA g.slots 0=g.slots[0]:=Qa hlen
     rw[h00];exact(hg _ (w08 hlen)).2
    have hC:=fun nz=>(zaH d f ty tx fs w0 w1 w2 w3 hy' (fdA g.slots 0).typ ht ⟨stk++[cur],[⟨nx,cellsN ty tx fs w0 w1 w2 w3 f⟩,⟨nx+1,[.str g.name,.int .i64 g.params,.int .i64 g.result,v0,v1,v2,v3]⟩],nz,[]::live,fl⟩ (stk++[cur]).length nx (w0b _) (by simp[Mem.blk,Mem.row])).eq
    simp only[cellsN] at hC
    simp only[go_sem,G0,G2,hr,e0,e1,hat,eg,hC]
    rw[z6 rfl rfl,z8]
    exact⟨⟨_,rfl⟩,by simp[hp1]⟩
   ·have e1:(g.params==1)=false:=by simpa using hp1
    simp only[go_sem,G0,G2,hr,e0,e1]
    rw[z6 rfl rfl,z8]
    exact⟨⟨_,rfl⟩,by simp[hp0,hp1]⟩
 ·simp only[go_sem,G0,G2,hr]
  rw[z6 rfl rfl,z8]
  exact⟨⟨_,rfl⟩,by simp⟩
theorem zaJ (t:DTyp) (z:AV) (hz:IsTyp t z) (m:Mem):Okv tab xZ [z] m (.bool (decide (t.kind∈[1,2,4]))):=by
 obtain⟨v,rfl,_⟩:=hz
 refine zf Vp ?_
 obtain⟨stk,cur,nx,live,fl⟩:=m
 simp only[tv,List.map,go_sem,G3,G0,G2]
 repeat' (((first|refine zo ?_ ?_|refine zl ?_ ?_|refine zm ?_ ?_|refine zj ?_ ?_|refine zk ?_ ?_)<;>intro hq)<;>simp only[go_sem,G0,G2,hq])
 all_goals
  rw[z6 rfl rfl,z8]
  refine⟨⟨_,rfl⟩,congrArg AV.bool ?_⟩
  simp only[beq_iff_eq,beq_eq_false_iff_ne,ne_eq] at*
  rw[w40]
  simp[*]
theorem z5p (d:DImage) (y:AV) (hy:IsImage d y) (k:Nat) (hk:k<d.funcs.length) (hg:SlotsP d (fnA d.funcs k)) (hgp:(fnA d.funcs k).params≤(fnA d.funcs k).slots.length) (hgr: -1≤(fnA d.funcs k).result) (m:Mem) (hf:m.floor≤m.stk.length+1):Okv tab uT [y,.int .i64 k] m (.bool (laterB d (fnA d.funcs k))):=by
 obtain⟨ty,tx,fs,rfl,h0,h1,h2⟩:=hy
 obtain⟨v0,v1,v2,v3,ef,q0,q1,q2,q3⟩:=h2.fnA hk
 have hatg:=h2.at .i64 hk
 generalize fnA d.funcs k=g at*
 refine zf W3 ?_
 obtain⟨stk,cur,nx,live,fl⟩:=m
 simp only[ut,List.map,go_sem,G3,G0,G2,hatg,ef,q0.one,q1.one,q2.one,q3.one]
 unfold laterB
 by_cases hr:g.result<0
 ·have er:(g.result== -1)=true:=by rw[beq_iff_eq];omega
  by_cases hp0:g.params=0
  ·have e0:(g.params==0)=true:=by simpa using hp0
   simp only[go_sem,G0,G2,er,e0]
   rw[z6 rfl rfl,z8]
   exact⟨⟨_,rfl⟩,by simp[hp0,hr]⟩
  ·have e0:(g.params==0)=false:=by simpa using hp0
   by_cases hp1:g.params=1
   ·have e1:(g.params==1)=true:=by simpa using hp1
    have hlen:0<g.slots.length:=by omega
    have hat:evIaddr 2 v0 (.int .i64 0)=some (.ro (nth v0 0).cells):=q0.at .i64 hlen
    have eg:nth v0 0= .agg [.str (fdA g.slots 0).name,.int .i64 (fdA g.slots 0).typ]:=q0.fdA hlen
    have h00:fdA g.slots 0=g.slots[0]:=Qa hlen
    have ht:0≤(fdA g.slots 0).typ∧(fdA g.slots 0).typ<d.types.length:=by rw[h00];exact hg _ (w08 hlen)
    generalize (fdA g.slots 0).typ=t at*
    obtain⟨q,rfl⟩: ∃q:Nat,t=q:=⟨t.toNat,by omega⟩
    have hq:q<d.types.length:=by omega
    obtain⟨u0,e2,e3⟩:=h0.tyA hq
    have hW:=fun m=>(zaJ (tyA d.types q) _ ⟨u0,rfl,e3⟩ m).eq
    simp only[go_sem,G3,G0,G2,er,e0,e1,hat,eg,h0.at _ hq,e2,hW]
    rw[z6 rfl rfl,z8]
    refine⟨⟨_,rfl⟩,congrArg AV.bool ?_⟩
    unfold isT kindI
    rw[if_neg (by omega)]
    simp[hp1,hr]
   ·have e1:(g.params==1)=false:=by simpa using hp1
    simp only[go_sem,G0,G2,er,e0,e1]
    rw[z6 rfl rfl,z8]
    exact⟨⟨_,rfl⟩,by simp[hp0,hp1]⟩
 ·have er:(g.result== -1)=false:=by rw[beq_eq_false_iff_ne];omega
  simp only[go_sem,G0,G2,er]
  rw[z6 rfl rfl,z8]
  exact⟨⟨_,rfl⟩,by simp[hr]⟩
theorem TC (d:DImage) (y:AV) (hy:IsImage d y) (k:Nat) (hk:k<d.funcs.length) (s:Int) (m:Mem):Okv tab zC [y,.int .i64 k,.int .i64 s] m (.int .i64 (slotT (fnA d.funcs k) s)):=by
 obtain⟨ty,tx,fs,rfl,h0,h1,h2⟩:=hy
 obtain⟨v0,v1,v2,v3,ef,q0,q1,q2,q3⟩:=h2.fnA hk
 have hatg:=h2.at .i64 hk
 generalize fnA d.funcs k=g at*
 refine zf Vn ?_
 obtain⟨stk,cur,nx,live,fl⟩:=m
 simp only[tt,List.map,go_sem,G3,G0,G2]
 by_cases h:0≤s∧s<g.slots.length
 ·obtain⟨j,rfl⟩: ∃j:Nat,s=j:=⟨s.toNat,by omega⟩
  have hj:j<g.slots.length:=by omega
  simp only[go_sem,G0,G2,show¬((j:Int)<0) by omega,hatg,ef,q0.len,show¬((j:Int)≥g.slots.length) by omega,q0.at _ hj,q0.fdA hj]
  rw[z6 rfl rfl,z8]
  exact⟨⟨_,rfl⟩,by unfold slotT;rw[if_pos h]⟩
 ·by_cases hs:s<0
  ·simp only[go_sem,G0,G2,hs]
   rw[z6 rfl rfl,z8]
   exact⟨⟨_,rfl⟩,by unfold slotT;rw[if_neg h]⟩
  ·simp only[go_sem,G0,G2,hs,hatg,ef,q0.len,show s≥g.slots.length by omega]
   rw[z6 rfl rfl,z8]
   exact⟨⟨_,rfl⟩,by unfold slotT;rw[if_neg h]⟩
theorem z8B (l:List DTyp) (x:AV) (hx:IsSl IsTyp 4 l x) (hv:ValidT l) (hl:l.length≤100) (m:Mem) (hf:m.floor≤m.stk.length+1):
  ∃y1 y2 ts k,CALL tab yL [x] m=some (.tup [y1,y2],{m with nx:=k,live:=pushToks ts m.live})∧Own IsN 1 y1 (szs (exts 1000000 l)) ts∧Own IsN 1 y2 (als (exts 1000000 l)) ts:=by
 suffices h:Does tab yL [x] m fun r m'=> ∃y1 y2 ts k,r= .tup [y1,y2]∧m'={m with nx:=k,live:=pushToks ts m.live}∧Own IsN 1 y1 (szs (exts 1000000 l)) ts∧Own IsN 1 y2 (als (exts 1000000 l)) ts by
  obtain⟨z,e1,y1,y2,ts,k,e2,e3,e4⟩:=h
  exact⟨y1,y2,ts,k,by rw[e1,←e2,←e3],e4⟩
 refine zW Wg ?_ (Nat.le_of_ble_eq_true rfl)
 obtain⟨stk,cur,nx,live,fl⟩:=m
 dsimp only at hf
 simp only[uF,List.map,go_sem]
 refine zb (α:=Nat) (fun i σ=>i≤l.length∧ ∃nz y1 y2 e,Own2 IsN 1 y1 (szs (exts 1000000 (l.take i))) IsN 1 y2 (als (exts 1000000 (l.take i))) e nz∧heads [0,4,5,6] 0 σ=⟨tmps 75 [(0,x),(4,y1),(5,y2),(6,.int .i64 i)],⟨stk++[cur],[],nz,e::live,fl⟩⟩) (fun i=>l.length-i) 0 ?_ ?_
 ·refine⟨w0c _,nx,.nils,.nils,[],.nil _ _,?_⟩
  simp only[go_sem,G0,G1]
  rfl
 ·rintro i σ ⟨hi,nz,y1,y2,e,hO,hσ⟩
  rw[hσ]
  clear hσ σ
  dsimp only at hi⊢
  by_cases h:i<l.length
  ·have hfine:=hv i h
   obtain⟨v,e1,q1⟩:=hx.nth h
   have hat:=hx.at .i64 h
   have hsucc:=zd h hx.max
   have hAl:=uk 1000000 l i hi
   have hrs:=kH 1000000 h
   have hgood:=UH (far:=1000000) (by omega) hv i hi
   have hflen:=to hfine
   have hlx:=hx.len
   generalize hout:exts 1000000 (l.take i)=A at*
   generalize ht:l[i]=t at*
   clear ht
   obtain⟨kind,elem,len,fields⟩:=t
   dsimp only at e1 q1 hflen
   simp only[go_sem,G0,G1,G2,w03,h,hlx,hat,e1]
   by_cases k1:kind=1
   ·subst k1
    have hV:((1:Nat),(1:Nat))=ext1 1000000 A ⟨1,elem,len,fields⟩:=rfl
    simp only[go_sem,G0,G2]
    refine hO.xv1 (zh · _ _ _) (zJ (R:=IsN) (x:=1) rfl) (by simp[szs];omega) fun y1' n1 e1' hO1=> ?_
    simp only[go_sem,G0,G2]
    refine hO1.xv2 (zh · _ _ _) (zJ (R:=IsN) (x:=1) rfl) (by simp[als];omega) fun y2' n2 e2' hO2=> ?_
    simp only[go_sem,G0,G2,hsucc]
    refine⟨i+1,by omega,h,n2,y1',y2',e2',?_,rfl⟩
    rw[hrs,←hV]
    simpa [szs,als] using hO2
   have k1':(kind==1)=false:=by simpa using k1
   by_cases k3:kind=3
   ·subst k3
    have hV:((16:Nat),(8:Nat))=ext1 1000000 A ⟨3,elem,len,fields⟩:=rfl
    simp only[go_sem,G0,G2,k1']
    refine hO.xv1 (zh · _ _ _) (zJ (R:=IsN) (x:=16) rfl) (by simp[szs];omega) fun y1' n1 e1' hO1=> ?_
    simp only[go_sem,G0,G2]
    refine hO1.xv2 (zh · _ _ _) (zJ (R:=IsN) (x:=8) rfl) (by simp[als];omega) fun y2' n2 e2' hO2=> ?_
    simp only[go_sem,G0,G2,hsucc]
    refine⟨i+1,by omega,h,n2,y1',y2',e2',?_,rfl⟩
    rw[hrs,←hV]
    simpa [szs,als] using hO2
   have k3':(kind==3)=false:=by simpa using k3
   by_cases k7:kind=7
   ·subst k7
    have hV:((24:Nat),(8:Nat))=ext1 1000000 A ⟨7,elem,len,fields⟩:=rfl
    simp only[go_sem,G0,G2,k1',k3']
    refine hO.xv1 (zh · _ _ _) (zJ (R:=IsN) (x:=24) rfl) (by simp[szs];omega) fun y1' n1 e1' hO1=> ?_
    simp only[go_sem,G0,G2]
    refine hO1.xv2 (zh · _ _ _) (zJ (R:=IsN) (x:=8) rfl) (by simp[als];omega) fun y2' n2 e2' hO2=> ?_
    simp only[go_sem,G0,G2,hsucc]
    refine⟨i+1,by omega,h,n2,y1',y2',e2',?_,rfl⟩
    rw[hrs,←hV]
    simpa [szs,als] using hO2
   have k7':(kind==7)=false:=by simpa using k7
   by_cases k6:kind=6
   ·subst k6
    have hel:=hflen.2.2.2.1 rfl
    have hle:=hflen.2.1 rfl
    have hj:elem.toNat<A.length:=by omega
    have hge:=hgood.get hj
    have hV:(min 1000000 (len.toNat*(A.getD elem.toNat (0,0)).1),(A.getD elem.toNat (0,0)).2)=ext1 1000000 A ⟨6,elem,len,fields⟩:=rfl
    have ht1:elem.toNat<(szs A).length:=by simpa [szs] using hj
    have ht2:elem.toNat<(als A).length:=by simpa [als] using hj
    have s1:nth y1 elem.toNat= .int .i64 ((szs A)[elem.toNat]:Nat):=hO.l.nth ht1
    have s2:nth y2 elem.toNat= .int .i64 ((als A)[elem.toNat]:Nat):=hO.r.nth ht2
    have a1:=hO.l.at .i64 ht1
    have a2:=hO.r.at .i64 ht2
    rw[w41 hel.1] at a1 a2
    rw[z4w hj] at s1
    rw[z9a hj] at s2
    generalize A.getD elem.toNat (0,0)=pr at*
    have hmul:len.toNat*pr.1≤16*1048576:=Nat.mul_le_mul (by omega) hge.1
    have ew:IntKind.i64.wrap (len*(pr.1:Int))=((len.toNat*pr.1:Nat):Int):=by
     have:len*(pr.1:Int)=((len.toNat*pr.1:Nat):Int):=by rw[Int.natCast_mul,w41 (by omega)]
     rw[this,zc (by omega) (by omega)]
    simp only[go_sem,G0,G2,k1',k3',k7',hat,e1,a1,s1,a2,s2,ew,z4T]
    refine hO.xv1 (zh · _ _ _) (zJ (R:=IsN) (x:=min 1000000 (len.toNat*pr.1)) rfl) (by simp[szs];omega) fun y1' n1 e1' hO1=> ?_
    simp only[go_sem,G0,G2]
    refine hO1.xv2 (zh · _ _ _) (zJ (R:=IsN) (x:=pr.2) rfl) (by simp[als];omega) fun y2' n2 e2' hO2=> ?_
    simp only[go_sem,G0,G2,hsucc]
    refine⟨i+1,by omega,h,n2,y1',y2',e2',?_,rfl⟩
    rw[hrs,←hV]
    simpa [szs,als] using hO2
   have k6':(kind==6)=false:=by simpa using k6
   by_cases k5:kind=5
   ·subst k5
    have hV:togEnd 1000000 A fields=ext1 1000000 A ⟨5,elem,len,fields⟩:=rfl
    obtain⟨yt,ts,kk,hcall,_⟩:=z75 A hgood y1 y2 (hO.l.sl (by simp[szs];omega)) (hO.r.sl (by simp[als];omega)) fields v q1 (by rw[hAl];exact hflen.2.2.2.2.2) (by omega) ⟨stk++[cur],[],nz,e::live,fl⟩
    have hnx:=zdA hcall (by simp;omega)
    simp only[go_sem,G0,G2,k1',k3',k7',k6',hat,e1,hcall]
    have hO:=hO.mono (e':=ts++e) (fun t ht=>w46 _ ht) hnx
    generalize togEnd 1000000 A fields=pr at*
    refine hO.xv1 (zh · _ _ _) (zJ (R:=IsN) (x:=pr.1) rfl) (by simp[szs];omega) fun y1' n1 e1' hO1=> ?_
    simp only[go_sem,G0,G2]
    refine hO1.xv2 (zh · _ _ _) (zJ (R:=IsN) (x:=pr.2) rfl) (by simp[als];omega) fun y2' n2 e2' hO2=> ?_
    simp only[go_sem,G0,G2,hsucc]
    refine⟨i+1,by omega,h,n2,y1',y2',e2',?_,rfl⟩
    rw[hrs,←hV]
    simpa [szs,als] using hO2
   have k5':(kind==5)=false:=by simpa using k5
   have hV:((8:Nat),(8:Nat))=ext1 1000000 A ⟨kind,elem,len,fields⟩:=by unfold ext1;simp only[k1,k3,k7,k6,k5,if_false]
   simp only[go_sem,G0,G2,k1',k3',k7',k6',k5']
   refine hO.xv1 (zh · _ _ _) (zJ (R:=IsN) (x:=8) rfl) (by simp[szs];omega) fun y1' n1 e1' hO1=> ?_
   simp only[go_sem,G0,G2]
   refine hO1.xv2 (zh · _ _ _) (zJ (R:=IsN) (x:=8) rfl) (by simp[als];omega) fun y2' n2 e2' hO2=> ?_
   simp only[go_sem,G0,G2,hsucc]
   refine⟨i+1,by omega,h,n2,y1',y2',e2',?_,rfl⟩
   rw[hrs,←hV]
   simpa [szs,als] using hO2
  ·have:i=l.length:=by omega
   subst this
   rw[w09] at hO
   simp only[go_sem,G0,G1,G2,w03,h,hx.len]
   rw[Yu (by simp only[AV.refs,refsAny,hO.l.refs,hO.r.refs];rfl),z8]
   refine⟨y1,y2,_,_,rfl,rfl,hO.l.filter.mono ?_,hO.r.filter.mono ?_⟩
   ·intro t ht
    simp only[w53,AV.toks,toksAll,w1a,List.contains_iff_mem,w0a] at ht⊢
    exact⟨ht.1,.inl ht.2⟩
   ·intro t ht
    simp only[w53,AV.toks,toksAll,w1a,List.contains_iff_mem,w0a] at ht⊢
    exact⟨ht.1,.inr ht.2⟩
end Go.Proofs.W
end
