/-
  Part 5 of the proof, shared by claims of this seat: R8E1, R8C18, R8C5, NPla, NPlb, R8C6, R8C7, R8C8, NPld, R8C21, NPlc, R8C10, R8C22, R8C15a, R8C15b, R8C15c, R8C15d, R8C23, R8S19, R8C20, R8C11, R8S27, R8S28, R8S29, R8S20, R8S23, R8S24, R8S30.
-/
import Derived.Test.YtlmfkfmgnkjlaaaGreatM2
import Derived.Test.YtlmfkfmgnkjlaaaGreatM3
set_option maxHeartbeats 64000000
set_option linter.unusedVariables false
set_option linter.unusedSimpArgs false
open Nat renaming reduceEqDiff → G0, reduceBEq → G1, reduceLT → G2, reduceAdd → G3, reduceLeDiff → G4, reduceSub → G5, reduceBNe → G7, le_refl → w0b, zero_le → w0c, mul_one → w19, zero_add → w39, add_mul → w3d, lt_or_ge → w46, not_lt_zero → w4f
open Int renaming reduceEq → G8, reduceBEq → G9, ofNat_lt → w03, toNat_natCast → w30, toNat_of_nonneg → w45
open Option renaming bind_eq_some_iff → w04, map_some → w0d, bind_some → w29, getD_some → w2a
open List renaming getD_eq_getElem?_getD → w02, length_append → w05, getElem?_eq_some_iff → w06, getElem_mem → w07, mem_append → w08, getElem?_append_left → w09, take_length → w0a, append_assoc → w0f, getElem?_eq_getElem → w10, mem_singleton → w13, getElem?_append_right → w14, take_succ_eq_append_getElem → w15, getElem?_eq_none → w16, getElem?_map → w17, eq_nil_of_length_eq_zero → w18, mem_cons_self → w1b, mem_cons_of_mem → w1c, take_succ_cons → w1d, append_nil → w20, length_take → w21, take_zero → w22, drop_zero → w24, length_singleton → w25, length_cons → w26, getElem?_take → w27, ext_getElem? → w2b, getElem?_set → w2c, flatMap_cons → w2d, length_nil → w2f, cons_append → w31, map_cons → w32, getElem?_modify → w34, mem_cons → w35, mem_map → w36, take_of_length_le → w37, getElem?_replicate → w38, mem_append_left → w3a, getElem?_range → w3c, flatten_cons → w40, getLast?_singleton → w42, mem_range → w44, modify_eq_take_cons_drop → w47, nil_append → w48, getLast?_append → w4b, dropLast_concat → w4c, set_cons_succ → w4d, length_map → w4e, mem_filter → w50, length_drop → w51, replicate_succ → w52, set_eq_take_append_cons_drop → w56
open Bool renaming and_eq_true → w0e, false_eq_true → w1f, or_eq_true → w33
section
namespace Go.Proofs.W
open Go.Vs
set_option linter.unusedSimpArgs false
set_option maxRecDepth 100000
theorem z8d (a b:DField):eqAt [(0,2),(1,1)] [.str a.name,.int .i64 a.typ] [.str b.name,.int .i64 b.typ]=some (decide (a=b)):=by
 obtain⟨a0,a1⟩:=a
 obtain⟨b0,b1⟩:=b
 simp only[eqAt,eqCell,List.getD_cons_zero,List.getD_cons_succ,sameKind,if_true,DField.mk.injEq]
 by_cases h0:a0=b0
 case neg=>
  have e:(a0==b0)=false:=by simp[h0]
  simp[h0,e]
 subst h0
 by_cases h1:a1=b1
 case neg=>
  have e:(a1==b1)=false:=by simp[h1]
  simp[h1,e]
 subst h1
 simp
theorem z8c (a b:DInstr):eqAt [(0,1),(1,1),(2,1),(3,1)] [.int .u8 a.op,.int .i64 a.a,.int .i64 a.b,.int .i64 a.c] [.int .u8 b.op,.int .i64 b.a,.int .i64 b.b,.int .i64 b.c]=some (decide (a=b)):=by
 obtain⟨a0,a1,a2,a3⟩:=a
 obtain⟨b0,b1,b2,b3⟩:=b
 simp only[eqAt,eqCell,List.getD_cons_zero,List.getD_cons_succ,sameKind,if_true,DInstr.mk.injEq]
 by_cases h0:a0=b0
 case neg=>
  have e:(a0==b0)=false:=by simp[h0]
  simp[h0,e]
 subst h0
 by_cases h1:a1=b1
 case neg=>
  have e:(a1==b1)=false:=by simp[h1]
  simp[h1,e]
 subst h1
 by_cases h2:a2=b2
 case neg=>
  have e:(a2==b2)=false:=by simp[h2]
  simp[h2,e]
 subst h2
 by_cases h3:a3=b3
 case neg=>
  have e:(a3==b3)=false:=by simp[h3]
  simp[h3,e]
 subst h3
 simp
theorem z75 (a b:DRun):eqAt [(0,1),(1,1)] [.int .i64 a.frm,.int .u64 a.value] [.int .i64 b.frm,.int .u64 b.value]=some (decide (a=b)):=by
 obtain⟨a0,a1⟩:=a
 obtain⟨b0,b1⟩:=b
 simp only[eqAt,eqCell,List.getD_cons_zero,List.getD_cons_succ,sameKind,if_true,DRun.mk.injEq]
 by_cases h0:a0=b0
 case neg=>
  have e:(a0==b0)=false:=by simp[h0]
  simp[h0,e]
 subst h0
 by_cases h1:a1=b1
 case neg=>
  have e:(a1==b1)=false:=by simp[h1]
  simp[h1,e]
 subst h1
 simp
theorem xY (xs ys:List DRun) (x y:AV) (hx:IsSl IsRun 2 xs x) (hy:IsSl IsRun 2 ys y) (m:Mem):Okv tab zZ [x,y] m (.bool (decide (xs=ys))):=by
 refine zh qs ?_
 obtain⟨stk,cur,nx,live,fl⟩:=m
 simp only[yL,List.map,go_sem,reduceCtorEq,G3,G0,G2,hx.len,hy.len,vh]
 by_cases hl:xs.length=ys.length
 ·simp only[go_sem,reduceCtorEq,G0,G2,hl,hx.len]
  refine zc (α:=Nat) (fun i σ=>(i≤xs.length∧xs.take i=ys.take i)∧heads [0,1,12,13] 0 σ=⟨tmps 26 [(0,x),(1,y),(12,.int .i64 xs.length),(13,.int .i64 i)],⟨stk++[cur],[],nx,[]::live,fl⟩⟩) (fun i=>xs.length-i) 0 ?_ ?_
  ·refine⟨⟨w0c _,rfl⟩,?_⟩
   simp only[go_sem,reduceCtorEq,G0,G1,hl]
   rfl
  ·rintro i σ ⟨⟨hi,ht⟩,hσ⟩
   rw[hσ]
   dsimp only at hi ht⊢
   by_cases h:i<xs.length
   ·have h':i<ys.length:=hl▸h
    have e1:nth x i= .agg [.int .i64 xs[i].frm,.int .u64 xs[i].value]:=hx.nth h
    have e2:nth y i= .agg [.int .i64 ys[i].frm,.int .u64 ys[i].value]:=hy.nth h'
    simp only[go_sem,reduceCtorEq,G3,G0,G1,G2,w03,h,hx.at _ h,hy.at _ h',e1,e2,z75]
    by_cases he:xs[i]=ys[i]
    ·simp only[go_sem,reduceCtorEq,G0,G2,he,zb h hx.max]
     exact⟨i+1,by omega,⟨h,xC hl ht h he⟩,rfl⟩
    ·simp only[go_sem,reduceCtorEq,G0,G2,he]
     rw[z6 rfl rfl,z8]
     exact⟨⟨_,rfl⟩,by rw[decide_eq_false (tJ h h' he)]⟩
   ·have:i=xs.length:=by omega
    subst this
    simp only[go_sem,reduceCtorEq,G0,G1,G2,w03,h]
    rw[z6 rfl rfl,z8]
    exact⟨⟨_,rfl⟩,by rw[decide_eq_true (uq hl ht)]⟩
 ·simp only[go_sem,reduceCtorEq,G0,G2,hl]
  rw[z6 rfl rfl,z8]
  exact⟨⟨_,rfl⟩,by rw[decide_eq_false (tI hl)]⟩
theorem uf (xs ys:List DField) (x y:AV) (hx:IsSl IsField 2 xs x) (hy:IsSl IsField 2 ys y) (m:Mem):Okv tab yB [x,y] m (.bool (decide (xs=ys))):=by
 refine zh jx ?_
 obtain⟨stk,cur,nx,live,fl⟩:=m
 simp only[xd,List.map,go_sem,reduceCtorEq,G3,G0,G2,hx.len,hy.len,vh]
 by_cases hl:xs.length=ys.length
 ·simp only[go_sem,hl]
  refine zc (α:=Nat) (fun i σ=>(i≤xs.length∧xs.take i=ys.take i)∧heads [0,1,5] 0 σ=⟨tmps 26 [(0,x),(1,y),(5,.int .i64 i)],⟨stk++[cur],[],nx,[]::live,fl⟩⟩) (fun i=>xs.length-i) 0 ?_ ?_
  ·refine⟨⟨w0c _,rfl⟩,?_⟩
   simp only[go_sem,reduceCtorEq,G0,G1]
   rfl
  ·rintro i σ ⟨⟨hi,ht⟩,hσ⟩
   rw[hσ]
   dsimp only at hi ht⊢
   by_cases h:i<xs.length
   ·have h':i<ys.length:=hl▸h
    have e1:nth x i= .agg [.str xs[i].name,.int .i64 xs[i].typ]:=hx.nth h
    have e2:nth y i= .agg [.str ys[i].name,.int .i64 ys[i].typ]:=hy.nth h'
    simp only[go_sem,reduceCtorEq,G3,G0,G1,G2,w03,h,hx.len,hx.at _ h,hy.at _ h',e1,e2,z8d]
    by_cases he:xs[i]=ys[i]
    ·simp only[go_sem,reduceCtorEq,G0,G2,he,zb h hx.max]
     exact⟨i+1,by omega,⟨h,xC hl ht h he⟩,rfl⟩
    ·simp only[go_sem,reduceCtorEq,G0,G2,he]
     rw[z6 rfl rfl,z8]
     exact⟨⟨_,rfl⟩,by rw[decide_eq_false (tJ h h' he)]⟩
   ·have:i=xs.length:=by omega
    subst this
    simp only[go_sem,reduceCtorEq,G0,G1,G2,w03,h,hx.len]
    rw[z6 rfl rfl,z8]
    exact⟨⟨_,rfl⟩,by rw[decide_eq_true (uq hl ht)]⟩
 ·simp only[go_sem,reduceCtorEq,G0,G2,hl]
  rw[z6 rfl rfl,z8]
  exact⟨⟨_,rfl⟩,by rw[decide_eq_false (tI hl)]⟩
theorem XF (xs ys:List DInstr) (x y:AV) (hx:IsSl IsInstr 4 xs x) (hy:IsSl IsInstr 4 ys y) (m:Mem):Okv tab uJ [x,y] m (.bool (decide (xs=ys))):=by
 refine zh XW ?_
 obtain⟨stk,cur,nx,live,fl⟩:=m
 simp only[uA,List.map,go_sem,reduceCtorEq,G3,G0,G2,hx.len,hy.len,vh]
 by_cases hl:xs.length=ys.length
 ·simp only[go_sem,hl]
  refine zc (α:=Nat) (fun i σ=>(i≤xs.length∧xs.take i=ys.take i)∧heads [0,1,5] 0 σ=⟨tmps 26 [(0,x),(1,y),(5,.int .i64 i)],⟨stk++[cur],[],nx,[]::live,fl⟩⟩) (fun i=>xs.length-i) 0 ?_ ?_
  ·refine⟨⟨w0c _,rfl⟩,?_⟩
   simp only[go_sem,reduceCtorEq,G0,G1]
   rfl
  ·rintro i σ ⟨⟨hi,ht⟩,hσ⟩
   rw[hσ]
   dsimp only at hi ht⊢
   by_cases h:i<xs.length
   ·have h':i<ys.length:=hl▸h
    have e1:nth x i= .agg [.int .u8 xs[i].op,.int .i64 xs[i].a,.int .i64 xs[i].b,.int .i64 xs[i].c]:=hx.nth h
    have e2:nth y i= .agg [.int .u8 ys[i].op,.int .i64 ys[i].a,.int .i64 ys[i].b,.int .i64 ys[i].c]:=hy.nth h'
    simp only[go_sem,reduceCtorEq,G3,G0,G1,G2,w03,h,hx.len,hx.at _ h,hy.at _ h',e1,e2,z8c]
    by_cases he:xs[i]=ys[i]
    ·simp only[go_sem,reduceCtorEq,G0,G2,he,zb h hx.max]
     exact⟨i+1,by omega,⟨h,xC hl ht h he⟩,rfl⟩
    ·simp only[go_sem,reduceCtorEq,G0,G2,he]
     rw[z6 rfl rfl,z8]
     exact⟨⟨_,rfl⟩,by rw[decide_eq_false (tJ h h' he)]⟩
   ·have:i=xs.length:=by omega
    subst this
    simp only[go_sem,reduceCtorEq,G0,G1,G2,w03,h,hx.len]
    rw[z6 rfl rfl,z8]
    exact⟨⟨_,rfl⟩,by rw[decide_eq_true (uq hl ht)]⟩
 ·simp only[go_sem,reduceCtorEq,G0,G2,hl]
  rw[z6 rfl rfl,z8]
  exact⟨⟨_,rfl⟩,by rw[decide_eq_false (tI hl)]⟩
theorem qN (xs ys:List DRun) (x y:AV) (hx:IsSl IsRun 2 xs x) (hy:IsSl IsRun 2 ys y) (m:Mem):Okv tab xD [x,y] m (.bool (decide (xs=ys))):=by
 refine zh XU ?_
 obtain⟨stk,cur,nx,live,fl⟩:=m
 simp only[uy,List.map,go_sem,reduceCtorEq,G3,G0,G2,hx.len,hy.len,vh]
 by_cases hl:xs.length=ys.length
 ·simp only[go_sem,hl]
  refine zc (α:=Nat) (fun i σ=>(i≤xs.length∧xs.take i=ys.take i)∧heads [0,1,5] 0 σ=⟨tmps 26 [(0,x),(1,y),(5,.int .i64 i)],⟨stk++[cur],[],nx,[]::live,fl⟩⟩) (fun i=>xs.length-i) 0 ?_ ?_
  ·refine⟨⟨w0c _,rfl⟩,?_⟩
   simp only[go_sem,reduceCtorEq,G0,G1]
   rfl
  ·rintro i σ ⟨⟨hi,ht⟩,hσ⟩
   rw[hσ]
   dsimp only at hi ht⊢
   by_cases h:i<xs.length
   ·have h':i<ys.length:=hl▸h
    have e1:nth x i= .agg [.int .i64 xs[i].frm,.int .u64 xs[i].value]:=hx.nth h
    have e2:nth y i= .agg [.int .i64 ys[i].frm,.int .u64 ys[i].value]:=hy.nth h'
    simp only[go_sem,reduceCtorEq,G3,G0,G1,G2,w03,h,hx.len,hx.at _ h,hy.at _ h',e1,e2,z75]
    by_cases he:xs[i]=ys[i]
    ·simp only[go_sem,reduceCtorEq,G0,G2,he,zb h hx.max]
     exact⟨i+1,by omega,⟨h,xC hl ht h he⟩,rfl⟩
    ·simp only[go_sem,reduceCtorEq,G0,G2,he]
     rw[z6 rfl rfl,z8]
     exact⟨⟨_,rfl⟩,by rw[decide_eq_false (tJ h h' he)]⟩
   ·have:i=xs.length:=by omega
    subst this
    simp only[go_sem,reduceCtorEq,G0,G1,G2,w03,h,hx.len]
    rw[z6 rfl rfl,z8]
    exact⟨⟨_,rfl⟩,by rw[decide_eq_true (uq hl ht)]⟩
 ·simp only[go_sem,reduceCtorEq,G0,G2,hl]
  rw[z6 rfl rfl,z8]
  exact⟨⟨_,rfl⟩,by rw[decide_eq_false (tI hl)]⟩
theorem ZP (xs ys:List Int) (x y:AV) (hx:IsSl (IsK .i64) 1 xs x) (hy:IsSl (IsK .i64) 1 ys y) (m:Mem):Okv tab vz [x,y] m (.bool (decide (xs=ys))):=by
 refine zh ZX ?_
 obtain⟨stk,cur,nx,live,fl⟩:=m
 simp only[vt,List.map,go_sem,reduceCtorEq,G3,G0,G2,hx.len,hy.len,vh]
 by_cases hl:xs.length=ys.length
 ·simp only[go_sem,reduceCtorEq,G0,G2,hl,hx.len]
  refine zc (α:=Nat) (fun i σ=>(i≤xs.length∧xs.take i=ys.take i)∧heads [0,1,12,13] 0 σ=⟨tmps 26 [(0,x),(1,y),(12,.int .i64 xs.length),(13,.int .i64 i)],⟨stk++[cur],[],nx,[]::live,fl⟩⟩) (fun i=>xs.length-i) 0 ?_ ?_
  ·refine⟨⟨w0c _,rfl⟩,?_⟩
   simp only[go_sem,reduceCtorEq,G0,G1,hl]
   rfl
  ·rintro i σ ⟨⟨hi,ht⟩,hσ⟩
   rw[hσ]
   dsimp only at hi ht⊢
   by_cases h:i<xs.length
   ·have h':i<ys.length:=hl▸h
    have e1:nth x i= .int .i64 xs[i]:=hx.nth h
    have e2:nth y i= .int .i64 ys[i]:=hy.nth h'
    simp only[go_sem,reduceCtorEq,G0,G1,G2,w03,h,hx.at _ h,hy.at _ h',e1,e2]
    by_cases he:xs[i]=ys[i]
    ·simp only[go_sem,reduceCtorEq,G0,G2,he,zb h hx.max,bne_self_eq_false]
     exact⟨i+1,by omega,⟨h,xC hl ht h he⟩,rfl⟩
    ·have hb:(xs[i]==ys[i])=false:=by simp[he]
     have hb':(xs[i] !=ys[i])=true:=by simp[he]
     simp only[go_sem,reduceCtorEq,G0,G2,hb']
     rw[z6 rfl rfl,z8]
     exact⟨⟨_,rfl⟩,by rw[decide_eq_false (tJ h h' he)]⟩
   ·have:i=xs.length:=by omega
    subst this
    simp only[go_sem,reduceCtorEq,G0,G1,G2,w03,h]
    rw[z6 rfl rfl,z8]
    exact⟨⟨_,rfl⟩,by rw[decide_eq_true (uq hl ht)]⟩
 ·simp only[go_sem,reduceCtorEq,G0,G2,hl]
  rw[z6 rfl rfl,z8]
  exact⟨⟨_,rfl⟩,by rw[decide_eq_false (tI hl)]⟩
theorem t8 (a b:DFunc) (x y:AV) (hx:IsFunc a x) (hy:IsFunc b y) (m:Mem):Okv tab yf [x,y] m (.bool (decide (a=b))):=by
 refine zh kJ ?_
 obtain⟨stk,cur,nx,live,fl⟩:=m
 obtain⟨a_name,a_params,a_result,a_slots,a_code,a_sizes,a_lives⟩:=a
 obtain⟨b_name,b_params,b_result,b_slots,b_code,b_sizes,b_lives⟩:=b
 obtain⟨x_slots,x_code,x_sizes,x_lives,rfl,hx_slots,hx_code,hx_sizes,hx_lives⟩:=hx
 obtain⟨y_slots,y_code,y_sizes,y_lives,rfl,hy_slots,hy_code,hy_sizes,hy_lives⟩:=hy
 dsimp only at hx_slots hy_slots hx_code hy_code hx_sizes hy_sizes hx_lives hy_lives
 simp only[xK,List.map,go_sem,reduceCtorEq,G3,G0,G2,evStr,DFunc.mk.injEq]
 by_cases h_name:a_name=b_name
 case neg=>
  have e:(a_name==b_name)=false:=by simp[h_name]
  simp only[go_sem,reduceCtorEq,G0,G2,e]
  rw[z6 rfl rfl,z8]
  exact⟨⟨_,rfl⟩,by simp[h_name]⟩
 subst h_name
 simp only[go_sem,reduceCtorEq,G0,G2,beq_self_eq_true]
 by_cases h_params:a_params=b_params
 case neg=>
  have e:(a_params==b_params)=false:=by simp[h_params]
  simp only[go_sem,reduceCtorEq,G0,G2,e]
  rw[z6 rfl rfl,z8]
  exact⟨⟨_,rfl⟩,by simp[h_params]⟩
 subst h_params
 simp only[go_sem,reduceCtorEq,G0,G2,beq_self_eq_true]
 by_cases h_result:a_result=b_result
 case neg=>
  have e:(a_result==b_result)=false:=by simp[h_result]
  simp only[go_sem,reduceCtorEq,G0,G2,e]
  rw[z6 rfl rfl,z8]
  exact⟨⟨_,rfl⟩,by simp[h_result]⟩
 subst h_result
 simp only[go_sem,reduceCtorEq,G0,G2,beq_self_eq_true]
 obtain⟨k_slots,c_slots⟩:=Okv.all (uf _ _ _ _ hx_slots hy_slots)
 simp only[c_slots]
 by_cases h_slots:a_slots=b_slots
 case neg=>
  simp only[go_sem,reduceCtorEq,G0,G2,h_slots]
  rw[z6 rfl rfl,z8]
  exact⟨⟨_,rfl⟩,by simp[]⟩
 subst h_slots
 simp only[go_sem,reduceCtorEq,G0,G2,beq_self_eq_true]
 obtain⟨k_code,c_code⟩:=Okv.all (XF _ _ _ _ hx_code hy_code)
 simp only[c_code]
 by_cases h_code:a_code=b_code
 case neg=>
  simp only[go_sem,reduceCtorEq,G0,G2,h_code]
  rw[z6 rfl rfl,z8]
  exact⟨⟨_,rfl⟩,by simp[]⟩
 subst h_code
 simp only[go_sem,reduceCtorEq,G0,G2,beq_self_eq_true]
 obtain⟨k_sizes,c_sizes⟩:=Okv.all (qN _ _ _ _ hx_sizes hy_sizes)
 simp only[c_sizes]
 by_cases h_sizes:a_sizes=b_sizes
 case neg=>
  simp only[go_sem,reduceCtorEq,G0,G2,h_sizes]
  rw[z6 rfl rfl,z8]
  exact⟨⟨_,rfl⟩,by simp[]⟩
 subst h_sizes
 simp only[go_sem,reduceCtorEq,G0,G2,beq_self_eq_true]
 obtain⟨k_lives,c_lives⟩:=Okv.all (qN _ _ _ _ hx_lives hy_lives)
 simp only[c_lives]
 by_cases h_lives:a_lives=b_lives
 case neg=>
  simp only[go_sem,reduceCtorEq,G0,G2,h_lives]
  rw[z6 rfl rfl,z8]
  exact⟨⟨_,rfl⟩,by simp[]⟩
 subst h_lives
 simp only[go_sem,reduceCtorEq,G0,G2]
 rw[z6 rfl rfl,z8]
 exact⟨⟨_,rfl⟩,by simp⟩
theorem kc (xs ys:List DTyp) (x y:AV) (hx:IsSl IsTyp 4 xs x) (hy:IsSl IsTyp 4 ys y) (m:Mem):Okv tab xy [x,y] m (.bool (decide (xs=ys))):=by
 refine zh ke ?_
 obtain⟨stk,cur,nx,live,fl⟩:=m
 simp only[xx,List.map,go_sem,reduceCtorEq,G3,G0,G2,hx.len,hy.len,vh]
 by_cases hl:xs.length=ys.length
 ·simp only[go_sem,hl]
  refine zc (α:=Nat×Nat) (fun z σ=>(z.1≤xs.length∧xs.take z.1=ys.take z.1)∧heads [0,1,5] 0 σ=⟨tmps 68 [(0,x),(1,y),(5,.int .i64 z.1)],⟨stk++[cur],[],z.2,[]::live,fl⟩⟩) (fun z=>xs.length-z.1) (0,nx) ?_ ?_
  ·refine⟨⟨w0c _,rfl⟩,?_⟩
   simp only[go_sem,reduceCtorEq,G0,G1]
   rfl
  ·rintro⟨i,nz⟩ σ ⟨⟨hi,ht⟩,hσ⟩
   rw[hσ]
   dsimp only at hi ht⊢
   by_cases h:i<xs.length
   ·have h':i<ys.length:=hl▸h
    obtain⟨v,e1,q1⟩:=hx.nth h
    obtain⟨u,e2,q2⟩:=hy.nth h'
    have eqt: ∀a b:DTyp,a=b↔(a.kind=b.kind∧a.elem=b.elem∧a.len=b.len∧a.fields=b.fields):=fun a b=>by cases a;cases b;simp
    obtain⟨K,hK⟩:=Okv.all (uf _ _ _ _ q1 q2)
    simp only[go_sem,reduceCtorEq,G0,G1,G2,w03,h,hx.len,hx.at _ h,hy.at _ h',e1,e2]
    have fin:xs[i]≠ys[i]→ ∀k:Nat,(∃k',(⟨stk,cur,k,live,fl⟩:Mem)=(⟨stk,cur,nx,live,fl⟩:Mem).bump k')∧AV.bool false=AV.bool (decide (xs=ys)):=fun he k=>⟨⟨_,rfl⟩,by rw[decide_eq_false (tJ h h' he)]⟩
    by_cases c1:xs[i].kind=ys[i].kind
    case neg=>
     have e:(xs[i].kind !=ys[i].kind)=true:=by simp[c1]
     simp only[go_sem,reduceCtorEq,G0,G2,e]
     rw[z6 rfl rfl,z8]
     exact fin (fun he=>c1 (by rw[he])) _
    simp only[go_sem,reduceCtorEq,G0,G2,c1,bne_self_eq_false,hx.at _ h,hy.at _ h',e1,e2]
    by_cases c2:xs[i].elem=ys[i].elem
    case neg=>
     have e:(xs[i].elem !=ys[i].elem)=true:=by simp[c2]
     simp only[go_sem,reduceCtorEq,G0,G2,e]
     rw[z6 rfl rfl,z8]
     exact fin (fun he=>c2 (by rw[he])) _
    simp only[go_sem,reduceCtorEq,G0,G2,c2,bne_self_eq_false,hx.at _ h,hy.at _ h',e1,e2]
    by_cases c3:xs[i].len=ys[i].len
    case neg=>
     have e:(xs[i].len !=ys[i].len)=true:=by simp[c3]
     simp only[go_sem,reduceCtorEq,G0,G2,e]
     rw[z6 rfl rfl,z8]
     exact fin (fun he=>c3 (by rw[he])) _
    simp only[go_sem,reduceCtorEq,G0,G2,c3,bne_self_eq_false,hx.at _ h,hy.at _ h',e1,e2,hK]
    by_cases c4:xs[i].fields=ys[i].fields
    case neg=>
     simp only[go_sem,reduceCtorEq,G0,G2,c4]
     rw[z6 rfl rfl,z8]
     exact fin (fun he=>c4 (by rw[he])) _
    simp only[go_sem,reduceCtorEq,G0,G2,c4,zb h hx.max]
    exact⟨(i+1,_),by dsimp only;omega,⟨h,xC hl ht h ((eqt _ _).2 ⟨c1,c2,c3,c4⟩)⟩,rfl⟩
   ·have:i=xs.length:=by omega
    subst this
    simp only[go_sem,reduceCtorEq,G0,G1,G2,w03,h,hx.len]
    rw[z6 rfl rfl,z8]
    exact⟨⟨_,rfl⟩,by rw[decide_eq_true (uq hl ht)]⟩
 ·simp only[go_sem,reduceCtorEq,G0,G2,hl]
  rw[z6 rfl rfl,z8]
  exact⟨⟨_,rfl⟩,by rw[decide_eq_false (tI hl)]⟩
theorem XE (a b:DImage) (x y:AV) (hx:IsImage a x) (hy:IsImage b y) (m:Mem):Okv tab uH [x,y] m (.bool (decide (a=b))):=by
 refine zh XS ?_
 obtain⟨stk,cur,nx,live,fl⟩:=m
 obtain⟨ta,sa,fa⟩:=a
 obtain⟨tb,sb,fb⟩:=b
 obtain⟨x0,x1,x2,rfl,p0,p1,p2⟩:=hx
 obtain⟨y0,y1,y2,rfl,q0,q1,q2⟩:=hy
 dsimp only at p0 p1 p2 q0 q1 q2
 obtain⟨K,hK⟩:=Okv.all (kc _ _ _ _ p0 q0)
 simp only[uw,List.map,go_sem,reduceCtorEq,G3,G0,G2,hK,DImage.mk.injEq]
 by_cases c1:ta=tb
 case neg=>
  simp only[go_sem,reduceCtorEq,G0,G2,c1]
  rw[z6 rfl rfl,z8]
  exact⟨⟨_,rfl⟩,by simp[]⟩
 simp only[go_sem,reduceCtorEq,G0,G2,c1,p1.len,q1.len,vh]
 by_cases c2:sa.length=sb.length
 case neg=>
  simp only[go_sem,reduceCtorEq,G0,G2,c2]
  rw[z6 rfl rfl,z8]
  exact⟨⟨_,rfl⟩,by simp[tI c2]⟩
 simp only[go_sem,reduceCtorEq,G0,G2,c2,p2.len,q2.len,vh]
 by_cases c3:fa.length=fb.length
 case neg=>
  simp only[go_sem,reduceCtorEq,G0,G2,c3]
  rw[z6 rfl rfl,z8]
  exact⟨⟨_,rfl⟩,by simp[tI c3]⟩
 simp only[go_sem,G3,c3]
 refine zc (α:=Nat×Nat) (fun z σ=>(z.1≤sa.length∧sa.take z.1=sb.take z.1)∧heads [2,3,5] 2 σ=⟨tmps 68 [(2,.ptr (stk++[cur]).length 0 nx 0),(3,.ptr (stk++[cur]).length 1 (nx+1) 0),(5,.int .i64 z.1)],⟨stk++[cur],[⟨nx,[x0,x1,x2]⟩,⟨nx+1,[y0,y1,y2]⟩],z.2,[]::live,fl⟩⟩) (fun z=>sa.length-z.1) (0,K ⟨stk++[cur],[⟨nx,[x0,x1,x2]⟩,⟨nx+1,[y0,y1,y2]⟩],nx+1+1,[]::live,fl⟩) ?_ ?_
 ·refine⟨⟨w0c _,rfl⟩,?_⟩
  simp only[go_sem,reduceCtorEq,G0,G1]
  rfl
 ·rintro⟨i,nz⟩ σ ⟨⟨hi,ht⟩,hσ⟩
  rw[hσ]
  dsimp only at hi ht⊢
  by_cases h:i<sa.length
  ·have h':i<sb.length:=c2▸h
   have e1:nth x1 i= .str sa[i]:=p1.nth h
   have e2:nth y1 i= .str sb[i]:=q1.nth h'
   simp only[go_sem,G0,G1,G2,w03,h,p1.len,p1.at _ h,q1.at _ h',e1,e2,evStr]
   by_cases he:sa[i]=sb[i]
   ·simp only[go_sem,G0,G2,he,zb h p1.max]
    exact⟨(i+1,_),by dsimp only;omega,⟨h,xC c2 ht h he⟩,rfl⟩
   ·have hb:(sa[i]==sb[i])=false:=by simp[he]
    simp only[go_sem,G0,G2,hb]
    rw[z6 rfl rfl,z8]
    exact⟨⟨_,rfl⟩,by simp[tJ h h' he]⟩
  ·have:i=sa.length:=by omega
   subst this
   have es:=uq c2 ht
   clear hσ σ
   simp only[go_sem,G3,G0,G1,G2,w03,h,p1.len]
   refine zc (α:=Nat×Nat) (fun z σ=>(z.1≤fa.length∧fa.take z.1=fb.take z.1)∧heads [2,3,6] 2 σ=⟨tmps 68 [(2,.ptr (stk++[cur]).length 0 nx 0),(3,.ptr (stk++[cur]).length 1 (nx+1) 0),(6,.int .i64 z.1)],⟨stk++[cur],[⟨nx,[x0,x1,x2]⟩,⟨nx+1,[y0,y1,y2]⟩],z.2,[]::live,fl⟩⟩) (fun z=>fa.length-z.1) (0,nz) ?_ ?_
   ·refine⟨⟨w0c _,rfl⟩,?_⟩
    simp only[go_sem,G0,G1]
    rfl
   ·rintro⟨i,nz⟩ σ ⟨⟨hi,ht⟩,hσ⟩
    rw[hσ]
    dsimp only at hi ht⊢
    by_cases h:i<fa.length
    ·have h':i<fb.length:=c3▸h
     have e1:=p2.nth h
     have e2:=q2.nth h'
     obtain⟨K2,hK2⟩:=Okv.all (t8 _ _ _ _ e1 e2)
     simp only[go_sem,G0,G1,G2,w03,h,p2.len,p2.at _ h,q2.at _ h',e1.agg.1,e2.agg.1,hK2]
     by_cases he:fa[i]=fb[i]
     ·simp only[go_sem,G0,G2,he,zb h p2.max]
      exact⟨(i+1,_),by dsimp only;omega,⟨h,xC c3 ht h he⟩,rfl⟩
     ·simp only[go_sem,G0,G2,he]
      rw[z6 rfl rfl,z8]
      exact⟨⟨_,rfl⟩,by simp[tJ h h' he]⟩
    ·have:i=fa.length:=by omega
     subst this
     simp only[go_sem,G0,G1,G2,w03,h,p2.len]
     rw[z6 rfl rfl,z8]
     exact⟨⟨_,rfl⟩,by simp[es,uq c3 ht]⟩
theorem _root_.Go.Vs.IsSl.fromN {α:Type} {R:α→AV→Prop} {s:Nat} {xs:List α} {y:AV} (h:IsSl R s xs y) {n:Nat} (hn:n≤xs.length): ∃y',evSlice s y (some (.int .i64 (n:Nat))) none none=some y'∧IsSl R s (xs.drop n) y':=by
 rcases h with⟨hm,⟨rfl,rfl⟩|⟨tk,ys,rfl,h⟩⟩
 ·have:n=0:=by simpa using hn
  subst this
  exact⟨.nils,by simp[evSlice,bound],.nil s⟩
 ·have hl:=h.len
  have hb:bound (some (.int .i64 (n:Int))) ys.length 0=some n:=by
   unfold bound;simp only;rw[if_pos (by omega)];simp
  have e:evSlice s (.list s tk ys) (some (.int .i64 (n:Int))) none none=some (.list s (if ys.length==ys.length&&(n==0||decide (n<ys.length)) then tk else .none) ((ys.take ys.length).drop n)):=by
   unfold evSlice
   simp only[beq_self_eq_true,if_true]
   rw[show bound none ys.length ys.length=some ys.length from rfl,w29,hb]
   simp
  refine⟨_,e,?_⟩
  rw[w0a]
  exact .mk (h.drop n) (by rw[w51];omega)
theorem _root_.Go.Vs.IsSl.toN {α:Type} {R:α→AV→Prop} {s:Nat} {xs:List α} {y:AV} (h:IsSl R s xs y) {n:Nat} (hn:n≤xs.length): ∃y',evSlice s y none (some (.int .i64 (n:Nat))) none=some y'∧IsSl R s (xs.take n) y':=by
 rcases h with⟨hm,⟨rfl,rfl⟩|⟨tk,ys,rfl,h⟩⟩
 ·have:n=0:=by simpa using hn
  subst this
  exact⟨.nils,by simp[evSlice,bound],.nil s⟩
 ·have hl:=h.len
  have hb:bound (some (.int .i64 (n:Int))) ys.length ys.length=some n:=by
   unfold bound;simp only;rw[if_pos (by omega)];simp
  have e: ∃tk',evSlice s (.list s tk ys) none (some (.int .i64 (n:Int))) none=some (.list s tk' ((ys.take n).drop 0)):=by
   unfold evSlice
   simp only[beq_self_eq_true,if_true]
   rw[hb,w29,show bound none n 0=some 0 from rfl]
   exact⟨_,rfl⟩
  obtain⟨tk',e⟩:=e
  refine⟨_,e,?_⟩
  rw[w24]
  exact .mk (h.take n) (by rw[w21];omega)
theorem z5n (m:Mem):Okv tab yI [.nils] m .nils:=by
 refine zh qo ?_
 obtain⟨stk,cur,nx,live,fl⟩:=m
 have hsl:evSlice 1 .nils none (some (.int .i64 0)) (some (.int .i64 0))=some .nils:=rfl
 simp only[xl,List.map,go_sem,reduceCtorEq,G0,G2,evLen,hsl]
 rw[z6 rfl rfl,z8]
 exact⟨⟨_,rfl⟩,rfl⟩
theorem z3E (tk:Tok) (ys:List AV) (m:Mem):Okv tab yI [.list 1 tk ys] m (.list 1 .full ys):=by
 refine zh qo ?_
 obtain⟨stk,cur,nx,live,fl⟩:=m
 have hb: ∀d,bound (some (.int .i64 (ys.length:Int))) ys.length d=some ys.length:=fun d=>by
  unfold bound;simp only;rw[if_pos (by omega)];simp
 have hb0:bound (none:Option AV) ys.length 0=some 0:=rfl
 simp only[xl,List.map,go_sem,reduceCtorEq,G0,G2,evLen,evSlice,hb,hb0,w0a]
 rw[z6 rfl rfl,z8]
 exact⟨⟨_,rfl⟩,rfl⟩
theorem zac {S:List (List Blk)} {C:List Blk} {nx fl:Nat} {live:List (List Nat)} {v:AV}:evApp ⟨S,C,nx,live,fl⟩ 1 8 .nils (.list 1 .full [v])=some (.list 1 (.id nx) [v],⟨S,C,nx+1,addTok nx live,fl⟩):=by
 unfold evApp;rw[zi];simp
theorem z8u {S:List (List Blk)} {C:List Blk} {nx fl:Nat} {live:List (List Nat)} {ys:List AV} {v:AV} (h:ys.length≤100000):evApp ⟨S,C,nx,live,fl⟩ 1 8 (.list 1 .full ys) (.list 1 .full [v])=some (.list 1 (.id nx) (ys++[v]),⟨S,C,nx+1,addTok nx live,fl⟩):=by
 unfold evApp;rw[zi]
 simp only[beq_self_eq_true,Bool.true_and,w25]
 rw[if_pos (by simp;omega)]
def parT (g:DFunc):List Int:=(List.range g.params.toNat).map fun i=>(fdA g.slots (i:Nat)).typ
theorem z93 (g:DFunc):(parT g).length=g.params.toNat:=by simp[parT]
theorem z94 {g:DFunc} {i:Nat} (h:i<(parT g).length):(parT g)[i]=(fdA g.slots (i:Nat)).typ:=by simp[parT]
def pops (d:DImage) (x:DInstr) (l:List Int):Option (List Int):=
 if 0≤called x then(if(parT (fnA d.funcs (called x).toNat)).length≤l.length∧l.drop (l.length-(parT (fnA d.funcs (called x).toNat)).length)=parT (fnA d.funcs (called x).toNat) then some (l.take (l.length-(parT (fnA d.funcs (called x).toNat)).length)) else none) else some l
def stS (d:DImage) (f:DFunc) (x:DInstr) (l:List Int):Option (List Int):=
 (pops d x (if x.op=24 then l++[slotT f x.a] else l)).bind fun l2=>if sumB d.types l2≤4096 then some l2 else none
theorem zcp {d:DImage} {f:DFunc} {x:DInstr} {l l':List Int} (hx:InstrP x) (hw:WfI x) (hN:NearP d f x) (hs:SlotsP d f) (hl:InT d.types l) (h:stS d f x l=some l'):InT d.types l'∧l'.length≤l.length+1:=by
 have h1:InT d.types (if x.op=24 then l++[slotT f x.a] else l)∧(if x.op=24 then l++[slotT f x.a] else l).length≤l.length+1:=by
  split
  ·rename_i e
   refine⟨fun t ht=> ?_,by simp⟩
   rcases w08.1 ht with q|q
   ·exact hl t q
   ·rw[w13.1 q]
    have:=z6H hx hw hN hs (k:=0) (by omega) (by right;show(shp x.op).getD 0 45=114;rw[e];rfl)
    exact⟨this,Zr hs _⟩
  ·exact⟨hl,by omega⟩
 unfold stS at h
 rw[w04] at h
 generalize (if x.op=24 then l++[slotT f x.a] else l)=l1 at*
 obtain⟨l2,h2,h3⟩:=h
 split at h3
 ·injection h3 with h3;subst h3
  unfold pops at h2
  split at h2
  ·split at h2
   ·injection h2 with h2;subst h2
    exact⟨fun t ht=>h1.1 t (List.mem_of_mem_take ht),by rw[w21];omega⟩
   ·cases h2
  ·injection h2 with h2;subst h2;exact h1
 ·cases h3
theorem z8n {x:DInstr} (h:x.op=24):called x= -1:=by unfold called;rw[if_neg (by omega),if_neg (by omega)]
theorem zci (d:DImage) (hd:ImgP d) (hT:TypP d.types) (f:DFunc) (y:AV) (hy:NV d f y) (hs:SlotsP d f) (x:DInstr) (hx:InstrP x) (hw:WfI x) (hN:NearP d f x) (l:List Int) (z:AV) (hz:IsSl IsI 1 l z) (hin:InT d.types l) (hlen:l.length≤1000) (m:Mem):
  OkT tab ub [y,.agg [.int .u8 x.op,.int .i64 x.a,.int .i64 x.b,.int .i64 x.c],z] m (fun r _ _=> ∃q,r= .tup [q,.bool (stS d f x l).isSome]∧ ∀l',stS d f x l=some l'→IsSl IsI 1 l' q):=by
 have hy':=hy
 obtain⟨ty,tx,fs,w0,w1,w2,w3,rfl,h0,h1,h2,h3,h4,h5,h6⟩:=hy
 refine UE YW ?_
 obtain⟨stk,cur,nx,live,fl⟩:=m
 have hS:=fun s m=>(Q1 d f _ hy' s m).eq
 have hCa:=fun m=>(XK x m).eq
 by_cases h24:x.op=24
 ·have e24:(x.op==24)=true:=by simpa using h24
  have hcl:=z8n h24
  have hst:stS d f x l=if sumB d.types (l++[slotT f x.a])≤4096 then some (l++[slotT f x.a]) else none:=by
   unfold stS pops
   rw[if_pos h24,hcl]
   rfl
  have hin2:InT d.types (l++[slotT f x.a]):=by
   intro t ht
   rcases w08.1 ht with q|q
   ·exact hin t q
   ·rw[w13.1 q]
    have:=z6H hx hw hN hs (k:=0) (by omega) (by right;show(shp x.op).getD 0 45=114;rw[h24];rfl)
    exact⟨this,Zr hs _⟩
  rw[hcl] at hCa
  have fin: ∀(q:AV),IsSl IsI 1 (l++[slotT f x.a]) q→ ∃q',(AV.tup [q,.bool (decide (((sumB d.types (l++[slotT f x.a]):Nat):Int)≤4096))])= .tup [q',.bool (stS d f x l).isSome]∧ ∀l',stS d f x l=some l'→IsSl IsI 1 l' q':=fun q hq=>by
   rw[hst]
   by_cases hle:sumB d.types (l++[slotT f x.a])≤4096
   ·rw[if_pos hle,decide_eq_true (by omega)]
    exact⟨q,rfl,fun l' h=>by injection h with h;subst h;exact hq⟩
   ·rw[if_neg hle,decide_eq_false (by omega)]
    exact⟨q,rfl,fun l' h=>by cases h⟩
  rcases hz with⟨hzm,⟨rfl,rfl⟩|⟨tk,ys,rfl,hys⟩⟩
  ·have hq:IsSl IsI 1 ([]++[slotT f x.a]) (.list 1 (.id (callNx tab zl [.agg [ty,tx,fs,.str f.name,.int .i64 f.params,.int .i64 f.result,w0,w1,w2,w3],.int .i64 x.a] ⟨stk++[cur],[⟨nx,[ty,tx,fs,.str f.name,.int .i64 f.params,.int .i64 f.result,w0,w1,w2,w3]⟩,⟨nx+1,[.int .u8 x.op,.int .i64 x.a,.int .i64 x.b,.int .i64 x.c]⟩],callNx tab yI [.nils] ⟨stk++[cur],[⟨nx,[ty,tx,fs,.str f.name,.int .i64 f.params,.int .i64 f.result,w0,w1,w2,w3]⟩,⟨nx+1,[.int .u8 x.op,.int .i64 x.a,.int .i64 x.b,.int .i64 x.c]⟩],nx+1+1,[]::live,max fl ((stk++[cur]).length+1)⟩,[]::live,max fl ((stk++[cur]).length+1)⟩)) [.int .i64 (slotT f x.a)]):= .mk ⟨rfl,trivial⟩ (by simp)
   simp only[yd,List.map,go_sem,reduceCtorEq,G3,G0,G2,e24,(z5n _).eq,hS,zac,hCa,show((-1:Int)≥0)=False from eq_false (by decide)]
   generalize callNx tab zl _ _=k1 at*
   simp only[go_sem,reduceCtorEq,G0,G2,(VP d hT f _ hy' _ _ hq hin2 (by simp) _).eq,show((0:Int)==0)=true from rfl]
   exact yq rfl (fin _ hq)
  ·have hyl:=hys.len
   have hq: ∀k1,IsSl IsI 1 (l++[slotT f x.a]) (.list 1 (.id k1) (ys++[.int .i64 (slotT f x.a)])):=fun k1=> .mk (hys.append (ys':=[.int .i64 (slotT f x.a)]) ⟨rfl,trivial⟩) (by simp;omega)
   simp only[yd,List.map,go_sem,reduceCtorEq,G3,G0,G2,e24,(z3E _ _ _).eq,hS,z8u (ys:=ys) (by omega),hCa,show((-1:Int)≥0)=False from eq_false (by decide)]
   generalize callNx tab zl _ _=k1 at*
   simp only[go_sem,reduceCtorEq,G0,G2,(VP d hT f _ hy' _ _ (hq _) hin2 (by simp;omega) _).eq,show((0:Int)==0)=true from rfl]
   exact yq rfl (fin _ (hq _))
 have e24:(x.op==24)=false:=by simpa using h24
 by_cases hcl:0≤called x
 ·obtain⟨g,hg⟩: ∃g:Nat,called x=g:=⟨(called x).toNat,by omega⟩
  have hgl:g<d.funcs.length:=by have:=hN.2.1;omega
  obtain⟨v0,v1,v2,v3,ef,q0,q1,q2,q3⟩:=h2.fnA hgl
  have hat:=h2.at .i64 hgl
  obtain⟨g1,g2,g3,g4⟩:=hd.at hgl
  have hst:stS d f x l=if(parT (fnA d.funcs g)).length≤l.length∧l.drop (l.length-(parT (fnA d.funcs g)).length)=parT (fnA d.funcs g) then(if sumB d.types (l.take (l.length-(parT (fnA d.funcs g)).length))≤4096 then some (l.take (l.length-(parT (fnA d.funcs g)).length)) else none) else none:=by
   unfold stS pops
   rw[if_neg h24,if_pos hcl,hg,w30]
   split<;>rfl
  have hpl:=z93 (fnA d.funcs g)
  have hpg:=fun i h=>z94 (g:=fnA d.funcs g) (i:=i) h
  rw[hg] at hCa
  generalize fnA d.funcs g=F at*
  generalize hP:parT F=P at*
  have hsub:IntKind.i64.wrap ((l.length:Int)-F.params)=(l.length:Int)-P.length:=by
   have:=q0.max
   rw[zd (by omega) (by omega)];omega
  simp only[yd,List.map,go_sem,reduceCtorEq,G3,G0,G2,e24,hCa,show((g:Int)≥0)=True from eq_true (by omega),hat,ef,q0.one,q1.one,q2.one,q3.one,hz.len,hsub]
  by_cases hle:P.length≤l.length
  ·have hsub2:((l.length:Int)-P.length)=((l.length-P.length:Nat):Int):=by omega
   obtain⟨z1,hz1,hzs1⟩:=hz.fromN (n:=l.length-P.length) (by omega)
   obtain⟨z2,hz2,hzs2⟩:=hz.toN (n:=l.length-P.length) (by omega)
   have hdl:(l.drop (l.length-P.length)).length=P.length:=by rw[w51];omega
   simp only[go_sem,reduceCtorEq,G3,G0,G2,hsub2,show¬(((l.length-P.length:Nat):Int)<0) by omega,hz1,hzs1.len,hdl]
   generalize callNx tab uS _ _=k0
   refine zc (α:=Nat) (fun k σ=>(k≤P.length∧ ∀j,j<k→(l.drop (l.length-P.length))[j]? =P[j]?)∧ ∃nz,heads [2,3,9,10,45,46,47] 3 σ=⟨tmps 77 [(2,z),(3,.ptr (stk++[cur]).length 0 nx 0),(9,.ptr (stk++[cur]).length 2 k0 0),(10,.int .i64 (l.length-P.length:Nat)),(45,z1),(46,.int .i64 P.length),(47,.int .i64 k)],⟨stk++[cur],[⟨nx,[ty,tx,fs,.str f.name,.int .i64 f.params,.int .i64 f.result,w0,w1,w2,w3]⟩,⟨nx+1,[.int .u8 x.op,.int .i64 x.a,.int .i64 x.b,.int .i64 x.c]⟩,⟨k0,[.str F.name,.int .i64 F.params,.int .i64 F.result,v0,v1,v2,v3]⟩],nz,[]::live,fl⟩⟩) (fun k=>P.length-k) 0 ?_ ?_
   ·refine⟨⟨w0c _,fun j h=>absurd h (w4f _)⟩,?_⟩
    simp only[go_sem,reduceCtorEq,G0,G1]
    exact⟨_,rfl⟩
   ·rintro k σ ⟨⟨hk,ht⟩,nz,hσ⟩
    rw[hσ]
    clear hσ σ
    dsimp only at hk ht⊢
    by_cases h:k<P.length
    ·have hkd:k<(l.drop (l.length-P.length)).length:=by omega
     have e1:nth z1 k= .int .i64 (l.drop (l.length-P.length))[k]:=hzs1.nth hkd
     have hsucc:IntKind.i64.wrap ((k:Int)+1)=((k+1:Nat):Int):=by rw[zd (by omega) (by omega)];omega
     have hks:k<F.slots.length:=by omega
     have hgp:=hpg k h
     by_cases hq:(fdA F.slots (k:Nat)).typ=(l.drop (l.length-P.length))[k]
     ·have hqb:((fdA F.slots (k:Nat)).typ !=(l.drop (l.length-P.length))[k])=false:=by simpa using hq
      simp only[go_sem,G0,G1,G2,w03,h,hzs1.at .i64 hkd,e1,q0.at .i64 hks,q0.fdA hks,hqb,hsucc]
      refine⟨k+1,by omega,⟨h,fun j hj=> ?_⟩,_,rfl⟩
      rcases w46 j k with q|q
      ·exact ht j q
      ·have:j=k:=by omega
       subst this
       rw[w10 hkd,w10 h,hgp,hq]
     ·have hqb:((fdA F.slots (k:Nat)).typ !=(l.drop (l.length-P.length))[k])=true:=by simpa using hq
      simp only[go_sem,G0,G1,G2,w03,h,hzs1.at .i64 hkd,e1,q0.at .i64 hks,q0.fdA hks,hqb]
      have hno:stS d f x l=none:=by
       rw[hst,if_neg]
       rintro⟨_,e⟩
       apply hq
       rw[←hgp]
       simp only[e]
      refine yq rfl ⟨.nils,by rw[hno];rfl,fun l' h=>by rw[hno] at h;cases h⟩
    ·have hke:k=P.length:=by omega
     subst hke
     have heq:l.drop (l.length-P.length)=P:=by
      apply w2b
      intro j
      by_cases hj:j<P.length
      ·exact ht j hj
      ·rw[w16 (by omega),w16 (by omega)]
     have hin2:InT d.types (l.take (l.length-P.length)):=fun t ht=>hin t (List.mem_of_mem_take ht)
     have hB:=fun m=>(VP d hT f _ hy' _ _ hzs2 hin2 (by rw[w21];omega) m).eq
     simp only[go_sem,G3,G0,G1,G2,w03,h,hz2,hB,show((0:Int)==0)=true from rfl]
     rw[if_pos ⟨hle,heq⟩] at hst
     refine yq (by simp only[AV.refs,refsAny,hzs2.refs];rfl) ?_
     rw[hst]
     by_cases hle2:sumB d.types (l.take (l.length-P.length))≤4096
     ·rw[if_pos hle2,decide_eq_true (by omega)]
      exact⟨z2,rfl,fun l' h=>by injection h with h;subst h;exact hzs2⟩
     ·rw[if_neg hle2,decide_eq_false (by omega)]
      exact⟨z2,rfl,fun l' h=>by cases h⟩
  ·have hno:stS d f x l=none:=by rw[hst,if_neg fun q=>hle q.1]
   simp only[go_sem,reduceCtorEq,G0,G2,show(((l.length:Int)-P.length)<0)=True from eq_true (by omega)]
   refine yq rfl ⟨.nils,by rw[hno];rfl,fun l' h=>by rw[hno] at h;cases h⟩
 ·have hst:stS d f x l=if sumB d.types l≤4096 then some l else none:=by
   unfold stS pops
   rw[if_neg h24,if_neg hcl]
   rfl
  have hB:=fun m=>(VP d hT f _ hy' _ _ hz hin (by omega) m).eq
  simp only[yd,List.map,go_sem,reduceCtorEq,G3,G0,G2,e24,hCa,show¬(called x≥0) by omega,hB,show((0:Int)==0)=true from rfl]
  refine yq (by simp only[AV.refs,refsAny,hz.refs];rfl) ?_
  rw[hst]
  by_cases hle2:sumB d.types l≤4096
  ·rw[if_pos hle2,decide_eq_true (by omega)]
   exact⟨z,rfl,fun l' h=>by injection h with h;subst h;exact hz⟩
  ·rw[if_neg hle2,decide_eq_false (by omega)]
   exact⟨z,rfl,fun l' h=>by cases h⟩
def i00:DInstr:=⟨0,0,0,0⟩
def inA (l:List DInstr) (k:Nat):DInstr:=l.getD k i00
theorem z73 {l:List DInstr} {j:Nat} (h:j<l.length):l[j]=inA l j:=by simp[inA,w02,h]
theorem _root_.Go.Vs.IsSl.inA {l:List DInstr} {x:AV} (hx:IsSl IsInstr 4 l x) {j:Nat} (h:j<l.length):Vs.nth x j= .agg [.int .u8 (inA l j).op,.int .i64 (inA l j).a,.int .i64 (inA l j).b,.int .i64 (inA l j).c]:=by
 rw[←z73 h];exact hx.nth h
def Ok07 (l:List DInstr):Prop:=(∀j,j<l.length→((inA l j).op=22→(inA l j).a<l.length)∧((inA l j).op=23→(inA l j).b<l.length))∧inA l (l.length-1)=⟨34,-1,0,0⟩
def nxt1 (x:DInstr) (i:Nat):List Nat:=
 if x.op=34∨x.op=28∨x.op=30 then [] else if x.op=22 then [x.a.toNat] else if x.op=23 then(if x.b=i+1 then [i+1] else [min (i+1) x.b.toNat,max (i+1) x.b.toNat]) else [i+1]
def nxt (l:List DInstr) (i:Nat):List Nat:=nxt1 (inA l i) i
theorem z6T (l:List DInstr) (i:Nat):(nxt l i).length≤2:=by unfold nxt nxt1;(repeat' split)<;>simp
def LI (lo lv:Nat) (cur:List Blk) (y:AV) (l:List Nat):Prop:=
 (IsSl IsN 1 l y∧y.toks=[])∨ ∃k st cs,y= .grow 1 lv k st l.length∧cur[k]? =some ⟨st,cs⟩∧l.length≤cs.length∧cs.take l.length=ints l∧lo≤k
theorem LI.more {lo lv:Nat} {cur:List Blk} {y:AV} {l:List Nat} (h:LI lo lv cur y l) (bs:List Blk):LI lo lv (cur++bs) y l:=by
 rcases h with h|⟨k,st,cs,h1,h2,h3⟩
 ·exact .inl h
 ·exact .inr ⟨k,st,cs,h1,by rw[w09 (w06.1 h2).1];exact h2,h3⟩
theorem LI.len {lo lv:Nat} {cur:List Blk} {y:AV} {l:List Nat} (h:LI lo lv cur y l):evLen y=some (.int .i64 l.length):=by
 rcases h with h|⟨k,st,cs,rfl,_⟩
 ·exact h.1.len
 ·rfl
theorem Z5 {cs:List AV} {l:List Nat} (h:cs.take l.length=ints l) (hl:l.length≤cs.length) {j:Nat} (hj:j<l.length):takeV false 1 (cs.drop j)=some (.int .i64 (l[j]:Nat)):=by
 have hc:cs[j]? =some (.int .i64 (l[j]:Nat)):=by
  have:(cs.take l.length)[j]? =(ints l)[j]? :=by rw[h]
  rw[w27,if_pos hj] at this
  rw[this]
  simp[ints,hj]
 refine li _ _ ?_
 rw[List.head?_drop,hc]
theorem isN1 (a:Nat) (tk:Tok):IsSl IsN 1 [a] (.list 1 tk [.int .i64 (a:Nat)]):= .mk ⟨rfl,trivial⟩ (by simp)
theorem zb5 {l:List DInstr} {i:Nat} (h:(inA l i).op=34∨(inA l i).op=28∨(inA l i).op=30):nxt l i=[]:=by unfold nxt nxt1;rw[if_pos h]
theorem z9e {l:List DInstr} {i:Nat} (h:(inA l i).op=22):nxt l i=[(inA l i).a.toNat]:=by unfold nxt nxt1;rw[if_neg (by omega),if_pos h]
theorem zb7 {l:List DInstr} {i:Nat} (h:(inA l i).op=23) (h':(inA l i).b=i+1):nxt l i=[i+1]:=by unfold nxt nxt1;rw[if_neg (by omega),if_neg (by omega),if_pos h,if_pos h']
theorem zb6 {l:List DInstr} {i:Nat} (h:(inA l i).op=23) (h':(inA l i).b≠i+1):nxt l i=[min (i+1) (inA l i).b.toNat,max (i+1) (inA l i).b.toNat]:=by unfold nxt nxt1;rw[if_neg (by omega),if_neg (by omega),if_pos h,if_neg h']
theorem z9f {l:List DInstr} {i:Nat} (h: ¬((inA l i).op=34∨(inA l i).op=28∨(inA l i).op=30)) (h2:(inA l i).op≠22) (h3:(inA l i).op≠23):nxt l i=[i+1]:=by unfold nxt nxt1;rw[if_neg h,if_neg h2,if_neg h3]
def Jmp (x:DInstr):Prop:=(x.op=22→0≤x.a)∧(x.op=23→0≤x.b)
def CallLI (f:Nat) (args:List AV) (l:List Nat) (w:AV→AV) (m:Mem):Prop:=
 ∃y bs k,CALL tab f args m=some (w y,{m with cur:=m.cur++bs,nx:=k})∧LI m.cur.length m.stk.length (m.cur++bs) y l
theorem Yh {m0:Mem} {stk:List (List Blk)} {cur c':List Blk} {nx' fl':Nat} {own:List Nat} {live':List (List Nat)} {y:AV} (h1:y.refs (stk++[cur]).length=false) (h2:y.toks=[]):
  leave m0 ⟨stk++[cur],c',nx',own::live',fl'⟩ y=some (y,⟨stk,cur++[],nx',live',m0.floor⟩):=by
 rw[w20];exact yK h1 h2
theorem Wn {m0:Mem} {stk:List (List Blk)} {cur c':List Blk} {nx' fl':Nat} {own:List Nat} {live':List (List Nat)} {k st s n:Nat} {w:AV→AV} (hw:w=id∨w=fun y=> .tup [y,.int .i64 0]):
  ∃bs:List Blk,leave m0 ⟨stk++[cur],c',nx',own::live',fl'⟩ (w (.grow s (stk++[cur]).length k st n))=some (w (.grow s stk.length (k+cur.length) st n),⟨stk,cur++bs,nx',live',m0.floor⟩)∧
   bs=c'.map fun b=>⟨b.st,shiftAll (stk++[cur]).length ((stk++[cur]).length-1) cur.length b.cs⟩:=by
 have e:own.filter (fun _=>false)=[]:=by simp
 refine⟨_,?_,rfl⟩
 rcases hw with rfl|rfl
 ·unfold leave
  simp only[id,w4b,w42,Option.some_or,AV.refs,beq_self_eq_true,if_true,AV.toks,List.contains_nil,e,pushToks,w4c,AV.shift]
  simp
 ·unfold leave
  simp only[w4b,w42,Option.some_or,AV.refs,refsAny,beq_self_eq_true,Bool.true_or,if_true,AV.toks,toksAll,w20,List.contains_nil,e,pushToks,w4c,AV.shift,shiftAll]
  simp
theorem z27 {f:Nat} {fn:AFunc} (h:tab f=some fn) {args:List AV} {l:List Nat} {w:AV→AV} {m:Mem} (hx:X tab fn.body (mk fn.ntmps (.tup []) (numb 0 args)) (enter m) (.fin fn.res m fun v m'=> ∃y bs k,v=w y∧m'={m with cur:=m.cur++bs,nx:=k}∧LI m.cur.length m.stk.length (m.cur++bs) y l)) (hn:args.length≤fn.ntmps:=by exact Nat.le_of_ble_eq_true rfl):
  CallLI f args l w m:=by
 obtain⟨x,h1,y,bs,k,h2,h3,h4⟩:=zV h hx hn;exact⟨y,bs,k,by rw[h1,←h2,←h3],h4⟩
theorem z0C {stk:List (List Blk)} {cur c' bs:List Blk} {k st:Nat} {cs:List AV} {l:List Nat} (hb:bs=c'.map fun b=>(⟨b.st,shiftAll (stk++[cur]).length ((stk++[cur]).length-1) cur.length b.cs⟩:Blk)) (hk:c'[k]? =some ⟨st,cs⟩) (hl:l.length≤cs.length) (ht:cs.take l.length=ints l):
  LI cur.length stk.length (cur++bs) (.grow 1 stk.length (k+cur.length) st l.length) l:=by
 have hlen: ∀(a b c:Nat) (xs:List AV),(shiftAll a b c xs).length=xs.length:=fun a b c xs=>yG a b c xs
 have htk: ∀(a b c n:Nat) (xs:List AV),(shiftAll a b c xs).take n=shiftAll a b c (xs.take n):=by
  intro a b c n xs
  induction xs generalizing n with
  |nil=>simp[shiftAll]
  |cons x r ih=>cases n<;>simp[shiftAll,ih]
 refine .inr ⟨k+cur.length,st,shiftAll (stk++[cur]).length ((stk++[cur]).length-1) cur.length cs,rfl,?_,by rw[hlen];exact hl,by rw[htk,ht,Vw],by omega⟩
 rw[w14 (by omega),show k+cur.length-cur.length=k by omega,hb,w17,hk]
 rfl
theorem z3B (l:List DInstr) (x:AV) (hx:IsSl IsInstr 4 l x) (i:Nat) (hi:i<l.length) (hj:Jmp (inA l i)) (m:Mem) (hf:m.floor≤m.stk.length+1):CallLI qL [x,.int .i64 i] (nxt l i) id m:=by
 refine z27 z0V ?_
 obtain⟨stk,cur,nx,live,fl⟩:=m
 dsimp only at hf
 have hmx:=hx.max
 have hsu:IntKind.i64.wrap ((i:Int)+1)=((i+1:Nat):Int):=zb hi hmx
 have hf':fl≤(stk++[cur]).length:=by simp;omega
 simp only[Zf,List.map,go_sem,reduceCtorEq,G3,G0,G2,hx.at _ hi,hx.inA hi]
 by_cases h:(inA l i).op=34∨(inA l i).op=28∨(inA l i).op=30
 ·rw[zb5 h]
  repeat' (((first|refine zD ?_ ?_|refine zq ?_ ?_|refine zr ?_ ?_|refine zo ?_ ?_|refine zp ?_ ?_)<;>intro hq)<;>simp only[go_sem,reduceCtorEq,G0,G2,hq])
  all_goals first
   |(rw[Yh rfl rfl,z8];exact⟨_,[],_,rfl,rfl,.inl ⟨.nil 1,rfl⟩⟩)
   |(exfalso;simp only[beq_iff_eq,beq_eq_false_iff_ne,ne_eq] at*;omega)
 have e1:((inA l i).op==34)=false:=by rw[beq_eq_false_iff_ne];omega
 have e2:((inA l i).op==28)=false:=by rw[beq_eq_false_iff_ne];omega
 have e3:((inA l i).op==30)=false:=by rw[beq_eq_false_iff_ne];omega
 by_cases h2:(inA l i).op=22
 ·have e4:((inA l i).op==22)=true:=by simpa using h2
  simp only[go_sem,reduceCtorEq,G0,G2,e1,e2,e3,e4]
  rw[Yh rfl rfl,z8,z9e h2]
  have ha:=hj.1 h2
  refine⟨_,[],_,rfl,rfl,.inl ⟨?_,rfl⟩⟩
  have:=isN1 (inA l i).a.toNat .full
  rwa [w45 ha] at this
 have e4:((inA l i).op==22)=false:=by simpa using h2
 by_cases h3:(inA l i).op=23
 ·have e5:((inA l i).op==23)=true:=by simpa using h3
  have hb:=hj.2 h3
  simp only[go_sem,reduceCtorEq,G3,G0,G2,e1,e2,e3,e4,e5,hsu,evLitB,w2d,List.flatMap_nil]
  have hS:=fun nz=>(zcl ((i+1:Nat):Int) (inA l i).b (stk++[cur]) [⟨nx,[.int .u8 (inA l i).op,.int .i64 (inA l i).a,.int .i64 (inA l i).b,.int .i64 (inA l i).c]⟩,⟨nx+1,[.int .i64 ((i+1:Nat):Int),.int .i64 (inA l i).b]⟩] nz fl ([]::live) (stk++[cur]).length 1 (nx+1) (w0b _) hf' (by simp[Mem.blk,Mem.row])).eq
  simp only[go_sem,reduceCtorEq,G0,G2,hS,TX]
  by_cases h4:(inA l i).b=i+1
  ·have e6:min ((i+1:Nat):Int) (inA l i).b=((i+1:Nat):Int):=by omega
   have e7:max ((i+1:Nat):Int) (inA l i).b=((i+1:Nat):Int):=by omega
   have hC:=fun nz=>(z2t ((i+1:Nat):Int) (stk++[cur]) [⟨nx,[.int .u8 (inA l i).op,.int .i64 (inA l i).a,.int .i64 (inA l i).b,.int .i64 (inA l i).c]⟩,⟨nx+1,[.int .i64 ((i+1:Nat):Int),.int .i64 ((i+1:Nat):Int)]⟩] nz fl ([]::live) (stk++[cur]).length 1 (nx+1) (w0b _) hf' (by simp[Mem.blk,Mem.row])).eq
   simp only[go_sem,reduceCtorEq,G0,G2,e6,e7,hC,TX]
   obtain⟨bs,hbs,hbe⟩:=Wn (m0:=⟨stk,cur,nx,live,fl⟩) (stk:=stk) (cur:=cur) (c':=[⟨nx,[.int .u8 (inA l i).op,.int .i64 (inA l i).a,.int .i64 (inA l i).b,.int .i64 (inA l i).c]⟩,⟨nx+1,[.int .i64 ((i+1:Nat):Int),.int .i64 0]⟩]) (nx':=setsNx tab zQ [.grow 1 (stk++[cur]).length 1 (nx+1) 2] ⟨stk++[cur],[⟨nx,[.int .u8 (inA l i).op,.int .i64 (inA l i).a,.int .i64 (inA l i).b,.int .i64 (inA l i).c]⟩,⟨nx+1,[.int .i64 ((i+1:Nat):Int),.int .i64 ((i+1:Nat):Int)]⟩],setsNx tab xu [.grow 1 (stk++[cur]).length 1 (nx+1) 2] ⟨stk++[cur],[⟨nx,[.int .u8 (inA l i).op,.int .i64 (inA l i).a,.int .i64 (inA l i).b,.int .i64 (inA l i).c]⟩,⟨nx+1,[.int .i64 ((i+1:Nat):Int),.int .i64 (inA l i).b]⟩],nx+1+1,[]::live,fl⟩,[]::live,fl⟩) (own:=[]) (live':=live) (fl':=fl) (k:=1) (st:=nx+1) (s:=1) (n:=1) (w:=id) (.inl rfl)
   simp only[id] at hbs
   rw[hbs,z8,zb7 h3 h4]
   exact⟨_,bs,_,rfl,rfl,z0C (l:=[i+1]) hbe rfl (by simp) rfl⟩
  ·have hC:=fun nz=>(z2s (min ((i+1:Nat):Int) (inA l i).b) (max ((i+1:Nat):Int) (inA l i).b) (by omega) (stk++[cur]) [⟨nx,[.int .u8 (inA l i).op,.int .i64 (inA l i).a,.int .i64 (inA l i).b,.int .i64 (inA l i).c]⟩,⟨nx+1,[.int .i64 (min ((i+1:Nat):Int) (inA l i).b),.int .i64 (max ((i+1:Nat):Int) (inA l i).b)]⟩] nz fl ([]::live) (stk++[cur]).length 1 (nx+1) (w0b _) (by simp[Mem.blk,Mem.row])).eq
   simp only[go_sem,reduceCtorEq,G0,G2,hC]
   generalize callNx tab zQ _ _=kk
   obtain⟨bs,hbs,hbe⟩:=Wn (m0:=⟨stk,cur,nx,live,fl⟩) (stk:=stk) (cur:=cur) (c':=[⟨nx,[.int .u8 (inA l i).op,.int .i64 (inA l i).a,.int .i64 (inA l i).b,.int .i64 (inA l i).c]⟩,⟨nx+1,[.int .i64 (min ((i+1:Nat):Int) (inA l i).b),.int .i64 (max ((i+1:Nat):Int) (inA l i).b)]⟩]) (nx':=kk) (own:=[]) (live':=live) (fl':=fl) (k:=1) (st:=nx+1) (s:=1) (n:=2) (w:=id) (.inl rfl)
   simp only[id] at hbs
   rw[hbs,z8,zb6 h3 h4]
   refine⟨_,bs,_,rfl,rfl,z0C (l:=[min (i+1) (inA l i).b.toNat,max (i+1) (inA l i).b.toNat]) hbe rfl (by simp) ?_⟩
   simp only[ints,w32,List.map_nil,w26,w2f,w1d,w22]
   rw[show(min ((i+1:Nat):Int) (inA l i).b)=((min (i+1) (inA l i).b.toNat:Nat):Int) by omega,show(max ((i+1:Nat):Int) (inA l i).b)=((max (i+1) (inA l i).b.toNat:Nat):Int) by omega]
 have e5:((inA l i).op==23)=false:=by simpa using h3
 simp only[go_sem,reduceCtorEq,G0,G2,e1,e2,e3,e4,e5,hsu]
 rw[Yh rfl rfl,z8,z9f h h2 h3]
 exact⟨_,[],_,rfl,rfl,.inl ⟨isN1 _ _,rfl⟩⟩
end Go.Proofs.W
end
section
namespace Go.Vs
section
variable (nx : Nat → List Nat)
inductive Rch:Nat→Prop
 |zero:Rch 0
 |step {i k:Nat}:Rch i→k∈nx i→Rch k
structure RInv (n:Nat) (s:List Bool):Prop where
 len:s.length=n
 zero:s.getD 0 false=true
 sub: ∀i,s.getD i false=true→Rch nx i
theorem RInv.set {n k i:Nat} {s:List Bool} (h:RInv nx n s) (hi:s.getD i false=true) (hk:k∈nx i):RInv nx n (s.set k true):=by
 refine⟨by simp[h.len],?_,fun j hj=> ?_⟩
 ·simp only[w02,w2c]
  have:=h.zero
  simp only[w02] at this
  split
  ·rename_i e;subst e
   split
   ·rfl
   ·rename_i hl;rw[w16 (by omega)] at this;cases this
  ·exact this
 ·by_cases e:k=j
  ·subst e;exact .step (h.sub i hi) hk
  ·refine h.sub j ?_
   simp only[w02,w2c,if_neg e] at hj
   simpa only[w02] using hj
theorem RInv.all {n:Nat} {s:List Bool} (h:RInv nx n s) (hc: ∀i,s.getD i false=true→ ∀k∈nx i,s.getD k false=true) (i:Nat):s.getD i false=true↔Rch nx i:=by
 refine⟨h.sub i,fun hr=> ?_⟩
 induction hr with
 |zero=>exact h.zero
 |step _ hk ih=>exact hc _ ih _ hk
def unm (s:List Bool):Nat:=(s.filter fun b=> !b).length
theorem TK {s:List Bool} {k:Nat} (hk:k<s.length) (h:s.getD k false=false):unm (s.set k true)+1=unm s:=by
 induction s generalizing k with
 |nil=>simp at hk
 |cons b s ih=>
  cases k with
  |zero=>
   have:b=false:=by simpa using h
   subst this
   simp[unm]
  |succ k=>
   have:=ih (k:=k) (by simpa using hk) (by simpa using h)
   unfold unm at this⊢
   cases b<;>simp at this⊢ <;>omega
theorem zG {s:List Bool} {k:Nat} (hk:k<s.length):(s.set k true).getD k false=true:=by
 simp[w02,w2c,hk]
theorem zA {s:List Bool} {k j:Nat} (h:s.getD j false=true):(s.set k true).getD j false=true:=by
 simp only[w02,w2c] at h⊢
 split
 ·rename_i e;subst e
  split
  ·rfl
  ·rename_i hl;rw[w16 (by omega)] at h;cases h
 ·exact h
theorem getD_set_ne {α:Type} {s:List α} {k j:Nat} {v d:α} (h:k≠j):(s.set k v).getD j d=s.getD j d:=by
 simp only[w02,w2c,if_neg h]
theorem getD_set_eq {α:Type} {s:List α} {k:Nat} {v d:α} (h:k<s.length):(s.set k v).getD k d=v:=by
 simp[w02,w2c,h]
variable (st : Nat → List Int → Option (List Int))
inductive Lab:Nat→List Int→Prop
 |zero:Lab 0 []
 |step {i k:Nat} {l l':List Int}:Lab i l→st i l=some l'→k∈nx i→Lab k l'
def GoodS (n:Nat):Prop:=(∀i l,Lab nx st i l→(st i l).isSome=true)∧(∀i l l',Lab nx st i l→Lab nx st i l'→l=l')
def LastS (n:Nat):Prop:= ∀l,Lab nx st (n-1) l→l=[]
noncomputable def labOf (i:Nat):List Int:=open Classical in if h: ∃l,Lab nx st i l then h.choose else []
structure SInv (n:Nat) (kn:List Bool) (out:List (List Int)):Prop where
 len1:kn.length=n
 len2:out.length=n
 zero:kn.getD 0 false=true∧out.getD 0 []=[]
 lab: ∀i,kn.getD i false=true→Lab nx st i (out.getD i [])
 un: ∀i,kn.getD i false=false→out.getD i []=[]
theorem SInv.set {n k i:Nat} {kn:List Bool} {out:List (List Int)} {l:List Int} (h:SInv nx st n kn out) (hkn:k<n) (hu:kn.getD k false=false) (hi:kn.getD i false=true) (hs:st i (out.getD i [])=some l) (hk:k∈nx i):SInv nx st n (kn.set k true) (out.set k l):=by
 have h0:k≠0:=fun e=>by subst e;rw[h.zero.1] at hu;cases hu
 refine⟨by simp[h.len1],by simp[h.len2],⟨zA h.zero.1,by rw[getD_set_ne h0];exact h.zero.2⟩,fun j hj=> ?_,fun j hj=> ?_⟩
 ·by_cases e:k=j
  ·subst e
   rw[getD_set_eq (by rw[h.len2];exact hkn)]
   exact .step (h.lab i hi) hs hk
  ·rw[getD_set_ne e] at hj⊢;exact h.lab j hj
 ·by_cases e:k=j
  ·subst e;rw[getD_set_eq (by rw[h.len1];exact hkn)] at hj;cases hj
  ·rw[getD_set_ne e] at hj⊢;exact h.un j hj
theorem SInv.all {n:Nat} {kn:List Bool} {out:List (List Int)} (h:SInv nx st n kn out) (hc: ∀i,kn.getD i false=true→ ∃l,st i (out.getD i [])=some l∧ ∀k∈nx i,kn.getD k false=true∧out.getD k []=l):
  GoodS nx st n∧ ∀i,out.getD i []=labOf nx st i:=by
 have key: ∀i l,Lab nx st i l→kn.getD i false=true∧l=out.getD i []:=by
  intro i l hl
  induction hl with
  |zero=>exact⟨h.zero.1,h.zero.2.symm⟩
  |step _ hs hk ih=>
   obtain⟨h1,rfl⟩:=ih
   obtain⟨l,h2,h3⟩:=hc _ h1
   rw[hs] at h2;injection h2 with h2;subst h2
   exact⟨(h3 _ hk).1,(h3 _ hk).2.symm⟩
 refine⟨⟨fun i l hl=> ?_,fun i l l' h1 h2=> ?_⟩,fun i=> ?_⟩
 ·obtain⟨h1,rfl⟩:=key i l hl
  obtain⟨l,h2,_⟩:=hc _ h1
  rw[h2];rfl
 ·rw[(key i l h1).2,(key i l' h2).2]
 ·unfold labOf
  split
  ·rename_i he
   exact((key i _ he.choose_spec).2).symm
  ·rename_i he
   cases hk:kn.getD i false with
   |true=>exact absurd ⟨_,h.lab i hk⟩ he
   |false=>exact h.un i hk
theorem z13 {n i:Nat} {kn:List Bool} {out:List (List Int)} (h:SInv nx st n kn out) (hi:kn.getD i false=true) (hs:st i (out.getD i [])=none): ¬GoodS nx st n:=fun hg=>by
 have:=hg.1 i _ (h.lab i hi);rw[hs] at this;cases this
theorem z2U {n i k:Nat} {kn:List Bool} {out:List (List Int)} {l:List Int} (h:SInv nx st n kn out) (hi:kn.getD i false=true) (hs:st i (out.getD i [])=some l) (hk:k∈nx i) (hkn:kn.getD k false=true) (hne:out.getD k []≠l): ¬GoodS nx st n:=fun hg=>
 hne (hg.2 k _ _ (h.lab k hkn) (.step (h.lab i hi) hs hk))
theorem z9p {n:Nat} (hg:GoodS nx st n):LastS nx st n↔labOf nx st (n-1)=[]:=by
 unfold LastS labOf
 split
 ·rename_i he
  exact⟨fun h=>h _ he.choose_spec,fun h l hl=>by rw[←h];exact hg.2 _ _ _ hl he.choose_spec⟩
 ·rename_i he
  exact⟨fun _=>rfl,fun _ l hl=>absurd ⟨l,hl⟩ he⟩
variable (W : Nat → Nat) (p0 : Nat)
def Sub (a b:Nat):Prop:= ∀s,a.testBit s=true→b.testBit s=true
theorem Sub.refl (a:Nat):Sub a a:=fun _ h=>h
theorem Sub.trans {a b c:Nat} (h:Sub a b) (k:Sub b c):Sub a c:=fun s x=>k s (h s x)
theorem Sub.antisymm {a b:Nat} (h:Sub a b) (k:Sub b a):a=b:=Nat.eq_of_testBit_eq fun s=>by
 rw[Bool.eq_iff_iff];exact⟨h s,k s⟩
theorem Sub.and {a b c:Nat} (h:Sub a b) (k:Sub a c):Sub a (b&&&c):=fun s x=>by rw[Nat.testBit_and,h s x,k s x];rfl
theorem Sub.or {a b c d:Nat} (h:Sub a b) (k:Sub c d):Sub (a|||c) (b|||d):=fun s x=>by
 rw[Nat.testBit_or,w33] at x⊢;exact x.imp (h s) (k s)
theorem UZ (a b:Nat):Sub (a&&&b) a:=fun s x=>by rw[Nat.testBit_and,w0e] at x;exact x.1
theorem z2b (a b:Nat):Sub (a&&&b) b:=fun s x=>by rw[Nat.testBit_and,w0e] at x;exact x.2
theorem z97 {a b c:Nat} (h:Sub a c) (k:Sub b c):Sub (a|||b) c:=fun s x=>by
 rw[Nat.testBit_or,w33] at x;exact x.elim (h s) (k s)
theorem Sub.le {a b:Nat} (h:Sub a b):a≤b:=by
 have:a&&&b=a:=Sub.antisymm (UZ a b) (Sub.and (.refl a) h)
 rw[←this];exact Nat.and_le_right
def Sol (M:Nat→Nat):Prop:=Sub (M 0) p0∧ ∀i,Rch nx i→ ∀k∈nx i,Sub (M k) (M i|||W i)
def Great (out:Nat→Nat):Prop:=(∀i,¬Rch nx i→out i=0)∧Sol nx W p0 out∧ ∀M,Sol nx W p0 M→ ∀i,Rch nx i→Sub (M i) (out i)
theorem Great.unique {a b:Nat→Nat} (h:Great nx W p0 a) (k:Great nx W p0 b) (i:Nat):a i=b i:=by
 by_cases hr:Rch nx i
 ·exact Sub.antisymm (k.2.2 _ h.2.1 i hr) (h.2.2 _ k.2.1 i hr)
 ·rw[h.1 i hr,k.1 i hr]
noncomputable def mskOf (i:Nat):Nat:=open Classical in if h: ∃o,Great nx W p0 o then h.choose i else 0
theorem Great.is {o:Nat→Nat} (h:Great nx W p0 o) (i:Nat):o i=mskOf nx W p0 i:=by
 unfold mskOf
 rw[dif_pos ⟨o,h⟩]
 exact h.unique nx W p0 (Exists.choose_spec (⟨o,h⟩: ∃o,Great nx W p0 o)) i
theorem Great.le {n a:Nat} {o:Nat→Nat} (h:Great nx W p0 o) (hp:Sub p0 a) (hw: ∀i,Sub (W i) a) (i:Nat):Sub (o i) a:=by
 by_cases hr:Rch nx i
 ·induction hr with
  |zero=>exact h.2.1.1.trans hp
  |step hr hk ih=>exact(h.2.1.2 _ hr _ hk).trans (z97 ih (hw _))
 ·rw[h.1 i hr];intro s hs;simp at hs
end
section
variable {σ : Type} (upd : σ → Nat → Option Nat → σ × Bool)
def procK (i:Nat) (p:σ×List Nat) (k:Nat):σ×List Nat:=((upd p.1 k (some i)).1,if(upd p.1 k (some i)).2 then p.2++[k] else p.2)
def proc (i:Nat) (ks:List Nat) (p:σ×List Nat):σ×List Nat:=ks.foldl (procK upd i) p
theorem z7y {i j:Nat} {ks:List Nat} (h:j<ks.length) (p:σ×List Nat):proc upd i (ks.take (j+1)) p=procK upd i (proc upd i (ks.take j) p) ks[j]:=by
 unfold proc;rw[w15 h,List.foldl_append];rfl
theorem z7z {i k:Nat} {p:σ×List Nat}:(procK upd i p k).2.length≤p.2.length+1:=by
 unfold procK;simp only;split<;>simp
theorem z49 {i:Nat}: ∀(ks:List Nat) (p:σ×List Nat),(proc upd i ks p).2.length≤p.2.length+ks.length
 | [],_=>by simp[proc]
 |k::ks,p=>by
  have:=z49 (i:=i) ks (procK upd i p k)
  have h1:=z7z upd (i:=i) (k:=k) (p:=p)
  unfold proc at this⊢
  rw[List.foldl_cons,w26];omega
end
theorem z48 {σ:Type} (upd:σ→Nat→Option Nat→σ×Bool) (i:Nat) (p:σ×List Nat):proc upd i [] p=p:=rfl
theorem z1F {σ:Type} (upd:σ→Nat→Option Nat→σ×Bool) (i k:Nat) (ks:List Nat) (p:σ×List Nat):proc upd i (k::ks) p=proc upd i ks (procK upd i p k):=rfl
section
variable (nx : Nat → List Nat) (n : Nat)
def updR (s:List Bool) (k:Nat) (_:Option Nat):List Bool×Bool:=(s.set k true,!(s.getD k false))
structure RJ (s:List Bool) (op:List Nat):Prop where
 r:RInv nx n s
 cl: ∀j,s.getD j false=true→j∈op∨ ∀k∈nx j,s.getD k false=true
 o: ∀j∈op,j<n∧s.getD j false=true
 b:op.length+unm s≤n
structure RK (i:Nat) (done:List Nat) (M:Nat) (s:List Bool) (op:List Nat):Prop where
 r:RInv nx n s
 cl: ∀j,s.getD j false=true→j=i∨j∈op∨ ∀k∈nx j,s.getD k false=true
 o: ∀j∈op,j<n∧s.getD j false=true
 b:op.length+unm s+1≤n
 i:s.getD i false=true
 d: ∀k∈done,s.getD k false=true
 m:2*unm s+op.length+1≤M
theorem z3Z {s:List Bool} {k:Nat} (h:s.getD k false=true):s.set k true=s:=by
 apply w2b
 intro j
 rw[w2c]
 by_cases e:k=j
 ·subst e
  rw[w02] at h
  cases hq:s[k]? with
  |none=>rw[hq] at h;cases h
  |some b=>
   rw[hq] at h
   have:b=true:=h
   subst this
   have:=(w06.1 hq).1
   simp[this]
 ·simp[e]
theorem RK.k {i k M:Nat} {done:List Nat} {s:List Bool} {op:List Nat} (h:RK nx n i done M s op) (hk:k∈nx i) (hkn:k<n):RK nx n i (done++[k]) M (procK updR i (s,op) k).1 (procK updR i (s,op) k).2:=by
 unfold procK updR
 dsimp only
 by_cases hs:s.getD k false=true
 ·rw[z3Z hs,hs]
  exact⟨h.r,h.cl,h.o,h.b,h.i,fun k' hk'=>by rcases w08.1 hk' with q|q;·exact h.d k' q
                                            ·rw[w13.1 q];exact hs,h.m⟩
 ·have hs':s.getD k false=false:=by simpa using hs
  rw[hs']
  have hkl:k<s.length:=by rw[h.r.len];exact hkn
  have hu:=TK hkl hs'
  refine⟨h.r.set nx h.i hk,fun j hj=> ?_,fun j hj=> ?_,?_,zA h.i,fun k' hk'=> ?_,?_⟩
  ·by_cases e:k=j
   ·subst e;exact .inr (.inl (by simp))
   ·rw[getD_set_ne e] at hj
    rcases h.cl j hj with q|q|q
    ·exact .inl q
    ·exact .inr (.inl (by simp[q]))
    ·exact .inr (.inr fun k' hk'=>zA (q k' hk'))
  ·simp only[Bool.not_false,if_true,w08,w13] at hj
   rcases hj with q|rfl
   ·exact⟨(h.o j q).1,zA (h.o j q).2⟩
   ·exact⟨hkn,zG hkl⟩
  ·simp only[Bool.not_false,if_true,w05,w25]
   have:=h.b;omega
  ·rcases w08.1 hk' with q|q
   ·exact zA (h.d k' q)
   ·rw[w13.1 q];exact zG hkl
  ·simp only[Bool.not_false,if_true,w05,w25]
   have:=h.m;omega
theorem RK.all {i M:Nat}: ∀{ks done:List Nat} {s:List Bool} {op:List Nat},RK nx n i done M s op→(∀k∈ks,k∈nx i∧k<n)→RK nx n i (done++ks) M (proc updR i ks (s,op)).1 (proc updR i ks (s,op)).2
 | [],done,s,op,h,_=>by rw[w20,z48];exact h
 |k::ks,done,s,op,h,hk=>by
  have h1:=h.k nx n (hk k w1b).1 (hk k w1b).2
  have:=RK.all h1 (fun k' hk'=>hk k' (w1c _ hk'))
  rw[w0f,List.singleton_append] at this
  rw[z1F];exact this
theorem RJ.pop {s:List Bool} {op:List Nat} {i:Nat} (h:RJ nx n s (op++[i])):RK nx n i [] (2*unm s+(op++[i]).length) s op:=by
 refine⟨h.r,fun j hj=> ?_,fun j hj=>h.o j (w3a _ hj),?_,(h.o i (by simp)).2,fun k hk=>(by cases hk),?_⟩
 ·rcases h.cl j hj with q|q
  ·rcases w08.1 q with q|q
   ·exact .inr (.inl q)
   ·exact .inl (w13.1 q)
  ·exact .inr (.inr q)
 ·have:=h.b;simp at this;omega
 ·simp;omega
theorem RJ.next (hnx: ∀i,i<n→ ∀k∈nx i,k<n) {s:List Bool} {op:List Nat} {i:Nat} (h:RJ nx n s (op++[i])):
  RJ nx n (proc updR i (nx i) (s,op)).1 (proc updR i (nx i) (s,op)).2∧2*unm (proc updR i (nx i) (s,op)).1+(proc updR i (nx i) (s,op)).2.length<2*unm s+(op++[i]).length:=by
 have hi:=(h.o i (by simp)).1
 have:=RK.all nx n (h.pop nx n) (ks:=nx i) (fun k hk=>⟨hk,hnx i hi k hk⟩)
 rw[w48] at this
 refine⟨⟨this.r,fun j hj=> ?_,this.o,by have:=this.b;omega⟩,by have:=this.m;omega⟩
 rcases this.cl j hj with q|q|q
 ·subst q;exact .inr this.d
 ·exact .inl q
 ·exact .inr q
theorem RJ.done {s:List Bool} (h:RJ nx n s []) (i:Nat):s.getD i false=true↔Rch nx i:=
 h.r.all nx (fun j hj=>(h.cl j hj).elim (fun q=>by cases q) id) i
theorem RJ.start (hn:0<n):RJ nx n ((List.replicate n false).set 0 true) [0]:=by
 have hl:0<(List.replicate n false).length:=by simpa using hn
 have hg: ∀j,(List.replicate n false).getD j false=false:=fun j=>by
  simp only[w02,w38];split<;>rfl
 have hu:unm (List.replicate n false)=n:=by unfold unm;rw[List.filter_eq_self.2 (by simp)];simp
 have h1:=TK hl (hg 0)
 refine⟨⟨by simp,zG hl,fun j hj=> ?_⟩,fun j hj=> ?_,fun j hj=> ?_,?_⟩
 ·by_cases e:0=j
  ·subst e;exact .zero
  ·rw[getD_set_ne e,hg] at hj;cases hj
 ·by_cases e:0=j
  ·subst e;exact .inl (by simp)
  ·rw[getD_set_ne e,hg] at hj;cases hj
 ·rw[w13.1 hj];exact⟨hn,zG hl⟩
 ·simp only[w25];omega
theorem RInv.start (hn:0<n):RInv nx n ((List.replicate n false).set 0 true):=(RJ.start nx n hn).r
end
end Go.Vs
end
section
namespace Go.Proofs.W
open Go.Vs
set_option linter.unusedSimpArgs false
set_option maxRecDepth 100000
theorem Ym (s l k st n:Nat):evLen (.grow s l k st n)=some (.int .i64 n):=rfl
theorem Uf (s s' l k st n:Nat) (i:AV):evIaddr s (.grow s' l k st n) i=(idx i n).map fun j=> .ptr l k st (j*s):=rfl
theorem Ue (s s' l k st n:Nat) (hi:AV):evSlice s (.grow s' l k st n) none (some hi) none=(bound (some hi) n n).map fun h=> .grow s' l k st h:=by
 simp only[evSlice]
 cases bound (some hi) n n<;>simp[bound]
theorem zad {S':List (List Blk)} {st nx fl n:Nat} {cs:List AV} {rest:List Blk} {live:List (List Nat)} {v:AV} (hv:v.cells=[v]) (hn:n≤cs.length) (hfl:fl≤S'.length) (hb:(n+1)*8≤140737488355328):
  evApp ⟨S',⟨st,cs⟩::rest,nx,live,fl⟩ 1 8 (.grow 1 S'.length 0 st n) (.list 1 .full [v])=some (.grow 1 S'.length 0 nx (n+1),⟨S',⟨nx,cs.take n++[v]⟩::rest,nx+1,live,fl⟩):=by
 unfold evApp
 rw[zi]
 have hblk:Mem.blk ⟨S',⟨st,cs⟩::rest,nx,live,fl⟩ S'.length 0 st=some cs:=by simp[Mem.blk,Mem.row]
 simp only[hblk]
 rw[if_pos (by simp[hn,hfl];omega)]
 simp[Mem.put,hv]
def frm:Option Nat→Int
 |none=> -1
 |some i=>i
def Meets {σ:Type} (S:List (List Blk)) (C:σ→List Blk) (f:AV) (fl:Nat) (P:σ→Nat→Option Nat→Prop) (upd:σ→Nat→Option Nat→σ×Bool):Prop:=
 ∃g first caps,f= .fn (.func g) first caps∧ ∀s k fr c nz lv,P s k fr→ ∃nz',CALL tab g (first++[.int .i64 (k:Nat),.int .i64 (frm fr)]++caps) ⟨S++[C s],c,nz,lv,fl⟩=some (.bool (upd s k fr).2,⟨S++[C (upd s k fr).1],c,nz',lv,fl⟩)
theorem zat {lo:Nat} {S':List (List Blk)} {cur:List Blk} {y:AV} {l:List Nat} (h:LI lo S'.length cur y l) {j:Nat} (hj:j<l.length) {nx fl:Nat} {live:List (List Nat)}:
  ∃a,evIaddr 1 y (.int .i64 (j:Nat))=some a∧(Mem.at ⟨S',cur,nx,live,fl⟩ a).bind (fun cs=>(takeV false 1 cs))=some (.int .i64 (l[j]:Nat)):=by
 rcases h with⟨h,_⟩|⟨k,st,cs,rfl,h2,h3,h4,_⟩
 ·have e1:nth y j= .int .i64 (l[j]:Nat):=h.nth hj
  exact⟨_,h.at .i64 hj,by rw[e1];rfl⟩
 ·refine⟨.ptr S'.length k st (j*1),?_,?_⟩
  ·simp only[evIaddr,zS .i64 j l.length hj,w0d]
  ·simp only[Mem.at,Mem.blk,Mem.row,beq_self_eq_true,if_true,h2,w0d,w29,w19]
   exact Z5 h4 h3 hj
theorem zc1 {lv lo:Nat} {a b:Blk} {r:List Blk} {y:AV} {l:List Nat} (h:LI (lo+1) lv (a::r) y l):LI (lo+1) lv (b::r) y l:=by
 rcases h with h|⟨k,st,cs,h1,h2,h3,h4,h5⟩
 ·exact .inl h
 ·cases k with
  |zero=>omega
  |succ k=>exact .inr ⟨k+1,st,cs,h1,h2,h3,h4,h5⟩
theorem z7c {tab:Nat→Option AFunc} {o:Option (List AV)} {f:List AV→Option AV} {m:Mem} {d:Option Nat} {l:List AOper} {ρ:List AV} {k:Kont} {v:AV} (h:o.bind f=some v) (q:Xs tab l (setDst ρ d v) m k):Xv tab (o.bind fun cs=>(f cs).map fun v=>(v,m)) d l ρ k:=by
 cases o with
 |none=>cases h
 |some cs=>simp only[w29] at h⊢;rw[h];simp only[w0d];rw[uU];exact q
theorem z3z {σ:Type} (l:List DInstr) (x:AV) (hx:IsSl IsInstr 4 l x) (hjm: ∀j,j<l.length→Jmp (inA l j)) (S:List (List Blk)) (C:σ→List Blk) (f:AV) (fl:Nat) (hfl:fl≤S.length) (P:σ→Nat→Option Nat→Prop) (upd:σ→Nat→Option Nat→σ×Bool)
  (hf:Meets S C f fl P upd) (J:σ→List Nat→Prop) (μ:σ→List Nat→Nat) (s0:σ) (hP0:P s0 0 none) (hJ0:J (upd s0 0 none).1 [0]) (hlen: ∀s op,J s op→op.length≤1000000000) (hop: ∀s op,J s op→ ∀i∈op,i<l.length)
  (hP: ∀s op i,J s (op++[i])→ ∀j (hj:j<(nxt l i).length),P (proc upd i ((nxt l i).take j) (s,op)).1 (nxt l i)[j] (some i))
  (hnext: ∀s op i,J s (op++[i])→J (proc upd i (nxt l i) (s,op)).1 (proc upd i (nxt l i) (s,op)).2∧μ (proc upd i (nxt l i) (s,op)).1 (proc upd i (nxt l i) (s,op)).2<μ s (op++[i]))
  (nx:Nat) (live:List (List Nat)): ∃s' n',CALL tab tl [x,f] ⟨S,C s0,nx,live,fl⟩=some (.tup [],⟨S,C s',n',live,fl⟩)∧J s' []:=by
 suffices h:Does tab tl [x,f] ⟨S,C s0,nx,live,fl⟩ fun v m'=> ∃s' n',v= .tup []∧m'=⟨S,C s',n',live,fl⟩∧J s' [] by
  obtain⟨z,h1,s',n',h2,h3,h4⟩:=h
  exact⟨s',n',by rw[h1,←h2,←h3],h4⟩
 refine zV z0U ?_ (Nat.le_of_ble_eq_true rfl)
 obtain⟨g,first,caps,rfl,hcall⟩:=hf
 have hmx:=hx.max
 have hl: ∀s,(S++[C s]).length=S.length+1:=fun s=>by simp
 obtain⟨n1,hc0⟩:=hcall s0 0 none [] nx ([]::live) hP0
 replace hc0:CALL tab g (first++[.int .i64 0,.int .i64 (-1)]++caps) ⟨S++[C s0],[],nx,[]::live,fl⟩=some (.bool (upd s0 0 none).2,⟨S++[C (upd s0 0 none).1],[],n1,[]::live,fl⟩):=hc0
 simp only[Ze,List.map,go_sem,reduceCtorEq,G3,G0,G2,hc0,evLitB,w2d,List.flatMap_nil,hl]
 refine zc (α:=σ×List Nat) (fun z σ'=>J z.1 z.2∧ ∃nz st cs,z.2.length≤cs.length∧cs.take z.2.length=ints z.2∧heads [0,1,4] 1 σ'=⟨tmps 42 [(0,x),(1,.fn (.func g) first caps),(4,.grow 1 (S.length+1) 0 st z.2.length)],⟨S++[C z.1],[⟨st,cs⟩],nz,[]::live,fl⟩⟩) (fun z=>μ z.1 z.2) ((upd s0 0 none).1,[0]) ?_ ?_
 ·refine⟨hJ0,?_⟩
  simp only[go_sem,reduceCtorEq,G0,G1]
  exact⟨_,_,_,by simp,rfl,rfl⟩
 ·rintro⟨s,op⟩ σ' ⟨hJ,nz,st,cs,hcs,htk,hσ⟩
  rw[hσ]
  clear hσ σ'
  dsimp only at hJ hcs htk⊢
  rcases List.eq_nil_or_concat op with rfl|⟨op,i,rfl⟩
  ·simp only[go_sem,reduceCtorEq,G0,G1,G2,Ym,w2f,show((((0:Nat):Int))>0)=False from eq_false (by decide)]
   rw[yK rfl rfl,z8]
   exact⟨s,_,rfl,rfl,hJ⟩
  ·rw[List.concat_eq_append] at*
   have hi:i<l.length:=hop _ _ hJ i (by simp)
   have hol:=hlen _ _ hJ
   have hn:(op++[i]).length=op.length+1:=by simp
   rw[hn] at hcs htk hol
   have hgt:(((op.length+1:Nat):Int)>0)=True:=eq_true (by omega)
   have hsub:IntKind.i64.wrap (((op.length+1:Nat):Int)-1)=((op.length:Nat):Int):=by rw[zd (by omega) (by omega)];omega
   have hix:idx (.int .i64 ((op.length:Nat):Int)) (op.length+1)=some op.length:=zS .i64 _ _ (by omega)
   have hld:takeV false 1 (cs.drop op.length)=some (.int .i64 (i:Nat)):=by
    have h1:cs.take (op++[i]).length=ints (op++[i]):=by rw[hn];exact htk
    have:=Z5 h1 (by rw[hn];exact hcs) (j:=op.length) (by simp)
    simpa using this
   have hbd:bound (some (.int .i64 ((op.length:Nat):Int))) (op.length+1) (op.length+1)=some op.length:=by
    unfold bound;simp only;rw[if_pos (by omega)];simp
   have htk2:cs.take op.length=ints op:=by
    have:(cs.take (op.length+1)).take op.length=(ints (op++[i])).take op.length:=by rw[htk]
    rw[List.take_take,Nat.min_eq_left (by omega)] at this
    rw[this];simp[ints]
   obtain⟨y,bs,k1,hB,hLI⟩:=z3B l x hx i hi (hjm i hi) ⟨S++[C s],[⟨st,cs⟩],nz,[]::live,fl⟩ (by simp;omega)
   simp only[id,hl] at hB hLI
   have hyl:=hLI.len
   simp only[go_sem,reduceCtorEq,G0,G1,G2,Ym,hn,hgt,hsub,Uf,hix,hl,w19,hld,Ue,hbd,hB,hyl]
   obtain⟨hJn,hμ⟩:=hnext s op i hJ
   refine zc (α:=Nat) (fun j σ'=>j≤(nxt l i).length∧ ∃nz st cs,(proc upd i ((nxt l i).take j) (s,op)).2.length≤cs.length∧cs.take (proc upd i ((nxt l i).take j) (s,op)).2.length=ints (proc upd i ((nxt l i).take j) (s,op)).2∧LI 1 (S.length+1) (⟨st,cs⟩::bs) y (nxt l i)∧
    heads [0,1,4,5,27,28,29] (bs.length+1) σ'=⟨tmps 42 [(0,x),(1,.fn (.func g) first caps),(4,.grow 1 (S.length+1) 0 st (proc upd i ((nxt l i).take j) (s,op)).2.length),(5,.int .i64 i),(27,y),(28,.int .i64 (nxt l i).length),(29,.int .i64 j)],⟨S++[C (proc upd i ((nxt l i).take j) (s,op)).1],⟨st,cs⟩::bs,nz,[]::live,fl⟩⟩) (fun j=>(nxt l i).length-j) 0 ?_ ?_
   ·refine⟨w0c _,?_⟩
    simp only[go_sem,reduceCtorEq,G0,G1,w0a,w22,proc,List.foldl_nil]
    exact⟨_,_,_,by omega,htk2,hLI,rfl⟩
   ·rintro j σ' ⟨hj,nz,st,cs,hcs,htk,hLI,hσ⟩
    rw[hσ]
    clear hσ σ'
    dsimp only at hj hcs htk⊢
    by_cases h:j<(nxt l i).length
    ·have hp:=hP s op i hJ j h
     have hpl:=z49 upd (i:=i) ((nxt l i).take j) (s,op)
     have hstep:=z7y upd (i:=i) h (s,op)
     have hn2:=z6T l i
     rw[w21] at hpl
     dsimp only at hpl
     generalize proc upd i ((nxt l i).take j) (s,op)=pr at*
     obtain⟨s1,o1⟩:=pr
     dsimp only at hcs htk hp hpl
     have hlt:((j:Int)<((nxt l i).length:Nat))=True:=eq_true (by omega)
     have hsu:IntKind.i64.wrap ((j:Int)+1)=((j+1:Nat):Int):=by rw[zd (by omega) (by omega)];omega
     have hLI':LI 1 (S++[C s1]).length (⟨st,cs⟩::bs) y (nxt l i):=by rw[hl];exact hLI
     obtain⟨a,ha,hat⟩:=zat hLI' h (nx:=nz) (fl:=fl) (live:=[]::live)
     simp only[go_sem,reduceCtorEq,G0,G1,G2,hlt,ha]
     refine z7c hat ?_
     obtain⟨n2,hc⟩:=hcall s1 (nxt l i)[j] (some i) (⟨st,cs⟩::bs) nz ([]::live) hp
     simp only[frm] at hc
     simp only[go_sem,reduceCtorEq,G0,G2,hc]
     cases hb:(upd s1 (nxt l i)[j] (some i)).2
     ·simp only[go_sem,reduceCtorEq,G0,G2,hsu,w0a]
      refine⟨j+1,by omega,h,n2,st,cs,?_⟩
      rw[hstep]
      unfold procK
      dsimp only
      rw[hb]
      exact⟨hcs,htk,hLI,rfl⟩
     ·have happ:=zad (S':=S++[C (upd s1 (nxt l i)[j] (some i)).1]) (st:=st) (nx:=n2) (fl:=fl) (n:=o1.length) (cs:=cs) (rest:=bs) (live:=[]::live) (v:= .int .i64 ((nxt l i)[j]:Nat)) rfl hcs (by simp;omega) (by omega)
      rw[hl] at happ
      simp only[go_sem,reduceCtorEq,G0,G2,happ,hsu,w0a]
      refine⟨j+1,by omega,h,n2+1,n2,cs.take o1.length++[.int .i64 ((nxt l i)[j]:Nat)],?_⟩
      rw[hstep]
      unfold procK
      dsimp only
      rw[hb]
      simp only[if_true,w05,w25,w21]
      refine⟨by omega,?_,zc1 hLI,trivial⟩
      rw[htk,w37 (by simp[ints])]
      simp[ints]
    ·have hje:j=(nxt l i).length:=by omega
     subst hje
     rw[w0a] at hcs htk⊢
     simp only[go_sem,reduceCtorEq,G0,G1,G2,show(((nxt l i).length:Nat):Int)<((nxt l i).length:Nat)↔False from⟨fun h=>by omega,False.elim⟩,w22]
     refine⟨proc upd i (nxt l i) (s,op),hμ,hJn,nz,st,cs,hcs,htk,rfl⟩
noncomputable def err07 (l:List DInstr):Int:=if pb (Ok07 l) then 0 else 8
theorem Ug {l:List DInstr} (h:Ok07 l):err07 l=0:=by unfold err07;rw[zB h];rfl
theorem US {l:List DInstr} (h: ¬Ok07 l):err07 l=8:=by unfold err07;rw[ze h];rfl
structure CodeP (l:List DInstr):Prop where
 len:1≤l.length∧l.length≤200
 p: ∀x∈l,InstrP x
 w: ∀x∈l,WfI x∧inU8 x.op
theorem CodeP.at {l:List DInstr} (h:CodeP l) {j:Nat} (hj:j<l.length):InstrP (inA l j)∧WfI (inA l j)∧inU8 (inA l j).op:=by
 rw[←z73 hj];exact⟨h.p _ (w07 hj),h.w _ (w07 hj)⟩
def iEnd:DInstr:=⟨34,-1,0,0⟩
theorem za1 (x:DInstr):eqAt [(0,1),(1,1),(2,1),(3,1)] [.int .u8 x.op,.int .i64 x.a,.int .i64 x.b,.int .i64 x.c] [.int .u8 34,.int .i64 (-1),.int .i64 0,.int .i64 0]=some (decide (x=iEnd)):=by
 obtain⟨o,a,b,c⟩:=x
 simp only[eqAt,eqCell,List.getD_cons_zero,List.getD_cons_succ,sameKind,if_true]
 by_cases h1:o=34
 ·by_cases h2:a= -1
  ·by_cases h3:b=0
   ·by_cases h4:c=0
    ·subst h1;subst h2;subst h3;subst h4;rfl
    ·have e4:(c==0)=false:=by simpa using h4
     subst h1;subst h2;subst h3
     simp only[beq_self_eq_true,e4]
     rw[decide_eq_false (by unfold iEnd;simp[h4])]
   ·have e3:(b==0)=false:=by simpa using h3
    subst h1;subst h2
    simp only[beq_self_eq_true,e3]
    rw[decide_eq_false (by unfold iEnd;simp[h3])]
  ·have e2:(a== -1)=false:=by simpa using h2
   subst h1
   simp only[beq_self_eq_true,e2]
   rw[decide_eq_false (by unfold iEnd;simp[h2])]
 ·have e1:(o==34)=false:=by simpa using h1
  simp only[e1]
  rw[decide_eq_false (by unfold iEnd;simp[h1])]
theorem jc (l:List DInstr) (x:AV) (hx:IsSl IsInstr 4 l x) (hc:CodeP l) (m:Mem) (hf:m.floor≤m.stk.length+1):Okv tab xG [x] m (.int .i64 (err07 l)):=by
 refine zh z2D ?_
 obtain⟨stk,cur,nx,live,fl⟩:=m
 dsimp only at hf
 have hf':fl≤(stk++[cur]).length+1:=by simp;omega
 have hmx:=hx.max
 have hln:=hc.len
 have e0:((l.length:Int)==0)=false:=by rw[beq_eq_false_iff_ne];omega
 have hsub:IntKind.i64.wrap ((l.length:Int)-1)=((l.length-1:Nat):Int):=by rw[zd (by omega) (by omega)];omega
 have hlast:=hx.at .i64 (show l.length-1<l.length by omega)
 have elast:=hx.inA (show l.length-1<l.length by omega)
 simp only[Yu,List.map,go_sem,reduceCtorEq,G3,G0,G4,G2,hx.len,e0,show¬((l.length:Int)>200) by omega,hsub,hlast,elast,evBuild,za1]
 by_cases hE:inA l (l.length-1)=iEnd
 case neg=>
  simp only[go_sem,reduceCtorEq,G0,G2,hE]
  rw[z6 rfl rfl,z8]
  exact⟨⟨_,rfl⟩,by rw[US fun h=>hE h.2]⟩
 simp only[go_sem,reduceCtorEq,G0,G2,hE,hx.len]
 refine zc (α:=Nat) (fun i σ=>(i≤l.length∧ ∀j,j<i→((inA l j).op=22→(inA l j).a<l.length)∧((inA l j).op=23→(inA l j).b<l.length))∧ ∃nz,heads [3,23,24,25] 0 σ=⟨tmps 53 [(3,.int .i64 l.length),(23,x),(24,.int .i64 l.length),(25,.int .i64 i)],⟨stk++[cur],[],nz,[]::live,fl⟩⟩) (fun i=>l.length-i) 0 ?_ ?_
 ·refine⟨⟨w0c _,fun j h=>absurd h (w4f _)⟩,?_⟩
  simp only[go_sem,reduceCtorEq,G0,G1]
  exact⟨_,rfl⟩
 ·rintro i σ ⟨⟨hi,ht⟩,nz,hσ⟩
  rw[hσ]
  clear hσ σ
  dsimp only at hi ht⊢
  by_cases h:i<l.length
  ·obtain⟨c1,c2,c3⟩:=hc.at h
   have hC:=fun c nz=>(kj (inA l i) ⟨stk++[cur],c,nz,[]::live,fl⟩ hf').eq
   rw[jL c1] at hC
   have hsucc:=zb h hmx
   simp only[go_sem,G3,G0,G1,G2,w03,h,hx.at _ h,hx.inA h,hC,show((0:Int) !=0)=false from rfl]
   repeat' (((first|refine zD ?_ ?_|refine zq ?_ ?_|refine zr ?_ ?_|refine zo ?_ ?_|refine zp ?_ ?_)<;>intro hq)<;>simp only[go_sem,G0,G2,hq,hsucc])
   all_goals first
    |(rw[z6 rfl rfl,z8];refine⟨⟨_,rfl⟩,?_⟩;rw[US fun h'=> ?_];have:=h'.1 i h;simp only[beq_iff_eq,beq_eq_false_iff_ne,ne_eq,decide_eq_true_eq,decide_eq_false_iff_not] at*;omega)
    |(refine⟨i+1,by omega,⟨by omega,fun j hj=> ?_⟩,_,rfl⟩
      rcases w46 j i with q|q
      ·exact ht j q
      ·have:j=i:=by omega
       subst this
       simp only[beq_iff_eq,beq_eq_false_iff_ne,ne_eq,decide_eq_false_iff_not] at*
       omega)
  ·have:i=l.length:=by omega
   subst this
   simp only[go_sem,G0,G1,G2,w03,h]
   rw[z6 rfl rfl,z8]
   exact⟨⟨_,rfl⟩,by rw[Ug ⟨ht,hE⟩]⟩
theorem z3b {x:DInstr} (h:InstrP x):Jmp x:=by
 obtain⟨a,b,c,hs,f1,f2,f3⟩:=h
 refine⟨fun e=> ?_,fun e=> ?_⟩
 ·rw[e] at hs
  have:shp 22=[105,45,45]:=by decide
  rw[this] at hs
  injection hs with hs _
  subst hs
  have:lo 105=0:=by decide
  unfold fitsK at f1;omega
 ·rw[e] at hs
  have:shp 23=[114,105,45]:=by decide
  rw[this] at hs
  injection hs with _ hs
  injection hs with hs _
  subst hs
  have:lo 105=0:=by decide
  unfold fitsK at f2;omega
theorem z5H {l:List DInstr} (hc:CodeP l) (h:Ok07 l) {i:Nat} (hi:i<l.length): ∀k∈nxt l i,k<l.length:=by
 have hj:=z3b (hc.at hi).1
 have h1:=h.1 i hi
 have hne:(inA l i).op≠34→i+1<l.length:=fun e=>by
  by_cases hl:i=l.length-1
  ·have:=h.2;rw[←hl] at this;rw[this] at e;exact absurd rfl e
  ·omega
 intro k hk
 unfold nxt nxt1 at hk
 split at hk
 ·cases hk
 ·rename_i a0
  have:=hne (fun e=>a0 (.inl e))
  split at hk
  ·rename_i a1
   have:=h1.1 a1
   have:=hj.1 a1
   rw[w13.1 hk];omega
  ·split at hk
   ·rename_i a2
    have:=h1.2 a2
    have:=hj.2 a2
    split at hk
    ·rw[w13.1 hk];omega
    ·simp only[w35,List.not_mem_nil,or_false] at hk
     rcases hk with rfl|rfl<;>omega
   ·rw[w13.1 hk];omega
theorem zcm (l:List DInstr) (x:AV) (hx:IsSl IsInstr 4 l x) (hc:CodeP l) (h7:Ok07 l) (i:Nat) (hi:i<l.length) (m:Mem) (hf:m.floor≤m.stk.length+1):CallLI WN [x,.int .i64 i] (nxt l i) (fun y=> .tup [y,.int .i64 0]) m:=by
 refine z27 z3R ?_
 obtain⟨stk,cur,nx,live,fl⟩:=m
 dsimp only at hf
 have hf':fl≤(stk++[cur]).length+1:=by simp;omega
 have hC:=fun c nz=>(jc l x hx hc ⟨stk++[cur],c,nz,[]::live,fl⟩ hf').eq
 rw[Ug h7] at hC
 simp only[WL,List.map,go_sem,reduceCtorEq,G3,G0,G2,hC,show((0:Int) !=0)=false from rfl,hx.len,show¬((i:Int)<0) by omega,show¬((i:Int)≥(l.length:Nat)) by omega]
 obtain⟨y,bs,k,h1,h2⟩:=z3B l x hx i hi (z3b (hc.at hi).1) ⟨stk++[cur],[],callNx tab xG [x] ⟨stk++[cur],[],nx,[]::live,fl⟩,[]::live,fl⟩ hf'
 simp only[id,w48] at h1 h2
 simp only[go_sem,reduceCtorEq,G0,G2,h1]
 rcases h2 with⟨h2,h3⟩|⟨q,st,cs,rfl,h3,h4,h5,_⟩
 ·rw[Yh (by simp only[AV.refs,refsAny,h2.refs];rfl) (by simp only[AV.toks,toksAll,h3];rfl),z8]
  exact⟨y,[],_,rfl,rfl,.inl ⟨h2,h3⟩⟩
 ·obtain⟨bs',hbs,hbe⟩:=Wn (m0:=⟨stk,cur,nx,live,fl⟩) (stk:=stk) (cur:=cur) (c':=bs) (nx':=k) (own:=[]) (live':=live) (fl':=fl) (k:=q) (st:=st) (s:=1) (n:=(nxt l i).length) (w:=fun y=> .tup [y,.int .i64 0]) (.inr rfl)
  rw[hbs,z8]
  exact⟨_,bs',_,rfl,rfl,z0C hbe h3 h4 h5⟩
def bools (s:List Bool):List AV:=s.map .bool
theorem ZM (s:List Bool):(bools s).length=s.length:=by simp[bools]
theorem V0 {s:List Bool} {j:Nat} (h:j<s.length):takeV false 1 ((bools s).drop j)=some (.bool (s.getD j false)):=by
 refine li _ _ ?_
 rw[List.head?_drop]
 simp[bools,w02,h]
theorem ZL {s:List Bool} {j:Nat} (v:Bool) (h:j<s.length):(bools s).take j++[.bool v]++(bools s).drop (j+1)=bools (s.set j v):=by
 unfold bools
 rw[List.map_set,w56,if_pos (by simpa using h)];simp
theorem UV (n:Nat):flatRep [.bool false] n=bools (List.replicate n false):=by
 induction n with
 |zero=>rfl
 |succ n ih=>rw[flatRep,ih,w52];rfl
theorem z3Y (l l' k:Nat) (s:List Bool):shiftAll l l' k (bools s)=bools s:=by
 induction s with
 |nil=>rfl
 |cons b r ih=>simp only[bools,w32,shiftAll,AV.shift] at ih⊢;rw[ih]
theorem z4x {m0:Mem} {stk:List (List Blk)} {cur c':List Blk} {nx' fl':Nat} {own:List Nat} {live':List (List Nat)} {r:AV} (h1:r.refs (stk++[cur]).length=true) (h2:r.toks=[]):
  leave m0 ⟨stk++[cur],c',nx',own::live',fl'⟩ r=some (r.shift (stk++[cur]).length stk.length cur.length,⟨stk,cur++c'.map (fun b=>⟨b.st,shiftAll (stk++[cur]).length stk.length cur.length b.cs⟩),nx',live',m0.floor⟩):=by
 have e:own.filter (fun _=>false)=[]:=by simp
 unfold leave
 simp only[w4b,w42,Option.some_or,h1,if_true,h2,List.contains_nil,e,pushToks,w4c]
 simp
def CallArr (f:Nat) (args:List AV) (n:Nat) (Q:List AV→Prop) (w:AV→AV) (m:Mem):Prop:=
 ∃bs k j st cs,CALL tab f args m=some (w (.arr m.stk.length j st 0 n),{m with cur:=m.cur++bs,nx:=k})∧(m.cur++bs)[j]? =some ⟨st,cs⟩∧m.cur.length≤j∧Q cs
theorem z0s {f:Nat} {fn:AFunc} (h:tab f=some fn) {args:List AV} {n:Nat} {Q:List AV→Prop} {w:AV→AV} {m:Mem} (hx:X tab fn.body (mk fn.ntmps (.tup []) (numb 0 args)) (enter m) (.fin fn.res m fun v m'=> ∃bs k j st cs,v=w (.arr m.stk.length j st 0 n)∧m'={m with cur:=m.cur++bs,nx:=k}∧(m.cur++bs)[j]? =some ⟨st,cs⟩∧m.cur.length≤j∧Q cs)) (hn:args.length≤fn.ntmps:=by exact Nat.le_of_ble_eq_true rfl):
  CallArr f args n Q w m:=by
 obtain⟨x,h1,bs,k,j,st,cs,h2,h3,h4⟩:=zV h hx hn;exact⟨bs,k,j,st,cs,by rw[h1,←h2,←h3],h4⟩
theorem z3g {stk:List (List Blk)} {cur c':List Blk} {nx nx' fl fl':Nat} {own:List Nat} {live:List (List Nat)} {j st n:Nat} {cs:List AV} {Q:List AV→Prop} {w:AV→AV} (hw:w=id∨ ∃z,z.toks=[]∧z.refs (stk++[cur]).length=false∧z.shift (stk++[cur]).length stk.length cur.length=z∧w=fun y=> .tup [y,z])
  (hj:c'[j]? =some ⟨st,cs⟩) (hs:shiftAll (stk++[cur]).length stk.length cur.length cs=cs) (hQ:Q cs):
  Opt (leave ⟨stk,cur,nx,live,fl⟩ ⟨stk++[cur],c',nx',own::live,fl'⟩ (w (.arr (stk++[cur]).length j st 0 n))) fun r=> ∃bs k j st cs,r.1=w (.arr stk.length j st 0 n)∧r.2=⟨stk,cur++bs,k,live,fl⟩∧(cur++bs)[j]? =some ⟨st,cs⟩∧cur.length≤j∧Q cs:=by
 have h1:(w (.arr (stk++[cur]).length j st 0 n)).refs (stk++[cur]).length=true:=by
  rcases hw with rfl|⟨z,_,_,_,rfl⟩<;>simp[AV.refs,refsAny]
 have h2:(w (.arr (stk++[cur]).length j st 0 n)).toks=[]:=by
  rcases hw with rfl|⟨z,hz,_,_,rfl⟩
  ·rfl
  ·simp only[AV.toks,toksAll,hz,w20]
 have h3:(w (.arr (stk++[cur]).length j st 0 n)).shift (stk++[cur]).length stk.length cur.length=w (.arr stk.length (j+cur.length) st 0 n):=by
  rcases hw with rfl|⟨z,_,_,hz,rfl⟩
  ·simp[AV.shift]
  ·simp[AV.shift,shiftAll];simpa using hz
 rw[z4x h1 h2,z8,h3]
 refine⟨_,_,j+cur.length,st,cs,rfl,rfl,?_,by omega,hQ⟩
 rw[w14 (by omega),show j+cur.length-cur.length=j by omega,w17,hj]
 rw[w0d];simp only[hs]
theorem ZH (S:List (List Blk)) (X c:List Blk):((S++[X])++[c]).getD S.length []=X:=by simp[w02]
theorem WW (S:List (List Blk)) (X c:List Blk) (f:List Blk→List Blk):((S++[X])++[c]).modify S.length f=(S++[f X])++[c]:=by
 rw[w47 (by simp)]
 simp
theorem tD {stk:List (List Blk)} {cur:List Blk} {nx fl:Nat} {live:List (List Nat)} {s bytes n:Nat} {z:List AV} (hb:bytes*n≤281474976710656) (hn:n≤9223372036854775807) (hz:z.length=s):
  evMake ⟨stk,cur,nx,live,fl⟩ s bytes z (.int .i64 (n:Int)) (.int .i64 (n:Int))=some (.arr stk.length cur.length nx 0 n,⟨stk,cur++[⟨nx,flatRep z n⟩],nx+1,live,fl⟩):=by
 unfold evMake
 simp only
 rw[if_pos ⟨trivial,by omega,by rw[←Int.natCast_mul];omega,by omega,hz⟩]
 simp only[w30]
theorem Ws (S:List (List Blk)) (X c:List Blk):(S.length==((S++[X])++[c]).length)=false:=by simp
def CR (a b L n:Nat) (s:List Bool):List Blk:=[⟨a,bools s⟩,⟨b,[.arr L 0 a 0 n]⟩]
theorem z5l (S:List (List Blk)) (a b n fl:Nat) (hfl:fl≤S.length):Meets S (CR a b S.length n) (.fn (.func vf) [] [.ptr S.length 1 b 0]) fl (fun s k _=>s.length=n∧k<n) updR:=by
 refine⟨_,_,_,rfl,?_⟩
 rintro s k fr c nz lv ⟨hs,hk⟩
 suffices h:Does tab vf [.int .i64 (k:Nat),.int .i64 (frm fr),.ptr S.length 1 b 0] ⟨S++[CR a b S.length n s],c,nz,lv,fl⟩ fun v m'=> ∃nz',v= .bool (updR s k fr).2∧m'=⟨S++[CR a b S.length n (updR s k fr).1],c,nz',lv,fl⟩ by
  obtain⟨z,h1,n',h2,h3⟩:=h
  exact⟨n',by rw[←h2,←h3];exact h1⟩
 refine zV UB ?_ (Nat.le_of_ble_eq_true rfl)
 have hix:idx (.int .i64 (k:Int)) n=some k:=zS .i64 k n hk
 have hg:=V0 (s:=s) (j:=k) (by omega)
 have hst:=ZL (s:=s) (j:=k) true (by omega)
 have hbl:k+1≤(bools s).length:=by rw[ZM];omega
 simp only[qA,List.map,go_sem,reduceCtorEq,G3,G0,G2,Ws,ZH,CR,zf,hix,w19,hg,hfl,hbl,hst,WW,Zs]
 rw[yK rfl rfl,z8]
 exact⟨_,rfl,rfl⟩
theorem z7n (l:List DInstr) (x:AV) (hx:IsSl IsInstr 4 l x) (hc:CodeP l) (h7:Ok07 l) (m:Mem) (hf:m.floor≤m.stk.length+1):
  CallArr qi [x] l.length (fun cs=> ∃s:List Bool,cs=bools s∧s.length=l.length∧ ∀i,i<l.length→(s.getD i false=true↔Rch (nxt l) i∨i=l.length-1)) (fun y=> .tup [y,.int .i64 0]) m:=by
 refine z0s W3 ?_
 obtain⟨stk,cur,nx,live,fl⟩:=m
 dsimp only at hf
 have hf':fl≤(stk++[cur]).length+1:=by simp;omega
 have hln:=hc.len
 have hC:=fun c nz=>(jc l x hx hc ⟨stk++[cur],c,nz,[]::live,fl⟩ hf').eq
 rw[Ug h7] at hC
 simp only[qd,List.map,go_sem,reduceCtorEq,G0,G2,hC,show((0:Int) !=0)=false from rfl,hx.len,tD (s:=1) (bytes:=1) (n:=l.length) (z:=[.bool false]) (by omega) (by omega) rfl,UV]
 generalize callNx tab xG _ _=nz
 have hnx:=fun i hi=>z5H hc h7 (i:=i) hi
 obtain⟨s',n',hcall,hJ⟩:=z3z l x hx (fun j hj=>z3b (hc.at hj).1) (stk++[cur]) (CR nz (nz+1) (stk++[cur]).length l.length) (.fn (.func vf) [] [.ptr (stk++[cur]).length 1 (nz+1) 0]) fl (by simp;omega) _ updR
  (z5l (stk++[cur]) nz (nz+1) l.length fl (by simp;omega)) (RJ (nxt l) l.length) (fun s op=>2*unm s+op.length) (List.replicate l.length false) ⟨by simp,by omega⟩ (RJ.start (nxt l) l.length (by omega))
  (fun s op h=>by have:=h.b;omega) (fun s op h i hi=>(h.o i hi).1)
  (fun s op i h j hj=>by
   have hi:=(h.o i (by simp)).1
   have:=RK.all (nxt l) l.length (h.pop (nxt l) l.length) (ks:=(nxt l i).take j) (fun k hk=>⟨List.mem_of_mem_take hk,hnx i hi k (List.mem_of_mem_take hk)⟩)
   exact⟨this.r.len,hnx i hi _ (w07 hj)⟩)
  (fun s op i h=>h.next (nxt l) l.length hnx) (nz+1+1) ([]::live)
 simp only[CR] at hcall
 have hsl:=hJ.r.len
 have hsub:IntKind.i64.wrap ((l.length:Int)-1)=((l.length-1:Nat):Int):=by rw[zd (by omega) (by omega)];omega
 have hix:idx (.int .i64 ((l.length-1:Nat):Int)) l.length=some (l.length-1):=zS .i64 _ _ (by omega)
 have hst:=ZL (s:=s') (j:=l.length-1) true (by omega)
 have hbl:l.length-1+1≤(bools s').length:=by rw[ZM];omega
 simp only[go_sem,reduceCtorEq,G0,G2,hcall,evLen,hsub,zf,hix,w19,hbl,hst]
 refine z3g (w:=fun y=> .tup [y,.int .i64 0]) (.inr ⟨_,rfl,rfl,rfl,rfl⟩) (cs:=bools (s'.set (l.length-1) true)) rfl (z3Y _ _ _ _) ⟨_,rfl,by simp[hsl],fun i hi=> ?_⟩
 by_cases e:l.length-1=i
 ·subst e
  rw[zG (by omega)];simp
 ·rw[Vs.getD_set_ne e,hJ.done (nxt l) l.length i]
  exact⟨.inl,fun q=>q.resolve_right fun q=>e q.symm⟩
end Go.Proofs.W
end
section
namespace Go.Vs
section
variable (nx : Nat → List Nat) (n : Nat) (st : Nat → List Int → Option (List Int)) (T : List Int → Prop)
structure SI (kn:List Bool) (out:List (List Int)):Prop where
 r:SInv nx st n kn out
 t: ∀i,T (out.getD i [])
 len: ∀i,(out.getD i []).length+unm kn+1≤n
theorem SI.set {k i:Nat} {kn:List Bool} {out:List (List Int)} {l:List Int} (h:SI nx n st T kn out) (hkn:k<n) (hu:kn.getD k false=false) (hi:kn.getD i false=true) (hs:st i (out.getD i [])=some l) (hk:k∈nx i) (hl:T l∧l.length≤(out.getD i []).length+1):
  SI nx n st T (kn.set k true) (out.set k l)∧unm (kn.set k true)+1=unm kn:=by
 have hkl:k<kn.length:=by rw[h.r.len1];exact hkn
 have hko:k<out.length:=by rw[h.r.len2];exact hkn
 have hum:=TK hkl hu
 refine⟨⟨h.r.set nx st hkn hu hi hs hk,fun j=> ?_,fun j=> ?_⟩,hum⟩
 ·by_cases e:k=j
  ·subst e;rw[getD_set_eq hko];exact hl.1
  ·rw[getD_set_ne e];exact h.t j
 ·by_cases e:k=j
  ·subst e;rw[getD_set_eq hko]
   have:=h.len i;omega
  ·rw[getD_set_ne e]
   have:=h.len j;omega
theorem SI.start (hn:0<n) (hT:T []):SI nx n st T ((List.replicate n false).set 0 true) (List.replicate n []):=by
 have hR:=RInv.start nx n hn
 have hl:0<(List.replicate n false).length:=by simpa using hn
 have hg: ∀j,(List.replicate n false).getD j false=false:=fun j=>by
  simp only[w02,w38];split<;>rfl
 have ho: ∀j,(List.replicate n ([]:List Int)).getD j []=[]:=fun j=>by
  simp only[w02,w38];split<;>rfl
 have hu:unm (List.replicate n false)=n:=by unfold unm;rw[List.filter_eq_self.2 (by simp)];simp
 have h1:=TK hl (hg 0)
 refine⟨⟨hR.len,by simp,⟨hR.zero,ho 0⟩,fun i hi=> ?_,fun i _=>ho i⟩,fun i=>by rw[ho];exact hT,fun i=>by rw[ho];simp;omega⟩
 by_cases e:0=i
 ·subst e;rw[ho];exact .zero
 ·rw[getD_set_ne e,hg] at hi;cases hi
def Done (kn:List Bool) (out:List (List Int)) (j:Nat):Prop:= ∃l,st j (out.getD j [])=some l∧ ∀k∈nx j,kn.getD k false=true∧out.getD k []=l
theorem Done.set {kn:List Bool} {out:List (List Int)} {j k:Nat} {l:List Int} (h:Done nx st kn out j) (hkn:kn.getD j false=true) (hu:kn.getD k false=false):Done nx st (kn.set k true) (out.set k l) j:=by
 obtain⟨l0,h1,h2⟩:=h
 have hjk:k≠j:=fun e=>by subst e;rw[hkn] at hu;cases hu
 refine⟨l0,by rw[getD_set_ne hjk];exact h1,fun k' hk'=> ?_⟩
 have hkk:k≠k':=fun e=>by subst e;rw[(h2 _ hk').1] at hu;cases hu
 exact⟨zA (h2 k' hk').1,by rw[getD_set_ne hkk];exact(h2 k' hk').2⟩
structure SJ (kn:List Bool) (out:List (List Int)) (op:List Nat):Prop where
 r:SI nx n st T kn out
 cl: ∀j,kn.getD j false=true→j∈op∨Done nx st kn out j
 o: ∀j∈op,j<n∧kn.getD j false=true
 b:op.length+unm kn≤n
structure SK (i:Nat) (l:List Int) (done:List Nat) (M:Nat) (kn:List Bool) (out:List (List Int)) (op:List Nat):Prop where
 r:SI nx n st T kn out
 cl: ∀j,kn.getD j false=true→j=i∨j∈op∨Done nx st kn out j
 o: ∀j∈op,j<n∧kn.getD j false=true
 b:op.length+unm kn+1≤n
 hi:kn.getD i false=true
 hs:st i (out.getD i [])=some l
 hl:T l∧l.length≤(out.getD i []).length+1
 d: ∀k∈done,kn.getD k false=true∧out.getD k []=l
 m:2*unm kn+op.length+1≤M
theorem SJ.pop {kn:List Bool} {out:List (List Int)} {op:List Nat} {i:Nat} {l:List Int} (h:SJ nx n st T kn out (op++[i])) (hs:st i (out.getD i [])=some l) (hl:T l∧l.length≤(out.getD i []).length+1):SK nx n st T i l [] (2*unm kn+(op++[i]).length) kn out op:=by
 refine⟨h.r,fun j hj=> ?_,fun j hj=>h.o j (w3a _ hj),?_,(h.o i (by simp)).2,hs,hl,fun k hk=>(by cases hk),?_⟩
 ·rcases h.cl j hj with q|q
  ·rcases w08.1 q with q|q
   ·exact .inr (.inl q)
   ·exact .inl (w13.1 q)
  ·exact .inr (.inr q)
 ·have:=h.b;simp at this;omega
 ·simp;omega
theorem SK.same {i k M:Nat} {l:List Int} {done:List Nat} {kn:List Bool} {out:List (List Int)} {op:List Nat} (h:SK nx n st T i l done M kn out op) (hk:kn.getD k false=true) (he:out.getD k []=l):SK nx n st T i l (done++[k]) M kn out op:=
 ⟨h.r,h.cl,h.o,h.b,h.hi,h.hs,h.hl,fun k' hk'=>by
  rcases w08.1 hk' with q|q
  ·exact h.d k' q
  ·rw[w13.1 q];exact⟨hk,he⟩,h.m⟩
theorem SK.new {i k M:Nat} {l:List Int} {done:List Nat} {kn:List Bool} {out:List (List Int)} {op:List Nat} (h:SK nx n st T i l done M kn out op) (hkn:k<n) (hk:k∈nx i) (hu:kn.getD k false=false):SK nx n st T i l (done++[k]) M (kn.set k true) (out.set k l) (op++[k]):=by
 obtain⟨h1,h2⟩:=h.r.set nx n st T hkn hu h.hi h.hs hk h.hl
 have hki:k≠i:=fun e=>by subst e;rw[h.hi] at hu;cases hu
 have hko:k<out.length:=by rw[h.r.r.len2];exact hkn
 have hkl:k<kn.length:=by rw[h.r.r.len1];exact hkn
 refine⟨h1,fun j hj=> ?_,fun j hj=> ?_,?_,zA h.hi,by rw[getD_set_ne hki];exact h.hs,by rw[getD_set_ne hki];exact h.hl,fun k' hk'=> ?_,?_⟩
 ·by_cases e:k=j
  ·subst e;exact .inr (.inl (by simp))
  ·rw[getD_set_ne e] at hj
   rcases h.cl j hj with q|q|q
   ·exact .inl q
   ·exact .inr (.inl (by simp[q]))
   ·exact .inr (.inr (q.set nx st hj hu))
 ·rcases w08.1 hj with q|q
  ·exact⟨(h.o j q).1,zA (h.o j q).2⟩
  ·rw[w13.1 q];exact⟨hkn,zG hkl⟩
 ·have:=h.b;simp only[w05,w25];omega
 ·rcases w08.1 hk' with q|q
  ·have hkk:k≠k':=fun e=>by subst e;rw[(h.d _ q).1] at hu;cases hu
   exact⟨zA (h.d k' q).1,by rw[getD_set_ne hkk];exact(h.d k' q).2⟩
  ·rw[w13.1 q];exact⟨zG hkl,getD_set_eq hko⟩
 ·have:=h.m;simp only[w05,w25];omega
theorem SK.fin {i M:Nat} {l:List Int} {kn:List Bool} {out:List (List Int)} {op:List Nat} (h:SK nx n st T i l (nx i) M kn out op):SJ nx n st T kn out op∧2*unm kn+op.length<M:=by
 refine⟨⟨h.r,fun j hj=> ?_,h.o,by have:=h.b;omega⟩,by have:=h.m;omega⟩
 rcases h.cl j hj with q|q|q
 ·subst q;exact .inr ⟨l,h.hs,h.d⟩
 ·exact .inl q
 ·exact .inr q
theorem SJ.done {kn:List Bool} {out:List (List Int)} (h:SJ nx n st T kn out []):GoodS nx st n∧ ∀i,out.getD i []=labOf nx st i:=
 h.r.r.all nx st fun i hi=>(h.cl i hi).elim (fun q=>by cases q) id
theorem SJ.start (hn:0<n) (hT:T []):SJ nx n st T ((List.replicate n false).set 0 true) (List.replicate n []) [0]:=by
 have h:=SI.start nx n st T hn hT
 have hR:=RJ.start nx n hn
 have hg: ∀j,(List.replicate n false).getD j false=false:=fun j=>by
  simp only[w02,w38];split<;>rfl
 refine⟨h,fun j hj=> ?_,hR.o,hR.b⟩
 by_cases e:0=j
 ·subst e;exact .inl (by simp)
 ·rw[getD_set_ne e,hg] at hj;cases hj
structure SR (kn0:List Bool) (out0:List (List Int)) (j:Nat) (kn:List Bool) (out:List (List Int)) (ch:Bool):Prop where
 r:SI nx n st T kn out
 le:unm kn≤unm kn0
 eq:ch=false→kn=kn0∧out=out0∧ ∀i,i<j→kn0.getD i false=true→Done nx st kn0 out0 i
 lt:ch=true→unm kn<unm kn0
structure SQ (kn0:List Bool) (out0:List (List Int)) (i:Nat) (l:List Int) (done:List Nat) (kn:List Bool) (out:List (List Int)) (ch:Bool):Prop where
 r:SR nx n st T kn0 out0 i kn out ch
 hi:kn.getD i false=true
 hs:st i (out.getD i [])=some l
 hl:T l∧l.length≤(out.getD i []).length+1
 d: ∀k∈done,kn.getD k false=true∧out.getD k []=l
theorem SR.zero {kn:List Bool} {out:List (List Int)} (h:SI nx n st T kn out):SR nx n st T kn out 0 kn out false:=
 ⟨h,w0b _,fun _=>⟨rfl,rfl,fun i hi=>absurd hi (w4f _)⟩,fun e=>by cases e⟩
theorem SR.skip {kn0 kn:List Bool} {out0 out:List (List Int)} {j:Nat} {ch:Bool} (h:SR nx n st T kn0 out0 j kn out ch) (hu:kn.getD j false=false):SR nx n st T kn0 out0 (j+1) kn out ch:=by
 refine⟨h.r,h.le,fun e=>⟨(h.eq e).1,(h.eq e).2.1,fun i hi hk=> ?_⟩,h.lt⟩
 by_cases hij:i=j
 ·subst hij;rw[←(h.eq e).1,hu] at hk;cases hk
 ·exact(h.eq e).2.2 i (by omega) hk
theorem SQ.same {kn0 kn:List Bool} {out0 out:List (List Int)} {i k:Nat} {l:List Int} {done:List Nat} {ch:Bool} (h:SQ nx n st T kn0 out0 i l done kn out ch) (hk:kn.getD k false=true) (he:out.getD k []=l):SQ nx n st T kn0 out0 i l (done++[k]) kn out ch:=
 ⟨h.r,h.hi,h.hs,h.hl,fun k' hk'=>by
  rcases w08.1 hk' with q|q
  ·exact h.d k' q
  ·rw[w13.1 q];exact⟨hk,he⟩⟩
theorem SQ.new {kn0 kn:List Bool} {out0 out:List (List Int)} {i k:Nat} {l:List Int} {done:List Nat} {ch:Bool} (h:SQ nx n st T kn0 out0 i l done kn out ch) (hkn:k<n) (hk:k∈nx i) (hu:kn.getD k false=false):SQ nx n st T kn0 out0 i l (done++[k]) (kn.set k true) (out.set k l) true:=by
 obtain⟨h1,h2⟩:=h.r.r.set nx n st T hkn hu h.hi h.hs hk h.hl
 have hki:k≠i:=fun e=>by subst e;rw[h.hi] at hu;cases hu
 have hko:k<out.length:=by rw[h.r.r.r.len2];exact hkn
 have hkl:k<kn.length:=by rw[h.r.r.r.len1];exact hkn
 have hle:=h.r.le
 refine⟨⟨h1,by omega,fun e=>(by cases e),fun _=>by omega⟩,zA h.hi,by rw[getD_set_ne hki];exact h.hs,by rw[getD_set_ne hki];exact h.hl,fun k' hk'=> ?_⟩
 rcases w08.1 hk' with q|q
 ·have hkk:k≠k':=fun e=>by subst e;rw[(h.d _ q).1] at hu;cases hu
  exact⟨zA (h.d k' q).1,by rw[getD_set_ne hkk];exact(h.d k' q).2⟩
 ·rw[w13.1 q];exact⟨zG hkl,getD_set_eq hko⟩
theorem SQ.fin {kn0 kn:List Bool} {out0 out:List (List Int)} {i:Nat} {l:List Int} {ch:Bool} (h:SQ nx n st T kn0 out0 i l (nx i) kn out ch):SR nx n st T kn0 out0 (i+1) kn out ch:=by
 refine⟨h.r.r,h.r.le,fun e=>⟨(h.r.eq e).1,(h.r.eq e).2.1,fun j hj hk=> ?_⟩,h.r.lt⟩
 by_cases hij:j=i
 ·subst hij
  obtain⟨e1,e2,_⟩:=h.r.eq e
  rw[←e1,←e2];exact⟨l,h.hs,h.d⟩
 ·exact(h.r.eq e).2.2 j (by omega) hk
theorem SR.done {kn0 kn:List Bool} {out0 out:List (List Int)} (h:SR nx n st T kn0 out0 n kn out false):GoodS nx st n∧ ∀i,out.getD i []=labOf nx st i:=by
 obtain⟨e1,e2,e3⟩:=h.eq rfl
 have hlt: ∀i,kn.getD i false=true→i<n:=fun i hi=>by
  rcases w46 i n with q|q
  ·exact q
  ·rw[w02,w16 (by rw[h.r.r.len1];exact q)] at hi;cases hi
 refine h.r.r.all nx st fun i hi=> ?_
 have:=e3 i (hlt i hi) (by rw[←e1];exact hi)
 rw[←e1,←e2] at this;exact this
end
end Go.Vs
end
section
namespace Go.Proofs.W
open Go.Vs
set_option linter.unusedSimpArgs false
set_option maxRecDepth 100000
structure FunP (d:DImage) (f:DFunc):Prop where
 img:ImgP d
 ty:TypP d.types
 sl: ∀k,k<d.funcs.length→(fnA d.funcs k).slots.length≤1000
 s:SlotsP d f
 c:CodeP f.code
 o:Ok07 f.code
 n: ∀i,i<f.code.length→NearP d f (inA f.code i)
def stF (d:DImage) (f:DFunc) (i:Nat) (l:List Int):Option (List Int):=stS d f (inA f.code i) l
def lists (out:List (List Int)) (cs:List AV):Prop:=cs.length=out.length∧ ∀i (h:i<out.length),∃y,cs[i]? =some y∧IsSl IsI 1 out[i] y
theorem WS {out:List (List Int)} {cs:List AV} (h:lists out cs) {k:Nat} (hk:k<out.length): ∃y,takeV false 1 (cs.drop k)=some y∧IsSl IsI 1 (out.getD k []) y:=by
 obtain⟨y,h1,h2⟩:=h.2 k hk
 refine⟨y,li _ _ (by rw[List.head?_drop];exact h1),?_⟩
 rw[w02,w10 hk];exact h2
theorem z7I {out:List (List Int)} {cs:List AV} (h:lists out cs) {k:Nat} {l:List Int} {y:AV} (hk:k<out.length) (hy:IsSl IsI 1 l y):lists (out.set k l) (cs.take k++[y]++cs.drop (k+1)):=by
 have hkc:k<cs.length:=by rw[h.1];exact hk
 have he:cs.take k++[y]++cs.drop (k+1)=cs.set k y:=by rw[w56,if_pos hkc];simp
 rw[he]
 refine⟨by simp[h.1],fun i hi=> ?_⟩
 simp only[List.length_set] at hi
 by_cases e:k=i
 ·subst e
  exact⟨y,by simp[hkc],by simpa using hy⟩
 ·obtain⟨z,h1,h2⟩:=h.2 i hi
  exact⟨z,by rw[w2c];simp[e,h1],by simpa [List.getElem_set,e] using h2⟩
theorem z7J (n:Nat):lists (List.replicate n []) (flatRep [.nils] n):=by
 have: ∀n,flatRep [.nils] n=List.replicate n .nils:=fun n=>by
  induction n with
  |zero=>rfl
  |succ n ih=>rw[flatRep,ih,w52];rfl
 rw[this]
 refine⟨by simp,fun i hi=>⟨.nils,?_,?_⟩⟩
 ·simp only[List.length_replicate] at hi;simp[hi]
 ·simpa using IsSl.nil 1
noncomputable def labs (d:DImage) (f:DFunc):List (List Int):=(List.range f.code.length).map fun i=>labOf (nxt f.code) (stF d f) i
theorem zbd {d:DImage} {f:DFunc} {out:List (List Int)} (hl:out.length=f.code.length) (h: ∀i,out.getD i []=labOf (nxt f.code) (stF d f) i):out=labs d f:=by
 apply w2b
 intro j
 unfold labs
 rw[w17]
 by_cases hj:j<f.code.length
 ·rw[w3c hj,w0d,←h j,w02,w10 (by omega)];rfl
 ·rw[w16 (by omega),w16 (by simpa using hj)];rfl
theorem z9q (d:DImage) (f:DFunc):(labs d f).length=f.code.length:=by simp[labs]
def GoodF (d:DImage) (f:DFunc):Prop:=GoodS (nxt f.code) (stF d f) f.code.length
def ScrP (d:DImage) (f:DFunc):Prop:=GoodF d f∧LastS (nxt f.code) (stF d f) f.code.length
def CallSc (fn:Nat) (args:List AV) (n:Nat) (G:Prop) (b:Bool) (Q:List AV→Prop) (m:Mem):Prop:=
 ∃y bs k,CALL tab fn args m=some (.tup [y,.bool b],{m with cur:=m.cur++bs,nx:=k})∧(G→ ∃j st cs,y= .arr m.stk.length j st 0 n∧(m.cur++bs)[j]? =some ⟨st,cs⟩∧m.cur.length≤j∧Q cs)
theorem z8o {fn:Nat} {a:AFunc} (h:tab fn=some a) {args:List AV} {n:Nat} {G:Prop} {b:Bool} {Q:List AV→Prop} {m:Mem} (hx:X tab a.body (mk a.ntmps (.tup []) (numb 0 args)) (enter m) (.fin a.res m fun v m'=> ∃y bs k,v= .tup [y,.bool b]∧m'={m with cur:=m.cur++bs,nx:=k}∧(G→ ∃j st cs,y= .arr m.stk.length j st 0 n∧(m.cur++bs)[j]? =some ⟨st,cs⟩∧m.cur.length≤j∧Q cs))) (hn:args.length≤a.ntmps:=by exact Nat.le_of_ble_eq_true rfl):
  CallSc fn args n G b Q m:=by
 obtain⟨x,h1,y,bs,k,h2,h3,h4⟩:=zV h hx hn;exact⟨y,bs,k,by rw[h1,←h2,←h3],h4⟩
theorem z74 {stk:List (List Blk)} {cur c':List Blk} {nx nx' fl fl':Nat} {own:List Nat} {live:List (List Nat)} {n:Nat} {G:Prop} {Q:List AV→Prop} (hG: ¬G):
  Opt (leave ⟨stk,cur,nx,live,fl⟩ ⟨stk++[cur],c',nx',own::live,fl'⟩ (.tup [.nils,.bool false])) fun r=> ∃y bs k,r.1= .tup [y,.bool false]∧r.2=⟨stk,cur++bs,k,live,fl⟩∧(G→ ∃j st cs,y= .arr stk.length j st 0 n∧(cur++bs)[j]? =some ⟨st,cs⟩∧cur.length≤j∧Q cs):=by
 rw[yK rfl rfl,z8]
 exact⟨.nils,[],nx',rfl,by rw[w20],fun h=>absurd h hG⟩
theorem zbH {stk:List (List Blk)} {cur c':List Blk} {nx nx' fl fl':Nat} {own:List Nat} {live:List (List Nat)} {j st n:Nat} {cs:List AV} {G:Prop} {b:Bool} {Q:List AV→Prop}
  (hj:c'[j]? =some ⟨st,cs⟩) (hs:shiftAll (stk++[cur]).length stk.length cur.length cs=cs) (hQ:Q cs):
  Opt (leave ⟨stk,cur,nx,live,fl⟩ ⟨stk++[cur],c',nx',own::live,fl'⟩ (.tup [.arr (stk++[cur]).length j st 0 n,.bool b])) fun r=> ∃y bs k,r.1= .tup [y,.bool b]∧r.2=⟨stk,cur++bs,k,live,fl⟩∧(G→ ∃j st cs,y= .arr stk.length j st 0 n∧(cur++bs)[j]? =some ⟨st,cs⟩∧cur.length≤j∧Q cs):=by
 have:=z3g (nx:=nx) (nx':=nx') (fl:=fl) (fl':=fl') (own:=own) (live:=live) (n:=n) (Q:=Q) (w:=fun y=> .tup [y,.bool b]) (.inr ⟨.bool b,rfl,rfl,rfl,rfl⟩) hj hs hQ
 obtain⟨x,h1,bs,k,j2,st2,cs2,h2,h3,h4,h5,h6⟩:=this
 exact⟨x,h1,_,bs,k,h2,h3,fun _=>⟨j2,st2,cs2,rfl,h4,h5,h6⟩⟩
theorem zcq {d:DImage} {f:DFunc} (h:FunP d f) {i:Nat} (hi:i<f.code.length) {l l':List Int} (hl:InT d.types l) (hs:stF d f i l=some l'):InT d.types l'∧l'.length≤l.length+1:=
 zcp (h.c.at hi).1 (h.c.at hi).2.1 (h.n i hi) h.s hl hs
end Go.Proofs.W
end
section
namespace Go.Vs
section
variable (nx : Nat → List Nat) (n : Nat) (W : Nat → Nat) (p0 : Nat)
abbrev MS:=List Bool×List Nat
def updM (s:MS) (k:Nat) (fr:Option Nat):MS×Bool:=
 match fr with
 |none=>((s.1.set k true,s.2.set k p0),true)
 |some i=>if s.1.getD k false then((s.1,s.2.set k (s.2.getD k 0&&&(s.2.getD i 0|||W i))),(s.2.getD k 0&&&(s.2.getD i 0|||W i)) !=s.2.getD k 0) else((s.1.set k true,s.2.set k (s.2.getD i 0|||W i)),true)
def phi:List Bool→List Nat→Nat
 |b::s,o::r=>(if b then o else 65536)+phi s r
 |_,_=>0
theorem TO: ∀{s:List Bool} {o:List Nat} {k v:Nat} {b:Bool},k<s.length→k<o.length→phi (s.set k b) (o.set k v)+(if s.getD k false then o.getD k 0 else 65536)=phi s o+(if b then v else 65536)
 | [],_,_,_,_,h,_=>by simp at h
 |_::_,[],_,_,_,_,h=>by simp at h
 |b0::s,o0::o,0,v,b,_,_=>by simp[phi];omega
 |b0::s,o0::o,k+1,v,b,h,h'=>by
  have:=TO (s:=s) (o:=o) (k:=k) (v:=v) (b:=b) (by simpa using h) (by simpa using h')
  simp only[w4d,phi,List.getD_cons_succ];omega
theorem z91: ∀(s:List Bool) (o:List Nat),(∀j,o.getD j 0<65536)→phi s o≤s.length*65536
 | [],_,_=>by simp[phi]
 |_::_,[],_=>by simp[phi]
 |b::s,o0::o,h=>by
  have h0:=h 0
  have:=z91 s o (fun j=>by have:=h (j+1);simpa using this)
  simp only[List.getD_cons_zero] at h0
  simp only[phi,w26,w3d]
  split<;>omega
theorem z35 {a b:Nat} (h:a<65536) (k:b<65536):a|||b<65536:=Nat.or_lt_two_pow (n:=16) h k
theorem z9l {a b:Nat} (h:a<65536):a&&&b<65536:=Nat.lt_of_le_of_lt Nat.and_le_left h
theorem z3t {a b:Nat} (h:a&&&b≠a):a&&&b<a:=Nat.lt_of_le_of_ne Nat.and_le_left h
structure MI (s:MS):Prop where
 l1:s.1.length=n
 l2:s.2.length=n
 zero:s.1.getD 0 false=true
 sub: ∀i,s.1.getD i false=true→Rch nx i
 un: ∀i,s.1.getD i false=false→s.2.getD i 0=0
 p:Sub (s.2.getD 0 0) p0
 abv: ∀M,Sol nx W p0 M→ ∀i,s.1.getD i false=true→Sub (M i) (s.2.getD i 0)
 lt: ∀i,s.2.getD i 0<65536
structure MJ (s:MS) (op:List Nat):Prop where
 r:MI nx n W p0 s
 cl: ∀j,s.1.getD j false=true→j∈op∨ ∀k∈nx j,s.1.getD k false=true∧Sub (s.2.getD k 0) (s.2.getD j 0|||W j)
 o: ∀j∈op,j<n∧s.1.getD j false=true
 b:op.length+phi s.1 s.2≤n*65536
structure MK (i:Nat) (done:List Nat) (M:Nat) (s:MS) (op:List Nat):Prop where
 r:MI nx n W p0 s
 cl: ∀j,s.1.getD j false=true→j=i∨j∈op∨ ∀k∈nx j,s.1.getD k false=true∧Sub (s.2.getD k 0) (s.2.getD j 0|||W j)
 o: ∀j∈op,j<n∧s.1.getD j false=true
 b:op.length+phi s.1 s.2+1≤n*65536
 hi:s.1.getD i false=true
 d: ∀k∈done,s.1.getD k false=true∧Sub (s.2.getD k 0) (s.2.getD i 0|||W i)
 m:2*phi s.1 s.2+op.length+1≤M
theorem zct {α:Type} {s:List α} {k:Nat} {d:α}:s.set k (s.getD k d)=s:=by
 apply w2b
 intro j
 rw[w2c]
 by_cases e:k=j
 ·subst e
  rw[if_pos rfl]
  split
  ·rename_i h;simp[w02,h]
  ·rename_i h;rw[w16 (by omega)]
 ·rw[if_neg e]
theorem MK.k (hW: ∀i,W i<65536) {i k M:Nat} {done:List Nat} {s:MS} {op:List Nat} (h:MK nx n W p0 i done M s op) (hk:k∈nx i) (hkn:k<n):MK nx n W p0 i (done++[k]) M (procK (updM W p0) i (s,op) k).1 (procK (updM W p0) i (s,op) k).2:=by
 unfold procK updM
 dsimp only
 obtain⟨met,out⟩:=s
 have hl1:k<met.length:=by rw[h.r.l1];exact hkn
 have hl2:k<out.length:=by rw[h.r.l2];exact hkn
 by_cases hs:met.getD k false=true
 ·simp only[hs,if_true]
  by_cases he:out.getD k 0&&&(out.getD i 0|||W i)=out.getD k 0
  ·have hb:(out.getD k 0&&&(out.getD i 0|||W i) !=out.getD k 0)=false:=by simpa using he
   rw[hb,he,zct]
   refine⟨h.r,h.cl,h.o,h.b,h.hi,fun k' hk'=> ?_,h.m⟩
   rcases w08.1 hk' with q|q
   ·exact h.d k' q
   ·rw[w13.1 q]
    exact⟨hs,by dsimp only;rw[←he];exact z2b _ _⟩
  ·have hb:(out.getD k 0&&&(out.getD i 0|||W i) !=out.getD k 0)=true:=by simpa using he
   have hki:k≠i:=fun e=>he (by subst e;exact Sub.antisymm (UZ _ _) (Sub.and (.refl _) fun s x=>by rw[Nat.testBit_or,x];rfl))
   rw[hb]
   simp only[if_true]
   have hlt:=z3t he
   have hph:=TO (s:=met) (o:=out) (k:=k) (v:=out.getD k 0&&&(out.getD i 0|||W i)) (b:=true) hl1 hl2
   rw[z3Z hs,hs] at hph
   simp only[if_true] at hph
   have hget: ∀j,j≠k→(out.set k (out.getD k 0&&&(out.getD i 0|||W i))).getD j 0=out.getD j 0:=fun j hj=>getD_set_ne (Ne.symm hj)
   have hgk:(out.set k (out.getD k 0&&&(out.getD i 0|||W i))).getD k 0=out.getD k 0&&&(out.getD i 0|||W i):=getD_set_eq hl2
   have hsub: ∀j,Sub ((out.set k (out.getD k 0&&&(out.getD i 0|||W i))).getD j 0) (out.getD j 0):=fun j=>by
    by_cases e:j=k
    ·subst e;rw[hgk];exact UZ _ _
    ·rw[hget j e];exact .refl _
   refine⟨⟨h.r.l1,by simp[h.r.l2],h.r.zero,h.r.sub,fun j hj=> ?_,(hsub 0).trans h.r.p,fun M hM j hj=> ?_,fun j=>Nat.lt_of_le_of_lt (hsub j).le (h.r.lt j)⟩,fun j hj=> ?_,fun j hj=> ?_,?_,h.hi,fun k' hk'=> ?_,?_⟩
   ·have e:j≠k:=fun e=>by subst e;rw[hs] at hj;cases hj
    rw[hget j e];exact h.r.un j hj
   ·by_cases e:j=k
    ·subst e;rw[hgk]
     exact Sub.and (h.r.abv M hM _ hj) ((hM.2 i (h.r.sub i h.hi) _ hk).trans (Sub.or (h.r.abv M hM i h.hi) (.refl _)))
    ·rw[hget j e];exact h.r.abv M hM j hj
   ·by_cases e:j=k
    ·subst e;exact .inr (.inl (by simp))
    ·rcases h.cl j hj with q|q|q
     ·exact .inl q
     ·exact .inr (.inl (by simp[q]))
     ·exact .inr (.inr fun k' hk'=>⟨(q k' hk').1,by rw[hget j e];exact(hsub k').trans (q k' hk').2⟩)
   ·rcases w08.1 hj with q|q
    ·exact h.o j q
    ·rw[w13.1 q];exact⟨hkn,hs⟩
   ·have:=h.b;simp only[w05,w25] at this⊢;(try dsimp only at this);omega
   ·rw[hget i (Ne.symm hki)]
    rcases w08.1 hk' with q|q
    ·exact⟨(h.d k' q).1,(hsub k').trans (h.d k' q).2⟩
    ·rw[w13.1 q];exact⟨hs,by rw[hgk];exact z2b _ _⟩
   ·have:=h.m;simp only[w05,w25];(try dsimp only at this);omega
 ·have hs':met.getD k false=false:=by simpa using hs
  have hki:k≠i:=fun e=>by subst e;exact hs h.hi
  simp only[hs',w1f,if_false,if_true]
  have hph:=TO (s:=met) (o:=out) (k:=k) (v:=out.getD i 0|||W i) (b:=true) hl1 hl2
  rw[hs'] at hph
  simp only[if_true,w1f,if_false] at hph
  have hv:=z35 (h.r.lt i) (hW i)
  dsimp only at hv
  have hget: ∀j,j≠k→(out.set k (out.getD i 0|||W i)).getD j 0=out.getD j 0:=fun j hj=>getD_set_ne (Ne.symm hj)
  have hgk:(out.set k (out.getD i 0|||W i)).getD k 0=out.getD i 0|||W i:=getD_set_eq hl2
  have hmet: ∀j,j≠k→(met.set k true).getD j false=met.getD j false:=fun j hj=>getD_set_ne (Ne.symm hj)
  have h0:0≠k:=fun e=>by subst e;rw[h.r.zero] at hs';cases hs'
  refine⟨⟨by simp[h.r.l1],by simp[h.r.l2],zA h.r.zero,fun j hj=> ?_,fun j hj=> ?_,by rw[hget 0 h0];exact h.r.p,fun M hM j hj=> ?_,fun j=> ?_⟩,fun j hj=> ?_,fun j hj=> ?_,?_,zA h.hi,fun k' hk'=> ?_,?_⟩
  ·by_cases e:j=k
   ·subst e;exact .step (h.r.sub i h.hi) hk
   ·rw[hmet j e] at hj;exact h.r.sub j hj
  ·by_cases e:j=k
   ·subst e;rw[zG hl1] at hj;cases hj
   ·rw[hmet j e] at hj;rw[hget j e];exact h.r.un j hj
  ·by_cases e:j=k
   ·subst e;rw[hgk]
    exact(hM.2 i (h.r.sub i h.hi) _ hk).trans (Sub.or (h.r.abv M hM i h.hi) (.refl _))
   ·rw[hmet j e] at hj;rw[hget j e];exact h.r.abv M hM j hj
  ·by_cases e:j=k
   ·subst e;rw[hgk];exact hv
   ·rw[hget j e];exact h.r.lt j
  ·by_cases e:j=k
   ·subst e;exact .inr (.inl (by simp))
   ·rw[hmet j e] at hj
    rcases h.cl j hj with q|q|q
    ·exact .inl q
    ·exact .inr (.inl (by simp[q]))
    ·refine .inr (.inr fun k' hk'=> ?_)
     have hkk:k'≠k:=fun e'=>by subst e';rw[(q k' hk').1] at hs';cases hs'
     exact⟨zA (q k' hk').1,by rw[hget j e,hget k' hkk];exact(q k' hk').2⟩
  ·rcases w08.1 hj with q|q
   ·exact⟨(h.o j q).1,zA (h.o j q).2⟩
   ·rw[w13.1 q];exact⟨hkn,zG hl1⟩
  ·have:=h.b;simp only[w05,w25] at this⊢;(try dsimp only at this);omega
  ·rw[hget i (Ne.symm hki)]
   rcases w08.1 hk' with q|q
   ·have hkk:k'≠k:=fun e'=>by subst e';have:=(h.d k' q).1;rw[this] at hs';cases hs'
    exact⟨zA (h.d k' q).1,by rw[hget k' hkk];exact(h.d k' q).2⟩
   ·rw[w13.1 q];exact⟨zG hl1,by rw[hgk];exact .refl _⟩
  ·have:=h.m;simp only[w05,w25];(try dsimp only at this);omega
theorem MK.all (hW: ∀i,W i<65536) {i M:Nat}: ∀{ks done:List Nat} {s:MS} {op:List Nat},MK nx n W p0 i done M s op→(∀k∈ks,k∈nx i∧k<n)→MK nx n W p0 i (done++ks) M (proc (updM W p0) i ks (s,op)).1 (proc (updM W p0) i ks (s,op)).2
 | [],done,s,op,h,_=>by rw[w20,z48];exact h
 |k::ks,done,s,op,h,hk=>by
  have h1:=h.k nx n W p0 hW (hk k w1b).1 (hk k w1b).2
  have:=MK.all hW h1 (fun k' hk'=>hk k' (w1c _ hk'))
  rw[w0f,List.singleton_append] at this
  rw[z1F];exact this
theorem MJ.pop {s:MS} {op:List Nat} {i:Nat} (h:MJ nx n W p0 s (op++[i])):MK nx n W p0 i [] (2*phi s.1 s.2+(op++[i]).length) s op:=by
 refine⟨h.r,fun j hj=> ?_,fun j hj=>h.o j (w3a _ hj),?_,(h.o i (by simp)).2,fun k hk=>(by cases hk),?_⟩
 ·rcases h.cl j hj with q|q
  ·rcases w08.1 q with q|q
   ·exact .inr (.inl q)
   ·exact .inl (w13.1 q)
  ·exact .inr (.inr q)
 ·have:=h.b;simp at this;omega
 ·simp;omega
theorem MJ.next (hW: ∀i,W i<65536) (hnx: ∀i,i<n→ ∀k∈nx i,k<n) {s:MS} {op:List Nat} {i:Nat} (h:MJ nx n W p0 s (op++[i])):
  MJ nx n W p0 (proc (updM W p0) i (nx i) (s,op)).1 (proc (updM W p0) i (nx i) (s,op)).2∧2*phi (proc (updM W p0) i (nx i) (s,op)).1.1 (proc (updM W p0) i (nx i) (s,op)).1.2+(proc (updM W p0) i (nx i) (s,op)).2.length<2*phi s.1 s.2+(op++[i]).length:=by
 have hi:=(h.o i (by simp)).1
 have:=MK.all nx n W p0 hW (h.pop nx n W p0) (ks:=nx i) (fun k hk=>⟨hk,hnx i hi k hk⟩)
 rw[w48] at this
 refine⟨⟨this.r,fun j hj=> ?_,this.o,by have:=this.b;omega⟩,by have:=this.m;omega⟩
 rcases this.cl j hj with q|q|q
 ·subst q;exact .inr this.d
 ·exact .inl q
 ·exact .inr q
theorem MJ.done {s:MS} (h:MJ nx n W p0 s []) (i:Nat):s.2.getD i 0=mskOf nx W p0 i:=by
 have hcl: ∀j,s.1.getD j false=true→ ∀k∈nx j,s.1.getD k false=true∧Sub (s.2.getD k 0) (s.2.getD j 0|||W j):=fun j hj=>(h.cl j hj).elim (fun q=>by cases q) id
 have hr: ∀j,Rch nx j→s.1.getD j false=true:=fun j hj=>by
  induction hj with
  |zero=>exact h.r.zero
  |step _ hk ih=>exact(hcl _ ih _ hk).1
 refine Great.is nx W p0 (o:=fun i=>s.2.getD i 0) ⟨fun j hj=>h.r.un j ?_,⟨h.r.p,fun j hj k hk=>(hcl j (hr j hj) k hk).2⟩,fun M hM j hj=>h.r.abv M hM j (hr j hj)⟩ i
 cases hb:s.1.getD j false with
 |false=>rfl
 |true=>exact absurd (h.r.sub j hb) hj
theorem MJ.start (hn:0<n) (hp:p0<65536):MJ nx n W p0 (updM W p0 (List.replicate n false,List.replicate n 0) 0 none).1 [0]:=by
 have hl:0<(List.replicate n false).length:=by simpa using hn
 have hl2:0<(List.replicate n 0).length:=by simpa using hn
 have hg: ∀j,(List.replicate n false).getD j false=false:=fun j=>by
  simp only[w02,w38];split<;>rfl
 have hg2: ∀j,(List.replicate n 0).getD j 0=0:=fun j=>by
  simp only[w02,w38];split<;>rfl
 have hmet: ∀j,j≠0→((List.replicate n false).set 0 true).getD j false=false:=fun j hj=>by rw[getD_set_ne (Ne.symm hj),hg]
 have hout: ∀j,j≠0→((List.replicate n 0).set 0 p0).getD j 0=0:=fun j hj=>by rw[getD_set_ne (Ne.symm hj),hg2]
 have ho0:((List.replicate n 0).set 0 p0).getD 0 0=p0:=getD_set_eq hl2
 have hph:=TO (s:=List.replicate n false) (o:=List.replicate n 0) (k:=0) (v:=p0) (b:=true) hl hl2
 have hp0:=z91 (List.replicate n false) (List.replicate n 0) (fun j=>by rw[hg2];omega)
 rw[hg] at hph
 simp only[List.length_replicate,if_true,w1f,if_false] at hph hp0
 unfold updM
 dsimp only
 refine⟨⟨by simp,by simp,zG hl,fun j hj=> ?_,fun j hj=> ?_,by dsimp only;rw[ho0];exact .refl _,fun M hM j hj=> ?_,fun j=> ?_⟩,fun j hj=> ?_,fun j hj=> ?_,?_⟩
 ·by_cases e:j=0
  ·subst e;exact .zero
  ·dsimp only at hj;rw[hmet j e] at hj;cases hj
 ·by_cases e:j=0
  ·subst e;dsimp only at hj;rw[zG hl] at hj;cases hj
  ·exact hout j e
 ·by_cases e:j=0
  ·subst e;dsimp only;rw[ho0];exact hM.1
  ·dsimp only at hj;rw[hmet j e] at hj;cases hj
 ·by_cases e:j=0
  ·subst e;dsimp only;rw[ho0];exact hp
  ·dsimp only;rw[hout j e];omega
 ·by_cases e:j=0
  ·subst e;exact .inl (by simp)
  ·dsimp only at hj;rw[hmet j e] at hj;cases hj
 ·rw[w13.1 hj];exact⟨hn,zG hl⟩
 ·simp only[w25];omega
structure VI (m:List Nat):Prop where
 l:m.length=n
 p:Sub (m.getD 0 0) p0
 abv: ∀M,Sol nx W p0 M→ ∀i,Rch nx i→Sub (M i) (m.getD i 0)
 lt: ∀i,m.getD i 0<65536
theorem zcw (hn:0<n) (hnx: ∀i,i<n→ ∀k∈nx i,k<n) {i:Nat} (h:Rch nx i):i<n:=by
 induction h with
 |zero=>exact hn
 |step _ hk ih=>exact hnx _ ih _ hk
theorem Sol.le {M:Nat→Nat} (h:Sol nx W p0 M) {a:Nat} (hp:Sub p0 a) (hw: ∀i,Sub (W i) a) {i:Nat} (hr:Rch nx i):Sub (M i) a:=by
 induction hr with
 |zero=>exact h.1.trans hp
 |step hr hk ih=>exact(h.2 _ hr _ hk).trans (z97 ih (hw _))
theorem VI.start (hn:0<n) (hnx: ∀i,i<n→ ∀k∈nx i,k<n) {a:Nat} (hp:Sub p0 a) (hw: ∀i,Sub (W i) a) (ha:a<65536):VI nx n W p0 ((List.replicate n a).set 0 p0):=by
 have hl:0<(List.replicate n a).length:=by simpa using hn
 have h0:((List.replicate n a).set 0 p0).getD 0 0=p0:=getD_set_eq hl
 have hp':=hp.le
 refine⟨by simp,by rw[h0];exact .refl _,fun M hM j hj=> ?_,fun j=> ?_⟩
 ·by_cases e:j=0
  ·subst e;rw[h0];exact hM.1
  ·rw[getD_set_ne (Ne.symm e)]
   intro s hs
   have:=hM.le nx W p0 hp hw hj s hs
   simp only[w02,w38]
   split
   ·exact this
   ·rename_i hjn
    exact absurd (zcw nx n hn hnx hj) hjn
 ·by_cases e:j=0
  ·subst e;rw[h0];omega
  ·rw[getD_set_ne (Ne.symm e)]
   simp only[w02,w38]
   split
   ·exact ha
   ·simp
end
end Go.Vs
end
section
namespace Go.Proofs.W
open Go.Vs
set_option linter.unusedSimpArgs false
set_option maxRecDepth 100000
def us (s:List Nat):List AV:=s.map fun n:Nat=> .int .u64 (n:Int)
theorem z2w (s:List Nat):(us s).length=s.length:=by simp[us]
theorem XN {s:List Nat} {j:Nat} (h:j<s.length):takeV false 1 ((us s).drop j)=some (.int .u64 ((s.getD j 0:Nat):Int)):=by
 refine li _ _ ?_
 rw[List.head?_drop]
 simp[us,w02,h]
theorem z2v {s:List Nat} {j:Nat} (v:Nat) (h:j<s.length):(us s).take j++[.int .u64 (v:Int)]++(us s).drop (j+1)=us (s.set j v):=by
 unfold us
 rw[List.map_set,w56,if_pos (by simpa using h)];simp
theorem z5o (n:Nat):flatRep [.int .u64 0] n=us (List.replicate n 0):=by
 induction n with
 |zero=>rfl
 |succ n ih=>rw[flatRep,ih,w52];rfl
theorem z3W (l l' k:Nat) (s:List Nat):shiftAll l l' k (us s)=us s:=by
 induction s with
 |nil=>rfl
 |cons b r ih=>simp only[us,w32,shiftAll,AV.shift] at ih⊢;rw[ih]
theorem WR (a:Nat) (h:a<65536):(BitVec.ofInt 64 (a:Int)).toNat=a:=by
 rw[BitVec.ofInt_natCast,BitVec.toNat_ofNat];omega
theorem z9W {a b:Nat} (ha:a<65536) (hb:b<65536):evBits .or .u64 (a:Int) (b:Int)=some (.int .u64 ((a|||b:Nat):Int)):=by
 have h:=z35 ha hb
 unfold evBits
 show some (AV.int .u64 (IntKind.u64.wrap (((BitVec.ofInt 64 (a:Int)|||BitVec.ofInt 64 (b:Int):BitVec 64).toNat:Nat):Int)))=_
 rw[BitVec.toNat_or,WR a ha,WR b hb,zM (by omega) (by omega)]
theorem z9Y {a b:Nat} (ha:a<65536) (hb:b<65536):evBits .and .u64 (a:Int) (b:Int)=some (.int .u64 ((a&&&b:Nat):Int)):=by
 have h:=z9l (b:=b) ha
 unfold evBits
 show some (AV.int .u64 (IntKind.u64.wrap (((BitVec.ofInt 64 (a:Int)&&&BitVec.ofInt 64 (b:Int):BitVec 64).toNat:Nat):Int)))=_
 rw[BitVec.toNat_and,WR a ha,WR b hb,zM (by omega) (by omega)]
theorem pow16 {s:Nat} (h:s<16):2^s<65536:=Nat.pow_lt_pow_right (by decide) h
theorem zcO {s:Int} (h:0≤s∧s<16):evShift .shl .u64 1 s=some (.int .u64 ((2^s.toNat:Nat):Int)):=by
 have hp:=pow16 (s:=s.toNat) (by omega)
 unfold evShift
 rw[if_neg (by omega)]
 simp only[IntKind.bits,Int.one_mul]
 rw[Nat.min_eq_left (by omega)]
 have:((2:Int)^s.toNat)=((2^s.toNat:Nat):Int):=by simp
 rw[this]
 generalize 2^s.toNat=p at*
 rw[zM (by omega) (by omega)]
theorem z9V {s:Int} (h:0≤s∧s≤16):evShift .shl .u64 1 s=some (.int .u64 ((2^s.toNat:Nat):Int)):=by
 have hp:2^s.toNat≤65536:=Nat.pow_le_pow_right (by decide) (show s.toNat≤16 by omega)
 unfold evShift
 rw[if_neg (by omega)]
 simp only[IntKind.bits,Int.one_mul]
 rw[Nat.min_eq_left (by omega)]
 have:((2:Int)^s.toNat)=((2^s.toNat:Nat):Int):=by simp
 rw[this]
 generalize 2^s.toNat=p at*
 rw[zM (by omega) (by omega)]
theorem z9U {a:Nat} {s:Int} (h:0≤s∧s≤16):evShift .shr .u64 (a:Int) s=some (.int .u64 ((a>>>s.toNat:Nat):Int)):=by
 unfold evShift
 rw[if_neg (by omega)]
 simp only[IntKind.bits]
 rw[Nat.min_eq_left (by omega)]
 congr 2
 have:((2:Int)^s.toNat)=((2^s.toNat:Nat):Int):=by simp
 rw[this,Nat.shiftRight_eq_div_pow]
 generalize 2^s.toNat=p at*
 rw[Int.fdiv_eq_ediv_of_nonneg _ (by omega)];simp
def maskK (l:List Int) (k:Nat):Nat:=(l.take k).foldl (fun m s=>m|||2^s.toNat) 0
def maskN (l:List Int):Nat:=maskK l l.length
theorem QM {l:List Int} {k:Nat} (h:k<l.length):maskK l (k+1)=maskK l k|||2^(l[k]).toNat:=by
 unfold maskK;rw[w15 h,List.foldl_append];rfl
theorem U6 {l:List Int} {n:Nat} (h: ∀s∈l,0≤s∧s<n): ∀k,k≤l.length→maskK l k<2^n
 |0,_=>by unfold maskK;simp;exact Nat.two_pow_pos n
 |k+1,hk=>by
  rw[QM (by omega)]
  have:=h _ (w07 (show k<l.length by omega))
  exact Nat.or_lt_two_pow (U6 h k (by omega)) (Nat.pow_lt_pow_right (by decide) (by omega))
def Low (l:List Int):Prop:= ∀s∈l,0≤s∧s<16
theorem QN {l:List Int} (h:Low l) {k:Nat} (hk:k≤l.length):maskK l k<65536:=U6 (n:=16) (fun s hs=>by have:=h s hs;omega) k hk
theorem z8E (l:List Int) (x:AV) (hx:IsSl IsI 1 l x) (hl:Low l) (m:Mem):Okv tab kF [x] m (.int .u64 (maskN l:Nat)):=by
 refine zh z3Q ?_
 obtain⟨stk,cur,nx,live,fl⟩:=m
 simp only[WK,List.map,go_sem,reduceCtorEq,G0,G2,hx.len]
 refine zc (α:=Nat) (fun k σ=>k≤l.length∧ ∃nz,heads [3,6,7,8] 0 σ=⟨tmps 18 [(3,.int .u64 (maskK l k:Nat)),(6,x),(7,.int .i64 l.length),(8,.int .i64 k)],⟨stk++[cur],[],nz,[]::live,fl⟩⟩) (fun k=>l.length-k) 0 ?_ ?_
 ·refine⟨w0c _,?_⟩
  simp only[go_sem,reduceCtorEq,G0,G1]
  exact⟨_,rfl⟩
 ·rintro k σ ⟨hk,nz,hσ⟩
  rw[hσ]
  clear hσ σ
  dsimp only at hk⊢
  by_cases h:k<l.length
  ·have e1:nth x k= .int .i64 l[k]:=hx.nth h
   have hsucc:=zb h hx.max
   have hb:=hl _ (w07 h)
   simp only[go_sem,G0,G1,G2,w03,h,hx.at _ h,e1,zcO hb,z9W (QN hl hk) (pow16 (s:=(l[k]).toNat) (by omega)),hsucc]
   refine⟨k+1,by omega,h,nz,?_⟩
   rw[QM h]
  ·have:k=l.length:=by omega
   subst this
   simp only[go_sem,G0,G1,G2,w03,h]
   rw[z6 rfl rfl,z8]
   exact⟨⟨_,rfl⟩,rfl⟩
theorem zdc {c:UInt8} (h:rd c=true):hi c=15:=by
 unfold rd at h
 simp only[w33,beq_iff_eq] at h
 rcases h with rfl|rfl<;>rfl
theorem zdb {c:UInt8} (h:wt c=true):hi c=15:=by
 unfold wt at h
 simp only[w33,beq_iff_eq] at h
 rcases h with rfl|rfl<;>rfl
theorem z37 {x:DInstr} (hx:InstrP x) (hw:WfI x):Low (rds x):=by
 obtain⟨a,b,c,hs,_⟩:=hx
 have hx:InstrP x:=⟨a,b,c,hs,by assumption⟩
 intro s h
 unfold rds rdsk at h
 simp only[w36,w50,w44,w0e,decide_eq_true_eq] at h
 obtain⟨k,⟨hk,h1,h2⟩,rfl⟩:=h
 have:=(ZF hs hx hw hk).2.1
 unfold fitsK at this
 rw[zdc h1] at this;omega
theorem z36 {x:DInstr} (hx:InstrP x) (hw:WfI x):Low (wrs x):=by
 obtain⟨a,b,c,hs,_⟩:=hx
 have hx:InstrP x:=⟨a,b,c,hs,by assumption⟩
 intro s h
 unfold wrs wrsk at h
 simp only[w36,w50,w44,w0e,decide_eq_true_eq] at h
 obtain⟨k,⟨hk,h1,h2⟩,rfl⟩:=h
 have:=(ZF hs hx hw hk).2.1
 unfold fitsK at this
 rw[zdb h1] at this;omega
theorem z8t {S':List (List Blk)} {b0 b1 b2:Blk} {st nx fl n:Nat} {cs:List AV} {rest:List Blk} {live:List (List Nat)} {v:AV} (hv:v.cells=[v]) (hn:n≤cs.length) (hfl:fl≤S'.length) (hb:(n+1)*8≤140737488355328):
  evApp ⟨S',b0::b1::b2::⟨st,cs⟩::rest,nx,live,fl⟩ 1 8 (.grow 1 S'.length 3 st n) (.list 1 .full [v])=some (.grow 1 S'.length 3 nx (n+1),⟨S',b0::b1::b2::⟨nx,cs.take n++[v]⟩::rest,nx+1,live,fl⟩):=by
 unfold evApp
 rw[zi]
 have hblk:Mem.blk ⟨S',b0::b1::b2::⟨st,cs⟩::rest,nx,live,fl⟩ S'.length 3 st=some cs:=by simp[Mem.blk,Mem.row]
 simp only[hblk]
 rw[if_pos (by simp[hn,hfl];omega)]
 simp[Mem.put,hv]
theorem zas {lv:Nat} {a0 a1 a2 a3 b0 b1 b2 b3:Blk} {r:List Blk} {y:AV} {l:List Nat} (h:LI 4 lv (a0::a1::a2::a3::r) y l):LI 4 lv (b0::b1::b2::b3::r) y l:=by
 rcases h with h|⟨k,st,cs,h1,h2,h3,h4,h5⟩
 ·exact .inl h
 ·obtain⟨k,rfl⟩: ∃q,k=q+4:=⟨k-4,by omega⟩
  exact .inr ⟨k+4,st,cs,h1,h2,h3,h4,h5⟩
theorem take4 {α:Type} (a b c e:α) (l:List α):List.take (l.length+4) (a::b::c::e::l)=a::b::c::e::l:=w37 (w0b _)
theorem z00 {l:List Nat} {i:Nat} (h:i<l.length):l.getD i 0=l[i]:=by rw[w02,w10 h];rfl
theorem z7k (d:DImage) (f:DFunc) (h:FunP d f) (y:AV) (hy:NV d f y) (m:Mem) (hf:m.floor≤m.stk.length+1):
  CallSc xV [y] f.code.length (GoodF d f) (pb (ScrP d f)) (fun cs=>cs=us ((labs d f).map (sumB d.types))) m:=by
 have hy':=hy
 obtain⟨ty,tx,fs,w0,w1,w2,w3,rfl,h0,h1,h2,q0,q1,q2,q3⟩:=hy
 refine z8o kR ?_
 obtain⟨stk,cur,nx,live,fl⟩:=m
 dsimp only at hf
 have hf':fl≤(stk++[cur]).length+1:=by simp;omega
 have hAf:=fun x hx hw hN l z hz hin hlen c n lv fl'=>zci d h.img h.ty _ _ hy' h.s x hx hw hN l z hz hin hlen ⟨stk++[cur],c,n,lv,fl'⟩
 have hNx:=fun i hi c n lv=>zcm f.code w1 q1 h.c h.o i hi ⟨stk++[cur],c,n,lv,fl⟩ hf'
 have hby:=fun ts x hx hin hlen m=>(VP d h.ty f _ hy' ts x hx hin hlen m).eq
 have hln:=h.c.len
 have hnx:=fun i hi=>z5H h.c h.o (i:=i) hi
 have hSC:ScrP d f↔GoodF d f∧LastS (nxt f.code) (stF d f) f.code.length:=Iff.rfl
 have hstok:=fun i hi l l' hl hs=>zcq h (i:=i) hi (l:=l) (l':=l') hl hs
 have hstF: ∀i l,stF d f i l=stS d f (inA f.code i) l:=fun _ _=>rfl
 have hNear:=h.n
 have hC:=h.c
 generalize hn:f.code.length=n at*
 generalize hst:stF d f=st at*
 generalize hnxt:nxt f.code=nxf at*
 have hl0:0<(List.replicate n false).length:=by simp;omega
 have hst0:=ZL (s:=List.replicate n false) (j:=0) true hl0
 have hbl0:0+1≤(bools (List.replicate n false)).length:=by rw[ZM];omega
 have hix0:idx (.int .i64 0) n=some 0:=zS .i64 0 n (by omega)
 have hq1l:evLen w1=some (.int .i64 n):=by rw[←hn];exact q1.len
 simp only[w22,w48,w39] at hst0 hbl0
 simp only[xQ,List.map,go_sem,reduceCtorEq,G3,G0,G2,hq1l,tD (s:=1) (bytes:=24) (n:=n) (z:=[.nils]) (by omega) (by omega) rfl,tD (s:=1) (bytes:=1) (n:=n) (z:=[.bool false]) (by omega) (by omega) rfl,UV,zf,hix0,w19,hbl0,hst0,evLitB,w2d,List.flatMap_nil]
 have hT0:InT d.types []:=fun t ht=>by cases ht
 have hGF:GoodF d f↔GoodS nxf st n:=by unfold GoodF;rw[hn,hst,hnxt]
 have hlabs: ∀out:List (List Int),out.length=n→(∀i,out.getD i []=labOf nxf st i)→out=labs d f:=fun out h1 h2=>zbd (by rw[hn];exact h1) (by rw[hst,hnxt];exact h2)
 have hbox: ∀c:List Blk,(⟨nx,[ty,tx,fs,.str f.name,.int .i64 f.params,.int .i64 f.result,w0,w1,w2,w3]⟩::c:List Blk)=⟨nx,[ty,tx,fs,.str f.name,.int .i64 f.params,.int .i64 f.result,w0,w1,w2,w3]⟩::c:=fun _=>rfl
 refine zc (α:=List Bool×List (List Int)×List Nat) (fun z σ=>SJ nxf n st (InT d.types) z.1 z.2.1 z.2.2∧ ∃nz e cs os st3,lists z.2.1 cs∧z.2.2.length≤os.length∧os.take z.2.2.length=ints z.2.2∧heads [1,4,5,6,7] 4 σ=⟨tmps 136 [(1,.ptr (stk++[cur]).length 0 nx 0),(4,w1),(5,.arr (stk++[cur]).length 1 (nx+1) 0 n),(6,.arr (stk++[cur]).length 2 (nx+1+1) 0 n),(7,.grow 1 (stk++[cur]).length 3 st3 z.2.2.length)],⟨stk++[cur],[⟨nx,[ty,tx,fs,.str f.name,.int .i64 f.params,.int .i64 f.result,w0,w1,w2,w3]⟩,⟨nx+1,cs⟩,⟨nx+1+1,bools z.1⟩,⟨st3,os⟩],nz,e::live,fl⟩⟩) (fun z=>2*unm z.1+z.2.2.length) ((List.replicate n false).set 0 true,List.replicate n [],[0]) ?_ ?_
 ·refine⟨SJ.start nxf n st (InT d.types) (by omega) hT0,?_⟩
  simp only[go_sem,reduceCtorEq,G0,G1]
  exact⟨_,_,_,_,_,z7J n,by simp,rfl,rfl⟩
 ·rintro⟨kn0,out0,op⟩ σ ⟨hJ,nz,e,cs,os,st3,hcs,hos,htk,hσ⟩
  rw[hσ]
  clear hσ σ
  dsimp only at hJ hcs hos htk⊢
  rcases List.eq_nil_or_concat op with rfl|⟨op,i,rfl⟩
  ·obtain⟨hG,hlab⟩:=hJ.done
   have hol:=hJ.r.r.len2
   have hout:=hlabs out0 hol hlab
   have hJt:=hJ.r.t
   have hJl:=hJ.r.len
   subst hout
   simp only[go_sem,G3,G0,G1,G2,Ym,w2f,show((((0:Nat):Int))>0)=False from eq_false (by decide),hq1l,tD (s:=1) (bytes:=8) (n:=n) (z:=[.int .u64 0]) (by omega) (by omega) rfl]
   have hel:evLen (.arr (stk++[cur]).length 1 (nx+1) 0 n)=some (.int .i64 n):=rfl
   simp only[go_sem,G3,hel]
   refine zc (α:=Nat) (fun k σ=>k≤n∧ ∃so nz e vs,vs.length=n∧(∀j,j<k→vs.getD j 0=sumB d.types ((labs d f).getD j []))∧heads [1,4,5,15,106,107,108] 5 σ=⟨tmps 136 [(1,.ptr (stk++[cur]).length 0 nx 0),(4,w1),(5,.arr (stk++[cur]).length 1 (nx+1) 0 n),(15,.arr (stk++[cur]).length 4 so 0 n),(106,.arr (stk++[cur]).length 1 (nx+1) 0 n),(107,.int .i64 n),(108,.int .i64 k)],⟨stk++[cur],[⟨nx,[ty,tx,fs,.str f.name,.int .i64 f.params,.int .i64 f.result,w0,w1,w2,w3]⟩,⟨nx+1,cs⟩,⟨nx+1+1,bools kn0⟩,⟨st3,os⟩,⟨so,us vs⟩],nz,e::live,fl⟩⟩) (fun k=>n-k) 0 ?_ ?_
   ·refine⟨w0c _,?_⟩
    simp only[go_sem,G0,G1]
    exact⟨_,_,_,List.replicate n 0,by simp,fun j hj=>absurd hj (w4f _),by rw[z5o];rfl⟩
   ·clear hJ hos htk
    rintro k σ ⟨hk,so,nz,e,vs,hvl,hvs,hσ⟩
    rw[hσ]
    clear hσ σ
    dsimp only at hk⊢
    by_cases hkn:k<n
    ·have hixk:idx (.int .i64 (k:Int)) n=some k:=zS .i64 k n hkn
     obtain⟨yk,hyk,hyks⟩:=WS hcs (k:=k) (by omega)
     have hT1:=hJt k
     have hT2:=hJl k
     have hb:=fun m=>hby _ _ hyks hT1 (by omega) m
     have hsu:IntKind.i64.wrap ((k:Int)+1)=((k+1:Nat):Int):=by rw[zd (by omega) (by omega)];omega
     have hB1:sumB d.types ((labs d f).getD k [])≤264*1001:=Nat.le_trans (z2G h.ty hT1 _ (w0b _)) (Nat.mul_le_mul_left _ (by omega))
     have hwu:IntKind.u64.wrap ((sumB d.types ((labs d f).getD k []):Nat):Int)=((sumB d.types ((labs d f).getD k []):Nat):Int):=zM (by omega) (by omega)
     have hus:=z2v (s:=vs) (j:=k) (sumB d.types ((labs d f).getD k [])) (by omega)
     have hubl:k+1≤(us vs).length:=by rw[z2w];omega
     simp only[go_sem,G3,G0,G1,G2,w03,hkn,zf,hixk,w19,hyk,hb,show((0:Int) !=0)=false from rfl,hsu,hwu,hus,hubl]
     refine⟨k+1,by omega,hkn,so,_,e,vs.set k (sumB d.types ((labs d f).getD k [])),by simpa using hvl,fun j hj=> ?_,rfl⟩
     by_cases hjk:k=j
     ·subst hjk
      rw[w02];simp[hvl,hkn]
     ·rw[w02,w2c]
      simp only[hjk,if_false]
      rw[←w02];exact hvs j (by omega)
    ·have hke:k=n:=by omega
     subst hke
     have hsub:IntKind.i64.wrap ((k:Int)-1)=((k-1:Nat):Int):=by rw[zd (by omega) (by omega)];omega
     have hixl:idx (.int .i64 ((k-1:Nat):Int)) k=some (k-1):=zS .i64 _ _ (by omega)
     obtain⟨yl,hyl,hyls⟩:=WS hcs (k:=k-1) (by omega)
     simp only[go_sem,G0,G1,G2,w03,hkn,hq1l,hsub,zf,hixl,w19,hyl,hyls.len]
     have hb:((((labs d f).getD (k-1) []).length:Int)==0)=pb (ScrP d f):=by
      refine ko ?_
      rw[hSC,hGF,beq_iff_eq,z9p nxf st hG,hlab (k-1)]
      refine⟨fun h=>⟨hG,w18 (by omega)⟩,fun h=>by rw[h.2];rfl⟩
     rw[hb]
     refine zbH (cs:=us vs) rfl (z3W _ _ _ _) ?_
     have hve:vs=(labs d f).map (sumB d.types):=by
      apply List.ext_getElem
      ·rw[hvl,w4e,hol]
      ·intro j h1 h2
       have:=hvs j (by omega)
       rw[List.getElem_map,←z00 (by omega),this]
       congr 1
       simp only[w4e] at h2
       rw[w02,w10 h2];rfl
     rw[hve]
  ·rw[List.concat_eq_append] at*
   obtain⟨hi,hki⟩:=hJ.o i (by simp)
   have hb0:=hJ.b
   have hnl:(op++[i]).length=op.length+1:=by simp
   rw[hnl] at hos htk hb0
   have hgt:(((op.length+1:Nat):Int)>0)=True:=eq_true (by omega)
   have hsub:IntKind.i64.wrap (((op.length+1:Nat):Int)-1)=((op.length:Nat):Int):=by rw[zd (by omega) (by omega)];omega
   have hix:idx (.int .i64 ((op.length:Nat):Int)) (op.length+1)=some op.length:=zS .i64 _ _ (by omega)
   have hld:takeV false 1 (os.drop op.length)=some (.int .i64 (i:Nat)):=by
    have h1:os.take (op++[i]).length=ints (op++[i]):=by rw[hnl];exact htk
    have:=Z5 h1 (by rw[hnl];exact hos) (j:=op.length) (by simp)
    simpa using this
   have hbd:bound (some (.int .i64 ((op.length:Nat):Int))) (op.length+1) (op.length+1)=some op.length:=by
    unfold bound;simp only;rw[if_pos (by omega)];simp
   have htk2:os.take op.length=ints op:=by
    have:(os.take (op.length+1)).take op.length=(ints (op++[i])).take op.length:=by rw[htk]
    rw[List.take_take,Nat.min_eq_left (by omega)] at this
    rw[this];simp[ints]
   have hic:i<f.code.length:=by omega
   have hixi:idx (.int .i64 (i:Int)) n=some i:=zS .i64 i n hi
   obtain⟨c1,c2,c3⟩:=hC.at hic
   obtain⟨yi,hyi,hyis⟩:=WS hcs (k:=i) (by rw[hJ.r.r.len2];exact hi)
   have htl:=hJ.r.len i
   simp only[go_sem,G3,G0,G1,G2,Ym,hnl,hgt,hsub,Uf,hix,w19,hld,Ue,hbd,zf,hixi,hyi,q1.at .i64 hic,q1.inA hic]
   refine(hAf _ c1 c2 (hNear i hi) _ _ hyis (hJ.r.t i) (by omega) _ _ _ _).xw fun r ts n1 ⟨q,hr,hq⟩=> ?_
   subst hr
   have hlive: ∃e',pushToks ts (e::live)=e'::live:=by cases ts<;>exact⟨_,rfl⟩
   obtain⟨e',he'⟩:=hlive
   simp only[he',←hstF]
   cases hs:st i (out0.getD i []) with
   |none=>
    have hng: ¬GoodS nxf st n:=z13 nxf st hJ.r.r hki hs
    obtain⟨y,bs,k1,hN,hLI⟩:=hNx i hi [⟨nx,[ty,tx,fs,.str f.name,.int .i64 f.params,.int .i64 f.result,w0,w1,w2,w3]⟩,⟨nx+1,cs⟩,⟨nx+1+1,bools kn0⟩,⟨st3,os⟩] n1 (e'::live)
    simp only[go_sem,G0,G2,Option.isSome_none,hN]
    rw[ze fun hh=>hng (hGF.1 (hSC.1 hh).1)]
    exact z74 fun hh=>hng (hGF.1 hh)
   |some l=>
    have hql:IsSl IsI 1 l q:=hq l (by rw[←hstF];exact hs)
    have hlt:=hstok i hi _ _ (hJ.r.t i) hs
    have hSK:=hJ.pop nxf n st (InT d.types) hs hlt
    obtain⟨y,bs,k1,hN,hLI⟩:=hNx i hi [⟨nx,[ty,tx,fs,.str f.name,.int .i64 f.params,.int .i64 f.result,w0,w1,w2,w3]⟩,⟨nx+1,cs⟩,⟨nx+1+1,bools kn0⟩,⟨st3,os⟩] n1 (e'::live)
    simp only[w26,w2f,w39,G3,w31,w48] at hN hLI
    have hyl:=hLI.len
    simp only[go_sem,G0,G2,Option.isSome_some,hN,show((0:Int) !=0)=false from rfl,hyl]
    refine zc (α:=Nat×List Bool×List (List Int)×List Nat) (fun z σ=>(z.1≤(nxf i).length∧SK nxf n st (InT d.types) i l ((nxf i).take z.1) (2*unm kn0+(op++[i]).length) z.2.1 z.2.2.1 z.2.2.2)∧ ∃nz cs os st3,lists z.2.2.1 cs∧z.2.2.2.length≤os.length∧os.take z.2.2.2.length=ints z.2.2.2∧LI 4 (stk++[cur]).length (⟨nx,[ty,tx,fs,.str f.name,.int .i64 f.params,.int .i64 f.result,w0,w1,w2,w3]⟩::⟨nx+1,cs⟩::⟨nx+1+1,bools z.2.1⟩::⟨st3,os⟩::bs) y (nxf i)∧heads [1,4,5,6,7,9,71,72,73] (bs.length+4) σ=⟨tmps 136 [(1,.ptr (stk++[cur]).length 0 nx 0),(4,w1),(5,.arr (stk++[cur]).length 1 (nx+1) 0 n),(6,.arr (stk++[cur]).length 2 (nx+1+1) 0 n),(7,.grow 1 (stk++[cur]).length 3 st3 z.2.2.2.length),(9,q),(71,y),(72,.int .i64 (nxf i).length),(73,.int .i64 z.1)],⟨stk++[cur],⟨nx,[ty,tx,fs,.str f.name,.int .i64 f.params,.int .i64 f.result,w0,w1,w2,w3]⟩::⟨nx+1,cs⟩::⟨nx+1+1,bools z.2.1⟩::⟨st3,os⟩::bs,nz,e'::live,fl⟩⟩) (fun z=>(nxf i).length-z.1) (0,kn0,out0,op) ?_ ?_
    ·refine⟨⟨w0c _,hSK⟩,?_⟩
     simp only[go_sem,G0,G1,take4]
     exact⟨_,_,_,_,hcs,by omega,htk2,hLI,rfl⟩
    ·clear hcs hki hyi hyis hs htl hJ hSK hos htk htk2 hld hLI hb0
     rintro⟨j,kn,out,op1⟩ σ ⟨⟨hj,hSK⟩,nz,cs,os,st3,hcs,hos,htk,hLI,hσ⟩
     rw[hσ]
     clear hσ σ
     dsimp only at hj hSK hcs hos htk hLI⊢
     have hkl:=hSK.r.r.len1
     have hol:=hSK.r.r.len2
     have hob:=hSK.b
     by_cases hjn:j<(nxf i).length
     ·have hkn:=hnx i hi (nxf i)[j] (w07 hjn)
      have hmem:(nxf i)[j]∈nxf i:=w07 hjn
      have hts:(nxf i).take (j+1)=(nxf i).take j++[(nxf i)[j]]:=w15 hjn
      obtain⟨a,ha,hat⟩:=zat hLI hjn (nx:=nz) (fl:=fl) (live:=e'::live)
      generalize hK:(nxf i)[j]=k at*
      have hlen2:(nxf i).length≤2:=by rw[←hnxt];exact z6T _ _
      have hsj:IntKind.i64.wrap ((j:Int)+1)=((j+1:Nat):Int):=by rw[zd (by omega) (by omega)];omega
      have hixk:idx (.int .i64 (k:Nat)) n=some k:=zS .i64 k n hkn
      have hgk:=V0 (s:=kn) (j:=k) (by omega)
      obtain⟨yk,hyk,hyks⟩:=WS hcs (k:=k) (by omega)
      have hltj:((j:Int)<((nxf i).length:Nat))=True:=eq_true (by omega)
      have hSI:=fun m=>(ZP _ _ _ _ hyks hql m).eq
      simp only[go_sem,G0,G1,G2,hltj,ha]
      refine z7c hat ?_
      cases hkk:kn.getD k false
      ·rw[hkk] at hgk
       have hst1:=ZL (s:=kn) (j:=k) true (by omega)
       have hbl1:k+1≤(bools kn).length:=by rw[ZM];omega
       have hbl2:k+1≤cs.length:=by rw[hcs.1];omega
       have happ:=fun b2=>z8t (S':=stk++[cur]) (b0:=⟨nx,[ty,tx,fs,.str f.name,.int .i64 f.params,.int .i64 f.result,w0,w1,w2,w3]⟩) (b1:=⟨nx+1,cs⟩) (b2:=b2) (st:=st3) (nx:=nz) (fl:=fl) (n:=op1.length) (cs:=os) (rest:=bs) (live:=e'::live) (v:= .int .i64 (k:Nat)) rfl hos (by simp;omega) (by omega)
       simp only[go_sem,G0,G2,zf,hixk,w19,hgk,happ,hql.refs_cells,hql.one,hbl2,hbl1,hst1,hsj,take4]
       refine⟨(j+1,kn.set k true,out.set k l,op1++[k]),by dsimp only;omega,⟨hjn,?_⟩,nz+1,cs.take k++[q]++cs.drop (k+1),os.take op1.length++[.int .i64 (k:Nat)],nz,z7I hcs (by omega) hql,?_,?_,zas hLI,?_⟩
       ·dsimp only
        rw[hts]
        exact hSK.new nxf n st (InT d.types) hkn hmem hkk
       ·dsimp only;simp only[w05,w25,w21];omega
       ·dsimp only
        simp only[w05,w25]
        rw[w37 (by simp;omega),htk];simp[ints]
       ·dsimp only;simp only[w05,w25]
      ·rw[hkk] at hgk
       by_cases heq:out.getD k []=l
       ·have hd:decide (out.getD k []=l)=true:=decide_eq_true heq
        simp only[go_sem,G0,G2,zf,hixk,w19,hgk,hyk,hSI,hd,hsj,take4]
        refine⟨(j+1,kn,out,op1),by dsimp only;omega,⟨hjn,?_⟩,?_⟩
        ·dsimp only
         rw[hts]
         exact hSK.same nxf n st (InT d.types) hkk heq
        ·exact⟨_,_,_,_,hcs,hos,htk,hLI,rfl⟩
       ·have hd:decide (out.getD k []=l)=false:=decide_eq_false heq
        simp only[go_sem,G0,G2,zf,hixk,w19,hgk,hyk,hSI,hd]
        have hng: ¬GoodS nxf st n:=z2U nxf st hSK.r.r hSK.hi hSK.hs hmem hkk heq
        rw[ze fun hh=>hng (hGF.1 (hSC.1 hh).1)]
        exact z74 fun hh=>hng (hGF.1 hh)
     ·have hje:j=(nxf i).length:=by omega
      subst hje
      rw[w0a] at hSK
      obtain⟨h1,h2⟩:=hSK.fin nxf n st (InT d.types)
      simp only[go_sem,reduceCtorEq,G0,G1,G2,show(((nxf i).length:Nat):Int)<((nxf i).length:Nat)↔False from⟨fun h=>by omega,False.elim⟩]
      exact⟨(kn,out,op1),by rw[hnl] at h2;exact h2,h1,_,_,_,_,_,hcs,hos,htk,rfl⟩
theorem z7j (d:DImage) (hd:ImgP d) (f:DFunc) (y:AV) (hy:NV d f y) (hs:SlotsP d f) (x:DInstr) (hx:InstrP x) (hN:NearP d f x) (hop:x.op=1∨x.op=2∨x.op=3∨x.op=4∨x.op=5∨x.op=6∨x.op=7∨x.op=8∨x.op=9∨x.op=10∨x.op=11) (m:Mem) (hf:m.floor≤m.stk.length+1):
  Okv tab zL [y,.agg [.int .u8 x.op,.int .i64 x.a,.int .i64 x.b,.int .i64 x.c]] m (.bool (typP d f x)):=by
 have hy':=hy
 obtain⟨ty,tx,fs,w0,w1,w2,w3,rfl,h0,h1,h2,h3,h4,h5,h6⟩:=hy
 refine zh yY ?_
 obtain⟨stk,cur,nx,live,fl⟩:=m
 dsimp only at hf
 have hf':fl≤(stk++[cur]).length+1:=by simp;omega
 have hsl:=Zr hs
 have hS:=fun s m=>(Q1 d f _ hy' s m).eq
 have hI:=fun t ht ks z hz m=>(z2m d f _ hy' t ht ks z hz m).eq
 have hE:=fun t e ht ks z hz m=>(z2p d f _ hy' t e ht ks z hz m).eq
 have hM:=fun t i e ht m=>(WO d f _ hy' t i e ht m).eq
 have hb: ∀X nz,Mem.blk ⟨stk++[cur],[⟨nx,cellsN ty tx fs w0 w1 w2 w3 f⟩,X],nz,[]::live,fl⟩ (stk++[cur]).length 0 nx=some (cellsN ty tx fs w0 w1 w2 w3 f):=fun X nz=>by simp[Mem.blk,Mem.row]
 have hn:=fun l z hz hl X nz=>(z6E d f ty tx fs w0 w1 w2 w3 hy' l z hz hl _ (stk++[cur]).length nx (w0b _) (hb X nz)).eq
 have hfl:=fun t ht X nz=>(z2o d f ty tx fs w0 w1 w2 w3 hy' t ht _ (stk++[cur]).length nx (w0b _) (hb X nz)).eq
 simp only[cellsN] at hn hfl
 have nA:=hn [slotT f x.a] _ (isI1 _ .full) (by simp[hsl])
 have nB:=hn [slotT f x.b] _ (isI1 _ .full) (by simp[hsl])
 have nC:=hn [slotT f x.c] _ (isI1 _ .full) (by simp[hsl])
 have nBC:=hn [slotT f x.b,slotT f x.c] _ (isI2 _ _ .full) (by simp[hsl])
 have nABC:=hn [slotT f x.a,slotT f x.b,slotT f x.c] _ (isI3 _ _ _ .full) (by simp[hsl])
 have gA:=hfl (slotT f x.a) (hsl _)
 have gB:=hfl (slotT f x.b) (hsl _)
 clear hn hfl
 simp only[zY,List.map,go_sem,reduceCtorEq,G3,G0,G2,hS]
 generalize callNx tab zl _ _=nz
 rcases hop with h|h|h|h|h|h|h|h|h|h|h
 ·skip
  simp only[go_sem,reduceCtorEq,G0,G2,h,nA]
  repeat' (((first|refine zD ?_ ?_|refine zq ?_ ?_|refine zr ?_ ?_|refine zo ?_ ?_|refine zp ?_ ?_)<;>intro hq)<;>simp only[go_sem,reduceIte,reduceCtorEq,G3,G5,G0,G4,G1,G2,hq,nA])
  all_goals
   rw[z6 rfl rfl,z8]
   refine⟨⟨_,rfl⟩,congrArg AV.bool ?_⟩
   unfold typP
   simp only[h,G8,reduceIte,or_false,or_self]<;>first|rfl|simp[*]
 ·skip
  simp only[go_sem,reduceCtorEq,G3,G0,G2,h,G9,hI _ (hsl _) _ _ (isL1 3 .full)]
  repeat' (((first|refine zD ?_ ?_|refine zq ?_ ?_|refine zr ?_ ?_|refine zo ?_ ?_|refine zp ?_ ?_)<;>intro hq)<;>simp only[go_sem,reduceIte,reduceCtorEq,G3,G5,G0,G4,G1,G2,hq,hI _ (hsl _) _ _ (isL1 3 .full)])
  all_goals
   rw[z6 rfl rfl,z8]
   refine⟨⟨_,rfl⟩,congrArg AV.bool ?_⟩
   unfold typP
   simp only[h,G8,reduceIte,or_self]<;>first|rfl|simp[*]
 ·skip
  simp only[go_sem,reduceCtorEq,G0,G2,h,G9,gA]
  repeat' (((first|refine zD ?_ ?_|refine zq ?_ ?_|refine zr ?_ ?_|refine zo ?_ ?_|refine zp ?_ ?_)<;>intro hq)<;>simp only[go_sem,reduceIte,reduceCtorEq,G3,G5,G0,G4,G1,G2,hq,gA])
  all_goals
   rw[z6 rfl rfl,z8]
   refine⟨⟨_,rfl⟩,congrArg AV.bool ?_⟩
   unfold typP
   simp only[h,G8,reduceIte,or_false,or_self]<;>first|rfl|simp[*]
 ·skip
  simp only[go_sem,reduceCtorEq,G0,G2,h,G9]
  repeat' (((first|refine zD ?_ ?_|refine zq ?_ ?_|refine zr ?_ ?_|refine zo ?_ ?_|refine zp ?_ ?_)<;>intro hq)<;>simp only[go_sem,reduceIte,reduceCtorEq,G3,G5,G0,G4,G1,G2,hq,h])
  all_goals
   rw[z6 rfl rfl,z8]
   refine⟨⟨_,rfl⟩,congrArg AV.bool ?_⟩
   unfold typP
   simp only[h,G8,reduceIte,or_self]<;>first|rfl|simp[*]
 ·skip
  simp only[go_sem,reduceCtorEq,G0,G2,h,G9]
  repeat' (((first|refine zD ?_ ?_|refine zq ?_ ?_|refine zr ?_ ?_|refine zo ?_ ?_|refine zp ?_ ?_)<;>intro hq)<;>simp only[go_sem,reduceIte,reduceCtorEq,G3,G5,G0,G4,G1,G2,hq,h])
  all_goals
   rw[z6 rfl rfl,z8]
   refine⟨⟨_,rfl⟩,congrArg AV.bool ?_⟩
   unfold typP
   simp only[h,G8,reduceIte,or_self]<;>first|rfl|simp[*]
 ·skip
  simp only[go_sem,reduceCtorEq,G0,G2,h,G9,nABC]
  repeat' (((first|refine zD ?_ ?_|refine zq ?_ ?_|refine zr ?_ ?_|refine zo ?_ ?_|refine zp ?_ ?_)<;>intro hq)<;>simp only[go_sem,reduceIte,reduceCtorEq,G3,G5,G0,G4,G1,G2,hq,nABC])
  all_goals
   rw[z6 rfl rfl,z8]
   refine⟨⟨_,rfl⟩,congrArg AV.bool ?_⟩
   unfold typP
   simp only[h,G8,reduceIte,or_false,or_self]<;>first|rfl|simp[*]
 ·skip
  simp only[go_sem,reduceCtorEq,G0,G2,h,G9,nABC]
  repeat' (((first|refine zD ?_ ?_|refine zq ?_ ?_|refine zr ?_ ?_|refine zo ?_ ?_|refine zp ?_ ?_)<;>intro hq)<;>simp only[go_sem,reduceIte,reduceCtorEq,G3,G5,G0,G4,G1,G2,hq,nABC])
  all_goals
   rw[z6 rfl rfl,z8]
   refine⟨⟨_,rfl⟩,congrArg AV.bool ?_⟩
   unfold typP
   simp only[h,G8,reduceIte,or_false,or_self,or_true]<;>first|rfl|simp[*]
 ·skip
  simp only[go_sem,reduceCtorEq,G0,G2,h,G9,nABC]
  repeat' (((first|refine zD ?_ ?_|refine zq ?_ ?_|refine zr ?_ ?_|refine zo ?_ ?_|refine zp ?_ ?_)<;>intro hq)<;>simp only[go_sem,reduceIte,reduceCtorEq,G3,G5,G0,G4,G1,G2,hq,nABC])
  all_goals
   rw[z6 rfl rfl,z8]
   refine⟨⟨_,rfl⟩,congrArg AV.bool ?_⟩
   unfold typP
   simp only[h,G8,reduceIte,or_false,or_self,or_true]<;>first|rfl|simp[*]
 ·skip
  simp only[go_sem,reduceCtorEq,G0,G2,h,G9,nABC]
  repeat' (((first|refine zD ?_ ?_|refine zq ?_ ?_|refine zr ?_ ?_|refine zo ?_ ?_|refine zp ?_ ?_)<;>intro hq)<;>simp only[go_sem,reduceIte,reduceCtorEq,G3,G5,G0,G4,G1,G2,hq,nABC])
  all_goals
   rw[z6 rfl rfl,z8]
   refine⟨⟨_,rfl⟩,congrArg AV.bool ?_⟩
   unfold typP
   simp only[h,G8,reduceIte,or_self,or_true]<;>first|rfl|simp[*]
 ·skip
  simp only[go_sem,reduceCtorEq,G0,G2,h,G9,gA]
  repeat' (((first|refine zD ?_ ?_|refine zq ?_ ?_|refine zr ?_ ?_|refine zo ?_ ?_|refine zp ?_ ?_)<;>intro hq)<;>simp only[go_sem,reduceCtorEq,G0,G2,hq,nBC])
  all_goals
   rw[z6 rfl rfl,z8]
   refine⟨⟨_,rfl⟩,congrArg AV.bool ?_⟩
   unfold typP
   simp only[h,G8,reduceIte,or_self]<;>first|rfl|simp[*]
 ·skip
  simp only[go_sem,reduceCtorEq,G0,G2,h,G9,gA]
  repeat' (((first|refine zD ?_ ?_|refine zq ?_ ?_|refine zr ?_ ?_|refine zo ?_ ?_|refine zp ?_ ?_)<;>intro hq)<;>simp only[go_sem,reduceCtorEq,G3,G0,G2,hq,hI _ (hsl _) _ _ (isL3 2 1 4 .full)])
  all_goals
   rw[z6 rfl rfl,z8]
   refine⟨⟨_,rfl⟩,congrArg AV.bool ?_⟩
   unfold typP
   simp only[h,G8,reduceIte,or_self]<;>first|rfl|simp[*]
theorem z7i (d:DImage) (hd:ImgP d) (f:DFunc) (y:AV) (hy:NV d f y) (hs:SlotsP d f) (x:DInstr) (hx:InstrP x) (hN:NearP d f x) (hop:x.op=12∨x.op=13∨x.op=14∨x.op=15∨x.op=16∨x.op=17∨x.op=18∨x.op=19∨x.op=20) (m:Mem) (hf:m.floor≤m.stk.length+1):
  Okv tab zL [y,.agg [.int .u8 x.op,.int .i64 x.a,.int .i64 x.b,.int .i64 x.c]] m (.bool (typP d f x)):=by
 have hy':=hy
 obtain⟨ty,tx,fs,w0,w1,w2,w3,rfl,h0,h1,h2,h3,h4,h5,h6⟩:=hy
 refine zh yY ?_
 obtain⟨stk,cur,nx,live,fl⟩:=m
 dsimp only at hf
 have hf':fl≤(stk++[cur]).length+1:=by simp;omega
 have hsl:=Zr hs
 have hS:=fun s m=>(Q1 d f _ hy' s m).eq
 have hI:=fun t ht ks z hz m=>(z2m d f _ hy' t ht ks z hz m).eq
 have hE:=fun t e ht ks z hz m=>(z2p d f _ hy' t e ht ks z hz m).eq
 have hM:=fun t i e ht m=>(WO d f _ hy' t i e ht m).eq
 have hb: ∀X nz,Mem.blk ⟨stk++[cur],[⟨nx,cellsN ty tx fs w0 w1 w2 w3 f⟩,X],nz,[]::live,fl⟩ (stk++[cur]).length 0 nx=some (cellsN ty tx fs w0 w1 w2 w3 f):=fun X nz=>by simp[Mem.blk,Mem.row]
 have hn:=fun l z hz hl X nz=>(z6E d f ty tx fs w0 w1 w2 w3 hy' l z hz hl _ (stk++[cur]).length nx (w0b _) (hb X nz)).eq
 have hfl:=fun t ht X nz=>(z2o d f ty tx fs w0 w1 w2 w3 hy' t ht _ (stk++[cur]).length nx (w0b _) (hb X nz)).eq
 simp only[cellsN] at hn hfl
 have nA:=hn [slotT f x.a] _ (isI1 _ .full) (by simp[hsl])
 have nB:=hn [slotT f x.b] _ (isI1 _ .full) (by simp[hsl])
 have nC:=hn [slotT f x.c] _ (isI1 _ .full) (by simp[hsl])
 have nBC:=hn [slotT f x.b,slotT f x.c] _ (isI2 _ _ .full) (by simp[hsl])
 have nABC:=hn [slotT f x.a,slotT f x.b,slotT f x.c] _ (isI3 _ _ _ .full) (by simp[hsl])
 have gA:=hfl (slotT f x.a) (hsl _)
 have gB:=hfl (slotT f x.b) (hsl _)
 clear hn hfl
 simp only[zY,List.map,go_sem,reduceCtorEq,G3,G0,G2,hS]
 generalize callNx tab zl _ _=nz
 rcases hop with h|h|h|h|h|h|h|h|h
 ·skip
  simp only[go_sem,reduceCtorEq,G0,G2,h,G9,gA]
  repeat' (((first|refine zD ?_ ?_|refine zq ?_ ?_|refine zr ?_ ?_|refine zo ?_ ?_|refine zp ?_ ?_)<;>intro hq)<;>simp only[go_sem,reduceCtorEq,G0,G2,hq,gB])
  all_goals
   rw[z6 rfl rfl,z8]
   refine⟨⟨_,rfl⟩,congrArg AV.bool ?_⟩
   unfold typP
   simp only[h,G8,reduceIte,or_self]<;>first|rfl|simp[*]
 ·skip
  simp only[go_sem,reduceCtorEq,G3,G0,G2,h,G9,hM _ _ _ (hsl _)]
  repeat' (((first|refine zD ?_ ?_|refine zq ?_ ?_|refine zr ?_ ?_|refine zo ?_ ?_|refine zp ?_ ?_)<;>intro hq)<;>simp only[go_sem,reduceIte,reduceCtorEq,G3,G5,G0,G4,G1,G2,hq,hM _ _ _ (hsl _)])
  all_goals
   rw[z6 rfl rfl,z8]
   refine⟨⟨_,rfl⟩,congrArg AV.bool ?_⟩
   unfold typP
   simp only[h,G8,reduceIte,or_self]<;>first|rfl|simp[*]
 ·skip
  simp only[go_sem,reduceCtorEq,G3,G0,G2,h,G9,hM _ _ _ (hsl _)]
  repeat' (((first|refine zD ?_ ?_|refine zq ?_ ?_|refine zr ?_ ?_|refine zo ?_ ?_|refine zp ?_ ?_)<;>intro hq)<;>simp only[go_sem,reduceIte,reduceCtorEq,G3,G5,G0,G4,G1,G2,hq,hM _ _ _ (hsl _)])
  all_goals
   rw[z6 rfl rfl,z8]
   refine⟨⟨_,rfl⟩,congrArg AV.bool ?_⟩
   unfold typP
   simp only[h,G8,reduceIte,or_self]<;>first|rfl|simp[*]
 ·skip
  simp only[go_sem,reduceCtorEq,G3,G0,G2,h,G9,hI _ (hsl _) _ _ (isL1 4 .full)]
  repeat' (((first|refine zD ?_ ?_|refine zq ?_ ?_|refine zr ?_ ?_|refine zo ?_ ?_|refine zp ?_ ?_)<;>intro hq)<;>simp only[go_sem,reduceIte,reduceCtorEq,G3,G5,G0,G4,G1,G2,hq,hI _ (hsl _) _ _ (isL1 4 .full)])
  all_goals
   rw[z6 rfl rfl,z8]
   refine⟨⟨_,rfl⟩,congrArg AV.bool ?_⟩
   unfold typP
   simp only[h,G8,reduceIte,or_self]<;>first|rfl|simp[*]
 ·skip
  simp only[go_sem,reduceCtorEq,G3,G0,G2,h,G9,hE _ _ (hsl _) _ _ (isL1 4 .full)]
  repeat' (((first|refine zD ?_ ?_|refine zq ?_ ?_|refine zr ?_ ?_|refine zo ?_ ?_|refine zp ?_ ?_)<;>intro hq)<;>simp only[go_sem,reduceIte,reduceCtorEq,G3,G5,G0,G4,G1,G2,hq,hE _ _ (hsl _) _ _ (isL1 4 .full)])
  all_goals
   rw[z6 rfl rfl,z8]
   refine⟨⟨_,rfl⟩,congrArg AV.bool ?_⟩
   unfold typP
   simp only[h,G8,reduceIte,or_self]<;>first|rfl|simp[*]
 ·skip
  simp only[go_sem,reduceCtorEq,G3,G0,G2,h,G9,hE _ _ (hsl _) _ _ (isL1 4 .full)]
  repeat' (((first|refine zD ?_ ?_|refine zq ?_ ?_|refine zr ?_ ?_|refine zo ?_ ?_|refine zp ?_ ?_)<;>intro hq)<;>simp only[go_sem,reduceIte,reduceCtorEq,G3,G5,G0,G4,G1,G2,hq,hE _ _ (hsl _) _ _ (isL1 4 .full)])
  all_goals
   rw[z6 rfl rfl,z8]
   refine⟨⟨_,rfl⟩,congrArg AV.bool ?_⟩
   unfold typP
   simp only[h,G8,reduceIte,or_self]<;>first|rfl|simp[*]
 ·skip
  simp only[go_sem,reduceCtorEq,G3,G0,G2,h,G9,hI _ (hsl _) _ _ (isL1 7 .full)]
  repeat' (((first|refine zD ?_ ?_|refine zq ?_ ?_|refine zr ?_ ?_|refine zo ?_ ?_|refine zp ?_ ?_)<;>intro hq)<;>simp only[go_sem,reduceCtorEq,G0,G2,hq,nB])
  all_goals
   rw[z6 rfl rfl,z8]
   refine⟨⟨_,rfl⟩,congrArg AV.bool ?_⟩
   unfold typP
   simp only[h,G8,reduceIte,or_self]<;>first|rfl|simp[*]
 ·skip
  simp only[go_sem,reduceCtorEq,G3,G0,G2,h,G9,hE _ _ (hsl _) _ _ (isL2 7 6 .full)]
  repeat' (((first|refine zD ?_ ?_|refine zq ?_ ?_|refine zr ?_ ?_|refine zo ?_ ?_|refine zp ?_ ?_)<;>intro hq)<;>simp only[go_sem,reduceCtorEq,G0,G2,hq,nC])
  all_goals
   rw[z6 rfl rfl,z8]
   refine⟨⟨_,rfl⟩,congrArg AV.bool ?_⟩
   unfold typP
   simp only[h,G8,reduceIte,or_self]<;>first|rfl|simp[*]
 ·skip
  simp only[go_sem,reduceCtorEq,G3,G0,G2,h,G9,hE _ _ (hsl _) _ _ (isL2 7 6 .full)]
  repeat' (((first|refine zD ?_ ?_|refine zq ?_ ?_|refine zr ?_ ?_|refine zo ?_ ?_|refine zp ?_ ?_)<;>intro hq)<;>simp only[go_sem,reduceCtorEq,G0,G2,hq,nB])
  all_goals
   rw[z6 rfl rfl,z8]
   refine⟨⟨_,rfl⟩,congrArg AV.bool ?_⟩
   unfold typP
   simp only[h,G8,reduceIte,or_self]<;>first|rfl|simp[*]
theorem z7h (d:DImage) (hd:ImgP d) (f:DFunc) (y:AV) (hy:NV d f y) (hs:SlotsP d f) (x:DInstr) (hx:InstrP x) (hN:NearP d f x) (hop:x.op=21∨x.op=22∨x.op=23∨x.op=24∨x.op=25∨x.op=26∨x.op=27) (m:Mem) (hf:m.floor≤m.stk.length+1):
  Okv tab zL [y,.agg [.int .u8 x.op,.int .i64 x.a,.int .i64 x.b,.int .i64 x.c]] m (.bool (typP d f x)):=by
 have hy':=hy
 obtain⟨ty,tx,fs,w0,w1,w2,w3,rfl,h0,h1,h2,h3,h4,h5,h6⟩:=hy
 refine zh yY ?_
 obtain⟨stk,cur,nx,live,fl⟩:=m
 dsimp only at hf
 have hf':fl≤(stk++[cur]).length+1:=by simp;omega
 have hsl:=Zr hs
 have hS:=fun s m=>(Q1 d f _ hy' s m).eq
 have hI:=fun t ht ks z hz m=>(z2m d f _ hy' t ht ks z hz m).eq
 have hE:=fun t e ht ks z hz m=>(z2p d f _ hy' t e ht ks z hz m).eq
 have hM:=fun t i e ht m=>(WO d f _ hy' t i e ht m).eq
 have hb: ∀X nz,Mem.blk ⟨stk++[cur],[⟨nx,cellsN ty tx fs w0 w1 w2 w3 f⟩,X],nz,[]::live,fl⟩ (stk++[cur]).length 0 nx=some (cellsN ty tx fs w0 w1 w2 w3 f):=fun X nz=>by simp[Mem.blk,Mem.row]
 have hn:=fun l z hz hl X nz=>(z6E d f ty tx fs w0 w1 w2 w3 hy' l z hz hl _ (stk++[cur]).length nx (w0b _) (hb X nz)).eq
 have hfl:=fun t ht X nz=>(z2o d f ty tx fs w0 w1 w2 w3 hy' t ht _ (stk++[cur]).length nx (w0b _) (hb X nz)).eq
 simp only[cellsN] at hn hfl
 have nA:=hn [slotT f x.a] _ (isI1 _ .full) (by simp[hsl])
 have nB:=hn [slotT f x.b] _ (isI1 _ .full) (by simp[hsl])
 have nC:=hn [slotT f x.c] _ (isI1 _ .full) (by simp[hsl])
 have nBC:=hn [slotT f x.b,slotT f x.c] _ (isI2 _ _ .full) (by simp[hsl])
 have nABC:=hn [slotT f x.a,slotT f x.b,slotT f x.c] _ (isI3 _ _ _ .full) (by simp[hsl])
 have gA:=hfl (slotT f x.a) (hsl _)
 have gB:=hfl (slotT f x.b) (hsl _)
 clear hn hfl
 simp only[zY,List.map,go_sem,reduceCtorEq,G3,G0,G2,hS]
 generalize callNx tab zl _ _=nz
 rcases hop with h|h|h|h|h|h|h
 ·skip
  simp only[go_sem,reduceCtorEq,G0,G2,h,G9,nA]
  repeat' (((first|refine zD ?_ ?_|refine zq ?_ ?_|refine zr ?_ ?_|refine zo ?_ ?_|refine zp ?_ ?_)<;>intro hq)<;>simp only[go_sem,reduceCtorEq,G3,G0,G2,hq,hI _ (hsl _) _ _ (isL3 3 7 6 .full)])
  all_goals
   rw[z6 rfl rfl,z8]
   refine⟨⟨_,rfl⟩,congrArg AV.bool ?_⟩
   unfold typP
   simp only[h,G8,reduceIte,or_self]<;>first|rfl|simp[*]
 ·skip
  simp only[go_sem,reduceCtorEq,G0,G2,h,G9]
  repeat' (((first|refine zD ?_ ?_|refine zq ?_ ?_|refine zr ?_ ?_|refine zo ?_ ?_|refine zp ?_ ?_)<;>intro hq)<;>simp only[go_sem,reduceIte,reduceCtorEq,G3,G5,G0,G4,G1,G2,hq,h])
  all_goals
   rw[z6 rfl rfl,z8]
   refine⟨⟨_,rfl⟩,congrArg AV.bool ?_⟩
   unfold typP
   simp only[h,G8,reduceIte,or_self]<;>first|rfl|simp[*]
 ·skip
  simp only[go_sem,reduceCtorEq,G0,G2,h,G9,gA]
  repeat' (((first|refine zD ?_ ?_|refine zq ?_ ?_|refine zr ?_ ?_|refine zo ?_ ?_|refine zp ?_ ?_)<;>intro hq)<;>simp only[go_sem,reduceIte,reduceCtorEq,G3,G5,G0,G4,G1,G2,hq,gA])
  all_goals
   rw[z6 rfl rfl,z8]
   refine⟨⟨_,rfl⟩,congrArg AV.bool ?_⟩
   unfold typP
   simp only[h,G8,reduceIte,or_self,or_true]<;>first|rfl|simp[*]
 ·skip
  simp only[go_sem,reduceCtorEq,G0,G2,h,G9]
  repeat' (((first|refine zD ?_ ?_|refine zq ?_ ?_|refine zr ?_ ?_|refine zo ?_ ?_|refine zp ?_ ?_)<;>intro hq)<;>simp only[go_sem,reduceIte,reduceCtorEq,G3,G5,G0,G4,G1,G2,hq,h])
  all_goals
   rw[z6 rfl rfl,z8]
   refine⟨⟨_,rfl⟩,congrArg AV.bool ?_⟩
   unfold typP
   simp only[h,G8,reduceIte,or_self]<;>first|rfl|simp[*]
 ·obtain⟨q,hq⟩: ∃q:Nat,x.b=q:=⟨x.b.toNat,by have:=za9 hx hN h;omega⟩
  have hqk:q<d.funcs.length:=by have:=za9 hx hN h;omega
  obtain⟨v0,v1,v2,v3,ef,q0,q1,q2,q3⟩:=h2.fnA hqk
  have hat:=h2.at .i64 hqk
  simp only[go_sem,reduceCtorEq,G0,G2,h,G9,hq]
  repeat' (((first|refine zD ?_ ?_|refine zq ?_ ?_|refine zr ?_ ?_|refine zo ?_ ?_|refine zp ?_ ?_)<;>intro hq)<;>simp only[go_sem,reduceCtorEq,G0,G2,hq,hat,ef])
  all_goals
   rw[z6 rfl rfl,z8]
   refine⟨⟨_,rfl⟩,congrArg AV.bool ?_⟩
   unfold typP
   simp only[h,hq,G8,reduceIte,or_self]<;>first|rfl|simp[*]
 ·obtain⟨q,hq⟩: ∃q:Nat,x.a=q:=⟨x.a.toNat,by have:=z3q hx hN (by omega);omega⟩
  have hqk:q<d.funcs.length:=by have:=z3q hx hN (by omega);omega
  obtain⟨v0,v1,v2,v3,ef,q0,q1,q2,q3⟩:=h2.fnA hqk
  have hat:=h2.at .i64 hqk
  have hIG:=hd.at hqk
  have hL:=fun c nz lv=>(z6F d f _ hy' (fnA d.funcs q) _ ⟨v0,v1,v2,v3,rfl,q0,q1,q2,q3⟩ hIG.1 hIG.2.1 ⟨stk++[cur],c,nz,lv,max fl ((stk++[cur]).length+1)⟩ (by simp;omega)).eq
  simp only[go_sem,reduceCtorEq,G3,G0,G2,h,G9,hq,hat,ef,hL]
  repeat' (((first|refine zD ?_ ?_|refine zq ?_ ?_|refine zr ?_ ?_|refine zo ?_ ?_|refine zp ?_ ?_)<;>intro hq)<;>simp only[go_sem,reduceIte,reduceCtorEq,G3,G5,G0,G4,G1,G2,hq,hq,hat,ef,hL])
  all_goals
   rw[z6 rfl rfl,z8]
   refine⟨⟨_,rfl⟩,congrArg AV.bool ?_⟩
   unfold typP
   simp only[h,hq,G8,reduceIte,or_false,or_self,w30]<;>first|rfl|simp[*]
 ·obtain⟨q,hq⟩: ∃q:Nat,x.a=q:=⟨x.a.toNat,by have:=z3q hx hN (by omega);omega⟩
  have hqk:q<d.funcs.length:=by have:=z3q hx hN (by omega);omega
  obtain⟨v0,v1,v2,v3,ef,q0,q1,q2,q3⟩:=h2.fnA hqk
  have hat:=h2.at .i64 hqk
  have hIG:=hd.at hqk
  have hL:=fun c nz lv=>(z6F d f _ hy' (fnA d.funcs q) _ ⟨v0,v1,v2,v3,rfl,q0,q1,q2,q3⟩ hIG.1 hIG.2.1 ⟨stk++[cur],c,nz,lv,max fl ((stk++[cur]).length+1)⟩ (by simp;omega)).eq
  simp only[go_sem,reduceCtorEq,G3,G0,G2,h,G9,hq,hat,ef,hL]
  repeat' (((first|refine zD ?_ ?_|refine zq ?_ ?_|refine zr ?_ ?_|refine zo ?_ ?_|refine zp ?_ ?_)<;>intro hq)<;>simp only[go_sem,reduceIte,reduceCtorEq,G3,G5,G0,G4,G1,G2,hq,hq,hat,ef,hL])
  all_goals
   rw[z6 rfl rfl,z8]
   refine⟨⟨_,rfl⟩,congrArg AV.bool ?_⟩
   unfold typP
   simp only[h,hq,G8,reduceIte,or_self,or_true,w30]<;>first|rfl|simp[*]
theorem z7g (d:DImage) (hd:ImgP d) (f:DFunc) (y:AV) (hy:NV d f y) (hs:SlotsP d f) (x:DInstr) (hx:InstrP x) (hN:NearP d f x) (hop:x.op=28∨x.op=29∨x.op=30∨x.op=31∨x.op=32∨x.op=33∨x.op=34) (m:Mem) (hf:m.floor≤m.stk.length+1):
  Okv tab zL [y,.agg [.int .u8 x.op,.int .i64 x.a,.int .i64 x.b,.int .i64 x.c]] m (.bool (typP d f x)):=by
 have hy':=hy
 obtain⟨ty,tx,fs,w0,w1,w2,w3,rfl,h0,h1,h2,h3,h4,h5,h6⟩:=hy
 refine zh yY ?_
 obtain⟨stk,cur,nx,live,fl⟩:=m
 dsimp only at hf
 have hf':fl≤(stk++[cur]).length+1:=by simp;omega
 have hsl:=Zr hs
 have hS:=fun s m=>(Q1 d f _ hy' s m).eq
 have hI:=fun t ht ks z hz m=>(z2m d f _ hy' t ht ks z hz m).eq
 have hE:=fun t e ht ks z hz m=>(z2p d f _ hy' t e ht ks z hz m).eq
 have hM:=fun t i e ht m=>(WO d f _ hy' t i e ht m).eq
 have hb: ∀X nz,Mem.blk ⟨stk++[cur],[⟨nx,cellsN ty tx fs w0 w1 w2 w3 f⟩,X],nz,[]::live,fl⟩ (stk++[cur]).length 0 nx=some (cellsN ty tx fs w0 w1 w2 w3 f):=fun X nz=>by simp[Mem.blk,Mem.row]
 have hn:=fun l z hz hl X nz=>(z6E d f ty tx fs w0 w1 w2 w3 hy' l z hz hl _ (stk++[cur]).length nx (w0b _) (hb X nz)).eq
 have hfl:=fun t ht X nz=>(z2o d f ty tx fs w0 w1 w2 w3 hy' t ht _ (stk++[cur]).length nx (w0b _) (hb X nz)).eq
 simp only[cellsN] at hn hfl
 have nA:=hn [slotT f x.a] _ (isI1 _ .full) (by simp[hsl])
 have nB:=hn [slotT f x.b] _ (isI1 _ .full) (by simp[hsl])
 have nC:=hn [slotT f x.c] _ (isI1 _ .full) (by simp[hsl])
 have nBC:=hn [slotT f x.b,slotT f x.c] _ (isI2 _ _ .full) (by simp[hsl])
 have nABC:=hn [slotT f x.a,slotT f x.b,slotT f x.c] _ (isI3 _ _ _ .full) (by simp[hsl])
 have gA:=hfl (slotT f x.a) (hsl _)
 have gB:=hfl (slotT f x.b) (hsl _)
 clear hn hfl
 simp only[zY,List.map,go_sem,reduceCtorEq,G3,G0,G2,hS]
 generalize callNx tab zl _ _=nz
 rcases hop with h|h|h|h|h|h|h
 ·skip
  simp only[go_sem,reduceCtorEq,G3,G0,G2,h,G9,hI _ (hsl _) _ _ (isL3 2 1 3 .full)]
  repeat' (((first|refine zD ?_ ?_|refine zq ?_ ?_|refine zr ?_ ?_|refine zo ?_ ?_|refine zp ?_ ?_)<;>intro hq)<;>simp only[go_sem,reduceIte,reduceCtorEq,G3,G5,G0,G4,G1,G2,hq,hI _ (hsl _) _ _ (isL3 2 1 3 .full)])
  all_goals
   rw[z6 rfl rfl,z8]
   refine⟨⟨_,rfl⟩,congrArg AV.bool ?_⟩
   unfold typP
   simp only[h,G8,reduceIte,or_self]<;>first|rfl|simp[*]
 ·skip
  simp only[go_sem,reduceCtorEq,G0,G2,h,G9,gA]
  repeat' (((first|refine zD ?_ ?_|refine zq ?_ ?_|refine zr ?_ ?_|refine zo ?_ ?_|refine zp ?_ ?_)<;>intro hq)<;>simp only[go_sem,reduceCtorEq,G0,G2,hq,nB])
  all_goals
   rw[z6 rfl rfl,z8]
   refine⟨⟨_,rfl⟩,congrArg AV.bool ?_⟩
   unfold typP
   simp only[h,G8,reduceIte,or_false,or_self]<;>first|rfl|simp[*]
 ·skip
  simp only[go_sem,reduceCtorEq,G0,G2,h,G9]
  repeat' (((first|refine zD ?_ ?_|refine zq ?_ ?_|refine zr ?_ ?_|refine zo ?_ ?_|refine zp ?_ ?_)<;>intro hq)<;>simp only[go_sem,reduceIte,reduceCtorEq,G3,G5,G0,G4,G1,G2,hq,h])
  all_goals
   rw[z6 rfl rfl,z8]
   refine⟨⟨_,rfl⟩,congrArg AV.bool ?_⟩
   unfold typP
   simp only[h,G8,reduceIte,or_self]<;>first|rfl|simp[*]
 ·skip
  simp only[go_sem,reduceCtorEq,G0,G2,h,G9]
  repeat' (((first|refine zD ?_ ?_|refine zq ?_ ?_|refine zr ?_ ?_|refine zo ?_ ?_|refine zp ?_ ?_)<;>intro hq)<;>simp only[go_sem,reduceIte,reduceCtorEq,G3,G5,G0,G4,G1,G2,hq,h])
  all_goals
   rw[z6 rfl rfl,z8]
   refine⟨⟨_,rfl⟩,congrArg AV.bool ?_⟩
   unfold typP
   simp only[h,G8,reduceIte,or_self]<;>first|rfl|simp[*]
 ·skip
  simp only[go_sem,reduceCtorEq,G0,G2,h,G9,nA]
  repeat' (((first|refine zD ?_ ?_|refine zq ?_ ?_|refine zr ?_ ?_|refine zo ?_ ?_|refine zp ?_ ?_)<;>intro hq)<;>simp only[go_sem,reduceIte,reduceCtorEq,G3,G5,G0,G4,G1,G2,hq,nA])
  all_goals
   rw[z6 rfl rfl,z8]
   refine⟨⟨_,rfl⟩,congrArg AV.bool ?_⟩
   unfold typP
   simp only[h,G8,reduceIte,or_self,or_true]<;>first|rfl|simp[*]
 ·skip
  simp only[go_sem,reduceCtorEq,G0,G2,h,G9,gA]
  repeat' (((first|refine zD ?_ ?_|refine zq ?_ ?_|refine zr ?_ ?_|refine zo ?_ ?_|refine zp ?_ ?_)<;>intro hq)<;>simp only[go_sem,reduceCtorEq,G0,G2,hq,nB])
  all_goals
   rw[z6 rfl rfl,z8]
   refine⟨⟨_,rfl⟩,congrArg AV.bool ?_⟩
   unfold typP
   simp only[h,G8,reduceIte,or_self,or_true]<;>first|rfl|simp[*]
 ·skip
  simp only[go_sem,reduceCtorEq,G0,G2,h,G9]
  repeat' (((first|refine zD ?_ ?_|refine zq ?_ ?_|refine zr ?_ ?_|refine zo ?_ ?_|refine zp ?_ ?_)<;>intro hq)<;>simp only[go_sem,reduceCtorEq,G3,G0,G2,hq])
  all_goals
   rw[z6 rfl rfl,z8]
   refine⟨⟨_,rfl⟩,congrArg AV.bool ?_⟩
   unfold typP
   simp only[h,G8,reduceIte,or_self]<;>first|rfl|simp[*]
theorem zaD (d:DImage) (hd:ImgP d) (f:DFunc) (y:AV) (hy:NV d f y) (hs:SlotsP d f) (x:DInstr) (hx:InstrP x) (hN:NearP d f x) (m:Mem) (hf:m.floor≤m.stk.length+1):
  Okv tab zL [y,.agg [.int .u8 x.op,.int .i64 x.a,.int .i64 x.b,.int .i64 x.c]] m (.bool (typP d f x)):=by
 have h:=z99 hx
 by_cases h1:x.op≤11
 ·exact z7j d hd f y hy hs x hx hN (by omega) m hf
 by_cases h2:x.op≤20
 ·exact z7i d hd f y hy hs x hx hN (by omega) m hf
 by_cases h3:x.op≤27
 ·exact z7h d hd f y hy hs x hx hN (by omega) m hf
 ·exact z7g d hd f y hy hs x hx hN (by omega) m hf
def r0:DRun:=⟨0,0⟩
def runAt (l:List DRun) (j:Nat):DRun:=l.getD j r0
theorem z1B {l:List DRun} {j:Nat} (h:j<l.length):l[j]=runAt l j:=by simp[runAt,w02,h]
def stepOk (l:List DRun) (n:Int) (j:Nat):Prop:=(runAt l j).frm<n∧(0<j→(runAt l (j-1)).frm<(runAt l j).frm∧(runAt l (j-1)).value≠(runAt l j).value)
def FineR (l:List DRun) (n:Int):Prop:=0<l.length∧(runAt l 0).frm=0∧ ∀j,j<l.length→stepOk l n j
theorem IsSl.run {l:List DRun} {x:AV} (hx:IsSl IsRun 2 l x) {j:Nat} (h:j<l.length):nth x j= .agg [.int .i64 (runAt l j).frm,.int .u64 (runAt l j).value]:=by
 have:=hx.nth h
 rw[z1B h] at this
 exact this
theorem at0 {α:Type} {R:α→AV→Prop} {s:Nat} {xs:List α} {y:AV} (h:IsSl R s xs y) (hi:0<xs.length):evIaddr s y (.int .i64 0)=some (.ro (nth y 0).cells):=h.at .i64 hi
theorem z7a {α:Type} {R:α→AV→Prop} {s:Nat} {xs:List α} {y:AV} (h:IsSl R s xs y) {i:Nat} (h0:0<i) (hi:i-1<xs.length):evIaddr s y (.int .i64 ((i:Int)-1))=some (.ro (nth y (i-1)).cells):=by
 have:=h.at .i64 hi
 rwa [show((i-1:Nat):Int)=(i:Int)-1 by omega] at this
theorem VO (l:List DRun) (x:AV) (hx:IsSl IsRun 2 l x) (n:Int) (m:Mem):Okv tab xE [x,.int .i64 n] m (.bool (pb (FineR l n))):=by
 refine zh XV ?_
 obtain⟨stk,cur,nx,live,fl⟩:=m
 simp only[uz,List.map,go_sem,reduceCtorEq,G3,G0,G2,hx.len]
 by_cases h0:0<l.length
 case neg=>
  have h0':(l.length:Int)<1:=by omega
  simp only[go_sem,reduceCtorEq,G0,G2,h0']
  rw[z6 rfl rfl,z8]
  exact⟨⟨_,rfl⟩,by rw[ze fun h=>h0 h.1]⟩
 have h0': ¬(l.length:Int)<1:=by omega
 by_cases hz:(runAt l 0).frm=0
 case neg=>
  have hz':((runAt l 0).frm !=0)=true:=by simpa using hz
  simp only[go_sem,reduceCtorEq,G0,G2,h0',at0 hx h0,IsSl.run hx h0,hz']
  rw[z6 rfl rfl,z8]
  exact⟨⟨_,rfl⟩,by rw[ze fun h=>hz h.2.1]⟩
 have hz':((runAt l 0).frm !=0)=false:=by simpa using hz
 simp only[go_sem,reduceCtorEq,G0,G2,h0',at0 hx h0,IsSl.run hx h0,hz']
 refine zc (α:=Nat) (fun i σ=>(i≤l.length∧ ∀j,j<i→stepOk l n j)∧ ∃nz,heads [0,1,5] 0 σ=⟨tmps 61 [(0,x),(1,.int .i64 n),(5,.int .i64 i)],⟨stk++[cur],[],nz,[]::live,fl⟩⟩) (fun i=>l.length-i) 0 ?_ ?_
 ·refine⟨⟨w0c _,fun j h=>absurd h (w4f _)⟩,?_⟩
  simp only[go_sem,reduceCtorEq,G0,G1]
  exact⟨_,rfl⟩
 ·rintro i σ ⟨⟨hi,ht⟩,nz,hσ⟩
  rw[hσ]
  clear hσ σ
  dsimp only at hi ht⊢
  by_cases h:i<l.length
  ·have e1:=IsSl.run hx h
   have hat:=hx.at .i64 h
   have bad: ¬stepOk l n i→pb (FineR l n)=false:=fun hb=>ze fun h'=>hb (h'.2.2 i h)
   have hsucc:=zb h hx.max
   have hmx:=hx.max
   have next:stepOk l n i→ ∀j,j<i+1→stepOk l n j:=fun hs j hj=>by
    rcases Nat.lt_succ_iff_lt_or_eq.1 hj with q|q
    ·exact ht j q
    ·exact q▸hs
   simp only[go_sem,reduceCtorEq,G0,G1,G2,w03,h,hx.len,hat,e1]
   by_cases hn:(runAt l i).frm<n
   case neg=>
    have hn':(runAt l i).frm≥n:=by omega
    simp only[go_sem,reduceCtorEq,G0,G2,hn']
    rw[z6 rfl rfl,z8]
    exact⟨⟨_,rfl⟩,by rw[bad fun h'=>hn h'.1]⟩
   have hn': ¬(runAt l i).frm≥n:=by omega
   by_cases hp:0<i
   case neg=>
    have hp': ¬((i:Int)>0):=by omega
    simp only[go_sem,reduceCtorEq,G0,G2,hn',hp',hsucc]
    exact⟨i+1,by omega,⟨h,next ⟨hn,fun h'=>absurd h' hp⟩⟩,_,rfl⟩
   have hp':(i:Int)>0:=by omega
   have hsub:IntKind.i64.wrap ((i:Int)-1)=(i:Int)-1:=zd (by omega) (by omega)
   have e2:=IsSl.run hx (show i-1<l.length by omega)
   have hat2:=z7a hx hp (show i-1<l.length by omega)
   by_cases hq:(runAt l (i-1)).frm≥(runAt l i).frm
   ·simp only[go_sem,reduceCtorEq,G0,G2,hn',hp',hsub,hat,e1,hat2,e2,hq]
    rw[z6 rfl rfl,z8]
    exact⟨⟨_,rfl⟩,by rw[bad fun h'=>by have:=(h'.2 hp).1;omega]⟩
   ·by_cases hv:(runAt l (i-1)).value=(runAt l i).value
    ·have hv':((runAt l (i-1)).value==(runAt l i).value)=true:=by simpa using hv
     simp only[go_sem,reduceCtorEq,G0,G2,hn',hp',hsub,hat,e1,hat2,e2,hq,hv']
     rw[z6 rfl rfl,z8]
     exact⟨⟨_,rfl⟩,by rw[bad fun h'=>(h'.2 hp).2 hv]⟩
    ·have hv':((runAt l (i-1)).value==(runAt l i).value)=false:=by simpa using hv
     simp only[go_sem,reduceCtorEq,G0,G2,hn',hp',hsub,hat,e1,hat2,e2,hq,hv',hsucc]
     exact⟨i+1,by omega,⟨h,next ⟨hn,fun _=>⟨by omega,hv⟩⟩⟩,_,rfl⟩
  ·have:i=l.length:=by omega
   subst this
   simp only[go_sem,reduceCtorEq,G0,G1,G2,w03,h,hx.len]
   rw[z6 rfl rfl,z8]
   exact⟨⟨_,rfl⟩,by rw[zB ⟨h0,hz,ht⟩]⟩
noncomputable def err08 (l:List DRun) (n:Int):Int:=if n<1∨n>200 then 2 else if pb (FineR l n) then 0 else 8
theorem z1r (n:Int) (m:Mem):Okv tab uV [.int .i64 n] m (.int .i64 (if n<1∨n>200 then 2 else 0)):=by
 refine zh Uy ?_
 obtain⟨stk,cur,nx,live,fl⟩:=m
 simp only[qx,List.map,go_sem,reduceCtorEq,G0,G2]
 repeat' (((first|refine zD ?_ ?_|refine zq ?_ ?_|refine zr ?_ ?_|refine zo ?_ ?_|refine zp ?_ ?_)<;>intro hq)<;>simp only[go_sem,reduceCtorEq,G0,G2,hq])
 all_goals
  rw[z6 rfl rfl,z8]
  refine⟨⟨_,rfl⟩,?_⟩
  simp only[decide_eq_true_eq,decide_eq_false_iff_not] at*
  simp[*]
theorem IsSl.from1 {α:Type} {R:α→AV→Prop} {s:Nat} {xs:List α} {y:AV} (h:IsSl R s xs y) (h0:0<xs.length): ∃y',evSlice s y (some (.int .i64 1)) none none=some y'∧IsSl R s (xs.drop 1) y':=by
 rcases h with⟨hm,⟨rfl,rfl⟩|⟨tk,ys,rfl,h⟩⟩
 ·simp at h0
 ·have hl:=h.len
  have hb:bound (some (.int .i64 1)) ys.length 0=some 1:=by
   unfold bound;simp only;rw[if_pos (by omega)];rfl
  have e:evSlice s (.list s tk ys) (some (.int .i64 1)) none none=some (.list s (if ys.length==ys.length&&(1==0||decide (1<ys.length)) then tk else .none) ((ys.take ys.length).drop 1)):=by
   unfold evSlice
   simp only[beq_self_eq_true,if_true]
   rw[show bound none ys.length ys.length=some ys.length from rfl,w29,hb]
   simp
  refine⟨_,e,?_⟩
  rw[w0a]
  exact .mk (h.drop 1) (by rw[w51];omega)
theorem z1W {l:List DRun} {n:Int} (h0:0<l.length) (hl:(runAt l (l.length-1)).frm<n) (hs: ∀j,0<j→j<l.length→(runAt l (j-1)).frm<(runAt l j).frm): ∀k,k<l.length→(runAt l (l.length-1-k)).frm<n
 |0,_=>by simpa using hl
 |k+1,hk=>by
  have ih:=z1W h0 hl hs k (by omega)
  have:=hs (l.length-1-k) (by omega) (by omega)
  rw[show l.length-1-k-1=l.length-1-(k+1) by omega] at this
  omega
theorem z0D (l:List DRun) (x:AV) (hx:IsSl IsRun 2 l x) (n:Int) (m:Mem):Okv tab Zi [x,.int .i64 n] m (.bool (pb (FineR l n))):=by
 refine zh z0O ?_
 obtain⟨stk,cur,nx,live,fl⟩:=m
 have hmx:=hx.max
 simp only[Z8,List.map,go_sem,reduceCtorEq,G3,G0,G2,hx.len]
 by_cases h0:0<l.length
 case neg=>
  have h0':((l.length:Int)==0)=true:=beq_iff_eq.2 (by omega)
  simp only[go_sem,reduceCtorEq,G0,G2,h0']
  rw[z6 rfl rfl,z8]
  exact⟨⟨_,rfl⟩,by rw[ze fun h=>h0 h.1]⟩
 have h0':((l.length:Int)==0)=false:=beq_eq_false_iff_ne.2 (by omega)
 by_cases hz:(runAt l 0).frm=0
 case neg=>
  have hz':((runAt l 0).frm !=0)=true:=by simpa using hz
  simp only[go_sem,reduceCtorEq,G0,G2,h0',at0 hx h0,IsSl.run hx h0,hz']
  rw[z6 rfl rfl,z8]
  exact⟨⟨_,rfl⟩,by rw[ze fun h=>hz h.2.1]⟩
 have hz':((runAt l 0).frm !=0)=false:=by simpa using hz
 have hsub:IntKind.i64.wrap ((l.length:Int)-1)=(l.length:Int)-1:=zd (by omega) (by omega)
 have hlast:=z7a hx h0 (show l.length-1<l.length by omega)
 have elast:=IsSl.run hx (show l.length-1<l.length by omega)
 by_cases hn:(runAt l (l.length-1)).frm<n
 case neg=>
  have hn':(runAt l (l.length-1)).frm≥n:=by omega
  simp only[go_sem,reduceCtorEq,G0,G2,h0',at0 hx h0,IsSl.run hx h0,hz',hx.len,hsub,hlast,elast,hn']
  rw[z6 rfl rfl,z8]
  exact⟨⟨_,rfl⟩,by rw[ze fun h=>hn (h.2.2 _ (by omega)).1]⟩
 have hn': ¬(runAt l (l.length-1)).frm≥n:=by omega
 obtain⟨y,hy,hys⟩:=IsSl.from1 hx h0
 have hyl:=hys.len
 rw[w51] at hyl
 simp only[go_sem,reduceCtorEq,G3,G0,G2,h0',at0 hx h0,IsSl.run hx h0,hz',hx.len,hsub,hlast,elast,hn',hy,hyl]
 refine zc (α:=Nat) (fun i σ=>(i+1≤l.length∧ ∀j,0<j→j≤i→(runAt l (j-1)).frm<(runAt l j).frm∧(runAt l (j-1)).value≠(runAt l j).value)∧ ∃nz,heads [5,33,34,35] 1 σ=⟨tmps 55 [(5,.ptr (stk++[cur]).length 0 nx 0),(33,y),(34,.int .i64 (l.length-1:Nat)),(35,.int .i64 i)],⟨stk++[cur],[⟨nx,[.int .i64 (runAt l i).frm,.int .u64 (runAt l i).value]⟩],nz,[]::live,fl⟩⟩) (fun i=>l.length-i) 0 ?_ ?_
 ·refine⟨⟨h0,fun j h h'=>absurd h (by omega)⟩,?_⟩
  simp only[go_sem,reduceCtorEq,G0,G1]
  exact⟨_,rfl⟩
 ·rintro i σ ⟨⟨hi,ht⟩,nz,hσ⟩
  rw[hσ]
  clear hσ σ
  dsimp only at hi ht⊢
  by_cases h:i<l.length-1
  ·have hd:i<(l.drop 1).length:=by rw[w51];exact h
   have e1:nth y i= .agg [.int .i64 (runAt l (i+1)).frm,.int .u64 (runAt l (i+1)).value]:=by
    have:=IsSl.run hys hd
    rw[this]
    have:runAt (l.drop 1) i=runAt l (i+1):=by simp[runAt,w02]
    rw[this]
   have hat:=hys.at .i64 hd
   have hsucc:=zb hd hys.max
   have bad: ¬((runAt l i).frm<(runAt l (i+1)).frm∧(runAt l i).value≠(runAt l (i+1)).value)→pb (FineR l n)=false:=fun hb=>ze fun h'=>hb (by have:=(h'.2.2 (i+1) (by omega)).2 (by omega);simpa using this)
   simp only[go_sem,G3,G0,G1,G2,w03,h,hat,e1]
   by_cases hq:(runAt l (i+1)).frm≤(runAt l i).frm
   ·simp only[go_sem,G0,G2,hq]
    rw[z6 rfl rfl,z8]
    exact⟨⟨_,rfl⟩,by rw[bad fun h'=>by omega]⟩
   ·by_cases hv:(runAt l (i+1)).value=(runAt l i).value
    ·have hv':((runAt l (i+1)).value==(runAt l i).value)=true:=by simpa using hv
     simp only[go_sem,G3,G0,G4,G2,hq,evBuild,eqAt,eqCell,hv']
     rw[z6 rfl rfl,z8]
     exact⟨⟨_,rfl⟩,by rw[bad fun h'=>h'.2 hv.symm]⟩
    ·have hv':((runAt l (i+1)).value==(runAt l i).value)=false:=by simpa using hv
     simp only[go_sem,G3,G0,G4,G2,hq,evBuild,eqAt,eqCell,hv',hsucc]
     refine⟨i+1,by omega,⟨by omega,fun j hj hji=> ?_⟩,_,rfl⟩
     rcases Nat.lt_or_eq_of_le hji with q|q
     ·exact ht j hj (by omega)
     ·subst q;exact⟨by simpa using (by omega:(runAt l i).frm<(runAt l (i+1)).frm),fun e=>hv (by simpa using e.symm)⟩
  ·have hil:i=l.length-1:=by omega
   simp only[go_sem,G0,G1,G2,w03,h]
   rw[z6 rfl rfl,z8]
   refine⟨⟨_,rfl⟩,by rw[zB ⟨h0,hz,fun j hj=>⟨?_,fun hp=>ht j hp (by omega)⟩⟩]⟩
   have:=z1W h0 hn (fun j hp hj=>(ht j hp (by omega)).1) (l.length-1-j) (by omega)
   rwa [show l.length-1-(l.length-1-j)=j by omega] at this
theorem ju (l:List DRun) (x:AV) (hx:IsSl IsRun 2 l x) (n:Int) (m:Mem):Okv tab uO [x,.int .i64 n] m (.int .i64 (err08 l n)):=by
 refine zh Qb ?_
 obtain⟨stk,cur,nx,live,fl⟩:=m
 have hF:=fun m=>(z0D l x hx n m).eq
 have hC:=fun m=>(z1r n m).eq
 simp only[jO,List.map,go_sem,reduceCtorEq,G3,G0,G2,hC]
 by_cases hn:n<1∨n>200
 ·simp only[go_sem,reduceCtorEq,G0,G2,hn,show((2:Int) !=0)=true from rfl]
  rw[z6 rfl rfl,z8]
  exact⟨⟨_,rfl⟩,by unfold err08;rw[if_pos hn]⟩
 ·simp only[go_sem,reduceCtorEq,G0,G2,hn,show((0:Int) !=0)=false from rfl,hF]
  cases hp:pb (FineR l n)
  ·simp only[go_sem,reduceCtorEq,G0,G2]
   rw[z6 rfl rfl,z8]
   exact⟨⟨_,rfl⟩,by unfold err08;rw[if_neg hn,hp];rfl⟩
  ·simp only[go_sem,reduceCtorEq,G0,G2]
   rw[z6 rfl rfl,z8]
   exact⟨⟨_,rfl⟩,by unfold err08;rw[if_neg hn,hp];rfl⟩
def rns (v:List Nat):Nat→List DRun
 |0=>[]
 |k+1=>if k=0∨v.getD k 0≠v.getD (k-1) 0 then rns v k++[⟨k,(v.getD k 0:Nat)⟩] else rns v k
theorem TM (v:List Nat): ∀k,(rns v k).length≤k
 |0=>by simp[rns]
 |k+1=>by
  have:=TM v k
  unfold rns
  split<;>simp<;>omega
def madeR (v:List Nat):List DRun:=rns v v.length
theorem zaf (a b:Int):All2 IsRun [⟨a,b⟩] [.agg [.int .i64 a,.int .u64 b]]:=⟨rfl,trivial⟩
theorem z8K (v:List Nat) (hv:1≤v.length∧v.length≤200) (m:Mem) (L j st:Nat) (hL:L≤m.stk.length) (hb:m.blk L j st=some (us v)):Okp IsRun 2 tab qK [.arr L j st 0 v.length] m (madeR v) 0:=by
 refine z2T z0P ?_
 obtain⟨stk,cur,nx,live,fl⟩:=m
 have hrow:=tX hb hL
 have hne:(L==(stk++[cur]).length)=false:=by simp at hL⊢;omega
 have hidx: ∀k,k<v.length→idx (.int .i64 (k:Nat)) v.length=some k:=fun k h=>zS .i64 k _ h
 have hC:=fun m=>(z1r (v.length:Nat) m).eq
 rw[if_neg (by omega)] at hC
 simp only[Z9,List.map,go_sem,reduceCtorEq,G0,G2,evLen,hC,show((0:Int) !=0)=false from rfl]
 refine zc (α:=Nat) (fun k σ=>k≤v.length∧ ∃nz y e,Own IsRun 2 y (rns v k) e∧heads [0,5,14,15] 0 σ=⟨tmps 43 [(0,.arr L j st 0 v.length),(5,y),(14,.int .i64 v.length),(15,.int .i64 k)],⟨stk++[cur],[],nz,e::live,fl⟩⟩) (fun k=>v.length-k) 0 ?_ ?_
 ·refine⟨w0c _,?_⟩
  simp only[go_sem,reduceCtorEq,G0,G1]
  exact⟨_,_,[],.nil _,rfl⟩
 ·rintro k σ ⟨hk,nz,y,e,ho,hσ⟩
  rw[hσ]
  clear hσ σ
  dsimp only at hk⊢
  have hrl:=TM v k
  by_cases h:k<v.length
  ·have hsucc:IntKind.i64.wrap ((k:Int)+1)=((k+1:Nat):Int):=by rw[zd (by omega) (by omega)];omega
   have hgk:=XN h
   have hik:=hidx k h
   by_cases h0:k=0
   ·subst h0
    rw[w24] at hgk
    have hr:rns v 1=[]++[⟨(0:Nat),(v.getD 0 0:Nat)⟩]:=by simp[rns]
    simp only[go_sem,reduceCtorEq,G3,G0,G4,G1,G2,w03,h,show(((0:Nat):Int)>0)=False from eq_false (by decide),zf,hik,w19,hne,hrow,hgk,evBuild]
    refine ho.xv (bytes:=16) (zi · 2 .full [.agg [.int .i64 ((0:Nat):Int),.int .u64 ((v.getD 0 0:Nat):Int)]]) (zaf _ _) (by simp only[w25];omega) fun y' n' e' ho'=> ?_
    simp only[go_sem,reduceCtorEq,G0,G2,hsucc]
    exact⟨1,by omega,h,n',y',e',by rw[hr];exact ho',rfl⟩
   ·have hk1:k-1<v.length:=by omega
    have hgk1:=XN hk1
    have hik1:=hidx (k-1) hk1
    have hsub:IntKind.i64.wrap ((k:Int)-1)=((k-1:Nat):Int):=by rw[zd (by omega) (by omega)];omega
    by_cases he:v.getD k 0=v.getD (k-1) 0
    ·have hr:rns v (k+1)=rns v k:=by rw[rns,if_neg fun q=>q.elim h0 (fun q=>q he)]
     have hbq:(((v.getD k 0:Nat):Int)==((v.getD (k-1) 0:Nat):Int))=true:=by rw[he];simp
     simp only[go_sem,reduceCtorEq,G0,G1,G2,w03,h,show((k:Int)>0)=True from eq_true (by omega),zf,hik,hik1,w19,hne,hrow,hgk,hsub,hgk1,hbq,hsucc]
     exact⟨k+1,by omega,h,nz,y,e,by rw[hr];exact ho,rfl⟩
    ·have hr:rns v (k+1)=rns v k++[⟨k,(v.getD k 0:Nat)⟩]:=by rw[rns,if_pos (Or.inr he)]
     have hbq:(((v.getD k 0:Nat):Int)==((v.getD (k-1) 0:Nat):Int))=false:=by rw[beq_eq_false_iff_ne,ne_eq,Int.ofNat_inj];exact he
     simp only[go_sem,reduceCtorEq,G3,G0,G4,G1,G2,w03,h,show((k:Int)>0)=True from eq_true (by omega),zf,hik,hik1,w19,hne,hrow,hgk,hsub,hgk1,hbq,evBuild]
     refine ho.xv (zi · 2 .full [.agg [.int .i64 (k:Int),.int .u64 ((v.getD k 0:Nat):Int)]]) (zaf _ _) (by simp only[w25];omega) fun y' n' e' ho'=> ?_
     simp only[go_sem,reduceCtorEq,G0,G2,hsucc]
     exact⟨k+1,by omega,h,n',y',e',by rw[hr];exact ho',rfl⟩
  ·have:k=v.length:=by omega
   subst this
   simp only[go_sem,reduceCtorEq,G0,G1,G2,w03,h]
   exact ZI ho
def Wm (l:List DInstr) (i:Nat):Nat:=if i<l.length then maskN (wrs (inA l i)) else 0
theorem z57 {l:List DInstr} (hc:CodeP l) (i:Nat):Wm l i<65536:=by
 unfold Wm
 split
 ·rename_i h;exact QN (z36 (hc.at h).1 (hc.at h).2.1) (w0b _)
 ·omega
def wsA (l:List DInstr) (k:Nat):List Nat:=(List.range l.length).map fun j=>if j<k then Wm l j else 0
theorem VL (l:List DInstr) (k:Nat):(wsA l k).length=l.length:=by simp[wsA]
theorem z6C {l:List DInstr} {k j:Nat} (h:j<l.length):(wsA l k).getD j 0=if j<k then Wm l j else 0:=by
 simp[wsA,w02,h]
theorem z8z (l:List DInstr):wsA l 0=List.replicate l.length 0:=by
 apply w2b
 intro j
 simp only[wsA,w17,w38]
 by_cases h:j<l.length
 ·simp[h]
 ·rw[w16 (by simpa using h),if_neg h];rfl
theorem zav {l:List DInstr} {k:Nat} (h:k<l.length):(wsA l k).set k (Wm l k)=wsA l (k+1):=by
 apply w2b
 intro j
 rw[w2c]
 simp only[wsA,w4e,List.length_range,w17]
 by_cases e:k=j
 ·subst e;simp[h]
 ·rw[if_neg e]
  by_cases hj:j<l.length
  ·simp only[w3c hj,w0d,Option.some.injEq]
   by_cases q:j<k
   ·rw[if_pos q,if_pos (by omega)]
   ·rw[if_neg q,if_neg (by omega)]
  ·rw[w16 (by simpa using hj)];rfl
def CM (a0 a1 a2 a3 a4 a5 a6 L n:Nat) (pr:Int) (ws:List Nat) (s:MS):List Blk:=
 [⟨a0,[.int .i64 pr]⟩,⟨a1,us ws⟩,⟨a2,[.arr L 1 a1 0 n]⟩,⟨a3,[.arr L 5 a5 0 n]⟩,⟨a4,[.arr L 6 a6 0 n]⟩,⟨a5,us s.2⟩,⟨a6,bools s.1⟩]
def PM (n:Nat) (s:MS) (k:Nat) (fr:Option Nat):Prop:=s.1.length=n∧s.2.length=n∧k<n∧(∀i,fr=some i→i<n)∧ ∀j,s.2.getD j 0<65536
theorem z8J (S:List (List Blk)) (a0 a1 a2 a3 a4 a5 a6 n fl:Nat) (pr:Int) (hpr:0≤pr∧pr≤16) (ws:List Nat) (hws:ws.length=n) (hw16: ∀j,ws.getD j 0<65536) (hfl:fl≤S.length):
  Meets S (CM a0 a1 a2 a3 a4 a5 a6 S.length n pr ws) (.fn (.func qj) [] [.ptr S.length 0 a0 0,.ptr S.length 4 a4 0,.ptr S.length 3 a3 0,.ptr S.length 2 a2 0]) fl (PM n) (updM (fun i=>ws.getD i 0) (2^pr.toNat-1)):=by
 refine⟨_,_,_,rfl,?_⟩
 rintro s k fr c nz lv ⟨hs1,hs2,hk,hfr,hbits⟩
 suffices h:Does tab qj [.int .i64 (k:Nat),.int .i64 (frm fr),.ptr S.length 0 a0 0,.ptr S.length 4 a4 0,.ptr S.length 3 a3 0,.ptr S.length 2 a2 0] ⟨S++[CM a0 a1 a2 a3 a4 a5 a6 S.length n pr ws s],c,nz,lv,fl⟩ fun v m'=> ∃nz',v= .bool (updM (fun i=>ws.getD i 0) (2^pr.toNat-1) s k fr).2∧m'=⟨S++[CM a0 a1 a2 a3 a4 a5 a6 S.length n pr ws (updM (fun i=>ws.getD i 0) (2^pr.toNat-1) s k fr).1],c,nz',lv,fl⟩ by
  obtain⟨z,h1,n',h2,h3⟩:=h
  exact⟨n',by rw[←h2,←h3];exact h1⟩
 refine zV Qi ?_ (Nat.le_of_ble_eq_true rfl)
 obtain⟨met,out⟩:=s
 dsimp only at hs1 hs2 hbits
 have hix:idx (.int .i64 (k:Int)) n=some k:=zS .i64 k n hk
 have hst1:=ZL (s:=met) (j:=k) true (by omega)
 have hbl1:k+1≤(bools met).length:=by rw[ZM];omega
 have hbl2:k+1≤(us out).length:=by rw[z2w];omega
 have hst2:=fun v=>z2v (s:=out) (j:=k) v (by omega)
 have hgk:=XN (s:=out) (j:=k) (by omega)
 have hgm:=V0 (s:=met) (j:=k) (by omega)
 cases fr with
 |none=>
  have hp:2^pr.toNat≤65536:=Nat.pow_le_pow_right (by decide) (show pr.toNat≤16 by omega)
  have h1:1≤2^pr.toNat:=Nat.one_le_two_pow
  have hw:IntKind.u64.wrap (((2^pr.toNat:Nat):Int)-1)=((2^pr.toNat-1:Nat):Int):=by
   generalize 2^pr.toNat=p at*
   rw[zM (by omega) (by omega)];omega
  simp only[qe,List.map,go_sem,reduceCtorEq,G3,G0,G4,G2,frm,show((-1:Int)<0)=True from eq_true (by decide),Ws,ZH,CM,z9V hpr,hw,zf,hix,w19,hfl,hbl1,hst1,hbl2,hst2,WW,Zs,G7,List.all_cons,List.all_nil,bne_self_eq_false]
  rw[yK rfl rfl,z8]
  exact⟨_,rfl,rfl⟩
 |some i=>
  have hi:=hfr i rfl
  have hixi:idx (.int .i64 (i:Int)) n=some i:=zS .i64 i n hi
  have hgi:=XN (s:=out) (j:=i) (by omega)
  have hgw:=XN (s:=ws) (j:=i) (by omega)
  have hor:=z9W (hbits i) (hw16 i)
  have hand:=z9Y (b:=out.getD i 0|||ws.getD i 0) (hbits k) (z35 (hbits i) (hw16 i))
  simp only[qe,List.map,go_sem,reduceCtorEq,G3,G0,G2,frm,show((i:Int)<0)=False from eq_false (by omega),Ws,ZH,CM,zf,hix,hixi,w19,hgi,hgw,hor,hgm]
  cases hm:met.getD k false
  ·simp only[go_sem,reduceCtorEq,G0,G4,G2,Ws,ZH,zf,hix,w19,hfl,hbl1,hst1,hbl2,hst2,WW,Zs,G7,List.all_nil,bne_self_eq_false]
   rw[yK rfl rfl,z8]
   refine⟨nz,?_,?_⟩
   ·unfold updM;dsimp only;rw[hm];rfl
   ·unfold updM;dsimp only;rw[hm];rfl
  ·have hgk2:=XN (s:=out.set k (out.getD k 0&&&(out.getD i 0|||ws.getD i 0))) (j:=k) (by simp;omega)
   rw[Vs.getD_set_eq (by omega)] at hgk2
   simp only[go_sem,reduceCtorEq,G0,G2,Ws,ZH,zf,hix,w19,hgk,hand,hfl,hbl2,hst2,WW,Zs,hgk2]
   rw[yK rfl rfl,z8]
   refine⟨nz,?_,?_⟩
   ·unfold updM;dsimp only;rw[hm]
    simp only[if_true]
    congr 1
    rw[Bool.eq_iff_iff,bne_iff_ne,bne_iff_ne,ne_eq,ne_eq,Int.ofNat_inj]
   ·unfold updM;dsimp only;rw[hm];rfl
def Near16 (l:List DInstr) (n:Int):Prop:= ∀i,i<l.length→(∀s∈rds (inA l i),s<n)∧ ∀s∈wrs (inA l i),s<n
theorem z8U {a n:Nat} (h:a<2^n):a>>>n=0:=by rw[Nat.shiftRight_eq_div_pow,Nat.div_eq_of_lt h]
theorem zaJ (l:List DInstr) (x:AV) (hx:IsSl IsInstr 4 l x) (hc:CodeP l) (h7:Ok07 l) (pr sl:Int) (hp:0≤pr∧pr≤sl∧sl≤16) (hn:Near16 l sl) (m:Mem) (hf:m.floor≤m.stk.length+1):
  CallArr Yx [x,.int .i64 pr,.int .i64 sl] l.length (fun cs=> ∃o:List Nat,cs=us o∧o.length=l.length∧ ∀i,i<l.length→o.getD i 0=if i=l.length-1 then 0 else mskOf (nxt l) (Wm l) (2^pr.toNat-1) i) (fun y=> .tup [y,.int .i64 0]) m:=by
 refine z0s z2C ?_
 obtain⟨stk,cur,nx,live,fl⟩:=m
 dsimp only at hf
 have hf':fl≤(stk++[cur]).length+1:=by simp;omega
 have hfl:fl≤(stk++[cur]).length:=by simp;omega
 have hln:=hc.len
 have hmx:=hx.max
 have hC:=fun c nz=>(jc l x hx hc ⟨stk++[cur],c,nz,[]::live,fl⟩ hf').eq
 rw[Ug h7] at hC
 simp only[Yt,List.map,go_sem,reduceCtorEq,G3,G0,G2,hC,show((0:Int) !=0)=false from rfl,show¬(sl<0) by omega,show¬(sl>16) by omega,show¬(pr<0) by omega,show¬(pr>sl) by omega,hx.len,tD (s:=1) (bytes:=8) (n:=l.length) (z:=[.int .u64 0]) (by omega) (by omega) rfl,z5o]
 generalize callNx tab xG _ _=nz
 refine zc (α:=Nat) (fun k σ=>k≤l.length∧ ∃nz' e,heads [0,2,4,9,40,41,42] 3 σ=⟨tmps 87 [(0,x),(2,.int .i64 sl),(4,.ptr (stk++[cur]).length 0 nx 0),(9,.ptr (stk++[cur]).length 2 (nz+1) 0),(40,x),(41,.int .i64 l.length),(42,.int .i64 k)],⟨stk++[cur],[⟨nx,[.int .i64 pr]⟩,⟨nz,us (wsA l k)⟩,⟨nz+1,[.arr (stk++[cur]).length 1 nz 0 l.length]⟩],nz',e::live,fl⟩⟩) (fun k=>l.length-k) 0 ?_ ?_
 ·refine⟨w0c _,?_⟩
  simp only[go_sem,reduceCtorEq,G0,G1,z8z]
  exact⟨_,_,rfl⟩
 ·rintro k σ ⟨hk,nz',e,hσ⟩
  rw[hσ]
  clear hσ σ
  dsimp only at hk⊢
  by_cases h:k<l.length
  ·obtain⟨c1,c2,c3⟩:=hc.at h
   have hsucc:=zb h hmx
   have hixk:idx (.int .i64 (k:Int)) l.length=some k:=zS .i64 k l.length h
   simp only[go_sem,reduceCtorEq,G3,G0,G1,G2,w03,h,hx.at _ h,hx.inA h]
   refine(z2q (inA l k) c2 c1 _ hf').xv fun r ts n1 ⟨y1,y2,hr,ho⟩=> ?_
   subst hr
   have hy1:=ho.l.sl (by have:=Qs (inA l k) 3;unfold rds;omega)
   have hy2:=ho.r.sl (by have:=TW (inA l k) 3;unfold wrs;omega)
   have m1:=fun m=>(z8E _ y1 hy1 (z37 c1 c2) m).eq
   have m2:=fun m=>(z8E _ y2 hy2 (z36 c1 c2) m).eq
   have hW:maskN (wrs (inA l k))=Wm l k:=by unfold Wm;rw[if_pos h]
   have hbl:k+1≤(us (wsA l k)).length:=by rw[z2w,VL];exact h
   have hst:=z2v (s:=wsA l k) (j:=k) (Wm l k) (by rw[VL];exact h)
   have hgw:=XN (s:=wsA l (k+1)) (j:=k) (by rw[VL];exact h)
   rw[z6C h,if_pos (Nat.lt_succ_self k)] at hgw
   rw[zav h] at hst
   have hor:=z9W (a:=maskN (rds (inA l k))) (QN (z37 c1 c2) (w0b _)) (z57 hc k)
   have hshr:=z9U (a:=maskN (rds (inA l k))|||Wm l k) (s:=sl) ⟨by omega,hp.2.2⟩
   have hlt:maskN (rds (inA l k))|||Wm l k<2^sl.toNat:=by
    refine Nat.or_lt_two_pow ?_ ?_
    ·exact U6 (fun s hs=>⟨(z37 c1 c2 s hs).1,by have:=(hn k h).1 s hs;omega⟩) _ (w0b _)
    ·rw[←hW];exact U6 (fun s hs=>⟨(z36 c1 c2 s hs).1,by have:=(hn k h).2 s hs;omega⟩) _ (w0b _)
   rw[z8U hlt] at hshr
   rw[hW] at m2
   cases ts with
   |nil=>
    simp only[go_sem,reduceCtorEq,G0,G2,show((0:Int) !=0)=false from rfl,m2,zf,hixk,w19,hbl,hst,hgw,m1,hor,hshr,show(((0:Nat):Int) !=0)=false from rfl,hsucc]
    exact⟨k+1,by omega,h,_,_,rfl⟩
   |cons t0 ts=>
    simp only[go_sem,reduceCtorEq,G0,G2,show((0:Int) !=0)=false from rfl,m2,zf,hixk,w19,hbl,hst,hgw,m1,hor,hshr,show(((0:Nat):Int) !=0)=false from rfl,hsucc]
    exact⟨k+1,by omega,h,_,_,rfl⟩
  ·have hke:k=l.length:=by omega
   subst hke
   simp only[go_sem,reduceCtorEq,G3,G0,G1,G2,w03,h,hx.len,tD (s:=1) (bytes:=8) (n:=l.length) (z:=[.int .u64 0]) (by omega) (by omega) rfl,z5o,tD (s:=1) (bytes:=1) (n:=l.length) (z:=[.bool false]) (by omega) (by omega) rfl,UV]
   have hnx:=fun i hi=>z5H hc h7 (i:=i) hi
   have hWeq:(fun i=>(wsA l l.length).getD i 0)=Wm l:=by
    funext i
    by_cases hi:i<l.length
    ·rw[z6C hi,if_pos hi]
    ·rw[w02,w16 (by rw[VL];omega)]
     unfold Wm;rw[if_neg hi];rfl
   have hp0:2^pr.toNat-1<65536:=by
    have:2^pr.toNat≤65536:=Nat.pow_le_pow_right (by decide) (show pr.toNat≤16 by omega)
    have h1:1≤2^pr.toNat:=Nat.one_le_two_pow
    omega
   have hM:=z8J (stk++[cur]) nx nz (nz+1) nz' (nz'+1) (nz'+1+1) (nz'+1+1+1) l.length fl pr ⟨hp.1,by omega⟩ (wsA l l.length) (VL _ _) (fun j=>by have:=congrFun hWeq j;rw[this];exact z57 hc j) hfl
   rw[hWeq] at hM
   obtain⟨s',n',hcall,hJ⟩:=z3z l x hx (fun j hj=>z3b (hc.at hj).1) (stk++[cur]) _ _ fl hfl _ _ hM (MJ (nxt l) l.length (Wm l) (2^pr.toNat-1)) (fun s op=>2*phi s.1 s.2+op.length)
    (List.replicate l.length false,List.replicate l.length 0) ⟨by simp,by simp,by omega,fun i h=>(by cases h),fun j=>by simp only[w02,w38];split<;>simp⟩
    (MJ.start (nxt l) l.length (Wm l) _ (by omega) hp0)
    (fun s op h=>by have:=h.b;have:l.length*65536≤200*65536:=Nat.mul_le_mul_right _ hln.2;omega) (fun s op h i hi=>(h.o i hi).1)
    (fun s op i h j hj=>by
     have hi:=(h.o i (by simp)).1
     have:=MK.all (nxt l) l.length (Wm l) _ (z57 hc) (h.pop (nxt l) l.length (Wm l) _) (ks:=(nxt l i).take j) (fun k hk=>⟨List.mem_of_mem_take hk,hnx i hi k (List.mem_of_mem_take hk)⟩)
     exact⟨this.r.l1,this.r.l2,hnx i hi _ (w07 hj),fun i' hi'=>by injection hi' with hi';omega,this.r.lt⟩)
    (fun s op i h=>h.next (nxt l) l.length (Wm l) _ (z57 hc) hnx) (nz'+1+1+1+1) (e::live)
   simp only[CM] at hcall
   have hsl:=hJ.r.l2
   have hsub:IntKind.i64.wrap ((l.length:Int)-1)=((l.length-1:Nat):Int):=by rw[zd (by omega) (by omega)];omega
   have hix:idx (.int .i64 ((l.length-1:Nat):Int)) l.length=some (l.length-1):=zS .i64 _ _ (by omega)
   have hst:=z2v (s:=s'.2) (j:=l.length-1) 0 (by omega)
   have hbl:l.length-1+1≤(us s'.2).length:=by rw[z2w];omega
   simp only[go_sem,reduceCtorEq,G0,G2,hcall,evLen,hsub,zf,hix,w19,hbl]
   have hst0:(us s'.2).take (l.length-1)++[.int .u64 0]++(us s'.2).drop (l.length-1+1)=us (s'.2.set (l.length-1) 0):=hst
   rw[hst0]
   refine z3g (w:=fun y=> .tup [y,.int .i64 0]) (.inr ⟨_,rfl,rfl,rfl,rfl⟩) (cs:=us (s'.2.set (l.length-1) 0)) rfl (z3W _ _ _ _) ⟨_,rfl,by simp[hsl],fun i hi=> ?_⟩
   by_cases ei:l.length-1=i
   ·subst ei
    rw[Vs.getD_set_eq (by omega),if_pos rfl]
   ·rw[Vs.getD_set_ne ei,hJ.done (nxt l) l.length (Wm l) _ i,if_neg fun q=>ei q.symm]
def rw' (stk:List (List Blk)) (cur:List Blk) (lv k st:Nat) (y:AV):List (List Blk):=(stk++[cur]).modify lv fun f=>f.set k ⟨st,[y]⟩
section
variable {stk : List (List Blk)} {cur : List Blk} {lv k st : Nat} {y y' : AV}
theorem yy:(rw' stk cur lv k st y).length=(stk++[cur]).length:=by simp[rw']
theorem Vx (h:lv≤stk.length) (hk:k<((stk++[cur]).getD lv []).length):((rw' stk cur lv k st y).getD lv [])[k]? =some ⟨st,[y]⟩:=by
 have hl:lv<(stk++[cur]).length:=by simp;omega
 unfold rw'
 simp only[w02,w34] at hk⊢
 rw[w10 hl] at hk⊢
 simp only[if_true,Option.map_eq_map,w0d,w2a] at hk⊢
 simp[hk]
theorem W6:(rw' stk cur lv k st y).modify lv (fun f=>f.set k ⟨st,[y']⟩)=rw' stk cur lv k st y':=by
 unfold rw'
 apply w2b
 intro j
 simp only[w34]
 cases (stk++[cur])[j]? with
 |none=>simp
 |some f=>
  by_cases e:lv=j
  ·simp[e,List.set_set]
  ·simp[e]
theorem z42 (h:((stk++[cur]).getD lv [])[k]? =some ⟨st,[y]⟩):stk++[cur]=rw' stk cur lv k st y:=by
 unfold rw'
 apply w2b
 intro j
 simp only[w34]
 by_cases e:lv=j
 ·subst e
  simp only[w02] at h
  cases hq:(stk++[cur])[lv]? with
  |none=>rfl
  |some f=>
   rw[hq] at h
   simp only[w2a] at h
   simp only[if_true,Option.map_eq_map,w0d,Option.some.injEq]
   apply w2b
   intro q
   rw[w2c]
   by_cases e2:k=q
   ·subst e2
    obtain⟨hkf,hke⟩:=w06.1 h
    simp[hkf,hke]
   ·simp[e2]
 ·simp[e]
def wrote (m:Mem) (lv k st:Nat) (y:AV) (n:Nat) (l:List (List Nat)):Mem:={m.put lv k st [y] with nx:=n,live:=l}
theorem xa {c:List Blk} {nx fl n:Nat} {live l:List (List Nat)} (h:lv≤stk.length):wrote ⟨rw' stk cur lv k st y,c,nx,live,fl⟩ lv k st y' n l=⟨rw' stk cur lv k st y',c,n,l,fl⟩:=by
 unfold wrote Mem.put
 rw[if_neg (by rw[yy];simp;omega)]
 simp only[W6]
theorem Zk {nx fl n:Nat} {live l:List (List Nat)}:wrote ⟨stk,cur,nx,live,fl⟩ stk.length k st y' n l=⟨stk,cur.set k ⟨st,[y']⟩,n,l,fl⟩:=by
 unfold wrote Mem.put
 rw[if_pos (by simp)]
theorem Wl {m0:Mem} {c':List Blk} {nx' fl':Nat} {own:List Nat} {live':List (List Nat)} {r:AV} (hlv:lv≤stk.length) (h1:r.refs (stk++[cur]).length=false) (h2:r.toks=[]) (nx:Nat) (live:List (List Nat)):
  leave m0 ⟨rw' stk cur lv k st y,c',nx',own::live',fl'⟩ r=some (r,wrote ⟨stk,cur,nx,live,m0.floor⟩ lv k st y nx' live'):=by
 unfold wrote
 by_cases e:lv=stk.length
 ·have:rw' stk cur lv k st y=stk++[cur.set k ⟨st,[y]⟩]:=by
   unfold rw';subst e
   rw[w47 (by simp)];simp
  rw[this,yK (by simpa using h1) h2]
  unfold Mem.put
  simp[e]
 ·have:rw' stk cur lv k st y=(stk.modify lv fun f=>f.set k ⟨st,[y]⟩)++[cur]:=by
   unfold rw'
   apply w2b
   intro j
   simp only[w34]
   by_cases hj:j<stk.length
   ·rw[w09 hj,w09 (by simpa using hj),w34]
   ·rw[w14 (by omega),w14 (by simp;omega),List.length_modify]
    cases [cur][j-stk.length]? with
    |none=>rfl
    |some z=>simp[show¬lv=j by omega]
  rw[this,yK (by simpa using h1) h2]
  unfold Mem.put
  simp[e]
end
theorem VW {S:List (List Blk)} {C:List Blk} {nx fl:Nat} {live:List (List Nat)} {lv k st:Nat} {cs:List AV} (h:Mem.blk ⟨S,C,nx,live,fl⟩ lv k st=some cs) (hlv:lv≤S.length):((S++[C]).getD lv [])[k]? =some ⟨st,cs⟩:=by
 unfold Mem.blk at h
 split at h
 ·rename_i b hb
  split at h
  ·rename_i e
   injection h with h
   have hb':b=⟨st,cs⟩:=by rw[←h,←eq_of_beq e]
   subst hb'
   unfold Mem.row at hb
   by_cases e:lv=S.length
   ·subst e;simpa using hb
   ·simp only at hb
    rw[if_neg (by simpa using e)] at hb
    simp only[w02] at hb⊢
    rw[w09 (by omega)];exact hb
  ·cases h
 ·cases h
theorem z3r {stk:List (List Blk)} {cur c:List Blk} {lv k st nx fl:Nat} {live:List (List Nat)} {y:AV} (hlv:lv≤stk.length) (hk:k<((stk++[cur]).getD lv []).length):Mem.blk ⟨rw' stk cur lv k st y,c,nx,live,fl⟩ lv k st=some [y]:=by
 unfold Mem.blk Mem.row
 simp only
 rw[if_neg (by rw[yy];simp;omega),Vx hlv hk]
 simp
theorem js {s bytes:Nat} {y z:AV} {zs:List AV} (hz: ∀m:Mem,m.elems s z=some zs) {nx:Nat} {live:List (List Nat)} {y':AV} {n:Nat} {live':List (List Nat)} (h:evApp ⟨[],[],nx,live,0⟩ s bytes y z=some (y',⟨[],[],n,live',0⟩)) (stk:List (List Blk)) (cur:List Blk) (fl:Nat):
  evApp ⟨stk,cur,nx,live,fl⟩ s bytes y z=some (y',⟨stk,cur,n,live',fl⟩):=by
 unfold evApp at h⊢
 rw[hz] at h⊢
 cases zs with
 |nil=>
  simp only at h⊢
  cases y<;>first|(cases h;done)|skip
  ·injection h with h;injection h with h1 h2;injection h2 with _ _ h3 h4 _;subst h1;subst h3;subst h4;rfl
  all_goals
   simp only at h⊢
   split at h
   ·rename_i hc
    rw[if_pos hc]
    injection h with h;injection h with h1 h2;injection h2 with _ _ h3 h4 _;subst h1;subst h3;subst h4;rfl
   ·cases h
 |cons a r=>
  simp only at h⊢
  cases y<;>first|(cases h;done)|skip
  ·simp only at h⊢
   split at h
   ·rename_i hc
    rw[if_pos hc]
    injection h with h;injection h with h1 h2;injection h2 with _ _ h3 h4 _;subst h1;subst h3;subst h4;rfl
   ·cases h
  ·rename_i s' tk xs
   simp only at h⊢
   split at h
   ·rename_i hc
    rw[if_pos hc]
    cases tk with
    |none=>cases h
    |full=>injection h with h;injection h with h1 h2;injection h2 with _ _ h3 h4 _;subst h1;subst h3;subst h4;rfl
    |id t=>
     simp only at h⊢
     split at h
     ·rename_i ht
      rw[if_pos ht]
      injection h with h;injection h with h1 h2;injection h2 with _ _ h3 h4 _;subst h1;subst h3;subst h4;rfl
     ·cases h
   ·cases h
  ·exfalso
   rename_i s' l k st len
   have:Mem.blk ⟨[],[],nx,live,0⟩ l k st=none:=by
    unfold Mem.blk Mem.row
    split<;>simp at*
   simp only[this] at h
   cases h
def WrL (i:Nat) (y:AV) (b:List UInt8) (live post:List (List Nat)):Prop:= ∃pre l,live=pre++l::post∧pre.length=i∧Own IsByte 1 y b l
theorem WrL.enter {i:Nat} {y:AV} {b:List UInt8} {live post:List (List Nat)} (h:WrL i y b live post):WrL (i+1) y b ([]::live) post:=by
 obtain⟨pre,l,rfl,h2,h3⟩:=h
 exact⟨[]::pre,l,rfl,by simp[h2],h3⟩
theorem WrL.push {i:Nat} {y:AV} {b:List UInt8} {live post:List (List Nat)} (ts:List Nat) (h:WrL i y b live post):WrL i y b (pushToks ts live) post:=by
 obtain⟨pre,l,rfl,h2,h3⟩:=h
 cases pre with
 |nil=>exact⟨[],ts++l,by rw[w48,yx];rfl,h2,h3.push ts⟩
 |cons o r=>exact⟨(ts++o)::r,l,by rw[w31,yx];rfl,h2,h3⟩
theorem WrL.tail {i:Nat} {y:AV} {b:List UInt8} {live post:List (List Nat)} (h:WrL (i+1) y b live post): ∃o l',live=o::l'∧WrL i y b l' post:=by
 obtain⟨pre,l,rfl,h2,h3⟩:=h
 match pre,h2 with
 |o::r,h2=>exact⟨o,r++l::post,rfl,r,l,rfl,by simpa using h2,h3⟩
theorem WrL.own {y:AV} {b:List UInt8} {live post:List (List Nat)} (h:WrL 0 y b live post): ∃e,live=e::post∧Own IsByte 1 y b e:=by
 obtain⟨pre,l,rfl,h2,h3⟩:=h
 match pre,h2 with
 | [],_=>exact⟨l,rfl,h3⟩
theorem T1 {t:Nat}: ∀{j:Nat} {pre:List (List Nat)} (l:List Nat) (post:List (List Nat)),pre.length=j→addAt t j (pre++l::post)=pre++(t::l)::post
 |0,[],l,post,_=>rfl
 |0,_::_,_,_,h=>by simp at h
 |j+1,[],_,_,h=>by simp at h
 |j+1,a::r,l,post,h=>by simp only[w31,addAt];rw[T1 l post (by simpa using h)]
theorem WrL.app {i:Nat} {y:AV} {b c:List UInt8} {live post:List (List Nat)} {z:AV} {zs:List AV} (h:WrL (i+1) y b live post) (hz: ∀m:Mem,m.elems 1 z=some zs) (hc:All2 IsByte c zs) (hl:b.length+c.length≤140737488355328) (nx:Nat):
  ∃y' n live' o l2,(∀stk cur fl,evApp ⟨stk,cur,nx,live,fl⟩ 1 1 y z=some (y',⟨stk,cur,n,live',fl⟩))∧y'.cells=[y']∧y'.one=true∧sink (i+1) y'.toks live'=o::l2∧WrL i y' (b++c) l2 post:=by
 obtain⟨pre,l,rfl,h2,h3⟩:=h
 have hnew: ∀(ys:List AV) (o:List Nat) (r:List (List Nat)) (l':List Nat),r.length=i→All2 IsByte (b++c) ys→
   ∃o2 l2,sink (i+1) (AV.list 1 (.id nx) ys).toks ((nx::o)::(r++l'::post))=o2::l2∧WrL i (.list 1 (.id nx) ys) (b++c) l2 post:=fun ys o r l' hr hq=>by
  simp only[AV.toks,sink,sink1,List.contains_cons,beq_self_eq_true,Bool.true_or,if_true,List.erase_cons_head,Nat.add_sub_cancel]
  exact⟨o,_,rfl,r,nx::l',T1 l' post hr,hr,.inr ⟨_,ys,rfl,hq,.inr ⟨nx,w1b,rfl⟩⟩⟩
 match pre,h2 with
 |o::r,h2=>
  have hr:r.length=i:=by simpa using h2
  have hfl:Own IsByte 1 y b ((o::r++l::post).flatten):=h3.mono fun t ht=>by
   simp only[w31,w40,List.flatten_append,w08]
   exact .inr (.inr (.inl ht))
  rcases Own.app (m:=⟨[],[],nx,o::r++l::post,0⟩) (bytes:=1) hfl (hz _) hc (by omega) with⟨hcs,e⟩|⟨ys,q,e⟩|⟨t,ys,q0,hy,ht,q,e⟩
  ·subst hcs
   rw[w20]
   rcases h3 with⟨rfl,rfl⟩|⟨tk,ys,rfl,hq,hk⟩
   ·exact⟨_,_,_,o,_,js hz e,rfl,rfl,rfl,r,l,rfl,hr,.inl ⟨rfl,rfl⟩⟩
   ·rcases hk with rfl|⟨t,ht,rfl⟩
    ·exact⟨_,_,_,o,_,js hz e,rfl,rfl,rfl,r,l,rfl,hr,.inr ⟨_,ys,rfl,hq,.inl rfl⟩⟩
    ·by_cases hto:o.contains t=true
     ·refine⟨_,_,_,o.erase t,addAt t i (r++l::post),js hz e,rfl,rfl,?_,r,t::l,T1 l post hr,hr,.inr ⟨_,ys,rfl,hq,.inr ⟨t,w1b,rfl⟩⟩⟩
      simp only[AV.toks,sink,sink1,w31,hto,if_true,Nat.add_sub_cancel]
     ·refine⟨_,_,_,o,r++l::post,js hz e,rfl,rfl,?_,r,l,rfl,hr,.inr ⟨_,ys,rfl,hq,.inr ⟨t,ht,rfl⟩⟩⟩
      simp only[AV.toks,sink,sink1,w31]
      rw[if_neg hto]
  ·obtain⟨o2,l2,hs,hw⟩:=hnew ys o r l hr q
   exact⟨_,_,_,o2,l2,js hz e,rfl,rfl,hs,hw⟩
  ·have htl:t∈l:=by
    rcases h3 with⟨rfl,_⟩|⟨tk,ys',e1,_,e2|⟨t',e3,e2⟩⟩
    ·cases hy
    ·rw[e1,e2] at hy;cases hy
    ·rw[e1,e2] at hy;injection hy with _ hy _;injection hy with hy;exact hy▸e3
   have hd:dropTok t (o::r++l::post)=dropTok t (o::r++[l])++post:=by
    have:=Wx (t:=t) (l:=o::r++[l]) (r:=post) (by simp only[List.flatten_append,w08];exact .inr (by simpa using htl))
    rw[←this];simp
   have hdl:(dropTok t (o::r++[l])).length=i+2:=by rw[kw];simp[hr]
   obtain⟨o3,r3,l3,he,hr3⟩: ∃o3 r3 l3,dropTok t (o::r++[l])=o3::(r3++[l3])∧r3.length=i:=by
    match hq:dropTok t (o::r++[l]),hdl with
    |o3::rest,hdl=>
     have hrl:rest.length=i+1:=by simpa using hdl
     have hne:rest≠[]:=by intro e;subst e;simp at hrl
     exact⟨o3,rest.dropLast,rest.getLast hne,by rw[List.dropLast_concat_getLast],by rw[List.length_dropLast];omega⟩
   rw[show(Mem.live ⟨[],[],nx,o::r++l::post,0⟩)=o::r++l::post from rfl,hd,he] at e
   obtain⟨o2,l2,hs,hw⟩:=hnew ys o3 r3 l3 hr3 q
   refine⟨_,_,_,o2,l2,js hz e,rfl,rfl,?_,hw⟩
   rw[←hs];simp[addTok]
theorem to {α:Type} {R:α→AV→Prop} {s:Nat} {xs:List α} {f:Nat} {args:List AV} {m m0 mm:Mem} {fl:Nat} {ws:Watch} {d:Option Nat} {l:List AOper} {ρ:List AV} {k:Kont} (h:Okl R s tab f args m xs)
  (q: ∀y ts n,Own R s y xs ts→Xd tab fl m0 ws l (setDst ρ d y) {m with nx:=n,live:=pushToks ts m.live} k):Xw tab (CALL tab f args m) 2 fl m0 ws d l ρ mm k:=by
 obtain⟨y,ts,n,h1,h2⟩:=h
 rw[h1,zbQ];exact q y ts n h2
def Writes (f:Nat) (args:List AV) (lv k st i:Nat) (y:AV) (b c:List UInt8) (post:List (List Nat)) (r:AV) (m:Mem):Prop:=
 ∃y' n live',CALL tab f args m=some (r,wrote m lv k st y' n live')∧WrL i y' (b++c) live' post
structure At (m:Mem) (lv k st i:Nat) (y:AV) (b:List UInt8) (post:List (List Nat)):Prop where
 level:lv+i=m.stk.length
 cell:m.blk lv k st=some [y]
 low:m.floor≤lv
 w:WrL i y b m.live post
theorem uh (n:Nat) (hn:n<9223372036854775808) (m:Mem) {lv k st i:Nat} {y:AV} {b:List UInt8} {post:List (List Nat)} (ha:At m lv k st i y b post) (hb:b.length≤1000000):
  Writes zk [.ptr lv k st 0,.int .i64 n] lv k st i y b (minimal n) post (.tup []) m:=by
 suffices h:Does tab zk [.ptr lv k st 0,.int .i64 n] m fun v m'=> ∃y' n' live',v= .tup []∧m'=wrote m lv k st y' n' live'∧WrL i y' (b++minimal n) live' post by
  obtain⟨z,h1,y',n',l',h2,h3,h4⟩:=h
  exact⟨y',n',l',by rw[h1,←h2,←h3],h4⟩
 refine zV YT ?_ (Nat.le_of_ble_eq_true rfl)
 obtain⟨stk,cur,nx,live,fl⟩:=m
 obtain⟨hlv,hblk,hfl,hW⟩:=ha
 dsimp only at hlv hfl hW
 have hrow:=VW hblk (by omega)
 have hk:k<((stk++[cur]).getD lv []).length:=(w06.1 hrow).1
 have hid:=z42 hrow
 have hlv':lv≤stk.length:=by omega
 have hne:(lv==(stk++[cur]).length)=false:=by simp;omega
 have hsub:(stk++[cur]).length-lv=i+1:=by simp;omega
 have e:IntKind.u64.wrap (n:Int)=n:=zM (by omega) (by omega)
 simp only[vT,List.map,go_sem,reduceCtorEq,G3,G0,G2]
 simp only[hid]
 simp only[go_sem,reduceCtorEq,G0,G2,yy,hne,Vx hlv' hk,e]
 have hfv:max fl ((stk++[cur]).length+1)≤(rw' stk cur lv k st y).length+1:=by rw[yy];simp;omega
 refine to (tG n (by omega) _ _ _ _ _ hfv) fun yv ts nv hov=> ?_
 simp only[go_sem,reduceCtorEq,G0,G2]
 obtain⟨zs,hz,hc⟩:=hov.elems
 have hm:=zg (n:=n) (by omega)
 obtain⟨y',n',live',o,l2,happ,hcell,hone,hs,hW2⟩:=WrL.app ((WrL.enter hW).push ts) hz hc (by omega) nv
 rw[yx,w20] at happ
 simp only[go_sem,reduceCtorEq,G0,G2,happ,yy,hne,Vx hlv' hk,hcell,hone,hfl,hsub,hs,W6]
 rw[Wl hlv' rfl rfl nx live,z8]
 exact⟨y',n',l2,rfl,rfl,hW2⟩
theorem z5f (s:List UInt8) (hs:s.length≤1000) (m:Mem) {lv k st i:Nat} {y:AV} {b:List UInt8} {post:List (List Nat)} (ha:At m lv k st i y b post) (hb:b.length≤900000):
  Writes yF [.ptr lv k st 0,.str s] lv k st i y b (said s) post (.tup []) m:=by
 suffices h:Does tab yF [.ptr lv k st 0,.str s] m fun v m'=> ∃y' n' live',v= .tup []∧m'=wrote m lv k st y' n' live'∧WrL i y' (b++said s) live' post by
  obtain⟨z,h1,y',n',l',h2,h3,h4⟩:=h
  exact⟨y',n',l',by rw[h1,←h2,←h3],h4⟩
 refine zV V4 ?_ (Nat.le_of_ble_eq_true rfl)
 obtain⟨stk,cur,nx,live,fl⟩:=m
 obtain⟨hlv,hblk,hfl,hW⟩:=ha
 dsimp only at hlv hfl hW
 have hrow:=VW hblk (by omega)
 have hk:k<((stk++[cur]).getD lv []).length:=(w06.1 hrow).1
 have hid:=z42 hrow
 have hlv':lv≤stk.length:=by omega
 have hne:(lv==(stk++[cur]).length)=false:=by simp;omega
 have hsub:(stk++[cur]).length-lv=i+1:=by simp;omega
 have hlev: ∀y,lv+(i+1)=(rw' stk cur lv k st y).length:=fun y=>by rw[yy];simp;omega
 have hget: ∀y,((rw' stk cur lv k st y).getD lv [])[k]? =some ⟨st,[y]⟩:=fun y=>Vx hlv' hk
 have hat: ∀y b c nz L,WrL (i+1) y b L post→At ⟨rw' stk cur lv k st y,c,nz,L,fl⟩ lv k st (i+1) y b post:=fun y b c nz L h=>⟨hlev y,z3r hlv' hk,hfl,h⟩
 have hm:=zg (n:=s.length) (by omega)
 simp only[uZ,List.map,go_sem,reduceCtorEq,G3,G0,G2]
 simp only[hid]
 obtain⟨y1,n1,l1,hc1,hW1⟩:=uh s.length (by omega) _ (hat y b [] nx _ (WrL.enter hW)) (by omega)
 rw[xa hlv'] at hc1
 simp only[go_sem,reduceCtorEq,G0,G2,hc1,yy,hne,hget]
 obtain⟨y2,n2,l2,o,l3,happ,hcl,hone,hsk,hW2⟩:=WrL.app hW1 (z24 · s) (jj s) (by simp only[w05];omega) n1
 simp only[go_sem,reduceCtorEq,G0,G2,happ,yy,hne,hget,hcl,hone,hfl,hsub,hsk,W6]
 rw[Wl hlv' rfl rfl nx live,z8]
 exact⟨y2,n2,l3,rfl,rfl,by unfold said;rw[←w0f];exact hW2⟩
def f0:DField:=⟨[],0⟩
def fldAt (l:List DField) (k:Nat):DField:=l.getD k f0
theorem UO {l:List DField} {j:Nat} (h:j<l.length):l[j]=fldAt l j:=by simp[fldAt,w02,h]
def flds (l:List DField):Nat→List UInt8
 |0=>minimal l.length
 |k+1=>flds l k++(said (fldAt l k).name++minimal (fldAt l k).typ.toNat)
def FOk (l:List DField):Prop:=l.length≤16∧ ∀f∈l,f.name.length≤16∧0≤f.typ∧f.typ<1000
theorem FOk.at {l:List DField} (h:FOk l) {k:Nat} (hk:k<l.length):(fldAt l k).name.length≤16∧0≤(fldAt l k).typ∧(fldAt l k).typ<1000:=by rw[←UO hk];exact h.2 _ (w07 hk)
theorem qP {s:List UInt8} (h:s.length≤1000):(said s).length≤s.length+10:=by
 have:=zg (n:=s.length) (by omega)
 unfold said;rw[w05];omega
theorem qU {l:List DField} (h:FOk l): ∀k,k≤l.length→(flds l k).length≤10+36*k
 |0,_=>zg (by have:=h.1;omega)
 |k+1,hk=>by
  have ih:=qU h k (by omega)
  obtain⟨h1,h2,h3⟩:=h.at (show k<l.length by omega)
  have m1:=qP (s:=(fldAt l k).name) (by omega)
  have m2:=zg (n:=(fldAt l k).typ.toNat) (by omega)
  simp only[flds,w05];omega
theorem z3A (l:List DField) (v:AV) (hv:IsSl IsField 2 l v) (hf:FOk l) (m:Mem) {lv k st i:Nat} {y:AV} {b:List UInt8} {post:List (List Nat)} (ha:At m lv k st i y b post) (hb:b.length≤800000):
  Writes yJ [.ptr lv k st 0,v] lv k st i y b (flds l l.length) post (.tup []) m:=by
 suffices h:Does tab yJ [.ptr lv k st 0,v] m fun v m'=> ∃y' n' live',v= .tup []∧m'=wrote m lv k st y' n' live'∧WrL i y' (b++flds l l.length) live' post by
  obtain⟨z,h1,y',n',l',h2,h3,h4⟩:=h
  exact⟨y',n',l',by rw[h1,←h2,←h3],h4⟩
 refine zV YU ?_ (Nat.le_of_ble_eq_true rfl)
 obtain⟨stk,cur,nx,live,fl⟩:=m
 obtain⟨hlv,hblk,hfl,hW⟩:=ha
 dsimp only at hlv hfl hW
 have hrow:=VW hblk (by omega)
 have hk:k<((stk++[cur]).getD lv []).length:=(w06.1 hrow).1
 have hid:=z42 hrow
 have hlv':lv≤stk.length:=by omega
 have hne:(lv==(stk++[cur]).length)=false:=by simp;omega
 have hsub:(stk++[cur]).length-lv=i+1:=by simp;omega
 have hlev: ∀y,lv+(i+1)=(rw' stk cur lv k st y).length:=fun y=>by rw[yy];simp;omega
 have hget: ∀y,((rw' stk cur lv k st y).getD lv [])[k]? =some ⟨st,[y]⟩:=fun y=>Vx hlv' hk
 have hat: ∀y b c nz L,WrL (i+1) y b L post→At ⟨rw' stk cur lv k st y,c,nz,L,fl⟩ lv k st (i+1) y b post:=fun y b c nz L h=>⟨hlev y,z3r hlv' hk,hfl,h⟩
 have hl16:=hf.1
 have hvl:=hv.len
 simp only[vU,List.map,go_sem,reduceCtorEq,G3,G0,G2,hvl]
 simp only[hid]
 obtain⟨y1,n1,l1,hc1,hW1⟩:=uh l.length (by omega) _ (hat y b [] nx _ (WrL.enter hW)) (by omega)
 rw[xa hlv'] at hc1
 simp only[go_sem,reduceCtorEq,G0,G2,hc1,hvl]
 refine zc (α:=Nat) (fun j σ=>j≤l.length∧ ∃nz y L,WrL (i+1) y (b++flds l j) L post∧heads [0,10,11,12] 0 σ=⟨tmps 25 [(0,.ptr lv k st 0),(10,v),(11,.int .i64 l.length),(12,.int .i64 j)],⟨rw' stk cur lv k st y,[],nz,L,fl⟩⟩) (fun j=>l.length-j) 0 ?_ ?_
 ·refine⟨w0c _,n1,y1,l1,hW1,?_⟩
  simp only[go_sem,reduceCtorEq,G0,G1]
  rfl
 ·rintro j σ ⟨hj,nz,y2,L,hW2,hσ⟩
  rw[hσ]
  clear hσ σ
  dsimp only at hj⊢
  by_cases h:j<l.length
  ·have e1:nth v j= .agg [.str (fldAt l j).name,.int .i64 (fldAt l j).typ]:=by
    have:IsField l[j] (nth v j):=hv.nth h
    rw[UO h] at this;exact this
   have hatv:=hv.at .i64 h
   have hsucc:=zb h hv.max
   obtain⟨h1,h2,h3⟩:=hf.at h
   have hfl2:=qU hf j (by omega)
   have m1:=qP (s:=(fldAt l j).name) (by omega)
   obtain⟨y3,n3,l3,hc3,hW3⟩:=z5f (fldAt l j).name (by omega) _ (hat y2 (b++flds l j) [⟨nz,[.str (fldAt l j).name,.int .i64 (fldAt l j).typ]⟩] (nz+1) L hW2) (by simp only[w05];omega)
   rw[xa hlv'] at hc3
   obtain⟨y4,n4,l4,hc4,hW4⟩:=uh (fldAt l j).typ.toNat (by omega) _ (hat y3 _ [⟨nz,[.str (fldAt l j).name,.int .i64 (fldAt l j).typ]⟩] n3 l3 hW3) (by simp only[w05];omega)
   rw[xa hlv',w45 h2] at hc4
   simp only[go_sem,reduceCtorEq,G3,G0,G1,G2,w03,h,hatv,e1,yy,hc3,hc4,hsucc]
   refine⟨j+1,by omega,h,n4,y4,l4,?_,rfl⟩
   simp only[flds,←w0f] at hW4⊢
   exact hW4
  ·have:j=l.length:=by omega
   subst this
   obtain⟨o,l3,rfl,hW3⟩:=WrL.tail hW2
   simp only[go_sem,reduceCtorEq,G0,G1,G2,w03,h]
   rw[Wl hlv' rfl rfl nx live,z8]
   exact⟨y2,nz,l3,rfl,rfl,hW3⟩
def t0:DTyp:=⟨0,0,0,[]⟩
def typAt (l:List DTyp) (k:Nat):DTyp:=l.getD k t0
theorem Ux {l:List DTyp} {j:Nat} (h:j<l.length):l[j]=typAt l j:=by simp[typAt,w02,h]
def typB (t:DTyp):List UInt8:=
 if t.kind=4∨t.kind=7 then minimal t.elem.toNat else if t.kind=6 then minimal t.elem.toNat++minimal t.len.toNat else if t.kind=5 then flds t.fields t.fields.length else []
def typs (l:List DTyp):Nat→List UInt8
 |0=>minimal l.length
 |k+1=>typs l k++([UInt8.ofNat (typAt l k).kind.toNat]++typB (typAt l k))
theorem Zu {s:List UInt8} (h:named s=true):s.length≤16:=by
 unfold named at h;simp only[w0e,decide_eq_true_eq] at h;exact h.1.1.2
theorem z09 {n i:Nat} {t:DTyp} (h:FineT n i t) (hn:i≤32) (h5:t.kind=5):FOk t.fields:=by
 have hs:=(ul h5).1 h
 have h8:=hs.2.2.2.2.1
 refine⟨by omega,fun f hf=> ?_⟩
 have h1:=hs.1 f hf
 have h2:=Zu (hs.2.2.2.2.2.1 f hf)
 omega
theorem z8Q {n i:Nat} {t:DTyp} (h:FineT n i t) (hn:n≤32) (hi:i≤32):(typB t).length≤600:=by
 have hl:=um h
 unfold typB
 split
 ·rename_i h4
  have:=hl.2.2.1 h4
  have:=zg (n:=t.elem.toNat) (by omega)
  omega
 ·split
  ·rename_i h6
   have e1:=hl.2.2.2.1 h6
   have e2:=hl.2.1 h6
   have:=zg (n:=t.elem.toNat) (by omega)
   have:=zg (n:=t.len.toNat) (by omega)
   rw[w05];omega
  ·split
   ·rename_i h5
    have hfo:=z09 h hi h5
    have:=qU hfo t.fields.length (w0b _)
    omega
   ·simp
theorem XO {l:List DTyp} (hv:ValidT l) (hl:l.length≤32): ∀k,k≤l.length→(typs l k).length≤10+601*k
 |0,_=>zg (by omega)
 |k+1,hk=>by
  have ih:=XO hv hl k (by omega)
  have hf:=hv k (by omega)
  rw[Ux (by omega)] at hf
  have:=z8Q hf hl (by omega)
  simp only[typs,w05,w26,w2f];omega
theorem Tk {a:Int} (h:inU8 a):IsByte (UInt8.ofNat a.toNat) (.int .u8 a):=by
 unfold inU8 at h
 have:=ZC (a:=a.toNat) (by omega)
 rwa [show((a.toNat:Nat):Int)=a by omega] at this
theorem WrL.cons {i:Nat} {y:AV} {b:List UInt8} {live post:List (List Nat)} (o:List Nat) (h:WrL i y b live post):WrL (i+1) y b (o::live) post:=by
 obtain⟨pre,l,rfl,h2,h3⟩:=h
 exact⟨o::pre,l,rfl,by simp[h2],h3⟩
theorem zaC (l:List DTyp) (v:AV) (hv:IsSl IsTyp 4 l v) (hw:WfTypes l) (hval:ValidT l) (hl:l.length≤32) (m:Mem) {lv k st i:Nat} {y:AV} {b:List UInt8} {post:List (List Nat)} (ha:At m lv k st i y b post) (hb:b.length≤100000):
  Writes xF [.ptr lv k st 0,v] lv k st i y b (typs l l.length) post (.tup []) m:=by
 suffices h:Does tab xF [.ptr lv k st 0,v] m fun v m'=> ∃y' n' live',v= .tup []∧m'=wrote m lv k st y' n' live'∧WrL i y' (b++typs l l.length) live' post by
  obtain⟨z,h1,y',n',l',h2,h3,h4⟩:=h
  exact⟨y',n',l',by rw[h1,←h2,←h3],h4⟩
 refine zV W2 ?_ (Nat.le_of_ble_eq_true rfl)
 obtain⟨stk,cur,nx,live,fl⟩:=m
 obtain⟨hlv,hblk,hfl,hW⟩:=ha
 dsimp only at hlv hfl hW
 have hrow:=VW hblk (by omega)
 have hk:k<((stk++[cur]).getD lv []).length:=(w06.1 hrow).1
 have hid:=z42 hrow
 have hlv':lv≤stk.length:=by omega
 have hne:(lv==(stk++[cur]).length)=false:=by simp;omega
 have hsub:(stk++[cur]).length-lv=i+1:=by simp;omega
 have hlev: ∀y,lv+(i+1)=(rw' stk cur lv k st y).length:=fun y=>by rw[yy];simp;omega
 have hget: ∀y,((rw' stk cur lv k st y).getD lv [])[k]? =some ⟨st,[y]⟩:=fun y=>Vx hlv' hk
 have hat: ∀y b c nz L,WrL (i+1) y b L post→At ⟨rw' stk cur lv k st y,c,nz,L,fl⟩ lv k st (i+1) y b post:=fun y b c nz L h=>⟨hlev y,z3r hlv' hk,hfl,h⟩
 have hvl:=hv.len
 simp only[uF,List.map,go_sem,reduceCtorEq,G3,G0,G2,hvl]
 simp only[hid]
 obtain⟨y1,n1,l1,hc1,hW1⟩:=uh l.length (by omega) _ (hat y b [] nx _ (WrL.enter hW)) (by omega)
 rw[xa hlv'] at hc1
 simp only[go_sem,reduceCtorEq,G0,G2,hc1,hvl]
 refine zc (α:=Nat) (fun j σ=>j≤l.length∧ ∃nz y L,WrL (i+1) y (b++typs l j) L post∧heads [0,10,11,12] 0 σ=⟨tmps 53 [(0,.ptr lv k st 0),(10,v),(11,.int .i64 l.length),(12,.int .i64 j)],⟨rw' stk cur lv k st y,[],nz,L,fl⟩⟩) (fun j=>l.length-j) 0 ?_ ?_
 ·refine⟨w0c _,n1,y1,l1,hW1,?_⟩
  simp only[go_sem,reduceCtorEq,G0,G1]
  rfl
 ·rintro j σ ⟨hj,nz,y2,L,hW2,hσ⟩
  rw[hσ]
  clear hσ σ
  dsimp only at hj⊢
  by_cases h:j<l.length
  ·have hfine:=hval j h
   have hkind:=(hw _ (w07 h)).kind
   obtain⟨u,e1,q1⟩:=hv.nth h
   have hatv:=hv.at .i64 h
   have hsucc:=zb h hv.max
   have htl:=XO hval hl j (by omega)
   rw[Ux h] at hfine hkind e1 q1
   have hflen:=um hfine
   have hfo:=z09 hfine (by omega)
   generalize htt:typAt l j=t at*
   obtain⟨kind,elem,len,fields⟩:=t
   dsimp only at e1 q1 hflen hkind hfo
   obtain⟨y3,n3,l3,o,l4,happ,hcl,hone,hsk,hW3⟩:=WrL.app hW2 (zi · 1 .full [.int .u8 kind]) (zE (Tk hkind)) (by simp only[w05,w26,w2f];omega) (nz+1)
   have hW3:=WrL.cons o hW3
   simp only[go_sem,reduceCtorEq,G3,G0,G1,G2,w03,h,hatv,e1,q1.one,yy,hne,hget,happ,hcl,hone,hfl,hsub,hsk,W6]
   by_cases k47:kind=4∨kind=7
   ·have hel:=hflen.2.2.1 k47
    obtain⟨y4,n4,l5,hc4,hW4⟩:=uh elem.toNat (by omega) _ (hat y3 _ [⟨nz,[.int .u8 kind,.int .i64 elem,.int .i64 len,u]⟩] n3 (o::l4) hW3) (by simp only[w05,w26,w2f];omega)
    rw[xa hlv',w45 hel.1] at hc4
    by_cases k4:kind=4
    ·have k4':(kind==4)=true:=by simpa using k4
     simp only[go_sem,reduceCtorEq,G0,G2,k4',yy,hc4,hsucc]
     have hT:typB ⟨kind,elem,len,fields⟩=minimal elem.toNat:=by
      unfold typB
      rw[if_pos k47]
     refine⟨j+1,by omega,h,n4,y4,l5,?_,rfl⟩
     have hbb:typs l (j+1)=typs l j++([UInt8.ofNat kind.toNat]++minimal elem.toNat):=by rw[typs,htt,hT]
     rw[hbb]
     have hWW:=hW4
     simp only[w0f] at hWW⊢
     exact hWW
    ·have k4':(kind==4)=false:=by simpa using k4
     have k7':(kind==7)=true:=by simp;omega
     simp only[go_sem,reduceCtorEq,G0,G2,k4',k7',yy,hc4,hsucc]
     have hT:typB ⟨kind,elem,len,fields⟩=minimal elem.toNat:=by
      unfold typB
      rw[if_pos k47]
     refine⟨j+1,by omega,h,n4,y4,l5,?_,rfl⟩
     have hbb:typs l (j+1)=typs l j++([UInt8.ofNat kind.toNat]++minimal elem.toNat):=by rw[typs,htt,hT]
     rw[hbb]
     have hWW:=hW4
     simp only[w0f] at hWW⊢
     exact hWW
   ·have k4':(kind==4)=false:=by simp;omega
    have k7':(kind==7)=false:=by simp;omega
    by_cases k6:kind=6
    ·have k6':(kind==6)=true:=by simpa using k6
     have e6:=hflen.2.2.2.1 k6
     have e7:=hflen.2.1 k6
     have m6:=zg (n:=elem.toNat) (by omega)
     obtain⟨y4,n4,l5,hc4,hW4⟩:=uh elem.toNat (by omega) _ (hat y3 _ [⟨nz,[.int .u8 kind,.int .i64 elem,.int .i64 len,u]⟩] n3 (o::l4) hW3) (by simp only[w05,w26,w2f];omega)
     rw[xa hlv',w45 e6.1] at hc4
     obtain⟨y5,n5,l6,hc5,hW5⟩:=uh len.toNat (by omega) _ (hat y4 _ [⟨nz,[.int .u8 kind,.int .i64 elem,.int .i64 len,u]⟩] n4 l5 hW4) (by simp only[w05,w26,w2f];omega)
     rw[xa hlv',w45 (by omega)] at hc5
     simp only[go_sem,reduceCtorEq,G0,G2,k4',k7',k6',yy,hc4,hc5,hsucc]
     have hT:typB ⟨kind,elem,len,fields⟩=(minimal elem.toNat++minimal len.toNat):=by
      unfold typB
      rw[if_neg k47,if_pos k6]
     refine⟨j+1,by omega,h,n5,y5,l6,?_,rfl⟩
     have hbb:typs l (j+1)=typs l j++([UInt8.ofNat kind.toNat]++(minimal elem.toNat++minimal len.toNat)):=by rw[typs,htt,hT]
     rw[hbb]
     have hWW:=hW5
     simp only[w0f] at hWW⊢
     exact hWW
    ·have k6':(kind==6)=false:=by simpa using k6
     by_cases k5:kind=5
     ·have k5':(kind==5)=true:=by simpa using k5
      obtain⟨y4,n4,l5,hc4,hW4⟩:=z3A fields u q1 (hfo k5) _ (hat y3 _ [⟨nz,[.int .u8 kind,.int .i64 elem,.int .i64 len,u]⟩] n3 (o::l4) hW3) (by simp only[w05,w26,w2f];omega)
      rw[xa hlv'] at hc4
      simp only[go_sem,reduceCtorEq,G0,G2,k4',k7',k6',k5',yy,hc4,hsucc]
      have hT:typB ⟨kind,elem,len,fields⟩=flds fields fields.length:=by
       unfold typB
       rw[if_neg k47,if_neg k6,if_pos k5]
      refine⟨j+1,by omega,h,n4,y4,l5,?_,rfl⟩
      have hbb:typs l (j+1)=typs l j++([UInt8.ofNat kind.toNat]++flds fields fields.length):=by rw[typs,htt,hT]
      rw[hbb]
      have hWW:=hW4
      simp only[w0f] at hWW⊢
      exact hWW
     ·have k5':(kind==5)=false:=by simpa using k5
      simp only[go_sem,reduceCtorEq,G0,G2,k4',k7',k6',k5',hsucc]
      have hT:typB ⟨kind,elem,len,fields⟩=[]:=by
       unfold typB
       rw[if_neg k47,if_neg k6,if_neg k5]
      refine⟨j+1,by omega,h,n3,y3,(o::l4),?_,rfl⟩
      have hbb:typs l (j+1)=typs l j++([UInt8.ofNat kind.toNat]++[]):=by rw[typs,htt,hT]
      rw[hbb]
      have hWW:=hW3
      simp only[w0f,w20] at hWW⊢
      exact hWW
  ·have:j=l.length:=by omega
   subst this
   obtain⟨o,l3,rfl,hW3⟩:=WrL.tail hW2
   simp only[go_sem,reduceCtorEq,G0,G1,G2,w03,h]
   rw[Wl hlv' rfl rfl nx live,z8]
   exact⟨y2,nz,l3,rfl,rfl,hW3⟩
def wasAt (l:List DRun) (k:Nat):Int:=if k=0 then 0 else(runAt l (k-1)).frm
def cod8 (l:List DRun):Nat→List UInt8
 |0=>minimal l.length
 |k+1=>cod8 l k++minimal ((runAt l k).frm-wasAt l k).toNat++minimal (runAt l k).value.toNat
def WfRuns (l:List DRun):Prop:= ∀r∈l,WfRun r
theorem WfRuns.at {l:List DRun} (h:WfRuns l) {k:Nat} (hk:k<l.length):WfRun (runAt l k):=by rw[←z1B hk];exact h _ (w07 hk)
theorem Wu {l:List DRun} {n:Int} (h:FineR l n): ∀k,k<l.length→0≤(runAt l k).frm
 |0,_=>by rw[h.2.1];omega
 |k+1,hk=>by
  have ih:=Wu h k (by omega)
  have:=((h.2.2 (k+1) hk).2 (by omega)).1
  simp only[Nat.add_sub_cancel] at this;omega
theorem z08 {l:List DRun} {n:Int} (h:FineR l n) {k:Nat} (hk:k<l.length):0≤(runAt l k).frm-wasAt l k∧(runAt l k).frm-wasAt l k≤n∧ -1≤wasAt l k:=by
 have h1:=Wu h k hk
 have h2:=(h.2.2 k hk).1
 unfold wasAt
 split
 ·omega
 ·rename_i h0
  have h3:=Wu h (k-1) (by omega)
  have:=((h.2.2 k hk).2 (by omega)).1
  omega
theorem qa {l:List DRun} {n:Int} (h:FineR l n) (hn:n≤200) (hw:WfRuns l) (hl:l.length≤1000): ∀k,k≤l.length→(cod8 l k).length≤10+20*k
 |0,_=>zg (by omega)
 |k+1,hk=>by
  have ih:=qa h hn hw hl k (by omega)
  have h1:=z08 h (show k<l.length by omega)
  have h2:=(hw.at (show k<l.length by omega)).value
  unfold inU64 at h2
  have m1:=zg (n:=((runAt l k).frm-wasAt l k).toNat) (by omega)
  have m2:=zg (n:=(runAt l k).value.toNat) (by omega)
  simp only[cod8,w05];omega
theorem Vd (l:List DRun) (x:AV) (hx:IsSl IsRun 2 l x) (n:Int) (hfine:FineR l n) (hn:n≤200) (hw:WfRuns l) (hl:l.length≤1000) (m:Mem):Okl IsByte 1 tab xn [x] m (cod8 l l.length):=by
 refine qt YI ?_
 obtain⟨stk,cur,nx,live,fl⟩:=m
 have e0:IntKind.u64.wrap (l.length:Int)=l.length:=zM (by omega) (by omega)
 simp only[vJ,List.map,go_sem,reduceCtorEq,G0,G2,hx.len,e0]
 refine(zy l.length (by omega) _).xv fun y ts k ho=> ?_
 simp only[go_sem,reduceCtorEq,G0,G2]
 refine zc (α:=Nat) (fun i σ=>i≤l.length∧ ∃nz y e,Own IsByte 1 y (cod8 l i) e∧heads [0,3,4,5] 0 σ=⟨tmps 41 [(0,x),(3,y),(4,.int .i64 (wasAt l i)),(5,.int .i64 i)],⟨stk++[cur],[],nz,e::live,fl⟩⟩) (fun i=>l.length-i) 0 ?_ ?_
 ·refine⟨w0c _,k,y,_,ho,?_⟩
  simp only[go_sem,reduceCtorEq,G5,G0,G1,wasAt]
  rfl
 ·rintro i σ ⟨hi,nz,y,e,ho,hσ⟩
  rw[hσ]
  clear hσ σ
  dsimp only at hi⊢
  by_cases h:i<l.length
  ·skip
   have h1:=z08 hfine h
   have h2:=(hw.at h).value
   unfold inU64 at h2
   have hpos:=Wu hfine i h
   have hfr:=(hfine.2.2 i h).1
   have e1:=IsSl.run hx h
   have hat:=hx.at .i64 h
   have m1:=zg (n:=((runAt l i).frm-wasAt l i).toNat) (by omega)
   have m2:=zg (n:=(runAt l i).value.toNat) (by omega)
   have hcl:=qa hfine hn hw hl i (by omega)
   have ew:IntKind.u64.wrap (IntKind.i64.wrap ((runAt l i).frm-wasAt l i))=((((runAt l i).frm-wasAt l i).toNat:Nat):Int):=by
    rw[zd (by omega) (by omega),zM (by omega) (by omega)];omega
   have ev:(runAt l i).value=(((runAt l i).value.toNat:Nat):Int):=by omega
   have hsucc:=zb h hx.max
   have hwn:wasAt l (i+1)=(runAt l i).frm:=by unfold wasAt;rw[if_neg (by omega)];simp
   simp only[go_sem,reduceCtorEq,G0,G1,G2,w03,h,hx.len,hat,e1,ew]
   refine(zy _ (by omega) _).xv fun y1 t1 k1 ho1=> ?_
   simp only[go_sem,reduceCtorEq,G0,G2]
   obtain⟨z1,hz1,hc1⟩:=ho1.elems
   refine(ho.push t1).xv hz1 hc1 (by omega) fun y2 k2 e2 ho2=> ?_
   simp only[go_sem,reduceCtorEq,G0,G2,hat,e1]
   rw[ev]
   refine(zy _ (by omega) _).xv fun y3 t3 k3 ho3=> ?_
   simp only[go_sem,reduceCtorEq,G0,G2]
   obtain⟨z3,hz3,hc3⟩:=ho3.elems
   refine(ho2.push t3).xv hz3 hc3 (by simp only[w05];omega) fun y4 k4 e4 ho4=> ?_
   simp only[go_sem,reduceCtorEq,G0,G2,hat,e1,hsucc]
   exact⟨i+1,by omega,h,k4,y4,e4,ho4,by rw[hwn]⟩
  ·have:i=l.length:=by omega
   subst this
   simp only[go_sem,reduceCtorEq,G0,G1,G2,w03,h,hx.len]
   exact ue ho
theorem Yz (l:List DRun) (x:AV) (hx:IsSl IsRun 2 l x) (n:Int) (hfine:FineR l n) (hn1:1≤n) (hn:n≤200) (hw:WfRuns l) (hl:l.length≤1000) (m:Mem) (hf:m.floor≤m.stk.length+1):Okp IsByte 1 tab j8 [x,.int .i64 n] m (cod8 l l.length) 0:=by
 refine z2T Tz ?_
 obtain⟨stk,cur,nx,live,fl⟩:=m
 dsimp only at hf
 have hf':fl≤(stk++[cur]).length+1:=by simp;omega
 have e0:IntKind.u64.wrap (l.length:Int)=l.length:=zM (by omega) (by omega)
 have hC:=ju l x hx n
 rw[show err08 l n=0 by unfold err08;rw[if_neg (by omega),zB hfine];rfl] at hC
 simp only[j4,List.map,go_sem,reduceCtorEq,G3,G0,G2,(hC _).eq,show((0:Int) !=0)=false from rfl,hx.len,e0]
 refine(tG l.length (by omega) _ _ _ _ _ hf').xv fun y ts k ho=> ?_
 simp only[go_sem,reduceCtorEq,G0,G2,hx.len]
 refine zc (α:=Nat) (fun i σ=>i≤l.length∧ ∃nz y e,Own IsByte 1 y (cod8 l i) e∧heads [7,8,21,22,23] 0 σ=⟨tmps 44 [(7,y),(8,.int .i64 (wasAt l i)),(21,x),(22,.int .i64 l.length),(23,.int .i64 i)],⟨stk++[cur],[],nz,e::live,fl⟩⟩) (fun i=>l.length-i) 0 ?_ ?_
 ·refine⟨w0c _,k,y,_,ho,?_⟩
  simp only[go_sem,reduceCtorEq,G5,G0,G1,wasAt]
  rfl
 ·rintro i σ ⟨hi,nz,y,e,ho,hσ⟩
  rw[hσ]
  clear hσ σ
  dsimp only at hi⊢
  by_cases h:i<l.length
  ·skip
   have h1:=z08 hfine h
   have h2:=(hw.at h).value
   unfold inU64 at h2
   have hpos:=Wu hfine i h
   have hfr:=(hfine.2.2 i h).1
   have e1:=IsSl.run hx h
   have hat:=hx.at .i64 h
   have m1:=zg (n:=((runAt l i).frm-wasAt l i).toNat) (by omega)
   have m2:=zg (n:=(runAt l i).value.toNat) (by omega)
   have hcl:=qa hfine hn hw hl i (by omega)
   have ew:IntKind.u64.wrap (IntKind.i64.wrap ((runAt l i).frm-wasAt l i))=((((runAt l i).frm-wasAt l i).toNat:Nat):Int):=by
    rw[zd (by omega) (by omega),zM (by omega) (by omega)];omega
   have ev:(runAt l i).value=(((runAt l i).value.toNat:Nat):Int):=by omega
   have hsucc:=zb h hx.max
   have hwn:wasAt l (i+1)=(runAt l i).frm:=by unfold wasAt;rw[if_neg (by omega)];simp
   simp only[go_sem,G3,G0,G1,G2,w03,h,hat,e1,ew]
   refine(tG _ (by omega) _ _ _ _ _ hf').xv fun y1 t1 k1 ho1=> ?_
   simp only[go_sem,G0,G2]
   obtain⟨z1,hz1,hc1⟩:=ho1.elems
   refine(ho.push t1).xv hz1 hc1 (by omega) fun y2 k2 e2 ho2=> ?_
   simp only[go_sem,G0,G2]
   rw[ev]
   refine(tG _ (by omega) _ _ _ _ _ hf').xv fun y3 t3 k3 ho3=> ?_
   simp only[go_sem,G0,G2]
   obtain⟨z3,hz3,hc3⟩:=ho3.elems
   refine(ho2.push t3).xv hz3 hc3 (by simp only[w05];omega) fun y4 k4 e4 ho4=> ?_
   simp only[go_sem,G0,G2,hsucc]
   exact⟨i+1,by omega,h,k4,y4,e4,ho4,by rw[hwn]⟩
  ·have:i=l.length:=by omega
   subst this
   simp only[go_sem,G0,G1,G2,w03,h]
   exact ZI ho
theorem z5x {m:Mem} {l k st:Nat} {cs:List AV} (h:m.blk l k st=some cs):(m.row l)[k]? =some ⟨st,cs⟩:=by
 unfold Mem.blk at h
 split at h
 ·rename_i b hb
  split at h
  ·rename_i e
   injection h with h
   rw[hb,←h,←eq_of_beq e]
  ·cases h
 ·cases h
theorem z79 {stk:List (List Blk)} {cur c:List Blk} {nx nx' fl fl':Nat} {live live':List (List Nat)} {lv k s:Nat} (hlv:lv≤stk.length):(Mem.blk ⟨stk++[cur],c,nx',live',fl'⟩ lv k s)=Mem.blk ⟨stk,cur,nx,live,fl⟩ lv k s:=by
 unfold Mem.blk Mem.row
 simp only
 rw[if_neg (by simp;omega)]
 by_cases e:lv=stk.length
 ·subst e;simp
 ·rw[if_neg (by simpa using e)]
  simp only[w02]
  rw[w09 (by omega)]
theorem zaR {stk:List (List Blk)} {cur:List Blk} {nx fl:Nat} {live:List (List Nat)} {lv k st:Nat} {cs:List AV} (hlv:lv≤stk.length) (h:Mem.blk ⟨stk,cur,nx,live,fl⟩ lv k st=some cs):((stk++[cur]).getD lv [])[k]? =some ⟨st,cs⟩:=by
 have:=z5x h
 unfold Mem.row at this
 by_cases e:lv=stk.length
 ·subst e;simpa using this
 ·simp only at this
  rw[if_neg (by simpa using e)] at this
  simp only[w02] at this⊢
  rw[w09 (by omega)];exact this
theorem z7l (g:DField) (y:AV) (hy:IsField g y) (s:List UInt8) (t:Int) (m:Mem) (lv st:Nat) (hlv:lv≤m.stk.length) (h1:m.blk lv 0 st=some [.str s,.int .i64 t]):Okv tab xB [y,.ptr lv 0 st 0] m (.bool (g.name==s)):=by
 refine zh TB ?_
 obtain⟨stk,cur,nx,live,fl⟩:=m
 dsimp only at hlv
 obtain rfl:=hy
 have hne:(lv==(stk++[cur]).length)=false:=by simp;omega
 have b1:=zaR hlv h1
 simp only[j6,List.map,go_sem,reduceCtorEq,G3,G0,G2,hne,b1,evStr]
 rw[z6 rfl rfl,z8]
 exact⟨⟨_,rfl⟩,rfl⟩
theorem VQ (xs:List DField) (x:AV) (hx:IsSl IsField 2 xs x) (s:List UInt8) (t:Int) (m:Mem) (lv st:Nat) (hlv:lv≤m.stk.length) (h1:m.blk lv 0 st=some [.str s,.int .i64 t]):
  Ok tab zX [x,.fn (.func xB) [] [.ptr lv 0 st 0]] m (fun r=> ∃n:Int,r= .int .i64 n∧decide (n≥0)=xs.any (·.name==s)):=by
 refine z6S uj ?_
 obtain⟨stk,cur,nx,live,fl⟩:=m
 dsimp only at hlv
 simp only[zW,List.map,go_sem,reduceCtorEq,G3,G0,G2,hx.len]
 refine zc (α:=Nat) (fun i σ=>(i≤xs.length∧ ∀c∈xs.take i,(c.name==s)=false)∧ ∃nz,heads [0,1,7,8] 0 σ=⟨tmps 19 [(0,x),(1,.fn (.func xB) [] [.ptr lv 0 st 0]),(7,.int .i64 xs.length),(8,.int .i64 i)],⟨stk++[cur],[],nz,[]::live,fl⟩⟩) (fun i=>xs.length-i) 0 ?_ ?_
 ·refine⟨⟨w0c _,by simp⟩,?_⟩
  simp only[go_sem,reduceCtorEq,G0,G1]
  exact⟨_,rfl⟩
 ·rintro i σ ⟨⟨hi,ht⟩,nz,hσ⟩
  rw[hσ]
  clear hσ σ
  dsimp only at hi ht⊢
  by_cases h:i<xs.length
  ·have hfl:IsField xs[i] (nth x i):=hx.nth h
   have hag:=hfl.agg.1
   have hcall:=fun nz=>(z7l xs[i] (nth x i) hfl s t ⟨stk++[cur],[],nz,[]::live,fl⟩ lv st (by simp;omega) (by rw[z79 hlv];exact h1)).eq
   simp only[go_sem,reduceCtorEq,G0,G1,G2,w03,h,hx.at _ h,hag,hcall]
   cases hc:(xs[i].name==s)
   ·simp only[go_sem,reduceCtorEq,G0,G2,zb h hx.max]
    exact⟨i+1,by omega,⟨h,zj (P:=fun c=>(c.name==s)=false) h ht hc⟩,_,rfl⟩
   ·simp only[go_sem,reduceCtorEq,G0,G2]
    rw[z6 rfl rfl,z8]
    refine⟨⟨_,rfl⟩,_,rfl,?_⟩
    rw[List.any_eq_true.2 ⟨_,w07 h,hc⟩]
    simp
  ·have:i=xs.length:=by omega
   subst this
   rw[w0a] at ht
   simp only[go_sem,reduceCtorEq,G0,G1,G2,w03,h]
   rw[z6 rfl rfl,z8]
   refine⟨⟨_,rfl⟩,_,rfl,?_⟩
   rw[List.any_eq_false.2 fun c hc=>by rw[ht c hc];simp]
   rfl
theorem XM (xs:List DField) (x:AV) (hx:IsSl IsField 2 xs x) (s:List UInt8) (t:Int) (m:Mem) (lv st:Nat) (hlv:lv≤m.stk.length) (h1:m.blk lv 0 st=some [.str s,.int .i64 t]):
  Okv tab zO [x,.fn (.func xB) [] [.ptr lv 0 st 0]] m (.bool (xs.any (·.name==s))):=by
 refine zh vB ?_
 obtain⟨stk,cur,nx,live,fl⟩:=m
 dsimp only at hlv
 simp only[zN,List.map,go_sem,reduceCtorEq,G3,G0,G2]
 obtain⟨r,k,e1,n,rfl,e2⟩:=VQ xs x hx s t ⟨stk++[cur],[],nx,[]::live,fl⟩ lv st (by simp;omega) (by rw[z79 hlv];exact h1)
 simp only[go_sem,reduceCtorEq,G0,G2,e1,e2]
 rw[z6 rfl rfl,z8]
 exact⟨⟨_,rfl⟩,rfl⟩
theorem IsSl.upto {α:Type} {R:α→AV→Prop} {s:Nat} {xs:List α} {y:AV} (h:IsSl R s xs y) {i:Nat} (hi:i<xs.length): ∃y',evSlice s y none (some (.int .i64 i)) none=some y'∧IsSl R s (xs.take i) y':=by
 rcases h with⟨hm,⟨rfl,rfl⟩|⟨tk,ys,rfl,h⟩⟩
 ·simp at hi
 ·have hl:=h.len
  have hb:bound (some (.int .i64 (i:Int))) ys.length ys.length=some i:=by
   unfold bound;simp only;rw[if_pos (by omega)];rfl
  have e:evSlice s (.list s tk ys) none (some (.int .i64 i)) none=some (.list s (if i==ys.length&&(0==0||decide (0<ys.length)) then tk else .none) ((ys.take i).drop 0)):=by
   unfold evSlice
   simp only[beq_self_eq_true,if_true]
   rw[hb,w29,show bound none i 0=some 0 from rfl]
   simp
  refine⟨_,e,?_⟩
  rw[w24]
  exact .mk (h.take i) (by rw[w21];omega)
def NamesP (l:List DField):Prop:=(∀f∈l,named f.name=true)∧(l.map DField.name).Nodup
theorem z0I (xs:List DField) (x:AV) (hx:IsSl IsField 2 xs x) (m:Mem):Okv tab Zj [x] m (.bool (pb (NamesP xs))):=by
 refine zh z0S ?_
 obtain⟨stk,cur,nx,live,fl⟩:=m
 simp only[Zc,List.map,go_sem,reduceCtorEq,G0,G2,hx.len]
 have hml:(xs.map DField.name).length=xs.length:=by simp
 refine zc (α:=Nat) (fun i σ=>(i≤xs.length∧(∀c∈xs.take i,named c.name=true)∧((xs.map DField.name).take i).Nodup)∧ ∃nz,heads [0,5,6,7] 0 σ=⟨tmps 24 [(0,x),(5,x),(6,.int .i64 xs.length),(7,.int .i64 i)],⟨stk++[cur],[],nz,[]::live,fl⟩⟩) (fun i=>xs.length-i) 0 ?_ ?_
 ·refine⟨⟨w0c _,by simp,by simp⟩,?_⟩
  simp only[go_sem,reduceCtorEq,G0,G1]
  exact⟨_,rfl⟩
 ·rintro i σ ⟨⟨hi,ht,hd⟩,nz,hσ⟩
  rw[hσ]
  clear hσ σ
  dsimp only at hi ht hd⊢
  by_cases h:i<xs.length
  ·have e1:nth x i= .agg [.str xs[i].name,.int .i64 xs[i].typ]:=hx.nth h
   obtain⟨y,hy,hys⟩:=IsSl.upto hx h
   simp only[go_sem,reduceCtorEq,G3,G0,G1,G2,w03,h,hx.at _ h,e1,(kG _ _).eq]
   cases hc:named xs[i].name
   ·simp only[go_sem,reduceCtorEq,G0,G2]
    rw[z6 rfl rfl,z8]
    exact⟨⟨_,rfl⟩,by rw[ze fun h'=>by have:=h'.1 _ (w07 h);rw[hc] at this;cases this]⟩
   ·have hcall:=fun nz'=>(XM (xs.take i) y hys xs[i].name xs[i].typ ⟨stk++[cur],[⟨nz,[.str xs[i].name,.int .i64 xs[i].typ]⟩],nz',[]::live,fl⟩ (stk++[cur]).length nz (w0b _) (by simp[Mem.blk,Mem.row])).eq
    simp only[go_sem,reduceCtorEq,G0,G2,hy,hcall]
    cases ha:(xs.take i).any (·.name==xs[i].name)
    ·simp only[go_sem,reduceCtorEq,G0,G2,zb h hx.max]
     refine⟨i+1,by omega,⟨h,zj (P:=fun c=>named c.name=true) h ht hc,?_⟩,_,rfl⟩
     refine jD (by rw[hml];exact h) hd fun z hz=> ?_
     rw[←List.map_take,w36] at hz
     obtain⟨f,hf,rfl⟩:=hz
     have:=List.any_eq_false.1 ha f hf
     simpa using this
    ·simp only[go_sem,reduceCtorEq,G0,G2]
     rw[z6 rfl rfl,z8]
     refine⟨⟨_,rfl⟩,congrArg AV.bool (ze fun h'=> ?_).symm⟩
     obtain⟨f,hf,he⟩:=List.any_eq_true.1 ha
     obtain⟨j,hj,rfl⟩:=List.mem_take_iff_getElem.1 hf
     exact Zt (l:=xs.map DField.name) (i:=i) (k:=j) (by omega) (by rw[hml];exact h) (by simpa using he) h'.2
  ·have:i=xs.length:=by omega
   subst this
   rw[w0a] at ht
   rw[←hml,w0a] at hd
   simp only[go_sem,reduceCtorEq,G0,G1,G2,w03,h]
   rw[z6 rfl rfl,z8]
   exact⟨⟨_,rfl⟩,by rw[zB ⟨ht,hd⟩]⟩
def HeadP (n:Nat) (f:DFunc):Prop:=named f.name=true∧(f.slots.length:Int)≤16∧NamesP f.slots∧0≤f.params∧f.params≤f.slots.length∧ -1≤f.result∧f.result<n
def FuncP (n:Nat) (f:DFunc):Prop:=HeadP n f∧(∀s∈f.slots,0≤s.typ∧s.typ<n)∧(∀x∈f.code,InstrP x)∧1≤f.code.length∧f.code.length≤200∧FineR f.sizes f.code.length∧FineR f.lives f.code.length
theorem z3h {l:List DField} {k:Int}:FieldsP l k↔(l.length:Int)≤k∧NamesP l:=Iff.rfl
theorem z4Q {l:List DRun} {n:Int}:(err08 l n==0)=pb (1≤n∧n≤200∧FineR l n):=by
 unfold err08
 refine ko ?_
 by_cases h:n<1∨n>200
 ·rw[if_pos h];simp;omega
 ·rw[if_neg h]
  cases hp:pb (FineR l n)
  ·have:=U1.1 hp
   simp[this]
  ·have:=Y0.1 hp
   simp[this];omega
theorem Q0 {x:DInstr} (h:WfInstr x):WfI x:=⟨h.a,h.b,h.c⟩
theorem Uu (l:List DTyp) (x:AV) (hx:IsSl IsTyp 4 l x) (f:DFunc) (y:AV) (hy:IsFunc f y) (hw:WfFunc f) (m:Mem) (hfl:m.floor≤m.stk.length+1):Okv tab qB [x,y] m (.bool (pb (FuncP l.length f))):=by
 refine zh UA ?_
 obtain⟨stk,cur,nx,live,fl⟩:=m
 dsimp only at hfl
 have hfl':fl≤(stk++[cur]).length+1:=by simp;omega
 have hlx:=hx.len
 obtain⟨name,params,result,slots,code,sizes,lives⟩:=f
 obtain⟨w0,w1,w2,w3,rfl,q0,q1,q2,q3⟩:=hy
 dsimp only at q0 q1 q2 q3
 generalize l.length=n at*
 have hN:=fun m=>(kG name m).eq
 have hI:=fun m=>(z0I slots w0 q0 m).eq
 have hl0:=q0.len
 simp only[qz,List.map,go_sem,reduceCtorEq,G3,G0,G2,hN]
 by_cases hA:HeadP n ⟨name,params,result,slots,code,sizes,lives⟩
 ·obtain⟨a1,a2,a3,a4,a5,a6,a7⟩:=hA
  have hA:HeadP n ⟨name,params,result,slots,code,sizes,lives⟩:=⟨a1,a2,a3,a4,a5,a6,a7⟩
  dsimp only at a1 a2 a3 a4 a5 a6 a7
  simp only[go_sem,reduceCtorEq,G0,G2,a1,hl0,show¬(slots.length:Int)>16 by omega,hI,zB a3,show¬params<0 by omega,show¬params>slots.length by omega,show¬result< -1 by omega,hlx,show¬result≥n by omega]
  refine zc (α:=Nat) (fun i σ=>(i≤slots.length∧ ∀s∈slots.take i,0≤s.typ∧s.typ<n)∧ ∃nz,heads [0,3,51,52,53] 1 σ=⟨tmps 95 [(0,x),(3,.ptr (stk++[cur]).length 0 nx 0),(51,w0),(52,.int .i64 slots.length),(53,.int .i64 i)],⟨stk++[cur],[⟨nx,[.str name,.int .i64 params,.int .i64 result,w0,w1,w2,w3]⟩],nz,[]::live,fl⟩⟩) (fun i=>slots.length-i) 0 ?_ ?_
  ·refine⟨⟨w0c _,by simp⟩,?_⟩
   simp only[go_sem,reduceCtorEq,G0,G1]
   exact⟨_,rfl⟩
  ·rintro i σ ⟨⟨hi,ht⟩,nz,hσ⟩
   rw[hσ]
   clear hσ σ
   dsimp only at hi ht⊢
   by_cases h:i<slots.length
   ·have e1:nth w0 i= .agg [.str slots[i].name,.int .i64 slots[i].typ]:=q0.nth h
    have hat:=q0.at .i64 h
    have hsucc:=zb h q0.max
    have hlen0:=q0.len
    by_cases hf:0≤slots[i].typ∧slots[i].typ<n
    ·simp only[go_sem,reduceCtorEq,G3,G0,G1,G2,w03,h,hat,e1,show¬slots[i].typ<0 by omega,hlx,show¬slots[i].typ≥n by omega,hsucc]
     exact⟨i+1,by omega,⟨h,zj (P:=fun s=>0≤s.typ∧s.typ<n) h ht hf⟩,_,rfl⟩
    ·simp only[go_sem,reduceCtorEq,G3,G0,G1,G2,w03,h,hat,e1]
     repeat' (((first|refine zD ?_ ?_|refine zq ?_ ?_|refine zr ?_ ?_|refine zo ?_ ?_|refine zp ?_ ?_)<;>intro hq)<;>simp only[go_sem,reduceCtorEq,G0,G2,hq,hlx])
     all_goals first
      |(rw[z6 rfl rfl,z8];exact⟨⟨_,rfl⟩,congrArg AV.bool (ze fun h'=>hf (h'.2.1 _ (w07 h))).symm⟩)
      |(exfalso;simp only[decide_eq_false_iff_not] at*;omega)
   ·have:i=slots.length:=by omega
    subst this
    rw[w0a] at ht
    simp only[go_sem,reduceCtorEq,G0,G1,G2,w03,h,q1.len]
    refine zc (α:=Nat) (fun i σ=>(i≤code.length∧ ∀s∈code.take i,InstrP s)∧ ∃nz,heads [3,69,70,71] 1 σ=⟨tmps 95 [(3,.ptr (stk++[cur]).length 0 nx 0),(69,w1),(70,.int .i64 code.length),(71,.int .i64 i)],⟨stk++[cur],[⟨nx,[.str name,.int .i64 params,.int .i64 result,w0,w1,w2,w3]⟩],nz,[]::live,fl⟩⟩) (fun i=>code.length-i) 0 ?_ ?_
    ·refine⟨⟨w0c _,by simp⟩,?_⟩
     simp only[go_sem,reduceCtorEq,G0,G1]
     exact⟨_,rfl⟩
    ·rintro i σ ⟨⟨hi,hc⟩,nz,hσ⟩
     rw[hσ]
     clear hσ σ
     dsimp only at hi hc⊢
     by_cases h:i<code.length
     ·have e1:nth w1 i= .agg [.int .u8 code[i].op,.int .i64 code[i].a,.int .i64 code[i].b,.int .i64 code[i].c]:=q1.nth h
      have hat:=q1.at .i64 h
      have hsucc:=zb h q1.max
      have hwi:=Q0 (hw.code _ (w07 h))
      have hchk:=fun c nz=>(kj code[i] ⟨stk++[cur],c,nz,[]::live,fl⟩ hfl').eq
      by_cases hf:InstrP code[i]
      ·rw[jL hf] at hchk
       simp only[go_sem,G3,G0,G1,G2,w03,h,hat,e1,hchk,show((0:Int) !=0)=false from rfl,hsucc]
       exact⟨i+1,by omega,⟨h,zj (P:=fun s=>InstrP s) h hc hf⟩,_,rfl⟩
      ·rw[xb hf] at hchk
       simp only[go_sem,G3,G0,G1,G2,w03,h,hat,e1,hchk,show((8:Int) !=0)=true from rfl]
       rw[z6 rfl rfl,z8]
       exact⟨⟨_,rfl⟩,congrArg AV.bool (ze fun h'=>hf (h'.2.2.1 _ (w07 h))).symm⟩
     ·have:i=code.length:=by omega
      subst this
      rw[w0a] at hc
      have hT2:=fun m=>(ju sizes w2 q2 code.length m).eq
      have hT3:=fun m=>(ju lives w3 q3 code.length m).eq
      simp only[go_sem,G0,G1,G2,w03,h,q1.len,hT2,z4Q]
      repeat' (((first|refine zD ?_ ?_|refine zq ?_ ?_|refine zr ?_ ?_|refine zo ?_ ?_|refine zp ?_ ?_)<;>intro hq)<;>simp only[go_sem,G0,G2,hq,q1.len,hT3,z4Q])
      all_goals
       rw[z6 rfl rfl,z8]
       refine⟨⟨_,rfl⟩,congrArg AV.bool (ko ?_)⟩
       simp only[Y0,U1] at*
       unfold FuncP
       dsimp only
       clear hT2 hT3
       grind
 ·repeat' (((first|refine zD ?_ ?_|refine zq ?_ ?_|refine zr ?_ ?_|refine zo ?_ ?_|refine zp ?_ ?_)<;>intro hq)<;>simp only[go_sem,reduceCtorEq,G0,G2,hq,hl0,hI,hlx])
  all_goals first
   |(rw[z6 rfl rfl,z8];exact⟨⟨_,rfl⟩,congrArg AV.bool (ze fun h'=>hA h'.1).symm⟩)
   |(exfalso;apply hA;unfold HeadP;simp only[decide_eq_false_iff_not,Y0,Bool.not_eq_false'] at*;clear hN hI;grind)
theorem Ut (l:List DTyp) (x:AV) (hx:IsSl IsTyp 4 l x) (f:DFunc) (y:AV) (hy:IsFunc f y) (hw:WfFunc f) (m:Mem):Okv tab xS [x,y] m (.bool (pb (FuncP l.length f))):=by
 refine zh kI ?_
 obtain⟨stk,cur,nx,live,fl⟩:=m
 have hlx:=hx.len
 obtain⟨name,params,result,slots,code,sizes,lives⟩:=f
 obtain⟨w0,w1,w2,w3,rfl,q0,q1,q2,q3⟩:=hy
 dsimp only at q0 q1 q2 q3
 generalize l.length=n at*
 have hN:=fun m=>(qn name hw.name m).eq
 have hI:=fun m=>(tT slots 16 w0 q0 (fun f hf=>(hw.slots f hf).name) m).eq
 have hl0:=q0.len
 have hl1:=q1.len
 simp only[xJ,List.map,go_sem,reduceCtorEq,G3,G0,G2,hN]
 by_cases hA:HeadP n ⟨name,params,result,slots,code,sizes,lives⟩∧1≤code.length∧code.length≤200
 ·obtain⟨⟨a1,a2,a3,a4,a5,a6,a7⟩,a8,a9⟩:=hA
  have hA:HeadP n ⟨name,params,result,slots,code,sizes,lives⟩:=⟨a1,a2,a3,a4,a5,a6,a7⟩
  dsimp only at a1 a2 a3 a4 a5 a6 a7
  have hfp:FieldsP slots 16:=⟨a2,a3⟩
  simp only[go_sem,reduceCtorEq,G0,G2,a1,hI,zB hfp,show¬params<0 by omega,hl0,show¬params>slots.length by omega,show¬result< -1 by omega,hlx,show¬result≥n by omega,hl1,show¬(code.length:Int)<1 by omega,show¬(code.length:Int)>200 by omega]
  refine zc (α:=Nat) (fun i σ=>(i≤slots.length∧ ∀s∈slots.take i,0≤s.typ∧s.typ<n)∧ ∃nz,heads [0,3,5] 1 σ=⟨tmps 107 [(0,x),(3,.ptr (stk++[cur]).length 0 nx 0),(5,.int .i64 i)],⟨stk++[cur],[⟨nx,[.str name,.int .i64 params,.int .i64 result,w0,w1,w2,w3]⟩],nz,[]::live,fl⟩⟩) (fun i=>slots.length-i) 0 ?_ ?_
  ·refine⟨⟨w0c _,by simp⟩,?_⟩
   simp only[go_sem,reduceCtorEq,G0,G1]
   exact⟨_,rfl⟩
  ·rintro i σ ⟨⟨hi,ht⟩,nz,hσ⟩
   rw[hσ]
   clear hσ σ
   dsimp only at hi ht⊢
   by_cases h:i<slots.length
   ·have e1:nth w0 i= .agg [.str slots[i].name,.int .i64 slots[i].typ]:=q0.nth h
    have hat:=q0.at .i64 h
    have hsucc:=zb h q0.max
    have hlen0:=q0.len
    by_cases hf:0≤slots[i].typ∧slots[i].typ<n
    ·simp only[go_sem,reduceCtorEq,G0,G1,G2,w03,h,hlen0,hat,e1,show¬slots[i].typ<0 by omega,hlx,show¬slots[i].typ≥n by omega,hsucc]
     exact⟨i+1,by omega,⟨h,zj (P:=fun s=>0≤s.typ∧s.typ<n) h ht hf⟩,_,rfl⟩
    ·simp only[go_sem,reduceCtorEq,G0,G1,G2,w03,h,hlen0,hat,e1]
     repeat' (((first|refine zD ?_ ?_|refine zq ?_ ?_|refine zr ?_ ?_|refine zo ?_ ?_|refine zp ?_ ?_)<;>intro hq)<;>simp only[go_sem,reduceCtorEq,G0,G2,hq,hat,e1,hlx])
     all_goals first
      |(rw[z6 rfl rfl,z8];exact⟨⟨_,rfl⟩,congrArg AV.bool (ze fun h'=>hf (h'.2.1 _ (w07 h))).symm⟩)
      |(exfalso;simp only[decide_eq_false_iff_not] at*;omega)
   ·have:i=slots.length:=by omega
    subst this
    rw[w0a] at ht
    simp only[go_sem,reduceCtorEq,G0,G1,G2,w03,h,q0.len]
    refine zc (α:=Nat) (fun i σ=>(i≤code.length∧ ∀s∈code.take i,InstrP s)∧ ∃nz,heads [3,6] 1 σ=⟨tmps 107 [(3,.ptr (stk++[cur]).length 0 nx 0),(6,.int .i64 i)],⟨stk++[cur],[⟨nx,[.str name,.int .i64 params,.int .i64 result,w0,w1,w2,w3]⟩],nz,[]::live,fl⟩⟩) (fun i=>code.length-i) 0 ?_ ?_
    ·refine⟨⟨w0c _,by simp⟩,?_⟩
     simp only[go_sem,reduceCtorEq,G0,G1]
     exact⟨_,rfl⟩
    ·rintro i σ ⟨⟨hi,hc⟩,nz,hσ⟩
     rw[hσ]
     clear hσ σ
     dsimp only at hi hc⊢
     by_cases h:i<code.length
     ·have e1:nth w1 i= .agg [.int .u8 code[i].op,.int .i64 code[i].a,.int .i64 code[i].b,.int .i64 code[i].c]:=q1.nth h
      have hat:=q1.at .i64 h
      have hsucc:=zb h q1.max
      have hwi:=Q0 (hw.code _ (w07 h))
      have hchk:=fun m=>(z0G code[i] hwi m).eq
      by_cases hf:InstrP code[i]
      ·rw[jL hf] at hchk
       simp only[go_sem,G3,G0,G1,G2,w03,h,q1.len,hat,e1,hchk,show((0:Int) !=0)=false from rfl,hsucc]
       exact⟨i+1,by omega,⟨h,zj (P:=fun s=>InstrP s) h hc hf⟩,_,rfl⟩
      ·rw[xb hf] at hchk
       simp only[go_sem,G3,G0,G1,G2,w03,h,q1.len,hat,e1,hchk,show((8:Int) !=0)=true from rfl]
       rw[z6 rfl rfl,z8]
       exact⟨⟨_,rfl⟩,congrArg AV.bool (ze fun h'=>hf (h'.2.2.1 _ (w07 h))).symm⟩
     ·have:i=code.length:=by omega
      subst this
      rw[w0a] at hc
      have hT2:=fun m=>(VO sizes w2 q2 code.length m).eq
      have hT3:=fun m=>(VO lives w3 q3 code.length m).eq
      simp only[go_sem,G0,G1,G2,w03,h,q1.len,hT2]
      repeat' (((first|refine zD ?_ ?_|refine zq ?_ ?_|refine zr ?_ ?_|refine zo ?_ ?_|refine zp ?_ ?_)<;>intro hq)<;>simp only[go_sem,G0,G2,hq,q1.len,hT3])
      all_goals
       rw[z6 rfl rfl,z8]
       refine⟨⟨_,rfl⟩,congrArg AV.bool (ko ?_)⟩
       simp only[Y0,U1] at*
       unfold FuncP
       dsimp only
       clear hT2 hT3
       grind
 ·repeat' (((first|refine zD ?_ ?_|refine zq ?_ ?_|refine zr ?_ ?_|refine zo ?_ ?_|refine zp ?_ ?_)<;>intro hq)<;>simp only[go_sem,reduceCtorEq,G0,G2,hq,hl0,hI,hlx,hl1])
  all_goals first
   |(rw[z6 rfl rfl,z8];exact⟨⟨_,rfl⟩,congrArg AV.bool (ze fun h'=>hA ⟨h'.1,h'.2.2.2.1,h'.2.2.2.2.1⟩).symm⟩)
   |(exfalso;apply hA;unfold HeadP;simp only[decide_eq_false_iff_not,Y0,z3h,Bool.not_eq_false'] at*;clear hN hI;grind)
def in0:DInstr:=⟨0,0,0,0⟩
def insAt (l:List DInstr) (k:Nat):DInstr:=l.getD k in0
theorem ZG {l:List DInstr} {j:Nat} (h:j<l.length):l[j]=insAt l j:=by simp[insAt,w02,h]
def codes (l:List DInstr):Nat→List UInt8
 |0=>[]
 |k+1=>codes l k++cod6 (insAt l k)
theorem z0m {x:DInstr} (h:InstrP x) (hw:WfI x):(cod6 x).length≤31:=by
 have hx:=h
 obtain⟨a,b,c,hs,_⟩:=hx
 exact WZ hs h hw 3 (w0b _)
theorem jt {l:List DInstr} (h: ∀x∈l,InstrP x) (hw: ∀x∈l,WfInstr x): ∀k,k≤l.length→(codes l k).length≤31*k
 |0,_=>by simp[codes]
 |k+1,hk=>by
  have ih:=jt h hw k (by omega)
  have hm:=w07 (show k<l.length by omega)
  have:=z0m (h _ hm) (Q0 (hw _ hm))
  rw[ZG (by omega)] at this
  simp only[codes,w05];omega
def funB (f:DFunc):List UInt8:=said f.name++(minimal f.params.toNat++(minimal (zigzag f.result)++(flds f.slots f.slots.length++(minimal f.code.length++(codes f.code f.code.length++(cod8 f.sizes f.sizes.length++cod8 f.lives f.lives.length))))))
theorem z03 {n:Nat} {f:DFunc} (h:FuncP n f) (hn:n≤32):FOk f.slots:=by
 obtain⟨⟨h1,h2,h3,h4,h5,h6,h7⟩,h8,_⟩:=h
 refine⟨by omega,fun s hs=> ?_⟩
 have:=Zu (h3.1 s hs)
 have:=h8 s hs
 omega
theorem z0a {l:List DRun} {n:Int} (h:FineR l n): ∀k,k<l.length→(k:Int)≤(runAt l k).frm
 |0,_=>by rw[h.2.1];omega
 |k+1,hk=>by
  have ih:=z0a h k (by omega)
  have:=((h.2.2 (k+1) hk).2 (by omega)).1
  simp only[Nat.add_sub_cancel] at this;omega
theorem qw {l:List DRun} {n:Int} (h:FineR l n) (hn:n≤200):l.length≤200:=by
 have h0:=h.1
 have h1:=z0a h (l.length-1) (by omega)
 have h2:=(h.2.2 (l.length-1) (by omega)).1
 omega
theorem l02:((0:Int)<((2:Nat):Int))=True:=eq_true (by decide)
theorem l12:((1:Int)<((2:Nat):Int))=True:=eq_true (by decide)
theorem l22:((2:Int)<((2:Nat):Int))=False:=eq_false (by decide)
theorem z5j (f:DFunc) (x:AV) (hx:IsFunc f x) (hwf:WfFunc f) (nt:Nat) (hnt:nt≤32) (hf:FuncP nt f) (m:Mem) {lv k st i:Nat} {y:AV} {b:List UInt8} {post:List (List Nat)} (ha:At m lv k st i y b post) (hb:b.length≤700000):
  Writes yV [.ptr lv k st 0,x] lv k st i y b (funB f) post (.int .i64 0) m:=by
 have hfo:=z03 hf hnt
 obtain⟨name,params,result,slots,code,sizes,lives⟩:=f
 obtain⟨w0,w1,w2,w3,rfl,q0,q1,q2,q3⟩:=hx
 obtain⟨⟨g1,g2,g3,g4,g5,g6,g7⟩,g8,g9,g10,g11,g12,g13⟩:=hf
 dsimp only at q0 q1 q2 q3 g1 g2 g3 g4 g5 g6 g7 g8 g9 g10 g11 g12 g13 hfo
 have hnl:=Zu g1
 have hres:in64 result:=hwf.result
 suffices h:Does tab yV [.ptr lv k st 0,.agg [.str name,.int .i64 params,.int .i64 result,w0,w1,w2,w3]] m fun v m'=> ∃y' n' live',v= .int .i64 0∧m'=wrote m lv k st y' n' live'∧WrL i y' (b++funB ⟨name,params,result,slots,code,sizes,lives⟩) live' post by
  obtain⟨z,h1,y',n',l',h2,h3,h4⟩:=h
  exact⟨y',n',l',by rw[h1,←h2,←h3],h4⟩
 refine zV Zo ?_ (Nat.le_of_ble_eq_true rfl)
 obtain⟨stk,cur,nx,live,fl⟩:=m
 obtain⟨hlv,hblk,hfl,hW⟩:=ha
 dsimp only at hlv hfl hW
 have hrow:=VW hblk (by omega)
 have hk:k<((stk++[cur]).getD lv []).length:=(w06.1 hrow).1
 have hid:=z42 hrow
 have hlv':lv≤stk.length:=by omega
 have hne:(lv==(stk++[cur]).length)=false:=by simp;omega
 have hsub:(stk++[cur]).length-lv=i+1:=by simp;omega
 have hlev: ∀y,lv+(i+1)=(rw' stk cur lv k st y).length:=fun y=>by rw[yy];simp;omega
 have hget: ∀y,((rw' stk cur lv k st y).getD lv [])[k]? =some ⟨st,[y]⟩:=fun y=>Vx hlv' hk
 have hat: ∀y b c nz L,WrL (i+1) y b L post→At ⟨rw' stk cur lv k st y,c,nz,L,fl⟩ lv k st (i+1) y b post:=fun y b c nz L h=>⟨hlev y,z3r hlv' hk,hfl,h⟩
 have hlr: ∀y,fl≤(rw' stk cur lv k st y).length+1:=fun y=>by rw[yy];simp;omega
 have hflr: ∀y,max fl ((stk++[cur]).length+1)≤(rw' stk cur lv k st y).length+1:=fun y=>by rw[yy];simp;omega
 have m1:=qP (s:=name) (by omega)
 have m2:=zg (n:=params.toNat) (by omega)
 have m3:=zg (qr hres)
 have m4:=qU hfo slots.length (w0b _)
 have m5:=zg (n:=code.length) (by omega)
 have m6:=jt g9 hwf.code code.length (w0b _)
 have r1:=qw g12 (by omega)
 have r2:=qw g13 (by omega)
 have m7:=qa g12 (by omega) hwf.sizes (by omega) sizes.length (w0b _)
 have m8:=qa g13 (by omega) hwf.lives (by omega) lives.length (w0b _)
 have hfo16:=hfo.1
 simp only[vb,List.map,go_sem,reduceCtorEq,G3,G0,G2]
 simp only[hid]
 obtain⟨y1,n1,l1,hc1,hW1⟩:=z5f name (by omega) _ (hat y b [⟨nx,[.str name,.int .i64 params,.int .i64 result,w0,w1,w2,w3]⟩] (nx+1) _ (WrL.enter hW)) (by omega)
 rw[xa hlv'] at hc1
 obtain⟨y2,n2,l2,hc2,hW2⟩:=uh params.toNat (by omega) _ (hat y1 _ [⟨nx,[.str name,.int .i64 params,.int .i64 result,w0,w1,w2,w3]⟩] n1 l1 hW1) (by simp only[w05];omega)
 rw[xa hlv',w45 g4] at hc2
 simp only[go_sem,reduceCtorEq,G0,G2,yy,hc1,hc2,hne,hget]
 refine to (Vb result hres _ _ _ _ _ (hflr y2)) fun yv ts nv hov=> ?_
 obtain⟨zs,hz,hcz⟩:=hov.elems
 obtain⟨y3,n3,l3,o3,l4,happ,hcl,hone,hsk,hW3⟩:=WrL.app (hW2.push ts) hz hcz (by simp only[w05];omega) nv
 have hW3:=WrL.cons o3 hW3
 simp only[go_sem,reduceCtorEq,G0,G2,yy,hne,hget,happ,hcl,hone,hfl,hsub,hsk,W6]
 obtain⟨y4,n4,l5,hc4,hW4⟩:=z3A slots w0 q0 hfo _ (hat y3 _ [⟨nx,[.str name,.int .i64 params,.int .i64 result,w0,w1,w2,w3]⟩] n3 (o3::l4) hW3) (by simp only[w05];omega)
 rw[xa hlv'] at hc4
 obtain⟨y5,n5,l6,hc5,hW5⟩:=uh code.length (by omega) _ (hat y4 _ [⟨nx,[.str name,.int .i64 params,.int .i64 result,w0,w1,w2,w3]⟩] n4 l5 hW4) (by simp only[w05];omega)
 rw[xa hlv'] at hc5
 simp only[go_sem,reduceCtorEq,G0,G2,yy,hc4,hc5,q1.len]
 have hbl:(b++said name++minimal params.toNat++minimal (zigzag result)++flds slots slots.length++minimal code.length).length≤800000:=by simp only[w05];omega
 generalize hB:b++said name++minimal params.toNat++minimal (zigzag result)++flds slots slots.length++minimal code.length=B at*
 refine zc (α:=Nat) (fun j σ=>j≤code.length∧ ∃nz y L,WrL (i+1) y (B++codes code j) L post∧heads [0,3,42,43,44] 1 σ=⟨tmps 97 [(0,.ptr lv k st 0),(3,.ptr (stk++[cur]).length 0 nx 0),(42,w1),(43,.int .i64 code.length),(44,.int .i64 j)],⟨rw' stk cur lv k st y,[⟨nx,[.str name,.int .i64 params,.int .i64 result,w0,w1,w2,w3]⟩],nz,L,fl⟩⟩) (fun j=>code.length-j) 0 ?_ ?_
 ·refine⟨w0c _,n5,y5,l6,by simpa [codes] using hW5,?_⟩
  simp only[go_sem,reduceCtorEq,G0,G1]
  rfl
 ·rintro j σ ⟨hj,nz,y6,L,hW6,hσ⟩
  rw[hσ]
  clear hσ σ
  dsimp only at hj⊢
  by_cases h:j<code.length
  ·have hmem:=w07 h
   have hins:=g9 _ hmem
   have hwi:=Q0 (hwf.code _ hmem)
   have hop:=(hwf.code _ hmem).op
   have e1:nth w1 j= .agg [.int .u8 (insAt code j).op,.int .i64 (insAt code j).a,.int .i64 (insAt code j).b,.int .i64 (insAt code j).c]:=by
    have:IsInstr code[j] (nth w1 j):=q1.nth h
    rw[ZG h] at this;exact this
   have hatv:=q1.at .i64 h
   have hsucc:=zb h q1.max
   have hcl2:=jt g9 hwf.code j (by omega)
   rw[ZG h] at hins hwi hop
   have hc6:=z0m hins hwi
   simp only[go_sem,reduceCtorEq,G3,G0,G1,G2,w03,h,hatv,e1,yy]
   refine(z2j (insAt code j) hop hwi hins _ (hlr y6)).xv fun yb ts nb hob=> ?_
   obtain⟨zs,hz,hcz⟩:=hob.elems
   obtain⟨y7,n7,l7,o7,l8,happ,hcl,hone,hsk,hW7⟩:=WrL.app (hW6.push ts) hz hcz (by simp only[w05];omega) nb
   have hW7:=WrL.cons o7 hW7
   simp only[go_sem,reduceCtorEq,G0,G2,show((0:Int) !=0)=false from rfl,yy,hne,hget,happ,hcl,hone,hfl,hsub,hsk,W6,hsucc]
   refine⟨j+1,by omega,h,n7,y7,o7::l8,?_,rfl⟩
   rw[codes,←w0f];exact hW7
  ·have:j=code.length:=by omega
   subst this
   have c2:=q2.refs_cells
   have c3:=q3.refs_cells
   have hi0:evIaddr 1 (.list 1 .full [w2,w3]) (.int .i64 0)=some (.ro w2.cells):=rfl
   have hi1:evIaddr 1 (.list 1 .full [w2,w3]) (.int .i64 1)=some (.ro w3.cells):=rfl
   simp only[go_sem,reduceCtorEq,G3,G0,G1,G2,w03,h,yy,c2,c3,q2.one,q3.one,evLen]
   rw[yr]
   simp only[go_sem,reduceCtorEq,G0,G1,G2,l02,hi0,c2,yy,q1.len]
   refine(Yz sizes w2 q2 code.length g12 (by omega) (by omega) hwf.sizes (by omega) _ (hlr y6)).xv fun yb ts nb hob=> ?_
   obtain⟨zs,hz,hcz⟩:=hob.elems
   obtain⟨y7,n7,l7,o7,l8,happ,hcl,hone,hsk,hW7⟩:=WrL.app (hW6.push ts) hz hcz (by simp only[w05];omega) nb
   have hW7:=WrL.cons o7 hW7
   simp only[go_sem,reduceCtorEq,G0,G2,show((0:Int) !=0)=false from rfl,yy,hne,hget,happ,hcl,hone,hfl,hsub,hsk,W6,w01]
   rw[yr]
   simp only[go_sem,reduceCtorEq,G0,G1,G2,l12,hi1,c3,yy,q1.len]
   refine(Yz lives w3 q3 code.length g13 (by omega) (by omega) hwf.lives (by omega) _ (hlr y7)).xv fun yb2 ts2 nb2 hob2=> ?_
   obtain⟨zs2,hz2,hcz2⟩:=hob2.elems
   obtain⟨y8,n8,l9,o8,l10,happ2,hcl2,hone2,hsk2,hW8⟩:=WrL.app (hW7.push ts2) hz2 hcz2 (by simp only[w05];omega) nb2
   rw[yx] at happ2
   simp only[go_sem,reduceCtorEq,G0,G2,show((0:Int) !=0)=false from rfl,yy,hne,hget,happ2,hcl2,hone2,hfl,hsub,hsk2,W6,w12]
   rw[yr]
   simp only[go_sem,reduceCtorEq,G0,G1,G2,l22]
   rw[Wl hlv' rfl rfl nx live,z8]
   refine⟨y8,n8,l10,rfl,rfl,?_⟩
   subst hB
   unfold funB
   simp only[w0f] at hW8⊢
   exact hW8
end Go.Proofs.W
end
