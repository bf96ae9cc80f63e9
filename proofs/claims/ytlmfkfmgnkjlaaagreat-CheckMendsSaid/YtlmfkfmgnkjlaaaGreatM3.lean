/-
  Part 4 of the proof, shared by claims of this seat: R8S17, NDt, R8S18, R8S22, R8S2, NVr, R8S3, R8S4, R8S5, R8S6, R8S7, R8S8, R8S9, R8S10, R8S11, R8S12, R8S13, NVba, R8C1, R8C2, R8C13, R8SG, R8C27, NVbc, R8T1, R8C4, R8C14, R8S14, R8S15, R8C17, R8C15.
-/
import Derived.Test.YtlmfkfmgnkjlaaaGreatM2
set_option maxHeartbeats 64000000
set_option linter.unusedVariables false
set_option linter.unusedSimpArgs false
open Nat renaming reduceEqDiff → G0, reduceBEq → G1, reduceLT → G2, reduceAdd → G3, reduceLeDiff → G4, reduceSub → G5, reduceMul → G6, reduceBNe → G7, le_refl → w0b, zero_le → w0c, mul_one → w19, lt_or_ge → w46, not_lt_zero → w4f
open Int renaming ofNat_lt → w03, toNat_natCast → w30, toNat_of_nonneg → w45
open Option renaming map_eq_some_iff → w00, map_some → w0d, bind_some → w29, getD_some → w2a
open List renaming getD_eq_getElem?_getD → w02, length_append → w05, getElem?_eq_some_iff → w06, getElem_mem → w07, mem_append → w08, getElem?_append_left → w09, take_length → w0a, append_assoc → w0f, getElem?_eq_getElem → w10, mem_singleton → w13, getElem?_append_right → w14, take_succ_eq_append_getElem → w15, getElem?_eq_none → w16, getElem?_map → w17, eq_nil_of_length_eq_zero → w18, mem_cons_self → w1b, mem_cons_of_mem → w1c, take_succ_cons → w1d, drop_succ_cons → w1e, append_nil → w20, length_take → w21, take_zero → w22, length_singleton → w25, length_cons → w26, map_append → w28, ext_getElem? → w2b, getElem?_set → w2c, flatMap_cons → w2d, length_nil → w2f, cons_append → w31, map_cons → w32, getElem?_modify → w34, mem_cons → w35, mem_map → w36, take_of_length_le → w37, getElem?_replicate → w38, mem_of_getElem? → w3e, getElem?_set_ne → w3f, flatten_cons → w40, nodup_append → w41, getLast?_singleton → w42, mem_append_right → w43, mem_range → w44, modify_eq_take_cons_drop → w47, nil_append → w48, all_eq_true → w49, getLast?_append → w4b, dropLast_concat → w4c, set_cons_succ → w4d, length_map → w4e, mem_filter → w50, replicate_succ → w52, set_cons_zero → w53, getElem?_set_self → w54, take_append_of_le_length → w55
open Bool renaming and_eq_true → w0e, or_eq_false_iff → w4a
section
namespace Go.Proofs.W
open Go.Vs
set_option linter.unusedSimpArgs false
set_option maxRecDepth 100000
theorem z3p {tab:Nat→Option AFunc} {f:Nat} {args:List AV} {m m':Mem} {v:AV} {d:Option Nat} {l:List AOper} {ρ:List AV} {k:Kont} (h:CALL tab f args m=some (v,m')) (q:Xs tab l (setDst ρ d v) m' k):Xv tab (CALL tab f args m) d l ρ k:=by
 rw[h,uU];exact q
def U (lo hi:Int) (r w:Bool):List AV:=[.int .i64 lo,.int .i64 hi,.bool r,.bool w]
theorem W4 (j:Nat) (l:List (List Nat)):sink j [] l=l:=rfl
theorem zcj (m:Mem):Okv tab yo [] m (.agg (U 0 15 true false)):=by
 refine zh z5t ?_
 obtain⟨stk,cur,nx,live,fl⟩:=m
 simp only[VK,List.map,go_sem,reduceCtorEq,G3,G4,G2,evBuild]
 rw[z6 rfl rfl,z8]
 exact⟨⟨_,rfl⟩,rfl⟩
theorem zaA (m:Mem):Okv tab yU [] m (.agg (U 0 15 false true)):=by
 refine zh z3K ?_
 obtain⟨stk,cur,nx,live,fl⟩:=m
 simp only[WE,List.map,go_sem,reduceCtorEq,G3,G4,G2,evBuild]
 rw[z6 rfl rfl,z8]
 exact⟨⟨_,rfl⟩,rfl⟩
theorem zaB (m:Mem):Okv tab WM [] m (.agg (U (-9223372036854775808) 9223372036854775807 false false)):=by
 refine zh z3L ?_
 obtain⟨stk,cur,nx,live,fl⟩:=m
 simp only[WF,List.map,go_sem,reduceCtorEq,G3,G4,G2,evBuild]
 rw[z6 rfl rfl,z8]
 exact⟨⟨_,rfl⟩,rfl⟩
theorem TJ (n:Int) (hn:0≤n∧n≤1000) (m:Mem):Okv tab x9 [.int .i64 n] m (.agg (U 0 (n-1) false false)):=by
 refine zh z3N ?_
 obtain⟨stk,cur,nx,live,fl⟩:=m
 simp only[WH,List.map,go_sem,reduceCtorEq,G3,G0,G4,G2,evBuild,zd (n:=n-1) (by omega) (by omega)]
 rw[z6 rfl rfl,z8]
 exact⟨⟨_,rfl⟩,rfl⟩
theorem z5i (a b:Int) (c d:Bool) (stk:List (List Blk)) (st st2 nx fl:Nat) (live:List (List Nat)) (hf:fl≤stk.length):
  CALL tab zH [.list 4 .full [.agg (U a b c d)],.ptr stk.length 0 st 0,.ptr stk.length 1 st2 0] ⟨stk,[⟨st,U 0 0 false false++U 0 0 false false++U 0 0 false false⟩,⟨st2,[.int .i64 0]⟩],nx,live,fl⟩=
   some (.tup [],⟨stk,[⟨st,U a b c d++U 0 0 false false++U 0 0 false false⟩,⟨st2,[.int .i64 1]⟩],callNx tab zH [.list 4 .full [.agg (U a b c d)],.ptr stk.length 0 st 0,.ptr stk.length 1 st2 0] ⟨stk,[⟨st,U 0 0 false false++U 0 0 false false++U 0 0 false false⟩,⟨st2,[.int .i64 0]⟩],nx,live,fl⟩,live,fl⟩):=by
 suffices h: ∃k,CALL tab zH [.list 4 .full [.agg (U a b c d)],.ptr stk.length 0 st 0,.ptr stk.length 1 st2 0] ⟨stk,[⟨st,U 0 0 false false++U 0 0 false false++U 0 0 false false⟩,⟨st2,[.int .i64 0]⟩],nx,live,fl⟩=some (.tup [],⟨stk,[⟨st,U a b c d++U 0 0 false false++U 0 0 false false⟩,⟨st2,[.int .i64 1]⟩],k,live,fl⟩) by
  obtain⟨k,h⟩:=h
  rw[h];unfold callNx;rw[h]
 suffices h:Does tab zH [.list 4 .full [.agg (U a b c d)],.ptr stk.length 0 st 0,.ptr stk.length 1 st2 0] ⟨stk,[⟨st,U 0 0 false false++U 0 0 false false++U 0 0 false false⟩,⟨st2,[.int .i64 0]⟩],nx,live,fl⟩ fun v m'=> ∃k,v= .tup []∧m'=⟨stk,[⟨st,U a b c d++U 0 0 false false++U 0 0 false false⟩,⟨st2,[.int .i64 1]⟩],k,live,fl⟩ by
  obtain⟨x,h1,k,h2,h3⟩:=h
  exact⟨k,by rw[h1,←h2,←h3]⟩
 refine zV kM ?_ (Nat.le_of_ble_eq_true rfl)
 have hne: ∀z:List Blk,(stk.length==(stk++[z]).length)=false:=fun z=>by simp
 have hg: ∀z:List Blk,(stk++[z]).getD stk.length []=z:=fun z=>by simp
 have hmod: ∀z f,(stk++[z]).modify stk.length f=stk++[f z]:=fun z f=>by
  rw[w47 (by simp)];simp
 simp only[tg,List.map,go_sem,reduceCtorEq,G3,G5,G0,G2,hne,hg,evSliceA,evCopy0,AV.asArr,bound,U,zi,w2d,List.flatMap_nil,hf,hmod,w53,w4d,Nat.zero_mul,G6,W4,show min 1 3=1 from rfl,Nat.succ_ne_zero]
 rw[yK rfl rfl,z8]
 exact⟨_,rfl,rfl⟩
theorem z5h (a b a2 b2:Int) (c d c2 d2:Bool) (stk:List (List Blk)) (st st2 nx fl:Nat) (live:List (List Nat)) (hf:fl≤stk.length):
  CALL tab zH [.list 4 .full [.agg (U a b c d),.agg (U a2 b2 c2 d2)],.ptr stk.length 0 st 0,.ptr stk.length 1 st2 0] ⟨stk,[⟨st,U 0 0 false false++U 0 0 false false++U 0 0 false false⟩,⟨st2,[.int .i64 0]⟩],nx,live,fl⟩=
   some (.tup [],⟨stk,[⟨st,U a b c d++U a2 b2 c2 d2++U 0 0 false false⟩,⟨st2,[.int .i64 2]⟩],callNx tab zH [.list 4 .full [.agg (U a b c d),.agg (U a2 b2 c2 d2)],.ptr stk.length 0 st 0,.ptr stk.length 1 st2 0] ⟨stk,[⟨st,U 0 0 false false++U 0 0 false false++U 0 0 false false⟩,⟨st2,[.int .i64 0]⟩],nx,live,fl⟩,live,fl⟩):=by
 suffices h: ∃k,CALL tab zH [.list 4 .full [.agg (U a b c d),.agg (U a2 b2 c2 d2)],.ptr stk.length 0 st 0,.ptr stk.length 1 st2 0] ⟨stk,[⟨st,U 0 0 false false++U 0 0 false false++U 0 0 false false⟩,⟨st2,[.int .i64 0]⟩],nx,live,fl⟩=some (.tup [],⟨stk,[⟨st,U a b c d++U a2 b2 c2 d2++U 0 0 false false⟩,⟨st2,[.int .i64 2]⟩],k,live,fl⟩) by
  obtain⟨k,h⟩:=h
  rw[h];unfold callNx;rw[h]
 suffices h:Does tab zH [.list 4 .full [.agg (U a b c d),.agg (U a2 b2 c2 d2)],.ptr stk.length 0 st 0,.ptr stk.length 1 st2 0] ⟨stk,[⟨st,U 0 0 false false++U 0 0 false false++U 0 0 false false⟩,⟨st2,[.int .i64 0]⟩],nx,live,fl⟩ fun v m'=> ∃k,v= .tup []∧m'=⟨stk,[⟨st,U a b c d++U a2 b2 c2 d2++U 0 0 false false⟩,⟨st2,[.int .i64 2]⟩],k,live,fl⟩ by
  obtain⟨x,h1,k,h2,h3⟩:=h
  exact⟨k,by rw[h1,←h2,←h3]⟩
 refine zV kM ?_ (Nat.le_of_ble_eq_true rfl)
 have hne: ∀z:List Blk,(stk.length==(stk++[z]).length)=false:=fun z=>by simp
 have hg: ∀z:List Blk,(stk++[z]).getD stk.length []=z:=fun z=>by simp
 have hmod: ∀z f,(stk++[z]).modify stk.length f=stk++[f z]:=fun z f=>by
  rw[w47 (by simp)];simp
 simp only[tg,List.map,go_sem,reduceCtorEq,G3,G5,G0,G2,hne,hg,evSliceA,evCopy0,AV.asArr,bound,U,zi,w2d,List.flatMap_nil,hf,hmod,w53,w4d,Nat.zero_mul,G6,W4,show min 2 3=2 from rfl,Nat.succ_ne_zero]
 rw[yK rfl rfl,z8]
 exact⟨_,rfl,rfl⟩
theorem z5g (a b a2 b2 a3 b3:Int) (c d c2 d2 c3 d3:Bool) (stk:List (List Blk)) (st st2 nx fl:Nat) (live:List (List Nat)) (hf:fl≤stk.length):
  CALL tab zH [.list 4 .full [.agg (U a b c d),.agg (U a2 b2 c2 d2),.agg (U a3 b3 c3 d3)],.ptr stk.length 0 st 0,.ptr stk.length 1 st2 0] ⟨stk,[⟨st,U 0 0 false false++U 0 0 false false++U 0 0 false false⟩,⟨st2,[.int .i64 0]⟩],nx,live,fl⟩=
   some (.tup [],⟨stk,[⟨st,U a b c d++U a2 b2 c2 d2++U a3 b3 c3 d3⟩,⟨st2,[.int .i64 3]⟩],callNx tab zH [.list 4 .full [.agg (U a b c d),.agg (U a2 b2 c2 d2),.agg (U a3 b3 c3 d3)],.ptr stk.length 0 st 0,.ptr stk.length 1 st2 0] ⟨stk,[⟨st,U 0 0 false false++U 0 0 false false++U 0 0 false false⟩,⟨st2,[.int .i64 0]⟩],nx,live,fl⟩,live,fl⟩):=by
 suffices h: ∃k,CALL tab zH [.list 4 .full [.agg (U a b c d),.agg (U a2 b2 c2 d2),.agg (U a3 b3 c3 d3)],.ptr stk.length 0 st 0,.ptr stk.length 1 st2 0] ⟨stk,[⟨st,U 0 0 false false++U 0 0 false false++U 0 0 false false⟩,⟨st2,[.int .i64 0]⟩],nx,live,fl⟩=some (.tup [],⟨stk,[⟨st,U a b c d++U a2 b2 c2 d2++U a3 b3 c3 d3⟩,⟨st2,[.int .i64 3]⟩],k,live,fl⟩) by
  obtain⟨k,h⟩:=h
  rw[h];unfold callNx;rw[h]
 suffices h:Does tab zH [.list 4 .full [.agg (U a b c d),.agg (U a2 b2 c2 d2),.agg (U a3 b3 c3 d3)],.ptr stk.length 0 st 0,.ptr stk.length 1 st2 0] ⟨stk,[⟨st,U 0 0 false false++U 0 0 false false++U 0 0 false false⟩,⟨st2,[.int .i64 0]⟩],nx,live,fl⟩ fun v m'=> ∃k,v= .tup []∧m'=⟨stk,[⟨st,U a b c d++U a2 b2 c2 d2++U a3 b3 c3 d3⟩,⟨st2,[.int .i64 3]⟩],k,live,fl⟩ by
  obtain⟨x,h1,k,h2,h3⟩:=h
  exact⟨k,by rw[h1,←h2,←h3]⟩
 refine zV kM ?_ (Nat.le_of_ble_eq_true rfl)
 have hne: ∀z:List Blk,(stk.length==(stk++[z]).length)=false:=fun z=>by simp
 have hg: ∀z:List Blk,(stk++[z]).getD stk.length []=z:=fun z=>by simp
 have hmod: ∀z f,(stk++[z]).modify stk.length f=stk++[f z]:=fun z f=>by
  rw[w47 (by simp)];simp
 simp only[tg,List.map,go_sem,reduceCtorEq,G3,G5,G0,G2,hne,hg,evSliceA,evCopy0,AV.asArr,bound,U,zi,w2d,List.flatMap_nil,hf,hmod,w53,w4d,Nat.zero_mul,G6,W4,show min 3 3=3 from rfl,Nat.succ_ne_zero]
 rw[yK rfl rfl,z8]
 exact⟨_,rfl,rfl⟩
def lo (c:UInt8):Int:=if c=110 then-9223372036854775808 else if c=103∨c=101 then-1 else 0
def hi (c:UInt8):Int:=if c=110 then 9223372036854775807 else if c=45 then 0 else if c=116∨c=99 then 31 else if c=98 then 1 else if c=102 then 7 else if c=105 then 199 else 15
def rd (c:UInt8):Bool:=c==114||c==101
def wt (c:UInt8):Bool:=c==119||c==103
def useOf (c:UInt8):List AV:=U (lo c) (hi c) (rd c) (wt c)
def cnt (s:List UInt8):Int:=((s.filter fun c=>c !=45).length:Nat)
noncomputable def shapeOf (op:Int):AV:=
 if shp op=[] then .tup [.agg (U 0 0 false false++U 0 0 false false++U 0 0 false false),.int .i64 (-1)] else .tup [.agg ((shp op).flatMap useOf),.int .i64 (cnt (shp op))]
theorem XI (op:Int) (m:Mem) (hf:m.floor≤m.stk.length+1):Okv tab qZ [.int .u8 op] m (shapeOf op):=by
 refine zh z3M ?_
 obtain⟨stk,cur,nx,live,fl⟩:=m
 dsimp only at hf
 have hf':fl≤(stk++[cur]).length:=by simp;omega
 have i0:idx (.int .i64 0) 3=some 0:=rfl
 have i1:idx (.int .i64 1) 3=some 1:=rfl
 have i2:idx (.int .i64 2) 3=some 2:=rfl
 simp only[WG,List.map,go_sem,reduceCtorEq,G0,G2]
 repeat' first|(((first|refine zD ?_ ?_|refine zq ?_ ?_|refine zr ?_ ?_|refine zo ?_ ?_|refine zp ?_ ?_)<;>intro hq)<;>simp only[go_sem,reduceCtorEq,G3,G0,G4,G2,hq,bne_self_eq_false,G7,W4,w53,w4d])|((first|(refine(zcj _).xv fun n=> ?_)|(refine(zaA _).xv fun n=> ?_)|(refine(zaB _).xv fun n=> ?_)|(refine(TJ 32 (by decide) _).xv fun n=> ?_)|(refine(TJ 2 (by decide) _).xv fun n=> ?_)|(refine(TJ 8 (by decide) _).xv fun n=> ?_)|(refine(TJ 200 (by decide) _).xv fun n=> ?_)|(refine z3p (z5i _ _ _ _ _ _ _ _ _ _ hf') ?_)|(refine z3p (z5h _ _ _ _ _ _ _ _ _ _ _ _ _ _ hf') ?_)|(refine z3p (z5g _ _ _ _ _ _ _ _ _ _ _ _ _ _ _ _ _ _ hf') ?_))<;>simp only[go_sem,reduceCtorEq,G3,G0,G4,G2,U,bne_self_eq_false,G7,evIaddrA,i0,i1,i2,G6,W4,w53,w4d])
 all_goals
  simp only[beq_iff_eq,beq_eq_false_iff_ne] at*
  rw[z6 rfl rfl,z8]
  refine⟨⟨_,rfl⟩,?_⟩
  first|(subst op;rfl)|(have hs:shp op=[]:=(by unfold shp;simp[*]);unfold shapeOf;rw[if_pos hs];first|done|rfl)
end Go.Proofs.W
end
section
namespace Go.Vs
def inU64 (n:Int):Prop:=0≤n∧n<18446744073709551616
def inU8 (n:Int):Prop:=0≤n∧n<256
def strOk (s:List UInt8):Prop:=s.length≤9223372036854775807
structure DField where
 name:List UInt8
 typ:Int
 deriving DecidableEq
def IsField (d:DField) (y:AV):Prop:=y= .agg [.str d.name,.int .i64 d.typ]
structure WfField (d:DField):Prop where
 name:strOk d.name
 typ:in64 d.typ
theorem IsField.agg {d:DField} {y:AV} (h:IsField d y):takeV true 2 y.cells=some y∧y.cells.length=2:=by
 obtain rfl:=h
 exact⟨rfl,rfl⟩
structure DTyp where
 kind:Int
 elem:Int
 len:Int
 fields:List DField
 deriving DecidableEq
def IsTyp (d:DTyp) (y:AV):Prop:= ∃v0,y= .agg [.int .u8 d.kind,.int .i64 d.elem,.int .i64 d.len,v0]∧IsSl IsField 2 d.fields v0
structure WfTyp (d:DTyp):Prop where
 kind:inU8 d.kind
 elem:in64 d.elem
 len:in64 d.len
 fields: ∀x∈d.fields,WfField x
theorem IsTyp.agg {d:DTyp} {y:AV} (h:IsTyp d y):takeV true 4 y.cells=some y∧y.cells.length=4:=by
 obtain⟨v0,rfl,_⟩:=h
 exact⟨rfl,rfl⟩
structure DInstr where
 op:Int
 a:Int
 b:Int
 c:Int
 deriving DecidableEq
def IsInstr (d:DInstr) (y:AV):Prop:=y= .agg [.int .u8 d.op,.int .i64 d.a,.int .i64 d.b,.int .i64 d.c]
structure WfInstr (d:DInstr):Prop where
 op:inU8 d.op
 a:in64 d.a
 b:in64 d.b
 c:in64 d.c
theorem IsInstr.agg {d:DInstr} {y:AV} (h:IsInstr d y):takeV true 4 y.cells=some y∧y.cells.length=4:=by
 obtain rfl:=h
 exact⟨rfl,rfl⟩
structure DRun where
 frm:Int
 value:Int
 deriving DecidableEq
def IsRun (d:DRun) (y:AV):Prop:=y= .agg [.int .i64 d.frm,.int .u64 d.value]
structure WfRun (d:DRun):Prop where
 frm:in64 d.frm
 value:inU64 d.value
theorem IsRun.agg {d:DRun} {y:AV} (h:IsRun d y):takeV true 2 y.cells=some y∧y.cells.length=2:=by
 obtain rfl:=h
 exact⟨rfl,rfl⟩
structure DFunc where
 name:List UInt8
 params:Int
 result:Int
 slots:List DField
 code:List DInstr
 sizes:List DRun
 lives:List DRun
 deriving DecidableEq
def IsFunc (d:DFunc) (y:AV):Prop:= ∃v0 v1 v2 v3,y= .agg [.str d.name,.int .i64 d.params,.int .i64 d.result,v0,v1,v2,v3]∧IsSl IsField 2 d.slots v0∧IsSl IsInstr 4 d.code v1∧IsSl IsRun 2 d.sizes v2∧IsSl IsRun 2 d.lives v3
structure WfFunc (d:DFunc):Prop where
 name:strOk d.name
 params:in64 d.params
 result:in64 d.result
 slots: ∀x∈d.slots,WfField x
 code: ∀x∈d.code,WfInstr x
 sizes: ∀x∈d.sizes,WfRun x
 lives: ∀x∈d.lives,WfRun x
theorem IsFunc.agg {d:DFunc} {y:AV} (h:IsFunc d y):takeV true 7 y.cells=some y∧y.cells.length=7:=by
 obtain⟨v0,v1,v2,v3,rfl,_,_,_,_⟩:=h
 exact⟨rfl,rfl⟩
structure DImage where
 types:List DTyp
 texts:List (List UInt8)
 funcs:List DFunc
 deriving DecidableEq
def IsImage (d:DImage) (y:AV):Prop:= ∃v0 v1 v2,y= .agg [v0,v1,v2]∧IsSl IsTyp 4 d.types v0∧IsSl IsStr 1 d.texts v1∧IsSl IsFunc 7 d.funcs v2
structure WfImage (d:DImage):Prop where
 types: ∀x∈d.types,WfTyp x
 texts: ∀x∈d.texts,strOk x
 funcs: ∀x∈d.funcs,WfFunc x
theorem IsImage.agg {d:DImage} {y:AV} (h:IsImage d y):takeV true 3 y.cells=some y∧y.cells.length=3:=by
 obtain⟨v0,v1,v2,rfl,_,_,_⟩:=h
 exact⟨rfl,rfl⟩
structure DRegion where
 base:Int
 bytes:List UInt8
 deriving DecidableEq
def IsRegion (d:DRegion) (y:AV):Prop:= ∃v0,y= .agg [.int .u64 d.base,v0]∧IsSl IsByte 1 d.bytes v0
theorem IsRegion.agg {d:DRegion} {y:AV} (h:IsRegion d y):takeV true 2 y.cells=some y∧y.cells.length=2:=by
 obtain⟨v0,rfl,_⟩:=h
 exact⟨rfl,rfl⟩
structure DRoutine where
 status:Int
 code:Int
 sp:Int
 defers:Int
 panics:Int
 key:Int
 deriving DecidableEq
def IsRoutine (d:DRoutine) (y:AV):Prop:=y= .agg [.int .u8 d.status,.int .u64 d.code,.int .u64 d.sp,.int .u64 d.defers,.int .u64 d.panics,.int .i64 d.key]
theorem IsRoutine.agg {d:DRoutine} {y:AV} (h:IsRoutine d y):takeV true 6 y.cells=some y∧y.cells.length=6:=by
 obtain rfl:=h
 exact⟨rfl,rfl⟩
structure DEnded where
 outcome:Int
 failing:Int
 steps:Int
 deriving DecidableEq
def IsEnded (d:DEnded) (y:AV):Prop:=y= .agg [.int .u8 d.outcome,.int .i64 d.failing,.int .i64 d.steps]
theorem IsEnded.agg {d:DEnded} {y:AV} (h:IsEnded d y):takeV true 3 y.cells=some y∧y.cells.length=3:=by
 obtain rfl:=h
 exact⟨rfl,rfl⟩
structure DDump where
 image:DImage
 ended:DEnded
 heap:DRegion
 stacks:List DRegion
 routines:List DRoutine
 defers:List (List Int)
 panics:List (List Int)
 deriving DecidableEq
def IsDump (d:DDump) (y:AV):Prop:= ∃v0 v1 v2 v3 v4 v5 v6 v7,y= .agg [v0,v1,v2,.int .u8 d.ended.outcome,.int .i64 d.ended.failing,.int .i64 d.ended.steps,.int .u64 d.heap.base,v3,v4,v5,v6,v7]∧IsSl IsTyp 4 d.image.types v0∧IsSl IsStr 1 d.image.texts v1∧IsSl IsFunc 7 d.image.funcs v2∧IsSl IsByte 1 d.heap.bytes v3∧IsSl IsRegion 2 d.stacks v4∧IsSl IsRoutine 6 d.routines v5∧IsSl (IsSl (IsK .u64) 1) 1 d.defers v6∧IsSl (IsSl (IsK .u64) 1) 1 d.panics v7
theorem IsDump.agg {d:DDump} {y:AV} (h:IsDump d y):takeV true 12 y.cells=some y∧y.cells.length=12:=by
 obtain⟨v0,v1,v2,v3,v4,v5,v6,v7,rfl,_,_,_,_,_,_,_,_⟩:=h
 exact⟨rfl,rfl⟩
structure DSection where
 kind:Int
 data:List UInt8
 deriving DecidableEq
def IsSection (d:DSection) (y:AV):Prop:= ∃v0,y= .agg [.int .u8 d.kind,v0]∧IsSl IsByte 1 d.data v0
theorem IsSection.agg {d:DSection} {y:AV} (h:IsSection d y):takeV true 2 y.cells=some y∧y.cells.length=2:=by
 obtain⟨v0,rfl,_⟩:=h
 exact⟨rfl,rfl⟩
structure DFrame where
 start:Int
 func:Int
 at_:Int
 code:Int
 size:Int
 mode:Int
 record:Int
 caller:Int
 deriving DecidableEq
def IsFrame (d:DFrame) (y:AV):Prop:=y= .agg [.int .u64 d.start,.int .i64 d.func,.int .i64 d.at_,.int .u64 d.code,.int .i64 d.size,.int .u64 d.mode,.int .u64 d.record,.int .u64 d.caller]
theorem IsFrame.agg {d:DFrame} {y:AV} (h:IsFrame d y):takeV true 8 y.cells=some y∧y.cells.length=8:=by
 obtain rfl:=h
 exact⟨rfl,rfl⟩
end Go.Vs
end
section
namespace Go.Proofs.W
open Go.Vs
set_option linter.unusedSimpArgs false
set_option maxRecDepth 100000
def shapes:List (List UInt8):=[[119,110,45],[119,116,45],[119,98,45],[119,45,45],[119,114,45],[119,114,114],[119,114,102],[114,102,114],[114,114,45],[114,114,114],[105,45,45],[114,105,45],[114,45,45],[103,99,45],[99,45,45],[119,119,45],[45,45,45],[101,45,45],[]]
theorem z6J (op:Int):shp op∈shapes:=by
 by_cases h:0≤op∧op≤34
 ·have hall: ∀k:Fin 35,shp (k.val:Int)∈shapes:=by decide+kernel
  have:=hall ⟨op.toNat,by omega⟩
  rwa [show((op.toNat:Nat):Int)=op by omega] at this
 ·have:shp op=[]:=by
   unfold shp
   repeat rw[if_neg (by omega)]
  rw[this];decide
theorem z6K (op:Int):shp op=[]∨ ∃a b c,shp op=[a,b,c]:=by
 have h: ∀s∈shapes,s=[]∨s.length=3:=by decide
 rcases h _ (z6J op) with h|h
 ·exact .inl h
 ·right
  match hs:shp op,h with
  | [a,b,c],_=>exact⟨a,b,c,rfl⟩
def letterOk (c:UInt8):Prop:=c=45∨c=119∨c=114∨c=103∨c=101∨c=110∨c=116∨c=98∨c=102∨c=105∨c=99
instance (c:UInt8):Decidable (letterOk c):=by unfold letterOk;exact inferInstance
def lettersB (s:List UInt8):Bool:=match s with
 | [a,b,c]=>decide (letterOk a∧letterOk b∧letterOk c∧(cnt [a,b,c]≤0↔a=45)∧(cnt [a,b,c]≤1↔b=45)∧(cnt [a,b,c]≤2↔c=45))
 |_=>true
theorem T7 {op:Int} {a b c:UInt8} (h:shp op=[a,b,c]):letterOk a∧letterOk b∧letterOk c∧(cnt [a,b,c]≤0↔a=45)∧(cnt [a,b,c]≤1↔b=45)∧(cnt [a,b,c]≤2↔c=45):=by
 have hall: ∀s∈shapes,lettersB s=true:=by decide
 have:=hall _ (z6J op)
 rw[h] at this
 exact of_decide_eq_true this
def opn (x:DInstr):Nat→Int
 |0=>x.a
 |1=>x.b
 |_=>x.c
def fitsK (c:UInt8) (n:Int):Prop:=lo c≤n∧n≤hi c
def InstrP (x:DInstr):Prop:= ∃a b c,shp x.op=[a,b,c]∧fitsK a x.a∧fitsK b x.b∧fitsK c x.c
noncomputable def err06 (x:DInstr):Int:=if pb (InstrP x) then 0 else 8
theorem xb {x:DInstr} (h: ¬InstrP x):err06 x=8:=by unfold err06;rw[ze h];rfl
theorem jL {x:DInstr} (h:InstrP x):err06 x=0:=by unfold err06;rw[zB h];rfl
theorem Uv (c:UInt8) (hc:letterOk c) (n:Int) (hn:in64 n) (m:Mem):Okv tab uK [.int .u8 c.toNat,.int .i64 n] m (.bool (pb (fitsK c n))):=by
 refine zh XX ?_
 obtain⟨stk,cur,nx,live,fl⟩:=m
 have hk: ∀k:UInt8,(((c.toNat:Int))=(k.toNat:Int))↔c=k:=fun k=>by
  rw[Int.ofNat_inj,UInt8.toNat_inj]
 have e45:=hk 45
 have e119:=hk 119
 have e114:=hk 114
 have e103:=hk 103
 have e101:=hk 101
 have e116:=hk 116
 have e99:=hk 99
 have e98:=hk 98
 have e102:=hk 102
 have e105:=hk 105
 simp only[uB,List.map,go_sem,reduceCtorEq,G3,G0,G2]
 repeat' (((first|refine zD ?_ ?_|refine zq ?_ ?_|refine zr ?_ ?_|refine zo ?_ ?_|refine zp ?_ ?_)<;>intro hq)<;>simp only[go_sem,reduceCtorEq,G0,G2,hq])
 all_goals
  rw[z6 rfl rfl,z8]
  refine⟨⟨_,rfl⟩,congrArg AV.bool (ko ?_)⟩
  unfold in64 at hn
  simp only[decide_eq_true_eq,decide_eq_false_iff_not,beq_iff_eq,beq_eq_false_iff_ne,ne_eq] at*
  unfold letterOk at hc
  rcases hc with rfl|rfl|rfl|rfl|rfl|rfl|rfl|rfl|rfl|rfl|rfl<;>first|(exfalso;simp_all;done)|(unfold fitsK;simp only[lo,hi];simp;omega)
theorem jv (x:DInstr) (m:Mem):Okv tab yO [.agg [.int .u8 x.op,.int .i64 x.a,.int .i64 x.b,.int .i64 x.c]] m (.agg [.int .i64 x.a,.int .i64 x.b,.int .i64 x.c]):=by
 refine zh kK ?_
 obtain⟨stk,cur,nx,live,fl⟩:=m
 simp only[xL,List.map,go_sem,reduceCtorEq,G3,G0,G4,G2,evBuild]
 rw[z6 rfl rfl,z8]
 exact⟨⟨_,rfl⟩,rfl⟩
theorem jw (x:DInstr) (m:Mem):Okv tab uP [.agg [.int .u8 x.op,.int .i64 x.a,.int .i64 x.b,.int .i64 x.c]] m (.agg [.int .i64 x.a,.int .i64 x.b,.int .i64 x.c]):=by
 refine zh Qc ?_
 obtain⟨stk,cur,nx,live,fl⟩:=m
 simp only[jP,List.map,go_sem,reduceCtorEq,G3,G0,G4,G2,evBuild]
 rw[z6 rfl rfl,z8]
 exact⟨⟨_,rfl⟩,rfl⟩
theorem i0:idx (.int .i64 0) 3=some 0:=rfl
theorem i1:idx (.int .i64 1) 3=some 1:=rfl
theorem i2:idx (.int .i64 2) 3=some 2:=rfl
theorem w01:IntKind.i64.wrap (0+1)=1:=rfl
theorem w12:IntKind.i64.wrap (1+1)=2:=rfl
theorem w23:IntKind.i64.wrap (2+1)=3:=rfl
theorem l03:((0:Int)<3)=True:=eq_true (by decide)
theorem l13:((1:Int)<3)=True:=eq_true (by decide)
theorem l23:((2:Int)<3)=True:=eq_true (by decide)
theorem l33:((3:Int)<3)=False:=eq_false (by decide)
theorem xA {x:DInstr} {a b c:UInt8} (h:shp x.op=[a,b,c]):InstrP x↔fitsK a x.a∧fitsK b x.b∧fitsK c x.c:=by
 unfold InstrP
 rw[h]
 constructor
 ·rintro⟨a',b',c',e,h1⟩
  injection e with e1 e;injection e with e2 e;injection e with e3 e
  subst e1;subst e2;subst e3
  exact h1
 ·exact fun h1=>⟨a,b,c,rfl,h1⟩
def WfI (x:DInstr):Prop:=in64 x.a∧in64 x.b∧in64 x.c
theorem z0G (x:DInstr) (hw:WfI x) (m:Mem):Okv tab u5 [.agg [.int .u8 x.op,.int .i64 x.a,.int .i64 x.b,.int .i64 x.c]] m (.int .i64 (err06 x)):=by
 refine zh YL ?_
 obtain⟨stk,cur,nx,live,fl⟩:=m
 simp only[vM,List.map,go_sem,reduceCtorEq,G3,G0,G2]
 rcases z6K x.op with hs|⟨a,b,c,hs⟩
 ·simp only[go_sem,reduceCtorEq,G3,G0,G2,(z2r x.op _).eq,(jv x _).eq,hs,show((((0:Nat)):Int) !=3)=true from rfl]
  rw[z6 rfl rfl,z8]
  exact⟨⟨_,rfl⟩,by rw[xb];rintro⟨a,b,c,h,_⟩;rw[hs] at h;cases h⟩
 ·obtain⟨ha,hb,hc,_⟩:=T7 hs
  simp only[go_sem,reduceCtorEq,G3,G0,G2,(z2r x.op _).eq,(jv x _).eq,hs,show((((3:Nat)):Int) !=3)=false from rfl]
  rw[yr]
  simp only[go_sem,reduceCtorEq,G3,G0,G1,G2,l03,i0,evIaddrA,Nat.zero_mul]
  by_cases hf1:fitsK a x.a
  case neg=>
   simp only[go_sem,G0,G2,(Uv a ha x.a hw.1 _).eq,ze hf1]
   rw[z6 rfl rfl,z8]
   exact⟨⟨_,rfl⟩,by rw[xb fun h'=>hf1 ((xA hs).1 h').1]⟩
  simp only[go_sem,G0,G2,(Uv a ha x.a hw.1 _).eq,zB hf1,w01]
  rw[yr]
  simp only[go_sem,G3,G0,G1,G2,l13,i1,evIaddrA,w19]
  by_cases hf2:fitsK b x.b
  case neg=>
   simp only[go_sem,G0,G2,(Uv b hb x.b hw.2.1 _).eq,ze hf2]
   rw[z6 rfl rfl,z8]
   exact⟨⟨_,rfl⟩,by rw[xb fun h'=>hf2 ((xA hs).1 h').2.1]⟩
  simp only[go_sem,G0,G2,(Uv b hb x.b hw.2.1 _).eq,zB hf2,w12]
  rw[yr]
  simp only[go_sem,G3,G0,G1,G2,l23,i2,evIaddrA,w19]
  by_cases hf3:fitsK c x.c
  case neg=>
   simp only[go_sem,G0,G2,(Uv c hc x.c hw.2.2 _).eq,ze hf3]
   rw[z6 rfl rfl,z8]
   exact⟨⟨_,rfl⟩,by rw[xb fun h'=>hf3 ((xA hs).1 h').2.2]⟩
  simp only[go_sem,G0,G2,(Uv c hc x.c hw.2.2 _).eq,zB hf3,w23]
  rw[yr]
  simp only[go_sem,G0,G1,G2,l33]
  rw[z6 rfl rfl,z8]
  exact⟨⟨_,rfl⟩,by rw[jL ((xA hs).2 ⟨hf1,hf2,hf3⟩)]⟩
theorem Qo {op:Int} {a b c:UInt8} (h:shp op=[a,b,c]):shapeOf op= .tup [.agg [.int .i64 (lo a),.int .i64 (hi a),.bool (rd a),.bool (wt a),.int .i64 (lo b),.int .i64 (hi b),.bool (rd b),.bool (wt b),.int .i64 (lo c),.int .i64 (hi c),.bool (rd c),.bool (wt c)],.int .i64 (cnt [a,b,c])]:=by
 unfold shapeOf;rw[h];rfl
theorem z7s {op:Int} (h:shp op=[]):shapeOf op= .tup [.agg [.int .i64 0,.int .i64 0,.bool false,.bool false,.int .i64 0,.int .i64 0,.bool false,.bool false,.int .i64 0,.int .i64 0,.bool false,.bool false],.int .i64 (-1)]:=by
 unfold shapeOf;rw[if_pos h];rfl
theorem z6f (s:List UInt8): ¬cnt s<0:=by unfold cnt;omega
theorem kj (x:DInstr) (m:Mem) (hf:m.floor≤m.stk.length+1):Okv tab tN [.agg [.int .u8 x.op,.int .i64 x.a,.int .i64 x.b,.int .i64 x.c]] m (.int .i64 (err06 x)):=by
 refine zh z3P ?_
 obtain⟨stk,cur,nx,live,fl⟩:=m
 dsimp only at hf
 have hS:=fun c nz lv=>(XI x.op ⟨stk++[cur],c,nz,lv,fl⟩ (by simp;omega)).eq
 simp only[WJ,List.map,go_sem,reduceCtorEq,G3,G0,G2,hS]
 rcases z6K x.op with hs|⟨a,b,c,hs⟩
 ·simp only[go_sem,reduceCtorEq,G3,G0,G2,z7s hs,show((-1:Int)<0)=True from eq_true (by decide)]
  rw[z6 rfl rfl,z8]
  exact⟨⟨_,rfl⟩,by rw[xb];rintro⟨a,b,c,h,_⟩;rw[hs] at h;cases h⟩
 ·simp only[go_sem,reduceCtorEq,G3,G0,G2,Qo hs,z6f,(jw x _).eq]
  rw[yr]
  simp only[go_sem,reduceCtorEq,G0,G1,G2,l03,i0,evIaddrA,Nat.zero_mul]
  by_cases hl1:x.a<lo a
  ·simp only[go_sem,G0,G2,hl1]
   rw[z6 rfl rfl,z8]
   exact⟨⟨_,rfl⟩,by rw[xb fun h'=>by have:=((xA hs).1 h').1;unfold fitsK at this;omega]⟩
  by_cases hh1:x.a>hi a
  ·simp only[go_sem,G0,G2,hl1,i0,evIaddrA,Nat.zero_mul,hh1]
   rw[z6 rfl rfl,z8]
   exact⟨⟨_,rfl⟩,by rw[xb fun h'=>by have:=((xA hs).1 h').1;unfold fitsK at this;omega]⟩
  simp only[go_sem,G0,G2,hl1,i0,evIaddrA,Nat.zero_mul,hh1,w01]
  rw[yr]
  simp only[go_sem,G0,G1,G2,l13,i1,evIaddrA,G6,w19]
  by_cases hl2:x.b<lo b
  ·simp only[go_sem,G0,G2,hl2]
   rw[z6 rfl rfl,z8]
   exact⟨⟨_,rfl⟩,by rw[xb fun h'=>by have:=((xA hs).1 h').2.1;unfold fitsK at this;omega]⟩
  by_cases hh2:x.b>hi b
  ·simp only[go_sem,G3,G0,G2,hl2,i1,evIaddrA,G6,hh2]
   rw[z6 rfl rfl,z8]
   exact⟨⟨_,rfl⟩,by rw[xb fun h'=>by have:=((xA hs).1 h').2.1;unfold fitsK at this;omega]⟩
  simp only[go_sem,G3,G0,G2,hl2,i1,evIaddrA,G6,hh2,w12]
  rw[yr]
  simp only[go_sem,G0,G1,G2,l23,i2,evIaddrA,G6,w19]
  by_cases hl3:x.c<lo c
  ·simp only[go_sem,G0,G2,hl3]
   rw[z6 rfl rfl,z8]
   exact⟨⟨_,rfl⟩,by rw[xb fun h'=>by have:=((xA hs).1 h').2.2;unfold fitsK at this;omega]⟩
  by_cases hh3:x.c>hi c
  ·simp only[go_sem,G3,G0,G2,hl3,i2,evIaddrA,G6,hh3]
   rw[z6 rfl rfl,z8]
   exact⟨⟨_,rfl⟩,by rw[xb fun h'=>by have:=((xA hs).1 h').2.2;unfold fitsK at this;omega]⟩
  simp only[go_sem,G3,G0,G2,hl3,i2,evIaddrA,G6,hh3,w23]
  rw[yr]
  simp only[go_sem,G0,G1,G2,l33]
  rw[z6 rfl rfl,z8]
  exact⟨⟨_,rfl⟩,by rw[jL ((xA hs).2 ⟨⟨by omega,by omega⟩,⟨by omega,by omega⟩,⟨by omega,by omega⟩⟩)]⟩
def codeOf (c:UInt8) (n:Int):List UInt8:=if c=45 then [] else if c=110∨c=103∨c=101 then minimal (zigzag n) else minimal n.toNat
def sk (x:DInstr) (k:Nat):UInt8:=(shp x.op).getD k 45
def cod6k (x:DInstr):Nat→List UInt8
 |0=>[UInt8.ofNat x.op.toNat]
 |k+1=>cod6k x k++codeOf (sk x k) (opn x k)
def cod6 (x:DInstr):List UInt8:=cod6k x 3
theorem z5Q {c:UInt8} (h:letterOk c):lo c<0↔(c=110∨c=103∨c=101):=by
 unfold letterOk at h
 rcases h with rfl|rfl|rfl|rfl|rfl|rfl|rfl|rfl|rfl|rfl|rfl<;>decide
theorem Q6 (c:UInt8) (m:Mem):Okv tab vx [.int .u8 c.toNat] m (.bool (decide (c=110∨c=103∨c=101))):=by
 refine zh ZT ?_
 obtain⟨stk,cur,nx,live,fl⟩:=m
 have hk: ∀k:UInt8,(((c.toNat:Int))=(k.toNat:Int))↔c=k:=fun k=>by
  rw[Int.ofNat_inj,UInt8.toNat_inj]
 have e110:=hk 110
 have e103:=hk 103
 have e101:=hk 101
 simp only[vn,List.map,go_sem,reduceCtorEq,G0,G2]
 repeat' (((first|refine zD ?_ ?_|refine zq ?_ ?_|refine zr ?_ ?_|refine zo ?_ ?_|refine zp ?_ ?_)<;>intro hq)<;>simp only[go_sem,reduceCtorEq,G0,G2,hq])
 all_goals
  rw[z6 rfl rfl,z8]
  refine⟨⟨_,rfl⟩,congrArg AV.bool ?_⟩
  simp only[beq_iff_eq,beq_eq_false_iff_ne,ne_eq] at*
  rw[Bool.eq_iff_iff]
  simp_all
theorem QX {a:Int} (h:0≤a∧a<256):IsByte (UInt8.ofNat a.toNat) (.int .u8 a):=by
 have:=ZC (a:=a.toNat) (by omega)
 rwa [show((a.toNat:Nat):Int)=a by omega] at this
theorem VH {c:UInt8} {n:Int} (hc:letterOk c) (hf:fitsK c n) (hn:in64 n):(codeOf c n).length≤10:=by
 unfold codeOf
 split
 ·simp
 ·split
  ·exact zg (qr hn)
  ·exact zg (by unfold in64 at hn;omega)
theorem z4L {c:UInt8} {n:Int} (hc:letterOk c) (hf:fitsK c n) (hs: ¬(c=110∨c=103∨c=101)):0≤n:=by
 have h1: ¬lo c<0:=fun h=>hs ((z5Q hc).1 h)
 unfold fitsK at hf;omega
theorem three {k:Nat} (h:k<3):k=0∨k=1∨k=2:=by omega
theorem ZF {x:DInstr} {a b c:UInt8} (hs:shp x.op=[a,b,c]) (h:InstrP x) (hw:WfI x) {k:Nat} (hk:k<3):letterOk (sk x k)∧fitsK (sk x k) (opn x k)∧in64 (opn x k)∧(cnt [a,b,c]≤k↔sk x k=45)∧[a,b,c][k]? =some (sk x k):=by
 obtain⟨f1,f2,f3⟩:=(xA hs).1 h
 obtain⟨l1,l2,l3,c1,c2,c3⟩:=T7 hs
 obtain⟨w1,w2,w3⟩:=hw
 unfold sk
 rw[hs]
 rcases three hk with rfl|rfl|rfl
 ·exact⟨l1,f1,w1,c1,rfl⟩
 ·exact⟨l2,f2,w2,c2,rfl⟩
 ·exact⟨l3,f3,w3,c3,rfl⟩
theorem WZ {x:DInstr} {a b c:UInt8} (hs:shp x.op=[a,b,c]) (h:InstrP x) (hw:WfI x): ∀k,k≤3→(cod6k x k).length≤1+10*k
 |0,_=>by simp[cod6k]
 |k+1,hk=>by
  have ih:=WZ hs h hw k (by omega)
  obtain⟨h1,h2,h3,_⟩:=ZF hs h hw (show k<3 by omega)
  have:=VH h1 h2 h3
  simp only[cod6k,w05];omega
theorem cell3 (x:DInstr) {k:Nat} (h:k<3):takeV false 1 (([AV.int .i64 x.a,.int .i64 x.b,.int .i64 x.c]).drop k)=some (.int .i64 (opn x k)):=by
 rcases three h with rfl|rfl|rfl<;>rfl
theorem cell12 {x:DInstr} {a b c:UInt8} (hs:shp x.op=[a,b,c]) {k:Nat} (h:k<3):takeV false 1 (([.int .i64 (lo a),.int .i64 (hi a),.bool (rd a),.bool (wt a),.int .i64 (lo b),.int .i64 (hi b),.bool (rd b),.bool (wt b),.int .i64 (lo c),.int .i64 (hi c),.bool (rd c),.bool (wt c)]:List AV).drop (k*4))=some (.int .i64 (lo (sk x k))):=by
 unfold sk;rw[hs]
 rcases three h with rfl|rfl|rfl<;>rfl
theorem z0F (x:DInstr) (hop:inU8 x.op) (hw:WfI x) (hx:InstrP x) (m:Mem):Okl IsByte 1 tab u4 [.agg [.int .u8 x.op,.int .i64 x.a,.int .i64 x.b,.int .i64 x.c]] m (cod6 x):=by
 refine qt YK ?_
 obtain⟨stk,cur,nx,live,fl⟩:=m
 have hx':=hx
 obtain⟨a,b,c,hs,_⟩:=hx'
 simp only[vL,List.map,go_sem,reduceCtorEq,G3,G0,G2,(z2r x.op _).eq,(jv x _).eq,hs]
 refine zc (α:=Nat) (fun k σ=>k≤3∧ ∃nz y e,Own IsByte 1 y (cod6k x k) e∧heads [3,4,5,6] 2 σ=⟨tmps 42 [(3,y),(4,.str [a,b,c]),(5,.ptr (stk++[cur]).length 1 (nx+1) 0),(6,.int .i64 k)],⟨stk++[cur],[⟨nx,[.int .u8 x.op,.int .i64 x.a,.int .i64 x.b,.int .i64 x.c]⟩,⟨nx+1,[.int .i64 x.a,.int .i64 x.b,.int .i64 x.c]⟩],nz,e::live,fl⟩⟩) (fun k=>3-k) 0 ?_ ?_
 ·refine⟨w0c _,?_⟩
  simp only[go_sem,reduceCtorEq,G0,G1]
  exact⟨_,_,[],.full (zE (QX hop)) _,rfl⟩
 ·rintro k σ ⟨hk,nz,y,e,ho,hσ⟩
  rw[hσ]
  clear hσ σ
  dsimp only at hk⊢
  by_cases h:k<3
  ·skip
   obtain⟨hlt,hfit,hin,hcnt,hget⟩:=ZF hs hx hw h
   have hix:idx (.int .i64 (k:Int)) 3=some k:=zS .i64 k 3 h
   have hc3:=cell3 x h
   have hlen:=WZ hs hx hw k (by omega)
   have hcl:=VH hlt hfit hin
   have hlt3:((k:Int)<3)=True:=eq_true (by omega)
   have hsucc:IntKind.i64.wrap ((k:Int)+1)=((k+1:Nat):Int):=by rw[zd (by omega) (by omega)];omega
   simp only[go_sem,G3,G0,G1,G2,hlt3,hix,hget]
   by_cases h45:sk x k=45
   ·have h45':(((sk x k).toNat:Int)==45)=true:=by rw[h45];rfl
    simp only[go_sem,reduceCtorEq,G0,G2,h45',hsucc]
    refine⟨k+1,by omega,h,nz,y,e,?_,rfl⟩
    rw[cod6k,codeOf,if_pos h45,w20];exact ho
   ·have h45':(((sk x k).toNat:Int)==45)=false:=by
     rw[beq_eq_false_iff_ne];intro e;apply h45;apply UInt8.toNat_inj.1;show(sk x k).toNat=45;omega
    by_cases hsg:sk x k=110∨sk x k=103∨sk x k=101
    ·have hcode:codeOf (sk x k) (opn x k)=minimal (zigzag (opn x k)):=by unfold codeOf;rw[if_neg h45,if_pos hsg]
     simp only[go_sem,G3,G0,G2,h45',hix,hget,(Q6 _ _).eq,hsg,evIaddrA,w19,hc3,(tU _ hin _).eq]
     refine(zy _ (qr hin) _).xv fun y1 t1 k1 ho1=> ?_
     simp only[go_sem,G0,G2]
     obtain⟨z1,hz1,hc1⟩:=ho1.elems
     rw[←hcode] at hc1
     refine(ho.push t1).xv hz1 hc1 (by omega) fun y2 k2 e2 ho2=> ?_
     simp only[go_sem,G0,G2,hsucc]
     exact⟨k+1,by omega,h,k2,y2,e2,ho2,rfl⟩
    ·have hpos:=z4L hlt hfit hsg
     have hcode:codeOf (sk x k) (opn x k)=minimal (opn x k).toNat:=by unfold codeOf;rw[if_neg h45,if_neg hsg]
     have ew:IntKind.u64.wrap (opn x k)=(((opn x k).toNat:Nat):Int):=by unfold in64 at hin;rw[zM (by omega) (by omega)];omega
     simp only[go_sem,G3,G0,G2,h45',hix,hget,(Q6 _ _).eq,hsg,evIaddrA,w19,hc3,ew]
     refine(zy _ (by unfold in64 at hin;omega) _).xv fun y1 t1 k1 ho1=> ?_
     simp only[go_sem,G0,G2]
     obtain⟨z1,hz1,hc1⟩:=ho1.elems
     rw[←hcode] at hc1
     refine(ho.push t1).xv hz1 hc1 (by omega) fun y2 k2 e2 ho2=> ?_
     simp only[go_sem,G0,G2,hsucc]
     exact⟨k+1,by omega,h,k2,y2,e2,ho2,rfl⟩
  ·have:k=3:=by omega
   subst this
   simp only[go_sem,G5,G0,G1,G2,show(((3:Nat):Int)<3)=False from eq_false (by decide)]
   exact ue ho
theorem z2j (x:DInstr) (hop:inU8 x.op) (hw:WfI x) (hx:InstrP x) (m:Mem) (hf:m.floor≤m.stk.length+1):Okp IsByte 1 tab Yv [.agg [.int .u8 x.op,.int .i64 x.a,.int .i64 x.b,.int .i64 x.c]] m (cod6 x) 0:=by
 refine z2T z2x ?_
 obtain⟨stk,cur,nx,live,fl⟩:=m
 dsimp only at hf
 have hf':fl≤(stk++[cur]).length+1:=by simp;omega
 have hx':=hx
 obtain⟨a,b,c,hs,_⟩:=hx'
 have hS:=fun c nz lv=>(XI x.op ⟨stk++[cur],c,nz,lv,fl⟩ hf').eq
 have hC:=fun c nz lv=>(kj x ⟨stk++[cur],c,nz,lv,fl⟩ hf').eq
 rw[jL hx] at hC
 simp only[Yo,List.map,go_sem,reduceCtorEq,G3,G0,G2,hC,show((0:Int) !=0)=false from rfl,hS,Qo hs,(jw x _).eq]
 refine zc (α:=Nat) (fun k σ=>k≤3∧ ∃nz st y e,Own IsByte 1 y (cod6k x k) e∧heads [5,6,7,25,26] 2 σ=⟨tmps 51 [(5,.ptr (stk++[cur]).length 1 st 0),(6,.int .i64 (cnt [a,b,c])),(7,y),(25,.agg [.int .i64 x.a,.int .i64 x.b,.int .i64 x.c]),(26,.int .i64 k)],⟨stk++[cur],[⟨nx,[.int .u8 x.op,.int .i64 x.a,.int .i64 x.b,.int .i64 x.c]⟩,⟨st,[.int .i64 (lo a),.int .i64 (hi a),.bool (rd a),.bool (wt a),.int .i64 (lo b),.int .i64 (hi b),.bool (rd b),.bool (wt b),.int .i64 (lo c),.int .i64 (hi c),.bool (rd c),.bool (wt c)]⟩],nz,e::live,fl⟩⟩) (fun k=>3-k) 0 ?_ ?_
 ·refine⟨w0c _,?_⟩
  simp only[go_sem,reduceCtorEq,G0,G1]
  exact⟨_,_,_,[],.full (zE (QX hop)) _,rfl⟩
 ·rintro k σ ⟨hk,nz,st,y,e,ho,hσ⟩
  rw[hσ]
  clear hσ σ
  dsimp only at hk⊢
  by_cases h:k<3
  ·skip
   obtain⟨hlt,hfit,hin,hcnt,hget⟩:=ZF hs hx hw h
   have hix:idx (.int .i64 (k:Int)) 3=some k:=zS .i64 k 3 h
   have hc3:=cell3 x h
   have hlen:=WZ hs hx hw k (by omega)
   have hcl:=VH hlt hfit hin
   have hlt3:((k:Int)<3)=True:=eq_true (by omega)
   have hsucc:IntKind.i64.wrap ((k:Int)+1)=((k+1:Nat):Int):=by rw[zd (by omega) (by omega)];omega
   have hc12:=cell12 hs h
   by_cases h45:sk x k=45
   ·have hge:(k:Int)≥cnt [a,b,c]:=hcnt.2 h45
    simp only[go_sem,G0,G1,G2,hlt3,hix,w19,hc3,hge,hsucc]
    refine⟨k+1,by omega,h,nz,st,y,e,?_,rfl⟩
    rw[cod6k,codeOf,if_pos h45,w20];exact ho
   ·have hge: ¬((k:Int)≥cnt [a,b,c]):=fun e=>h45 (hcnt.1 e)
    by_cases hsg:sk x k=110∨sk x k=103∨sk x k=101
    ·have hcode:codeOf (sk x k) (opn x k)=minimal (zigzag (opn x k)):=by unfold codeOf;rw[if_neg h45,if_pos hsg]
     have hneg:=(z5Q hlt).2 hsg
     simp only[go_sem,G0,G1,G2,hlt3,hix,w19,hc3,hge,evIaddrA,hc12,hneg]
     refine(Vb _ hin _ _ _ _ _ hf').xv fun y1 t1 k1 ho1=> ?_
     simp only[go_sem,G0,G2]
     obtain⟨z1,hz1,hc1⟩:=ho1.elems
     rw[←hcode] at hc1
     refine(ho.push t1).xv hz1 hc1 (by omega) fun y2 k2 e2 ho2=> ?_
     simp only[go_sem,G0,G2,hsucc]
     exact⟨k+1,by omega,h,k2,st,y2,e2,ho2,rfl⟩
    ·have hpos:=z4L hlt hfit hsg
     have hneg: ¬lo (sk x k)<0:=fun e=>hsg ((z5Q hlt).1 e)
     have hcode:codeOf (sk x k) (opn x k)=minimal (opn x k).toNat:=by unfold codeOf;rw[if_neg h45,if_neg hsg]
     have ew:IntKind.u64.wrap (opn x k)=(((opn x k).toNat:Nat):Int):=by unfold in64 at hin;rw[zM (by omega) (by omega)];omega
     simp only[go_sem,G0,G1,G2,hlt3,hix,w19,hc3,hge,evIaddrA,hc12,hneg,ew]
     refine(tG _ (by unfold in64 at hin;omega) _ _ _ _ _ hf').xv fun y1 t1 k1 ho1=> ?_
     simp only[go_sem,G0,G2]
     obtain⟨z1,hz1,hc1⟩:=ho1.elems
     rw[←hcode] at hc1
     refine(ho.push t1).xv hz1 hc1 (by omega) fun y2 k2 e2 ho2=> ?_
     simp only[go_sem,G0,G2,hsucc]
     exact⟨k+1,by omega,h,k2,st,y2,e2,ho2,rfl⟩
  ·have:k=3:=by omega
   subst this
   simp only[go_sem,G5,G0,G1,G2,show(((3:Nat):Int)<3)=False from eq_false (by decide)]
   exact ZI ho
def letter (c:Nat):Bool:=(decide (97≤c)&&decide (c≤122))||(decide (65≤c)&&decide (c≤90))
def alnum (c:Nat):Bool:=letter c||(decide (48≤c)&&decide (c≤57))
def named (s:List UInt8):Bool:=decide (1≤s.length)&&decide (s.length≤16)&&letter (s.headD 0).toNat&&s.all fun c=>alnum c.toNat
theorem UF {s:List UInt8} {i:Nat} (h:i<s.length) (hc:alnum s[i].toNat=false):named s=false:=by
 have:(s.all fun c=>alnum c.toNat)=false:=by
  rw[Bool.eq_false_iff];intro ha;rw[w49] at ha;rw[ha _ (w07 h)] at hc;cases hc
 simp[named,this]
theorem UN {s:List UInt8} (h:0<s.length):s.headD 0=s[0]:=by
 cases s with
 |nil=>simp at h
 |cons a r=>rfl
theorem z4g {s:List UInt8} (h1:0<s.length) (h2:s.length≤16) (h3:letter s[0].toNat=true) (h4: ∀c∈s,alnum c.toNat=true):named s=true:=by
 have:(s.all fun c=>alnum c.toNat)=true:=w49.2 h4
 have h5:1≤s.length:=h1
 unfold named
 rw[this,UN h1,h3,decide_eq_true h2,decide_eq_true h5];rfl
theorem tS (c:Nat) (m:Mem):Okv tab yC [.int .u8 c] m (.bool (letter c)):=by
 refine zh ZU ?_
 obtain⟨stk,cur,nx,live,fl⟩:=m
 simp only[vo,List.map,go_sem,reduceCtorEq,G0,G2]
 repeat' (((first|refine zD ?_ ?_|refine zq ?_ ?_|refine zr ?_ ?_|refine zo ?_ ?_|refine zp ?_ ?_)<;>intro hq)<;>simp only[go_sem,reduceCtorEq,G0,G2,hq])
 all_goals
  rw[z6 rfl rfl,z8]
  refine⟨⟨_,rfl⟩,?_⟩
  simp only[decide_eq_true_eq,decide_eq_false_iff_not] at*
  unfold letter
  congr 1
  grind
theorem qn (s:List UInt8) (hs:s.length≤9223372036854775807) (m:Mem):Okv tab xq [.str s] m (.bool (named s)):=by
 refine zh YO ?_
 obtain⟨stk,cur,nx,live,fl⟩:=m
 have hL: ∃K:Nat→Mem→Nat,∀(c:Nat) m,CALL tab yC [.int .u8 c] m=some (.bool (letter c),m.bump (K c m)):=
  ⟨fun c m=>(tS c m).choose,fun c m=>(tS c m).choose_spec⟩
 obtain⟨K,hK⟩:=hL
 simp only[vP,List.map,go_sem,reduceCtorEq,G0,G2]
 by_cases h0:s.length<1
 ·have h0':(s.length:Int)<1:=by omega
  simp only[go_sem,reduceCtorEq,G0,G2,h0']
  rw[z6 rfl rfl,z8]
  exact⟨⟨_,rfl⟩,by simp[named,show¬1≤s.length by omega]⟩
 have h0': ¬(s.length:Int)<1:=by omega
 by_cases h1:s.length>16
 ·have h1':(s.length:Int)>16:=by omega
  simp only[go_sem,reduceCtorEq,G0,G2,h0',h1']
  rw[z6 rfl rfl,z8]
  exact⟨⟨_,rfl⟩,by simp[named,show¬s.length≤16 by omega]⟩
 have h1': ¬(s.length:Int)>16:=by omega
 have hi0:idx (.int .i64 0) s.length=some 0:=zS .i64 0 _ (by omega)
 have hg0:s[0]? =some s[0]:=w10 (by omega)
 cases h2:letter s[0].toNat
 ·simp only[go_sem,reduceCtorEq,G0,G2,h0',h1',hi0,hg0,hK,h2]
  rw[z6 rfl rfl,z8]
  exact⟨⟨_,rfl⟩,by simp only[named,UN (show 0<s.length by omega),h2];simp⟩
 ·simp only[go_sem,reduceCtorEq,G0,G2,h0',h1',hi0,hg0,hK,h2]
  refine zc (α:=Nat) (fun i σ=>(i≤s.length∧ ∀c∈s.take i,alnum c.toNat=true)∧ ∃nz,heads [0,3] 0 σ=⟨tmps 41 [(0,.str s),(3,.int .i64 i)],⟨stk++[cur],[],nz,[]::live,fl⟩⟩) (fun i=>s.length-i) 0 ?_ ?_
  ·refine⟨⟨w0c _,by simp⟩,?_⟩
   simp only[go_sem,reduceCtorEq,G0,G1]
   exact⟨_,rfl⟩
  ·rintro i σ ⟨⟨hi,ht⟩,nz,hσ⟩
   rw[hσ]
   clear hσ σ
   dsimp only at hi ht⊢
   by_cases h:i<s.length
   ·have hg:s[i]? =some s[i]:=w10 h
    cases hc:alnum s[i].toNat
    ·have hc':=hc
     simp only[alnum,w4a] at hc'
     simp only[go_sem,reduceCtorEq,G0,G1,G2,w03,h,zS,hg,hK,hc'.1]
     have hidx:=zS .i64 i _ h
     repeat' (((first|refine zD ?_ ?_|refine zq ?_ ?_|refine zr ?_ ?_|refine zo ?_ ?_|refine zp ?_ ?_)<;>intro hq)<;>simp only[go_sem,reduceCtorEq,G0,G2,hq,hidx,hg])
     all_goals first
      |(rw[z6 rfl rfl,z8];exact⟨⟨_,rfl⟩,by rw[UF h hc]⟩)
      |(exfalso;simp only[decide_eq_false_iff_not,Bool.and_eq_false_iff] at*;omega)
    ·have hn:=zj (P:=fun c:UInt8=>alnum c.toNat=true) h ht hc
     have hc':=hc
     simp only[alnum] at hc'
     cases hl:letter s[i].toNat
     ·rw[hl] at hc'
      simp only[Bool.false_or,w0e,decide_eq_true_eq] at hc'
      simp only[go_sem,reduceCtorEq,G0,G1,G2,w03,h,zS,hg,hK,hl,show¬(s[i].toNat:Int)<48 by omega,show¬(s[i].toNat:Int)>57 by omega,zb h hs]
      exact⟨i+1,by omega,⟨h,hn⟩,_,rfl⟩
     ·simp only[go_sem,reduceCtorEq,G0,G1,G2,w03,h,zS,hg,hK,hl,zb h hs]
      exact⟨i+1,by omega,⟨h,hn⟩,_,rfl⟩
   ·have:i=s.length:=by omega
    subst this
    rw[w0a] at ht
    simp only[go_sem,reduceCtorEq,G0,G1,G2,w03,h]
    rw[z6 rfl rfl,z8]
    exact⟨⟨_,rfl⟩,by rw[z4g (by omega) (by omega) h2 ht]⟩
theorem z4z: ∀c:Fin 256,((decide (IntKind.u8.wrap ((BitVec.ofInt 8 (c.val:Int)|||BitVec.ofInt 8 32).toNat:Int)<97)||decide (IntKind.u8.wrap ((BitVec.ofInt 8 (c.val:Int)|||BitVec.ofInt 8 32).toNat:Int)>122)||(IntKind.u8.wrap ((BitVec.ofInt 8 (c.val:Int)&&&BitVec.ofInt 8 64).toNat:Int)==0))&&(decide ((c.val:Int)<48)||decide ((c.val:Int)>57)))= !(alnum c.val):=by decide+kernel
theorem z5X {c:Nat} (hc:c<256): ∃a b:Int,evBits .or .u8 (c:Int) 32=some (.int .u8 a)∧evBits .and .u8 (c:Int) 64=some (.int .u8 b)∧
  ((decide (a<97)||decide (a>122)||(b==0))&&(decide ((c:Int)<48)||decide ((c:Int)>57)))= !(alnum c):=⟨_,_,rfl,rfl,z4z ⟨c,hc⟩⟩
theorem Um {c:Nat} (h:alnum c=true):letter c=decide (57<c):=by
 unfold alnum letter at*
 grind
theorem kG (s:List UInt8) (m:Mem):Okv tab vE [.str s] m (.bool (named s)):=by
 refine zh z0Q ?_
 obtain⟨stk,cur,nx,live,fl⟩:=m
 simp only[Za,List.map,go_sem,reduceCtorEq,G0,G2]
 by_cases h0:(s.length:Int)=0
 ·have h0':((s.length:Int)==0)=true:=by simp[h0]
  simp only[go_sem,reduceCtorEq,G0,G2,h0']
  rw[z6 rfl rfl,z8]
  exact⟨⟨_,rfl⟩,by simp[named,show¬1≤s.length by omega]⟩
 have h0':((s.length:Int)==0)=false:=by simpa using h0
 by_cases h1:s.length>16
 ·have h1':(s.length:Int)>16:=by omega
  simp only[go_sem,reduceCtorEq,G0,G2,h0',h1']
  rw[z6 rfl rfl,z8]
  exact⟨⟨_,rfl⟩,by simp[named,show¬s.length≤16 by omega]⟩
 have h1': ¬(s.length:Int)>16:=by omega
 have hp:0<s.length:=by omega
 have hi0:idx (.int .i64 0) s.length=some 0:=zS .i64 0 _ (by omega)
 have hg0:s[0]? =some s[0]:=w10 (by omega)
 by_cases h2:(s[0].toNat:Int)≤57
 ·simp only[go_sem,reduceCtorEq,G0,G2,h0',h1',hi0,hg0,h2]
  rw[z6 rfl rfl,z8]
  refine⟨⟨_,rfl⟩,?_⟩
  cases ha:alnum s[0].toNat
  ·rw[UF hp ha]
  ·have:=Um ha
   rw[decide_eq_false (by omega)] at this
   simp only[named,UN hp,this];simp
 ·simp only[go_sem,reduceCtorEq,G0,G2,h0',h1',hi0,hg0,h2,show s.length≤140737488355328 by omega]
  have hs:IsSl IsByte 1 s (.list 1 (.id nx) (ofBytes s)):= .mk (jj s) (by omega)
  simp only[go_sem,hs.len]
  refine zc (α:=Nat) (fun i σ=>(i≤s.length∧ ∀c∈s.take i,alnum c.toNat=true)∧ ∃nz,heads [19,20,21] 0 σ=⟨tmps 47 [(19,.list 1 (.id nx) (ofBytes s)),(20,.int .i64 s.length),(21,.int .i64 i)],⟨stk++[cur],[],nz,[nx]::live,fl⟩⟩) (fun i=>s.length-i) 0 ?_ ?_
  ·refine⟨⟨w0c _,by simp⟩,?_⟩
   simp only[go_sem,reduceCtorEq,G0,G1]
   exact⟨_,rfl⟩
  ·rintro i σ ⟨⟨hi,ht⟩,nz,hσ⟩
   rw[hσ]
   clear hσ σ
   dsimp only at hi ht⊢
   by_cases h:i<s.length
   ·have e1:nth (.list 1 (.id nx) (ofBytes s)) i= .int .u8 s[i].toNat:=hs.nth h
    obtain⟨a,b,q1,q2,q3⟩:=z5X (UInt8.toNat_lt s[i])
    simp only[go_sem,G0,G1,G2,w03,h,hs.at _ h,e1,q1]
    cases hc:alnum s[i].toNat
    ·rw[hc] at q3
     have hat:=hs.at .i64 h
     repeat' (((first|refine zD ?_ ?_|refine zq ?_ ?_|refine zr ?_ ?_|refine zo ?_ ?_|refine zp ?_ ?_)<;>intro hq)<;>simp only[go_sem,G0,G2,hq,q1,q2])
     all_goals first
      |(rw[z6 rfl rfl,z8];exact⟨⟨_,rfl⟩,by rw[UF (by assumption) hc]⟩)
      |(exfalso;simp_all;done)
    ·have hn:=zj (P:=fun c:UInt8=>alnum c.toNat=true) h ht hc
     have hsucc:=zb h hs.max
     rw[hc] at q3
     have hat:=hs.at .i64 h
     repeat' (((first|refine zD ?_ ?_|refine zq ?_ ?_|refine zr ?_ ?_|refine zo ?_ ?_|refine zp ?_ ?_)<;>intro hq)<;>simp only[go_sem,G0,G2,hq,q1,q2,hsucc])
     all_goals first
      |exact⟨i+1,by omega,⟨by assumption,hn⟩,_,rfl⟩
      |(exfalso;simp_all;done)
   ·have:i=s.length:=by omega
    subst this
    rw[w0a] at ht
    simp only[go_sem,G0,G1,G2,w03,h]
    rw[z6 rfl rfl,z8]
    refine⟨⟨_,rfl⟩,?_⟩
    have:=Um (ht s[0] (w07 hp))
    rw[decide_eq_true (by omega)] at this
    rw[z4g hp (by omega) this ht]
end Go.Proofs.W
end
section
namespace Go.Vs
section
variable {P : Program} {n t : Nat} {xs : List AV}
def fieldI (P:Program) (t i:Nat):Option (Nat×Nat):=
 match P.underlying t with
 |some (.struct fs)=>(fs[i]?).map fun f=>(f.type,f.offset)
 |_=>none
theorem zw {i ft off c:Nat} (h:Typed P (n+1) t xs) (e:fieldI P t i=some (ft,off)) (hc:P.cellsOf ft=c):Typed P n ft ((xs.drop off).take c):=by
 unfold fieldI at e
 split at e
 ·rename_i fs hu
  simp only[Typed,hu] at h
  simp only[w00,Prod.mk.injEq] at e
  obtain⟨f,hf,rfl,rfl⟩:=e
  have:=h.2 f (by simpa using Array.mem_of_getElem? hf)
  rw[hc] at this
  exact this
 ·cases e
theorem jo {c:Nat} (h:Typed P (n+1) t xs) (e:(fieldI P t 0).isSome=true) (hc:P.cellsOf t=c):xs.length=c:=by
 unfold fieldI at e
 split at e
 ·rename_i fs hu
  simp only[Typed,hu] at h
  rw[←hc];exact h.1
 ·cases e
theorem Uw {k:IntKind} (h:Typed P (n+1) t xs) (hu:P.underlying t=some (.int k)): ∃i,xs=[.int k i]∧(Lit.int k i).wf=true:=by
 simp only[Typed,hu] at h
 exact h
theorem z7o (h:Typed P (n+1) t xs) (hu:P.underlying t=some .string): ∃s,xs=[.str s]∧s.length≤maxLen:=by
 simp only[Typed,hu] at h
 exact h
theorem tH {α:Type} {R:α→AV→Prop} {e s:Nat} (h:Typed P (n+1) t xs) (hu:P.underlying t=some (.slice e)) (hs:P.cellsOf e=s) (hR: ∀y,IsElem P e y→Typed P n e y.cells→ ∃d,R d y): ∃d y,xs=[y]∧IsSl R s d y:=by
 simp only[Typed,hu] at h
 rcases h with rfl|⟨ys,rfl,hl,hy⟩
 ·exact⟨[],_,rfl,.nil s⟩
 ·obtain⟨d,hd⟩:=All2.of_each (R:=R) ys fun y hm=>hR y (hy y hm).1 (hy y hm).2
  refine⟨d,_,rfl,?_⟩
  rw[hs]
  exact .mk hd (by rw[←hd.len];exact hl)
theorem zbz {n:Int} (h:(Lit.int .i64 n).wf=true):in64 n:=by
 simp[Lit.wf,IntKind.min,IntKind.max,IntKind.signed,IntKind.bits] at h
 unfold in64;omega
theorem z9O {n:Int} (h:(Lit.int .u64 n).wf=true):inU64 n:=by
 simp[Lit.wf,IntKind.min,IntKind.max,IntKind.signed,IntKind.bits] at h
 unfold inU64;omega
theorem zby {n:Int} (h:(Lit.int .u8 n).wf=true):inU8 n:=by
 simp[Lit.wf,IntKind.min,IntKind.max,IntKind.signed,IntKind.bits] at h
 unfold inU8;omega
theorem jq {α:Type} {R:α→AV→Prop} {W:α→Prop} {s:Nat} {xs:List α} {y:AV} (h:IsSl (fun d y=>R d y∧W d) s xs y):IsSl R s xs y∧ ∀x∈xs,W x:=by
 refine⟨h.mono fun _ _ _ h=>h.1,fun x hx=> ?_⟩
 obtain⟨i,hi,rfl⟩:=List.mem_iff_getElem.1 hx
 exact(h.nth hi).2
theorem ya: ¬Typed P 0 t xs:=fun h=>h
theorem ZJ {e:Nat} {y:AV} (h:IsElem P e y) (ha:aggT P e=some true): ∃cs,y= .agg cs:=by
 unfold IsElem at h;rw[if_pos ha] at h;exact h
theorem za2 {e:Nat} {y:AV} (h:IsElem P e y) (ha:aggT P e=some false):y.cells=[y]:=by
 unfold IsElem at h;rw[if_neg (by rw[ha];simp)] at h;exact h
end
end Go.Vs
end
section
namespace Go.Proofs.W
open Go.Vs
set_option linter.unusedSimpArgs false
set_option maxRecDepth 100000
theorem Q2 (n:Int) (m:Mem):Okv tab ve [.int .i64 n] m (.bool (n !=0)):=by
 refine zh Qe ?_
 obtain⟨stk,cur,nx,live,fl⟩:=m
 simp only[jR,List.map,go_sem,reduceCtorEq,G0,G2]
 rw[z6 rfl rfl,z8]
 exact⟨⟨_,rfl⟩,rfl⟩
theorem Ty (xs:List Int) (x:AV) (hx:IsSl (IsK .i64) 1 xs x) (m:Mem):
  Ok tab yE [x,.fn (.func ve) [] []] m (fun r=> ∃n:Int,r= .int .i64 n∧decide (n≥0)=xs.any (· !=0)):=by
 refine z6S ui ?_
 obtain⟨stk,cur,nx,live,fl⟩:=m
 simp only[yA,List.map,go_sem,reduceCtorEq,G3,G0,G2,hx.len]
 refine zc (α:=Nat) (fun i σ=>(i≤xs.length∧ ∀c∈xs.take i,(c !=0)=false)∧ ∃nz,heads [0,1,7,8] 0 σ=⟨tmps 19 [(0,x),(1,.fn (.func ve) [] []),(7,.int .i64 xs.length),(8,.int .i64 i)],⟨stk++[cur],[],nz,[]::live,fl⟩⟩) (fun i=>xs.length-i) 0 ?_ ?_
 ·refine⟨⟨w0c _,by simp⟩,?_⟩
  simp only[go_sem,reduceCtorEq,G0,G1]
  exact⟨_,rfl⟩
 ·rintro i σ ⟨⟨hi,ht⟩,nz,hσ⟩
  rw[hσ]
  clear hσ σ
  dsimp only at hi ht⊢
  by_cases h:i<xs.length
  ·have e1:nth x i= .int .i64 xs[i]:=hx.nth h
   simp only[go_sem,reduceCtorEq,G0,G1,G2,w03,h,hx.at _ h,e1,(Q2 _ _).eq]
   cases hc:(xs[i] !=0)
   ·simp only[go_sem,reduceCtorEq,G0,G2,zb h hx.max]
    exact⟨i+1,by omega,⟨h,zj (P:=fun c=>(c !=0)=false) h ht hc⟩,_,rfl⟩
   ·simp only[go_sem,reduceCtorEq,G0,G2]
    rw[z6 rfl rfl,z8]
    refine⟨⟨_,rfl⟩,_,rfl,?_⟩
    rw[List.any_eq_true.2 ⟨_,w07 h,hc⟩]
    simp
  ·have:i=xs.length:=by omega
   subst this
   rw[w0a] at ht
   simp only[go_sem,reduceCtorEq,G0,G1,G2,w03,h]
   rw[z6 rfl rfl,z8]
   refine⟨⟨_,rfl⟩,_,rfl,?_⟩
   rw[List.any_eq_false.2 fun c hc=>by rw[ht c hc];simp]
   rfl
theorem Vt (xs:List Int) (x:AV) (hx:IsSl (IsK .i64) 1 xs x) (m:Mem):
  Okv tab zI [x,.fn (.func ve) [] []] m (.bool (xs.any (· !=0))):=by
 refine zh vg ?_
 obtain⟨stk,cur,nx,live,fl⟩:=m
 simp only[yc,List.map,go_sem,reduceCtorEq,G3,G0,G2]
 obtain⟨r,k,h1,n,rfl,h2⟩:=Ty xs x hx ⟨stk++[cur],[],nx,[]::live,fl⟩
 simp only[go_sem,reduceCtorEq,G0,G2,h1,h2]
 rw[z6 rfl rfl,z8]
 exact⟨⟨_,rfl⟩,rfl⟩
theorem ZQ (xs:List Int) (x:AV) (hx:IsSl (IsK .i64) 1 xs x) (m:Mem):Okv tab yj [x] m (.bool (!xs.any (· !=0))):=by
 refine zh z2z ?_
 obtain⟨stk,cur,nx,live,fl⟩:=m
 simp only[Yq,List.map,go_sem,reduceCtorEq,G0,G2,(Vt xs x hx _).eq]
 rw[z6 rfl rfl,z8]
 exact⟨⟨_,rfl⟩,rfl⟩
theorem zaz (a:Int) (m:Mem):Okv tab yj [.list 1 .full [.int .i64 a]] m (.bool (pb (a=0))):=by
 have hh:IsSl (IsK .i64) 1 [a] (.list 1 .full [.int .i64 a]):= .mk (ys:=[.int .i64 a]) ⟨rfl,trivial⟩ (by simp)
 have:=ZQ [a] _ hh m
 have e:(!([a]:List Int).any (· !=0))=pb (a=0):=ko (by simp)
 rw[e] at this;exact this
theorem zay (a b:Int) (m:Mem):Okv tab yj [.list 1 .full [.int .i64 a,.int .i64 b]] m (.bool (pb (a=0∧b=0))):=by
 have hh:IsSl (IsK .i64) 1 [a,b] (.list 1 .full [.int .i64 a,.int .i64 b]):= .mk (ys:=[.int .i64 a,.int .i64 b]) ⟨rfl,rfl,trivial⟩ (by simp)
 have:=ZQ [a,b] _ hh m
 have e:(!([a,b]:List Int).any (· !=0))=pb (a=0∧b=0):=ko (by simp)
 rw[e] at this;exact this
theorem zax (a b c:Int) (m:Mem):Okv tab yj [.list 1 .full [.int .i64 a,.int .i64 b,.int .i64 c]] m (.bool (pb (a=0∧b=0∧c=0))):=by
 have hh:IsSl (IsK .i64) 1 [a,b,c] (.list 1 .full [.int .i64 a,.int .i64 b,.int .i64 c]):= .mk (ys:=[.int .i64 a,.int .i64 b,.int .i64 c]) ⟨rfl,rfl,rfl,trivial⟩ (by simp)
 have:=ZQ [a,b,c] _ hh m
 have e:(!([a,b,c]:List Int).any (· !=0))=pb (a=0∧b=0∧c=0):=ko (by simp)
 rw[e] at this;exact this
theorem Q4 (a b:Int) (m:Mem):Okv tab uR [.int .i64 a,.int .i64 b] m (.bool (pb (0≤a∧a<b))):=by
 refine zh Qg ?_
 obtain⟨stk,cur,nx,live,fl⟩:=m
 simp only[jT,List.map,go_sem,reduceCtorEq,G3,G0,G2]
 repeat' (((first|refine zD ?_ ?_|refine zq ?_ ?_|refine zr ?_ ?_|refine zo ?_ ?_|refine zp ?_ ?_)<;>intro hq)<;>simp only[go_sem,reduceCtorEq,G0,G2,hq])
 all_goals
  rw[z6 rfl rfl,z8]
  refine⟨⟨_,rfl⟩,?_⟩
  refine congrArg AV.bool (ko ?_)
  grind
def FieldsP (l:List DField) (most:Int):Prop:=(l.length:Int)≤most∧(∀f∈l,named f.name=true)∧(l.map DField.name).Nodup
theorem jD {α:Type} {l:List α} {i:Nat} (h:i<l.length) (h1:(l.take i).Nodup) (h2: ∀x∈l.take i,x≠l[i]):(l.take (i+1)).Nodup:=by
 rw[w15 h,w41]
 refine⟨h1,by simp,fun a ha b hb=> ?_⟩
 simp at hb;rw[hb];exact h2 a ha
theorem Zt {α:Type} {l:List α} {i k:Nat} (hk:k<i) (h:i<l.length) (he:l[k]=l[i]): ¬l.Nodup:=fun hn=>by
 have:=(List.nodup_iff_pairwise_ne.1 hn)
 rw[List.pairwise_iff_getElem] at this
 exact this k i (by omega) h hk he
theorem tT (xs:List DField) (most:Int) (x:AV) (hx:IsSl IsField 2 xs x) (hm: ∀f∈xs,f.name.length≤9223372036854775807) (m:Mem):Okv tab yD [x,.int .i64 most] m (.bool (pb (FieldsP xs most))):=by
 refine zh ZV ?_
 obtain⟨stk,cur,nx,live,fl⟩:=m
 simp only[vp,List.map,go_sem,reduceCtorEq,G3,G0,G2,hx.len]
 by_cases hb:(xs.length:Int)>most
 ·simp only[go_sem,reduceCtorEq,G0,G2,hb]
  rw[z6 rfl rfl,z8]
  exact⟨⟨_,rfl⟩,by rw[ze fun h=>by have:=h.1;omega]⟩
 simp only[go_sem,hb]
 have hml:(xs.map DField.name).length=xs.length:=by simp
 refine zc (α:=Nat) (fun i σ=>(i≤xs.length∧(∀c∈xs.take i,named c.name=true)∧((xs.map DField.name).take i).Nodup)∧ ∃nz,heads [0,5] 0 σ=⟨tmps 40 [(0,x),(5,.int .i64 i)],⟨stk++[cur],[],nz,[]::live,fl⟩⟩) (fun i=>xs.length-i) 0 ?_ ?_
 ·refine⟨⟨w0c _,by simp,by simp⟩,?_⟩
  simp only[go_sem,reduceCtorEq,G0,G1]
  exact⟨_,rfl⟩
 ·rintro i σ ⟨⟨hi,ht,hd⟩,nz,hσ⟩
  rw[hσ]
  clear hσ σ
  dsimp only at hi ht hd⊢
  by_cases h:i<xs.length
  ·have e1:nth x i= .agg [.str xs[i].name,.int .i64 xs[i].typ]:=hx.nth h
   simp only[go_sem,reduceCtorEq,G0,G1,G2,w03,h,hx.len,hx.at _ h,e1,(qn _ (hm _ (w07 h)) _).eq]
   cases hc:named xs[i].name
   ·simp only[go_sem,reduceCtorEq,G0,G2]
    rw[z6 rfl rfl,z8]
    exact⟨⟨_,rfl⟩,by rw[ze fun h'=>by have:=h'.2.1 _ (w07 h);rw[hc] at this;cases this]⟩
   ·simp only[go_sem]
    refine zc (α:=Nat) (fun k σ=>(k≤i∧ ∀c∈(xs.map DField.name).take k,c≠xs[i].name)∧ ∃nz,heads [0,5,6] 0 σ=⟨tmps 40 [(0,x),(5,.int .i64 i),(6,.int .i64 k)],⟨stk++[cur],[],nz,[]::live,fl⟩⟩) (fun k=>i-k) 0 ?_ ?_
    ·refine⟨⟨w0c _,by simp⟩,?_⟩
     simp only[go_sem,reduceCtorEq,G0,G1]
     exact⟨_,rfl⟩
    ·rintro k σ ⟨⟨hk,hks⟩,nz,hσ⟩
     rw[hσ]
     clear hσ σ
     dsimp only at hk hks⊢
     by_cases hki:k<i
     ·have hkl:k<xs.length:=by omega
      have e2:nth x k= .agg [.str xs[k].name,.int .i64 xs[k].typ]:=hx.nth hkl
      simp only[go_sem,reduceCtorEq,G0,G1,G2,w03,hki,hx.at _ hkl,e2,hx.at _ h,e1,evStr]
      by_cases hq:xs[k].name=xs[i].name
      ·have hq':(xs[k].name==xs[i].name)=true:=by simp[hq]
       simp only[go_sem,reduceCtorEq,G0,G2,hq']
       rw[z6 rfl rfl,z8]
       exact⟨⟨_,rfl⟩,by rw[ze fun h'=>Zt hki (by rw[hml];exact h) (by simpa using hq) h'.2.2]⟩
      ·have hq':(xs[k].name==xs[i].name)=false:=by simpa using hq
       simp only[go_sem,reduceCtorEq,G0,G2,hq',zb hkl hx.max]
       exact⟨k+1,by omega,⟨hki,zj (P:=fun c=>c≠xs[i].name) (by rw[hml];exact hkl) hks (by simpa using hq)⟩,_,rfl⟩
     ·have:k=i:=by omega
      subst this
      simp only[go_sem,reduceCtorEq,G0,G1,G2,w03,hki,zb h hx.max]
      refine⟨k+1,by omega,⟨h,zj (P:=fun c=>named c.name=true) h ht hc,?_⟩,_,rfl⟩
      exact jD (by rw[hml];exact h) hd (by simpa using hks)
  ·have:i=xs.length:=by omega
   subst this
   rw[w0a] at ht
   rw[←hml,w0a] at hd
   simp only[go_sem,reduceCtorEq,G0,G1,G2,w03,h,hx.len]
   rw[z6 rfl rfl,z8]
   exact⟨⟨_,rfl⟩,by rw[zB ⟨by omega,ht,hd⟩]⟩
def StructP (i:Nat) (t:DTyp):Prop:=(∀f∈t.fields,0≤f.typ∧f.typ<i)∧t.elem=0∧t.len=0∧0<t.fields.length∧FieldsP t.fields 8
def FineT (n i:Nat) (t:DTyp):Prop:=
 ((t.kind=1∨t.kind=2∨t.kind=3)∧t.elem=0∧t.len=0∧t.fields.length=0)∨((t.kind=4∨t.kind=7)∧0≤t.elem∧t.elem<n∧t.len=0∧t.fields.length=0)∨
 (t.kind=6∧0≤t.elem∧t.elem<i∧1≤t.len∧t.len≤16∧t.fields.length=0)∨(t.kind=5∧StructP i t)
theorem ul {n i:Nat} {t:DTyp} (h:t.kind=5):FineT n i t↔StructP i t:=by
 unfold FineT;rw[h];simp
theorem b51:((5:Int)==1)=false:=rfl
theorem b52:((5:Int)==2)=false:=rfl
theorem b53:((5:Int)==3)=false:=rfl
theorem b54:((5:Int)==4)=false:=rfl
theorem b56:((5:Int)==6)=false:=rfl
theorem b57:((5:Int)==7)=false:=rfl
def NamesOk (l:List DField):Prop:= ∀f∈l,f.name.length≤9223372036854775807
theorem XG (xs:List DTyp) (x:AV) (hx:IsSl IsTyp 4 xs x) (i:Nat) (hi:i<xs.length) (hn:NamesOk xs[i].fields) (m:Mem):
  Okv tab uL [x,.int .i64 i] m (.bool (pb (FineT xs.length i xs[i]))):=by
 refine zh XY ?_
 obtain⟨stk,cur,nx,live,fl⟩:=m
 obtain⟨v,e1,q1⟩:=hx.nth hi
 have hlen:=hx.len
 have hat:=hx.at .i64 hi
 have hm:=hx.max
 generalize ht:xs[i]=t at*
 clear ht
 generalize hxn:xs.length=n at*
 obtain⟨kind,elem,len,fields⟩:=t
 dsimp only at e1 q1 hn
 simp only[uC,List.map,go_sem,reduceCtorEq,G3,G0,G2,hat,e1,q1.one]
 by_cases hk:kind=5
 ·subst hk
  simp only[go_sem,reduceCtorEq,G0,G2,b51,b52,b53,b54,b56,b57]
  refine zc (α:=Nat) (fun k σ=>(k≤fields.length∧ ∀f∈fields.take k,0≤f.typ∧f.typ<i)∧ ∃nz,heads [1,5,6] 1 σ=⟨tmps 127 [(1,.int .i64 i),(5,.ptr (stk++[cur]).length 0 nx 0),(6,.int .i64 k)],⟨stk++[cur],[⟨nx,[.int .u8 5,.int .i64 elem,.int .i64 len,v]⟩],nz,[]::live,fl⟩⟩) (fun k=>fields.length-k) 0 ?_ ?_
  ·refine⟨⟨w0c _,by simp⟩,?_⟩
   simp only[go_sem,reduceCtorEq,G0,G1]
   exact⟨_,rfl⟩
  ·rintro k σ ⟨⟨hk,hks⟩,nz,hσ⟩
   rw[hσ]
   clear hσ σ
   dsimp only at hk hks⊢
   by_cases h:k<fields.length
   ·have e2:nth v k= .agg [.str fields[k].name,.int .i64 fields[k].typ]:=q1.nth h
    have hat2:=q1.at .i64 h
    have hlen2:=q1.len
    have hsucc:=zb h q1.max
    simp only[go_sem,G0,G1,G2,w03,h,hlen2,hat2,e2]
    by_cases hf:0≤fields[k].typ∧fields[k].typ<i
    ·have hkn:=zj (P:=fun f=>0≤f.typ∧f.typ<i) h hks hf
     simp only[go_sem,G0,G2,show¬fields[k].typ<0 by omega,show¬fields[k].typ≥i by omega,hat2,e2,hsucc]
     exact⟨k+1,by omega,⟨h,hkn⟩,_,rfl⟩
    ·repeat' (((first|refine zD ?_ ?_|refine zq ?_ ?_|refine zr ?_ ?_|refine zo ?_ ?_|refine zp ?_ ?_)<;>intro hq)<;>simp only[go_sem,G0,G2,hq,hat2,e2])
     all_goals first
      |(rw[z6 rfl rfl,z8];exact⟨⟨_,rfl⟩,by rw[ze fun h'=>hf (((ul rfl).1 h').1 _ (w07 h))]⟩)
      |(exfalso;simp only[decide_eq_false_iff_not] at*;omega)
   ·have:k=fields.length:=by omega
    subst this
    rw[w0a] at hks
    have hF: ∀m,CALL tab yD [v,.int .i64 8] m=_:=fun m=>(tT fields 8 v q1 hn m).eq
    simp only[go_sem,reduceCtorEq,G0,G1,G2,w03,h,q1.len]
    repeat' (((first|refine zD ?_ ?_|refine zq ?_ ?_|refine zr ?_ ?_|refine zo ?_ ?_|refine zp ?_ ?_)<;>intro hq)<;>simp only[go_sem,G0,G2,hq,q1.len,hF])
    all_goals
     rw[z6 rfl rfl,z8]
     refine⟨⟨_,rfl⟩,congrArg AV.bool (ko ?_)⟩
     rw[ul rfl]
     unfold StructP
     simp only[decide_eq_true_eq,decide_eq_false_iff_not,beq_iff_eq,beq_eq_false_iff_ne,Y0] at*
     grind
 ·have hk5:(kind==5)=false:=by simpa using hk
  repeat' (((first|refine zD ?_ ?_|refine zq ?_ ?_|refine zr ?_ ?_|refine zo ?_ ?_|refine zp ?_ ?_)<;>intro hq)<;>simp only[go_sem,reduceCtorEq,G0,G2,hq,hlen,q1.len,hk5])
  all_goals
   rw[z6 rfl rfl,z8]
   refine⟨⟨_,rfl⟩,congrArg AV.bool (ko ?_)⟩
   unfold FineT
   clear hat hlen e1 q1 hn
   simp only[decide_eq_true_eq,decide_eq_false_iff_not,beq_iff_eq,beq_eq_false_iff_ne] at*
   grind
def ents (ns:List (List UInt8)):List AV:=ns.map fun s=> .tup [.str s,.bool true]
theorem Yf (s:List UInt8): ∀ns,mapGet true (.bool false) (.str s) (ents ns)=some (.bool (pb (s∈ns)))
 | []=>by rw[ze (by simp)];rfl
 |n::r=>by
  have ih:=Yf s r
  simp only[ents,w32,mapGet,keyEq] at ih⊢
  by_cases h:s=n
  ·subst h;rw[zB w1b];simp
  ·have:(s==n)=false:=by simpa using h
   rw[this];simp only[ih]
   congr 2
   exact ko (by rw[Y0];simp[h])
theorem Ye (s:List UInt8): ∀ns,s∉ns→mapPut true (.str s) (.bool true) (ents ns)=some (ents (ns++[s]))
 | [],_=>rfl
 |n::r,h=>by
  have ih:=Ye s r (fun h'=>h (w1c _ h'))
  have hne:(s==n)=false:=by simp only[beq_eq_false_iff_ne];intro e;exact h (e▸w1b)
  simp only[ents,w32,w31,mapPut,keyEq,hne] at ih⊢
  rw[ih];rfl
theorem qC {α β:Type} (f:α→β) {l:List α} {i:Nat} (h:i<l.length):(l.map f).take (i+1)=(l.map f).take i++[f l[i]]:=by
 rw[w15 (by simpa using h)];simp
theorem z2l (xs:List DTyp) (x:AV) (hx:IsSl IsTyp 4 xs x) (i:Nat) (hi:i<xs.length) (hw:WfTyp xs[i]) (m:Mem):
  Okv tab Yw [x,.int .i64 i] m (.bool (pb (FineT xs.length i xs[i]))):=by
 refine zh z2A ?_
 obtain⟨stk,cur,nx,live,fl⟩:=m
 obtain⟨v,e1,q1⟩:=hx.nth hi
 have hlen:=hx.len
 have hat:=hx.at .i64 hi
 have hm:=hx.max
 generalize ht:xs[i]=t at*
 clear ht
 generalize hxn:xs.length=n at*
 obtain⟨kind,elem,len,fields⟩:=t
 dsimp only at e1 q1
 have hlm:=q1.max
 have ew:(0≤IntKind.i64.wrap (len-1)∧IntKind.i64.wrap (len-1)<16)↔(1≤len∧len≤16):=by
  have:=hw.len
  unfold in64 at this
  dsimp only at this
  by_cases hh:len= -9223372036854775808
  ·subst hh;decide
  ·rw[zd (by omega) (by omega)];omega
 have hW: ∀a b m,CALL tab uR [.int .i64 a,.int .i64 b] m=_:=fun a b m=>(Q4 a b m).eq
 have hz1: ∀a m,CALL tab yj [.list 1 .full [.int .i64 a]] m=_:=fun a m=>(zaz a m).eq
 have hz2: ∀a b m,CALL tab yj [.list 1 .full [.int .i64 a,.int .i64 b]] m=_:=fun a b m=>(zay a b m).eq
 have hz3: ∀a b c m,CALL tab yj [.list 1 .full [.int .i64 a,.int .i64 b,.int .i64 c]] m=_:=fun a b c m=>(zax a b c m).eq
 simp only[Yr,List.map,go_sem,reduceCtorEq,G3,G0,G2,hat,e1,q1.one]
 by_cases hk:kind=5
 ·subst hk
  have hlen2:=q1.len
  simp only[go_sem,reduceCtorEq,G3,G0,G2,b51,b52,b53,b54,b56,b57,hlen2]
  refine zc (α:=Nat) (fun k σ=>(k≤fields.length∧(∀f∈fields.take k,0≤f.typ∧f.typ<i)∧(∀f∈fields.take k,named f.name=true)∧((fields.map DField.name).take k).Nodup)∧ ∃nz,heads [1,5,6,7,72,73,74] 2 σ=⟨tmps 118 [(1,.int .i64 i),(5,.ptr (stk++[cur]).length 0 nx 0),(6,.fn (.func uR) [] []),(7,.mapR (stk++[cur]).length 1 (nx+1)),(72,v),(73,.int .i64 fields.length),(74,.int .i64 k)],
   ⟨stk++[cur],[⟨nx,[.int .u8 5,.int .i64 elem,.int .i64 len,v]⟩,⟨nx+1,[.tup (ents ((fields.map DField.name).take k))]⟩],nz,[]::live,fl⟩⟩) (fun k=>fields.length-k) 0 ?_ ?_
  ·refine⟨⟨w0c _,by simp,by simp,by simp⟩,?_⟩
   simp only[go_sem,reduceCtorEq,G0,G1]
   exact⟨_,rfl⟩
  ·rintro k σ ⟨⟨hk,hks,hkn,hkd⟩,nz,hσ⟩
   rw[hσ]
   clear hσ σ
   dsimp only at hk hks hkn hkd⊢
   have hml:(fields.map DField.name).length=fields.length:=by simp
   by_cases h:k<fields.length
   ·have e2:nth v k= .agg [.str fields[k].name,.int .i64 fields[k].typ]:=q1.nth h
    have hat2:=q1.at .i64 h
    have hsucc:=zb h q1.max
    have hN: ∀m,CALL tab vE [.str fields[k].name] m=_:=fun m=>(kG fields[k].name m).eq
    simp only[go_sem,G3,G0,G1,G2,w03,h,hat2,e2,hN]
    by_cases hc:named fields[k].name=true
    case neg=>
     have hc':named fields[k].name=false:=by simpa using hc
     simp only[go_sem,G0,G2,hc']
     rw[z6 rfl rfl,z8]
     refine⟨⟨_,rfl⟩,congrArg AV.bool (ze fun h'=> ?_).symm⟩
     exact hc ((((ul rfl).1 h').2.2.2.2).2.1 _ (w07 h))
    simp only[go_sem,G0,G2,hc,Yf]
    by_cases hs:fields[k].name∈(fields.map DField.name).take k
    ·simp only[go_sem,G0,G2,zB hs]
     rw[z6 rfl rfl,z8]
     refine⟨⟨_,rfl⟩,congrArg AV.bool (ze fun h'=> ?_).symm⟩
     have hnd:=(((ul rfl).1 h').2.2.2.2).2.2
     obtain⟨j,hj,he⟩:=List.mem_take_iff_getElem.1 hs
     refine Zt (l:=fields.map DField.name) (i:=k) (k:=j) (by omega) (by rw[hml];exact h) ?_ hnd
     rw[he];simp
    simp only[go_sem,G0,G2,ze hs,hW]
    by_cases hf:0≤fields[k].typ∧fields[k].typ<i
    case neg=>
     simp only[go_sem,G0,G2,ze hf]
     rw[z6 rfl rfl,z8]
     exact⟨⟨_,rfl⟩,by rw[ze fun h'=>hf (((ul rfl).1 h').1 _ (w07 h))]⟩
    simp only[go_sem,G0,G2,zB hf,Ye _ _ hs,hsucc,w05]
    have htk:=qC DField.name h
    rw[←htk]
    refine⟨k+1,by omega,⟨h,zj (P:=fun f=>0≤f.typ∧f.typ<i) h hks hf,zj (P:=fun f=>named f.name=true) h hkn hc,?_⟩,_,rfl⟩
    exact jD (by rw[hml];exact h) hkd (fun y hy e=>hs (by rw[List.getElem_map] at e;exact e▸hy))
   ·have:k=fields.length:=by omega
    subst this
    rw[w0a] at hks hkn
    rw[←hml,w0a] at hkd
    simp only[go_sem,reduceCtorEq,G0,G1,G2,w03,h,hz2]
    repeat' (((first|refine zD ?_ ?_|refine zq ?_ ?_|refine zr ?_ ?_|refine zo ?_ ?_|refine zp ?_ ?_)<;>intro hq)<;>simp only[go_sem,G0,G2,hq,q1.len])
    all_goals
     rw[z6 rfl rfl,z8]
     refine⟨⟨_,rfl⟩,congrArg AV.bool (ko ?_)⟩
     rw[ul rfl]
     unfold StructP FieldsP
     clear hz1 hz2 hz3 hW ew
     simp only[decide_eq_true_eq,decide_eq_false_iff_not,Y0,U1] at*
     grind
 ·have hk5:(kind==5)=false:=by simpa using hk
  repeat' (((first|refine zD ?_ ?_|refine zq ?_ ?_|refine zr ?_ ?_|refine zo ?_ ?_|refine zp ?_ ?_)<;>intro hq)<;>simp only[go_sem,reduceCtorEq,G0,G2,hq,hlen,q1.len,hk5,hW,hz1,hz2,hz3])
  all_goals
   rw[z6 rfl rfl,z8]
   refine⟨⟨_,rfl⟩,congrArg AV.bool (ko ?_)⟩
   unfold FineT
   clear hat hlen e1 q1 hz1 hz2 hz3 hW
   simp only[beq_iff_eq,beq_eq_false_iff_ne,Y0,U1] at*
   grind
def IsN (n:Nat) (y:AV):Prop:=y= .int .i64 (n:Int)
def ValidT (l:List DTyp):Prop:= ∀i (h:i<l.length),FineT l.length i l[i]
def contrib (t:DTyp) (below out:List Nat):Nat:=
 if t.kind=4 then below.getD t.elem.toNat 0 else if t.kind=7 then 16*below.getD t.elem.toNat 0 else if t.kind=6 then t.len.toNat*out.getD t.elem.toNat 0 else 0
def fsum (fs:List DField) (out:List Nat):Nat:=(fs.map fun f=>out.getD f.typ.toNat 0).sum
def w1 (t:DTyp) (below out:List Nat):Nat:=min 5001 (1+contrib t below out+fsum t.fields out)
def rnd (below:List Nat) (l:List DTyp):List Nat:=l.foldl (fun out t=>out++[w1 t below out]) []
def rounds (l:List DTyp):Nat→List Nat
 |0=>List.replicate l.length 0
 |r+1=>rnd (rounds l r) l
theorem W8 (b:List Nat) (l:List DTyp) {i:Nat} (h:i<l.length):rnd b (l.take (i+1))=rnd b (l.take i)++[w1 l[i] b (rnd b (l.take i))]:=by
 unfold rnd
 rw[w15 h,List.foldl_append];rfl
theorem VY (b:List Nat) (l:List DTyp): ∀i,i≤l.length→(rnd b (l.take i)).length=i
 |0,_=>by simp[rnd]
 |i+1,h=>by rw[W8 b l h,w05,VY b l i (by omega)];rfl
theorem Qq (b:List Nat) (l:List DTyp): ∀i,i≤l.length→ ∀x∈rnd b (l.take i),x≤5001
 |0,_=>by simp[rnd]
 |i+1,h=>by
  rw[W8 b l h]
  intro x hx
  rcases w08.1 hx with hx|hx
  ·exact Qq b l i (by omega) x hx
  ·simp at hx;subst hx;unfold w1;omega
theorem jB (l:List DTyp): ∀r,(rounds l r).length=l.length
 |0=>by simp[rounds]
 |r+1=>by have:=VY (rounds l r) l l.length (w0b _);rw[w0a] at this;exact this
theorem z1C (l:List DTyp): ∀r,∀x∈rounds l r,x≤5001
 |0,x,h=>by simp[rounds] at h;omega
 |r+1,x,h=>by have:=Qq (rounds l r) l l.length (w0b _) x;rw[w0a] at this;exact this h
theorem jf {l:List Nat} {c:Nat} (h: ∀x∈l,x≤c) (i:Nat):l.getD i 0≤c:=by
 rw[w02]
 cases hq:l[i]? with
 |none=>simp
 |some x=>simp only[w2a];exact h x (w3e hq)
theorem tZ {l:List Nat} {i:Nat} (h:i<l.length):l.getD i 0=l[i]:=by simp[w02,h]
theorem z87 {fs:List DField} {k:Nat} (h:k<fs.length) (out:List Nat):fsum (fs.take (k+1)) out=fsum (fs.take k) out+out.getD fs[k].typ.toNat 0:=by
 unfold fsum
 rw[w15 h,w28,List.sum_append];simp
theorem z3f {fs:List DField} {out:List Nat} {c:Nat} (h: ∀x∈out,x≤c):fsum fs out≤c*fs.length:=by
 unfold fsum
 induction fs with
 |nil=>simp
 |cons f r ih=>
  have:=jf h f.typ.toNat
  simp only[w32,List.sum_cons,w26,Nat.mul_add,w19];omega
def parts (t:DTyp):List Int:=(if t.kind=6 then [t.elem] else [])++t.fields.map DField.typ
theorem qm (t:DTyp) (x:AV) (hx:IsTyp t x) (hl:t.fields.length≤100) (m:Mem):Okl (IsK .i64) 1 tab u6 [x] m (parts t):=by
 refine qt YN ?_
 obtain⟨stk,cur,nx,live,fl⟩:=m
 obtain⟨kind,elem,len,fields⟩:=t
 obtain⟨v,rfl,q1⟩:=hx
 dsimp only at q1 hl
 unfold parts
 dsimp only
 simp only[vO,List.map,go_sem,reduceCtorEq,G3,G0,G2]
 by_cases hk:kind=6
 ·have hk':(kind==6)=true:=by simpa using hk
  rw[if_pos hk]
  simp only[go_sem,reduceCtorEq,G0,G2,hk']
  refine(Own.nil (R:=IsK .i64) (s:=1) []).xv (zi · _ _ _) (zE (R:=IsK .i64) (x:=elem) rfl) (by simp) fun y' n' e' ho'=> ?_
  simp only[go_sem,reduceCtorEq,G0,G2]
  rw[w48] at ho'
  refine zc (α:=Nat) (fun k σ=>k≤fields.length∧ ∃nz y e,Own (IsK .i64) 1 y ([elem]++(fields.map DField.typ).take k) e∧heads [1,3,4] 1 σ=⟨tmps 30 [(1,.ptr (stk++[cur]).length 0 nx 0),(3,y),(4,.int .i64 k)],⟨stk++[cur],[⟨nx,[.int .u8 kind,.int .i64 elem,.int .i64 len,v]⟩],nz,e::live,fl⟩⟩) (fun k=>fields.length-k) 0 ?_ ?_
  ·refine⟨w0c _,n',y',e',by simpa using ho',?_⟩
   simp only[go_sem,reduceCtorEq,G0,G1]
   rfl
  ·rintro k σ ⟨hk,nz,y,e,ho,hσ⟩
   rw[hσ]
   clear hσ σ
   dsimp only at hk⊢
   by_cases h:k<fields.length
   ·have e2:nth v k= .agg [.str fields[k].name,.int .i64 fields[k].typ]:=q1.nth h
    have hat2:=q1.at .i64 h
    simp only[go_sem,G0,G1,G2,w03,h,q1.len,hat2,e2]
    refine ho.xv (zi · _ _ _) (zE (R:=IsK .i64) (x:=fields[k].typ) rfl) (by simp;omega) fun y' n' e' ho'=> ?_
    simp only[go_sem,G0,G2,zb h q1.max]
    rw[w0f,←qC DField.typ h] at ho'
    exact⟨k+1,by omega,h,_,y',e',ho',rfl⟩
   ·have:k=fields.length:=by omega
    subst this
    rw[show(fields.map DField.typ).take fields.length=fields.map DField.typ by rw[show fields.length=(fields.map DField.typ).length by simp,w0a]] at ho
    simp only[go_sem,G0,G1,G2,w03,h,q1.len]
    exact ue ho
 ·have hk':(kind==6)=false:=by simpa using hk
  rw[if_neg hk]
  simp only[go_sem,hk']
  refine zc (α:=Nat) (fun k σ=>k≤fields.length∧ ∃nz y e,Own (IsK .i64) 1 y ([]++(fields.map DField.typ).take k) e∧heads [1,3,4] 1 σ=⟨tmps 30 [(1,.ptr (stk++[cur]).length 0 nx 0),(3,y),(4,.int .i64 k)],⟨stk++[cur],[⟨nx,[.int .u8 kind,.int .i64 elem,.int .i64 len,v]⟩],nz,e::live,fl⟩⟩) (fun k=>fields.length-k) 0 ?_ ?_
  ·refine⟨w0c _,nx+1,.nils,[],by simpa using Own.nil (R:=IsK .i64) (s:=1) [],?_⟩
   simp only[go_sem,reduceCtorEq,G0,G1]
   rfl
  ·rintro k σ ⟨hk,nz,y,e,ho,hσ⟩
   rw[hσ]
   clear hσ σ
   dsimp only at hk⊢
   by_cases h:k<fields.length
   ·have e2:nth v k= .agg [.str fields[k].name,.int .i64 fields[k].typ]:=q1.nth h
    have hat2:=q1.at .i64 h
    simp only[go_sem,G0,G1,G2,w03,h,q1.len,hat2,e2]
    refine ho.xv (zi · _ _ _) (zE (R:=IsK .i64) (x:=fields[k].typ) rfl) (by simp;omega) fun y' n' e' ho'=> ?_
    simp only[go_sem,G0,G2,zb h q1.max]
    rw[w0f,←qC DField.typ h] at ho'
    exact⟨k+1,by omega,h,_,y',e',ho',rfl⟩
   ·have:k=fields.length:=by omega
    subst this
    rw[show(fields.map DField.typ).take fields.length=fields.map DField.typ by rw[show fields.length=(fields.map DField.typ).length by simp,w0a]] at ho
    simp only[go_sem,G0,G1,G2,w03,h,q1.len]
    exact ue ho
theorem z4c {n i:Nat} {t:DTyp} (h:FineT n i t): ∀p∈parts t,0≤p∧p<i:=by
 intro p hp
 unfold parts at hp
 rcases h with⟨h1,_,_,h4⟩|⟨h1,_,_,_,h4⟩|⟨h1,h2,h3,_,_,h4⟩|⟨h1,h2⟩
 ·have:t.fields=[]:=w18 h4
  rw[this,if_neg (by omega)] at hp;simp at hp
 ·have:t.fields=[]:=w18 h4
  rw[this,if_neg (by omega)] at hp;simp at hp
 ·have:t.fields=[]:=w18 h4
  rw[this,if_pos h1] at hp;simp at hp;subst hp;exact⟨h2,h3⟩
 ·rw[if_neg (by omega)] at hp
  simp only[w48,w36] at hp
  obtain⟨f,hf,rfl⟩:=hp
  exact h2.1 f hf
def partBy (t:DTyp):Nat:=if t.kind=6 then t.len.toNat else 1
def psum (t:DTyp) (out:List Nat) (k:Nat):Nat:=(((parts t).take k).map fun p=>partBy t*out.getD p.toNat 0).sum
theorem z1E {t:DTyp} {k:Nat} (h:k<(parts t).length) (out:List Nat):psum t out (k+1)=psum t out k+partBy t*out.getD (parts t)[k].toNat 0:=by
 unfold psum
 rw[w15 h,w28,List.sum_append];simp
theorem z46 {n i:Nat} {t:DTyp} (h:FineT n i t) (out:List Nat):psum t out (parts t).length=(if t.kind=6 then t.len.toNat*out.getD t.elem.toNat 0 else 0)+fsum t.fields out:=by
 unfold psum
 rw[w0a]
 unfold parts partBy fsum
 by_cases h6:t.kind=6
 ·have hf:t.fields=[]:=by
   rcases h with⟨h1,_,_,h4⟩|⟨h1,_,_,_,h4⟩|⟨h1,h2,h3,_,_,h4⟩|⟨h1,h2⟩<;>first|omega|exact w18 h4
  simp[h6,hf]
 ·simp[h6,List.map_map,Function.comp_def]
theorem um {n i:Nat} {t:DTyp} (h:FineT n i t):t.fields.length≤8∧(t.kind=6→1≤t.len∧t.len≤16)∧((t.kind=4∨t.kind=7)→0≤t.elem∧t.elem<n∧t.fields=[])∧(t.kind=6→0≤t.elem∧t.elem<i∧t.fields=[])∧(t.kind≠5→t.fields=[])∧(∀f∈t.fields,0≤f.typ∧f.typ<i):=by
 rcases h with⟨h1,h2,h3,h4⟩|⟨h1,h2,h3,h5,h4⟩|⟨h1,h2,h3,h5,h6,h4⟩|⟨h1,h2⟩
 ·have hf:t.fields=[]:=w18 h4
  rw[hf];refine⟨by simp,by omega,by omega,by omega,by simp,by simp⟩
 ·have hf:t.fields=[]:=w18 h4
  rw[hf];refine⟨by simp,by omega,fun _=>⟨h2,h3,rfl⟩,by omega,by simp,by simp⟩
 ·have hf:t.fields=[]:=w18 h4
  rw[hf];refine⟨by simp,fun _=>⟨h5,h6⟩,by omega,fun _=>⟨h2,h3,rfl⟩,by simp,by simp⟩
 ·exact⟨by have:=h2.2.2.2.2.1;omega,by omega,by omega,by omega,fun h=>absurd h1 h,h2.1⟩
theorem z1G {n i:Nat} {t:DTyp} (h:FineT n i t):partBy t≤16:=by
 have:=(um h).2.1
 unfold partBy;split
 ·rename_i h6;have:=this h6;omega
 ·omega
theorem min5001 (a:Nat):(if(5001:Int)<(a:Int) then(5001:Int) else(a:Int))=((min 5001 a:Nat):Int):=by split<;>omega
theorem toNat_lt {p:Int} {i:Nat} (h:0≤p∧p<i):p.toNat<i:=by omega
theorem tY {a b:Nat} (ha:a≤16) (hb:b≤5001):a*b≤80016:=Nat.le_trans (Nat.mul_le_mul ha hb) (by decide)
theorem tR (l:List DTyp) (x:AV) (hx:IsSl IsTyp 4 l x) (hv:ValidT l) (hl:l.length≤100): ∀(d:Nat),d≤3→ ∀m,Okl IsN 1 tab x6 [x,.int .i64 (d:Nat)] m (rounds l (d+1))
 |0,_=>fun m=>by
  refine qt tV ?_
  obtain⟨stk,cur,nx,live,fl⟩:=m
  rw[show rounds l (0+1)=rnd (rounds l 0) l from rfl]
  simp only[yZ,List.map,go_sem,reduceCtorEq,G3,G0,G2,(by decide: ¬((0:Nat):Int)>0)]
  refine zc (α:=Nat) (fun i σ=>i≤l.length∧ ∃nz y e,Own IsN 1 y (rnd (rounds l 0) (l.take i)) e∧heads [0,1,5,6,7] 0 σ=⟨tmps 106 [(0,x),(1,.int .i64 (0:Nat)),(5,.nils),(6,y),(7,.int .i64 i)],⟨stk++[cur],[],nz,e::live,fl⟩⟩) (fun i=>l.length-i) 0 ?_ ?_
  ·refine⟨w0c _,nx,.nils,[],by simpa [rnd] using Own.nil _,?_⟩
   simp only[go_sem,reduceCtorEq,G0,G1]
   rfl
  ·rintro i σ ⟨hi,nz,y,e,ho,hσ⟩
   rw[hσ]
   clear hσ σ
   dsimp only at hi⊢
   by_cases h:i<l.length
   ·have hfine:=hv i h
    obtain⟨v,e1,q1⟩:=hx.nth h
    have hty:IsTyp l[i] (nth x i):=hx.nth h
    have hat:=hx.at .i64 h
    have hol:=VY (rounds l 0) l i hi
    have hsucc:=W8 (rounds l 0) l h
    have hle:=Qq (rounds l 0) l i hi
    have hflen:=um hfine
    have hpok:=z4c hfine
    generalize hout:rnd (rounds l 0) (l.take i)=out at*
    have hty':=qm l[i] (nth x i) hty (by omega)
    have hag:=hty.agg.1
    simp only[go_sem,reduceCtorEq,G0,G1,G2,w03,h,hx.len,hat,hag]
    refine(hty' _).xv fun yp ts np hp=> ?_
    simp only[go_sem,reduceCtorEq,G0,G2]
    refine zc (α:=Nat) (fun k σ=>k≤(parts l[i]).length∧ ∃nz,heads [0,1,5,6,7,8,9,10] 0 σ=⟨tmps 106 [(0,x),(1,.int .i64 (0:Nat)),(5,.nils),(6,y),(7,.int .i64 i),(8,.int .i64 (min 5001 (1+psum l[i] out k):Nat)),(9,yp),(10,.int .i64 k)],⟨stk++[cur],[],nz,(ts++e)::live,fl⟩⟩) (fun k=>(parts l[i]).length-k) 0 ?_ ?_
    ·refine⟨w0c _,?_⟩
     simp only[go_sem,reduceCtorEq,G0,G1,psum]
     exact⟨_,rfl⟩
    ·rintro k σ ⟨hk,nz,hσ⟩
     rw[hσ]
     clear hσ σ
     dsimp only at hk⊢
     have hplen:(parts l[i]).length≤9:=by unfold parts;rw[w05,w4e];split<;>simp<;>omega
     by_cases hkl:k<(parts l[i]).length
     ·have hpk:=hpok _ (w07 hkl)
      have e2:nth yp k= .int .i64 (parts l[i])[k]:=hp.nth hkl
      have e2':nth yp k= .int .i64 ((parts l[i])[k].toNat:Nat):=by rw[e2];congr 1;omega
      have hoi:(parts l[i])[k].toNat<out.length:=by omega
      have e3:nth y (parts l[i])[k].toNat= .int .i64 (out[(parts l[i])[k].toNat]:Nat):=ho.nth hoi
      have hb:=z1G hfine
      have hc:=jf hle (parts l[i])[k].toNat
      have hmul:=tY hb hc
      rw[tZ hoi] at hc hmul
      have hps:=z1E hkl out
      rw[tZ hoi] at hps
      have ew:IntKind.i64.wrap ((min 5001 (1+psum l[i] out k):Nat)+IntKind.i64.wrap ((partBy l[i]:Nat)*(out[(parts l[i])[k].toNat]:Nat)))=((min 5001 (1+psum l[i] out k)+partBy l[i]*out[(parts l[i])[k].toNat]:Nat):Int):=by
       have:IntKind.i64.wrap ((partBy l[i]:Nat)*(out[(parts l[i])[k].toNat]:Nat))=((partBy l[i]*out[(parts l[i])[k].toNat]:Nat):Int):=by
        rw[←Int.natCast_mul,zd (by omega) (by omega)]
       rw[this,zd (by omega) (by omega)];omega
      have hmin:min 5001 (min 5001 (1+psum l[i] out k)+partBy l[i]*out[(parts l[i])[k].toNat])=min 5001 (1+psum l[i] out (k+1)):=by rw[hps];omega
      have hsk:IntKind.i64.wrap ((k:Int)+1)=((k+1:Nat):Int):=by rw[zd (by omega) (by omega)];omega
      by_cases h6:l[i].kind=6
      ·have h6':(l[i].kind==6)=true:=by simpa using h6
       have hl6:l[i].len=((partBy l[i]:Nat):Int):=by have:=hflen.2.1 h6;unfold partBy;rw[if_pos h6];omega
       simp only[go_sem,reduceCtorEq,G0,G1,G2,w03,hkl,hp.len,hat,e1,h6',hp.at _ hkl,e2',ho.at _ hoi,e3,hl6,ew,min5001,hmin,hsk]
       exact⟨k+1,by omega,hkl,_,rfl⟩
      ·have h6':(l[i].kind==6)=false:=by simpa using h6
       have hl6:(1:Int)=((partBy l[i]:Nat):Int):=by unfold partBy;rw[if_neg h6];first|done|rfl
       have ew2:=ew
       rw[←hl6] at ew2
       simp only[go_sem,reduceCtorEq,G0,G1,G2,w03,hkl,hp.len,hat,e1,h6',hp.at _ hkl,e2',ho.at _ hoi,e3,ew2,min5001,hmin,hsk]
       exact⟨k+1,by omega,hkl,_,rfl⟩
     ·have:k=(parts l[i]).length:=by omega
      subst this
      have hps:=z46 hfine out
      generalize psum l[i] out (parts l[i]).length=ps at*
      have hfs:=z3f (fs:=l[i].fields) hle
      have hps5:ps≤200000:=by
       rw[hps]
       have:=Nat.mul_le_mul (w0b 5001) hflen.1
       split
       ·rename_i h6
        have h16:=hflen.2.1 h6
        have:=tY (a:=l[i].len.toNat) (by omega) (jf hle l[i].elem.toNat)
        omega
       ·omega
      have hsuc:=zb h hx.max
      simp only[go_sem,reduceCtorEq,G0,G1,G2,w03,hkl,hp.len]
      have hw:min 5001 (1+ps)=w1 l[i] (rounds l 0) out:=by
       unfold w1 contrib
       have hz: ∀j,(rounds l 0).getD j 0=0:=fun j=>by
        simp only[rounds,w02,w38];split<;>rfl
       rw[hps,hz]
       by_cases h4:l[i].kind=4
       ·simp[h4]
       ·by_cases h7:l[i].kind=7
        ·simp[h7]
        ·simp only[h4,h7,if_false];omega
      rw[hw] at*
      simp only[go_sem,reduceCtorEq,G0,G2,(by decide: ¬((0:Nat):Int)>0)]
      refine(ho.push ts).xv (zi · _ _ _) (zE (R:=IsN) (x:=w1 l[i] (rounds l 0) out) rfl) (by simp;omega) fun y' n' e' ho'=> ?_
      simp only[go_sem,reduceCtorEq,G0,G2,hsuc]
      rw[←hsucc] at ho'
      exact⟨i+1,by omega,h,_,_,_,ho',rfl⟩
   ·have:i=l.length:=by omega
    subst this
    rw[w0a] at ho
    simp only[go_sem,reduceCtorEq,G0,G1,G2,w03,h,hx.len]
    exact ue ho
 |d+1,hd=>fun m=>by
  have ih:=tR l x hx hv hl d (by omega)
  refine qt tV ?_
  obtain⟨stk,cur,nx,live,fl⟩:=m
  rw[show rounds l (d+1+1)=rnd (rounds l (d+1)) l from rfl]
  have hd0:(((d+1:Nat):Int)>0)=True:=by first|(simp;done)|(simp;omega)
  have hsub:IntKind.i64.wrap (((d+1:Nat):Int)-1)=((d:Nat):Int):=by rw[zd (by omega) (by omega)];omega
  simp only[yZ,List.map,go_sem,reduceCtorEq,G3,G0,G2,hd0,hsub]
  refine(ih _).xv fun B tb nb hB=> ?_
  simp only[go_sem,reduceCtorEq,G0,G2]
  refine zc (α:=Nat) (fun i σ=>i≤l.length∧ ∃nz y e,Own IsN 1 y (rnd (rounds l (d+1)) (l.take i)) e∧heads [0,1,5,6,7] 0 σ=⟨tmps 106 [(0,x),(1,.int .i64 ((d+1):Nat)),(5,B),(6,y),(7,.int .i64 i)],⟨stk++[cur],[],nz,e::live,fl⟩⟩) (fun i=>l.length-i) 0 ?_ ?_
  ·refine⟨w0c _,nb,.nils,tb,by simpa [rnd] using Own.nil _,?_⟩
   simp only[go_sem,reduceCtorEq,G0,G1]
   rfl
  ·rintro i σ ⟨hi,nz,y,e,ho,hσ⟩
   rw[hσ]
   clear hσ σ
   dsimp only at hi⊢
   by_cases h:i<l.length
   ·have hfine:=hv i h
    obtain⟨v,e1,q1⟩:=hx.nth h
    have hty:IsTyp l[i] (nth x i):=hx.nth h
    have hat:=hx.at .i64 h
    have hol:=VY (rounds l (d+1)) l i hi
    have hsucc:=W8 (rounds l (d+1)) l h
    have hle:=Qq (rounds l (d+1)) l i hi
    have hflen:=um hfine
    have hpok:=z4c hfine
    generalize hout:rnd (rounds l (d+1)) (l.take i)=out at*
    have hty':=qm l[i] (nth x i) hty (by omega)
    have hag:=hty.agg.1
    simp only[go_sem,reduceCtorEq,G0,G1,G2,w03,h,hx.len,hat,hag]
    refine(hty' _).xv fun yp ts np hp=> ?_
    simp only[go_sem,reduceCtorEq,G0,G2]
    refine zc (α:=Nat) (fun k σ=>k≤(parts l[i]).length∧ ∃nz,heads [0,1,5,6,7,8,9,10] 0 σ=⟨tmps 106 [(0,x),(1,.int .i64 ((d+1):Nat)),(5,B),(6,y),(7,.int .i64 i),(8,.int .i64 (min 5001 (1+psum l[i] out k):Nat)),(9,yp),(10,.int .i64 k)],⟨stk++[cur],[],nz,(ts++e)::live,fl⟩⟩) (fun k=>(parts l[i]).length-k) 0 ?_ ?_
    ·refine⟨w0c _,?_⟩
     simp only[go_sem,reduceCtorEq,G0,G1,psum]
     exact⟨_,rfl⟩
    ·rintro k σ ⟨hk,nz,hσ⟩
     rw[hσ]
     clear hσ σ
     dsimp only at hk⊢
     have hplen:(parts l[i]).length≤9:=by unfold parts;rw[w05,w4e];split<;>simp<;>omega
     by_cases hkl:k<(parts l[i]).length
     ·have hpk:=hpok _ (w07 hkl)
      have e2:nth yp k= .int .i64 (parts l[i])[k]:=hp.nth hkl
      have e2':nth yp k= .int .i64 ((parts l[i])[k].toNat:Nat):=by rw[e2];congr 1;omega
      have hoi:(parts l[i])[k].toNat<out.length:=by omega
      have e3:nth y (parts l[i])[k].toNat= .int .i64 (out[(parts l[i])[k].toNat]:Nat):=ho.nth hoi
      have hb:=z1G hfine
      have hc:=jf hle (parts l[i])[k].toNat
      have hmul:=tY hb hc
      rw[tZ hoi] at hc hmul
      have hps:=z1E hkl out
      rw[tZ hoi] at hps
      have ew:IntKind.i64.wrap ((min 5001 (1+psum l[i] out k):Nat)+IntKind.i64.wrap ((partBy l[i]:Nat)*(out[(parts l[i])[k].toNat]:Nat)))=((min 5001 (1+psum l[i] out k)+partBy l[i]*out[(parts l[i])[k].toNat]:Nat):Int):=by
       have:IntKind.i64.wrap ((partBy l[i]:Nat)*(out[(parts l[i])[k].toNat]:Nat))=((partBy l[i]*out[(parts l[i])[k].toNat]:Nat):Int):=by
        rw[←Int.natCast_mul,zd (by omega) (by omega)]
       rw[this,zd (by omega) (by omega)];omega
      have hmin:min 5001 (min 5001 (1+psum l[i] out k)+partBy l[i]*out[(parts l[i])[k].toNat])=min 5001 (1+psum l[i] out (k+1)):=by rw[hps];omega
      have hsk:IntKind.i64.wrap ((k:Int)+1)=((k+1:Nat):Int):=by rw[zd (by omega) (by omega)];omega
      by_cases h6:l[i].kind=6
      ·have h6':(l[i].kind==6)=true:=by simpa using h6
       have hl6:l[i].len=((partBy l[i]:Nat):Int):=by have:=hflen.2.1 h6;unfold partBy;rw[if_pos h6];omega
       simp only[go_sem,reduceCtorEq,G0,G1,G2,w03,hkl,hp.len,hat,e1,h6',hp.at _ hkl,e2',ho.at _ hoi,e3,hl6,ew,min5001,hmin,hsk]
       exact⟨k+1,by omega,hkl,_,rfl⟩
      ·have h6':(l[i].kind==6)=false:=by simpa using h6
       have hl6:(1:Int)=((partBy l[i]:Nat):Int):=by unfold partBy;rw[if_neg h6];first|done|rfl
       have ew2:=ew
       rw[←hl6] at ew2
       simp only[go_sem,reduceCtorEq,G0,G1,G2,w03,hkl,hp.len,hat,e1,h6',hp.at _ hkl,e2',ho.at _ hoi,e3,ew2,min5001,hmin,hsk]
       exact⟨k+1,by omega,hkl,_,rfl⟩
     ·have:k=(parts l[i]).length:=by omega
      subst this
      have hps:=z46 hfine out
      generalize psum l[i] out (parts l[i]).length=ps at*
      have hfs:=z3f (fs:=l[i].fields) hle
      have hps5:ps≤200000:=by
       rw[hps]
       have:=Nat.mul_le_mul (w0b 5001) hflen.1
       split
       ·rename_i h6
        have h16:=hflen.2.1 h6
        have:=tY (a:=l[i].len.toNat) (by omega) (jf hle l[i].elem.toNat)
        omega
       ·omega
      have hsuc:=zb h hx.max
      simp only[go_sem,reduceCtorEq,G0,G1,G2,w03,hkl,hp.len]
      have hd0:(((d+1:Nat):Int)>0)=True:=by first|(simp;done)|(simp;omega)
      have hbel:=z1C l (d+1)
      have hblen:=jB l (d+1)
      generalize rounds l (d+1)=bel at*
      have hbs:IsSl IsN 1 bel B:=hB.sl (by omega)
      have hcb:=jf hbel l[i].elem.toNat
      by_cases h4:l[i].kind=4
      ·have h4':(l[i].kind==4)=true:=by simpa using h4
       have h7':(l[i].kind==7)=false:=by rw[h4];rfl
       have hel:=hflen.2.2.1 (.inl h4)
       have hbi:l[i].elem.toNat<bel.length:=by omega
       have e4:nth B l[i].elem.toNat= .int .i64 (bel[l[i].elem.toNat]:Nat):=hbs.nth hbi
       have hat4:=hbs.at .i64 hbi
       rw[w45 hel.1] at hat4
       rw[tZ hbi] at hcb
       have ew:IntKind.i64.wrap ((min 5001 (1+ps):Nat)+(bel[l[i].elem.toNat]:Nat))=((min 5001 (1+ps)+bel[l[i].elem.toNat]:Nat):Int):=by
        rw[zd (by omega) (by omega)];omega
       have hw:min 5001 (min 5001 (1+ps)+bel[l[i].elem.toNat])=w1 l[i] bel out:=by
        unfold w1 contrib
        rw[if_pos h4,tZ hbi,hps,if_neg (by omega)];omega
       simp only[go_sem,reduceCtorEq,G0,G2,hd0,hat,e1,h4',h7',hat4,e4,ew,min5001]
       refine(ho.push ts).xv (zi · _ _ _) (zE (R:=IsN) (x:=min 5001 (min 5001 (1+ps)+bel[l[i].elem.toNat])) rfl) (by simp;omega) fun y' n' e' ho'=> ?_
       simp only[go_sem,reduceCtorEq,G0,G2,hsuc]
       rw[hw,←hsucc] at ho'
       exact⟨i+1,by omega,h,_,_,_,ho',rfl⟩
      ·have h4':(l[i].kind==4)=false:=by simpa using h4
       by_cases h7:l[i].kind=7
       ·have h7':(l[i].kind==7)=true:=by simpa using h7
        have hel:=hflen.2.2.1 (.inr h7)
        have hbi:l[i].elem.toNat<bel.length:=by omega
        have e4:nth B l[i].elem.toNat= .int .i64 (bel[l[i].elem.toNat]:Nat):=hbs.nth hbi
        have hat4:=hbs.at .i64 hbi
        rw[w45 hel.1] at hat4
        rw[tZ hbi] at hcb
        have ew:IntKind.i64.wrap ((min 5001 (1+ps):Nat)+IntKind.i64.wrap (16*(bel[l[i].elem.toNat]:Nat)))=((min 5001 (1+ps)+16*bel[l[i].elem.toNat]:Nat):Int):=by
         rw[zd (n:=16*(bel[l[i].elem.toNat]:Nat)) (by omega) (by omega),zd (by omega) (by omega)];omega
        have hw:min 5001 (min 5001 (1+ps)+16*bel[l[i].elem.toNat])=w1 l[i] bel out:=by
         unfold w1 contrib
         rw[if_neg h4,if_pos h7,tZ hbi,hps,if_neg (by omega)];omega
        simp only[go_sem,reduceCtorEq,G0,G2,hd0,hat,e1,h4',h7',hat4,e4,ew,min5001]
        refine(ho.push ts).xv (zi · _ _ _) (zE (R:=IsN) (x:=min 5001 (min 5001 (1+ps)+16*bel[l[i].elem.toNat])) rfl) (by simp;omega) fun y' n' e' ho'=> ?_
        simp only[go_sem,reduceCtorEq,G0,G2,hsuc]
        rw[hw,←hsucc] at ho'
        exact⟨i+1,by omega,h,_,_,_,ho',rfl⟩
       ·have h7':(l[i].kind==7)=false:=by simpa using h7
        have hw:min 5001 (1+ps)=w1 l[i] bel out:=by
         unfold w1 contrib
         rw[if_neg h4,if_neg h7,hps];omega
        simp only[go_sem,reduceCtorEq,G0,G2,hd0,hat,e1,h4',h7']
        refine(ho.push ts).xv (zi · _ _ _) (zE (R:=IsN) (x:=min 5001 (1+ps)) rfl) (by simp;omega) fun y' n' e' ho'=> ?_
        simp only[go_sem,reduceCtorEq,G0,G2,hsuc]
        rw[hw,←hsucc] at ho'
        exact⟨i+1,by omega,h,_,_,_,ho',rfl⟩
   ·have:i=l.length:=by omega
    subst this
    rw[w0a] at ho
    simp only[go_sem,reduceCtorEq,G0,G1,G2,w03,h,hx.len]
    exact ue ho
theorem VU {A:List Nat} {n i v:Nat} (h:A.length=i) (hi:i<n):(A++List.replicate (n-i) 0).set i v=A++[v]++List.replicate (n-(i+1)) 0:=by
 rw[List.set_append,if_neg (by omega)]
 rw[show n-i=(n-(i+1))+1 by omega,w52,show i-A.length=0 by omega]
 simp
theorem z4J {A B:List Nat} {j:Nat} (h:j<A.length):(A++B).getD j 0=A.getD j 0:=by
 simp[w02,w09 h]
theorem Q3 (l:List DTyp) (x:AV) (hx:IsSl IsTyp 4 l x) (hv:ValidT l) (hl:l.length≤100) (stk:List (List Blk)) (cur:List Blk) (nx fl:Nat) (live:List (List Nat)):
  ∃bs j st k,CALL tab qh [x] ⟨stk,cur,nx,live,fl⟩=some (.arr stk.length (cur.length+j) st 0 l.length,⟨stk,cur++bs,k,live,fl⟩)∧bs[j]? =some ⟨st,ints (rounds l 4)⟩:=by
 suffices h:Does tab qh [x] ⟨stk,cur,nx,live,fl⟩ fun v m'=> ∃bs j st k,v= .arr stk.length (cur.length+j) st 0 l.length∧m'=⟨stk,cur++bs,k,live,fl⟩∧bs[j]? =some ⟨st,ints (rounds l 4)⟩ by
  obtain⟨z,h1,bs,j,st,k,h2,h3,h4⟩:=h
  exact⟨bs,j,st,k,by rw[h1,←h2,←h3],h4⟩
 refine zV Qf ?_ (Nat.le_of_ble_eq_true rfl)
 have hmk: ∀m:Mem,evMake m 1 8 [.int .i64 0] (.int .i64 l.length) (.int .i64 l.length)=some (.arr m.stk.length m.cur.length m.nx 0 l.length,{m with cur:=m.cur++[⟨m.nx,ints (List.replicate l.length 0)⟩],nx:=m.nx+1}):=fun m=>by
  unfold evMake
  simp only
  rw[if_pos ⟨trivial,by omega,by omega,by omega,rfl⟩,w30,z4H]
 simp only[jS,List.map,go_sem,reduceCtorEq,G0,G2,hx.len,hmk]
 refine zc (α:=Nat) (fun r σ=>r≤4∧ ∃L k st nz,k<L.length∧L[k]? =some ⟨st,ints (rounds l r)⟩∧heads [0,3,13,999999] 1 σ=⟨tmps 82 [(0,x),(3,.arr (stk++[cur]).length k st 0 l.length),(13,.int .i64 r),(999999,.undef)],⟨stk++[cur],L,nz,[]::live,fl⟩⟩) (fun r=>4-r) 0 ?_ ?_
 ·refine⟨by omega,[⟨nx,ints (List.replicate l.length 0)⟩],0,nx,nx+1,by simp,rfl,?_⟩
  simp only[go_sem,reduceCtorEq,G0,G1]
  rfl
 ·rintro r σ ⟨hr,L,kb,st,nz,hkb,hLk,hσ⟩
  rw[hσ]
  clear hσ σ
  dsimp only at hr⊢
  by_cases h4:r<4
  ·have h4':(r:Int)<4:=by omega
   have hr1:IntKind.i64.wrap ((r:Int)+1)=((r+1:Nat):Int):=by rw[zd (by omega) (by omega)];omega
   simp only[go_sem,reduceCtorEq,G0,G1,G2,qX,h4',hx.len,hmk]
   have hbel:=z1C l r
   have hblen:=jB l r
   have hrr:rounds l (r+1)=rnd (rounds l r) l:=rfl
   generalize rounds l r=bel at*
   refine zc (α:=Nat) (fun i σ=>i≤l.length∧ ∃nz',heads [0,3,4,13,18,19,20] (L.length+1) σ=⟨tmps 82 [(0,x),(3,.arr (stk++[cur]).length kb st 0 l.length),(4,.arr (stk++[cur]).length L.length nz 0 l.length),(13,.int .i64 r),(18,x),(19,.int .i64 l.length),(20,.int .i64 i)],⟨stk++[cur],L++[⟨nz,ints (rnd bel (l.take i)++List.replicate (l.length-i) 0)⟩],nz',[]::live,fl⟩⟩) (fun i=>l.length-i) 0 ?_ ?_
   ·refine⟨w0c _,?_⟩
    simp only[go_sem,reduceCtorEq,G0,G1,z77,rnd,Nat.sub_zero]
    exact⟨_,rfl⟩
   ·rintro i σ ⟨hi,nz',hσ⟩
    rw[hσ]
    clear hσ σ
    dsimp only at hi⊢
    by_cases h:i<l.length
    ·have hfine:=hv i h
     obtain⟨v,e1,q1⟩:=hx.nth h
     have hat:=hx.at .i64 h
     have hAl:=VY bel l i hi
     have hrs:=W8 bel l h
     have hle:=Qq bel l i hi
     have hflen:=um hfine
     generalize hout:rnd bel (l.take i)=A at*
     have hmax:=hx.max
     generalize ht:l[i]=t at*
     clear ht
     generalize hn:l.length=n at*
     obtain⟨kind,elem,len,fields⟩:=t
     dsimp only at e1 q1 hflen
     have hgA: ∀j,j<i→takeV false 1 ((ints (A++List.replicate (n-i) 0)).drop j)=some (.int .i64 ((A.getD j 0:Nat):Int)):=fun j hj=>by
      rw[Uc (by simp;omega),z4J (by omega)]
     have hgB: ∀j,j<n→takeV false 1 ((ints bel).drop j)=some (.int .i64 ((bel.getD j 0:Nat):Int)):=fun j hj=>Uc (by omega)
     have hcB:=jf hbel elem.toNat
     have hcA:=jf hle elem.toNat
     simp only[go_sem,reduceCtorEq,G3,G0,G1,G2,qX,V1,z78,w03,h,hat,e1,q1.one]
     by_cases k4:kind=4
     ·subst k4
      have hel:=hflen.2.2.1 (.inl rfl)
      have hf:=hel.2.2
      have hix:=uY .i64 (p:=elem) (n:=n) ⟨hel.1,hel.2.1⟩
      have ew:IntKind.i64.wrap (1+((bel.getD elem.toNat 0:Nat):Int))=((1+bel.getD elem.toNat 0:Nat):Int):=by rw[zd (by omega) (by omega)];omega
      have hV:min 5001 (1+bel.getD elem.toNat 0)=w1 ⟨4,elem,len,fields⟩ bel A:=by unfold w1 contrib fsum;simp[hf]
      simp only[go_sem,reduceCtorEq,G0,G2,qX,V1,w19,zf,hix,Uk _ _ _ hkb,hLk,hgB _ (show elem.toNat<n by omega),ew,q1.len]
      have hf0:((fields.length:Nat):Int)=0:=by rw[hf];rfl
      rw[yr]
      simp only[go_sem,reduceCtorEq,G0,G1,G2,kD,Uj,hf0,(by decide: ¬(0:Int)<0)]
      have hsucc:=zb h hmax
      have hix:=uY .i64 (p:=(i:Int)) (n:=n) (by omega)
      rw[w30] at hix
      have hset:=Wq (ws:=A++List.replicate (n-i) 0) (j:=i) (min 5001 (1+bel.getD elem.toNat 0)) (by simp;omega)
      rw[VU hAl h,hV,←hrs] at hset
      have hcl:decide (i+1≤(A++List.replicate (n-i) 0).length)=true:=by simp;omega
      simp only[go_sem,reduceCtorEq,G0,G2,Yn,TV,kD,ZE,w19,zf,hix,min5001,hcl,hset,hV,hsucc]
      exact⟨i+1,by omega,h,_,rfl⟩
     have k4':(kind==4)=false:=by simpa using k4
     by_cases k7:kind=7
     ·subst k7
      have hel:=hflen.2.2.1 (.inr rfl)
      have hf:=hel.2.2
      have hix:=uY .i64 (p:=elem) (n:=n) ⟨hel.1,hel.2.1⟩
      have ew:IntKind.i64.wrap (1+IntKind.i64.wrap (16*((bel.getD elem.toNat 0:Nat):Int)))=((1+16*bel.getD elem.toNat 0:Nat):Int):=by
       rw[zd (n:=16*_) (by omega) (by omega),zd (by omega) (by omega)];omega
      have hV:min 5001 (1+16*bel.getD elem.toNat 0)=w1 ⟨7,elem,len,fields⟩ bel A:=by unfold w1 contrib fsum;simp[hf]
      simp only[go_sem,reduceCtorEq,G0,G2,qX,V1,w19,k4',zf,hix,Uk _ _ _ hkb,hLk,hgB _ (show elem.toNat<n by omega),ew,q1.len]
      have hf0:((fields.length:Nat):Int)=0:=by rw[hf];rfl
      rw[yr]
      simp only[go_sem,reduceCtorEq,G0,G1,G2,kD,Uj,hf0,(by decide: ¬(0:Int)<0)]
      have hsucc:=zb h hmax
      have hix:=uY .i64 (p:=(i:Int)) (n:=n) (by omega)
      rw[w30] at hix
      have hset:=Wq (ws:=A++List.replicate (n-i) 0) (j:=i) (min 5001 (1+16*bel.getD elem.toNat 0)) (by simp;omega)
      rw[VU hAl h,hV,←hrs] at hset
      have hcl:decide (i+1≤(A++List.replicate (n-i) 0).length)=true:=by simp;omega
      simp only[go_sem,reduceCtorEq,G0,G2,Yn,TV,kD,ZE,w19,zf,hix,min5001,hcl,hset,hV,hsucc]
      exact⟨i+1,by omega,h,_,rfl⟩
     have k7':(kind==7)=false:=by simpa using k7
     by_cases k6:kind=6
     ·subst k6
      have hel:=hflen.2.2.2.1 rfl
      have hf:=hel.2.2
      have hlen:=hflen.2.1 rfl
      have hmul:=tY (a:=len.toNat) (by omega) hcA
      have hix:=uY .i64 (p:=elem) (n:=n) ⟨hel.1,by omega⟩
      have ew:IntKind.i64.wrap (1+IntKind.i64.wrap (len*((A.getD elem.toNat 0:Nat):Int)))=((1+len.toNat*A.getD elem.toNat 0:Nat):Int):=by
       have:len*((A.getD elem.toNat 0:Nat):Int)=((len.toNat*A.getD elem.toNat 0:Nat):Int):=by
        rw[Int.natCast_mul,w45 (by omega)]
       rw[this,zd (n:=((len.toNat*A.getD elem.toNat 0:Nat):Int)) (by omega) (by omega),zd (by omega) (by omega)];omega
      have hV:min 5001 (1+len.toNat*A.getD elem.toNat 0)=w1 ⟨6,elem,len,fields⟩ bel A:=by unfold w1 contrib fsum;simp[hf]
      simp only[go_sem,reduceCtorEq,G0,G2,qX,Yn,V1,w19,k4',k7',zf,hix,hgA _ (show elem.toNat<i by omega),ew,q1.len]
      have hf0:((fields.length:Nat):Int)=0:=by rw[hf];rfl
      rw[yr]
      simp only[go_sem,reduceCtorEq,G0,G1,G2,kD,Uj,hf0,(by decide: ¬(0:Int)<0)]
      have hsucc:=zb h hmax
      have hix:=uY .i64 (p:=(i:Int)) (n:=n) (by omega)
      rw[w30] at hix
      have hset:=Wq (ws:=A++List.replicate (n-i) 0) (j:=i) (min 5001 (1+len.toNat*A.getD elem.toNat 0)) (by simp;omega)
      rw[VU hAl h,hV,←hrs] at hset
      have hcl:decide (i+1≤(A++List.replicate (n-i) 0).length)=true:=by simp;omega
      simp only[go_sem,reduceCtorEq,G0,G2,Yn,TV,kD,ZE,w19,zf,hix,min5001,hcl,hset,hV,hsucc]
      exact⟨i+1,by omega,h,_,rfl⟩
     have k6':(kind==6)=false:=by simpa using k6
     simp only[go_sem,reduceCtorEq,G0,G2,qX,V1,k4',k7',k6',q1.len]
     refine zc (α:=Nat) (fun k σ=>k≤fields.length∧ ∃nz'',heads [0,3,4,5,7,13,18,19,20,59,60,61] (L.length+2) σ=⟨tmps 82 [(0,x),(3,.arr (stk++[cur]).length kb st 0 n),(4,.arr (stk++[cur]).length L.length nz 0 n),(5,.int .i64 i),(7,.int .i64 ((1+fsum (fields.take k) A:Nat):Int)),(13,.int .i64 r),(18,x),(19,.int .i64 n),(20,.int .i64 i),(59,v),(60,.int .i64 fields.length),(61,.int .i64 k)],
      ⟨stk++[cur],L++[⟨nz,ints (A++List.replicate (n-i) 0)⟩]++[⟨nz',[.int .u8 kind,.int .i64 elem,.int .i64 len,v]⟩],nz'',[]::live,fl⟩⟩) (fun k=>fields.length-k) 0 ?_ ?_
     ·refine⟨w0c _,?_⟩
      simp only[go_sem,reduceCtorEq,G0,G1,Uj,fsum]
      exact⟨_,rfl⟩
     ·rintro k σ ⟨hk,nz'',hσ⟩
      rw[hσ]
      clear hσ σ
      dsimp only at hk⊢
      have hfs:=z3f (fs:=fields.take k) hle
      have hfl:(fields.take k).length≤8:=by rw[w21];omega
      have hfs8:fsum (fields.take k) A≤40008:=Nat.le_trans hfs (by omega)
      by_cases hkl:k<fields.length
      ·have e2:nth v k= .agg [.str fields[k].name,.int .i64 fields[k].typ]:=q1.nth hkl
       have hat2:=q1.at .i64 hkl
       have htk:=hflen.2.2.2.2.2 _ (w07 hkl)
       have hix:=uY .i64 (p:=fields[k].typ) (n:=n) ⟨htk.1,by omega⟩
       have hcA:=jf hle fields[k].typ.toNat
       have hsu:=z87 hkl A
       have ew:IntKind.i64.wrap (((1+fsum (fields.take k) A:Nat):Int)+((A.getD fields[k].typ.toNat 0:Nat):Int))=((1+fsum (fields.take (k+1)) A:Nat):Int):=by rw[zd (by omega) (by omega)];omega
       simp only[go_sem,reduceCtorEq,G3,G0,G1,G2,qX,zbP,zbO,zbN,zbM,w19,w03,hkl,hat2,e2,zf,hix,hgA _ (show fields[k].typ.toNat<i by omega),ew,zb hkl q1.max]
       exact⟨k+1,by omega,hkl,_,rfl⟩
      ·have:k=fields.length:=by omega
       subst this
       rw[w0a] at hfs8⊢
       have hV:min 5001 (1+fsum fields A)=w1 ⟨kind,elem,len,fields⟩ bel A:=by unfold w1 contrib;rw[if_neg k4,if_neg k7,if_neg k6]
       simp only[go_sem,reduceCtorEq,G0,G1,G2,kD,w03,hkl]
       have hsucc:=zb h hmax
       have hix:=uY .i64 (p:=(i:Int)) (n:=n) (by omega)
       rw[w30] at hix
       have hset:=Wq (ws:=A++List.replicate (n-i) 0) (j:=i) (min 5001 (1+fsum fields A)) (by simp;omega)
       rw[VU hAl h,hV,←hrs] at hset
       have hcl:decide (i+1≤(A++List.replicate (n-i) 0).length)=true:=by simp;omega
       simp only[go_sem,reduceCtorEq,G0,G2,Yn,TV,kD,ZE,w19,zf,hix,min5001,hcl,hset,hV,hsucc]
       exact⟨i+1,by omega,h,_,rfl⟩
    ·have:i=l.length:=by omega
     subst this
     rw[w0a,Nat.sub_self,List.replicate_zero,w20]
     simp only[go_sem,reduceCtorEq,G0,G1,G2,w03,h,hr1]
     exact⟨r+1,by omega,h4,_,L.length,nz,_,by simp,by rw[hrr];simp,rfl⟩
  ·have:r=4:=by omega
   subst this
   simp only[go_sem,reduceCtorEq,G5,G0,G1,G2,(by decide: ¬(((4:Nat):Int)<4))]
   obtain⟨bs,hbs,hg⟩:=z7N (m0:=⟨stk,cur,nx,live,fl⟩) (stk:=stk) (cur:=cur) (c':=L) (nx':=nz) (own:=[]) (live':=live) (fl':=fl) (k:=kb) (st:=st) (off:=0) (len:=l.length)
   rw[hbs,z8]
   exact⟨bs,kb,st,nz,by rw[Nat.add_comm],rfl,hg _ hLk⟩
def CheckP (l:List DTyp):Prop:=l.length≤32∧ValidT l∧ ∀w∈rounds l 4,w≤5000
noncomputable def err04 (l:List DTyp):Int:=if pb (CheckP l) then 0 else 8
theorem kr {l:List DTyp} (h: ¬CheckP l):err04 l=8:=by unfold err04;rw[ze h];rfl
theorem UR {l:List DTyp} (h:CheckP l):err04 l=0:=by unfold err04;rw[zB h];rfl
def WfTypes (l:List DTyp):Prop:= ∀t∈l,WfTyp t
theorem WfTypes.names {l:List DTyp} (h:WfTypes l) {i:Nat} (hi:i<l.length):NamesOk l[i].fields:=fun f hf=>((h _ (w07 hi)).fields f hf).name
theorem kH (l:List DTyp) (x:AV) (hx:IsSl IsTyp 4 l x) (hw:WfTypes l) (m:Mem):Okv tab vF [x] m (.int .i64 (err04 l)):=by
 refine zh z0R ?_
 obtain⟨stk,cur,nx,live,fl⟩:=m
 simp only[Zb,List.map,go_sem,reduceCtorEq,G0,G2,hx.len]
 by_cases hl:(l.length:Int)>32
 ·simp only[go_sem,reduceCtorEq,G0,G2,hl]
  rw[z6 rfl rfl,z8]
  exact⟨⟨_,rfl⟩,by rw[kr fun h'=>by have:=h'.1;omega]⟩
 simp only[go_sem,reduceCtorEq,G0,G2,hl,hx.len]
 refine zc (α:=Nat) (fun i σ=>(i≤l.length∧ ∀j (h:j<l.length),j<i→FineT l.length j l[j])∧ ∃nz,heads [0,10,11] 0 σ=⟨tmps 29 [(0,x),(10,.int .i64 l.length),(11,.int .i64 i)],⟨stk++[cur],[],nz,[]::live,fl⟩⟩) (fun i=>l.length-i) 0 ?_ ?_
 ·refine⟨⟨w0c _,fun j _ h=>absurd h (w4f _)⟩,?_⟩
  simp only[go_sem,reduceCtorEq,G0,G1]
  exact⟨_,rfl⟩
 ·rintro i σ ⟨⟨hi,hv⟩,nz,hσ⟩
  rw[hσ]
  clear hσ σ
  dsimp only at hi hv⊢
  by_cases h:i<l.length
  ·have hF:=fun m=>z2l l x hx i h (hw _ (w07 h)) m
   by_cases hf:FineT l.length i l[i]
   ·rw[zB hf] at hF
    have hFe:=fun m=>(hF m).eq
    simp only[go_sem,reduceCtorEq,G0,G1,G2,w03,h,hFe,zb h hx.max]
    refine⟨i+1,by omega,⟨h,fun j hj hji=> ?_⟩,_,rfl⟩
    rcases Nat.lt_succ_iff_lt_or_eq.1 hji with q|q
    ·exact hv j hj q
    ·subst q;exact hf
   ·rw[ze hf] at hF
    have hFe:=fun m=>(hF m).eq
    simp only[go_sem,reduceCtorEq,G0,G1,G2,w03,h,hFe]
    rw[z6 rfl rfl,z8]
    exact⟨⟨_,rfl⟩,by rw[kr fun h'=>hf (h'.2.1 i h)]⟩
  ·have:i=l.length:=by omega
   subst this
   have hval:ValidT l:=fun j hj=>hv j hj hj
   simp only[go_sem,reduceCtorEq,G0,G1,G2,w03,h]
   obtain⟨bs,j,st,k,hcall,hbs⟩:=Q3 l x hx hval (by omega) (stk++[cur]) [] nz fl ([]::live)
   simp only[go_sem,reduceCtorEq,G0,G2,hcall,evLen]
   have hwl:=jB l 4
   refine zc (α:=Nat) (fun i σ=>(i≤l.length∧ ∀w∈(rounds l 4).take i,w≤5000)∧ ∃nz,heads [20,21,22] bs.length σ=⟨tmps 29 [(20,.arr (stk++[cur]).length j st 0 l.length),(21,.int .i64 l.length),(22,.int .i64 i)],⟨stk++[cur],bs,nz,[]::live,fl⟩⟩) (fun i=>l.length-i) 0 ?_ ?_
   ·refine⟨⟨w0c _,by simp⟩,?_⟩
    simp only[go_sem,reduceCtorEq,G0,G1,w0a]
    exact⟨_,rfl⟩
   ·rintro i σ ⟨⟨hi,hws⟩,nz,hσ⟩
    rw[hσ]
    clear hσ σ
    dsimp only at hi hws⊢
    by_cases h:i<l.length
    ·have hix:=uY .i64 (p:=(i:Int)) (n:=l.length) (by omega)
     rw[w30] at hix
     have hg:=Uc (ws:=rounds l 4) (j:=i) (by omega)
     rw[tZ (by omega)] at hg
     by_cases hw:(rounds l 4)[i]≤5000
     ·simp only[go_sem,G0,G1,G2,w03,h,zf,hix,w19,hbs,hg,show¬(((rounds l 4)[i]:Nat):Int)>5000 by omega,zb h hx.max,w0a]
      exact⟨i+1,by omega,⟨h,zj (P:=fun w=>w≤5000) (by omega) hws hw⟩,_,rfl⟩
     ·simp only[go_sem,G0,G1,G2,w03,h,zf,hix,w19,hbs,hg,show(((rounds l 4)[i]:Nat):Int)>5000 by omega]
      rw[z6 rfl rfl,z8]
      exact⟨⟨_,rfl⟩,by rw[kr fun h'=>hw (h'.2.2 _ (w07 (by omega)))]⟩
    ·have:i=l.length:=by omega
     subst this
     rw[←hwl,w0a] at hws
     simp only[go_sem,G0,G1,G2,w03,h]
     rw[z6 rfl rfl,z8]
     exact⟨⟨_,rfl⟩,by rw[UR ⟨by omega,hval,hws⟩]⟩
theorem YD (l:List DTyp) (x:AV) (hx:IsSl IsTyp 4 l x) (hw:WfTypes l) (m:Mem):Okv tab xr [x] m (.int .i64 (err04 l)):=by
 refine zh YQ ?_
 obtain⟨stk,cur,nx,live,fl⟩:=m
 simp only[vR,List.map,go_sem,reduceCtorEq,G0,G2,hx.len]
 by_cases hl:(l.length:Int)>32
 ·simp only[go_sem,reduceCtorEq,G0,G2,hl]
  rw[z6 rfl rfl,z8]
  exact⟨⟨_,rfl⟩,by rw[kr fun h'=>by have:=h'.1;omega]⟩
 simp only[go_sem,hl]
 refine zc (α:=Nat) (fun i σ=>(i≤l.length∧ ∀j (h:j<l.length),j<i→FineT l.length j l[j])∧ ∃nz,heads [0,3] 0 σ=⟨tmps 32 [(0,x),(3,.int .i64 i)],⟨stk++[cur],[],nz,[]::live,fl⟩⟩) (fun i=>l.length-i) 0 ?_ ?_
 ·refine⟨⟨w0c _,fun j _ h=>absurd h (w4f _)⟩,?_⟩
  simp only[go_sem,reduceCtorEq,G0,G1]
  exact⟨_,rfl⟩
 ·rintro i σ ⟨⟨hi,hv⟩,nz,hσ⟩
  rw[hσ]
  clear hσ σ
  dsimp only at hi hv⊢
  by_cases h:i<l.length
  ·have hF:=fun m=>XG l x hx i h (hw.names h) m
   by_cases hf:FineT l.length i l[i]
   ·rw[zB hf] at hF
    have hFe:=fun m=>(hF m).eq
    simp only[go_sem,reduceCtorEq,G0,G1,G2,w03,h,hx.len,hFe,zb h hx.max]
    refine⟨i+1,by omega,⟨h,fun j hj hji=> ?_⟩,_,rfl⟩
    rcases Nat.lt_succ_iff_lt_or_eq.1 hji with q|q
    ·exact hv j hj q
    ·subst q;exact hf
   ·rw[ze hf] at hF
    have hFe:=fun m=>(hF m).eq
    simp only[go_sem,reduceCtorEq,G0,G1,G2,w03,h,hx.len,hFe]
    rw[z6 rfl rfl,z8]
    exact⟨⟨_,rfl⟩,by rw[kr fun h'=>hf (h'.2.1 i h)]⟩
  ·have:i=l.length:=by omega
   subst this
   have hval:ValidT l:=fun j hj=>hv j hj hj
   simp only[go_sem,reduceCtorEq,G0,G1,G2,w03,h,hx.len]
   refine(tR l x hx hval (by omega) 3 (by omega) _).xv fun y ts n ho=> ?_
   simp only[go_sem,reduceCtorEq,G0,G2]
   have hwl:=jB l 4
   refine zc (α:=Nat) (fun i σ=>(i≤l.length∧ ∀w∈(rounds l 4).take i,w≤5000)∧ ∃nz,heads [0,4,5] 0 σ=⟨tmps 32 [(0,x),(4,y),(5,.int .i64 i)],⟨stk++[cur],[],nz,ts::live,fl⟩⟩) (fun i=>l.length-i) 0 ?_ ?_
   ·refine⟨⟨w0c _,by simp⟩,?_⟩
    simp only[go_sem,reduceCtorEq,G0,G1]
    exact⟨_,rfl⟩
   ·rintro i σ ⟨⟨hi,hws⟩,nz,hσ⟩
    rw[hσ]
    clear hσ σ
    dsimp only at hi hws⊢
    by_cases h:i<l.length
    ·have hiw:i<(rounds l (3+1)).length:=by rw[jB];exact h
     have e1:nth y i= .int .i64 ((rounds l (3+1))[i]:Nat):=ho.nth hiw
     by_cases hw:(rounds l (3+1))[i]≤5000
     ·simp only[go_sem,reduceCtorEq,G3,G0,G1,G2,w03,h,hx.len,ho.at _ hiw,e1,show¬(((rounds l (3+1))[i]:Nat):Int)>5000 by omega,zb h hx.max]
      exact⟨i+1,by omega,⟨h,zj (P:=fun w=>w≤5000) (by omega) hws hw⟩,_,rfl⟩
     ·simp only[go_sem,reduceCtorEq,G3,G0,G1,G2,w03,h,hx.len,ho.at _ hiw,e1,show(((rounds l (3+1))[i]:Nat):Int)>5000 by omega]
      rw[z6 rfl rfl,z8]
      exact⟨⟨_,rfl⟩,by rw[kr fun h'=>hw (h'.2.2 _ (w07 hiw))]⟩
    ·have:i=l.length:=by omega
     subst this
     rw[←hwl,w0a] at hws
     simp only[go_sem,reduceCtorEq,G0,G1,G2,w03,h,hx.len]
     rw[z6 rfl rfl,z8]
     exact⟨⟨_,rfl⟩,by rw[UR ⟨by omega,hval,hws⟩]⟩
def up (n a:Nat):Nat:=(n+a-1)/a*a
theorem z5p (n:Nat):up n 1=n:=by unfold up;simp
theorem Q8 (n:Nat):up n 8=(n+7)/8*8:=rfl
def is18 (a:Nat):Prop:=a=1∨a=8
theorem Q7 {n a:Nat} (h:is18 a):n≤up n a∧up n a≤n+7:=by
 rcases h with rfl|rfl
 ·rw[z5p];omega
 ·rw[Q8];omega
theorem z9M {a b:Nat} (ha:is18 a) (hb:is18 b):is18 (max a b):=by unfold is18 at*;omega
theorem zae (x:BitVec 64):(x&&& ~~~(7#64)).toNat=x.toNat/8*8:=by
 apply Nat.eq_of_testBit_eq
 intro i
 rw[BitVec.testBit_toNat,BitVec.getLsbD_and,BitVec.getLsbD_not,show(8:Nat)=2^3 from rfl,Nat.testBit_mul_two_pow,Nat.testBit_div_two_pow,BitVec.testBit_toNat]
 by_cases h3:3≤i
 ·have:(7#64).getLsbD i=false:=by
   rw[←BitVec.testBit_toNat]
   exact Nat.testBit_lt_two_pow (Nat.lt_of_lt_of_le (by decide:(7#64).toNat<2^3) (Nat.pow_le_pow_right (by omega) h3))
  by_cases h64:i<64
  ·rw[this,Nat.sub_add_cancel h3];simp[h3,h64]
  ·have:x.getLsbD i=false:=BitVec.getLsbD_of_ge x i (by omega)
   rw[Nat.sub_add_cancel h3,this];simp
 ·have:i=0∨i=1∨i=2:=by omega
  rcases this with rfl|rfl|rfl<;>simp<;>decide
theorem z2c {n a:Nat} (h:is18 a) (hn:n≤4194304):evBits .andNot .i64 (IntKind.i64.wrap (IntKind.i64.wrap ((n:Int)+(a:Int))-1)) (IntKind.i64.wrap ((a:Int)-1))=some (.int .i64 ((up n a:Nat):Int)):=by
 have e0:(a:Int)=1∨(a:Int)=8:=by unfold is18 at h;omega
 have e1:IntKind.i64.wrap ((n:Int)+(a:Int))=n+a:=zd (by omega) (by omega)
 have e2:IntKind.i64.wrap ((n:Int)+a-1)=n+a-1:=zd (by omega) (by omega)
 have e3:IntKind.i64.wrap ((a:Int)-1)=a-1:=zd (by omega) (by omega)
 rw[e1,e2,e3]
 have hx: ∀y:Nat,y≤5000000→(BitVec.ofInt 64 (y:Int)).toNat=y:=fun y hy=>by
  rw[BitVec.toNat_ofInt];omega
 refine congrArg (fun z=>some (AV.int .i64 z)) (?_:IntKind.i64.wrap ((BitVec.ofInt 64 ((n:Int)+a-1)&&& ~~~BitVec.ofInt 64 ((a:Int)-1)).toNat:Int)=((up n a:Nat):Int))
 rcases h with rfl|rfl
 ·have:BitVec.ofInt 64 (((1:Nat):Int)-1)=0#64:=rfl
  rw[this]
  have h2:(BitVec.ofInt 64 ((n:Int)+((1:Nat):Int)-1)&&& ~~~(0#64))=BitVec.ofInt 64 (n:Int):=by
   rw[show(n:Int)+((1:Nat):Int)-1=n by omega,show~~~(0#64)=BitVec.allOnes 64 from by decide,BitVec.and_allOnes]
  rw[h2,hx n (by omega),z5p,zd (by omega) (by omega)]
 ·have:BitVec.ofInt 64 (((8:Nat):Int)-1)=7#64:=rfl
  rw[this,zae,show(n:Int)+((8:Nat):Int)-1=((n+7:Nat):Int) by omega,hx _ (by omega),Q8,zd (by omega) (by omega)]
def togStep (far:Nat) (out:List (Nat×Nat)) (s:List Nat×Nat×Nat) (f:DField):List Nat×Nat×Nat:=
 (s.1++[up s.2.1 (out.getD f.typ.toNat (0,0)).2],min far (up s.2.1 (out.getD f.typ.toNat (0,0)).2+(out.getD f.typ.toNat (0,0)).1),max s.2.2 (out.getD f.typ.toNat (0,0)).2)
def tog (far:Nat) (out:List (Nat×Nat)) (fs:List DField):List Nat×Nat×Nat:=fs.foldl (togStep far out) ([],0,1)
def togEnd (far:Nat) (out:List (Nat×Nat)) (fs:List DField):Nat×Nat:=(min far (up (tog far out fs).2.1 (tog far out fs).2.2),(tog far out fs).2.2)
def ext1 (far:Nat) (out:List (Nat×Nat)) (t:DTyp):Nat×Nat:=
 if t.kind=1 then(1,1) else if t.kind=3 then(16,8) else if t.kind=7 then(24,8) else if t.kind=6 then(min far (t.len.toNat*(out.getD t.elem.toNat (0,0)).1),(out.getD t.elem.toNat (0,0)).2)
 else if t.kind=5 then togEnd far out t.fields else(8,8)
def exts (far:Nat) (l:List DTyp):List (Nat×Nat):=l.foldl (fun out t=>out++[ext1 far out t]) []
theorem XP (far:Nat) (out:List (Nat×Nat)) {fs:List DField} {k:Nat} (h:k<fs.length):tog far out (fs.take (k+1))=togStep far out (tog far out (fs.take k)) fs[k]:=by
 unfold tog;rw[w15 h,List.foldl_append];rfl
theorem jr (far:Nat) {l:List DTyp} {i:Nat} (h:i<l.length):exts far (l.take (i+1))=exts far (l.take i)++[ext1 far (exts far (l.take i)) l[i]]:=by
 unfold exts;rw[w15 h,List.foldl_append];rfl
theorem te (far:Nat) (l:List DTyp): ∀i,i≤l.length→(exts far (l.take i)).length=i
 |0,_=>by simp[exts]
 |i+1,h=>by rw[jr far h,w05,te far l i (by omega)];rfl
def GoodP (out:List (Nat×Nat)):Prop:= ∀p∈out,p.1≤1048576∧is18 p.2
theorem GoodP.get {out:List (Nat×Nat)} (h:GoodP out) {j:Nat} (hj:j<out.length):(out.getD j (0,0)).1≤1048576∧is18 (out.getD j (0,0)).2:=by
 have:out.getD j (0,0)=out[j]:=by simp[w02,hj]
 rw[this];exact h _ (w07 hj)
theorem Zm {far:Nat} (hfar:far≤1048576) {out:List (Nat×Nat)} (h:GoodP out) {fs:List DField} (hf: ∀f∈fs,0≤f.typ∧f.typ<out.length): ∀k,k≤fs.length→(tog far out (fs.take k)).1.length=k∧(tog far out (fs.take k)).2.1≤1048576∧is18 (tog far out (fs.take k)).2.2
 |0,_=>by simp[tog,is18]
 |k+1,hk=>by
  obtain⟨h1,h2,h3⟩:=Zm hfar h hf k (by omega)
  have hfk:=hf _ (w07 (show k<fs.length by omega))
  have hg:=h.get (j:=fs[k].typ.toNat) (by omega)
  rw[XP far out (show k<fs.length by omega)]
  exact⟨by simp[togStep,h1],by simp only[togStep];omega,z9M h3 hg.2⟩
theorem z88 {far:Nat} (hfar:far≤1048576) {out:List (Nat×Nat)} (h:GoodP out) {n i:Nat} {t:DTyp} (hf:FineT n i t) (hi:out.length=i):(ext1 far out t).1≤1048576∧is18 (ext1 far out t).2:=by
 have hl:=um hf
 unfold ext1
 split
 ·simp[is18]
 ·split
  ·simp[is18]
  ·split
   ·simp[is18]
   ·split
    ·rename_i h6
     have:=hl.2.2.2.1 h6
     exact⟨by simp only;omega,(h.get (by omega)).2⟩
    ·split
     ·have:=Zm hfar h (fs:=t.fields) (by rw[hi];exact hl.2.2.2.2.2) t.fields.length (w0b _)
      rw[w0a] at this
      exact⟨by simp only[togEnd];omega,this.2.2⟩
     ·simp[is18]
theorem WX {far:Nat} (hfar:far≤1048576) {l:List DTyp} (hv:ValidT l): ∀i,i≤l.length→GoodP (exts far (l.take i))
 |0,_=>by simp[exts,GoodP]
 |i+1,h=>by
  have ih:=WX hfar hv i (by omega)
  rw[jr far h]
  intro p hp
  rcases w08.1 hp with hp|hp
  ·exact ih p hp
  ·simp at hp;subst hp;exact z88 hfar ih (hv i (by omega)) (te far l i (by omega))
def prs (ws:List (Nat×Nat)):List AV:=ws.flatMap fun p=>[.int .i64 (p.1:Int),.int .i64 (p.2:Int)]
theorem zaX (ws:List (Nat×Nat)):(prs ws).length=ws.length*2:=by
 induction ws with
 |nil=>rfl
 |cons w r ih=>simp only[prs,w2d,w05,w26,w2f] at ih⊢;omega
theorem U0: ∀(ws:List (Nat×Nat)) (j:Nat),j<ws.length→(prs ws).drop (j*2)= .int .i64 ((ws.getD j (0,0)).1:Int):: .int .i64 ((ws.getD j (0,0)).2:Int)::(prs ws).drop (j*2+2)
 | [],_,h=>by simp at h
 |w::r,0,_=>rfl
 |w::r,j+1,h=>by
  have:=U0 r j (by simpa using h)
  simp only[prs,w2d,show(j+1)*2=j*2+2 by omega,w31,w48,w1e,List.getD_cons_succ] at this⊢
  exact this
theorem zaW (n:Nat):flatRep [.int .i64 0,.int .i64 0] n=prs (List.replicate n (0,0)):=by
 induction n with
 |zero=>rfl
 |succ n ih=>rw[flatRep,ih,w52];rfl
theorem km: ∀(ws:List (Nat×Nat)) (j a b:Nat),j<ws.length→(prs ws).take (j*2)++[.int .i64 (a:Int),.int .i64 (b:Int)]++(prs ws).drop (j*2+2)=prs (ws.set j (a,b))
 | [],_,_,_,h=>by simp at h
 |w::r,0,a,b,_=>rfl
 |w::r,j+1,a,b,h=>by
  have:=km r j a b (by simpa using h)
  simp only[prs,w2d,show(j+1)*2=j*2+2 by omega,w31,w48,w1e,w1d,w4d] at this⊢
  rw[this]
theorem z47 {ws:List (Nat×Nat)} {j:Nat} (h:j<ws.length):takeV true 2 ((prs ws).drop (j*2))=some (.agg [.int .i64 ((ws.getD j (0,0)).1:Int),.int .i64 ((ws.getD j (0,0)).2:Int)]):=by
 rw[U0 ws j h];simp[takeV]
theorem z1z (l l' k:Nat) (ws:List (Nat×Nat)):shiftAll l l' k (prs ws)=prs ws:=by
 induction ws with
 |nil=>rfl
 |cons w r ih=>simp only[prs,w2d,w31,w48,shiftAll,AV.shift] at ih⊢;rw[ih]
theorem z6V (a:Nat):(if(a:Int)<(1048576:Int) then(a:Int) else(1048576:Int))=((min 1048576 a:Nat):Int):=by split<;>omega
theorem z34 (a:Nat):(if(a:Int)<(1000000:Int) then(a:Int) else(1000000:Int))=((min 1000000 a:Nat):Int):=by split<;>omega
theorem zbb (a b:Nat):(if(b:Int)>(a:Int) then(b:Int) else(a:Int))=((max a b:Nat):Int):=by split<;>omega
theorem zcn {n a:Nat} (ha:is18 a) (h:n≤1048576):min 1048576 (up n a)=up n a:=by
 rcases ha with rfl|rfl
 ·rw[z5p];omega
 ·rw[Q8];omega
theorem z9k (a b:Nat):(if a<b then(b:Int) else(a:Int))=((max a b:Nat):Int):=by split<;>omega
theorem z7M {m0:Mem} {stk:List (List Blk)} {cur c':List Blk} {nx' fl':Nat} {own:List Nat} {live':List (List Nat)} {k st off len:Nat} {a b:Int}:
  ∃bs:List Blk,leave m0 ⟨stk++[cur],c',nx',own::live',fl'⟩ (.tup [.arr (stk++[cur]).length k st off len,.agg [.int .i64 a,.int .i64 b]])=some (.tup [.arr stk.length (k+cur.length) st off len,.agg [.int .i64 a,.int .i64 b]],⟨stk,cur++bs,nx',live',m0.floor⟩)∧
   ∀ws,c'[k]? =some ⟨st,ints ws⟩→bs[k]? =some ⟨st,ints ws⟩:=by
 have e:own.filter (fun _=>false)=[]:=by simp
 refine⟨c'.map fun b=>⟨b.st,shiftAll (stk++[cur]).length ((stk++[cur]).length-1) cur.length b.cs⟩,?_,?_⟩
 ·unfold leave
  simp only[w4b,w42,Option.some_or,AV.refs,refsAny,beq_self_eq_true,Bool.true_or,if_true,AV.toks,toksAll,w20,List.contains_nil,e,pushToks,w4c,AV.shift,shiftAll]
  simp
 ·intro ws h
  rw[w17,h,w0d,Vw]
theorem z2k (ws W:List (Nat×Nat)) (hg:GoodP ws) (hle:ws.length≤W.length) (hW: ∀j,j<ws.length→W.getD j (0,0)=ws.getD j (0,0)) (fields:List DField) (v:AV) (q1:IsSl IsField 2 fields v) (hf: ∀f∈fields,0≤f.typ∧f.typ<ws.length) (hlen:fields.length≤100)
  (stk:List (List Blk)) (cur:List Blk) (nx fl:Nat) (live:List (List Nat)) (lv kb st:Nat) (hlv:lv≤stk.length) (hb:((stk++[cur]).getD lv [])[kb]? =some ⟨st,prs W⟩):
  ∃bs j s k,CALL tab jl [.arr lv kb st 0 W.length,v] ⟨stk,cur,nx,live,fl⟩=some (.tup [.arr stk.length (cur.length+j) s 0 fields.length,.agg [.int .i64 ((togEnd 1048576 ws fields).1:Nat),.int .i64 ((togEnd 1048576 ws fields).2:Nat)]],⟨stk,cur++bs,k,live,fl⟩)∧bs[j]? =some ⟨s,ints (tog 1048576 ws fields).1⟩:=by
 suffices h:Does tab jl [.arr lv kb st 0 W.length,v] ⟨stk,cur,nx,live,fl⟩ fun r m'=> ∃bs j s k,r= .tup [.arr stk.length (cur.length+j) s 0 fields.length,.agg [.int .i64 ((togEnd 1048576 ws fields).1:Nat),.int .i64 ((togEnd 1048576 ws fields).2:Nat)]]∧m'=⟨stk,cur++bs,k,live,fl⟩∧bs[j]? =some ⟨s,ints (tog 1048576 ws fields).1⟩ by
  obtain⟨z,h1,bs,j,s,k,h2,h3,h4⟩:=h
  exact⟨bs,j,s,k,by rw[h1,←h2,←h3],h4⟩
 refine zV z2y ?_ (Nat.le_of_ble_eq_true rfl)
 have hmk: ∀m:Mem,evMake m 1 8 [.int .i64 0] (.int .i64 fields.length) (.int .i64 fields.length)=some (.arr m.stk.length m.cur.length m.nx 0 fields.length,{m with cur:=m.cur++[⟨m.nx,ints (List.replicate fields.length 0)⟩],nx:=m.nx+1}):=fun m=>by
  unfold evMake
  simp only
  rw[if_pos ⟨trivial,by omega,by omega,by omega,rfl⟩,w30,z4H]
 have hne:(lv==(stk++[cur]).length)=false:=by simp;omega
 simp only[Yp,List.map,go_sem,reduceCtorEq,G3,G0,G4,G2,q1.len,hmk,evBuild]
 refine zc (α:=Nat) (fun k σ=>k≤fields.length∧ ∃nz,heads [0,5,6,7,15,16,17] 3 σ=⟨tmps 68 [(0,.arr lv kb st 0 W.length),(5,.ptr (stk++[cur]).length 0 nx 0),(6,.arr (stk++[cur]).length 1 (nx+1) 0 fields.length),(7,.ptr (stk++[cur]).length 2 (nx+1+1) 0),(15,v),(16,.int .i64 fields.length),(17,.int .i64 k)],
  ⟨stk++[cur],[⟨nx,[.int .i64 0,.int .i64 0]⟩,⟨nx+1,ints ((tog 1048576 ws (fields.take k)).1++List.replicate (fields.length-k) 0)⟩,⟨nx+1+1,[.int .i64 ((tog 1048576 ws (fields.take k)).2.1:Nat),.int .i64 ((tog 1048576 ws (fields.take k)).2.2:Nat)]⟩],nz,[]::live,fl⟩⟩) (fun k=>fields.length-k) 0 ?_ ?_
 ·refine⟨w0c _,?_⟩
  simp only[go_sem,reduceCtorEq,G0,G1,tog,w22,List.foldl_nil,Nat.sub_zero]
  exact⟨_,rfl⟩
 ·rintro k σ ⟨hk,nz,hσ⟩
  rw[hσ]
  clear hσ σ
  dsimp only at hk⊢
  obtain⟨g1,g2,g3⟩:=Zm (far:=1048576) (w0b _) hg hf k hk
  by_cases h:k<fields.length
  ·have e2:nth v k= .agg [.str fields[k].name,.int .i64 fields[k].typ]:=q1.nth h
   have hat2:=q1.at .i64 h
   have hfk:=hf _ (w07 h)
   have hgk:=hg.get (j:=fields[k].typ.toNat) (by omega)
   have hix:=uY .i64 (p:=fields[k].typ) (n:=W.length) ⟨hfk.1,by omega⟩
   have hld:=z47 (ws:=W) (j:=fields[k].typ.toNat) (by omega)
   rw[hW _ (by omega)] at hld
   have hts:=XP 1048576 ws h
   unfold togStep at hts
   generalize tog 1048576 ws (fields.take k)=s at*
   obtain⟨offs,en,mo⟩:=s
   dsimp only at g1 g2 g3
   generalize ws.getD fields[k].typ.toNat (0,0)=pr at*
   have hix2:=uY .i64 (p:=(k:Int)) (n:=fields.length) (by omega)
   rw[w30] at hix2
   have hsz:offs.length=k:=g1
   have hcl:decide (k+1≤(ints (offs++List.replicate (fields.length-k) 0)).length)=true:=by rw[ZE];simp;omega
   have hset:=Wq (ws:=offs++List.replicate (fields.length-k) 0) (j:=k) (up en pr.2) (by simp;omega)
   rw[VU hsz h] at hset
   have hg2:=Uc (ws:=offs++[up en pr.2]++List.replicate (fields.length-(k+1)) 0) (j:=k) (by simp;omega)
   have hv2:(offs++[up en pr.2]++List.replicate (fields.length-(k+1)) 0).getD k 0=up en pr.2:=by
    rw[z4J (by simp;omega)];simp[w02,←hsz]
   rw[hv2] at hg2
   have hup:=Q7 (n:=en) hgk.2
   have ew:IntKind.i64.wrap ((up en pr.2:Nat)+(pr.1:Nat))=((up en pr.2+pr.1:Nat):Int):=by rw[zd (by omega) (by omega)];omega
   simp only[go_sem,reduceCtorEq,G3,G0,G4,G1,G2,w03,h,hat2,e2,zf,hix,hne,hb,hld,z2c hgk.2 (show en≤4194304 by omega),hix2,w19,hcl,hset,hg2,ew,z6V,z9k,evBuild,zb h q1.max]
   refine⟨k+1,by omega,h,nz+1+1,?_⟩
   rw[hts]
  ·have:k=fields.length:=by omega
   subst this
   rw[w0a,Nat.sub_self,List.replicate_zero,w20] at*
   have hup:=Q7 (n:=(tog 1048576 ws fields).2.1) g3
   have hfar:=zcn g3 g2
   simp only[go_sem,reduceCtorEq,G3,G0,G4,G1,G2,w03,h,z2c g3 (show(tog 1048576 ws fields).2.1≤4194304 by omega)]
   obtain⟨bs,hbs,hgb⟩:=z7M (m0:=⟨stk,cur,nx,live,fl⟩) (stk:=stk) (cur:=cur) (c':=[⟨nx,[.int .i64 ((up (tog 1048576 ws fields).2.1 (tog 1048576 ws fields).2.2:Nat):Int),.int .i64 ((tog 1048576 ws fields).2.2:Nat)]⟩,⟨nx+1,ints (tog 1048576 ws fields).1⟩,⟨nx+1+1,[.int .i64 ((up (tog 1048576 ws fields).2.1 (tog 1048576 ws fields).2.2:Nat):Int),.int .i64 ((tog 1048576 ws fields).2.2:Nat)]⟩]) (nx':=nz) (own:=[]) (live':=live) (fl':=fl) (k:=1) (st:=nx+1) (off:=0) (len:=fields.length) (a:=((up (tog 1048576 ws fields).2.1 (tog 1048576 ws fields).2.2:Nat):Int)) (b:=((tog 1048576 ws fields).2.2:Nat))
   rw[hbs,z8]
   refine⟨bs,1,nx+1,nz,?_,rfl,hgb _ rfl⟩
   unfold togEnd
   rw[hfar,Nat.add_comm]
theorem jC {A:List (Nat×Nat)} {n i:Nat} {v:Nat×Nat} (h:A.length=i) (hi:i<n):(A++List.replicate (n-i) (0,0)).set i v=A++[v]++List.replicate (n-(i+1)) (0,0):=by
 rw[List.set_append,if_neg (by omega)]
 rw[show n-i=(n-(i+1))+1 by omega,w52,show i-A.length=0 by omega]
 simp
theorem WQ {A B:List (Nat×Nat)} {j:Nat} (h:j<A.length):(A++B).getD j (0,0)=A.getD j (0,0):=by
 simp[w02,w09 h]
theorem z5U {m0:Mem} {stk:List (List Blk)} {cur c':List Blk} {nx' fl':Nat} {own:List Nat} {live':List (List Nat)} {k st off len:Nat}:
  ∃bs:List Blk,leave m0 ⟨stk++[cur],c',nx',own::live',fl'⟩ (.arr (stk++[cur]).length k st off len)=some (.arr stk.length (k+cur.length) st off len,⟨stk,cur++bs,nx',live',m0.floor⟩)∧
   ∀ws,c'[k]? =some ⟨st,prs ws⟩→bs[k]? =some ⟨st,prs ws⟩:=by
 have e:own.filter (fun _=>false)=[]:=by simp
 refine⟨c'.map fun b=>⟨b.st,shiftAll (stk++[cur]).length ((stk++[cur]).length-1) cur.length b.cs⟩,?_,?_⟩
 ·unfold leave
  simp only[w4b,w42,Option.some_or,AV.refs,beq_self_eq_true,if_true,AV.toks,List.contains_nil,e,pushToks,w4c,AV.shift]
  simp
 ·intro ws h
  rw[w17,h,w0d,z1z]
theorem Zl (l:List DTyp) (x:AV) (hx:IsSl IsTyp 4 l x) (hv:ValidT l) (hl:l.length≤100) (stk:List (List Blk)) (cur:List Blk) (nx fl:Nat) (live:List (List Nat)):
  ∃bs j st k,CALL tab uW [x] ⟨stk,cur,nx,live,fl⟩=some (.arr stk.length (cur.length+j) st 0 l.length,⟨stk,cur++bs,k,live,fl⟩)∧bs[j]? =some ⟨st,prs (exts 1048576 l)⟩:=by
 suffices h:Does tab uW [x] ⟨stk,cur,nx,live,fl⟩ fun v m'=> ∃bs j st k,v= .arr stk.length (cur.length+j) st 0 l.length∧m'=⟨stk,cur++bs,k,live,fl⟩∧bs[j]? =some ⟨st,prs (exts 1048576 l)⟩ by
  obtain⟨z,h1,bs,j,st,k,h2,h3,h4⟩:=h
  exact⟨bs,j,st,k,by rw[h1,←h2,←h3],h4⟩
 refine zV Uz ?_ (Nat.le_of_ble_eq_true rfl)
 have hmk: ∀m:Mem,evMake m 2 16 [.int .i64 0,.int .i64 0] (.int .i64 l.length) (.int .i64 l.length)=some (.arr m.stk.length m.cur.length m.nx 0 l.length,{m with cur:=m.cur++[⟨m.nx,prs (List.replicate l.length (0,0))⟩],nx:=m.nx+1}):=fun m=>by
  unfold evMake
  simp only
  rw[if_pos ⟨trivial,by omega,by omega,by omega,rfl⟩,w30,zaW]
 simp only[qy,List.map,go_sem,reduceCtorEq,G0,G2,hx.len,hmk]
 refine zc (α:=Nat) (fun i σ=>i≤l.length∧ ∃nz,heads [3,10,11,12] 1 σ=⟨tmps 77 [(3,.arr (stk++[cur]).length 0 nx 0 l.length),(10,x),(11,.int .i64 l.length),(12,.int .i64 i)],
  ⟨stk++[cur],[⟨nx,prs (exts 1048576 (l.take i)++List.replicate (l.length-i) (0,0))⟩],nz,[]::live,fl⟩⟩) (fun i=>l.length-i) 0 ?_ ?_
 ·refine⟨w0c _,?_⟩
  simp only[go_sem,reduceCtorEq,G0,G1,exts,w22,List.foldl_nil,Nat.sub_zero]
  exact⟨_,rfl⟩
 ·rintro i σ ⟨hi,nz,hσ⟩
  rw[hσ]
  clear hσ σ
  dsimp only at hi⊢
  by_cases h:i<l.length
  ·have hfine:=hv i h
   obtain⟨v,e1,q1⟩:=hx.nth h
   have hat:=hx.at .i64 h
   have hsucc:=zb h hx.max
   have hAl:=te 1048576 l i hi
   have hrs:=jr 1048576 h
   have hgood:=WX (far:=1048576) (w0b _) hv i hi
   have hflen:=um hfine
   generalize hout:exts 1048576 (l.take i)=A at*
   generalize ht:l[i]=t at*
   clear ht
   generalize hn:l.length=n at*
   obtain⟨kind,elem,len,fields⟩:=t
   dsimp only at e1 q1 hflen
   have hix2:=uY .i64 (p:=(i:Int)) (n:=n) (by omega)
   rw[w30] at hix2
   have hcl:decide (i*2+2≤(prs (A++List.replicate (n-i) (0,0))).length)=true:=by rw[zaX];simp;omega
   simp only[go_sem,G3,G0,G1,G2,w03,h,hat,e1,q1.one]
   by_cases k1:kind=1
   ·subst k1
    have hV:((1:Nat),(1:Nat))=ext1 1048576 A ⟨1,elem,len,fields⟩:=rfl
    simp only[go_sem,G0,G2]
    have hset:(prs (A++List.replicate (n-i) (0,0))).take (i*2)++[.int .i64 1,.int .i64 1]++(prs (A++List.replicate (n-i) (0,0))).drop (i*2+2)=prs ((A++List.replicate (n-i) (0,0)).set i (1,1)):=km (A++List.replicate (n-i) (0,0)) i 1 1 (by simp;omega)
    rw[jC hAl h] at hset
    simp only[go_sem,G3,G0,G4,G2,evBuild,zf,hix2,hcl,hset,hsucc]
    refine⟨i+1,by omega,h,?_⟩
    rw[hrs,←hV]
    exact⟨_,rfl⟩
   have k1':(kind==1)=false:=by simpa using k1
   by_cases k2:kind=2
   ·subst k2
    have hV:((8:Nat),(8:Nat))=ext1 1048576 A ⟨2,elem,len,fields⟩:=rfl
    simp only[go_sem,G0,G2,k1']
    have hset:(prs (A++List.replicate (n-i) (0,0))).take (i*2)++[.int .i64 8,.int .i64 8]++(prs (A++List.replicate (n-i) (0,0))).drop (i*2+2)=prs ((A++List.replicate (n-i) (0,0)).set i (8,8)):=km (A++List.replicate (n-i) (0,0)) i 8 8 (by simp;omega)
    rw[jC hAl h] at hset
    simp only[go_sem,G3,G0,G4,G2,evBuild,zf,hix2,hcl,hset,hsucc]
    refine⟨i+1,by omega,h,?_⟩
    rw[hrs,←hV]
    exact⟨_,rfl⟩
   have k2':(kind==2)=false:=by simpa using k2
   by_cases k4:kind=4
   ·subst k4
    have hV:((8:Nat),(8:Nat))=ext1 1048576 A ⟨4,elem,len,fields⟩:=rfl
    simp only[go_sem,G0,G2,k1',k2']
    have hset:(prs (A++List.replicate (n-i) (0,0))).take (i*2)++[.int .i64 8,.int .i64 8]++(prs (A++List.replicate (n-i) (0,0))).drop (i*2+2)=prs ((A++List.replicate (n-i) (0,0)).set i (8,8)):=km (A++List.replicate (n-i) (0,0)) i 8 8 (by simp;omega)
    rw[jC hAl h] at hset
    simp only[go_sem,G3,G0,G4,G2,evBuild,zf,hix2,hcl,hset,hsucc]
    refine⟨i+1,by omega,h,?_⟩
    rw[hrs,←hV]
    exact⟨_,rfl⟩
   have k4':(kind==4)=false:=by simpa using k4
   by_cases k3:kind=3
   ·subst k3
    have hV:((16:Nat),(8:Nat))=ext1 1048576 A ⟨3,elem,len,fields⟩:=rfl
    simp only[go_sem,G0,G2,k1',k2',k4']
    have hset:(prs (A++List.replicate (n-i) (0,0))).take (i*2)++[.int .i64 16,.int .i64 8]++(prs (A++List.replicate (n-i) (0,0))).drop (i*2+2)=prs ((A++List.replicate (n-i) (0,0)).set i (16,8)):=km (A++List.replicate (n-i) (0,0)) i 16 8 (by simp;omega)
    rw[jC hAl h] at hset
    simp only[go_sem,G3,G0,G4,G2,evBuild,zf,hix2,hcl,hset,hsucc]
    refine⟨i+1,by omega,h,?_⟩
    rw[hrs,←hV]
    exact⟨_,rfl⟩
   have k3':(kind==3)=false:=by simpa using k3
   by_cases k7:kind=7
   ·subst k7
    have hV:((24:Nat),(8:Nat))=ext1 1048576 A ⟨7,elem,len,fields⟩:=rfl
    simp only[go_sem,G0,G2,k1',k2',k4',k3']
    have hset:(prs (A++List.replicate (n-i) (0,0))).take (i*2)++[.int .i64 24,.int .i64 8]++(prs (A++List.replicate (n-i) (0,0))).drop (i*2+2)=prs ((A++List.replicate (n-i) (0,0)).set i (24,8)):=km (A++List.replicate (n-i) (0,0)) i 24 8 (by simp;omega)
    rw[jC hAl h] at hset
    simp only[go_sem,G3,G0,G4,G2,evBuild,zf,hix2,hcl,hset,hsucc]
    refine⟨i+1,by omega,h,?_⟩
    rw[hrs,←hV]
    exact⟨_,rfl⟩
   have k7':(kind==7)=false:=by simpa using k7
   by_cases k6:kind=6
   ·subst k6
    have hel:=hflen.2.2.2.1 rfl
    have hle:=hflen.2.1 rfl
    have hge:=hgood.get (j:=elem.toNat) (by omega)
    have hix:=uY .i64 (p:=elem) (n:=n) ⟨hel.1,by omega⟩
    have hld:=z47 (ws:=A++List.replicate (n-i) (0,0)) (j:=elem.toNat) (by simp;omega)
    rw[WQ (by omega)] at hld
    have hV:(min 1048576 (len.toNat*(A.getD elem.toNat (0,0)).1),(A.getD elem.toNat (0,0)).2)=ext1 1048576 A ⟨6,elem,len,fields⟩:=rfl
    generalize A.getD elem.toNat (0,0)=pr at*
    have hmul:len.toNat*pr.1≤16*1048576:=Nat.mul_le_mul (by omega) hge.1
    have ew:IntKind.i64.wrap (len*(pr.1:Int))=((len.toNat*pr.1:Nat):Int):=by
     have:len*(pr.1:Int)=((len.toNat*pr.1:Nat):Int):=by rw[Int.natCast_mul,w45 (by omega)]
     rw[this,zd (by omega) (by omega)]
    simp only[go_sem,G3,G0,G4,G2,k1',k2',k4',k3',k7',zf,hix,hld,ew,z6V,evBuild]
    have hset:=km (A++List.replicate (n-i) (0,0)) i (min 1048576 (len.toNat*pr.1)) (pr.2) (by simp;omega)
    rw[jC hAl h] at hset
    simp only[go_sem,G3,G0,G2,hix2,hcl,hset,hsucc]
    refine⟨i+1,by omega,h,?_⟩
    rw[hrs,←hV]
    exact⟨_,rfl⟩
   have k6':(kind==6)=false:=by simpa using k6
   have k5:kind=5:=by
    rcases hfine with⟨h1,_⟩|⟨h1,_⟩|⟨h1,_⟩|⟨h1,_⟩<;>dsimp only at h1<;>omega
   subst k5
   have hV:togEnd 1048576 A fields=ext1 1048576 A ⟨5,elem,len,fields⟩:=rfl
   obtain⟨bs,j,s,k,hcall,_⟩:=z2k A (A++List.replicate (n-i) (0,0)) hgood (by simp) (fun j hj=>WQ hj) fields v q1 (by rw[hAl];exact hflen.2.2.2.2.2) (by omega) (stk++[cur])
    [⟨nx,prs (A++List.replicate (n-i) (0,0))⟩,⟨nz,[.int .u8 5,.int .i64 elem,.int .i64 len,v]⟩] (nz+1) fl ([]::live) (stk++[cur]).length 0 nx (w0b _) (by simp)
   have hlW:List.length (A++List.replicate (n-i) ((0:Nat),(0:Nat)))=n:=by simp;omega
   rw[hlW] at hcall
   simp only[go_sem,G3,G0,G2,k1',k2',k4',k3',k7',k6',hcall]
   generalize togEnd 1048576 A fields=pr at*
   have hset:=km (A++List.replicate (n-i) (0,0)) i (pr.1) (pr.2) (by simp;omega)
   rw[jC hAl h] at hset
   simp only[go_sem,G3,G0,G2,zf,hix2,hcl,hset,hsucc]
   refine⟨i+1,by omega,h,?_⟩
   rw[hrs,←hV]
   exact⟨_,rfl⟩
  ·have:i=l.length:=by omega
   subst this
   rw[w0a,Nat.sub_self,List.replicate_zero,w20]
   simp only[go_sem,G0,G1,G2,w03,h]
   obtain⟨bs,hbs,hgb⟩:=z5U (m0:=⟨stk,cur,nx,live,fl⟩) (stk:=stk) (cur:=cur) (c':=[⟨nx,prs (exts 1048576 l)⟩]) (nx':=nz) (own:=[]) (live':=live) (fl':=fl) (k:=0) (st:=nx) (off:=0) (len:=l.length)
   rw[hbs,z8]
   exact⟨bs,0,nx,nz,by rw[Nat.add_comm],rfl,hgb _ rfl⟩
theorem zbL {tab:Nat→Option AFunc} {f:Nat} {args:List AV} {m m':Mem} {r:AV} (h:CALL tab f args m=some (r,m')) (hf:m.floor≤m.stk.length+1):m.nx≤m'.nx:=by
 obtain⟨n,h⟩:=Ur.1 h
 exact(z51 n _ _ _ _ _ h hf).nx
structure Own2 {α β:Type} (R1:α→AV→Prop) (s1:Nat) (y1:AV) (a:List α) (R2:β→AV→Prop) (s2:Nat) (y2:AV) (b:List β) (e:List Nat) (nx:Nat):Prop where
 l:Own R1 s1 y1 a e
 r:Own R2 s2 y2 b e
 dj: ∀t∈y1.toks,t∉y2.toks
 bl: ∀t∈y1.toks,t<nx
 br: ∀t∈y2.toks,t<nx
section
variable {α β : Type} {R1 : α → AV → Prop} {s1 : Nat} {y1 : AV} {a : List α} {R2 : β → AV → Prop} {s2 : Nat} {y2 : AV} {b : List β} {e : List Nat} {nx : Nat}
theorem Own2.symm (h:Own2 R1 s1 y1 a R2 s2 y2 b e nx):Own2 R2 s2 y2 b R1 s1 y1 a e nx:=⟨h.r,h.l,fun t h1 h2=>h.dj t h2 h1,h.br,h.bl⟩
theorem Own2.nil (e:List Nat) (nx:Nat):Own2 R1 s1 .nils [] R2 s2 .nils [] e nx:=⟨.nil e,.nil e,fun t h=>by simp[AV.toks] at h,fun t h=>by simp[AV.toks] at h,fun t h=>by simp[AV.toks] at h⟩
theorem Own2.mono {e':List Nat} {nx':Nat} (h:Own2 R1 s1 y1 a R2 s2 y2 b e nx) (k: ∀t∈e,t∈e') (hn:nx≤nx'):Own2 R1 s1 y1 a R2 s2 y2 b e' nx':=
 ⟨h.l.mono k,h.r.mono k,h.dj,fun t ht=>Nat.lt_of_lt_of_le (h.bl t ht) hn,fun t ht=>Nat.lt_of_lt_of_le (h.br t ht) hn⟩
theorem z7A {α:Type} {R:α→AV→Prop} {s:Nat} {y:AV} {xs:List α} {e:List Nat} {t:Nat} (h:Own R s y xs e) (ht:t∉y.toks):Own R s y xs (e.erase t):=by
 rcases h with h|⟨tk,ys,h1,h2,h3|⟨u,h3,h4⟩⟩
 ·exact .inl h
 ·exact .inr ⟨tk,ys,h1,h2,.inl h3⟩
 ·refine .inr ⟨tk,ys,h1,h2,.inr ⟨u,(List.mem_erase_of_ne ?_).2 h3,h4⟩⟩
  rintro rfl
  exact ht (by rw[h1,h4];simp[AV.toks])
theorem Own2.app {cs:List α} {z:AV} {zs:List AV} {bytes:Nat} (h:Own2 R1 s1 y1 a R2 s2 y2 b e nx) (hz: ∀m:Mem,m.elems s1 z=some zs) (hc:All2 R1 cs zs) (hl:(a.length+cs.length)*bytes≤140737488355328)
  (stk:List (List Blk)) (cur:List Blk) (rest:List (List Nat)) (fl:Nat):
  ∃y' n e',evApp ⟨stk,cur,nx,e::rest,fl⟩ s1 bytes y1 z=some (y',⟨stk,cur,n,e'::rest,fl⟩)∧Own2 R1 s1 y' (a++cs) R2 s2 y2 b e' n:=by
 have new: ∀ys (e':List Nat),All2 R1 (a++cs) ys→Own R2 s2 y2 b e'→nx∈e'→Own2 R1 s1 (.list s1 (.id nx) ys) (a++cs) R2 s2 y2 b e' (nx+1):=fun ys e' q ho hn=>
  ⟨.inr ⟨_,ys,rfl,q,.inr ⟨nx,hn,rfl⟩⟩,ho,fun t ht h2=>by
   simp only[AV.toks,w13] at ht
   subst ht
   exact Nat.lt_irrefl _ (h.br _ h2),fun t ht=>by
   simp only[AV.toks,w13] at ht
   omega,fun t ht=>Nat.lt_succ_of_lt (h.br t ht)⟩
 rcases Own.app (m:=⟨stk,cur,nx,e::rest,fl⟩) (h.l.mono fun t h=>by simp only[w40,w08];exact .inl h) (hz _) hc hl with⟨hcs,q⟩|⟨ys,q,eq⟩|⟨t,ys,q0,hy,_,q,eq⟩
 ·subst hcs;rw[w20];exact⟨_,_,_,q,h⟩
 ·exact⟨_,_,nx::e,eq,new ys _ q (h.r.mono fun t h=>w1c _ h) w1b⟩
 ·have ht:t∈e:=by
   rcases h.l with⟨h1,_⟩|⟨tk,ys',e1,_,e2|⟨t',e3,e2⟩⟩
   ·rw[h1] at hy;cases hy
   ·rw[e1,e2] at hy;cases hy
   ·rw[e1,e2] at hy;injection hy with _ hy _;injection hy with hy;exact hy▸e3
  have hd:dropTok t (e::rest)=e.erase t::rest:=by
   simp only[dropTok];rw[if_pos (by simpa using ht)]
  rw[show(Mem.live ⟨stk,cur,nx,e::rest,fl⟩)=e::rest from rfl,hd] at eq
  refine⟨_,_,nx::e.erase t,eq,new ys _ q ((z7A h.r (h.dj t (by rw[hy];simp[AV.toks]))).mono fun t h=>w1c _ h) w1b⟩
variable {tab : Nat → Option AFunc} {ρ : List AV} {k : Kont} {l : List AOper} {d : Option Nat}
theorem Own2.xv1 {cs:List α} {z:AV} {zs:List AV} {bytes fl:Nat} {stk:List (List Blk)} {cur:List Blk} {rest:List (List Nat)} (h:Own2 R1 s1 y1 a R2 s2 y2 b e nx) (hz: ∀m:Mem,m.elems s1 z=some zs) (hc:All2 R1 cs zs) (hl:(a.length+cs.length)*bytes≤140737488355328)
  (q: ∀y' n e',Own2 R1 s1 y' (a++cs) R2 s2 y2 b e' n→Xs tab l (setDst ρ d y') ⟨stk,cur,n,e'::rest,fl⟩ k):Xv tab (evApp ⟨stk,cur,nx,e::rest,fl⟩ s1 bytes y1 z) d l ρ k:=by
 obtain⟨y',n,e',h1,h2⟩:=h.app hz hc hl stk cur rest fl
 rw[h1,uU];exact q y' n e' h2
theorem Own2.xv2 {cs:List β} {z:AV} {zs:List AV} {bytes fl:Nat} {stk:List (List Blk)} {cur:List Blk} {rest:List (List Nat)} (h:Own2 R1 s1 y1 a R2 s2 y2 b e nx) (hz: ∀m:Mem,m.elems s2 z=some zs) (hc:All2 R2 cs zs) (hl:(b.length+cs.length)*bytes≤140737488355328)
  (q: ∀y' n e',Own2 R1 s1 y1 a R2 s2 y' (b++cs) e' n→Xs tab l (setDst ρ d y') ⟨stk,cur,n,e'::rest,fl⟩ k):Xv tab (evApp ⟨stk,cur,nx,e::rest,fl⟩ s2 bytes y2 z) d l ρ k:=by
 obtain⟨y',n,e',h1,h2⟩:=h.symm.app hz hc hl stk cur rest fl
 rw[h1,uU];exact q y' n e' h2.symm
end
theorem zd6 {n a:Nat} (ha:is18 a) (hn:n≤4194304) (m:Mem):Okv tab vy [.int .i64 n,.int .i64 a] m (.int .i64 (up n a:Nat)):=by
 refine zh Vv ?_
 obtain⟨stk,cur,nx,live,fl⟩:=m
 have e1:IntKind.i64.wrap ((n:Int)+(a:Int))=((n+a:Nat):Int):=by unfold is18 at ha;rw[zd (by omega) (by omega)];omega
 have e2:IntKind.i64.wrap (((n+a:Nat):Int)-1)=((n+a-1:Nat):Int):=by unfold is18 at ha;rw[zd (by omega) (by omega)];omega
 have e3:IntKind.i64.wrap (((n+a-1:Nat):Int).tdiv (a:Int))=(((n+a-1)/a:Nat):Int):=by
  rw[z8R]
  have:(n+a-1)/a≤n+a-1:=Nat.div_le_self _ _
  unfold is18 at ha
  generalize (n+a-1)/a=q at*
  rw[zd (by omega) (by omega)]
 have e4:IntKind.i64.wrap ((((n+a-1)/a:Nat):Int)*(a:Int))=((up n a:Nat):Int):=by
  rw[←Int.natCast_mul]
  have:=Q7 (n:=n) ha
  show IntKind.i64.wrap ((up n a:Nat):Int)=_
  rw[zd (by omega) (by omega)]
 have e0: ¬((a:Int)=0):=by unfold is18 at ha;omega
 simp only[tE,List.map,go_sem,reduceCtorEq,G3,G0,G2,e1,e2,e0,e3,e4]
 rw[z6 rfl rfl,z8]
 exact⟨⟨_,rfl⟩,rfl⟩
def szs (ws:List (Nat×Nat)):List Nat:=ws.map Prod.fst
def als (ws:List (Nat×Nat)):List Nat:=ws.map Prod.snd
theorem z2F {ws:List (Nat×Nat)} {j:Nat} (h:j<ws.length):(szs ws)[j]'(by simpa [szs] using h)=(ws.getD j (0,0)).1:=by simp[szs,w02,h]
theorem z7b {ws:List (Nat×Nat)} {j:Nat} (h:j<ws.length):(als ws)[j]'(by simpa [als] using h)=(ws.getD j (0,0)).2:=by simp[als,w02,h]
theorem z5e (ws:List (Nat×Nat)) (hg:GoodP ws) (y1 y2:AV) (h1:IsSl IsN 1 (szs ws) y1) (h2:IsSl IsN 1 (als ws) y2) (fields:List DField) (v:AV) (q1:IsSl IsField 2 fields v) (hf: ∀f∈fields,0≤f.typ∧f.typ<ws.length) (hlen:fields.length≤100) (m:Mem):
  ∃y ts k,CALL tab yP [y1,y2,v] m=some (.tup [y,.int .i64 ((togEnd 1000000 ws fields).1:Nat),.int .i64 ((togEnd 1000000 ws fields).2:Nat)],{m with nx:=k,live:=pushToks ts m.live})∧Own IsN 1 y (tog 1000000 ws fields).1 ts:=by
 suffices h:Does tab yP [y1,y2,v] m fun r m'=> ∃y ts k,r= .tup [y,.int .i64 ((togEnd 1000000 ws fields).1:Nat),.int .i64 ((togEnd 1000000 ws fields).2:Nat)]∧m'={m with nx:=k,live:=pushToks ts m.live}∧Own IsN 1 y (tog 1000000 ws fields).1 ts by
  obtain⟨z,e1,y,ts,k,e2,e3,e4⟩:=h
  exact⟨y,ts,k,by rw[e1,←e2,←e3],e4⟩
 refine zV kL ?_ (Nat.le_of_ble_eq_true rfl)
 obtain⟨stk,cur,nx,live,fl⟩:=m
 simp only[xM,List.map,go_sem,G3]
 refine zc (α:=Nat) (fun k σ=>k≤fields.length∧ ∃nz y e,Own IsN 1 y (tog 1000000 ws (fields.take k)).1 e∧heads [0,1,2,9,10,11,12] 0 σ=⟨tmps 55 [(0,y1),(1,y2),(2,v),(9,y),(10,.int .i64 ((tog 1000000 ws (fields.take k)).2.1:Nat)),(11,.int .i64 ((tog 1000000 ws (fields.take k)).2.2:Nat)),(12,.int .i64 k)],⟨stk++[cur],[],nz,e::live,fl⟩⟩) (fun k=>fields.length-k) 0 ?_ ?_
 ·refine⟨w0c _,nx,.nils,[],.nil _,?_⟩
  simp only[go_sem,reduceCtorEq,G0,G1,tog,w22,List.foldl_nil]
  rfl
 ·rintro k σ ⟨hk,nz,y,e,ho,hσ⟩
  rw[hσ]
  clear hσ σ
  dsimp only at hk⊢
  obtain⟨g1,g2,g3⟩:=Zm (far:=1000000) (by omega) hg hf k hk
  by_cases h:k<fields.length
  ·have e2:nth v k= .agg [.str fields[k].name,.int .i64 fields[k].typ]:=q1.nth h
   have hat2:=q1.at .i64 h
   have hfk:=hf _ (w07 h)
   have hj:fields[k].typ.toNat<ws.length:=by omega
   have hgk:=hg.get hj
   have ht1:fields[k].typ.toNat<(szs ws).length:=by simpa [szs] using hj
   have ht2:fields[k].typ.toNat<(als ws).length:=by simpa [als] using hj
   have s1:nth y1 fields[k].typ.toNat= .int .i64 ((szs ws)[fields[k].typ.toNat]:Nat):=h1.nth ht1
   have s2:nth y2 fields[k].typ.toNat= .int .i64 ((als ws)[fields[k].typ.toNat]:Nat):=h2.nth ht2
   have a1:=h1.at .i64 ht1
   have a2:=h2.at .i64 ht2
   rw[w45 hfk.1] at a1 a2
   rw[z2F hj] at s1
   rw[z7b hj] at s2
   have hts:=XP 1000000 ws h
   unfold togStep at hts
   generalize tog 1000000 ws (fields.take k)=s at*
   obtain⟨offs,en,mo⟩:=s
   dsimp only at g1 g2 g3 ho
   generalize ws.getD fields[k].typ.toNat (0,0)=pr at*
   have hup:=Q7 (n:=en) hgk.2
   have ew:IntKind.i64.wrap ((up en pr.2:Nat)+(pr.1:Nat))=((up en pr.2+pr.1:Nat):Int):=by rw[zd (by omega) (by omega)];omega
   simp only[go_sem,reduceCtorEq,G0,G1,G2,w03,h,q1.len,hat2,e2,a2,s2,(zd6 hgk.2 (show en≤4194304 by omega) _).eq]
   refine ho.xv (zi · _ _ _) (zE (R:=IsN) (x:=up en pr.2) rfl) (by simp;omega) fun y' n' e' ho'=> ?_
   simp only[go_sem,reduceCtorEq,G0,G2,a1,s1,a2,s2,ew,z34,zbb,zb h q1.max]
   refine⟨k+1,by omega,h,n',y',e',?_,?_⟩
   ·rw[hts];exact ho'
   ·rw[hts]
  ·have:k=fields.length:=by omega
   subst this
   rw[w0a] at*
   have hup:=Q7 (n:=(tog 1000000 ws fields).2.1) g3
   simp only[go_sem,reduceCtorEq,G0,G1,G2,w03,h,q1.len,(zd6 g3 (show(tog 1000000 ws fields).2.1≤4194304 by omega) _).eq,z34]
   rw[Zz (by simp only[AV.refs,refsAny,ho.refs];rfl),z8]
   refine⟨y,_,_,rfl,rfl,?_⟩
   simp only[AV.toks,toksAll,w20]
   exact ho.filter
end Go.Proofs.W
end
section
namespace Go.Vs
def OkT (tab:Nat→Option AFunc) (f:Nat) (args:List AV) (m:Mem) (Q:AV→List Nat→Nat→Prop):Prop:=
 ∃y ts k,CALL tab f args m=some (y,{m with nx:=k,live:=pushToks ts m.live})∧Q y ts k
def FinT (m:Mem) (Q:AV→List Nat→Nat→Prop) (v:AV) (m':Mem):Prop:= ∃ts k,m'={m with nx:=k,live:=pushToks ts m.live}∧Q v ts k
theorem UE {tab:Nat→Option AFunc} {f:Nat} {fn:AFunc} (h:tab f=some fn) {args:List AV} {m:Mem} {Q:AV→List Nat→Nat→Prop} (hx:X tab fn.body (mk fn.ntmps (.tup []) (numb 0 args)) (enter m) (.fin fn.res m (FinT m Q))) (hn:args.length≤fn.ntmps:=by exact Nat.le_of_ble_eq_true rfl):
  OkT tab f args m Q:=by
 obtain⟨x,h1,ts,k,h2,h3⟩:=zV h hx hn;exact⟨x.1,ts,k,by rw[h1,←h2],h3⟩
section
variable {tab : Nat → Option AFunc} {ρ : List AV} {m : Mem} {k : Kont} {l : List AOper} {d : Option Nat} {f : Nat} {args : List AV}
theorem OkT.xv {Q:AV→List Nat→Nat→Prop} (h:OkT tab f args m Q) (q: ∀y ts n,Q y ts n→Xs tab l (setDst ρ d y) {m with nx:=n,live:=pushToks ts m.live} k):Xv tab (CALL tab f args m) d l ρ k:=by
 obtain⟨y,ts,n,h1,h2⟩:=h
 rw[h1,uU];exact q y ts n h2
theorem Ok.xv {R:AV→Prop} (h:Ok tab f args m R) (q: ∀y n,R y→Xs tab l (setDst ρ d y) (m.bump n) k):Xv tab (CALL tab f args m) d l ρ k:=by
 obtain⟨y,n,h1,h2⟩:=h
 rw[h1,uU];exact q y n h2
theorem OkT.xw {Q:AV→List Nat→Nat→Prop} {fl:Nat} {m0:Mem} {ws:Watch} (h:OkT tab f args m Q) (q: ∀y ts n,Q y ts n→Xd tab fl m0 ws l (setDst ρ d y) {m with nx:=n,live:=pushToks ts m.live} k):Xw tab (CALL tab f args m) 2 fl m0 ws d l ρ m k:=by
 obtain⟨y,ts,n,h1,h2⟩:=h
 rw[h1,zbQ];exact q y ts n h2
theorem OkT.mono {Q Q':AV→List Nat→Nat→Prop} (h:OkT tab f args m Q) (k: ∀y ts n,Q y ts n→Q' y ts n):OkT tab f args m Q':=let ⟨y,ts,n,h1,h2⟩:=h;⟨y,ts,n,h1,k _ _ _ h2⟩
end
theorem yq {stk:List (List Blk)} {cur c':List Blk} {nx nx' fl fl':Nat} {live:List (List Nat)} {own:List Nat} {r:AV} {Q:AV→List Nat→Nat→Prop} (h1:r.refs (stk++[cur]).length=false) (h:Q r (own.filter fun t=>r.toks.contains t) nx'):
  Opt (leave ⟨stk,cur,nx,live,fl⟩ ⟨stk++[cur],c',nx',own::live,fl'⟩ r) fun q=>FinT ⟨stk,cur,nx,live,fl⟩ Q q.1 q.2:=by
 rw[Zz h1,z8]
 exact⟨_,nx',rfl,h⟩
theorem IsSl.refs {α:Type} {R:α→AV→Prop} {s:Nat} {xs:List α} {y:AV} (h:IsSl R s xs y) (l:Nat):y.refs l=false:=by
 rcases h with⟨_,⟨rfl,rfl⟩|⟨tk,ys,rfl,h⟩⟩<;>rfl
theorem IsSl.fld {l:List DField} {x:AV} (hx:IsSl IsField 2 l x) {j:Nat} (h:j<l.length):Vs.nth x j= .agg [.str l[j].name,.int .i64 l[j].typ]:=hx.nth h
theorem z6r {tab:Nat→Option AFunc} {f:Nat} {b:Bool} (h:tab f=some (constFn b)) (m:Mem):CALL tab f [] m=some (.bool b,m):=by
 refine Ur.2 ⟨1,?_⟩
 simp only[callN,callB,h,evFn,constFn,ev,w2f,Nat.sub_self,List.replicate_zero,w20,evRess,evRes,w29,w0d,w02,List.getElem?_cons_zero,w2a,packRes]
 exact Tf m b
end Go.Vs
end
section
namespace Go.Proofs.W
open Go.Vs
set_option linter.unusedSimpArgs false
set_option maxRecDepth 100000
theorem Ui {p q:Prop} [Decidable p] [Decidable q] (h:p↔q):AV.bool (decide p)=AV.bool (decide q):=congrArg AV.bool (decide_eq_decide.2 h)
theorem UW {q:Prop} [Decidable q] (h: ¬q):AV.bool false=AV.bool (decide q):=congrArg AV.bool (decide_eq_false h).symm
theorem zcQ {b:Bool} {q:Prop} [Decidable q] (h:b=true↔q):AV.bool b=AV.bool (decide q):=congrArg AV.bool (by rw[Bool.eq_iff_iff,decide_eq_true_eq];exact h)
def t00:DTyp:=⟨0,0,0,[]⟩
def f00:DField:=⟨[],0⟩
def tyA (l:List DTyp) (t:Int):DTyp:=l.getD t.toNat t00
def fdA (l:List DField) (i:Int):DField:=l.getD i.toNat f00
theorem zaL {l:List DTyp} {k:Nat} (h:k<l.length):tyA l k=l[k]:=by simp[tyA,w02,h]
theorem TU {l:List DField} {k:Nat} (h:k<l.length):fdA l k=l[k]:=by simp[fdA,w02,h]
def kindI (l:List DTyp) (t:Int):Int:=if t<0 then 0 else(tyA l t).kind
def slotT (f:DFunc) (s:Int):Int:=if 0≤s∧s<f.slots.length then(fdA f.slots s).typ else-1
def called (x:DInstr):Int:=if x.op=25 then x.b else if x.op=26∨x.op=27 then x.a else-1
def NV (d:DImage) (f:DFunc) (y:AV):Prop:= ∃ty tx fs w0 w1 w2 w3,y= .agg [ty,tx,fs,.str f.name,.int .i64 f.params,.int .i64 f.result,w0,w1,w2,w3]∧IsSl IsTyp 4 d.types ty∧IsSl IsStr 1 d.texts tx∧IsSl IsFunc 7 d.funcs fs∧
 IsSl IsField 2 f.slots w0∧IsSl IsInstr 4 f.code w1∧IsSl IsRun 2 f.sizes w2∧IsSl IsRun 2 f.lives w3
theorem _root_.Go.Vs.IsSl.tyA {l:List DTyp} {x:AV} (hx:IsSl IsTyp 4 l x) {j:Nat} (h:j<l.length): ∃v0,nth x j= .agg [.int .u8 (tyA l j).kind,.int .i64 (tyA l j).elem,.int .i64 (tyA l j).len,v0]∧IsSl IsField 2 (tyA l j).fields v0:=by
 obtain⟨v0,h1,h2⟩:=hx.nth h
 rw[←zaL h] at h1 h2
 exact⟨v0,h1,h2⟩
theorem _root_.Go.Vs.IsSl.fdA {l:List DField} {x:AV} (hx:IsSl IsField 2 l x) {j:Nat} (h:j<l.length):nth x j= .agg [.str (fdA l j).name,.int .i64 (fdA l j).typ]:=by
 rw[TU h];exact hx.fld h
theorem tq {α:Type} {R:α→AV→Prop} {s:Nat} (l:List α) (x:AV) (hx:IsSl R s l x) (i:Int) (m:Mem):Okv tab yg [x,.int .i64 i] m (.bool (decide (0≤i∧i<l.length))):=by
 refine zh kN ?_
 obtain⟨stk,cur,nx,live,fl⟩:=m
 generalize hr:decide (0≤i∧i<(l.length:Int))=r
 simp only[xN,List.map,go_sem,reduceCtorEq,G3,G0,G2]
 by_cases h:i≥0
 ·simp only[go_sem,reduceCtorEq,G0,G2,h,hx.len]
  rw[z6 rfl rfl,z8]
  exact⟨⟨_,rfl⟩,by rw[←hr];exact Ui (by omega)⟩
 ·simp only[go_sem,reduceCtorEq,G0,G2,h]
  rw[z6 rfl rfl,z8]
  exact⟨⟨_,rfl⟩,by rw[←hr];exact UW (by omega)⟩
theorem VN {α:Type} {R:α→AV→Prop} {s:Nat} (l:List α) (x:AV) (hx:IsSl R s l x) (i:Int) (m:Mem):Okv tab yW [x,.int .i64 i] m (.bool (decide (0≤i∧i<l.length))):=by
 refine zh Zp ?_
 obtain⟨stk,cur,nx,live,fl⟩:=m
 generalize hr:decide (0≤i∧i<(l.length:Int))=r
 simp only[vc,List.map,go_sem,reduceCtorEq,G3,G0,G2]
 by_cases h:i≥0
 ·simp only[go_sem,reduceCtorEq,G0,G2,h,hx.len]
  rw[z6 rfl rfl,z8]
  exact⟨⟨_,rfl⟩,by rw[←hr];exact Ui (by omega)⟩
 ·simp only[go_sem,reduceCtorEq,G0,G2,h]
  rw[z6 rfl rfl,z8]
  exact⟨⟨_,rfl⟩,by rw[←hr];exact UW (by omega)⟩
theorem Yy {α:Type} {R:α→AV→Prop} {s:Nat} (l:List α) (x:AV) (hx:IsSl R s l x) (i:Int) (m:Mem):Okv tab ua [x,.int .i64 i] m (.bool (decide (0≤i∧i<l.length))):=by
 refine zh YV ?_
 obtain⟨stk,cur,nx,live,fl⟩:=m
 generalize hr:decide (0≤i∧i<(l.length:Int))=r
 simp only[vV,List.map,go_sem,reduceCtorEq,G3,G0,G2]
 by_cases h:i≥0
 ·simp only[go_sem,reduceCtorEq,G0,G2,h,hx.len]
  rw[z6 rfl rfl,z8]
  exact⟨⟨_,rfl⟩,by rw[←hr];exact Ui (by omega)⟩
 ·simp only[go_sem,reduceCtorEq,G0,G2,h]
  rw[z6 rfl rfl,z8]
  exact⟨⟨_,rfl⟩,by rw[←hr];exact UW (by omega)⟩
theorem XK (x:DInstr) (m:Mem):Okv tab uS [.agg [.int .u8 x.op,.int .i64 x.a,.int .i64 x.b,.int .i64 x.c]] m (.int .i64 (called x)):=by
 refine zh Qk ?_
 obtain⟨stk,cur,nx,live,fl⟩:=m
 simp only[jW,List.map,go_sem,reduceCtorEq,G3,G0,G2]
 repeat' (((first|refine zD ?_ ?_|refine zq ?_ ?_|refine zr ?_ ?_|refine zo ?_ ?_|refine zp ?_ ?_)<;>intro hq)<;>simp only[go_sem,reduceCtorEq,G0,G2,hq])
 all_goals
  rw[z6 rfl rfl,z8]
  refine⟨⟨_,rfl⟩,?_⟩
  unfold called
  simp only[beq_iff_eq,beq_eq_false_iff_ne,ne_eq] at*
  simp[*]
theorem Q1 (d:DImage) (f:DFunc) (y:AV) (hy:NV d f y) (s:Int) (m:Mem):Okv tab zl [y,.int .i64 s] m (.int .i64 (slotT f s)):=by
 obtain⟨ty,tx,fs,w0,w1,w2,w3,rfl,h0,h1,h2,h3,h4,h5,h6⟩:=hy
 refine zh YX ?_
 obtain⟨stk,cur,nx,live,fl⟩:=m
 simp only[vW,List.map,go_sem,reduceCtorEq,G3,G0,G2,(tq _ _ h3 _ _).eq]
 by_cases h:0≤s∧s<f.slots.length
 ·obtain⟨k,rfl⟩: ∃k:Nat,s=k:=⟨s.toNat,by omega⟩
  have hk:k<f.slots.length:=by omega
  have hd:decide ((0:Int)≤k∧(k:Int)<f.slots.length)=true:=by simpa using h
  simp only[go_sem,reduceCtorEq,G3,G0,G2,hd,h3.at _ hk,h3.fdA hk]
  rw[z6 rfl rfl,z8]
  exact⟨⟨_,rfl⟩,by unfold slotT;rw[if_pos h]⟩
 ·simp only[go_sem,reduceCtorEq,G0,G2,h]
  rw[z6 rfl rfl,z8]
  exact⟨⟨_,rfl⟩,by unfold slotT;rw[if_neg h]⟩
theorem z5m (l:List Int) (x:AV) (hx:IsSl (IsK .u8) 1 l x) (v:Int) (m:Mem):Ok tab xi [x,.int .u8 v] m (fun r=> ∃i,r= .int .i64 i∧(0≤i↔v∈l)):=by
 refine z6S jz ?_
 obtain⟨stk,cur,nx,live,fl⟩:=m
 simp only[xg,List.map,go_sem,reduceCtorEq,G3,G0,G2,hx.len]
 refine zc (α:=Nat) (fun k σ=>(k≤l.length∧v∉l.take k)∧ ∃nz,heads [0,1,7,8] 0 σ=⟨tmps 19 [(0,x),(1,.int .u8 v),(7,.int .i64 l.length),(8,.int .i64 k)],⟨stk++[cur],[],nz,[]::live,fl⟩⟩) (fun k=>l.length-k) 0 ?_ ?_
 ·refine⟨⟨w0c _,by simp⟩,?_⟩
  simp only[go_sem,reduceCtorEq,G0,G1]
  exact⟨_,rfl⟩
 ·rintro k σ ⟨⟨hk,hv⟩,nz,hσ⟩
  rw[hσ]
  clear hσ σ
  dsimp only at hk hv⊢
  by_cases h:k<l.length
  ·have e1:nth x k= .int .u8 l[k]:=hx.nth h
   have hat:=hx.at .i64 h
   have hsucc:=zb h hx.max
   by_cases hq:v=l[k]
   ·have hq':(v==l[k])=true:=by simpa using hq
    simp only[go_sem,reduceCtorEq,G0,G1,G2,w03,h,hat,e1,hq']
    rw[z6 rfl rfl,z8]
    exact⟨⟨_,rfl⟩,_,rfl,⟨fun _=>hq▸w07 h,fun _=>by omega⟩⟩
   ·have hq':(v==l[k])=false:=by simpa using hq
    simp only[go_sem,reduceCtorEq,G0,G1,G2,w03,h,hat,e1,hq',hsucc]
    refine⟨k+1,by omega,⟨h,?_⟩,_,rfl⟩
    rw[w15 h]
    simp only[w08,w13,not_or];exact⟨hv,hq⟩
  ·have:k=l.length:=by omega
   subst this
   rw[w0a] at hv
   simp only[go_sem,reduceCtorEq,G0,G1,G2,w03,h]
   rw[z6 rfl rfl,z8]
   exact⟨⟨_,rfl⟩,_,rfl,⟨fun h=>absurd h (by decide),fun h=>absurd h hv⟩⟩
theorem z0K (l:List Int) (x:AV) (hx:IsSl (IsK .u8) 1 l x) (v:Int) (m:Mem):Okv tab yT [x,.int .u8 v] m (.bool (decide (v∈l))):=by
 refine zh qO ?_
 obtain⟨stk,cur,nx,live,fl⟩:=m
 simp only[yR,List.map,go_sem,reduceCtorEq,G3,G0,G2]
 refine(z5m l x hx v _).xv fun y n ⟨i,hy,hi⟩=> ?_
 subst hy
 simp only[go_sem,reduceCtorEq,G0,G2]
 rw[z6 rfl rfl,z8]
 exact⟨⟨_,rfl⟩,Ui hi⟩
theorem isL1 (a:Int) (tk:Tok):IsSl (IsK .u8) 1 [a] (.list 1 tk [.int .u8 a]):= .mk ⟨rfl,trivial⟩ (by simp)
theorem isL2 (a b:Int) (tk:Tok):IsSl (IsK .u8) 1 [a,b] (.list 1 tk [.int .u8 a,.int .u8 b]):= .mk ⟨rfl,rfl,trivial⟩ (by simp)
theorem isL3 (a b c:Int) (tk:Tok):IsSl (IsK .u8) 1 [a,b,c] (.list 1 tk [.int .u8 a,.int .u8 b,.int .u8 c]):= .mk ⟨rfl,rfl,rfl,trivial⟩ (by simp)
def isT (d:DImage) (t:Int) (ks:List Int):Bool:=decide (0≤t∧kindI d.types t∈ks)
theorem z2m (d:DImage) (f:DFunc) (y:AV) (hy:NV d f y) (t:Int) (ht:t<d.types.length) (ks:List Int) (x:AV) (hx:IsSl (IsK .u8) 1 ks x) (m:Mem):Okv tab zt [y,.int .i64 t,x] m (.bool (isT d t ks)):=by
 obtain⟨ty,tx,fs,w0,w1,w2,w3,rfl,h0,h1,h2,h3,h4,h5,h6⟩:=hy
 refine zh V5 ?_
 obtain⟨stk,cur,nx,live,fl⟩:=m
 simp only[t6,List.map,go_sem,reduceCtorEq,G3,G0,G2]
 by_cases h:t≥0
 ·obtain⟨k,rfl⟩: ∃k:Nat,t=k:=⟨t.toNat,by omega⟩
  have hk:k<d.types.length:=by omega
  obtain⟨v0,e1,e2⟩:=h0.tyA hk
  simp only[go_sem,reduceCtorEq,G0,G2,h,h0.at _ hk,e1,(z0K _ _ hx _ _).eq]
  rw[z6 rfl rfl,z8]
  exact⟨⟨_,rfl⟩,by unfold isT kindI;rw[if_neg (by omega)];exact Ui ⟨fun h=>⟨by omega,h⟩,fun h=>h.2⟩⟩
 ·simp only[go_sem,reduceCtorEq,G0,G2,h]
  rw[z6 rfl rfl,z8]
  exact⟨⟨_,rfl⟩,by unfold isT;exact UW (fun h'=>h (by omega))⟩
theorem z2p (d:DImage) (f:DFunc) (y:AV) (hy:NV d f y) (t e:Int) (ht:t<d.types.length) (ks:List Int) (x:AV) (hx:IsSl (IsK .u8) 1 ks x) (m:Mem):Okv tab ye [y,.int .i64 t,.int .i64 e,x] m (.bool (isT d t ks&&decide ((tyA d.types t).elem=e))):=by
 have hy':=hy
 obtain⟨ty,tx,fs,w0,w1,w2,w3,rfl,h0,h1,h2,h3,h4,h5,h6⟩:=hy
 refine zh YZ ?_
 obtain⟨stk,cur,nx,live,fl⟩:=m
 simp only[vY,List.map,go_sem,reduceCtorEq,G3,G0,G2,(z2m d f _ hy' t ht ks x hx _).eq]
 by_cases h:isT d t ks=true
 ·have h':=h
  unfold isT at h'
  simp only[decide_eq_true_eq] at h'
  obtain⟨k,rfl⟩: ∃k:Nat,t=k:=⟨t.toNat,by omega⟩
  have hk:k<d.types.length:=by omega
  obtain⟨v0,e1,e2⟩:=h0.tyA hk
  simp only[go_sem,reduceCtorEq,G0,G2,h,h0.at _ hk,e1]
  rw[z6 rfl rfl,z8]
  exact⟨⟨_,rfl⟩,rfl⟩
 ·have h2:isT d t ks=false:=by simpa using h
  simp only[go_sem,reduceCtorEq,G0,G2,h2]
  rw[z6 rfl rfl,z8]
  exact⟨⟨_,rfl⟩,rfl⟩
def memB (d:DImage) (t k e:Int):Bool:=decide (0≤t∧kindI d.types t=5∧0≤k∧k<(tyA d.types t).fields.length∧(fdA (tyA d.types t).fields k).typ=e)
theorem WO (d:DImage) (f:DFunc) (y:AV) (hy:NV d f y) (t i e:Int) (ht:t<d.types.length) (m:Mem):Okv tab yX [y,.int .i64 t,.int .i64 i,.int .i64 e] m (.bool (memB d t i e)):=by
 have hy':=hy
 obtain⟨ty,tx,fs,w0,w1,w2,w3,rfl,h0,h1,h2,h3,h4,h5,h6⟩:=hy
 refine zh Zq ?_
 obtain⟨stk,cur,nx,live,fl⟩:=m
 simp only[vd,List.map,go_sem,reduceCtorEq,G3,G0,G2,(z2m d f _ hy' t ht [5] _ (isL1 5 _) _).eq]
 by_cases h:isT d t [5]=true
 ·have h':=h
  unfold isT at h'
  simp only[decide_eq_true_eq,w13] at h'
  obtain⟨k,rfl⟩: ∃k:Nat,t=k:=⟨t.toNat,by omega⟩
  have hk:k<d.types.length:=by omega
  obtain⟨v0,e1,e2⟩:=h0.tyA hk
  simp only[go_sem,reduceCtorEq,G0,G2,h,h0.at _ hk,e1,(tq _ _ e2 _ _).eq]
  by_cases hi:0≤i∧i<(tyA d.types k).fields.length
  ·obtain⟨j,rfl⟩: ∃j:Nat,i=j:=⟨i.toNat,by omega⟩
   have hj:j<(tyA d.types k).fields.length:=by omega
   have hd:decide ((0:Int)≤j∧(j:Int)<(tyA d.types k).fields.length)=true:=by simpa using hi
   simp only[go_sem,reduceCtorEq,G0,G2,hd,h0.at _ hk,e1,e2.at _ hj,e2.fdA hj]
   rw[z6 rfl rfl,z8]
   refine⟨⟨_,rfl⟩,?_⟩
   unfold memB
   exact zcQ (by rw[beq_iff_eq];exact⟨fun q=>⟨h'.1,h'.2,hi.1,hi.2,q⟩,fun q=>q.2.2.2.2⟩)
  ·have hd:decide (0≤i∧i<(tyA d.types k).fields.length)=false:=by simpa using hi
   simp only[go_sem,reduceCtorEq,G0,G2,hd]
   rw[z6 rfl rfl,z8]
   exact⟨⟨_,rfl⟩,by unfold memB;exact UW (fun q=>hi ⟨q.2.2.1,q.2.2.2.1⟩)⟩
 ·have h2:isT d t [5]=false:=by simpa using h
  simp only[go_sem,reduceCtorEq,G0,G2,h2]
  rw[z6 rfl rfl,z8]
  exact⟨⟨_,rfl⟩,by unfold memB;exact UW (fun q=>h (by unfold isT;simpa using ⟨q.1,q.2.1⟩))⟩
abbrev IsI:Int→AV→Prop:=IsK .i64
def rdsk (x:DInstr) (k:Nat):List Int:=((List.range k).filter fun j=>rd (sk x j)&&decide (0≤opn x j)).map (opn x)
def wrsk (x:DInstr) (k:Nat):List Int:=((List.range k).filter fun j=>wt (sk x j)&&decide (0≤opn x j)).map (opn x)
def rds (x:DInstr):List Int:=rdsk x 3
def wrs (x:DInstr):List Int:=wrsk x 3
theorem z8Y {x:DInstr} {k:Nat} (h:rd (sk x k)=true) (h':0≤opn x k):rdsk x (k+1)=rdsk x k++[opn x k]:=by
 unfold rdsk;rw[List.range_succ,List.filter_append,w28];simp[h,h']
theorem z8Z {x:DInstr} {k:Nat} (h: ¬(rd (sk x k)=true∧0≤opn x k)):rdsk x (k+1)=rdsk x k:=by
 unfold rdsk;rw[List.range_succ,List.filter_append,w28];simp at h⊢;exact h
theorem z8A {x:DInstr} {k:Nat} (h:wt (sk x k)=true) (h':0≤opn x k):wrsk x (k+1)=wrsk x k++[opn x k]:=by
 unfold wrsk;rw[List.range_succ,List.filter_append,w28];simp[h,h']
theorem z8B {x:DInstr} {k:Nat} (h: ¬(wt (sk x k)=true∧0≤opn x k)):wrsk x (k+1)=wrsk x k:=by
 unfold wrsk;rw[List.range_succ,List.filter_append,w28];simp at h⊢;exact h
theorem Qs (x:DInstr) (k:Nat):(rdsk x k).length≤k:=by unfold rdsk;rw[w4e];exact Nat.le_trans (List.length_filter_le _ _) (by simp)
theorem TW (x:DInstr) (k:Nat):(wrsk x k).length≤k:=by unfold wrsk;rw[w4e];exact Nat.le_trans (List.length_filter_le _ _) (by simp)
theorem z6t (a:Int):All2 IsI [a] [.int .i64 a]:=⟨rfl,trivial⟩
theorem z96 {y1 y2:AV} {a b:List Int} {own:List Nat} {nx:Nat} (h:Own2 IsI 1 y1 a IsI 1 y2 b own nx) {r:AV} (hr: ∀t,t∈y1.toks∨t∈y2.toks→t∈r.toks):Own2 IsI 1 y1 a IsI 1 y2 b (own.filter fun t=>r.toks.contains t) nx:=by
 have key: ∀{y:AV} {xs:List Int},Own IsI 1 y xs own→(∀t∈y.toks,t∈r.toks)→Own IsI 1 y xs (own.filter fun t=>r.toks.contains t):=by
  intro y xs h k
  rcases h with h|⟨tk,ys,rfl,h2,h3|⟨t,h3,rfl⟩⟩
  ·exact .inl h
  ·exact .inr ⟨tk,ys,rfl,h2,.inl h3⟩
  ·exact .inr ⟨_,ys,rfl,h2,.inr ⟨t,w50.2 ⟨h3,by simpa using k t (by simp[AV.toks])⟩,rfl⟩⟩
 exact⟨key h.l fun t ht=>hr t (.inl ht),key h.r fun t ht=>hr t (.inr ht),h.dj,h.bl,h.br⟩
theorem cellR {x:DInstr} {a b c:UInt8} (hs:shp x.op=[a,b,c]) {k:Nat} (h:k<3):takeV false 1 (([.bool (rd a),.bool (wt a),.int .i64 (lo b),.int .i64 (hi b),.bool (rd b),.bool (wt b),.int .i64 (lo c),.int .i64 (hi c),.bool (rd c),.bool (wt c)]:List AV).drop (k*4))=some (.bool (rd (sk x k))):=by
 unfold sk;rw[hs]
 rcases three h with rfl|rfl|rfl<;>rfl
theorem cellW {x:DInstr} {a b c:UInt8} (hs:shp x.op=[a,b,c]) {k:Nat} (h:k<3):takeV false 1 (([.bool (wt a),.int .i64 (lo b),.int .i64 (hi b),.bool (rd b),.bool (wt b),.int .i64 (lo c),.int .i64 (hi c),.bool (rd c),.bool (wt c)]:List AV).drop (k*4))=some (.bool (wt (sk x k))):=by
 unfold sk;rw[hs]
 rcases three h with rfl|rfl|rfl<;>rfl
theorem z2q (x:DInstr) (hw:WfI x) (hx:InstrP x) (m:Mem) (hf:m.floor≤m.stk.length+1):OkT tab j0 [.agg [.int .u8 x.op,.int .i64 x.a,.int .i64 x.b,.int .i64 x.c]] m (fun r ts n=> ∃y1 y2,r= .tup [y1,y2,.int .i64 0]∧Own2 IsI 1 y1 (rds x) IsI 1 y2 (wrs x) ts n):=by
 refine UE z3O ?_
 obtain⟨stk,cur,nx,live,fl⟩:=m
 dsimp only at hf
 have hf':fl≤(stk++[cur]).length+1:=by simp;omega
 have hx':=hx
 obtain⟨a,b,c,hs,_⟩:=hx'
 have hS:=fun c nz lv=>(XI x.op ⟨stk++[cur],c,nz,lv,fl⟩ hf').eq
 have hC:=fun c nz lv=>(kj x ⟨stk++[cur],c,nz,lv,fl⟩ hf').eq
 rw[jL hx] at hC
 simp only[WI,List.map,go_sem,reduceCtorEq,G3,G0,G2,hC,show((0:Int) !=0)=false from rfl,hS,Qo hs,(jw x _).eq]
 refine zc (α:=Nat) (fun k σ=>k≤3∧ ∃nz st y1 y2 e,Own2 IsI 1 y1 (rdsk x k) IsI 1 y2 (wrsk x k) e nz∧heads [2,3,6,22,23] 2 σ=⟨tmps 54 [(2,y1),(3,y2),(6,.ptr (stk++[cur]).length 1 st 0),(22,.agg [.int .i64 x.a,.int .i64 x.b,.int .i64 x.c]),(23,.int .i64 k)],⟨stk++[cur],[⟨nx,[.int .u8 x.op,.int .i64 x.a,.int .i64 x.b,.int .i64 x.c]⟩,⟨st,[.int .i64 (lo a),.int .i64 (hi a),.bool (rd a),.bool (wt a),.int .i64 (lo b),.int .i64 (hi b),.bool (rd b),.bool (wt b),.int .i64 (lo c),.int .i64 (hi c),.bool (rd c),.bool (wt c)]⟩],nz,e::live,fl⟩⟩) (fun k=>3-k) 0 ?_ ?_
 ·refine⟨w0c _,?_⟩
  simp only[go_sem,reduceCtorEq,G0,G1]
  exact⟨_,_,_,_,[],.nil _ _,rfl⟩
 ·rintro k σ ⟨hk,nz,st,y1,y2,e,ho,hσ⟩
  rw[hσ]
  clear hσ σ
  dsimp only at hk⊢
  by_cases h:k<3
  ·have hix:idx (.int .i64 (k:Int)) 3=some k:=zS .i64 k 3 h
   have hc3:=cell3 x h
   have hcr:=cellR hs h
   have hcw:=cellW hs h
   have hlt3:((k:Int)<3)=True:=eq_true (by omega)
   have hsucc:IntKind.i64.wrap ((k:Int)+1)=((k+1:Nat):Int):=by rw[zd (by omega) (by omega)];omega
   have hl1:=Qs x k
   have hl2:=TW x k
   simp only[go_sem,G0,G1,G2,hlt3,hix,w19,hc3,evIaddrA,hcr]
   by_cases hr:rd (sk x k)=true∧0≤opn x k
   ·obtain⟨hr,hp⟩:=hr
    have hge:opn x k≥0:=hp
    simp only[go_sem,G0,G2,hr,hge]
    refine ho.xv1 (zi · 1 .full [.int .i64 (opn x k)]) (z6t _) (by simp;omega) fun y' n' e' ho'=> ?_
    simp only[go_sem,G0,G2,hix,evIaddrA,hcw]
    by_cases hwt:wt (sk x k)=true
    ·simp only[go_sem,G0,G2,hwt,hge]
     refine ho'.xv2 (zi · 1 .full [.int .i64 (opn x k)]) (z6t _) (by simp;omega) fun y2' n2 e2 ho2=> ?_
     simp only[go_sem,G0,G2,hsucc]
     refine⟨k+1,by omega,by omega,_,_,_,_,_,?_,rfl⟩
     rw[z8Y hr hp,z8A hwt hp];exact ho2
    ·have hwt':wt (sk x k)=false:=by simpa using hwt
     simp only[go_sem,G0,G2,hwt',hsucc]
     refine⟨k+1,by omega,by omega,_,_,_,_,_,?_,rfl⟩
     rw[z8Y hr hp,z8B (fun q=>hwt q.1)];exact ho'
   ·by_cases hwp:wt (sk x k)=true∧0≤opn x k
    ·obtain⟨hwt,hp⟩:=hwp
     have hge:opn x k≥0:=hp
     have hr':rd (sk x k)=false:=by
      cases hq:rd (sk x k) with
      |false=>rfl
      |true=>exact absurd ⟨hq,hp⟩ hr
     simp only[go_sem,G0,G2,hr',hix,evIaddrA,hcw,hwt,hge]
     refine ho.xv2 (zi · 1 .full [.int .i64 (opn x k)]) (z6t _) (by simp;omega) fun y2' n2 e2 ho2=> ?_
     simp only[go_sem,G0,G2,hsucc]
     refine⟨k+1,by omega,by omega,_,_,_,_,_,?_,rfl⟩
     rw[z8Z hr,z8A hwt hp];exact ho2
    ·repeat' (((first|refine zD ?_ ?_|refine zq ?_ ?_|refine zr ?_ ?_|refine zo ?_ ?_|refine zp ?_ ?_)<;>intro hq)<;>simp only[go_sem,G0,G2,hq,hix,evIaddrA,hcw,hsucc])
     all_goals first
      |(refine⟨k+1,by omega,by omega,_,_,_,_,_,?_,rfl⟩;rw[z8Z hr,z8B hwp];exact ho)
      |(exfalso;simp only[decide_eq_true_eq] at*;simp_all)
  ·have:k=3:=by omega
   subst this
   simp only[go_sem,G5,G0,G1,G2,show(((3:Nat):Int)<3)=False from eq_false (by decide)]
   refine yq ?_ ⟨y1,y2,rfl,z96 ho fun t ht=> ?_⟩
   ·simp only[AV.refs,refsAny,ho.l.refs,ho.r.refs];rfl
   ·simp only[AV.toks,toksAll,w08,List.not_mem_nil,or_false];exact ht
theorem z90 {x:DInstr}: ∀s∈rds x,0≤s:=by
 intro s h
 unfold rds rdsk at h
 simp only[w36,w50,w44,w0e,decide_eq_true_eq] at h
 obtain⟨k,⟨hk,h1,h2⟩,rfl⟩:=h
 exact h2
theorem zch {x:DInstr}: ∀s∈wrs x,0≤s:=by
 intro s h
 unfold wrs wrsk at h
 simp only[w36,w50,w44,w0e,decide_eq_true_eq] at h
 obtain⟨k,⟨hk,h1,h2⟩,rfl⟩:=h
 exact h2
def NearP (d:DImage) (f:DFunc) (x:DInstr):Prop:=(∀s∈rds x++wrs x,s<f.slots.length)∧called x<d.funcs.length∧(x.op=2→x.b<d.texts.length)
theorem zco {x:DInstr} (h:InstrP x) (e:x.op=2):0≤x.b:=by
 obtain⟨a,b,c,hs,f1,f2,f3⟩:=h
 rw[e] at hs
 have:shp 2=[119,116,45]:=by decide
 rw[this] at hs
 injection hs with _ hs
 injection hs with hs _
 subst hs
 have:lo 116=0:=by decide
 unfold fitsK at f2;omega
theorem zck (d:DImage) (f:DFunc) (y:AV) (hy:NV d f y) (x:DInstr) (hx:InstrP x) (hw:WfI x) (m:Mem) (hf:m.floor≤m.stk.length+1):
  Okv tab uc [y,.agg [.int .u8 x.op,.int .i64 x.a,.int .i64 x.b,.int .i64 x.c]] m (.int .i64 (if pb (NearP d f x) then 0 else 16)):=by
 obtain⟨ty,tx,fs,w0,w1,w2,w3,rfl,h0,h1,h2,h3,h4,h5,h6⟩:=hy
 refine zh YY ?_
 obtain⟨stk,cur,nx,live,fl⟩:=m
 dsimp only at hf
 have hf':fl≤(stk++[cur]).length+1:=by simp;omega
 simp only[vX,List.map,go_sem,reduceCtorEq,G3,G0,G2]
 refine(z2q x hw hx _ hf').xv fun r ts n1 ⟨y1,y2,hr,ho⟩=> ?_
 subst hr
 have hl1:=Qs x 3
 have hl2:=TW x 3
 have hlive: ∃e,pushToks ts ([]::live)=e::live∧Own2 IsI 1 y1 (rds x) IsI 1 y2 (wrs x) e n1:=by
  cases ts with
  |nil=>exact⟨[],rfl,ho⟩
  |cons t ts=>exact⟨_,rfl,by simpa using ho⟩
 obtain⟨e,he,ho⟩:=hlive
 simp only[he]
 simp only[go_sem,reduceCtorEq,G0,G2,show((0:Int) !=0)=false from rfl]
 obtain⟨z2,hz2,hc2⟩:=ho.r.elems
 refine ho.l.xv hz2 hc2 (by unfold rds wrs;omega) fun y3 n3 e3 ho3=> ?_
 have hy3:=ho3.sl (by rw[w05];unfold rds wrs;omega)
 have hlen3:(rds x++wrs x).length≤6:=by rw[w05];unfold rds wrs;omega
 have hnn: ∀s∈rds x++wrs x,0≤s:=fun s hs=>by
  rcases w08.1 hs with q|q
  ·exact z90 s q
  ·exact zch s q
 have hNP:NearP d f x↔(∀s∈rds x++wrs x,s<f.slots.length)∧called x<d.funcs.length∧(x.op=2→x.b<d.texts.length):=Iff.rfl
 generalize hL:rds x++wrs x=l at*
 simp only[go_sem,reduceCtorEq,G3,G0,G2,hy3.len]
 refine zc (α:=Nat) (fun k σ=>(k≤l.length∧ ∀j,(hj:j<k)→(hl:j<l.length)→l[j]<f.slots.length)∧ ∃nz e,heads [2,3,22,23,24] 2 σ=⟨tmps 57 [(2,.ptr (stk++[cur]).length 0 nx 0),(3,.ptr (stk++[cur]).length 1 (nx+1) 0),(22,y3),(23,.int .i64 l.length),(24,.int .i64 k)],⟨stk++[cur],[⟨nx,[ty,tx,fs,.str f.name,.int .i64 f.params,.int .i64 f.result,w0,w1,w2,w3]⟩,⟨nx+1,[.int .u8 x.op,.int .i64 x.a,.int .i64 x.b,.int .i64 x.c]⟩],nz,e::live,fl⟩⟩) (fun k=>l.length-k) 0 ?_ ?_
 ·refine⟨⟨w0c _,fun j h=>absurd h (w4f _)⟩,?_⟩
  simp only[go_sem,reduceCtorEq,G0,G1]
  exact⟨_,_,rfl⟩
 ·rintro k σ ⟨⟨hk,ht⟩,nz,e4,hσ⟩
  rw[hσ]
  clear hσ σ
  dsimp only at hk ht⊢
  by_cases h:k<l.length
  ·have e1:nth y3 k= .int .i64 l[k]:=hy3.nth h
   have hsucc:=zb h hy3.max
   have hnn':=hnn _ (w07 h)
   simp only[go_sem,G3,G0,G1,G2,w03,h,hy3.at _ h,e1,(tq _ _ h3 _ _).eq]
   by_cases hq:l[k]<f.slots.length
   ·have hd:decide (0≤l[k]∧l[k]<f.slots.length)=true:=decide_eq_true ⟨hnn',hq⟩
    simp only[go_sem,G0,G2,hd,hsucc]
    refine⟨k+1,by omega,⟨h,fun j hj hl=> ?_⟩,_,_,rfl⟩
    rcases w46 j k with q|q
    ·exact ht j q hl
    ·have:j=k:=by omega
     subst this;exact hq
   ·have hd:decide (0≤l[k]∧l[k]<f.slots.length)=false:=decide_eq_false fun q=>hq q.2
    simp only[go_sem,G0,G2,hd]
    rw[z6 rfl rfl,z8]
    refine⟨⟨_,rfl⟩,?_⟩
    rw[ze fun q=>hq ((hNP.1 q).1 _ (w07 h))];rfl
  ·have hke:k=l.length:=by omega
   subst hke
   have hall: ∀s∈l,s<f.slots.length:=fun s hs=>by
    obtain⟨j,hj,rfl⟩:=List.mem_iff_getElem.1 hs
    exact ht j hj hj
   simp only[go_sem,G3,G0,G1,G2,w03,h,(XK x _).eq,h2.len]
   by_cases hcl:called x≥d.funcs.length
   ·simp only[go_sem,G0,G2,hcl]
    rw[z6 rfl rfl,z8]
    refine⟨⟨_,rfl⟩,?_⟩
    rw[ze fun q=>by have:=(hNP.1 q).2.1;omega];rfl
   ·by_cases h2o:x.op=2
    ·have h2b:(x.op==2)=true:=by simpa using h2o
     have hnn2:=zco hx h2o
     by_cases hb:x.b<d.texts.length
     ·have hd:decide (0≤x.b∧x.b<d.texts.length)=true:=decide_eq_true ⟨hnn2,hb⟩
      simp only[go_sem,G0,G2,hcl,h2b,(Yy _ _ h1 _ _).eq,hd]
      rw[z6 rfl rfl,z8]
      refine⟨⟨_,rfl⟩,?_⟩
      rw[zB (hNP.2 ⟨hall,by omega,fun _=>hb⟩)];rfl
     ·have hd:decide (0≤x.b∧x.b<d.texts.length)=false:=decide_eq_false fun q=>hb q.2
      simp only[go_sem,G0,G2,hcl,h2b,(Yy _ _ h1 _ _).eq,hd]
      rw[z6 rfl rfl,z8]
      refine⟨⟨_,rfl⟩,?_⟩
      rw[ze fun q=>hb ((hNP.1 q).2.2 h2o)];rfl
    ·have h2b:(x.op==2)=false:=by simpa using h2o
     simp only[go_sem,G0,G2,hcl,h2b]
     rw[z6 rfl rfl,z8]
     refine⟨⟨_,rfl⟩,?_⟩
     rw[zB (hNP.2 ⟨hall,by omega,fun q=>absurd q h2o⟩)];rfl
def fn00:DFunc:=⟨[],0,0,[],[],[],[]⟩
def fnA (l:List DFunc) (k:Nat):DFunc:=l.getD k fn00
theorem kq {l:List DFunc} {j:Nat} (h:j<l.length):l[j]=fnA l j:=by simp[fnA,w02,h]
theorem _root_.Go.Vs.IsSl.fnA {l:List DFunc} {x:AV} (hx:IsSl IsFunc 7 l x) {j:Nat} (h:j<l.length): ∃w0 w1 w2 w3,Vs.nth x j= .agg [.str (fnA l j).name,.int .i64 (fnA l j).params,.int .i64 (fnA l j).result,w0,w1,w2,w3]∧
  IsSl IsField 2 (fnA l j).slots w0∧IsSl IsInstr 4 (fnA l j).code w1∧IsSl IsRun 2 (fnA l j).sizes w2∧IsSl IsRun 2 (fnA l j).lives w3:=by
 rw[←kq h];exact hx.nth h
def great04 (l:List DTyp):Bool:=decide (40<l.length)||l.any fun t=>decide (20<t.fields.length)||t.fields.any fun f=>decide (100<f.name.length)
theorem YC (xs:List DTyp) (x:AV) (hx:IsSl IsTyp 4 xs x) (m:Mem):Okv tab u7 [x] m (.bool (great04 xs)):=by
 refine zh YP ?_
 obtain⟨stk,cur,nx,live,fl⟩:=m
 simp only[vQ,List.map,go_sem,reduceCtorEq,G0,G2,hx.len]
 by_cases h40:(xs.length:Int)>40
 ·simp only[go_sem,reduceCtorEq,G0,G2,h40]
  rw[z6 rfl rfl,z8]
  exact⟨⟨_,rfl⟩,by simp[great04,show 40<xs.length by omega]⟩
 ·simp only[go_sem,h40]
  refine zc (α:=Nat) (fun i σ=>(i≤xs.length∧ ∀t∈xs.take i,(decide (20<t.fields.length)||t.fields.any fun f=>decide (100<f.name.length))=false)∧heads [0,3] 0 σ=⟨tmps 42 [(0,x),(3,.int .i64 i)],⟨stk++[cur],[],nx,[]::live,fl⟩⟩) (fun i=>xs.length-i) 0 ?_ ?_
  ·refine⟨⟨w0c _,by simp⟩,?_⟩
   simp only[go_sem,reduceCtorEq,G0,G1]
   rfl
  ·rintro i σ ⟨⟨hi,hs⟩,hσ⟩
   rw[hσ]
   dsimp only at hi hs⊢
   by_cases h:i<xs.length
   ·obtain⟨v,e1,e2⟩:=hx.nth h
    have hany: ∀(hb:(decide (20<xs[i].fields.length)||xs[i].fields.any fun f=>decide (100<f.name.length))=true),great04 xs=true:=fun hb=>by
     have:(xs.any fun t=>decide (20<t.fields.length)||t.fields.any fun f=>decide (100<f.name.length))=true:=List.any_eq_true.2 ⟨xs[i],w07 h,hb⟩
     simp only[great04,this,Bool.or_true]
    by_cases h20:(xs[i].fields.length:Int)>20
    ·simp only[go_sem,reduceCtorEq,G0,G1,G2,w03,h,hx.len,hx.at _ h,e1,e2.len,h20]
     rw[z6 rfl rfl,z8]
     exact⟨⟨_,rfl⟩,by rw[hany (by simp[show 20<xs[i].fields.length by omega])]⟩
    ·simp only[go_sem,reduceCtorEq,G0,G1,G2,w03,h,hx.len,hx.at _ h,e1,e2.len,h20]
     refine zc (α:=Nat) (fun k σ=>(k≤xs[i].fields.length∧ ∀f∈xs[i].fields.take k,f.name.length≤100)∧heads [0,3,4] 0 σ=⟨tmps 42 [(0,x),(3,.int .i64 i),(4,.int .i64 k)],⟨stk++[cur],[],nx,[]::live,fl⟩⟩) (fun k=>xs[i].fields.length-k) 0 ?_ ?_
     ·refine⟨⟨w0c _,by simp⟩,?_⟩
      simp only[go_sem,reduceCtorEq,G0,G1]
      rfl
     ·rintro k σ ⟨⟨hk,hks⟩,hσ⟩
      rw[hσ]
      dsimp only at hk hks⊢
      by_cases hkl:k<xs[i].fields.length
      ·have e3:nth v k= .agg [.str xs[i].fields[k].name,.int .i64 xs[i].fields[k].typ]:=e2.nth hkl
       by_cases hn:(xs[i].fields[k].name.length:Int)>100
       ·simp only[go_sem,reduceCtorEq,G0,G1,G2,w03,hx.at _ h,e1,e2.len,hkl,e2.at _ hkl,e3,hn]
        rw[z6 rfl rfl,z8]
        refine⟨⟨_,rfl⟩,?_⟩
        rw[hany]
        have:(xs[i].fields.any fun f=>decide (100<f.name.length))=true:=List.any_eq_true.2 ⟨_,w07 hkl,by simp;omega⟩
        rw[this,Bool.or_true]
       ·simp only[go_sem,reduceCtorEq,G0,G1,G2,w03,hx.at _ h,e1,e2.len,hkl,e2.at _ hkl,e3,hn,zb hkl e2.max]
        exact⟨k+1,by omega,⟨hkl,zj (P:=fun f=>f.name.length≤100) hkl hks (by omega)⟩,rfl⟩
      ·have:k=xs[i].fields.length:=by omega
       subst this
       rw[w0a] at hks
       simp only[go_sem,reduceCtorEq,G0,G1,G2,w03,hx.at _ h,e1,e2.len,hkl,zb h hx.max]
       refine⟨i+1,by omega,⟨h,zj (P:=fun t=>(decide (20<t.fields.length)||t.fields.any fun f=>decide (100<f.name.length))=false) h hs ?_⟩,rfl⟩
       have:(xs[i].fields.any fun f=>decide (100<f.name.length))=false:=List.any_eq_false.2 fun f hf=>by simpa using hks f hf
       rw[this,Bool.or_false]
       simp;omega
   ·have:i=xs.length:=by omega
    subst this
    rw[w0a] at hs
    simp only[go_sem,reduceCtorEq,G0,G1,G2,w03,h,hx.len]
    rw[z6 rfl rfl,z8]
    refine⟨⟨_,rfl⟩,?_⟩
    have:(xs.any fun t=>decide (20<t.fields.length)||t.fields.any fun f=>decide (100<f.name.length))=false:=List.any_eq_false.2 fun t ht=>by rw[hs t ht];simp
    simp only[great04,this,Bool.or_false]
    congr 1
    simp;omega
def greatF (f:DFunc):Bool:=decide (100<f.name.length)||decide (20<f.slots.length)||decide (210<f.code.length)||decide (210<f.sizes.length)||decide (210<f.lives.length)||f.slots.any fun s=>decide (100<s.name.length)
def sumCode (l:List DFunc):Nat:=(l.map fun f=>f.code.length).sum
theorem z2H (l:List DFunc) (i:Nat) (h:i<l.length):sumCode (l.take (i+1))=sumCode (l.take i)+l[i].code.length:=by
 unfold sumCode
 rw[w15 h,w28,List.sum_append];rfl
theorem TD (l:List DFunc) (i:Nat):sumCode (l.take i)≤sumCode l:=by
 have:sumCode l=sumCode (l.take i)+sumCode (l.drop i):=by
  conv=>lhs;rw[←List.take_append_drop i l]
  unfold sumCode
  rw[w28,List.sum_append]
 omega
def great09 (m:DImage):Bool:=great04 m.types||decide (40<m.texts.length)||decide (40<m.funcs.length)||m.texts.any (fun t=>decide (100<t.length))||m.funcs.any greatF||decide (1000<sumCode m.funcs)
theorem YB (d:DImage) (x:AV) (hx:IsImage d x) (m:Mem):Okv tab xm [x] m (.bool (great09 d)):=by
 refine zh YE ?_
 obtain⟨stk,cur,nx,live,fl⟩:=m
 obtain⟨types,texts,funcs⟩:=d
 obtain⟨v0,v1,v2,rfl,h0,h1,h2⟩:=hx
 dsimp only at h0 h1 h2
 obtain⟨K,hK⟩:=Okv.all (YC _ _ h0)
 simp only[vH,List.map,go_sem,reduceCtorEq,G3,G0,G2,hK]
 have done: ∀{b c:Bool} {stk':List (List Blk)} {cur':List Blk} {k:Nat},b=c→((∃k',(⟨stk,cur,k,live,fl⟩:Mem)=(⟨stk,cur,nx,live,fl⟩:Mem).bump k')∧AV.bool b=AV.bool c):=fun h=>⟨⟨_,rfl⟩,by rw[h]⟩
 cases hg:great04 types
 case true=>
  simp only[go_sem,reduceCtorEq,G0,G2]
  rw[z6 rfl rfl,z8]
  exact⟨⟨_,rfl⟩,by simp[great09,hg]⟩
 by_cases ht:(texts.length:Int)>40
 ·simp only[go_sem,reduceCtorEq,G0,G2,h1.len,ht]
  rw[z6 rfl rfl,z8]
  exact⟨⟨_,rfl⟩,by simp[great09,show 40<texts.length by omega]⟩
 by_cases hf:(funcs.length:Int)>40
 ·simp only[go_sem,reduceCtorEq,G0,G2,h1.len,h2.len,ht,hf]
  rw[z6 rfl rfl,z8]
  exact⟨⟨_,rfl⟩,by simp[great09,show 40<funcs.length by omega]⟩
 simp only[go_sem,reduceCtorEq,G0,G2,h1.len,h2.len,ht,hf]
 refine zc (α:=Nat) (fun i σ=>(i≤texts.length∧ ∀t∈texts.take i,t.length≤100)∧heads [1,3] 1 σ=⟨tmps 101 [(1,.ptr (stk++[cur]).length 0 nx 0),(3,.int .i64 i)],⟨stk++[cur],[⟨nx,[v0,v1,v2]⟩],K ⟨stk++[cur],[⟨nx,[v0,v1,v2]⟩],nx+1,[]::live,fl⟩,[]::live,fl⟩⟩) (fun i=>texts.length-i) 0 ?_ ?_
 ·refine⟨⟨w0c _,by simp⟩,?_⟩
  simp only[go_sem,reduceCtorEq,G0,G1]
  rfl
 ·rintro i σ ⟨⟨hi,hs⟩,hσ⟩
  rw[hσ]
  dsimp only at hi hs⊢
  by_cases h:i<texts.length
  ·have e1:nth v1 i= .str texts[i]:=h1.nth h
   by_cases hn:(texts[i].length:Int)>100
   ·simp only[go_sem,G0,G1,G2,w03,h,h1.len,h1.at _ h,e1,hn]
    rw[z6 rfl rfl,z8]
    have:texts.any (fun t=>decide (100<t.length))=true:=List.any_eq_true.2 ⟨_,w07 h,by simp;omega⟩
    exact⟨⟨_,rfl⟩,by simp only[great09,this,Bool.or_true,Bool.true_or]⟩
   ·simp only[go_sem,G0,G1,G2,w03,h,h1.len,h1.at _ h,e1,hn,zb h h1.max]
    exact⟨i+1,by omega,⟨h,zj (P:=fun t=>t.length≤100) h hs (by omega)⟩,rfl⟩
  ·have:i=texts.length:=by omega
   subst this
   rw[w0a] at hs
   have htx:texts.any (fun t=>decide (100<t.length))=false:=List.any_eq_false.2 fun t ht=>by simpa using hs t ht
   clear hσ σ
   simp only[go_sem,G0,G1,G2,w03,h,h1.len]
   refine zc (α:=Nat×Nat) (fun z σ=>(z.1≤funcs.length∧(∀f∈funcs.take z.1,greatF f=false)∧sumCode (funcs.take z.1)≤1000)∧heads [1,4,5] 1 σ=⟨tmps 101 [(1,.ptr (stk++[cur]).length 0 nx 0),(4,.int .i64 (sumCode (funcs.take z.1):Nat)),(5,.int .i64 z.1)],⟨stk++[cur],[⟨nx,[v0,v1,v2]⟩],z.2,[]::live,fl⟩⟩) (fun z=>funcs.length-z.1) (0,K ⟨stk++[cur],[⟨nx,[v0,v1,v2]⟩],nx+1,[]::live,fl⟩) ?_ ?_
   ·refine⟨⟨w0c _,by simp,by simp[sumCode]⟩,?_⟩
    simp only[go_sem,G0,G1,sumCode]
    rfl
   ·rintro⟨i,z⟩ σ ⟨⟨hi,hs,hsum⟩,hσ⟩
    rw[hσ]
    dsimp only at hi hs hsum⊢
    by_cases h:i<funcs.length
    ·obtain⟨w0,w1,w2,w3,e1,q0,q1,q2,q3⟩:=h2.nth h
     have hst:=z2H funcs i h
     have hany: ∀(hb:greatF funcs[i]=true),great09 ⟨types,texts,funcs⟩=true:=fun hb=>by
      have:funcs.any greatF=true:=List.any_eq_true.2 ⟨_,w07 h,hb⟩
      simp only[great09,this,Bool.or_true,Bool.true_or]
     have hcm:=q1.max
     simp only[go_sem,G3,G0,G1,G2,w03,h,h2.len,h2.at _ h,e1,q0.one,q1.one,q2.one,q3.one,q1.len]
     by_cases c1:(funcs[i].name.length:Int)>100
     ·simp only[go_sem,G0,G2,c1]
      rw[z6 rfl rfl,z8]
      exact⟨⟨_,rfl⟩,by rw[hany (by simp[greatF,show 100<funcs[i].name.length by omega])]⟩
     simp only[go_sem,G0,G2,c1,q0.len]
     by_cases c2:(funcs[i].slots.length:Int)>20
     ·simp only[go_sem,G0,G2,c2]
      rw[z6 rfl rfl,z8]
      exact⟨⟨_,rfl⟩,by rw[hany (by simp[greatF,show 20<funcs[i].slots.length by omega])]⟩
     simp only[go_sem,G0,G2,c2,q1.len]
     by_cases c3:(funcs[i].code.length:Int)>210
     ·simp only[go_sem,G0,G2,c3]
      rw[z6 rfl rfl,z8]
      exact⟨⟨_,rfl⟩,by rw[hany (by simp[greatF,show 210<funcs[i].code.length by omega])]⟩
     have ew:IntKind.i64.wrap ((sumCode (funcs.take i):Int)+funcs[i].code.length)=((sumCode (funcs.take (i+1)):Nat):Int):=by
      rw[zd (by omega) (by omega)];omega
     simp only[go_sem,G0,G2,c3,q2.len,ew]
     by_cases c4:(funcs[i].sizes.length:Int)>210
     ·simp only[go_sem,G0,G2,c4]
      rw[z6 rfl rfl,z8]
      exact⟨⟨_,rfl⟩,by rw[hany (by simp[greatF,show 210<funcs[i].sizes.length by omega])]⟩
     simp only[go_sem,G0,G2,c4,q3.len]
     by_cases c5:(funcs[i].lives.length:Int)>210
     ·simp only[go_sem,G0,G2,c5]
      rw[z6 rfl rfl,z8]
      exact⟨⟨_,rfl⟩,by rw[hany (by simp[greatF,show 210<funcs[i].lives.length by omega])]⟩
     simp only[go_sem,G0,G2,c5]
     by_cases c6:(sumCode (funcs.take (i+1)):Int)>1000
     ·simp only[go_sem,G0,G2,c6]
      rw[z6 rfl rfl,z8]
      have:=TD funcs (i+1)
      exact⟨⟨_,rfl⟩,by simp[great09,show 1000<sumCode funcs by omega]⟩
     simp only[go_sem,G3,c6]
     refine zc (α:=Nat) (fun k σ=>(k≤funcs[i].slots.length∧ ∀s∈funcs[i].slots.take k,s.name.length≤100)∧heads [1,4,5,6,7] 2 σ=⟨tmps 101 [(1,.ptr (stk++[cur]).length 0 nx 0),(4,.int .i64 (sumCode (funcs.take (i+1)):Nat)),(5,.int .i64 i),(6,.ptr (stk++[cur]).length 1 z 0),(7,.int .i64 k)],
      ⟨stk++[cur],[⟨nx,[v0,v1,v2]⟩,⟨z,[.str funcs[i].name,.int .i64 funcs[i].params,.int .i64 funcs[i].result,w0,w1,w2,w3]⟩],z+1,[]::live,fl⟩⟩) (fun k=>funcs[i].slots.length-k) 0 ?_ ?_
     ·refine⟨⟨w0c _,by simp⟩,?_⟩
      simp only[go_sem,G0,G1]
      rfl
     ·rintro k σ ⟨⟨hk,hks⟩,hσ⟩
      rw[hσ]
      dsimp only at hk hks⊢
      by_cases hkl:k<funcs[i].slots.length
      ·have e3:nth w0 k= .agg [.str funcs[i].slots[k].name,.int .i64 funcs[i].slots[k].typ]:=q0.nth hkl
       by_cases hn:(funcs[i].slots[k].name.length:Int)>100
       ·simp only[go_sem,G0,G1,G2,w03,q0.len,hkl,q0.at _ hkl,e3,hn]
        rw[z6 rfl rfl,z8]
        refine⟨⟨_,rfl⟩,?_⟩
        rw[hany]
        have:(funcs[i].slots.any fun s=>decide (100<s.name.length))=true:=List.any_eq_true.2 ⟨_,w07 hkl,by simp;omega⟩
        simp only[greatF,this,Bool.or_true]
       ·simp only[go_sem,G0,G1,G2,w03,q0.len,hkl,q0.at _ hkl,e3,hn,zb hkl q0.max]
        exact⟨k+1,by omega,⟨hkl,zj (P:=fun f=>f.name.length≤100) hkl hks (by omega)⟩,rfl⟩
      ·have:k=funcs[i].slots.length:=by omega
       subst this
       rw[w0a] at hks
       simp only[go_sem,G0,G1,G2,w03,q0.len,hkl,zb h h2.max]
       refine⟨(i+1,_),by dsimp only;omega,⟨h,zj (P:=fun f=>greatF f=false) h hs ?_,by dsimp only;omega⟩,rfl⟩
       have:(funcs[i].slots.any fun s=>decide (100<s.name.length))=false:=List.any_eq_false.2 fun f hf=>by simpa using hks f hf
       simp only[greatF,this,Bool.or_false]
       simp;omega
    ·have:i=funcs.length:=by omega
     subst this
     rw[w0a] at hs hsum
     simp only[go_sem,G0,G1,G2,w03,h,h2.len]
     rw[z6 rfl rfl,z8]
     refine⟨⟨_,rfl⟩,?_⟩
     have:funcs.any greatF=false:=List.any_eq_false.2 fun f hf=>by rw[hs f hf];simp
     simp only[great09,hg,htx,this,Bool.or_false,Bool.false_or]
     congr 1
     simp;omega
theorem tL {α:Type} {R:α→AV→Prop} {s bytes:Nat} {stk:List (List Blk)} {cur:List Blk} {nx fl:Nat} {e:List Nat} {rest:List (List Nat)} {xs:List α} {z:AV} (hz:IsSl R s xs z) (hl:xs.length*bytes≤140737488355328):
  ∃y n e',evApp ⟨stk,cur,nx,e::rest,fl⟩ s bytes (.list s .full []) z=some (y,⟨stk,cur,n,e'::rest,fl⟩)∧IsSl R s xs y∧ ∀t∈e,t∈e':=by
 obtain⟨zs,h1,h2⟩:=hz.elems_any
 have ho:Own R s (.list s .full []) ([]:List α) (Mem.live ⟨stk,cur,nx,e::rest,fl⟩).flatten:=Own.full (show All2 R [] [] from trivial) _
 have hmx:=hz.max
 rcases ho.app (m:=⟨stk,cur,nx,e::rest,fl⟩) (h1 _) h2 (by simpa using hl) with⟨hcs,q⟩|⟨ys,q,eq⟩|⟨t,ys,q0,hy,_,q,eq⟩
 ·subst hcs;exact⟨_,_,_,q,.mk (show All2 R [] [] from trivial) (by simp),fun t h=>h⟩
 ·exact⟨_,_,_,eq,.mk q hmx,fun t h=>w1c _ h⟩
 ·cases hy
theorem z8I (l:List DTyp) (x:AV) (hx:IsSl IsTyp 4 l x) (hs:l.length≤1000∧ ∀t∈l,t.fields.length≤1000) (m:Mem):Okl IsTyp 4 tab uM [x] m l:=by
 refine qt XZ ?_
 obtain⟨stk,cur,nx,live,fl⟩:=m
 simp only[uD,List.map,go_sem]
 refine zc (α:=Nat) (fun k σ=>k≤l.length∧ ∃nz y e,Own IsTyp 4 y (l.take k) e∧heads [0,3,4] 0 σ=⟨tmps 29 [(0,x),(3,y),(4,.int .i64 k)],⟨stk++[cur],[],nz,e::live,fl⟩⟩) (fun k=>l.length-k) 0 ?_ ?_
 ·refine⟨w0c _,?_⟩
  simp only[go_sem,reduceCtorEq,G0,G1]
  exact⟨_,_,[],.nil _,rfl⟩
 ·rintro k σ ⟨hk,nz,y,e,ho,hσ⟩
  rw[hσ]
  clear hσ σ
  dsimp only at hk⊢
  by_cases h:k<l.length
  ·have hsucc:=zb h hx.max
   obtain⟨v0,e1,e2⟩:=hx.nth h
   have hat:=hx.at .i64 h
   have htk:=w15 h
   have hfl:=hs.2 _ (w07 h)
   have hkl:(l.take k).length=k:=by rw[w21];omega
   simp only[go_sem,reduceCtorEq,G3,G0,G1,G2,hx.len,w03,h,hat,e1,e2.one]
   obtain⟨y',n',e',ha,hy',hm⟩:=tL (stk:=stk++[cur]) (cur:=[⟨nz,[.int .u8 l[k].kind,.int .i64 l[k].elem,.int .i64 l[k].len,v0]⟩]) (nx:=nz+1) (fl:=fl) (e:=e) (rest:=live) (bytes:=24) e2 (by omega)
   simp only[go_sem,reduceCtorEq,G3,G0,G2,ha,hy'.one,hy'.refs_cells]
   have ho':=ho.mono hm
   refine ho'.xv (cs:=[l[k]]) (zi · 4 .full [.agg [.int .u8 l[k].kind,.int .i64 l[k].elem,.int .i64 l[k].len,y']]) (show All2 IsTyp [l[k]] [.agg [.int .u8 l[k].kind,.int .i64 l[k].elem,.int .i64 l[k].len,y']] from⟨⟨y',rfl,hy'⟩,trivial⟩) (by rw[hkl,w25];omega) fun y2 n2 e2 ho2=> ?_
   simp only[go_sem,reduceCtorEq,G0,G2,hsucc]
   exact⟨k+1,by omega,h,n2,y2,e2,by rw[htk];exact ho2,rfl⟩
  ·have:k=l.length:=by omega
   subst this
   rw[w0a] at ho
   simp only[go_sem,reduceCtorEq,G0,G1,G2,hx.len,w03,h]
   exact ue ho
structure SmallI (d:DImage):Prop where
 t:d.types.length≤1000∧ ∀t∈d.types,t.fields.length≤1000
 x:d.texts.length≤1000
 f:d.funcs.length≤1000∧ ∀f∈d.funcs,f.slots.length≤1000∧f.code.length≤1000∧f.sizes.length≤1000∧f.lives.length≤1000
theorem SmallI.of {d:DImage} (h:great09 d=false):SmallI d:=by
 unfold great09 great04 greatF at h
 simp only[w4a,List.any_eq_false,decide_eq_false_iff_not,Bool.not_eq_true,Nat.not_lt] at h
 obtain⟨⟨⟨⟨⟨⟨h1,h2⟩,h3⟩,h4⟩,h5⟩,h6⟩,h7⟩:=h
 exact⟨⟨by omega,fun t ht=>by have:=(h2 t ht).1;omega⟩,by omega,by omega,fun f hf=>by have:=h6 f hf;omega⟩
end Go.Proofs.W
end
section
namespace Go.Vs
def rwC (stk:List (List Blk)) (cur:List Blk) (lv k st:Nat) (y:List AV):List (List Blk):=(stk++[cur]).modify lv fun f=>f.set k ⟨st,y⟩
section
variable {stk : List (List Blk)} {cur : List Blk} {lv k st : Nat} {y y' : List AV}
theorem z6N:(rwC stk cur lv k st y).length=(stk++[cur]).length:=by simp[rwC]
theorem z6O (h:lv≤stk.length) (hk:k<((stk++[cur]).getD lv []).length):((rwC stk cur lv k st y).getD lv [])[k]? =some ⟨st,y⟩:=by
 have hl:lv<(stk++[cur]).length:=by simp;omega
 unfold rwC
 simp only[w02,w34] at hk⊢
 rw[w10 hl] at hk⊢
 simp only[if_true,Option.map_eq_map,w0d,w2a] at hk⊢
 simp[hk]
theorem z6M:(rwC stk cur lv k st y).modify lv (fun f=>f.set k ⟨st,y'⟩)=rwC stk cur lv k st y':=by
 unfold rwC
 apply w2b
 intro j
 simp only[w34]
 cases (stk++[cur])[j]? with
 |none=>simp
 |some f=>
  by_cases e:lv=j
  ·simp[e,List.set_set]
  ·simp[e]
theorem z8W (h:((stk++[cur]).getD lv [])[k]? =some ⟨st,y⟩):stk++[cur]=rwC stk cur lv k st y:=by
 unfold rwC
 apply w2b
 intro j
 simp only[w34]
 by_cases e:lv=j
 ·subst e
  simp only[w02] at h
  cases hq:(stk++[cur])[lv]? with
  |none=>rfl
  |some f=>
   rw[hq] at h
   simp only[w2a] at h
   simp only[if_true,Option.map_eq_map,w0d,Option.some.injEq]
   apply w2b
   intro q
   rw[w2c]
   by_cases e2:k=q
   ·subst e2
    obtain⟨hkf,hke⟩:=w06.1 h
    simp[hkf,hke]
   ·simp[e2]
 ·simp[e]
def wroteC (m:Mem) (lv k st:Nat) (y:List AV) (n:Nat) (l:List (List Nat)):Mem:={m.put lv k st y with nx:=n,live:=l}
theorem TX {nx fl n:Nat} {live l:List (List Nat)}:wroteC ⟨stk,cur,nx,live,fl⟩ stk.length k st y' n l=⟨stk,cur.set k ⟨st,y'⟩,n,l,fl⟩:=by
 unfold wroteC Mem.put
 rw[if_pos (by simp)]
theorem ZA {m0:Mem} {c':List Blk} {nx' fl':Nat} {own:List Nat} {live':List (List Nat)} {r:AV} (hlv:lv≤stk.length) (h1:r.refs (stk++[cur]).length=false) (h2:r.toks=[]) (nx:Nat) (live:List (List Nat)):
  leave m0 ⟨rwC stk cur lv k st y,c',nx',own::live',fl'⟩ r=some (r,wroteC ⟨stk,cur,nx,live,m0.floor⟩ lv k st y nx' live'):=by
 unfold wroteC
 by_cases e:lv=stk.length
 ·have:rwC stk cur lv k st y=stk++[cur.set k ⟨st,y⟩]:=by
   unfold rwC;subst e
   rw[w47 (by simp)];simp
  rw[this,yK (by simpa using h1) h2]
  unfold Mem.put
  simp[e]
 ·have:rwC stk cur lv k st y=(stk.modify lv fun f=>f.set k ⟨st,y⟩)++[cur]:=by
   unfold rwC
   apply w2b
   intro j
   simp only[w34]
   by_cases hj:j<stk.length
   ·rw[w09 hj,w09 (by simpa using hj),w34]
   ·rw[w14 (by omega),w14 (by simp;omega),List.length_modify]
    cases [cur][j-stk.length]? with
    |none=>rfl
    |some z=>simp[show¬lv=j by omega]
  rw[this,yK (by simpa using h1) h2]
  unfold Mem.put
  simp[e]
end
theorem tX {S:List (List Blk)} {C:List Blk} {nx fl:Nat} {live:List (List Nat)} {lv k st:Nat} {cs:List AV} (h:Mem.blk ⟨S,C,nx,live,fl⟩ lv k st=some cs) (hlv:lv≤S.length):((S++[C]).getD lv [])[k]? =some ⟨st,cs⟩:=by
 unfold Mem.blk at h
 split at h
 ·rename_i b hb
  split at h
  ·rename_i e
   injection h with h
   have hb':b=⟨st,cs⟩:=by rw[←h,←eq_of_beq e]
   subst hb'
   unfold Mem.row at hb
   by_cases e:lv=S.length
   ·subst e;simpa using hb
   ·simp only at hb
    rw[if_neg (by simpa using e)] at hb
    simp only[w02] at hb⊢
    rw[w09 (by omega)];exact hb
  ·cases h
 ·cases h
theorem VM {S:List (List Blk)} {C c:List Blk} {nx fl n L k st:Nat} {live l:List (List Nat)} {y:List AV} (h:L≤S.length):wroteC ⟨S++[C],c,nx,live,fl⟩ L k st y n l=⟨rwC S C L k st y,c,n,l,fl⟩:=by
 unfold wroteC Mem.put rwC
 rw[if_neg (by simp;omega)]
theorem zab {S:List (List Blk)} {C:List Blk} {nx fl:Nat} {live:List (List Nat)} {lv k st:Nat} {cs:List AV} (h:Mem.blk ⟨S,C,nx,live,fl⟩ lv k st=some cs) (hlv:lv≤S.length):k<((S++[C]).getD lv []).length:=
 (w06.1 (tX h hlv)).1
theorem ZN {S:List (List Blk)} {C c:List Blk} {nx fl nx' fl':Nat} {live live':List (List Nat)} {lv k st:Nat} {cs:List AV} (h:Mem.blk ⟨S,C,nx,live,fl⟩ lv k st=some cs) (hlv:lv≤S.length):Mem.blk ⟨S++[C],c,nx',live',fl'⟩ lv k st=some cs:=by
 have h1:=tX h hlv
 unfold Mem.blk Mem.row
 simp only
 rw[if_neg (by simp;omega),h1]
 simp
end Go.Vs
end
section
namespace Go.Proofs.W
open Go.Vs
set_option linter.unusedSimpArgs false
set_option maxRecDepth 100000
def CallB (f:Nat) (args:List AV) (m:Mem) (Q:AV→List Blk→Prop):Prop:=
 ∃y bs k ts,CALL tab f args m=some (y,{m with cur:=m.cur++bs,nx:=k,live:=pushToks ts m.live})∧Q y (m.cur++bs)
theorem zaa {f:Nat} {a:AFunc} (h:tab f=some a) {args:List AV} {m:Mem} {Q:AV→List Blk→Prop} (hx:X tab a.body (mk a.ntmps (.tup []) (numb 0 args)) (enter m) (.fin a.res m fun v m'=> ∃bs k ts,m'={m with cur:=m.cur++bs,nx:=k,live:=pushToks ts m.live}∧Q v (m.cur++bs))) (hn:args.length≤a.ntmps:=by exact Nat.le_of_ble_eq_true rfl):
  CallB f args m Q:=by
 obtain⟨x,h1,bs,k,ts,h2,h3⟩:=zV h hx hn;exact⟨x.1,bs,k,ts,by rw[h1,←h2],h3⟩
theorem CallB.xv {f:Nat} {args:List AV} {m:Mem} {Q:AV→List Blk→Prop} {ρ:List AV} {k:Kont} {l:List AOper} {d:Option Nat} (h:CallB f args m Q) (q: ∀y bs n ts,Q y (m.cur++bs)→Xs tab l (setDst ρ d y) {m with cur:=m.cur++bs,nx:=n,live:=pushToks ts m.live} k):Xv tab (CALL tab f args m) d l ρ k:=by
 obtain⟨y,bs,n,ts,h1,h2⟩:=h
 rw[h1,uU];exact q y bs n ts h2
def Pln (c:AV):Prop:=c.one=true∧(∀a b k,c.shift a b k=c)∧ ∀n m,frzV n m c=some (c,m)
theorem zaY (s:List UInt8):Pln (.str s):=⟨rfl,fun _ _ _=>rfl,fun n m=>by cases n<;>rfl⟩
theorem z6P (k:IntKind) (z:Int):Pln (.int k z):=⟨rfl,fun _ _ _=>rfl,fun n m=>by cases n<;>rfl⟩
theorem W9 {α:Type} {R:α→AV→Prop} {s:Nat} {xs:List α} {y:AV} (h:IsSl R s xs y):Pln y:=by
 rcases h with⟨_,⟨rfl,rfl⟩|⟨tk,ys,rfl,h⟩⟩
 ·exact⟨rfl,fun _ _ _=>rfl,fun n m=>by cases n<;>rfl⟩
 ·exact⟨rfl,fun _ _ _=>rfl,fun n m=>by cases n<;>rfl⟩
theorem z4a: ∀{cs:List AV},(∀c∈cs,Pln c)→allOne cs=true
 | [],_=>rfl
 |c::r,h=>by simp only[allOne,(h c w1b).1,z4a fun x hx=>h x (w1c _ hx),Bool.and_self]
theorem Qt (a b k:Nat): ∀{cs:List AV},(∀c∈cs,Pln c)→shiftAll a b k cs=cs
 | [],_=>rfl
 |c::r,h=>by simp only[shiftAll,(h c w1b).2.1,Qt a b k fun x hx=>h x (w1c _ hx)]
theorem z4b (n:Nat) (m:Mem): ∀{cs:List AV},(∀c∈cs,Pln c)→frzL (frzV n) m cs=some (cs,m)
 | [],_=>rfl
 |c::r,h=>by simp only[frzL,(h c w1b).2.2 n m,w29,z4b n m fun x hx=>h x (w1c _ hx),w0d]
theorem z9S {f:DFunc} {y:AV} (h:IsFunc f y): ∃cs,y= .agg cs∧cs.length=7∧ ∀c∈cs,Pln c:=by
 obtain⟨v0,v1,v2,v3,rfl,h0,h1,h2,h3⟩:=h
 refine⟨_,rfl,rfl,fun c hc=> ?_⟩
 simp only[w35,List.not_mem_nil,or_false] at hc
 rcases hc with rfl|rfl|rfl|rfl|rfl|rfl|rfl
 ·exact zaY _
 ·exact z6P _ _
 ·exact z6P _ _
 ·exact W9 h0
 ·exact W9 h1
 ·exact W9 h2
 ·exact W9 h3
def Rows:List DFunc→List AV→Prop
 | [],cs=>cs=[]
 |f::fs,cs=> ∃y r,IsFunc f (.agg y)∧cs=y++r∧Rows fs r
theorem z06 {f:DFunc} {y:List AV} (h:IsFunc f (.agg y)):y.length=7:=by
 obtain⟨cs,e,h,_⟩:=z9S h;injection e with e;rw[e];exact h
theorem Rows.len: ∀{fs:List DFunc} {cs:List AV},Rows fs cs→cs.length=fs.length*7
 | [],_,h=>by rw[show _=[] from h];rfl
 |f::fs,_,⟨y,r,h1,h2,h3⟩=>by rw[h2,w05,z06 h1,h3.len,w26];omega
theorem Rows.pln: ∀{fs:List DFunc} {cs:List AV},Rows fs cs→ ∀c∈cs,Pln c
 | [],_,h=>by rw[show _=[] from h];simp
 |f::fs,_,⟨y,r,h1,h2,h3⟩=>by
  intro c hc
  rw[h2,w08] at hc
  rcases hc with hc|hc
  ·obtain⟨cs,e,_,h⟩:=z9S h1;injection e with e;exact h c (e▸hc)
  ·exact h3.pln c hc
theorem Rows.snoc {f:DFunc} {y:List AV} (hf:IsFunc f (.agg y)): ∀{fs:List DFunc} {cs:List AV},Rows fs cs→Rows (fs++[f]) (cs++y)
 | [],_,h=>by rw[show _=[] from h];exact⟨y,[],hf,by simp,rfl⟩
 |g::fs,_,⟨z,r,h1,h2,h3⟩=>⟨z,r++y,h1,by rw[h2,w0f],h3.snoc hf⟩
theorem Rows.set {f:DFunc} {y:List AV} (hf:IsFunc f (.agg y)): ∀{fs:List DFunc} {cs:List AV} {j:Nat},Rows fs cs→j<fs.length→Rows (fs.set j f) (splice cs (j*7) y)
 | [],_,_,_,hj=>by simp at hj
 |g::fs,_,0,⟨z,r,h1,h2,h3⟩,_=>by
  refine⟨y,r,hf,?_,h3⟩
  subst h2
  unfold splice
  simp[z06 hf,←z06 h1]
 |g::fs,_,j+1,⟨z,r,h1,h2,h3⟩,hj=>by
  refine⟨z,_,h1,?_,h3.set hf (by simpa using hj)⟩
  subst h2
  have hz:=z06 h1
  unfold splice
  rw[show(j+1)*7=z.length+j*7 by omega,List.take_length_add_append,show z.length+j*7+y.length=z.length+(j*7+y.length) by omega,List.drop_length_add_append]
  simp only[w0f]
theorem Rows.all2: ∀{fs:List DFunc} {cs:List AV},Rows fs cs→All2 IsFunc fs (chunk 7 fs.length cs)
 | [],_,_=>trivial
 |f::fs,_,⟨y,r,h1,h2,h3⟩=>by
  subst h2
  have hy:=z06 h1
  refine⟨?_,?_⟩
  ·show IsFunc f (if(7==1)=true then _ else AV.agg ((y++r).take 7))
   rw[if_neg (by decide),w55 (by omega),w37 (by omega)];exact h1
  ·show All2 IsFunc fs (chunk 7 fs.length ((y++r).drop 7))
   rw[List.drop_append_of_le_length (by omega),List.drop_of_length_le (by omega),w48];exact h3.all2
theorem Rows.sl {fs:List DFunc} {cs:List AV} (h:Rows fs cs) (hl:fs.length≤9223372036854775807):IsSl IsFunc 7 fs (.list 7 .none (chunk 7 fs.length cs)):= .mk h.all2 hl
def TwinB (d:DImage) (fs:List DFunc) (L lo:Nat) (y:AV) (cur:List Blk):Prop:=
 ∃z0 z1 j st cs,y= .agg [z0,z1,.grow 7 L j st fs.length]∧IsSl IsTyp 4 d.types z0∧IsSl IsStr 1 d.texts z1∧cur[j]? =some ⟨st,cs⟩∧lo≤j∧Rows fs cs
def FnsB (fs:List DFunc) (L:Nat) (y:AV) (cur:List Blk):Prop:=
 (fs=[]∧y= .nils)∨ ∃j st cs,y= .grow 7 L j st fs.length∧cur[j]? =some ⟨st,cs⟩∧3≤j∧Rows fs cs
theorem FnsB.more {fs:List DFunc} {L:Nat} {Y:AV} {cur:List Blk} (h:FnsB fs L Y cur) (bs:List Blk):FnsB fs L Y (cur++bs):=by
 rcases h with h|⟨j,st,cs,h1,h2,h3,h4⟩
 ·exact .inl h
 ·exact .inr ⟨j,st,cs,h1,by rw[w09 (w06.1 h2).1];exact h2,h3,h4⟩
theorem z9R {fs:List DFunc} {f:DFunc} {y:List AV} {S:List (List Blk)} {cur:List Blk} {Y:AV} {nx fl:Nat} {live:List (List Nat)} (ho:FnsB fs S.length Y cur) (hf:IsFunc f (.agg y)) (h3:3≤cur.length) (hfl:fl≤S.length) (hl:fs.length≤1000):
  ∃Y' n cur',evAppB ⟨S,cur,nx,live,fl⟩ 7 128 Y (.list 7 .full [.agg y])=some (Y',⟨S,cur',n,live,fl⟩)∧FnsB (fs++[f]) S.length Y' cur'∧(∀i,i<3→cur'[i]? =cur[i]?)∧Y'.one=true∧Y'.cells=[Y']∧Y'.toks=[]:=by
 have hel: ∀m:Mem,m.elems 7 (.list 7 .full [.agg y])=some [.agg y]:=fun m=>zi m 7 .full [.agg y]
 rcases ho with⟨rfl,rfl⟩|⟨j,st,cs,rfl,hb,hj,hr⟩
 ·refine⟨.grow 7 S.length cur.length nx 1,nx+1,cur++[⟨nx,y⟩],?_,.inr ⟨cur.length,nx,y,rfl,by simp,h3,⟨y,[],hf,by simp,rfl⟩⟩,fun i hi=>by rw[w09 (by omega)],rfl,rfl,rfl⟩
  unfold evAppB
  simp only[hel,newRowB]
  rw[if_pos (by simp)]
  simp[AV.cells]
 ·have hcs:=hr.len
  have hjl:j<cur.length:=(w06.1 hb).1
  refine⟨.grow 7 S.length j nx (fs++[f]).length,nx+1,cur.set j ⟨nx,cs++y⟩,?_,.inr ⟨j,nx,cs++y,rfl,by rw[w54 hjl],hj,hr.snoc hf⟩,fun i hi=>by rw[w3f (by omega)],rfl,rfl,rfl⟩
  have hblk:Mem.blk ⟨S,cur,nx,live,fl⟩ S.length j st=some cs:=by simp[Mem.blk,Mem.row,hb]
  unfold evAppB evApp
  simp only[hel,hblk,beq_self_eq_true,Bool.true_and,w25]
  rw[if_pos (by simp only[w0e,decide_eq_true_eq];omega)]
  simp only[w05,w25,Mem.put,beq_self_eq_true,if_true,w2d,List.flatMap_nil,w20,AV.cells,w37 (show cs.length≤fs.length*7 by omega)]
theorem FnsB.set2 {fs:List DFunc} {L:Nat} {Y:AV} {cur:List Blk} (h:FnsB fs L Y cur) {i:Nat} (hi:i<3) (b:Blk):FnsB fs L Y (cur.set i b):=by
 rcases h with h|⟨j,st,cs,h1,h2,h3,h4⟩
 ·exact .inl h
 ·exact .inr ⟨j,st,cs,h1,by rw[w3f (by omega)];exact h2,h3,h4⟩
theorem zbI {stk:List (List Blk)} {cur c':List Blk} {nx nx' fl fl':Nat} {own:List Nat} {live:List (List Nat)} {z0 z1:AV} {j st n:Nat} {cs:List AV} {Q:AV×Mem→Prop} (h0:Pln z0) (h1:Pln z1) (hb:c'[j]? =some ⟨st,cs⟩) (hp: ∀c∈cs,Pln c)
  (q: ∀bs k ts,(cur++bs)[j+cur.length]? =some ⟨st,cs⟩→Q (.agg [z0,z1,.grow 7 stk.length (j+cur.length) st n],⟨stk,cur++bs,k,pushToks ts live,fl⟩)):
  Opt (leave ⟨stk,cur,nx,live,fl⟩ ⟨stk++[cur],c',nx',own::live,fl'⟩ (.agg [z0,z1,.grow 7 (stk++[cur]).length j st n])) Q:=by
 have e:leave ⟨stk,cur,nx,live,fl⟩ ⟨stk++[cur],c',nx',own::live,fl'⟩ (.agg [z0,z1,.grow 7 (stk++[cur]).length j st n])=some (.agg [z0,z1,.grow 7 stk.length (j+cur.length) st n],⟨stk,cur++c'.map (fun b=>⟨b.st,shiftAll (stk++[cur]).length ((stk++[cur]).length-1) cur.length b.cs⟩),nx',pushToks (own.filter fun t=>(AV.agg [z0,z1,.grow 7 (stk++[cur]).length j st n]).toks.contains t) live,fl⟩):=by
  unfold leave
  simp only[w4b,w42,Option.some_or,AV.refs,refsAny,beq_self_eq_true,Bool.or_true,Bool.true_or,if_true,AV.shift,shiftAll,h0.2.1,h1.2.1,w4c]
  simp
 rw[e,z8]
 refine q _ _ _ ?_
 rw[Nat.add_comm,w14 (by omega),Nat.add_sub_cancel_left,w17,hb,w0d,Qt _ _ _ hp]
theorem zaG (d:DImage) (y:AV) (hy:IsImage d y) (hs:SmallI d) (h0f:1≤d.funcs.length) (m:Mem) (hf:m.floor≤m.stk.length+1):CallB uG [y] m (fun r cur=>TwinB d d.funcs m.stk.length m.cur.length r cur):=by
 obtain⟨ty,tx,fs,rfl,h0,h1,h2⟩:=hy
 refine zaa XR ?_
 obtain⟨stk,cur,nx,live,fl⟩:=m
 dsimp only at hf
 have hfl:fl≤(stk++[cur]).length:=by simp;omega
 obtain⟨z0,t0,k0,hc,hz⟩:=z8I d.types ty h0 hs.t ⟨stk++[cur],[⟨nx,[ty,tx,fs]⟩,⟨nx+1,[.nils,.nils,.nils]⟩,⟨nx+1+1,[.nils,.nils,.nils]⟩],nx+1+1+1,[]::live,max fl ((stk++[cur]).length+1)⟩
 have hlive: ∃e',pushToks t0 ([]::live)=e'::live:=by cases t0<;>exact⟨_,rfl⟩
 obtain⟨e0,he0⟩:=hlive
 simp only[he0] at hc
 have hzs:=hz.sl h0.max
 obtain⟨z1,k1,e1,ha1,hz1,hm1⟩:=tL (stk:=stk++[cur]) (cur:=[⟨nx,[ty,tx,fs]⟩,⟨nx+1,[.nils,.nils,.nils]⟩,⟨nx+1+1,[.nils,.nils,.nils]⟩]) (nx:=k0) (fl:=max fl ((stk++[cur]).length+1)) (e:=e0) (rest:=live) (bytes:=16) h1 (by have:=hs.x;omega)
 simp only[uv,List.map,go_sem,reduceIte,reduceCtorEq,G3,G5,G0,G4,G1,G2,h0.one,h1.one,h2.one,hc,ha1,hzs.one,hz1.one,hzs.refs_cells,hz1.refs_cells,evBuild]
 refine zc (α:=Nat) (fun k σ=>k≤d.funcs.length∧ ∃nz e L Y,L[0]? =some ⟨nx,[ty,tx,fs]⟩∧L[1]? =some ⟨nx+1,[.nils,.nils,.nils]⟩∧L[2]? =some ⟨nx+1+1,[z0,z1,Y]⟩∧FnsB (d.funcs.take k) (stk++[cur]).length Y L∧heads [1,2,3,4,999999] 3 σ=⟨tmps 53 [(1,.ptr (stk++[cur]).length 0 nx 0),(2,.ptr (stk++[cur]).length 1 (nx+1) 0),(3,.ptr (stk++[cur]).length 2 (nx+1+1) 0),(4,.int .i64 k),(999999,.undef)],⟨stk++[cur],L,nz,e::live,fl⟩⟩) (fun k=>d.funcs.length-k) 0 ?_ ?_
 ·refine⟨w0c _,?_⟩
  simp only[go_sem,reduceIte,reduceCtorEq,G3,G5,G0,G4,G1,G2]
  exact⟨_,_,_,_,rfl,rfl,rfl,.inl ⟨rfl,rfl⟩,rfl⟩
 ·rintro k σ ⟨hk,nz,e,L,Y,g0,g1,g2,ho,hσ⟩
  rw[hσ]
  clear hσ σ
  dsimp only at hk⊢
  have hL3:2<L.length:=(w06.1 g2).1
  by_cases h:k<d.funcs.length
  ·have hsucc:=zb h h2.max
   obtain⟨w0,w1,w2,w3,ef,q0,q1,q2,q3⟩:=h2.nth h
   have hat:=h2.at .i64 h
   have htk:=w15 h
   obtain⟨f0,f1,f2,f3⟩:=hs.f.2 _ (w07 h)
   have hfn:=hs.f.1
   have hkl:(d.funcs.take k).length=k:=by rw[w21];omega
   have o3:=q0.one
   have o4:=q1.one
   have o5:=q2.one
   have o6:=q3.one
   have b2: ∀b:Blk,(L++[b])[2]? =some ⟨nx+1+1,[z0,z1,Y]⟩:=fun b=>by rw[w09 hL3];exact g2
   simp only[go_sem,reduceIte,reduceCtorEq,G3,G5,G0,G4,G1,G2,g0,h2.len,w03,h,hat,ef,o3,o4,o5,o6,ji,kE]
   generalize d.funcs[k]=f at*
   obtain⟨v0,n0,e0,a0,p0,m0⟩:=tL (stk:=stk++[cur]) (cur:=L++[⟨nz,[.str f.name,.int .i64 f.params,.int .i64 f.result,w0,w1,w2,w3]⟩]) (nx:=nz+1) (fl:=fl) (e:=e) (rest:=live) (bytes:=24) q0 (by omega)
   simp only[go_sem,reduceIte,reduceCtorEq,G3,G5,G0,G4,G1,G2,a0,p0.one,p0.refs_cells,ji,kE]
   obtain⟨v1,n1,e1,a1,p1,m1⟩:=tL (stk:=stk++[cur]) (cur:=L++[⟨nz,[.str f.name,.int .i64 f.params,.int .i64 f.result,v0,w1,w2,w3]⟩]) (nx:=n0) (fl:=fl) (e:=e0) (rest:=live) (bytes:=32) q1 (by omega)
   simp only[go_sem,reduceIte,reduceCtorEq,G3,G5,G0,G4,G1,G2,a1,p1.one,p1.refs_cells,ji,kE]
   obtain⟨v2,n2,e2,a2,p2,m2⟩:=tL (stk:=stk++[cur]) (cur:=L++[⟨nz,[.str f.name,.int .i64 f.params,.int .i64 f.result,v0,v1,w2,w3]⟩]) (nx:=n1) (fl:=fl) (e:=e1) (rest:=live) (bytes:=16) q2 (by omega)
   simp only[go_sem,reduceIte,reduceCtorEq,G3,G5,G0,G4,G1,G2,a2,p2.one,p2.refs_cells,ji,kE]
   obtain⟨v3,n3,e3,a3,p3,m3⟩:=tL (stk:=stk++[cur]) (cur:=L++[⟨nz,[.str f.name,.int .i64 f.params,.int .i64 f.result,v0,v1,v2,w3]⟩]) (nx:=n2) (fl:=fl) (e:=e2) (rest:=live) (bytes:=16) q3 (by omega)
   simp only[go_sem,reduceIte,reduceCtorEq,G3,G5,G0,G4,G1,G2,a3,p0.one,p1.one,p2.one,p3.one,p3.refs_cells,ji,kE,b2]
   obtain⟨Y',n4,cur',ha4,ho',hc',y1,y2,y3⟩:=z9R (S:=stk++[cur]) (nx:=n3) (fl:=fl) (live:=e3::live) (cur:=L++[⟨nz,[.str f.name,.int .i64 f.params,.int .i64 f.result,v0,v1,v2,v3]⟩]) (Y:=Y) (fs:=d.funcs.take k) (f:=f) (y:=[.str f.name,.int .i64 f.params,.int .i64 f.result,v0,v1,v2,v3]) (ho.more _) ⟨v0,v1,v2,v3,rfl,p0,p1,p2,p3⟩ (by simp;omega) hfl (by omega)
   have c2:cur'[2]? =some ⟨nx+1+1,[z0,z1,Y]⟩:=by rw[hc' 2 (by omega)];exact b2 _
   have c0:cur'[0]? =some ⟨nx,[ty,tx,fs]⟩:=by rw[hc' 0 (by omega),w09 (by omega)];exact g0
   have c1:cur'[1]? =some ⟨nx+1,[.nils,.nils,.nils]⟩:=by rw[hc' 1 (by omega),w09 (by omega)];exact g1
   have c2l:2<cur'.length:=(w06.1 c2).1
   simp only[go_sem,reduceIte,reduceCtorEq,G3,G5,G0,G4,G1,G2,ha4,c2,y1,y2,y3,hsucc]
   exact⟨k+1,by omega,h,n4,e3,_,Y',by rw[w3f (by omega)];exact c0,by rw[w3f (by omega)];exact c1,by rw[w54 c2l],by rw[htk];exact ho'.set2 (by omega) _,rfl⟩
  ·have:k=d.funcs.length:=by omega
   subst this
   rw[w0a] at ho
   rcases ho with⟨q,_⟩|⟨j,st,cs,rfl,hb,hj,hr⟩
   ·rw[q] at h0f;simp at h0f
   have l1:1<L.length:=by omega
   have gs: ∀b:Blk,(L.set 1 b)[1]? =some b:=fun b=>w54 l1
   simp only[go_sem,reduceIte,reduceCtorEq,G3,G5,G0,G4,G1,G2,g0,h2.len,w03,h,g2,hzs.one,hz1.one,g1,gs,show∀a b c e f,(AV.grow a b c e f).one=true from fun _ _ _ _ _=>rfl]
   refine zbI (W9 hzs) (W9 hz1) (c':=L.set 1 _) (cs:=cs) (by rw[w3f (by omega)];exact hb) hr.pln fun bs k ts hbs=> ?_
   exact⟨bs,k,ts,rfl,z0,z1,_,st,cs,rfl,hzs,hz1,hbs,by omega,hr⟩
theorem Zs (j:Nat) (l:List (List Nat)):Vs.sink j [] l=l:=rfl
theorem zaF (p:Int) (m:Mem):Okv tab tp [.int .i64 p] m (.bool false):=by
 refine zh TC ?_
 obtain⟨stk,cur,nx,live,fl⟩:=m
 simp only[j7,List.map,go_sem,reduceCtorEq,G0,G2]
 rw[z6 rfl rfl,z8]
 exact⟨⟨_,rfl⟩,by simp⟩
theorem z8L (p q:Int) (m:Mem):Okv tab qk [.int .i64 p,.int .i64 q] m (.bool (decide (p<q))):=by
 refine zh Qj ?_
 obtain⟨stk,cur,nx,live,fl⟩:=m
 simp only[jV,List.map,go_sem,reduceCtorEq,G3,G0,G2,(zaF p _).eq]
 rw[z6 rfl rfl,z8]
 exact⟨⟨_,rfl⟩,rfl⟩
def Sets (tab:Nat→Option AFunc) (f:Nat) (args:List AV) (m:Mem) (L k st:Nat) (y:List AV) (r:AV):Prop:= ∃n,CALL tab f args m=some (r,wroteC m L k st y n m.live)
noncomputable def setsNx (tab:Nat→Option AFunc) (f:Nat) (args:List AV) (m:Mem):Nat:=match CALL tab f args m with|some (_,m')=>m'.nx|none=>0
theorem Sets.eq {tab:Nat→Option AFunc} {f:Nat} {args:List AV} {m:Mem} {L k st:Nat} {y:List AV} {r:AV} (h:Sets tab f args m L k st y r):CALL tab f args m=some (r,wroteC m L k st y (setsNx tab f args m) m.live):=by
 obtain⟨n,h⟩:=h
 rw[h]
 unfold setsNx
 rw[h]
 rfl
theorem TL {tab:Nat→Option AFunc} {f:Nat} {fn:AFunc} (h:tab f=some fn) {args:List AV} {m:Mem} {L k st:Nat} {y:List AV} {r:AV} (hx:X tab fn.body (mk fn.ntmps (.tup []) (numb 0 args)) (enter m) (.fin fn.res m fun v m'=> ∃n,v=r∧m'=wroteC m L k st y n m.live)) (hn:args.length≤fn.ntmps:=by exact Nat.le_of_ble_eq_true rfl):
  Sets tab f args m L k st y r:=by
 obtain⟨x,h1,n,h2,h3⟩:=zV h hx hn;exact⟨n,by rw[h1,←h2,←h3]⟩
theorem li (l:List AV) (k:Nat) {v:AV} (h:(l.drop k).head? =some v):takeV false 1 (l.drop k)=some v:=by
 unfold takeV
 cases hd:l.drop k with
 |nil=>rw[hd] at h;cases h
 |cons a r=>rw[hd] at h;simp at h⊢;exact h
theorem z8H (p q:Int) (S:List (List Blk)) (C:List Blk) (nx fl:Nat) (live:List (List Nat)) (L k st:Nat) (hL:L≤S.length) (hfl:fl≤L) (hb:Mem.blk ⟨S,C,nx,live,fl⟩ L k st=some [.int .i64 p,.int .i64 q]):
  Sets tab yw [.grow 1 L k st 2,.int .i64 0,.int .i64 2] ⟨S,C,nx,live,fl⟩ L k st [.int .i64 (min p q),.int .i64 (max p q)] (.tup []):=by
 refine TL tO ?_
 have hrow:=tX hb hL
 have hk:=zab hb hL
 have hne: ∀y,(L==(rwC S C L k st y).length)=false:=fun y=>by rw[z6N];simp;omega
 have hget: ∀y,((rwC S C L k st y).getD L [])[k]? =some ⟨st,y⟩:=fun y=>z6O hL hk
 have i0:idx (.int .i64 0) 2=some 0:=rfl
 have i1:idx (.int .i64 1) 2=some 1:=rfl
 have a01:IntKind.i64.wrap (0+1)=1:=rfl
 have a12:IntKind.i64.wrap (1+1)=2:=rfl
 have s10:IntKind.i64.wrap (1-1)=0:=rfl
 simp only[yu,List.map,go_sem,reduceCtorEq,G3,G0,G2,z8W hrow]
 rw[yr]
 simp only[go_sem,reduceCtorEq,G0,G1,G2,a01,show((1:Int)<2)=True from eq_true (by decide)]
 rw[yr]
 by_cases h:q<p
 ·have h1:min p q=q:=by omega
  have h2:max p q=p:=by omega
  rw[h1,h2]
  simp only[go_sem,reduceCtorEq,G3,G0,G4,G1,G2,show((1:Int)>0)=True from eq_true (by decide),evIaddr,i0,i1,hne,hget,s10,w19,(z8L q p _).eq,h,hfl,z6M,Zs]
  rw[yr]
  simp only[go_sem,reduceCtorEq,G0,G1,G2,show((0:Int)>0)=False from eq_false (by decide),a12]
  rw[yr]
  simp only[go_sem,reduceCtorEq,G0,G1,G2,show((2:Int)<2)=False from eq_false (by decide)]
  rw[ZA hL rfl rfl nx live,z8]
  exact⟨_,rfl,rfl⟩
 ·have h1:min p q=p:=by omega
  have h2:max p q=q:=by omega
  rw[h1,h2]
  simp only[go_sem,reduceCtorEq,G0,G1,G2,show((1:Int)>0)=True from eq_true (by decide),evIaddr,i0,i1,hne,hget,s10,w19,(z8L q p _).eq,h,a12]
  rw[yr]
  simp only[go_sem,reduceCtorEq,G0,G1,G2,show((2:Int)<2)=False from eq_false (by decide)]
  rw[ZA hL rfl rfl nx live,z8]
  exact⟨_,rfl,rfl⟩
theorem zd7 (p q:Int) (S:List (List Blk)) (C:List Blk) (nx fl:Nat) (live:List (List Nat)) (L k st:Nat) (hL:L≤S.length) (hfl:fl≤L) (hb:Mem.blk ⟨S,C,nx,live,fl⟩ L k st=some [.int .i64 p,.int .i64 q]) (z:Int):
  Sets tab zU [.grow 1 L k st 2,.int .i64 0,.int .i64 2,.int .i64 z] ⟨S,C,nx,live,fl⟩ L k st [.int .i64 (min p q),.int .i64 (max p q)] (.tup []):=by
 refine TL jd ?_
 simp only[x4,List.map,go_sem,G3]
 rw[yr]
 simp only[go_sem,reduceCtorEq,G0,G1,G2,show IntKind.i64.wrap (2-0)=2 from rfl,show((2:Int)≤12)=True from eq_true (by decide),(z8H p q (S++[C]) [] nx fl ([]::live) L k st (by simp;omega) hfl (ZN hb hL)).eq,VM hL]
 rw[ZA hL rfl rfl nx live,z8]
 exact⟨_,rfl,rfl⟩
theorem zaK (m:Mem):Okv tab qg [.int .u64 2] m (.int .i64 2):=by
 refine zh VT ?_
 obtain⟨stk,cur,nx,live,fl⟩:=m
 simp only[qb,List.map,go_sem,reduceCtorEq,G3,G0,G2,show((2:Int)≥4294967296)=False from eq_false (by decide),show((2:Int)≥65536)=False from eq_false (by decide),show((2:Int)≥256)=False from eq_false (by decide),show IntKind.u8.wrap 2=2 from rfl,show idx (.int .u8 2) 256=some 2 from rfl,
  UInt8.toNat_ofNat]
 rw[z6 rfl rfl,z8]
 exact⟨⟨_,rfl⟩,rfl⟩
theorem zd8 (m:Mem):Okv tab ja [.int .u64 2] m (.int .i64 2):=by
 refine zh TA ?_
 obtain⟨stk,cur,nx,live,fl⟩:=m
 simp only[j5,List.map,go_sem,reduceCtorEq,G0,G2,(zaK _).eq]
 rw[z6 rfl rfl,z8]
 exact⟨⟨_,rfl⟩,rfl⟩
theorem zcl (p q:Int) (S:List (List Blk)) (C:List Blk) (nx fl:Nat) (live:List (List Nat)) (L k st:Nat) (hL:L≤S.length) (hfl:fl≤L) (hb:Mem.blk ⟨S,C,nx,live,fl⟩ L k st=some [.int .i64 p,.int .i64 q]):
  Sets tab xu [.grow 1 L k st 2] ⟨S,C,nx,live,fl⟩ L k st [.int .i64 (min p q),.int .i64 (max p q)] (.tup []):=by
 refine TL YS ?_
 have hP:=fun n z=>(zd7 p q (S++[C]) [] n fl ([]::live) L k st (by simp;omega) hfl (ZN hb hL) z).eq
 simp only[vS,List.map,go_sem,reduceCtorEq,G0,G2,evLen,show IntKind.u64.wrap (2:Int)=2 from rfl,(zd8 _).eq,show(((2:Nat):Int))=2 from rfl,hP,VM hL]
 rw[ZA hL rfl rfl nx live,z8]
 exact⟨_,rfl,rfl⟩
theorem z2s (p q:Int) (h:p≠q) (S:List (List Blk)) (C:List Blk) (nx fl:Nat) (live:List (List Nat)) (L k st:Nat) (hL:L≤S.length) (hb:Mem.blk ⟨S,C,nx,live,fl⟩ L k st=some [.int .i64 p,.int .i64 q]):
  Okv tab zQ [.grow 1 L k st 2] ⟨S,C,nx,live,fl⟩ (.grow 1 L k st 2):=by
 refine zh tc ?_
 have hrow:=tX hb hL
 have hne:(L==(S++[C]).length)=false:=by simp;omega
 have i0:idx (.int .i64 0) 2=some 0:=rfl
 have i1:idx (.int .i64 1) 2=some 1:=rfl
 have hq:(q==p)=false:=by simpa using fun e:q=p=>h e.symm
 simp only[yN,List.map,go_sem,reduceCtorEq,G0,G2,evLen,show(((2:Nat):Int)<2)=False from eq_false (by decide)]
 rw[yr]
 simp only[go_sem,reduceCtorEq,G0,G1,G2,evLen,show((1:Int)<((2:Nat):Int))=True from eq_true (by decide),evIaddr,i0,i1,show IntKind.i64.wrap (1-1)=0 from rfl,hne,hrow,w19,hq,show IntKind.i64.wrap (1+1)=2 from rfl]
 rw[yr]
 simp only[go_sem,reduceCtorEq,G0,G1,G2,evLen,show((2:Int)<((2:Nat):Int))=False from eq_false (by decide)]
 rw[z6 (by simp only[AV.refs];simp;omega) rfl,z8]
 exact⟨⟨_,rfl⟩,rfl⟩
theorem z2t (p:Int) (S:List (List Blk)) (C:List Blk) (nx fl:Nat) (live:List (List Nat)) (L k st:Nat) (hL:L≤S.length) (hfl:fl≤L) (hb:Mem.blk ⟨S,C,nx,live,fl⟩ L k st=some [.int .i64 p,.int .i64 p]):
  Sets tab zQ [.grow 1 L k st 2] ⟨S,C,nx,live,fl⟩ L k st [.int .i64 p,.int .i64 0] (.grow 1 L k st 1):=by
 refine TL tc ?_
 have hrow:=tX hb hL
 have hk:=zab hb hL
 have hne: ∀y,(L==(rwC S C L k st y).length)=false:=fun y=>by rw[z6N];simp;omega
 have hget: ∀y,((rwC S C L k st y).getD L [])[k]? =some ⟨st,y⟩:=fun y=>z6O hL hk
 have i0:idx (.int .i64 0) 2=some 0:=rfl
 have i1:idx (.int .i64 1) 2=some 1:=rfl
 have b1:bound (some (.int .i64 1)) 2 0=some 1:=rfl
 have b2:bound (none:Option AV) 2 2=some 2:=rfl
 have b3:bound (some (.int .i64 1)) 2 2=some 1:=rfl
 have b4:bound (none:Option AV) 1 0=some 0:=rfl
 simp only[yN,List.map,go_sem,reduceCtorEq,G0,G2,evLen,show(((2:Nat):Int)<2)=False from eq_false (by decide),z8W hrow]
 rw[yr]
 simp only[go_sem,reduceCtorEq,G5,G0,G1,G2,evLen,show((1:Int)<((2:Nat):Int))=True from eq_true (by decide),evIaddr,i0,i1,show IntKind.i64.wrap (1-1)=0 from rfl,hne,hget,w19,evSlice,b1,b2]
 rw[yr]
 simp only[go_sem,reduceCtorEq,G3,G5,G0,G1,G2,evLen,show((1:Int)<((1:Nat):Int))=False from eq_false (by decide),evSlice,b1,b2,b3,b4,show((1:Nat)==0)=false from rfl,show((0:Nat)==0)=true from rfl,evClr,evClr0,AV.asArr,hne,hget,hfl,z6M,flatRep,w19,Nat.one_ne_zero]
 rw[ZA hL (by simp only[AV.refs];simp;omega) rfl nx live,z8]
 exact⟨_,rfl,rfl⟩
def SlotsP (d:DImage) (f:DFunc):Prop:= ∀s∈f.slots,0≤s.typ∧s.typ<d.types.length
theorem Zr {d:DImage} {f:DFunc} (h:SlotsP d f) (s:Int):slotT f s<d.types.length:=by
 unfold slotT
 split
 ·rename_i hs
  obtain⟨k,rfl⟩: ∃k:Nat,s=k:=⟨s.toNat,by omega⟩
  have hk:k<f.slots.length:=by omega
  rw[TU hk]
  exact(h _ (w07 hk)).2
 ·omega
def cellsN (ty tx fs w0 w1 w2 w3:AV) (f:DFunc):List AV:=[ty,tx,fs,.str f.name,.int .i64 f.params,.int .i64 f.result,w0,w1,w2,w3]
section
variable (d : DImage) (f : DFunc) (ty tx fs w0 w1 w2 w3 : AV) (hy : NV d f (.agg (cellsN ty tx fs w0 w1 w2 w3 f)))
include hy
theorem z2o (t:Int) (ht:t<d.types.length) (m:Mem) (L st:Nat) (hL:L≤m.stk.length) (hb:m.blk L 0 st=some (cellsN ty tx fs w0 w1 w2 w3 f)):Okv tab xT [.int .i64 t,.ptr L 0 st 0] m (.bool (isT d t [1])):=by
 refine zh kP ?_
 obtain⟨stk,cur,nx,live,fl⟩:=m
 have hI:=fun m=>(z2m d f _ hy t ht [1] _ (isL1 1 .full) m).eq
 simp only[cellsN] at hI
 have hrow:=tX hb hL
 have hne:(L==(stk++[cur]).length)=false:=by simp at hL⊢;omega
 simp only[xO,List.map,go_sem,reduceCtorEq,G3,G0,G2,hne,hrow,cellsN]
 simp only[go_sem,reduceCtorEq,G0,G2,hI]
 rw[z6 rfl rfl,z8]
 exact⟨⟨_,rfl⟩,rfl⟩
theorem z8G (t:Int) (ht:t<d.types.length) (m:Mem) (L st:Nat) (hL:L≤m.stk.length) (hb:m.blk L 0 st=some (cellsN ty tx fs w0 w1 w2 w3 f)):Okv tab xW [.int .i64 t,.ptr L 0 st 0] m (.bool (isT d t [1,2,4])):=by
 refine zh kS ?_
 obtain⟨stk,cur,nx,live,fl⟩:=m
 have hI:=fun m=>(z2m d f _ hy t ht [1,2,4] _ (isL3 1 2 4 .full) m).eq
 simp only[cellsN] at hI
 have hrow:=tX hb hL
 have hne:(L==(stk++[cur]).length)=false:=by simp at hL⊢;omega
 simp only[xR,List.map,go_sem,reduceCtorEq,G3,G0,G2,hne,hrow,cellsN]
 simp only[go_sem,reduceCtorEq,G0,G2,hI]
 rw[z6 rfl rfl,z8]
 exact⟨⟨_,rfl⟩,rfl⟩
theorem zaE (t:Int) (ht:t<d.types.length) (m:Mem) (L st:Nat) (hL:L≤m.stk.length) (hb:m.blk L 0 st=some (cellsN ty tx fs w0 w1 w2 w3 f)):Okv tab zF [.int .i64 t,.ptr L 0 st 0] m (.bool (!isT d t [2])):=by
 refine zh jA ?_
 obtain⟨stk,cur,nx,live,fl⟩:=m
 have hI:=fun m=>(z2m d f _ hy t ht [2] _ (isL1 2 .full) m).eq
 simp only[cellsN] at hI
 have hrow:=tX hb hL
 have hne:(L==(stk++[cur]).length)=false:=by simp at hL⊢;omega
 simp only[xh,List.map,go_sem,reduceCtorEq,G3,G0,G2,hne,hrow,cellsN]
 simp only[go_sem,reduceCtorEq,G0,G2,hI]
 rw[z6 rfl rfl,z8]
 exact⟨⟨_,rfl⟩,rfl⟩
theorem z8M (l:List Int) (x:AV) (hx:IsSl IsI 1 l x) (hl: ∀t∈l,t<d.types.length) (m:Mem) (L st:Nat) (hL:L≤m.stk.length) (hb:m.blk L 0 st=some (cellsN ty tx fs w0 w1 w2 w3 f)):
  Ok tab yE [x,.fn (.func zF) [] [.ptr L 0 st 0]] m (fun r=> ∃i,r= .int .i64 i∧(0≤i↔ ∃t∈l,isT d t [2]=false)):=by
 refine z6S ui ?_
 obtain⟨stk,cur,nx,live,fl⟩:=m
 simp only[yA,List.map,go_sem,reduceCtorEq,G3,G0,G2,hx.len]
 refine zc (α:=Nat) (fun k σ=>(k≤l.length∧ ∀t∈l.take k,isT d t [2]=true)∧ ∃nz,heads [0,1,7,8] 0 σ=⟨tmps 19 [(0,x),(1,.fn (.func zF) [] [.ptr L 0 st 0]),(7,.int .i64 l.length),(8,.int .i64 k)],⟨stk++[cur],[],nz,[]::live,fl⟩⟩) (fun k=>l.length-k) 0 ?_ ?_
 ·refine⟨⟨w0c _,by simp⟩,?_⟩
  simp only[go_sem,reduceCtorEq,G0,G1]
  exact⟨_,rfl⟩
 ·rintro k σ ⟨⟨hk,hv⟩,nz,hσ⟩
  rw[hσ]
  clear hσ σ
  dsimp only at hk hv⊢
  by_cases h:k<l.length
  ·have e1:nth x k= .int .i64 l[k]:=hx.nth h
   have hsucc:=zb h hx.max
   have hC:=(zaE d f ty tx fs w0 w1 w2 w3 hy l[k] (hl _ (w07 h)) ⟨stk++[cur],[],nz,[]::live,fl⟩ L st (by simp at hL⊢;omega) (ZN hb hL)).eq
   simp only[go_sem,reduceCtorEq,G0,G1,G2,w03,h,hx.at _ h,e1,hC]
   cases hq:isT d l[k] [2]
   ·simp only[go_sem,reduceCtorEq,G0,G2]
    rw[z6 rfl rfl,z8]
    exact⟨⟨_,rfl⟩,_,rfl,⟨fun _=>⟨_,w07 h,hq⟩,fun _=>by omega⟩⟩
   ·simp only[go_sem,reduceCtorEq,G0,G2,hsucc]
    refine⟨k+1,by omega,⟨h,fun t ht=> ?_⟩,_,rfl⟩
    rw[w15 h] at ht
    rcases w08.1 ht with q|q
    ·exact hv t q
    ·rw[w13.1 q];exact hq
  ·have:k=l.length:=by omega
   subst this
   rw[w0a] at hv
   simp only[go_sem,reduceCtorEq,G0,G1,G2,w03,h]
   rw[z6 rfl rfl,z8]
   exact⟨⟨_,rfl⟩,_,rfl,⟨fun h=>absurd h (by decide),fun⟨t,h1,h2⟩=>by rw[hv t h1] at h2;cases h2⟩⟩
theorem z3D (l:List Int) (x:AV) (hx:IsSl IsI 1 l x) (hl: ∀t∈l,t<d.types.length) (m:Mem) (L st:Nat) (hL:L≤m.stk.length) (hb:m.blk L 0 st=some (cellsN ty tx fs w0 w1 w2 w3 f)):
  Okv tab zI [x,.fn (.func zF) [] [.ptr L 0 st 0]] m (.bool (!l.all fun t=>isT d t [2])):=by
 refine zh vg ?_
 obtain⟨stk,cur,nx,live,fl⟩:=m
 simp only[yc,List.map,go_sem,reduceCtorEq,G3,G0,G2]
 refine(z8M d f ty tx fs w0 w1 w2 w3 hy l x hx hl _ L st (by simp at hL⊢;omega) (ZN hb hL)).xv fun y n ⟨i,hy,hi⟩=> ?_
 subst hy
 simp only[go_sem,reduceCtorEq,G0,G2]
 rw[z6 rfl rfl,z8]
 refine⟨⟨_,rfl⟩,congrArg AV.bool ?_⟩
 rw[Bool.eq_iff_iff,decide_eq_true_eq,Bool.not_eq_true',List.all_eq_false]
 refine Iff.trans hi ⟨fun⟨t,h1,h2⟩=>⟨t,h1,by simp[h2]⟩,fun⟨t,h1,h2⟩=>⟨t,h1,by simpa using h2⟩⟩
theorem z6E (l:List Int) (x:AV) (hx:IsSl IsI 1 l x) (hl: ∀t∈l,t<d.types.length) (m:Mem) (L st:Nat) (hL:L≤m.stk.length) (hb:m.blk L 0 st=some (cellsN ty tx fs w0 w1 w2 w3 f)):
  Okv tab xU [x,.ptr L 0 st 0] m (.bool (l.all fun t=>isT d t [2])):=by
 refine zh kQ ?_
 obtain⟨stk,cur,nx,live,fl⟩:=m
 simp only[xP,List.map,go_sem,reduceCtorEq,G3,G0,G2,(z3D d f ty tx fs w0 w1 w2 w3 hy l x hx hl ⟨stk++[cur],[],nx,[]::live,fl⟩ L st (by simp at hL⊢;omega) (ZN hb hL)).eq]
 rw[z6 rfl rfl,z8]
 exact⟨⟨_,rfl⟩,rfl⟩
end
def laterB (d:DImage) (g:DFunc):Bool:=decide (g.result<0)&&(decide (g.params=0)||(decide (g.params=1)&&isT d (fdA g.slots 0).typ [1,2,4]))
theorem z6F (d:DImage) (f:DFunc) (y:AV) (hy:NV d f y) (g:DFunc) (z:AV) (hz:IsFunc g z) (hg:SlotsP d g) (hgp:g.params≤g.slots.length) (m:Mem) (hf:m.floor≤m.stk.length+1):Okv tab vA [y,z] m (.bool (laterB d g)):=by
 have hy':=hy
 obtain⟨ty,tx,fs,w0,w1,w2,w3,rfl,h0,h1,h2,h3,h4,h5,h6⟩:=hy
 obtain⟨v0,v1,v2,v3,rfl,q0,q1,q2,q3⟩:=hz
 refine zh ZY ?_
 obtain⟨stk,cur,nx,live,fl⟩:=m
 simp only[vu,List.map,go_sem,reduceCtorEq,G3,G0,G2]
 unfold laterB
 by_cases hr:g.result<0
 ·by_cases hp0:g.params=0
  ·have e0:(g.params==0)=true:=by simpa using hp0
   simp only[go_sem,reduceCtorEq,G0,G2,hr,e0]
   rw[z6 rfl rfl,z8]
   exact⟨⟨_,rfl⟩,by simp[hp0]⟩
  ·have e0:(g.params==0)=false:=by simpa using hp0
   by_cases hp1:g.params=1
   ·have e1:(g.params==1)=true:=by simpa using hp1
    have hlen:0<g.slots.length:=by omega
    have hat:evIaddr 2 v0 (.int .i64 0)=some (.ro (nth v0 0).cells):=q0.at .i64 hlen
    have eg:nth v0 0= .agg [.str (fdA g.slots 0).name,.int .i64 (fdA g.slots 0).typ]:=q0.fdA hlen
    have ht:(fdA g.slots 0).typ<d.types.length:=by
     have h00:fdA g.slots 0=g.slots[0]:=TU hlen
     rw[h00];exact(hg _ (w07 hlen)).2
    have hC:=fun nz=>(z8G d f ty tx fs w0 w1 w2 w3 hy' (fdA g.slots 0).typ ht ⟨stk++[cur],[⟨nx,cellsN ty tx fs w0 w1 w2 w3 f⟩,⟨nx+1,[.str g.name,.int .i64 g.params,.int .i64 g.result,v0,v1,v2,v3]⟩],nz,[]::live,fl⟩ (stk++[cur]).length nx (w0b _) (by simp[Mem.blk,Mem.row])).eq
    simp only[cellsN] at hC
    simp only[go_sem,reduceCtorEq,G0,G2,hr,e0,e1,hat,eg,hC]
    rw[z6 rfl rfl,z8]
    exact⟨⟨_,rfl⟩,by simp[hp1]⟩
   ·have e1:(g.params==1)=false:=by simpa using hp1
    simp only[go_sem,reduceCtorEq,G0,G2,hr,e0,e1]
    rw[z6 rfl rfl,z8]
    exact⟨⟨_,rfl⟩,by simp[hp0,hp1]⟩
 ·simp only[go_sem,reduceCtorEq,G0,G2,hr]
  rw[z6 rfl rfl,z8]
  exact⟨⟨_,rfl⟩,by simp⟩
theorem zaH (l:List DTyp) (x:AV) (hx:IsSl IsTyp 4 l x) (hv:ValidT l) (hl:l.length≤100) (m:Mem) (hf:m.floor≤m.stk.length+1):
  ∃y1 y2 ts k,CALL tab xp [x] m=some (.tup [y1,y2],{m with nx:=k,live:=pushToks ts m.live})∧Own IsN 1 y1 (szs (exts 1000000 l)) ts∧Own IsN 1 y2 (als (exts 1000000 l)) ts:=by
 suffices h:Does tab xp [x] m fun r m'=> ∃y1 y2 ts k,r= .tup [y1,y2]∧m'={m with nx:=k,live:=pushToks ts m.live}∧Own IsN 1 y1 (szs (exts 1000000 l)) ts∧Own IsN 1 y2 (als (exts 1000000 l)) ts by
  obtain⟨z,e1,y1,y2,ts,k,e2,e3,e4⟩:=h
  exact⟨y1,y2,ts,k,by rw[e1,←e2,←e3],e4⟩
 refine zV YM ?_ (Nat.le_of_ble_eq_true rfl)
 obtain⟨stk,cur,nx,live,fl⟩:=m
 dsimp only at hf
 simp only[vN,List.map,go_sem]
 refine zc (α:=Nat) (fun i σ=>i≤l.length∧ ∃nz y1 y2 e,Own2 IsN 1 y1 (szs (exts 1000000 (l.take i))) IsN 1 y2 (als (exts 1000000 (l.take i))) e nz∧heads [0,4,5,6] 0 σ=⟨tmps 75 [(0,x),(4,y1),(5,y2),(6,.int .i64 i)],⟨stk++[cur],[],nz,e::live,fl⟩⟩) (fun i=>l.length-i) 0 ?_ ?_
 ·refine⟨w0c _,nx,.nils,.nils,[],.nil _ _,?_⟩
  simp only[go_sem,reduceCtorEq,G0,G1]
  rfl
 ·rintro i σ ⟨hi,nz,y1,y2,e,hO,hσ⟩
  rw[hσ]
  clear hσ σ
  dsimp only at hi⊢
  by_cases h:i<l.length
  ·have hfine:=hv i h
   obtain⟨v,e1,q1⟩:=hx.nth h
   have hat:=hx.at .i64 h
   have hsucc:=zb h hx.max
   have hAl:=te 1000000 l i hi
   have hrs:=jr 1000000 h
   have hgood:=WX (far:=1000000) (by omega) hv i hi
   have hflen:=um hfine
   have hlx:=hx.len
   generalize hout:exts 1000000 (l.take i)=A at*
   generalize ht:l[i]=t at*
   clear ht
   obtain⟨kind,elem,len,fields⟩:=t
   dsimp only at e1 q1 hflen
   simp only[go_sem,reduceCtorEq,G0,G1,G2,w03,h,hlx,hat,e1]
   by_cases k1:kind=1
   ·subst k1
    have hV:((1:Nat),(1:Nat))=ext1 1000000 A ⟨1,elem,len,fields⟩:=rfl
    simp only[go_sem,reduceCtorEq,G0,G2]
    refine hO.xv1 (zi · _ _ _) (zE (R:=IsN) (x:=1) rfl) (by simp[szs];omega) fun y1' n1 e1' hO1=> ?_
    simp only[go_sem,reduceCtorEq,G0,G2]
    refine hO1.xv2 (zi · _ _ _) (zE (R:=IsN) (x:=1) rfl) (by simp[als];omega) fun y2' n2 e2' hO2=> ?_
    simp only[go_sem,reduceCtorEq,G0,G2,hsucc]
    refine⟨i+1,by omega,h,n2,y1',y2',e2',?_,rfl⟩
    rw[hrs,←hV]
    simpa [szs,als] using hO2
   have k1':(kind==1)=false:=by simpa using k1
   by_cases k3:kind=3
   ·subst k3
    have hV:((16:Nat),(8:Nat))=ext1 1000000 A ⟨3,elem,len,fields⟩:=rfl
    simp only[go_sem,reduceCtorEq,G0,G2,k1']
    refine hO.xv1 (zi · _ _ _) (zE (R:=IsN) (x:=16) rfl) (by simp[szs];omega) fun y1' n1 e1' hO1=> ?_
    simp only[go_sem,reduceCtorEq,G0,G2]
    refine hO1.xv2 (zi · _ _ _) (zE (R:=IsN) (x:=8) rfl) (by simp[als];omega) fun y2' n2 e2' hO2=> ?_
    simp only[go_sem,reduceCtorEq,G0,G2,hsucc]
    refine⟨i+1,by omega,h,n2,y1',y2',e2',?_,rfl⟩
    rw[hrs,←hV]
    simpa [szs,als] using hO2
   have k3':(kind==3)=false:=by simpa using k3
   by_cases k7:kind=7
   ·subst k7
    have hV:((24:Nat),(8:Nat))=ext1 1000000 A ⟨7,elem,len,fields⟩:=rfl
    simp only[go_sem,reduceCtorEq,G0,G2,k1',k3']
    refine hO.xv1 (zi · _ _ _) (zE (R:=IsN) (x:=24) rfl) (by simp[szs];omega) fun y1' n1 e1' hO1=> ?_
    simp only[go_sem,reduceCtorEq,G0,G2]
    refine hO1.xv2 (zi · _ _ _) (zE (R:=IsN) (x:=8) rfl) (by simp[als];omega) fun y2' n2 e2' hO2=> ?_
    simp only[go_sem,reduceCtorEq,G0,G2,hsucc]
    refine⟨i+1,by omega,h,n2,y1',y2',e2',?_,rfl⟩
    rw[hrs,←hV]
    simpa [szs,als] using hO2
   have k7':(kind==7)=false:=by simpa using k7
   by_cases k6:kind=6
   ·subst k6
    have hel:=hflen.2.2.2.1 rfl
    have hle:=hflen.2.1 rfl
    have hj:elem.toNat<A.length:=by omega
    have hge:=hgood.get hj
    have hV:(min 1000000 (len.toNat*(A.getD elem.toNat (0,0)).1),(A.getD elem.toNat (0,0)).2)=ext1 1000000 A ⟨6,elem,len,fields⟩:=rfl
    have ht1:elem.toNat<(szs A).length:=by simpa [szs] using hj
    have ht2:elem.toNat<(als A).length:=by simpa [als] using hj
    have s1:nth y1 elem.toNat= .int .i64 ((szs A)[elem.toNat]:Nat):=hO.l.nth ht1
    have s2:nth y2 elem.toNat= .int .i64 ((als A)[elem.toNat]:Nat):=hO.r.nth ht2
    have a1:=hO.l.at .i64 ht1
    have a2:=hO.r.at .i64 ht2
    rw[w45 hel.1] at a1 a2
    rw[z2F hj] at s1
    rw[z7b hj] at s2
    generalize A.getD elem.toNat (0,0)=pr at*
    have hmul:len.toNat*pr.1≤16*1048576:=Nat.mul_le_mul (by omega) hge.1
    have ew:IntKind.i64.wrap (len*(pr.1:Int))=((len.toNat*pr.1:Nat):Int):=by
     have:len*(pr.1:Int)=((len.toNat*pr.1:Nat):Int):=by rw[Int.natCast_mul,w45 (by omega)]
     rw[this,zd (by omega) (by omega)]
    simp only[go_sem,reduceCtorEq,G0,G2,k1',k3',k7',hat,e1,a1,s1,a2,s2,ew,z34]
    refine hO.xv1 (zi · _ _ _) (zE (R:=IsN) (x:=min 1000000 (len.toNat*pr.1)) rfl) (by simp[szs];omega) fun y1' n1 e1' hO1=> ?_
    simp only[go_sem,reduceCtorEq,G0,G2]
    refine hO1.xv2 (zi · _ _ _) (zE (R:=IsN) (x:=pr.2) rfl) (by simp[als];omega) fun y2' n2 e2' hO2=> ?_
    simp only[go_sem,reduceCtorEq,G0,G2,hsucc]
    refine⟨i+1,by omega,h,n2,y1',y2',e2',?_,rfl⟩
    rw[hrs,←hV]
    simpa [szs,als] using hO2
   have k6':(kind==6)=false:=by simpa using k6
   by_cases k5:kind=5
   ·subst k5
    have hV:togEnd 1000000 A fields=ext1 1000000 A ⟨5,elem,len,fields⟩:=rfl
    obtain⟨yt,ts,kk,hcall,_⟩:=z5e A hgood y1 y2 (hO.l.sl (by simp[szs];omega)) (hO.r.sl (by simp[als];omega)) fields v q1 (by rw[hAl];exact hflen.2.2.2.2.2) (by omega) ⟨stk++[cur],[],nz,e::live,fl⟩
    have hnx:=zbL hcall (by simp;omega)
    simp only[go_sem,reduceCtorEq,G0,G2,k1',k3',k7',k6',hat,e1,hcall]
    have hO:=hO.mono (e':=ts++e) (fun t ht=>w43 _ ht) hnx
    generalize togEnd 1000000 A fields=pr at*
    refine hO.xv1 (zi · _ _ _) (zE (R:=IsN) (x:=pr.1) rfl) (by simp[szs];omega) fun y1' n1 e1' hO1=> ?_
    simp only[go_sem,reduceCtorEq,G0,G2]
    refine hO1.xv2 (zi · _ _ _) (zE (R:=IsN) (x:=pr.2) rfl) (by simp[als];omega) fun y2' n2 e2' hO2=> ?_
    simp only[go_sem,reduceCtorEq,G0,G2,hsucc]
    refine⟨i+1,by omega,h,n2,y1',y2',e2',?_,rfl⟩
    rw[hrs,←hV]
    simpa [szs,als] using hO2
   have k5':(kind==5)=false:=by simpa using k5
   have hV:((8:Nat),(8:Nat))=ext1 1000000 A ⟨kind,elem,len,fields⟩:=by unfold ext1;simp only[k1,k3,k7,k6,k5,if_false]
   simp only[go_sem,reduceCtorEq,G0,G2,k1',k3',k7',k6',k5']
   refine hO.xv1 (zi · _ _ _) (zE (R:=IsN) (x:=8) rfl) (by simp[szs];omega) fun y1' n1 e1' hO1=> ?_
   simp only[go_sem,reduceCtorEq,G0,G2]
   refine hO1.xv2 (zi · _ _ _) (zE (R:=IsN) (x:=8) rfl) (by simp[als];omega) fun y2' n2 e2' hO2=> ?_
   simp only[go_sem,reduceCtorEq,G0,G2,hsucc]
   refine⟨i+1,by omega,h,n2,y1',y2',e2',?_,rfl⟩
   rw[hrs,←hV]
   simpa [szs,als] using hO2
  ·have:i=l.length:=by omega
   subst this
   rw[w0a] at hO
   simp only[go_sem,reduceCtorEq,G0,G1,G2,w03,h,hx.len]
   rw[Zz (by simp only[AV.refs,refsAny,hO.l.refs,hO.r.refs];rfl),z8]
   refine⟨y1,y2,_,_,rfl,rfl,hO.l.filter.mono ?_,hO.r.filter.mono ?_⟩
   ·intro t ht
    simp only[w50,AV.toks,toksAll,w20,List.contains_iff_mem,w08] at ht⊢
    exact⟨ht.1,.inl ht.2⟩
   ·intro t ht
    simp only[w50,AV.toks,toksAll,w20,List.contains_iff_mem,w08] at ht⊢
    exact⟨ht.1,.inr ht.2⟩
def agree (a b:Nat):Prop:=a=b∨(256<a∧256<b)
def AgL (A B:List (Nat×Nat)):Prop:=A.length=B.length∧ ∀j,agree (A.getD j (0,0)).1 (B.getD j (0,0)).1∧(A.getD j (0,0)).2=(B.getD j (0,0)).2
theorem T0 {f1 f2 x y:Nat} (h1:256<f1) (h2:256<f2) (h:agree x y):agree (min f1 x) (min f2 y):=by unfold agree at*;omega
theorem z55 {x y a:Nat} (ha:is18 a) (h:agree x y):agree (up x a) (up y a):=by
 rcases h with rfl|⟨h1,h2⟩
 ·exact .inl rfl
 ·have:=Q7 (n:=x) ha;have:=Q7 (n:=y) ha;exact .inr (by omega)
theorem z8v {a b c d:Nat} (h:agree a b) (k:agree c d):agree (a+c) (b+d):=by unfold agree at*;omega
theorem z1t {f1 f2:Nat} (h1:256<f1) (h1':f1≤1048576) (h2:256<f2) {A B:List (Nat×Nat)} (hg:GoodP A) (h:AgL A B) {fs:List DField} (hf: ∀f∈fs,0≤f.typ∧f.typ<A.length): ∀k,k≤fs.length→
  agree (tog f1 A (fs.take k)).2.1 (tog f2 B (fs.take k)).2.1∧(tog f1 A (fs.take k)).2.2=(tog f2 B (fs.take k)).2.2
 |0,_=>by simp[tog,agree]
 |k+1,hk=>by
  obtain⟨e1,e2⟩:=z1t h1 h1' h2 hg h hf k (by omega)
  obtain⟨_,_,g3⟩:=Zm h1' hg hf k (by omega)
  have hfk:=hf _ (w07 (show k<fs.length by omega))
  have hgk:=hg.get (j:=fs[k].typ.toNat) (by omega)
  have hj:=h.2 fs[k].typ.toNat
  rw[XP f1 A (show k<fs.length by omega),XP f2 B (show k<fs.length by omega)]
  simp only[togStep]
  rw[←hj.2]
  exact⟨T0 h1 h2 (z8v (z55 hgk.2 e1) hj.1),by rw[e2]⟩
theorem z66 {f1 f2:Nat} (h1:256<f1) (h1':f1≤1048576) (h2:256<f2) {A B:List (Nat×Nat)} (hg:GoodP A) (h:AgL A B) {n i:Nat} {t:DTyp} (hf:FineT n i t) (hi:A.length=i):
  agree (ext1 f1 A t).1 (ext1 f2 B t).1∧(ext1 f1 A t).2=(ext1 f2 B t).2:=by
 have hl:=um hf
 unfold ext1
 split
 ·simp[agree]
 ·split
  ·simp[agree]
  ·split
   ·simp[agree]
   ·split
    ·rename_i h6
     have hj:=h.2 t.elem.toNat
     refine⟨T0 h1 h2 ?_,hj.2⟩
     have hlen:=(hl.2.1 h6).1
     rcases hj.1 with e|⟨e,e'⟩
     ·rw[e];exact .inl rfl
     ·have m1:=Nat.mul_le_mul (show 1≤t.len.toNat by omega) (w0b (A.getD t.elem.toNat (0,0)).1)
      have m2:=Nat.mul_le_mul (show 1≤t.len.toNat by omega) (w0b (B.getD t.elem.toNat (0,0)).1)
      exact .inr (by omega)
    ·split
     ·have hfs: ∀f∈t.fields,0≤f.typ∧f.typ<A.length:=by rw[hi];exact hl.2.2.2.2.2
      have:=z1t h1 h1' h2 hg h hfs t.fields.length (w0b _)
      have hgd:=Zm h1' hg hfs t.fields.length (w0b _)
      rw[w0a] at this hgd
      simp only[togEnd]
      rw[←this.2]
      exact⟨T0 h1 h2 (z55 hgd.2.2 this.1),rfl⟩
     ·simp[agree]
theorem VG {f1 f2:Nat} (h1:256<f1) (h1':f1≤1048576) (h2:256<f2) {l:List DTyp} (hv:ValidT l): ∀i,i≤l.length→AgL (exts f1 (l.take i)) (exts f2 (l.take i))
 |0,_=>by simp[exts,AgL,agree]
 |i+1,hi=>by
  have ih:=VG h1 h1' h2 hv i (by omega)
  have la:=te f1 l i (by omega)
  have lb:=te f2 l i (by omega)
  have he:=z66 h1 h1' h2 (WX h1' hv i (by omega)) ih (hv i (by omega)) la
  rw[jr f1 (show i<l.length by omega),jr f2 (show i<l.length by omega)]
  refine⟨by simp[la,lb],fun j=> ?_⟩
  by_cases hj:j<i
  ·rw[WQ (by omega),WQ (by omega)];exact ih.2 j
  ·by_cases hj2:j=i
   ·subst hj2
    simp only[w02]
    rw[w14 (by omega),w14 (by omega),la,lb]
    simpa using he
   ·simp only[w02]
    rw[w16 (by simp;omega),w16 (by simp;omega)]
    simp[agree]
def FitsP (l:List DTyp):Prop:= ∀i,i<l.length→((exts 1000000 l).getD i (0,0)).1≤256
theorem z4M {l:List DTyp} (hv:ValidT l) (i:Nat):((exts 1048576 l).getD i (0,0)).1≤256↔((exts 1000000 l).getD i (0,0)).1≤256:=by
 have:=(VG (f1:=1048576) (f2:=1000000) (by omega) (w0b _) (by omega) hv l.length (w0b _)).2 i
 rw[w0a] at this
 unfold agree at this;omega
theorem z4y {m0:Mem} {stk:List (List Blk)} {cur c':List Blk} {nx' fl':Nat} {own:List Nat} {live':List (List Nat)} {k st off len:Nat} {a:Int}:
  ∃bs:List Blk,leave m0 ⟨stk++[cur],c',nx',own::live',fl'⟩ (.tup [.arr (stk++[cur]).length k st off len,.int .i64 a])=some (.tup [.arr stk.length (k+cur.length) st off len,.int .i64 a],⟨stk,cur++bs,nx',live',m0.floor⟩)∧
   ∀ws,c'[k]? =some ⟨st,prs ws⟩→bs[k]? =some ⟨st,prs ws⟩:=by
 have e:own.filter (fun _=>false)=[]:=by simp
 refine⟨c'.map fun b=>⟨b.st,shiftAll (stk++[cur]).length ((stk++[cur]).length-1) cur.length b.cs⟩,?_,?_⟩
 ·unfold leave
  simp only[w4b,w42,Option.some_or,AV.refs,refsAny,beq_self_eq_true,Bool.true_or,if_true,AV.toks,toksAll,w20,List.contains_nil,e,pushToks,w4c,AV.shift,shiftAll]
  simp
 ·intro ws h
  rw[w17,h,w0d,z1z]
theorem z5B {ws:List (Nat×Nat)} {j:Nat} (h:j<ws.length):takeV false 1 ((prs ws).drop (j*2))=some (.int .i64 ((ws.getD j (0,0)).1:Int)):=by rw[U0 ws j h,Qa]
theorem zcx {ws:List (Nat×Nat)} {j:Nat} (h:j<ws.length):takeV false 1 ((prs ws).drop (j*2+1))=some (.int .i64 ((ws.getD j (0,0)).2:Int)):=by
 rw[←List.drop_drop,U0 ws j h];simp[takeV]
theorem z5k (l:List DTyp) (x:AV) (hx:IsSl IsTyp 4 l x) (hw:WfTypes l) (hc:CheckP l) (i:Nat) (hi:i<l.length) (hs:((exts 1048576 l).getD i (0,0)).1≤256) (stk:List (List Blk)) (cur:List Blk) (nx fl:Nat) (live:List (List Nat)):
  ∃bs j st k,CALL tab uQ [x,.int .i64 i] ⟨stk,cur,nx,live,fl⟩=some (.tup [.arr stk.length (cur.length+j) st 0 l.length,.int .i64 0],⟨stk,cur++bs,k,live,fl⟩)∧bs[j]? =some ⟨st,prs (exts 1048576 l)⟩:=by
 suffices h:Does tab uQ [x,.int .i64 i] ⟨stk,cur,nx,live,fl⟩ fun v m'=> ∃bs j st k,v= .tup [.arr stk.length (cur.length+j) st 0 l.length,.int .i64 0]∧m'=⟨stk,cur++bs,k,live,fl⟩∧bs[j]? =some ⟨st,prs (exts 1048576 l)⟩ by
  obtain⟨z,h1,bs,j,st,k,h2,h3,h4⟩:=h
  exact⟨bs,j,st,k,by rw[h1,←h2,←h3],h4⟩
 refine zV W1 ?_ (Nat.le_of_ble_eq_true rfl)
 have hC:=kH l x hx hw
 rw[UR hc] at hC
 have hl:=hc.1
 simp only[qc,List.map,go_sem,reduceCtorEq,G3,G0,G2,(hC _).eq,show((0:Int) !=0)=false from rfl,hx.len,show¬((i:Int)<0) by omega,show¬((i:Int)≥l.length) by omega]
 obtain⟨bs,j,st,k,hcall,hbs⟩:=Zl l x hx hc.2.1 (by omega) (stk++[cur]) [] (callNx tab vF [x] ⟨stk++[cur],[],nx,[]::live,fl⟩) fl ([]::live)
 have hel:(exts 1048576 l).length=l.length:=by have:=te 1048576 l l.length (w0b _);rwa [w0a] at this
 have hix:=uY .i64 (p:=(i:Int)) (n:=l.length) (by omega)
 rw[w30] at hix
 simp only[go_sem,reduceCtorEq,G0,G2,hcall,zf,hix,hbs,z5B (ws:=exts 1048576 l) (j:=i) (by omega),show¬((((exts 1048576 l).getD i (0,0)).1:Nat):Int)>256 by omega]
 obtain⟨bs',hbs',hg⟩:=z4y (m0:=⟨stk,cur,nx,live,fl⟩) (stk:=stk) (cur:=cur) (c':=bs) (nx':=k) (own:=[]) (live':=live) (fl':=fl) (k:=j) (st:=st) (off:=0) (len:=l.length) (a:=0)
 rw[hbs',z8]
 exact⟨bs',j,st,k,by rw[Nat.add_comm],rfl,hg _ hbs⟩
theorem z3C (l:List DTyp) (x:AV) (hx:IsSl IsTyp 4 l x) (hw:WfTypes l) (hc:CheckP l) (i:Nat) (hi:i<l.length) (hs: ¬((exts 1048576 l).getD i (0,0)).1≤256) (m:Mem):
  Okv tab uQ [x,.int .i64 i] m (.tup [.nils,.int .i64 16]):=by
 refine zh W1 ?_
 obtain⟨stk,cur,nx,live,fl⟩:=m
 have hC:=kH l x hx hw
 rw[UR hc] at hC
 have hl:=hc.1
 simp only[qc,List.map,go_sem,reduceCtorEq,G3,G0,G2,(hC _).eq,show((0:Int) !=0)=false from rfl,hx.len,show¬((i:Int)<0) by omega,show¬((i:Int)≥l.length) by omega]
 obtain⟨bs,j,st,k,hcall,hbs⟩:=Zl l x hx hc.2.1 (by omega) (stk++[cur]) [] (callNx tab vF [x] ⟨stk++[cur],[],nx,[]::live,fl⟩) fl ([]::live)
 have hel:(exts 1048576 l).length=l.length:=by have:=te 1048576 l l.length (w0b _);rwa [w0a] at this
 have hix:=uY .i64 (p:=(i:Int)) (n:=l.length) (by omega)
 rw[w30] at hix
 simp only[go_sem,reduceCtorEq,G0,G2,hcall,zf,hix,hbs,z5B (ws:=exts 1048576 l) (j:=i) (by omega),show((((exts 1048576 l).getD i (0,0)).1:Nat):Int)>256 by omega]
 rw[z6 rfl rfl,z8]
 exact⟨⟨_,rfl⟩,rfl⟩
theorem XJ (l:List DTyp) (x:AV) (hx:IsSl IsTyp 4 l x) (hw:WfTypes l) (hc:CheckP l) (i:Nat) (hi:i<l.length) (hs:((exts 1048576 l).getD i (0,0)).1≤256) (m:Mem):
  Okv tab tj [x,.int .i64 i] m (.tup [.int .i64 (((exts 1048576 l).getD i (0,0)).1:Nat),.int .i64 (((exts 1048576 l).getD i (0,0)).2:Nat),.int .i64 0]):=by
 obtain⟨stk,cur,nx,live,fl⟩:=m
 refine zh Vf ?_
 obtain⟨bs,j,st,k,hcall,hbs⟩:=z5k l x hx hw hc i hi hs (stk++[cur]) [] nx fl ([]::live)
 have hel:(exts 1048576 l).length=l.length:=by have:=te 1048576 l l.length (w0b _);rwa [w0a] at this
 have hix:=uY .i64 (p:=(i:Int)) (n:=l.length) (by omega)
 rw[w30] at hix
 simp only[qI,List.map,go_sem,reduceCtorEq,G3,G0,G2,hcall,show((0:Int) !=0)=false from rfl,zf,hix,hbs,z5B (ws:=exts 1048576 l) (j:=i) (by omega),zcx (ws:=exts 1048576 l) (j:=i) (by omega)]
 rw[z6 rfl rfl,z8]
 exact⟨⟨_,rfl⟩,rfl⟩
def sizeErr (l:List DTyp) (i:Nat):Int:=if((exts 1048576 l).getD i (0,0)).1≤256 then 0 else 16
theorem z0H (l:List DTyp) (x:AV) (hx:IsSl IsTyp 4 l x) (hw:WfTypes l) (hc:CheckP l) (i:Nat) (hi:i<l.length) (m:Mem):
  ∃a b,Okv tab tj [x,.int .i64 i] m (.tup [a,b,.int .i64 (sizeErr l i)]):=by
 obtain⟨stk,cur,nx,live,fl⟩:=m
 by_cases hs:((exts 1048576 l).getD i (0,0)).1≤256
 ·exact⟨_,_,by have:=XJ l x hx hw hc i hi hs ⟨stk,cur,nx,live,fl⟩;rwa [show sizeErr l i=0 by unfold sizeErr;rw[if_pos hs]]⟩
 ·refine⟨.int .i64 0,.int .i64 0,?_⟩
  refine zh Vf ?_
  simp only[qI,List.map,go_sem,reduceCtorEq,G3,G0,G2,(z3C l x hx hw hc i hi hs _).eq,show((16:Int) !=0)=true from rfl]
  rw[z6 rfl rfl,z8]
  exact⟨⟨_,rfl⟩,by unfold sizeErr;rw[if_neg hs]⟩
def up8 (n:Nat):Nat:=(n+7)/8*8
def szT (l:List DTyp) (t:Int):Nat:=((exts 1000000 l).getD t.toNat (0,0)).1
def sumK (l:List DTyp) (ts:List Int) (k:Nat):Nat:=((ts.take k).map fun t=>up8 (szT l t)).sum
def sumB (l:List DTyp) (ts:List Int):Nat:=sumK l ts ts.length
theorem z1x {l:List DTyp} {ts:List Int} {k:Nat} (h:k<ts.length):sumK l ts (k+1)=sumK l ts k+up8 (szT l ts[k]):=by
 unfold sumK;rw[w15 h,w28,List.sum_append];simp
structure TypP (l:List DTyp):Prop where
 w:WfTypes l
 c:CheckP l
 f:FitsP l
theorem TypP.le {l:List DTyp} (h:TypP l) {k:Nat} (hk:k<l.length):szT l k≤256:=h.f k hk
theorem TypP.same {l:List DTyp} (h:TypP l) {k:Nat} (hk:k<l.length):((exts 1048576 l).getD k (0,0)).1=szT l k:=by
 have:=(VG (f1:=1048576) (f2:=1000000) (by omega) (w0b _) (by omega) h.c.2.1 l.length (w0b _)).2 k
 rw[w0a] at this
 have hle:=h.le hk
 unfold agree at this
 unfold szT at hle⊢
 rw[w30] at hle⊢
 omega
theorem andNot7: ∀n:Fin 300,(BitVec.ofNat 64 n.val&&& ~~~(BitVec.ofNat 64 7)).toNat=n.val/8*8:=by decide
theorem z89 {n:Nat} (h:n<300):evBits .andNot .i64 (n:Int) 7=some (.int .i64 ((n/8*8:Nat):Int)):=by
 unfold evBits
 show some (AV.int .i64 (IntKind.i64.wrap (((BitVec.ofInt 64 (n:Int)&&& ~~~(BitVec.ofInt 64 (7:Int)):BitVec 64).toNat:Nat):Int)))=_
 have e1:BitVec.ofInt 64 (n:Int)=BitVec.ofNat 64 n:=BitVec.ofInt_natCast ..
 have e2:BitVec.ofInt 64 (7:Int)=BitVec.ofNat 64 7:=by decide
 rw[e1,e2,andNot7 ⟨n,h⟩,zd (by omega) (by omega)]
theorem zaI (n:Nat) (h:n≤256) (m:Mem):Okv tab jY [.int .i64 n] m (.tup [.int .i64 (up8 n:Nat),.int .i64 0]):=by
 refine zh Qd ?_
 obtain⟨stk,cur,nx,live,fl⟩:=m
 have hw:IntKind.i64.wrap ((n:Int)+7)=((n+7:Nat):Int):=by rw[zd (by omega) (by omega)];omega
 simp only[jQ,List.map,go_sem,reduceCtorEq,G0,G2,show¬((n:Int)<0) by omega,show¬((n:Int)>1073741824) by omega,hw,z89 (n:=n+7) (by omega)]
 rw[z6 rfl rfl,z8]
 exact⟨⟨_,rfl⟩,rfl⟩
def InT (l:List DTyp) (ts:List Int):Prop:= ∀t∈ts,0≤t∧t<l.length
theorem z2G {l:List DTyp} {ts:List Int} (hl:TypP l) (h:InT l ts): ∀k,k≤ts.length→sumK l ts k≤264*k
 |0,_=>by simp[sumK]
 |k+1,hk=>by
  have ih:=z2G hl h k (by omega)
  rw[z1x (by omega)]
  obtain⟨q,hq⟩: ∃q:Nat,ts[k]=q:=⟨(ts[k]).toNat,by have:=h _ (w07 (show k<ts.length by omega));omega⟩
  have hql:q<l.length:=by have:=h _ (w07 (show k<ts.length by omega));omega
  rw[hq]
  have:=hl.le hql
  unfold up8;omega
theorem VP (d:DImage) (hT:TypP d.types) (f:DFunc) (y:AV) (hy:NV d f y) (ts:List Int) (x:AV) (hx:IsSl IsI 1 ts x) (hin:InT d.types ts) (hlen:ts.length≤100000) (m:Mem):Okv tab x8 [y,x] m (.tup [.int .i64 (sumB d.types ts:Nat),.int .i64 0]):=by
 obtain⟨ty,tx,fs,w0,w1,w2,w3,rfl,h0,h1,h2,h3,h4,h5,h6⟩:=hy
 refine zh ZZ ?_
 obtain⟨stk,cur,nx,live,fl⟩:=m
 simp only[vw,List.map,go_sem,reduceCtorEq,G3,G0,G2,hx.len]
 refine zc (α:=Nat) (fun k σ=>k≤ts.length∧ ∃nz,heads [2,6,12,13,14] 1 σ=⟨tmps 43 [(2,.ptr (stk++[cur]).length 0 nx 0),(6,.int .i64 (sumK d.types ts k:Nat)),(12,x),(13,.int .i64 ts.length),(14,.int .i64 k)],⟨stk++[cur],[⟨nx,[ty,tx,fs,.str f.name,.int .i64 f.params,.int .i64 f.result,w0,w1,w2,w3]⟩],nz,[]::live,fl⟩⟩) (fun k=>ts.length-k) 0 ?_ ?_
 ·refine⟨w0c _,?_⟩
  simp only[go_sem,reduceCtorEq,G0,G1]
  exact⟨_,rfl⟩
 ·rintro k σ ⟨hk,nz,hσ⟩
  rw[hσ]
  clear hσ σ
  dsimp only at hk⊢
  by_cases h:k<ts.length
  ·have e1:nth x k= .int .i64 ts[k]:=hx.nth h
   have hsucc:=zb h hx.max
   have hss:=z1x (l:=d.types) h
   have hb:=hin _ (w07 h)
   have hat:=hx.at .i64 h
   have hs1:=z2G hT hin k hk
   generalize ts[k]=t at*
   obtain⟨q,rfl⟩: ∃q:Nat,t=q:=⟨t.toNat,by omega⟩
   have hq:q<d.types.length:=by omega
   have hle:=hT.le hq
   have hS:=fun m=>(XJ d.types ty h0 hT.w hT.c q hq (by rw[hT.same hq];exact hle) m).eq
   rw[hT.same hq] at hS
   have hw:IntKind.i64.wrap ((sumK d.types ts k:Nat)+(up8 (szT d.types q):Nat):Int)=((sumK d.types ts k+up8 (szT d.types q):Nat):Int):=by
    unfold up8
    rw[zd (by omega) (by omega)];omega
   simp only[go_sem,G0,G1,G2,w03,h,hat,e1,hS,show((0:Int) !=0)=false from rfl,(zaI _ hle _).eq,hw,hsucc]
   refine⟨k+1,by omega,h,?_⟩
   rw[hss]
   exact⟨_,rfl⟩
  ·have:k=ts.length:=by omega
   subst this
   simp only[go_sem,G0,G1,G2,w03,h]
   rw[z6 rfl rfl,z8]
   exact⟨⟨_,rfl⟩,rfl⟩
theorem z99 {x:DInstr} (h:InstrP x):x.op=1∨x.op=2∨x.op=3∨x.op=4∨x.op=5∨x.op=6∨x.op=7∨x.op=8∨x.op=9∨x.op=10∨x.op=11∨x.op=12∨x.op=13∨x.op=14∨x.op=15∨x.op=16∨x.op=17∨x.op=18∨x.op=19∨x.op=20∨x.op=21∨x.op=22∨x.op=23∨x.op=24∨x.op=25∨x.op=26∨x.op=27∨x.op=28∨x.op=29∨x.op=30∨x.op=31∨x.op=32∨x.op=33∨x.op=34:=by
 obtain⟨a,b,c,hs,_⟩:=h
 by_cases hq:1≤x.op∧x.op≤34
 ·omega
 ·exfalso
  unfold shp at hs
  repeat rw[if_neg (by omega)] at hs
  cases hs
def typP (d:DImage) (f:DFunc) (x:DInstr):Bool:=if x.op=1∨x.op=32 then([slotT f x.a].all fun t=>isT d t [2]) else if x.op=2 then(isT d (slotT f x.a) [3]) else if x.op=3∨x.op=23 then(isT d (slotT f x.a) [1]) else if x.op=5 then(slotT f x.a==slotT f x.b) else if x.op=6∨x.op=7∨x.op=8∨x.op=9 then([slotT f x.a,slotT f x.b,slotT f x.c].all fun t=>isT d t [2]) else if x.op=10 then(isT d (slotT f x.a) [1]&&[slotT f x.b,slotT f x.c].all fun t=>isT d t [2]) else if x.op=11 then((isT d (slotT f x.a) [1]&&(slotT f x.b==slotT f x.c))&&isT d (slotT f x.b) [2,1,4]) else if x.op=12 then(isT d (slotT f x.a) [1]&&isT d (slotT f x.b) [1]) else if x.op=13 then(memB d (slotT f x.b) x.c (slotT f x.a)) else if x.op=14 then(memB d (slotT f x.a) x.b (slotT f x.c)) else if x.op=15 then(isT d (slotT f x.a) [4]) else if x.op=16 then(isT d (slotT f x.b) [4]&&decide ((tyA d.types (slotT f x.b)).elem=slotT f x.a)) else if x.op=17 then(isT d (slotT f x.a) [4]&&decide ((tyA d.types (slotT f x.a)).elem=slotT f x.b)) else if x.op=18 then(isT d (slotT f x.a) [7]&&[slotT f x.b].all fun t=>isT d t [2]) else if x.op=19 then((isT d (slotT f x.b) [7,6]&&decide ((tyA d.types (slotT f x.b)).elem=slotT f x.a))&&[slotT f x.c].all fun t=>isT d t [2]) else if x.op=20 then((isT d (slotT f x.a) [7,6]&&decide ((tyA d.types (slotT f x.a)).elem=slotT f x.c))&&[slotT f x.b].all fun t=>isT d t [2]) else if x.op=21 then(([slotT f x.a].all fun t=>isT d t [2])&&isT d (slotT f x.b) [3,7,6]) else if x.op=25 then(decide (x.a<0)||((fnA d.funcs x.b.toNat).result==slotT f x.a)) else if x.op=26∨x.op=27 then(laterB d (fnA d.funcs x.a.toNat)) else if x.op=28 then(isT d (slotT f x.a) [2,1,3]) else if x.op=29∨x.op=33 then(isT d (slotT f x.a) [1]&&[slotT f x.b].all fun t=>isT d t [2]) else if x.op=34 then(decide (x.a<0)||(f.result==slotT f x.a)) else true
theorem isI1 (a:Int) (tk:Tok):IsSl IsI 1 [a] (.list 1 tk [.int .i64 a]):= .mk ⟨rfl,trivial⟩ (by simp)
theorem isI2 (a b:Int) (tk:Tok):IsSl IsI 1 [a,b] (.list 1 tk [.int .i64 a,.int .i64 b]):= .mk ⟨rfl,rfl,trivial⟩ (by simp)
theorem isI3 (a b c:Int) (tk:Tok):IsSl IsI 1 [a,b,c] (.list 1 tk [.int .i64 a,.int .i64 b,.int .i64 c]):= .mk ⟨rfl,rfl,rfl,trivial⟩ (by simp)
structure ImgP (d:DImage):Prop where
 s: ∀g∈d.funcs,SlotsP d g∧g.params≤g.slots.length∧0≤g.params∧ -1≤g.result
theorem ImgP.at {d:DImage} (h:ImgP d) {k:Nat} (hk:k<d.funcs.length):SlotsP d (fnA d.funcs k)∧(fnA d.funcs k).params≤(fnA d.funcs k).slots.length∧0≤(fnA d.funcs k).params∧ -1≤(fnA d.funcs k).result:=by
 rw[←kq hk];exact h.s _ (w07 hk)
theorem z6H {d:DImage} {f:DFunc} {x:DInstr} (hx:InstrP x) (hw:WfI x) (hN:NearP d f x) (hs:SlotsP d f) {k:Nat} (hk:k<3) (hl:sk x k=119∨sk x k=114):0≤slotT f (opn x k):=by
 obtain⟨a,b,c,hsh,hh⟩:=hx
 have hx:InstrP x:=⟨a,b,c,hsh,hh⟩
 have hfit:=(ZF hsh hx hw hk).2.1
 have h0:0≤opn x k:=by
  unfold fitsK at hfit
  rcases hl with e|e<;>rw[e] at hfit
  ·have:lo 119=0:=by decide
   omega
  ·have:lo 114=0:=by decide
   omega
 have hmem:opn x k∈rds x++wrs x:=by
  rw[w08]
  rcases hl with e|e
  ·right
   unfold wrs wrsk
   simp only[w36,w50,w44,w0e,decide_eq_true_eq]
   exact⟨k,⟨hk,by rw[e];rfl,h0⟩,rfl⟩
  ·left
   unfold rds rdsk
   simp only[w36,w50,w44,w0e,decide_eq_true_eq]
   exact⟨k,⟨hk,by rw[e];rfl,h0⟩,rfl⟩
 have hlt:=hN.1 _ hmem
 unfold slotT
 rw[if_pos ⟨h0,hlt⟩]
 obtain⟨j,hj⟩: ∃j:Nat,opn x k=j:=⟨(opn x k).toNat,by omega⟩
 have hj':j<f.slots.length:=by omega
 rw[hj,TU hj']
 exact(hs _ (w07 hj')).1
theorem za9 {d:DImage} {f:DFunc} {x:DInstr} (hx:InstrP x) (hN:NearP d f x) (h:x.op=25):0≤x.b∧x.b<d.funcs.length:=by
 have h2:=hN.2.1
 unfold called at h2
 rw[if_pos h] at h2
 refine⟨?_,h2⟩
 obtain⟨a,b,c,hs,f1,f2,f3⟩:=hx
 rw[h] at hs
 have:shp 25=[103,99,45]:=by decide
 rw[this] at hs
 injection hs with _ hs
 injection hs with hs _
 subst hs
 have:lo 99=0:=by decide
 unfold fitsK at f2;omega
theorem z3q {d:DImage} {f:DFunc} {x:DInstr} (hx:InstrP x) (hN:NearP d f x) (h:x.op=26∨x.op=27):0≤x.a∧x.a<d.funcs.length:=by
 have h2:=hN.2.1
 unfold called at h2
 rw[if_neg (by omega),if_pos h] at h2
 refine⟨?_,h2⟩
 obtain⟨a,b,c,hs,f1,f2,f3⟩:=hx
 have:shp x.op=[99,45,45]:=by rcases h with h|h<;>rw[h]<;>decide
 rw[this] at hs
 injection hs with hs _
 subst hs
 have:lo 99=0:=by decide
 unfold fitsK at f1;omega
end Go.Proofs.W
end
