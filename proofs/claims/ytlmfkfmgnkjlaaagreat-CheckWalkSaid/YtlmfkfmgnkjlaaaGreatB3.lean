/-
  Part 4 of the proof, shared by claims of this seat: Dt, R6S18, R6S22, R6S2, Vr, R6S3, R6S4, R6S5, R6S6, R6S7, R6S8, R6S9, R6S10, R6S11, R6S12, R6S13, Vba, R6C1, R6C2, R6C13, Vbc, R6C4, R6C14, R6S14, R6S15, R6C17, R6C15, R6E1.
-/
import Derived.Test.YtlmfkfmgnkjlaaaGreatB2
set_option maxHeartbeats 64000000
set_option linter.unusedVariables false
set_option linter.unusedSimpArgs false
open Nat renaming reduceEqDiff → G0, reduceBEq → G1, reduceLT → G2, reduceAdd → G3, reduceLeDiff → G4, reduceSub → G5, reduceMul → G6, zero_le → w06, le_refl → w09, mul_one → w10, le_of_ble_eq_true → w1c, not_lt_zero → w35, lt_or_ge → w3c, pow_le_pow_right → w4c, le_trans → w4d, lt_of_lt_of_le → w58
open Int renaming ofNat_lt → w02, toNat_natCast → w1b, toNat_of_nonneg → w40
open List renaming getD_eq_getElem?_getD → w00, getElem_mem → w04, length_append → w05, take_length → w08, mem_append → w0a, getElem?_eq_some_iff → w0b, getElem?_append_left → w0c, take_succ_eq_append_getElem → w0d, getElem?_eq_getElem → w11, append_assoc → w13, getElem?_append_right → w15, mem_singleton → w16, getElem?_map → w17, getElem?_eq_none → w18, length_take → w1a, eq_nil_of_length_eq_zero → w1d, append_nil → w1f, take_succ_cons → w20, take_zero → w21, drop_succ_cons → w22, mem_cons_self → w24, mem_cons_of_mem → w26, cons_append → w28, length_map → w29, ext_getElem? → w2b, map_append → w2d, length_cons → w2f, length_nil → w30, flatMap_cons → w31, nil_append → w32, getElem?_modify → w33, map_cons → w37, getElem?_set → w38, getElem?_replicate → w3b, flatten_cons → w41, mem_range → w42, mem_map → w44, set_cons_succ → w46, modify_eq_take_cons_drop → w47, getLast?_singleton → w48, all_eq_true → w49, mem_of_getElem? → w4a, mem_append_right → w4e, replicate_succ → w4f, getLast?_append → w51, dropLast_concat → w52, mem_filter → w55, nodup_append → w57
open Option renaming map_eq_some_iff → w03, map_some → w0e, getD_some → w2a, bind_some → w34
open Bool renaming and_eq_true → w0f, or_eq_true → w2c, or_eq_false_iff → w3a, eq_iff_iff → w3d
section
namespace Go.Vs
def inU64 (n:Int):Prop:=0≤n∧n<18446744073709551616
def inU8 (n:Int):Prop:=0≤n∧n<256
def strOk (s:List UInt8):Prop:=s.length≤9223372036854775807
structure DField where
 name:List UInt8
 typ:Int
 deriving DecidableEq
def IsField (d:DField) (y:AV):Prop:=y= .agg [.str d.name,.int .i64 d.typ]
structure WfField (d:DField):Prop where
 name:strOk d.name
 typ:in64 d.typ
theorem IsField.agg {d:DField} {y:AV} (h:IsField d y):takeV true 2 y.cells=some y∧y.cells.length=2:=by
 obtain rfl:=h
 exact⟨rfl,rfl⟩
structure DTyp where
 kind:Int
 elem:Int
 len:Int
 fields:List DField
 deriving DecidableEq
def IsTyp (d:DTyp) (y:AV):Prop:= ∃v0,y= .agg [.int .u8 d.kind,.int .i64 d.elem,.int .i64 d.len,v0]∧IsSl IsField 2 d.fields v0
structure WfTyp (d:DTyp):Prop where
 kind:inU8 d.kind
 elem:in64 d.elem
 len:in64 d.len
 fields: ∀x∈d.fields,WfField x
theorem IsTyp.agg {d:DTyp} {y:AV} (h:IsTyp d y):takeV true 4 y.cells=some y∧y.cells.length=4:=by
 obtain⟨v0,rfl,_⟩:=h
 exact⟨rfl,rfl⟩
structure DInstr where
 op:Int
 a:Int
 b:Int
 c:Int
 deriving DecidableEq
def IsInstr (d:DInstr) (y:AV):Prop:=y= .agg [.int .u8 d.op,.int .i64 d.a,.int .i64 d.b,.int .i64 d.c]
structure WfInstr (d:DInstr):Prop where
 op:inU8 d.op
 a:in64 d.a
 b:in64 d.b
 c:in64 d.c
theorem IsInstr.agg {d:DInstr} {y:AV} (h:IsInstr d y):takeV true 4 y.cells=some y∧y.cells.length=4:=by
 obtain rfl:=h
 exact⟨rfl,rfl⟩
structure DRun where
 frm:Int
 value:Int
 deriving DecidableEq
def IsRun (d:DRun) (y:AV):Prop:=y= .agg [.int .i64 d.frm,.int .u64 d.value]
structure WfRun (d:DRun):Prop where
 frm:in64 d.frm
 value:inU64 d.value
theorem IsRun.agg {d:DRun} {y:AV} (h:IsRun d y):takeV true 2 y.cells=some y∧y.cells.length=2:=by
 obtain rfl:=h
 exact⟨rfl,rfl⟩
structure DFunc where
 name:List UInt8
 params:Int
 result:Int
 slots:List DField
 code:List DInstr
 sizes:List DRun
 lives:List DRun
 deriving DecidableEq
def IsFunc (d:DFunc) (y:AV):Prop:= ∃v0 v1 v2 v3,y= .agg [.str d.name,.int .i64 d.params,.int .i64 d.result,v0,v1,v2,v3]∧IsSl IsField 2 d.slots v0∧IsSl IsInstr 4 d.code v1∧IsSl IsRun 2 d.sizes v2∧IsSl IsRun 2 d.lives v3
structure WfFunc (d:DFunc):Prop where
 name:strOk d.name
 params:in64 d.params
 result:in64 d.result
 slots: ∀x∈d.slots,WfField x
 code: ∀x∈d.code,WfInstr x
 sizes: ∀x∈d.sizes,WfRun x
 lives: ∀x∈d.lives,WfRun x
theorem IsFunc.agg {d:DFunc} {y:AV} (h:IsFunc d y):takeV true 7 y.cells=some y∧y.cells.length=7:=by
 obtain⟨v0,v1,v2,v3,rfl,_,_,_,_⟩:=h
 exact⟨rfl,rfl⟩
structure DImage where
 types:List DTyp
 texts:List (List UInt8)
 funcs:List DFunc
 deriving DecidableEq
def IsImage (d:DImage) (y:AV):Prop:= ∃v0 v1 v2,y= .agg [v0,v1,v2]∧IsSl IsTyp 4 d.types v0∧IsSl IsStr 1 d.texts v1∧IsSl IsFunc 7 d.funcs v2
structure WfImage (d:DImage):Prop where
 types: ∀x∈d.types,WfTyp x
 texts: ∀x∈d.texts,strOk x
 funcs: ∀x∈d.funcs,WfFunc x
theorem IsImage.agg {d:DImage} {y:AV} (h:IsImage d y):takeV true 3 y.cells=some y∧y.cells.length=3:=by
 obtain⟨v0,v1,v2,rfl,_,_,_⟩:=h
 exact⟨rfl,rfl⟩
structure DRegion where
 base:Int
 bytes:List UInt8
 deriving DecidableEq
def IsRegion (d:DRegion) (y:AV):Prop:= ∃v0,y= .agg [.int .u64 d.base,v0]∧IsSl IsByte 1 d.bytes v0
theorem IsRegion.agg {d:DRegion} {y:AV} (h:IsRegion d y):takeV true 2 y.cells=some y∧y.cells.length=2:=by
 obtain⟨v0,rfl,_⟩:=h
 exact⟨rfl,rfl⟩
structure DRoutine where
 status:Int
 code:Int
 sp:Int
 defers:Int
 panics:Int
 key:Int
 deriving DecidableEq
def IsRoutine (d:DRoutine) (y:AV):Prop:=y= .agg [.int .u8 d.status,.int .u64 d.code,.int .u64 d.sp,.int .u64 d.defers,.int .u64 d.panics,.int .i64 d.key]
theorem IsRoutine.agg {d:DRoutine} {y:AV} (h:IsRoutine d y):takeV true 6 y.cells=some y∧y.cells.length=6:=by
 obtain rfl:=h
 exact⟨rfl,rfl⟩
structure DEnded where
 outcome:Int
 failing:Int
 steps:Int
 deriving DecidableEq
def IsEnded (d:DEnded) (y:AV):Prop:=y= .agg [.int .u8 d.outcome,.int .i64 d.failing,.int .i64 d.steps]
theorem IsEnded.agg {d:DEnded} {y:AV} (h:IsEnded d y):takeV true 3 y.cells=some y∧y.cells.length=3:=by
 obtain rfl:=h
 exact⟨rfl,rfl⟩
structure DDump where
 image:DImage
 ended:DEnded
 heap:DRegion
 stacks:List DRegion
 routines:List DRoutine
 defers:List (List Int)
 panics:List (List Int)
 deriving DecidableEq
def IsDump (d:DDump) (y:AV):Prop:= ∃v0 v1 v2 v3 v4 v5 v6 v7,y= .agg [v0,v1,v2,.int .u8 d.ended.outcome,.int .i64 d.ended.failing,.int .i64 d.ended.steps,.int .u64 d.heap.base,v3,v4,v5,v6,v7]∧IsSl IsTyp 4 d.image.types v0∧IsSl IsStr 1 d.image.texts v1∧IsSl IsFunc 7 d.image.funcs v2∧IsSl IsByte 1 d.heap.bytes v3∧IsSl IsRegion 2 d.stacks v4∧IsSl IsRoutine 6 d.routines v5∧IsSl (IsSl (IsK .u64) 1) 1 d.defers v6∧IsSl (IsSl (IsK .u64) 1) 1 d.panics v7
theorem IsDump.agg {d:DDump} {y:AV} (h:IsDump d y):takeV true 12 y.cells=some y∧y.cells.length=12:=by
 obtain⟨v0,v1,v2,v3,v4,v5,v6,v7,rfl,_,_,_,_,_,_,_,_⟩:=h
 exact⟨rfl,rfl⟩
structure DSection where
 kind:Int
 data:List UInt8
 deriving DecidableEq
def IsSection (d:DSection) (y:AV):Prop:= ∃v0,y= .agg [.int .u8 d.kind,v0]∧IsSl IsByte 1 d.data v0
theorem IsSection.agg {d:DSection} {y:AV} (h:IsSection d y):takeV true 2 y.cells=some y∧y.cells.length=2:=by
 obtain⟨v0,rfl,_⟩:=h
 exact⟨rfl,rfl⟩
structure DFrame where
 start:Int
 func:Int
 at_:Int
 code:Int
 size:Int
 mode:Int
 record:Int
 caller:Int
 deriving DecidableEq
def IsFrame (d:DFrame) (y:AV):Prop:=y= .agg [.int .u64 d.start,.int .i64 d.func,.int .i64 d.at_,.int .u64 d.code,.int .i64 d.size,.int .u64 d.mode,.int .u64 d.record,.int .u64 d.caller]
theorem IsFrame.agg {d:DFrame} {y:AV} (h:IsFrame d y):takeV true 8 y.cells=some y∧y.cells.length=8:=by
 obtain rfl:=h
 exact⟨rfl,rfl⟩
end Go.Vs
end
section
namespace Go.Proofs.W
open Go.Vs
set_option linter.unusedSimpArgs false
set_option maxRecDepth 100000
def shapes:List (List UInt8):=[[119,110,45],[119,116,45],[119,98,45],[119,45,45],[119,114,45],[119,114,114],[119,114,102],[114,102,114],[114,114,45],[114,114,114],[105,45,45],[114,105,45],[114,45,45],[103,99,45],[99,45,45],[119,119,45],[45,45,45],[101,45,45],[]]
theorem z9o (op:Int):shp op∈shapes:=by
 by_cases h:0≤op∧op≤34
 ·have hall: ∀k:Fin 35,shp (k.val:Int)∈shapes:=by decide+kernel
  have:=hall ⟨op.toNat,by omega⟩
  rwa [show((op.toNat:Nat):Int)=op by omega] at this
 ·have:shp op=[]:=by
   unfold shp
   repeat rw[if_neg (by omega)]
  rw[this];decide
theorem z9p (op:Int):shp op=[]∨ ∃a b c,shp op=[a,b,c]:=by
 have h: ∀s∈shapes,s=[]∨s.length=3:=by decide
 rcases h _ (z9o op) with h|h
 ·exact .inl h
 ·right
  match hs:shp op,h with
  | [a,b,c],_=>exact⟨a,b,c,rfl⟩
def letterOk (c:UInt8):Prop:=c=45∨c=119∨c=114∨c=103∨c=101∨c=110∨c=116∨c=98∨c=102∨c=105∨c=99
instance (c:UInt8):Decidable (letterOk c):=by unfold letterOk;exact inferInstance
def lettersB (s:List UInt8):Bool:=match s with
 | [a,b,c]=>decide (letterOk a∧letterOk b∧letterOk c∧(cnt [a,b,c]≤0↔a=45)∧(cnt [a,b,c]≤1↔b=45)∧(cnt [a,b,c]≤2↔c=45))
 |_=>true
theorem z0X {op:Int} {a b c:UInt8} (h:shp op=[a,b,c]):letterOk a∧letterOk b∧letterOk c∧(cnt [a,b,c]≤0↔a=45)∧(cnt [a,b,c]≤1↔b=45)∧(cnt [a,b,c]≤2↔c=45):=by
 have hall: ∀s∈shapes,lettersB s=true:=by decide
 have:=hall _ (z9o op)
 rw[h] at this
 exact of_decide_eq_true this
def opn (x:DInstr):Nat→Int
 |0=>x.a
 |1=>x.b
 |_=>x.c
def fitsK (c:UInt8) (n:Int):Prop:=lo c≤n∧n≤hi c
def InstrP (x:DInstr):Prop:= ∃a b c,shp x.op=[a,b,c]∧fitsK a x.a∧fitsK b x.b∧fitsK c x.c
noncomputable def err06 (x:DInstr):Int:=if pb (InstrP x) then 0 else 8
theorem xQ {x:DInstr} (h: ¬InstrP x):err06 x=8:=by unfold err06;rw[zg h];rfl
theorem kK {x:DInstr} (h:InstrP x):err06 x=0:=by unfold err06;rw[zF h];rfl
theorem z0r (c:UInt8) (hc:letterOk c) (n:Int) (hn:in64 n) (m:Mem):Okv tab qn [.int .u8 c.toNat,.int .i64 n] m (.bool (pb (fitsK c n))):=by
 refine ze Uu ?_
 obtain⟨stk,cur,nx,live,fl⟩:=m
 have hk: ∀k:UInt8,(((c.toNat:Int))=(k.toNat:Int))↔c=k:=fun k=>by
  rw[Int.ofNat_inj,UInt8.toNat_inj]
 have e45:=hk 45
 have e119:=hk 119
 have e114:=hk 114
 have e103:=hk 103
 have e101:=hk 101
 have e116:=hk 116
 have e99:=hk 99
 have e98:=hk 98
 have e102:=hk 102
 have e105:=hk 105
 simp only[qf,List.map,go_sem,reduceCtorEq,G3,G0,G2]
 repeat' (((first|refine zp ?_ ?_|refine zk ?_ ?_|refine zl ?_ ?_|refine zi ?_ ?_|refine zj ?_ ?_)<;>intro hq)<;>simp only[go_sem,reduceCtorEq,G0,G2,hq])
 all_goals
  rw[z6 rfl rfl,z8]
  refine⟨⟨_,rfl⟩,congrArg AV.bool (kY ?_)⟩
  unfold in64 at hn
  simp only[decide_eq_true_eq,decide_eq_false_iff_not,beq_iff_eq,beq_eq_false_iff_ne,ne_eq] at*
  unfold letterOk at hc
  rcases hc with rfl|rfl|rfl|rfl|rfl|rfl|rfl|rfl|rfl|rfl|rfl<;>first|(exfalso;simp_all;done)|(unfold fitsK;simp only[lo,hi];simp;omega)
theorem js (x:DInstr) (m:Mem):Okv tab yE [.agg [.int .u8 x.op,.int .i64 x.a,.int .i64 x.b,.int .i64 x.c]] m (.agg [.int .i64 x.a,.int .i64 x.b,.int .i64 x.c]):=by
 refine ze Yi ?_
 obtain⟨stk,cur,nx,live,fl⟩:=m
 simp only[vF,List.map,go_sem,reduceCtorEq,G3,G0,G4,G2,evBuild]
 rw[z6 rfl rfl,z8]
 exact⟨⟨_,rfl⟩,rfl⟩
theorem Zp (x:DInstr) (m:Mem):Okv tab qt [.agg [.int .u8 x.op,.int .i64 x.a,.int .i64 x.b,.int .i64 x.c]] m (.agg [.int .i64 x.a,.int .i64 x.b,.int .i64 x.c]):=by
 refine ze z26 ?_
 obtain⟨stk,cur,nx,live,fl⟩:=m
 simp only[ZL,List.map,go_sem,reduceCtorEq,G3,G0,G4,G2,evBuild]
 rw[z6 rfl rfl,z8]
 exact⟨⟨_,rfl⟩,rfl⟩
theorem i0:idx (.int .i64 0) 3=some 0:=rfl
theorem i1:idx (.int .i64 1) 3=some 1:=rfl
theorem i2:idx (.int .i64 2) 3=some 2:=rfl
theorem w01:IntKind.i64.wrap (0+1)=1:=rfl
theorem w12:IntKind.i64.wrap (1+1)=2:=rfl
theorem w23:IntKind.i64.wrap (2+1)=3:=rfl
theorem l03:((0:Int)<3)=True:=eq_true (by decide)
theorem l13:((1:Int)<3)=True:=eq_true (by decide)
theorem l23:((2:Int)<3)=True:=eq_true (by decide)
theorem l33:((3:Int)<3)=False:=eq_false (by decide)
theorem vm {x:DInstr} {a b c:UInt8} (h:shp x.op=[a,b,c]):InstrP x↔fitsK a x.a∧fitsK b x.b∧fitsK c x.c:=by
 unfold InstrP
 rw[h]
 constructor
 ·rintro⟨a',b',c',e,h1⟩
  injection e with e1 e;injection e with e2 e;injection e with e3 e
  subst e1;subst e2;subst e3
  exact h1
 ·exact fun h1=>⟨a,b,c,rfl,h1⟩
def WfI (x:DInstr):Prop:=in64 x.a∧in64 x.b∧in64 x.c
theorem Q1 (x:DInstr) (hw:WfI x) (m:Mem):Okv tab vd [.agg [.int .u8 x.op,.int .i64 x.a,.int .i64 x.b,.int .i64 x.c]] m (.int .i64 (err06 x)):=by
 refine ze V5 ?_
 obtain⟨stk,cur,nx,live,fl⟩:=m
 simp only[t8,List.map,go_sem,reduceCtorEq,G3,G0,G2]
 rcases z9p x.op with hs|⟨a,b,c,hs⟩
 ·simp only[go_sem,reduceCtorEq,G3,G0,G2,(z1u x.op _).eq,(js x _).eq,hs,show((((0:Nat)):Int) !=3)=true from rfl]
  rw[z6 rfl rfl,z8]
  exact⟨⟨_,rfl⟩,by rw[xQ];rintro⟨a,b,c,h,_⟩;rw[hs] at h;cases h⟩
 ·obtain⟨ha,hb,hc,_⟩:=z0X hs
  simp only[go_sem,reduceCtorEq,G3,G0,G2,(z1u x.op _).eq,(js x _).eq,hs,show((((3:Nat)):Int) !=3)=false from rfl]
  rw[yw]
  simp only[go_sem,reduceCtorEq,G3,G0,G1,G2,l03,i0,evIaddrA,Nat.zero_mul]
  by_cases hf1:fitsK a x.a
  case neg=>
   simp only[go_sem,G0,G2,(z0r a ha x.a hw.1 _).eq,zg hf1]
   rw[z6 rfl rfl,z8]
   exact⟨⟨_,rfl⟩,by rw[xQ fun h'=>hf1 ((vm hs).1 h').1]⟩
  simp only[go_sem,G0,G2,(z0r a ha x.a hw.1 _).eq,zF hf1,w01]
  rw[yw]
  simp only[go_sem,G3,G0,G1,G2,l13,i1,evIaddrA,w10]
  by_cases hf2:fitsK b x.b
  case neg=>
   simp only[go_sem,G0,G2,(z0r b hb x.b hw.2.1 _).eq,zg hf2]
   rw[z6 rfl rfl,z8]
   exact⟨⟨_,rfl⟩,by rw[xQ fun h'=>hf2 ((vm hs).1 h').2.1]⟩
  simp only[go_sem,G0,G2,(z0r b hb x.b hw.2.1 _).eq,zF hf2,w12]
  rw[yw]
  simp only[go_sem,G3,G0,G1,G2,l23,i2,evIaddrA,w10]
  by_cases hf3:fitsK c x.c
  case neg=>
   simp only[go_sem,G0,G2,(z0r c hc x.c hw.2.2 _).eq,zg hf3]
   rw[z6 rfl rfl,z8]
   exact⟨⟨_,rfl⟩,by rw[xQ fun h'=>hf3 ((vm hs).1 h').2.2]⟩
  simp only[go_sem,G0,G2,(z0r c hc x.c hw.2.2 _).eq,zF hf3,w23]
  rw[yw]
  simp only[go_sem,G0,G1,G2,l33]
  rw[z6 rfl rfl,z8]
  exact⟨⟨_,rfl⟩,by rw[kK ((vm hs).2 ⟨hf1,hf2,hf3⟩)]⟩
theorem z2j {op:Int} {a b c:UInt8} (h:shp op=[a,b,c]):shapeOf op= .tup [.agg [.int .i64 (lo a),.int .i64 (hi a),.bool (rd a),.bool (wt a),.int .i64 (lo b),.int .i64 (hi b),.bool (rd b),.bool (wt b),.int .i64 (lo c),.int .i64 (hi c),.bool (rd c),.bool (wt c)],.int .i64 (cnt [a,b,c])]:=by
 unfold shapeOf;rw[h];rfl
theorem za7 {op:Int} (h:shp op=[]):shapeOf op= .tup [.agg [.int .i64 0,.int .i64 0,.bool false,.bool false,.int .i64 0,.int .i64 0,.bool false,.bool false,.int .i64 0,.int .i64 0,.bool false,.bool false],.int .i64 (-1)]:=by
 unfold shapeOf;rw[if_pos h];rfl
theorem z8U (s:List UInt8): ¬cnt s<0:=by unfold cnt;omega
theorem Y4 (x:DInstr) (m:Mem) (hf:m.floor≤m.stk.length+1):Okv tab jh [.agg [.int .u8 x.op,.int .i64 x.a,.int .i64 x.b,.int .i64 x.c]] m (.int .i64 (err06 x)):=by
 refine ze z6E ?_
 obtain⟨stk,cur,nx,live,fl⟩:=m
 dsimp only at hf
 have hS:=fun c nz lv=>(U8 x.op ⟨stk++[cur],c,nz,lv,fl⟩ (by simp;omega)).eq
 simp only[To,List.map,go_sem,reduceCtorEq,G3,G0,G2,hS]
 rcases z9p x.op with hs|⟨a,b,c,hs⟩
 ·simp only[go_sem,reduceCtorEq,G3,G0,G2,za7 hs,show((-1:Int)<0)=True from eq_true (by decide)]
  rw[z6 rfl rfl,z8]
  exact⟨⟨_,rfl⟩,by rw[xQ];rintro⟨a,b,c,h,_⟩;rw[hs] at h;cases h⟩
 ·simp only[go_sem,reduceCtorEq,G3,G0,G2,z2j hs,z8U,(Zp x _).eq]
  rw[yw]
  simp only[go_sem,reduceCtorEq,G0,G1,G2,l03,i0,evIaddrA,Nat.zero_mul]
  by_cases hl1:x.a<lo a
  ·simp only[go_sem,G0,G2,hl1]
   rw[z6 rfl rfl,z8]
   exact⟨⟨_,rfl⟩,by rw[xQ fun h'=>by have:=((vm hs).1 h').1;unfold fitsK at this;omega]⟩
  by_cases hh1:x.a>hi a
  ·simp only[go_sem,G0,G2,hl1,i0,evIaddrA,Nat.zero_mul,hh1]
   rw[z6 rfl rfl,z8]
   exact⟨⟨_,rfl⟩,by rw[xQ fun h'=>by have:=((vm hs).1 h').1;unfold fitsK at this;omega]⟩
  simp only[go_sem,G0,G2,hl1,i0,evIaddrA,Nat.zero_mul,hh1,w01]
  rw[yw]
  simp only[go_sem,G0,G1,G2,l13,i1,evIaddrA,G6,w10]
  by_cases hl2:x.b<lo b
  ·simp only[go_sem,G0,G2,hl2]
   rw[z6 rfl rfl,z8]
   exact⟨⟨_,rfl⟩,by rw[xQ fun h'=>by have:=((vm hs).1 h').2.1;unfold fitsK at this;omega]⟩
  by_cases hh2:x.b>hi b
  ·simp only[go_sem,G3,G0,G2,hl2,i1,evIaddrA,G6,hh2]
   rw[z6 rfl rfl,z8]
   exact⟨⟨_,rfl⟩,by rw[xQ fun h'=>by have:=((vm hs).1 h').2.1;unfold fitsK at this;omega]⟩
  simp only[go_sem,G3,G0,G2,hl2,i1,evIaddrA,G6,hh2,w12]
  rw[yw]
  simp only[go_sem,G0,G1,G2,l23,i2,evIaddrA,G6,w10]
  by_cases hl3:x.c<lo c
  ·simp only[go_sem,G0,G2,hl3]
   rw[z6 rfl rfl,z8]
   exact⟨⟨_,rfl⟩,by rw[xQ fun h'=>by have:=((vm hs).1 h').2.2;unfold fitsK at this;omega]⟩
  by_cases hh3:x.c>hi c
  ·simp only[go_sem,G3,G0,G2,hl3,i2,evIaddrA,G6,hh3]
   rw[z6 rfl rfl,z8]
   exact⟨⟨_,rfl⟩,by rw[xQ fun h'=>by have:=((vm hs).1 h').2.2;unfold fitsK at this;omega]⟩
  simp only[go_sem,G3,G0,G2,hl3,i2,evIaddrA,G6,hh3,w23]
  rw[yw]
  simp only[go_sem,G0,G1,G2,l33]
  rw[z6 rfl rfl,z8]
  exact⟨⟨_,rfl⟩,by rw[kK ((vm hs).2 ⟨⟨by omega,by omega⟩,⟨by omega,by omega⟩,⟨by omega,by omega⟩⟩)]⟩
def codeOf (c:UInt8) (n:Int):List UInt8:=if c=45 then [] else if c=110∨c=103∨c=101 then minimal (zigzag n) else minimal n.toNat
def sk (x:DInstr) (k:Nat):UInt8:=(shp x.op).getD k 45
def cod6k (x:DInstr):Nat→List UInt8
 |0=>[UInt8.ofNat x.op.toNat]
 |k+1=>cod6k x k++codeOf (sk x k) (opn x k)
def cod6 (x:DInstr):List UInt8:=cod6k x 3
theorem z8s {c:UInt8} (h:letterOk c):lo c<0↔(c=110∨c=103∨c=101):=by
 unfold letterOk at h
 rcases h with rfl|rfl|rfl|rfl|rfl|rfl|rfl|rfl|rfl|rfl|rfl<;>decide
theorem z1T (c:UInt8) (m:Mem):Okv tab uB [.int .u8 c.toNat] m (.bool (decide (c=110∨c=103∨c=101))):=by
 refine ze XX ?_
 obtain⟨stk,cur,nx,live,fl⟩:=m
 have hk: ∀k:UInt8,(((c.toNat:Int))=(k.toNat:Int))↔c=k:=fun k=>by
  rw[Int.ofNat_inj,UInt8.toNat_inj]
 have e110:=hk 110
 have e103:=hk 103
 have e101:=hk 101
 simp only[ut,List.map,go_sem,reduceCtorEq,G0,G2]
 repeat' (((first|refine zp ?_ ?_|refine zk ?_ ?_|refine zl ?_ ?_|refine zi ?_ ?_|refine zj ?_ ?_)<;>intro hq)<;>simp only[go_sem,reduceCtorEq,G0,G2,hq])
 all_goals
  rw[z6 rfl rfl,z8]
  refine⟨⟨_,rfl⟩,congrArg AV.bool ?_⟩
  simp only[beq_iff_eq,beq_eq_false_iff_ne,ne_eq] at*
  rw[w3d]
  simp_all
theorem z2P {a:Int} (h:0≤a∧a<256):IsByte (UInt8.ofNat a.toNat) (.int .u8 a):=by
 have:=Xt (a:=a.toNat) (by omega)
 rwa [show((a.toNat:Nat):Int)=a by omega] at this
theorem Qv {c:UInt8} {n:Int} (hc:letterOk c) (hf:fitsK c n) (hn:in64 n):(codeOf c n).length≤10:=by
 unfold codeOf
 split
 ·simp
 ·split
  ·exact zm (jQ hn)
  ·exact zm (by unfold in64 at hn;omega)
theorem z7x {c:UInt8} {n:Int} (hc:letterOk c) (hf:fitsK c n) (hs: ¬(c=110∨c=103∨c=101)):0≤n:=by
 have h1: ¬lo c<0:=fun h=>hs ((z8s hc).1 h)
 unfold fitsK at hf;omega
theorem three {k:Nat} (h:k<3):k=0∨k=1∨k=2:=by omega
theorem ZG {x:DInstr} {a b c:UInt8} (hs:shp x.op=[a,b,c]) (h:InstrP x) (hw:WfI x) {k:Nat} (hk:k<3):letterOk (sk x k)∧fitsK (sk x k) (opn x k)∧in64 (opn x k)∧(cnt [a,b,c]≤k↔sk x k=45)∧[a,b,c][k]? =some (sk x k):=by
 obtain⟨f1,f2,f3⟩:=(vm hs).1 h
 obtain⟨l1,l2,l3,c1,c2,c3⟩:=z0X hs
 obtain⟨w1,w2,w3⟩:=hw
 unfold sk
 rw[hs]
 rcases three hk with rfl|rfl|rfl
 ·exact⟨l1,f1,w1,c1,rfl⟩
 ·exact⟨l2,f2,w2,c2,rfl⟩
 ·exact⟨l3,f3,w3,c3,rfl⟩
theorem TK {x:DInstr} {a b c:UInt8} (hs:shp x.op=[a,b,c]) (h:InstrP x) (hw:WfI x): ∀k,k≤3→(cod6k x k).length≤1+10*k
 |0,_=>by simp[cod6k]
 |k+1,hk=>by
  have ih:=TK hs h hw k (by omega)
  obtain⟨h1,h2,h3,_⟩:=ZG hs h hw (show k<3 by omega)
  have:=Qv h1 h2 h3
  simp only[cod6k,w05];omega
theorem cell3 (x:DInstr) {k:Nat} (h:k<3):takeV false 1 (([AV.int .i64 x.a,.int .i64 x.b,.int .i64 x.c]).drop k)=some (.int .i64 (opn x k)):=by
 rcases three h with rfl|rfl|rfl<;>rfl
theorem cell12 {x:DInstr} {a b c:UInt8} (hs:shp x.op=[a,b,c]) {k:Nat} (h:k<3):takeV false 1 (([.int .i64 (lo a),.int .i64 (hi a),.bool (rd a),.bool (wt a),.int .i64 (lo b),.int .i64 (hi b),.bool (rd b),.bool (wt b),.int .i64 (lo c),.int .i64 (hi c),.bool (rd c),.bool (wt c)]:List AV).drop (k*4))=some (.int .i64 (lo (sk x k))):=by
 unfold sk;rw[hs]
 rcases three h with rfl|rfl|rfl<;>rfl
theorem z3r (x:DInstr) (hop:inU8 x.op) (hw:WfI x) (hx:InstrP x) (m:Mem):Okl IsByte 1 tab tB [.agg [.int .u8 x.op,.int .i64 x.a,.int .i64 x.b,.int .i64 x.c]] m (cod6 x):=by
 refine j4 V4 ?_
 obtain⟨stk,cur,nx,live,fl⟩:=m
 have hx':=hx
 obtain⟨a,b,c,hs,_⟩:=hx'
 simp only[t6,List.map,go_sem,reduceCtorEq,G3,G0,G2,(z1u x.op _).eq,(js x _).eq,hs]
 refine za (α:=Nat) (fun k σ=>k≤3∧ ∃nz y e,Own IsByte 1 y (cod6k x k) e∧heads [3,4,5,6] 2 σ=⟨tmps 42 [(3,y),(4,.str [a,b,c]),(5,.ptr (stk++[cur]).length 1 (nx+1) 0),(6,.int .i64 k)],⟨stk++[cur],[⟨nx,[.int .u8 x.op,.int .i64 x.a,.int .i64 x.b,.int .i64 x.c]⟩,⟨nx+1,[.int .i64 x.a,.int .i64 x.b,.int .i64 x.c]⟩],nz,e::live,fl⟩⟩) (fun k=>3-k) 0 ?_ ?_
 ·refine⟨w06 _,?_⟩
  simp only[go_sem,reduceCtorEq,G0,G1]
  exact⟨_,_,[],.full (zP (z2P hop)) _,rfl⟩
 ·rintro k σ ⟨hk,nz,y,e,ho,hσ⟩
  rw[hσ]
  clear hσ σ
  dsimp only at hk⊢
  by_cases h:k<3
  ·skip
   obtain⟨hlt,hfit,hin,hcnt,hget⟩:=ZG hs hx hw h
   have hix:idx (.int .i64 (k:Int)) 3=some k:=zB .i64 k 3 h
   have hc3:=cell3 x h
   have hlen:=TK hs hx hw k (by omega)
   have hcl:=Qv hlt hfit hin
   have hlt3:((k:Int)<3)=True:=eq_true (by omega)
   have hsucc:IntKind.i64.wrap ((k:Int)+1)=((k+1:Nat):Int):=by rw[zb (by omega) (by omega)];omega
   simp only[go_sem,G3,G0,G1,G2,hlt3,hix,hget]
   by_cases h45:sk x k=45
   ·have h45':(((sk x k).toNat:Int)==45)=true:=by rw[h45];rfl
    simp only[go_sem,reduceCtorEq,G0,G2,h45',hsucc]
    refine⟨k+1,by omega,h,nz,y,e,?_,rfl⟩
    rw[cod6k,codeOf,if_pos h45,w1f];exact ho
   ·have h45':(((sk x k).toNat:Int)==45)=false:=by
     rw[beq_eq_false_iff_ne];intro e;apply h45;apply UInt8.toNat_inj.1;show(sk x k).toNat=45;omega
    by_cases hsg:sk x k=110∨sk x k=103∨sk x k=101
    ·have hcode:codeOf (sk x k) (opn x k)=minimal (zigzag (opn x k)):=by unfold codeOf;rw[if_neg h45,if_pos hsg]
     simp only[go_sem,G3,G0,G2,h45',hix,hget,(z1T _ _).eq,hsg,evIaddrA,w10,hc3,(jr _ hin _).eq]
     refine(zI _ (jQ hin) _).xv fun y1 t1 k1 ho1=> ?_
     simp only[go_sem,G0,G2]
     obtain⟨z1,hz1,hc1⟩:=ho1.elems
     rw[←hcode] at hc1
     refine(ho.push t1).xv hz1 hc1 (by omega) fun y2 k2 e2 ho2=> ?_
     simp only[go_sem,G0,G2,hsucc]
     exact⟨k+1,by omega,h,k2,y2,e2,ho2,rfl⟩
    ·have hpos:=z7x hlt hfit hsg
     have hcode:codeOf (sk x k) (opn x k)=minimal (opn x k).toNat:=by unfold codeOf;rw[if_neg h45,if_neg hsg]
     have ew:IntKind.u64.wrap (opn x k)=(((opn x k).toNat:Nat):Int):=by unfold in64 at hin;rw[zM (by omega) (by omega)];omega
     simp only[go_sem,G3,G0,G2,h45',hix,hget,(z1T _ _).eq,hsg,evIaddrA,w10,hc3,ew]
     refine(zI _ (by unfold in64 at hin;omega) _).xv fun y1 t1 k1 ho1=> ?_
     simp only[go_sem,G0,G2]
     obtain⟨z1,hz1,hc1⟩:=ho1.elems
     rw[←hcode] at hc1
     refine(ho.push t1).xv hz1 hc1 (by omega) fun y2 k2 e2 ho2=> ?_
     simp only[go_sem,G0,G2,hsucc]
     exact⟨k+1,by omega,h,k2,y2,e2,ho2,rfl⟩
  ·have:k=3:=by omega
   subst this
   simp only[go_sem,G5,G0,G1,G2,show(((3:Nat):Int)<3)=False from eq_false (by decide)]
   exact vT ho
theorem z55 (x:DInstr) (hop:inU8 x.op) (hw:WfI x) (hx:InstrP x) (m:Mem) (hf:m.floor≤m.stk.length+1):Okp IsByte 1 tab WH [.agg [.int .u8 x.op,.int .i64 x.a,.int .i64 x.b,.int .i64 x.c]] m (cod6 x) 0:=by
 refine z5D z5i ?_
 obtain⟨stk,cur,nx,live,fl⟩:=m
 dsimp only at hf
 have hf':fl≤(stk++[cur]).length+1:=by simp;omega
 have hx':=hx
 obtain⟨a,b,c,hs,_⟩:=hx'
 have hS:=fun c nz lv=>(U8 x.op ⟨stk++[cur],c,nz,lv,fl⟩ hf').eq
 have hC:=fun c nz lv=>(Y4 x ⟨stk++[cur],c,nz,lv,fl⟩ hf').eq
 rw[kK hx] at hC
 simp only[WA,List.map,go_sem,reduceCtorEq,G3,G0,G2,hC,show((0:Int) !=0)=false from rfl,hS,z2j hs,(Zp x _).eq]
 refine za (α:=Nat) (fun k σ=>k≤3∧ ∃nz st y e,Own IsByte 1 y (cod6k x k) e∧heads [5,6,7,25,26] 2 σ=⟨tmps 51 [(5,.ptr (stk++[cur]).length 1 st 0),(6,.int .i64 (cnt [a,b,c])),(7,y),(25,.agg [.int .i64 x.a,.int .i64 x.b,.int .i64 x.c]),(26,.int .i64 k)],⟨stk++[cur],[⟨nx,[.int .u8 x.op,.int .i64 x.a,.int .i64 x.b,.int .i64 x.c]⟩,⟨st,[.int .i64 (lo a),.int .i64 (hi a),.bool (rd a),.bool (wt a),.int .i64 (lo b),.int .i64 (hi b),.bool (rd b),.bool (wt b),.int .i64 (lo c),.int .i64 (hi c),.bool (rd c),.bool (wt c)]⟩],nz,e::live,fl⟩⟩) (fun k=>3-k) 0 ?_ ?_
 ·refine⟨w06 _,?_⟩
  simp only[go_sem,reduceCtorEq,G0,G1]
  exact⟨_,_,_,[],.full (zP (z2P hop)) _,rfl⟩
 ·rintro k σ ⟨hk,nz,st,y,e,ho,hσ⟩
  rw[hσ]
  clear hσ σ
  dsimp only at hk⊢
  by_cases h:k<3
  ·skip
   obtain⟨hlt,hfit,hin,hcnt,hget⟩:=ZG hs hx hw h
   have hix:idx (.int .i64 (k:Int)) 3=some k:=zB .i64 k 3 h
   have hc3:=cell3 x h
   have hlen:=TK hs hx hw k (by omega)
   have hcl:=Qv hlt hfit hin
   have hlt3:((k:Int)<3)=True:=eq_true (by omega)
   have hsucc:IntKind.i64.wrap ((k:Int)+1)=((k+1:Nat):Int):=by rw[zb (by omega) (by omega)];omega
   have hc12:=cell12 hs h
   by_cases h45:sk x k=45
   ·have hge:(k:Int)≥cnt [a,b,c]:=hcnt.2 h45
    simp only[go_sem,G0,G1,G2,hlt3,hix,w10,hc3,hge,hsucc]
    refine⟨k+1,by omega,h,nz,st,y,e,?_,rfl⟩
    rw[cod6k,codeOf,if_pos h45,w1f];exact ho
   ·have hge: ¬((k:Int)≥cnt [a,b,c]):=fun e=>h45 (hcnt.1 e)
    by_cases hsg:sk x k=110∨sk x k=103∨sk x k=101
    ·have hcode:codeOf (sk x k) (opn x k)=minimal (zigzag (opn x k)):=by unfold codeOf;rw[if_neg h45,if_pos hsg]
     have hneg:=(z8s hlt).2 hsg
     simp only[go_sem,G0,G1,G2,hlt3,hix,w10,hc3,hge,evIaddrA,hc12,hneg]
     refine(TX _ hin _ _ _ _ _ hf').xv fun y1 t1 k1 ho1=> ?_
     simp only[go_sem,G0,G2]
     obtain⟨z1,hz1,hc1⟩:=ho1.elems
     rw[←hcode] at hc1
     refine(ho.push t1).xv hz1 hc1 (by omega) fun y2 k2 e2 ho2=> ?_
     simp only[go_sem,G0,G2,hsucc]
     exact⟨k+1,by omega,h,k2,st,y2,e2,ho2,rfl⟩
    ·have hpos:=z7x hlt hfit hsg
     have hneg: ¬lo (sk x k)<0:=fun e=>hsg ((z8s hlt).1 e)
     have hcode:codeOf (sk x k) (opn x k)=minimal (opn x k).toNat:=by unfold codeOf;rw[if_neg h45,if_neg hsg]
     have ew:IntKind.u64.wrap (opn x k)=(((opn x k).toNat:Nat):Int):=by unfold in64 at hin;rw[zM (by omega) (by omega)];omega
     simp only[go_sem,G0,G1,G2,hlt3,hix,w10,hc3,hge,evIaddrA,hc12,hneg,ew]
     refine(jb _ (by unfold in64 at hin;omega) _ _ _ _ _ hf').xv fun y1 t1 k1 ho1=> ?_
     simp only[go_sem,G0,G2]
     obtain⟨z1,hz1,hc1⟩:=ho1.elems
     rw[←hcode] at hc1
     refine(ho.push t1).xv hz1 hc1 (by omega) fun y2 k2 e2 ho2=> ?_
     simp only[go_sem,G0,G2,hsucc]
     exact⟨k+1,by omega,h,k2,st,y2,e2,ho2,rfl⟩
  ·have:k=3:=by omega
   subst this
   simp only[go_sem,G5,G0,G1,G2,show(((3:Nat):Int)<3)=False from eq_false (by decide)]
   exact XB ho
def letter (c:Nat):Bool:=(decide (97≤c)&&decide (c≤122))||(decide (65≤c)&&decide (c≤90))
def alnum (c:Nat):Bool:=letter c||(decide (48≤c)&&decide (c≤57))
def named (s:List UInt8):Bool:=decide (1≤s.length)&&decide (s.length≤16)&&letter (s.headD 0).toNat&&s.all fun c=>alnum c.toNat
theorem z0z {s:List UInt8} {i:Nat} (h:i<s.length) (hc:alnum s[i].toNat=false):named s=false:=by
 have:(s.all fun c=>alnum c.toNat)=false:=by
  rw[Bool.eq_false_iff];intro ha;rw[w49] at ha;rw[ha _ (w04 h)] at hc;cases hc
 simp[named,this]
theorem z0J {s:List UInt8} (h:0<s.length):s.headD 0=s[0]:=by
 cases s with
 |nil=>simp at h
 |cons a r=>rfl
theorem z70 {s:List UInt8} (h1:0<s.length) (h2:s.length≤16) (h3:letter s[0].toNat=true) (h4: ∀c∈s,alnum c.toNat=true):named s=true:=by
 have:(s.all fun c=>alnum c.toNat)=true:=w49.2 h4
 have h5:1≤s.length:=h1
 unfold named
 rw[this,z0J h1,h3,decide_eq_true h2,decide_eq_true h5];rfl
theorem jp (c:Nat) (m:Mem):Okv tab yT [.int .u8 c] m (.bool (letter c)):=by
 refine ze XY ?_
 obtain⟨stk,cur,nx,live,fl⟩:=m
 simp only[uu,List.map,go_sem,reduceCtorEq,G0,G2]
 repeat' (((first|refine zp ?_ ?_|refine zk ?_ ?_|refine zl ?_ ?_|refine zi ?_ ?_|refine zj ?_ ?_)<;>intro hq)<;>simp only[go_sem,reduceCtorEq,G0,G2,hq])
 all_goals
  rw[z6 rfl rfl,z8]
  refine⟨⟨_,rfl⟩,?_⟩
  simp only[decide_eq_true_eq,decide_eq_false_iff_not] at*
  unfold letter
  congr 1
  grind
theorem jL (s:List UInt8) (hs:s.length≤9223372036854775807) (m:Mem):Okv tab ve [.str s] m (.bool (named s)):=by
 refine ze V8 ?_
 obtain⟨stk,cur,nx,live,fl⟩:=m
 have hL: ∃K:Nat→Mem→Nat,∀(c:Nat) m,CALL tab yT [.int .u8 c] m=some (.bool (letter c),m.bump (K c m)):=
  ⟨fun c m=>(jp c m).choose,fun c m=>(jp c m).choose_spec⟩
 obtain⟨K,hK⟩:=hL
 simp only[te,List.map,go_sem,reduceCtorEq,G0,G2]
 by_cases h0:s.length<1
 ·have h0':(s.length:Int)<1:=by omega
  simp only[go_sem,reduceCtorEq,G0,G2,h0']
  rw[z6 rfl rfl,z8]
  exact⟨⟨_,rfl⟩,by simp[named,show¬1≤s.length by omega]⟩
 have h0': ¬(s.length:Int)<1:=by omega
 by_cases h1:s.length>16
 ·have h1':(s.length:Int)>16:=by omega
  simp only[go_sem,reduceCtorEq,G0,G2,h0',h1']
  rw[z6 rfl rfl,z8]
  exact⟨⟨_,rfl⟩,by simp[named,show¬s.length≤16 by omega]⟩
 have h1': ¬(s.length:Int)>16:=by omega
 have hi0:idx (.int .i64 0) s.length=some 0:=zB .i64 0 _ (by omega)
 have hg0:s[0]? =some s[0]:=w11 (by omega)
 cases h2:letter s[0].toNat
 ·simp only[go_sem,reduceCtorEq,G0,G2,h0',h1',hi0,hg0,hK,h2]
  rw[z6 rfl rfl,z8]
  exact⟨⟨_,rfl⟩,by simp only[named,z0J (show 0<s.length by omega),h2];simp⟩
 ·simp only[go_sem,reduceCtorEq,G0,G2,h0',h1',hi0,hg0,hK,h2]
  refine za (α:=Nat) (fun i σ=>(i≤s.length∧ ∀c∈s.take i,alnum c.toNat=true)∧ ∃nz,heads [0,3] 0 σ=⟨tmps 41 [(0,.str s),(3,.int .i64 i)],⟨stk++[cur],[],nz,[]::live,fl⟩⟩) (fun i=>s.length-i) 0 ?_ ?_
  ·refine⟨⟨w06 _,by simp⟩,?_⟩
   simp only[go_sem,reduceCtorEq,G0,G1]
   exact⟨_,rfl⟩
  ·rintro i σ ⟨⟨hi,ht⟩,nz,hσ⟩
   rw[hσ]
   clear hσ σ
   dsimp only at hi ht⊢
   by_cases h:i<s.length
   ·have hg:s[i]? =some s[i]:=w11 h
    cases hc:alnum s[i].toNat
    ·have hc':=hc
     simp only[alnum,w3a] at hc'
     simp only[go_sem,reduceCtorEq,G0,G1,G2,w02,h,zB,hg,hK,hc'.1]
     have hidx:=zB .i64 i _ h
     repeat' (((first|refine zp ?_ ?_|refine zk ?_ ?_|refine zl ?_ ?_|refine zi ?_ ?_|refine zj ?_ ?_)<;>intro hq)<;>simp only[go_sem,reduceCtorEq,G0,G2,hq,hidx,hg])
     all_goals first
      |(rw[z6 rfl rfl,z8];exact⟨⟨_,rfl⟩,by rw[z0z h hc]⟩)
      |(exfalso;simp only[decide_eq_false_iff_not,Bool.and_eq_false_iff] at*;omega)
    ·have hn:=zo (P:=fun c:UInt8=>alnum c.toNat=true) h ht hc
     have hc':=hc
     simp only[alnum] at hc'
     cases hl:letter s[i].toNat
     ·rw[hl] at hc'
      simp only[Bool.false_or,w0f,decide_eq_true_eq] at hc'
      simp only[go_sem,reduceCtorEq,G0,G1,G2,w02,h,zB,hg,hK,hl,show¬(s[i].toNat:Int)<48 by omega,show¬(s[i].toNat:Int)>57 by omega,zd h hs]
      exact⟨i+1,by omega,⟨h,hn⟩,_,rfl⟩
     ·simp only[go_sem,reduceCtorEq,G0,G1,G2,w02,h,zB,hg,hK,hl,zd h hs]
      exact⟨i+1,by omega,⟨h,hn⟩,_,rfl⟩
   ·have:i=s.length:=by omega
    subst this
    rw[w08] at ht
    simp only[go_sem,reduceCtorEq,G0,G1,G2,w02,h]
    rw[z6 rfl rfl,z8]
    exact⟨⟨_,rfl⟩,by rw[z70 (by omega) (by omega) h2 ht]⟩
theorem z7k: ∀c:Fin 256,((decide (IntKind.u8.wrap ((BitVec.ofInt 8 (c.val:Int)|||BitVec.ofInt 8 32).toNat:Int)<97)||decide (IntKind.u8.wrap ((BitVec.ofInt 8 (c.val:Int)|||BitVec.ofInt 8 32).toNat:Int)>122)||(IntKind.u8.wrap ((BitVec.ofInt 8 (c.val:Int)&&&BitVec.ofInt 8 64).toNat:Int)==0))&&(decide ((c.val:Int)<48)||decide ((c.val:Int)>57)))= !(alnum c.val):=by decide+kernel
theorem z8z {c:Nat} (hc:c<256): ∃a b:Int,evBits .or .u8 (c:Int) 32=some (.int .u8 a)∧evBits .and .u8 (c:Int) 64=some (.int .u8 b)∧
  ((decide (a<97)||decide (a>122)||(b==0))&&(decide ((c:Int)<48)||decide ((c:Int)>57)))= !(alnum c):=⟨_,_,rfl,rfl,z7k ⟨c,hc⟩⟩
theorem z0g {c:Nat} (h:alnum c=true):letter c=decide (57<c):=by
 unfold alnum letter at*
 grind
theorem Yc (s:List UInt8) (m:Mem):Okv tab uI [.str s] m (.bool (named s)):=by
 refine ze z3C ?_
 obtain⟨stk,cur,nx,live,fl⟩:=m
 simp only[YM,List.map,go_sem,reduceCtorEq,G0,G2]
 by_cases h0:(s.length:Int)=0
 ·have h0':((s.length:Int)==0)=true:=by simp[h0]
  simp only[go_sem,reduceCtorEq,G0,G2,h0']
  rw[z6 rfl rfl,z8]
  exact⟨⟨_,rfl⟩,by simp[named,show¬1≤s.length by omega]⟩
 have h0':((s.length:Int)==0)=false:=by simpa using h0
 by_cases h1:s.length>16
 ·have h1':(s.length:Int)>16:=by omega
  simp only[go_sem,reduceCtorEq,G0,G2,h0',h1']
  rw[z6 rfl rfl,z8]
  exact⟨⟨_,rfl⟩,by simp[named,show¬s.length≤16 by omega]⟩
 have h1': ¬(s.length:Int)>16:=by omega
 have hp:0<s.length:=by omega
 have hi0:idx (.int .i64 0) s.length=some 0:=zB .i64 0 _ (by omega)
 have hg0:s[0]? =some s[0]:=w11 (by omega)
 by_cases h2:(s[0].toNat:Int)≤57
 ·simp only[go_sem,reduceCtorEq,G0,G2,h0',h1',hi0,hg0,h2]
  rw[z6 rfl rfl,z8]
  refine⟨⟨_,rfl⟩,?_⟩
  cases ha:alnum s[0].toNat
  ·rw[z0z hp ha]
  ·have:=z0g ha
   rw[decide_eq_false (by omega)] at this
   simp only[named,z0J hp,this];simp
 ·simp only[go_sem,reduceCtorEq,G0,G2,h0',h1',hi0,hg0,h2,show s.length≤140737488355328 by omega]
  have hs:IsSl IsByte 1 s (.list 1 (.id nx) (ofBytes s)):= .mk (Za s) (by omega)
  simp only[go_sem,hs.len]
  refine za (α:=Nat) (fun i σ=>(i≤s.length∧ ∀c∈s.take i,alnum c.toNat=true)∧ ∃nz,heads [19,20,21] 0 σ=⟨tmps 47 [(19,.list 1 (.id nx) (ofBytes s)),(20,.int .i64 s.length),(21,.int .i64 i)],⟨stk++[cur],[],nz,[nx]::live,fl⟩⟩) (fun i=>s.length-i) 0 ?_ ?_
  ·refine⟨⟨w06 _,by simp⟩,?_⟩
   simp only[go_sem,reduceCtorEq,G0,G1]
   exact⟨_,rfl⟩
  ·rintro i σ ⟨⟨hi,ht⟩,nz,hσ⟩
   rw[hσ]
   clear hσ σ
   dsimp only at hi ht⊢
   by_cases h:i<s.length
   ·have e1:nth (.list 1 (.id nx) (ofBytes s)) i= .int .u8 s[i].toNat:=hs.nth h
    obtain⟨a,b,q1,q2,q3⟩:=z8z (UInt8.toNat_lt s[i])
    simp only[go_sem,G0,G1,G2,w02,h,hs.at _ h,e1,q1]
    cases hc:alnum s[i].toNat
    ·rw[hc] at q3
     have hat:=hs.at .i64 h
     repeat' (((first|refine zp ?_ ?_|refine zk ?_ ?_|refine zl ?_ ?_|refine zi ?_ ?_|refine zj ?_ ?_)<;>intro hq)<;>simp only[go_sem,G0,G2,hq,q1,q2])
     all_goals first
      |(rw[z6 rfl rfl,z8];exact⟨⟨_,rfl⟩,by rw[z0z (by assumption) hc]⟩)
      |(exfalso;simp_all;done)
    ·have hn:=zo (P:=fun c:UInt8=>alnum c.toNat=true) h ht hc
     have hsucc:=zd h hs.max
     rw[hc] at q3
     have hat:=hs.at .i64 h
     repeat' (((first|refine zp ?_ ?_|refine zk ?_ ?_|refine zl ?_ ?_|refine zi ?_ ?_|refine zj ?_ ?_)<;>intro hq)<;>simp only[go_sem,G0,G2,hq,q1,q2,hsucc])
     all_goals first
      |exact⟨i+1,by omega,⟨by assumption,hn⟩,_,rfl⟩
      |(exfalso;simp_all;done)
   ·have:i=s.length:=by omega
    subst this
    rw[w08] at ht
    simp only[go_sem,G0,G1,G2,w02,h]
    rw[z6 rfl rfl,z8]
    refine⟨⟨_,rfl⟩,?_⟩
    have:=z0g (ht s[0] (w04 hp))
    rw[decide_eq_true (by omega)] at this
    rw[z70 hp (by omega) this ht]
end Go.Proofs.W
end
section
namespace Go.Vs
section
variable {P : Program} {n t : Nat} {xs : List AV}
def fieldI (P:Program) (t i:Nat):Option (Nat×Nat):=
 match P.underlying t with
 |some (.struct fs)=>(fs[i]?).map fun f=>(f.type,f.offset)
 |_=>none
theorem zE {i ft off c:Nat} (h:Typed P (n+1) t xs) (e:fieldI P t i=some (ft,off)) (hc:P.cellsOf ft=c):Typed P n ft ((xs.drop off).take c):=by
 unfold fieldI at e
 split at e
 ·rename_i fs hu
  simp only[Typed,hu] at h
  simp only[w03,Prod.mk.injEq] at e
  obtain⟨f,hf,rfl,rfl⟩:=e
  have:=h.2 f (by simpa using Array.mem_of_getElem? hf)
  rw[hc] at this
  exact this
 ·cases e
theorem Zg {c:Nat} (h:Typed P (n+1) t xs) (e:(fieldI P t 0).isSome=true) (hc:P.cellsOf t=c):xs.length=c:=by
 unfold fieldI at e
 split at e
 ·rename_i fs hu
  simp only[Typed,hu] at h
  rw[←hc];exact h.1
 ·cases e
theorem z0s {k:IntKind} (h:Typed P (n+1) t xs) (hu:P.underlying t=some (.int k)): ∃i,xs=[.int k i]∧(Lit.int k i).wf=true:=by
 simp only[Typed,hu] at h
 exact h
theorem za4 (h:Typed P (n+1) t xs) (hu:P.underlying t=some .string): ∃s,xs=[.str s]∧s.length≤maxLen:=by
 simp only[Typed,hu] at h
 exact h
theorem tL {α:Type} {R:α→AV→Prop} {e s:Nat} (h:Typed P (n+1) t xs) (hu:P.underlying t=some (.slice e)) (hs:P.cellsOf e=s) (hR: ∀y,IsElem P e y→Typed P n e y.cells→ ∃d,R d y): ∃d y,xs=[y]∧IsSl R s d y:=by
 simp only[Typed,hu] at h
 rcases h with rfl|⟨ys,rfl,hl,hy⟩
 ·exact⟨[],_,rfl,.nil s⟩
 ·obtain⟨d,hd⟩:=All2.of_each (R:=R) ys fun y hm=>hR y (hy y hm).1 (hy y hm).2
  refine⟨d,_,rfl,?_⟩
  rw[hs]
  exact .mk hd (by rw[←hd.len];exact hl)
theorem zdL {n:Int} (h:(Lit.int .i64 n).wf=true):in64 n:=by
 simp[Lit.wf,IntKind.min,IntKind.max,IntKind.signed,IntKind.bits] at h
 unfold in64;omega
theorem zcj {n:Int} (h:(Lit.int .u64 n).wf=true):inU64 n:=by
 simp[Lit.wf,IntKind.min,IntKind.max,IntKind.signed,IntKind.bits] at h
 unfold inU64;omega
theorem zdK {n:Int} (h:(Lit.int .u8 n).wf=true):inU8 n:=by
 simp[Lit.wf,IntKind.min,IntKind.max,IntKind.signed,IntKind.bits] at h
 unfold inU8;omega
theorem jV {α:Type} {R:α→AV→Prop} {W:α→Prop} {s:Nat} {xs:List α} {y:AV} (h:IsSl (fun d y=>R d y∧W d) s xs y):IsSl R s xs y∧ ∀x∈xs,W x:=by
 refine⟨h.mono fun _ _ _ h=>h.1,fun x hx=> ?_⟩
 obtain⟨i,hi,rfl⟩:=List.mem_iff_getElem.1 hx
 exact(h.nth hi).2
theorem yh: ¬Typed P 0 t xs:=fun h=>h
theorem XD {e:Nat} {y:AV} (h:IsElem P e y) (ha:aggT P e=some true): ∃cs,y= .agg cs:=by
 unfold IsElem at h;rw[if_pos ha] at h;exact h
theorem XC {e:Nat} {y:AV} (h:IsElem P e y) (ha:aggT P e=some false):y.cells=[y]:=by
 unfold IsElem at h;rw[if_neg (by rw[ha];simp)] at h;exact h
end
end Go.Vs
end
section
namespace Go.Proofs.W
open Go.Vs
set_option linter.unusedSimpArgs false
set_option maxRecDepth 100000
theorem z1O (n:Int) (m:Mem):Okv tab ub [.int .i64 n] m (.bool (n !=0)):=by
 refine ze z28 ?_
 obtain⟨stk,cur,nx,live,fl⟩:=m
 simp only[ZN,List.map,go_sem,reduceCtorEq,G0,G2]
 rw[z6 rfl rfl,z8]
 exact⟨⟨_,rfl⟩,rfl⟩
theorem z1h (xs:List Int) (x:AV) (hx:IsSl (IsK .i64) 1 xs x) (m:Mem):
  Ok tab yV [x,.fn (.func ub) [] []] m (fun r=> ∃n:Int,r= .int .i64 n∧decide (n≥0)=xs.any (· !=0)):=by
 refine z6V tM ?_
 obtain⟨stk,cur,nx,live,fl⟩:=m
 simp only[yR,List.map,go_sem,reduceCtorEq,G3,G0,G2,hx.len]
 refine za (α:=Nat) (fun i σ=>(i≤xs.length∧ ∀c∈xs.take i,(c !=0)=false)∧ ∃nz,heads [0,1,7,8] 0 σ=⟨tmps 19 [(0,x),(1,.fn (.func ub) [] []),(7,.int .i64 xs.length),(8,.int .i64 i)],⟨stk++[cur],[],nz,[]::live,fl⟩⟩) (fun i=>xs.length-i) 0 ?_ ?_
 ·refine⟨⟨w06 _,by simp⟩,?_⟩
  simp only[go_sem,reduceCtorEq,G0,G1]
  exact⟨_,rfl⟩
 ·rintro i σ ⟨⟨hi,ht⟩,nz,hσ⟩
  rw[hσ]
  clear hσ σ
  dsimp only at hi ht⊢
  by_cases h:i<xs.length
  ·have e1:nth x i= .int .i64 xs[i]:=hx.nth h
   simp only[go_sem,reduceCtorEq,G0,G1,G2,w02,h,hx.at _ h,e1,(z1O _ _).eq]
   cases hc:(xs[i] !=0)
   ·simp only[go_sem,reduceCtorEq,G0,G2,zd h hx.max]
    exact⟨i+1,by omega,⟨h,zo (P:=fun c=>(c !=0)=false) h ht hc⟩,_,rfl⟩
   ·simp only[go_sem,reduceCtorEq,G0,G2]
    rw[z6 rfl rfl,z8]
    refine⟨⟨_,rfl⟩,_,rfl,?_⟩
    rw[List.any_eq_true.2 ⟨_,w04 h,hc⟩]
    simp
  ·have:i=xs.length:=by omega
   subst this
   rw[w08] at ht
   simp only[go_sem,reduceCtorEq,G0,G1,G2,w02,h]
   rw[z6 rfl rfl,z8]
   refine⟨⟨_,rfl⟩,_,rfl,?_⟩
   rw[List.any_eq_false.2 fun c hc=>by rw[ht c hc];simp]
   rfl
theorem Qg (xs:List Int) (x:AV) (hx:IsSl (IsK .i64) 1 xs x) (m:Mem):
  Okv tab zU [x,.fn (.func ub) [] []] m (.bool (xs.any (· !=0))):=by
 refine ze ud ?_
 obtain⟨stk,cur,nx,live,fl⟩:=m
 simp only[yu,List.map,go_sem,reduceCtorEq,G3,G0,G2]
 obtain⟨r,k,h1,n,rfl,h2⟩:=z1h xs x hx ⟨stk++[cur],[],nx,[]::live,fl⟩
 simp only[go_sem,reduceCtorEq,G0,G2,h1,h2]
 rw[z6 rfl rfl,z8]
 exact⟨⟨_,rfl⟩,rfl⟩
theorem XN (xs:List Int) (x:AV) (hx:IsSl (IsK .i64) 1 xs x) (m:Mem):Okv tab yG [x] m (.bool (!xs.any (· !=0))):=by
 refine ze z5k ?_
 obtain⟨stk,cur,nx,live,fl⟩:=m
 simp only[WC,List.map,go_sem,reduceCtorEq,G0,G2,(Qg xs x hx _).eq]
 rw[z6 rfl rfl,z8]
 exact⟨⟨_,rfl⟩,rfl⟩
theorem zcR (a:Int) (m:Mem):Okv tab yG [.list 1 .full [.int .i64 a]] m (.bool (pb (a=0))):=by
 have hh:IsSl (IsK .i64) 1 [a] (.list 1 .full [.int .i64 a]):= .mk (ys:=[.int .i64 a]) ⟨rfl,trivial⟩ (by simp)
 have:=XN [a] _ hh m
 have e:(!([a]:List Int).any (· !=0))=pb (a=0):=kY (by simp)
 rw[e] at this;exact this
theorem zcQ (a b:Int) (m:Mem):Okv tab yG [.list 1 .full [.int .i64 a,.int .i64 b]] m (.bool (pb (a=0∧b=0))):=by
 have hh:IsSl (IsK .i64) 1 [a,b] (.list 1 .full [.int .i64 a,.int .i64 b]):= .mk (ys:=[.int .i64 a,.int .i64 b]) ⟨rfl,rfl,trivial⟩ (by simp)
 have:=XN [a,b] _ hh m
 have e:(!([a,b]:List Int).any (· !=0))=pb (a=0∧b=0):=kY (by simp)
 rw[e] at this;exact this
theorem zcP (a b c:Int) (m:Mem):Okv tab yG [.list 1 .full [.int .i64 a,.int .i64 b,.int .i64 c]] m (.bool (pb (a=0∧b=0∧c=0))):=by
 have hh:IsSl (IsK .i64) 1 [a,b,c] (.list 1 .full [.int .i64 a,.int .i64 b,.int .i64 c]):= .mk (ys:=[.int .i64 a,.int .i64 b,.int .i64 c]) ⟨rfl,rfl,rfl,trivial⟩ (by simp)
 have:=XN [a,b,c] _ hh m
 have e:(!([a,b,c]:List Int).any (· !=0))=pb (a=0∧b=0∧c=0):=kY (by simp)
 rw[e] at this;exact this
theorem z1Q (a b:Int) (m:Mem):Okv tab qv [.int .i64 a,.int .i64 b] m (.bool (pb (0≤a∧a<b))):=by
 refine ze z2a ?_
 obtain⟨stk,cur,nx,live,fl⟩:=m
 simp only[ZP,List.map,go_sem,reduceCtorEq,G3,G0,G2]
 repeat' (((first|refine zp ?_ ?_|refine zk ?_ ?_|refine zl ?_ ?_|refine zi ?_ ?_|refine zj ?_ ?_)<;>intro hq)<;>simp only[go_sem,reduceCtorEq,G0,G2,hq])
 all_goals
  rw[z6 rfl rfl,z8]
  refine⟨⟨_,rfl⟩,?_⟩
  refine congrArg AV.bool (kY ?_)
  grind
def FieldsP (l:List DField) (most:Int):Prop:=(l.length:Int)≤most∧(∀f∈l,named f.name=true)∧(l.map DField.name).Nodup
theorem Zy {α:Type} {l:List α} {i:Nat} (h:i<l.length) (h1:(l.take i).Nodup) (h2: ∀x∈l.take i,x≠l[i]):(l.take (i+1)).Nodup:=by
 rw[w0d h,w57]
 refine⟨h1,by simp,fun a ha b hb=> ?_⟩
 simp at hb;rw[hb];exact h2 a ha
theorem Xa {α:Type} {l:List α} {i k:Nat} (hk:k<i) (h:i<l.length) (he:l[k]=l[i]): ¬l.Nodup:=fun hn=>by
 have:=(List.nodup_iff_pairwise_ne.1 hn)
 rw[List.pairwise_iff_getElem] at this
 exact this k i (by omega) h hk he
theorem jq (xs:List DField) (most:Int) (x:AV) (hx:IsSl IsField 2 xs x) (hm: ∀f∈xs,f.name.length≤9223372036854775807) (m:Mem):Okv tab yU [x,.int .i64 most] m (.bool (pb (FieldsP xs most))):=by
 refine ze XZ ?_
 obtain⟨stk,cur,nx,live,fl⟩:=m
 simp only[uv,List.map,go_sem,reduceCtorEq,G3,G0,G2,hx.len]
 by_cases hb:(xs.length:Int)>most
 ·simp only[go_sem,reduceCtorEq,G0,G2,hb]
  rw[z6 rfl rfl,z8]
  exact⟨⟨_,rfl⟩,by rw[zg fun h=>by have:=h.1;omega]⟩
 simp only[go_sem,hb]
 have hml:(xs.map DField.name).length=xs.length:=by simp
 refine za (α:=Nat) (fun i σ=>(i≤xs.length∧(∀c∈xs.take i,named c.name=true)∧((xs.map DField.name).take i).Nodup)∧ ∃nz,heads [0,5] 0 σ=⟨tmps 40 [(0,x),(5,.int .i64 i)],⟨stk++[cur],[],nz,[]::live,fl⟩⟩) (fun i=>xs.length-i) 0 ?_ ?_
 ·refine⟨⟨w06 _,by simp,by simp⟩,?_⟩
  simp only[go_sem,reduceCtorEq,G0,G1]
  exact⟨_,rfl⟩
 ·rintro i σ ⟨⟨hi,ht,hd⟩,nz,hσ⟩
  rw[hσ]
  clear hσ σ
  dsimp only at hi ht hd⊢
  by_cases h:i<xs.length
  ·have e1:nth x i= .agg [.str xs[i].name,.int .i64 xs[i].typ]:=hx.nth h
   simp only[go_sem,reduceCtorEq,G0,G1,G2,w02,h,hx.len,hx.at _ h,e1,(jL _ (hm _ (w04 h)) _).eq]
   cases hc:named xs[i].name
   ·simp only[go_sem,reduceCtorEq,G0,G2]
    rw[z6 rfl rfl,z8]
    exact⟨⟨_,rfl⟩,by rw[zg fun h'=>by have:=h'.2.1 _ (w04 h);rw[hc] at this;cases this]⟩
   ·simp only[go_sem]
    refine za (α:=Nat) (fun k σ=>(k≤i∧ ∀c∈(xs.map DField.name).take k,c≠xs[i].name)∧ ∃nz,heads [0,5,6] 0 σ=⟨tmps 40 [(0,x),(5,.int .i64 i),(6,.int .i64 k)],⟨stk++[cur],[],nz,[]::live,fl⟩⟩) (fun k=>i-k) 0 ?_ ?_
    ·refine⟨⟨w06 _,by simp⟩,?_⟩
     simp only[go_sem,reduceCtorEq,G0,G1]
     exact⟨_,rfl⟩
    ·rintro k σ ⟨⟨hk,hks⟩,nz,hσ⟩
     rw[hσ]
     clear hσ σ
     dsimp only at hk hks⊢
     by_cases hki:k<i
     ·have hkl:k<xs.length:=by omega
      have e2:nth x k= .agg [.str xs[k].name,.int .i64 xs[k].typ]:=hx.nth hkl
      simp only[go_sem,reduceCtorEq,G0,G1,G2,w02,hki,hx.at _ hkl,e2,hx.at _ h,e1,evStr]
      by_cases hq:xs[k].name=xs[i].name
      ·have hq':(xs[k].name==xs[i].name)=true:=by simp[hq]
       simp only[go_sem,reduceCtorEq,G0,G2,hq']
       rw[z6 rfl rfl,z8]
       exact⟨⟨_,rfl⟩,by rw[zg fun h'=>Xa hki (by rw[hml];exact h) (by simpa using hq) h'.2.2]⟩
      ·have hq':(xs[k].name==xs[i].name)=false:=by simpa using hq
       simp only[go_sem,reduceCtorEq,G0,G2,hq',zd hkl hx.max]
       exact⟨k+1,by omega,⟨hki,zo (P:=fun c=>c≠xs[i].name) (by rw[hml];exact hkl) hks (by simpa using hq)⟩,_,rfl⟩
     ·have:k=i:=by omega
      subst this
      simp only[go_sem,reduceCtorEq,G0,G1,G2,w02,hki,zd h hx.max]
      refine⟨k+1,by omega,⟨h,zo (P:=fun c=>named c.name=true) h ht hc,?_⟩,_,rfl⟩
      exact Zy (by rw[hml];exact h) hd (by simpa using hks)
  ·have:i=xs.length:=by omega
   subst this
   rw[w08] at ht
   rw[←hml,w08] at hd
   simp only[go_sem,reduceCtorEq,G0,G1,G2,w02,h,hx.len]
   rw[z6 rfl rfl,z8]
   exact⟨⟨_,rfl⟩,by rw[zF ⟨by omega,ht,hd⟩]⟩
def StructP (i:Nat) (t:DTyp):Prop:=(∀f∈t.fields,0≤f.typ∧f.typ<i)∧t.elem=0∧t.len=0∧0<t.fields.length∧FieldsP t.fields 8
def FineT (n i:Nat) (t:DTyp):Prop:=
 ((t.kind=1∨t.kind=2∨t.kind=3)∧t.elem=0∧t.len=0∧t.fields.length=0)∨((t.kind=4∨t.kind=7)∧0≤t.elem∧t.elem<n∧t.len=0∧t.fields.length=0)∨
 (t.kind=6∧0≤t.elem∧t.elem<i∧1≤t.len∧t.len≤16∧t.fields.length=0)∨(t.kind=5∧StructP i t)
theorem tQ {n i:Nat} {t:DTyp} (h:t.kind=5):FineT n i t↔StructP i t:=by
 unfold FineT;rw[h];simp
theorem b51:((5:Int)==1)=false:=rfl
theorem b52:((5:Int)==2)=false:=rfl
theorem b53:((5:Int)==3)=false:=rfl
theorem b54:((5:Int)==4)=false:=rfl
theorem b56:((5:Int)==6)=false:=rfl
theorem b57:((5:Int)==7)=false:=rfl
def NamesOk (l:List DField):Prop:= ∀f∈l,f.name.length≤9223372036854775807
theorem U6 (xs:List DTyp) (x:AV) (hx:IsSl IsTyp 4 xs x) (i:Nat) (hi:i<xs.length) (hn:NamesOk xs[i].fields) (m:Mem):
  Okv tab qo [x,.int .i64 i] m (.bool (pb (FineT xs.length i xs[i]))):=by
 refine ze Uv ?_
 obtain⟨stk,cur,nx,live,fl⟩:=m
 obtain⟨v,e1,q1⟩:=hx.nth hi
 have hlen:=hx.len
 have hat:=hx.at .i64 hi
 have hm:=hx.max
 generalize ht:xs[i]=t at*
 clear ht
 generalize hxn:xs.length=n at*
 obtain⟨kind,elem,len,fields⟩:=t
 dsimp only at e1 q1 hn
 simp only[qg,List.map,go_sem,reduceCtorEq,G3,G0,G2,hat,e1,q1.one]
 by_cases hk:kind=5
 ·subst hk
  simp only[go_sem,reduceCtorEq,G0,G2,b51,b52,b53,b54,b56,b57]
  refine za (α:=Nat) (fun k σ=>(k≤fields.length∧ ∀f∈fields.take k,0≤f.typ∧f.typ<i)∧ ∃nz,heads [1,5,6] 1 σ=⟨tmps 127 [(1,.int .i64 i),(5,.ptr (stk++[cur]).length 0 nx 0),(6,.int .i64 k)],⟨stk++[cur],[⟨nx,[.int .u8 5,.int .i64 elem,.int .i64 len,v]⟩],nz,[]::live,fl⟩⟩) (fun k=>fields.length-k) 0 ?_ ?_
  ·refine⟨⟨w06 _,by simp⟩,?_⟩
   simp only[go_sem,reduceCtorEq,G0,G1]
   exact⟨_,rfl⟩
  ·rintro k σ ⟨⟨hk,hks⟩,nz,hσ⟩
   rw[hσ]
   clear hσ σ
   dsimp only at hk hks⊢
   by_cases h:k<fields.length
   ·have e2:nth v k= .agg [.str fields[k].name,.int .i64 fields[k].typ]:=q1.nth h
    have hat2:=q1.at .i64 h
    have hlen2:=q1.len
    have hsucc:=zd h q1.max
    simp only[go_sem,G0,G1,G2,w02,h,hlen2,hat2,e2]
    by_cases hf:0≤fields[k].typ∧fields[k].typ<i
    ·have hkn:=zo (P:=fun f=>0≤f.typ∧f.typ<i) h hks hf
     simp only[go_sem,G0,G2,show¬fields[k].typ<0 by omega,show¬fields[k].typ≥i by omega,hat2,e2,hsucc]
     exact⟨k+1,by omega,⟨h,hkn⟩,_,rfl⟩
    ·repeat' (((first|refine zp ?_ ?_|refine zk ?_ ?_|refine zl ?_ ?_|refine zi ?_ ?_|refine zj ?_ ?_)<;>intro hq)<;>simp only[go_sem,G0,G2,hq,hat2,e2])
     all_goals first
      |(rw[z6 rfl rfl,z8];exact⟨⟨_,rfl⟩,by rw[zg fun h'=>hf (((tQ rfl).1 h').1 _ (w04 h))]⟩)
      |(exfalso;simp only[decide_eq_false_iff_not] at*;omega)
   ·have:k=fields.length:=by omega
    subst this
    rw[w08] at hks
    have hF: ∀m,CALL tab yU [v,.int .i64 8] m=_:=fun m=>(jq fields 8 v q1 hn m).eq
    simp only[go_sem,reduceCtorEq,G0,G1,G2,w02,h,q1.len]
    repeat' (((first|refine zp ?_ ?_|refine zk ?_ ?_|refine zl ?_ ?_|refine zi ?_ ?_|refine zj ?_ ?_)<;>intro hq)<;>simp only[go_sem,G0,G2,hq,q1.len,hF])
    all_goals
     rw[z6 rfl rfl,z8]
     refine⟨⟨_,rfl⟩,congrArg AV.bool (kY ?_)⟩
     rw[tQ rfl]
     unfold StructP
     simp only[decide_eq_true_eq,decide_eq_false_iff_not,beq_iff_eq,beq_eq_false_iff_ne,W4] at*
     grind
 ·have hk5:(kind==5)=false:=by simpa using hk
  repeat' (((first|refine zp ?_ ?_|refine zk ?_ ?_|refine zl ?_ ?_|refine zi ?_ ?_|refine zj ?_ ?_)<;>intro hq)<;>simp only[go_sem,reduceCtorEq,G0,G2,hq,hlen,q1.len,hk5])
  all_goals
   rw[z6 rfl rfl,z8]
   refine⟨⟨_,rfl⟩,congrArg AV.bool (kY ?_)⟩
   unfold FineT
   clear hat hlen e1 q1 hn
   simp only[decide_eq_true_eq,decide_eq_false_iff_not,beq_iff_eq,beq_eq_false_iff_ne] at*
   grind
def ents (ns:List (List UInt8)):List AV:=ns.map fun s=> .tup [.str s,.bool true]
theorem Ws (s:List UInt8): ∀ns,mapGet true (.bool false) (.str s) (ents ns)=some (.bool (pb (s∈ns)))
 | []=>by rw[zg (by simp)];rfl
 |n::r=>by
  have ih:=Ws s r
  simp only[ents,w37,mapGet,keyEq] at ih⊢
  by_cases h:s=n
  ·subst h;rw[zF w24];simp
  ·have:(s==n)=false:=by simpa using h
   rw[this];simp only[ih]
   congr 2
   exact kY (by rw[W4];simp[h])
theorem Wq (s:List UInt8): ∀ns,s∉ns→mapPut true (.str s) (.bool true) (ents ns)=some (ents (ns++[s]))
 | [],_=>rfl
 |n::r,h=>by
  have ih:=Wq s r (fun h'=>h (w26 _ h'))
  have hne:(s==n)=false:=by simp only[beq_eq_false_iff_ne];intro e;exact h (e▸w24)
  simp only[ents,w37,w28,mapPut,keyEq,hne] at ih⊢
  rw[ih];rfl
theorem ke {α β:Type} (f:α→β) {l:List α} {i:Nat} (h:i<l.length):(l.map f).take (i+1)=(l.map f).take i++[f l[i]]:=by
 rw[w0d (by simpa using h)];simp
theorem z57 (xs:List DTyp) (x:AV) (hx:IsSl IsTyp 4 xs x) (i:Nat) (hi:i<xs.length) (hw:WfTyp xs[i]) (m:Mem):
  Okv tab WI [x,.int .i64 i] m (.bool (pb (FineT xs.length i xs[i]))):=by
 refine ze z5l ?_
 obtain⟨stk,cur,nx,live,fl⟩:=m
 obtain⟨v,e1,q1⟩:=hx.nth hi
 have hlen:=hx.len
 have hat:=hx.at .i64 hi
 have hm:=hx.max
 generalize ht:xs[i]=t at*
 clear ht
 generalize hxn:xs.length=n at*
 obtain⟨kind,elem,len,fields⟩:=t
 dsimp only at e1 q1
 have hlm:=q1.max
 have ew:(0≤IntKind.i64.wrap (len-1)∧IntKind.i64.wrap (len-1)<16)↔(1≤len∧len≤16):=by
  have:=hw.len
  unfold in64 at this
  dsimp only at this
  by_cases hh:len= -9223372036854775808
  ·subst hh;decide
  ·rw[zb (by omega) (by omega)];omega
 have hW: ∀a b m,CALL tab qv [.int .i64 a,.int .i64 b] m=_:=fun a b m=>(z1Q a b m).eq
 have hz1: ∀a m,CALL tab yG [.list 1 .full [.int .i64 a]] m=_:=fun a m=>(zcR a m).eq
 have hz2: ∀a b m,CALL tab yG [.list 1 .full [.int .i64 a,.int .i64 b]] m=_:=fun a b m=>(zcQ a b m).eq
 have hz3: ∀a b c m,CALL tab yG [.list 1 .full [.int .i64 a,.int .i64 b,.int .i64 c]] m=_:=fun a b c m=>(zcP a b c m).eq
 simp only[WD,List.map,go_sem,reduceCtorEq,G3,G0,G2,hat,e1,q1.one]
 by_cases hk:kind=5
 ·subst hk
  have hlen2:=q1.len
  simp only[go_sem,reduceCtorEq,G3,G0,G2,b51,b52,b53,b54,b56,b57,hlen2]
  refine za (α:=Nat) (fun k σ=>(k≤fields.length∧(∀f∈fields.take k,0≤f.typ∧f.typ<i)∧(∀f∈fields.take k,named f.name=true)∧((fields.map DField.name).take k).Nodup)∧ ∃nz,heads [1,5,6,7,72,73,74] 2 σ=⟨tmps 118 [(1,.int .i64 i),(5,.ptr (stk++[cur]).length 0 nx 0),(6,.fn (.func qv) [] []),(7,.mapR (stk++[cur]).length 1 (nx+1)),(72,v),(73,.int .i64 fields.length),(74,.int .i64 k)],
   ⟨stk++[cur],[⟨nx,[.int .u8 5,.int .i64 elem,.int .i64 len,v]⟩,⟨nx+1,[.tup (ents ((fields.map DField.name).take k))]⟩],nz,[]::live,fl⟩⟩) (fun k=>fields.length-k) 0 ?_ ?_
  ·refine⟨⟨w06 _,by simp,by simp,by simp⟩,?_⟩
   simp only[go_sem,reduceCtorEq,G0,G1]
   exact⟨_,rfl⟩
  ·rintro k σ ⟨⟨hk,hks,hkn,hkd⟩,nz,hσ⟩
   rw[hσ]
   clear hσ σ
   dsimp only at hk hks hkn hkd⊢
   have hml:(fields.map DField.name).length=fields.length:=by simp
   by_cases h:k<fields.length
   ·have e2:nth v k= .agg [.str fields[k].name,.int .i64 fields[k].typ]:=q1.nth h
    have hat2:=q1.at .i64 h
    have hsucc:=zd h q1.max
    have hN: ∀m,CALL tab uI [.str fields[k].name] m=_:=fun m=>(Yc fields[k].name m).eq
    simp only[go_sem,G3,G0,G1,G2,w02,h,hat2,e2,hN]
    by_cases hc:named fields[k].name=true
    case neg=>
     have hc':named fields[k].name=false:=by simpa using hc
     simp only[go_sem,G0,G2,hc']
     rw[z6 rfl rfl,z8]
     refine⟨⟨_,rfl⟩,congrArg AV.bool (zg fun h'=> ?_).symm⟩
     exact hc ((((tQ rfl).1 h').2.2.2.2).2.1 _ (w04 h))
    simp only[go_sem,G0,G2,hc,Ws]
    by_cases hs:fields[k].name∈(fields.map DField.name).take k
    ·simp only[go_sem,G0,G2,zF hs]
     rw[z6 rfl rfl,z8]
     refine⟨⟨_,rfl⟩,congrArg AV.bool (zg fun h'=> ?_).symm⟩
     have hnd:=(((tQ rfl).1 h').2.2.2.2).2.2
     obtain⟨j,hj,he⟩:=List.mem_take_iff_getElem.1 hs
     refine Xa (l:=fields.map DField.name) (i:=k) (k:=j) (by omega) (by rw[hml];exact h) ?_ hnd
     rw[he];simp
    simp only[go_sem,G0,G2,zg hs,hW]
    by_cases hf:0≤fields[k].typ∧fields[k].typ<i
    case neg=>
     simp only[go_sem,G0,G2,zg hf]
     rw[z6 rfl rfl,z8]
     exact⟨⟨_,rfl⟩,by rw[zg fun h'=>hf (((tQ rfl).1 h').1 _ (w04 h))]⟩
    simp only[go_sem,G0,G2,zF hf,Wq _ _ hs,hsucc,w05]
    have htk:=ke DField.name h
    rw[←htk]
    refine⟨k+1,by omega,⟨h,zo (P:=fun f=>0≤f.typ∧f.typ<i) h hks hf,zo (P:=fun f=>named f.name=true) h hkn hc,?_⟩,_,rfl⟩
    exact Zy (by rw[hml];exact h) hkd (fun y hy e=>hs (by rw[List.getElem_map] at e;exact e▸hy))
   ·have:k=fields.length:=by omega
    subst this
    rw[w08] at hks hkn
    rw[←hml,w08] at hkd
    simp only[go_sem,reduceCtorEq,G0,G1,G2,w02,h,hz2]
    repeat' (((first|refine zp ?_ ?_|refine zk ?_ ?_|refine zl ?_ ?_|refine zi ?_ ?_|refine zj ?_ ?_)<;>intro hq)<;>simp only[go_sem,G0,G2,hq,q1.len])
    all_goals
     rw[z6 rfl rfl,z8]
     refine⟨⟨_,rfl⟩,congrArg AV.bool (kY ?_)⟩
     rw[tQ rfl]
     unfold StructP FieldsP
     clear hz1 hz2 hz3 hW ew
     simp only[decide_eq_true_eq,decide_eq_false_iff_not,W4,QP] at*
     grind
 ·have hk5:(kind==5)=false:=by simpa using hk
  repeat' (((first|refine zp ?_ ?_|refine zk ?_ ?_|refine zl ?_ ?_|refine zi ?_ ?_|refine zj ?_ ?_)<;>intro hq)<;>simp only[go_sem,reduceCtorEq,G0,G2,hq,hlen,q1.len,hk5,hW,hz1,hz2,hz3])
  all_goals
   rw[z6 rfl rfl,z8]
   refine⟨⟨_,rfl⟩,congrArg AV.bool (kY ?_)⟩
   unfold FineT
   clear hat hlen e1 q1 hz1 hz2 hz3 hW
   simp only[beq_iff_eq,beq_eq_false_iff_ne,W4,QP] at*
   grind
def IsN (n:Nat) (y:AV):Prop:=y= .int .i64 (n:Int)
def ValidT (l:List DTyp):Prop:= ∀i (h:i<l.length),FineT l.length i l[i]
def contrib (t:DTyp) (below out:List Nat):Nat:=
 if t.kind=4 then below.getD t.elem.toNat 0 else if t.kind=7 then 16*below.getD t.elem.toNat 0 else if t.kind=6 then t.len.toNat*out.getD t.elem.toNat 0 else 0
def fsum (fs:List DField) (out:List Nat):Nat:=(fs.map fun f=>out.getD f.typ.toNat 0).sum
def w1 (t:DTyp) (below out:List Nat):Nat:=min 5001 (1+contrib t below out+fsum t.fields out)
def rnd (below:List Nat) (l:List DTyp):List Nat:=l.foldl (fun out t=>out++[w1 t below out]) []
def rounds (l:List DTyp):Nat→List Nat
 |0=>List.replicate l.length 0
 |r+1=>rnd (rounds l r) l
theorem UF (b:List Nat) (l:List DTyp) {i:Nat} (h:i<l.length):rnd b (l.take (i+1))=rnd b (l.take i)++[w1 l[i] b (rnd b (l.take i))]:=by
 unfold rnd
 rw[w0d h,List.foldl_append];rfl
theorem QL (b:List Nat) (l:List DTyp): ∀i,i≤l.length→(rnd b (l.take i)).length=i
 |0,_=>by simp[rnd]
 |i+1,h=>by rw[UF b l h,w05,QL b l i (by omega)];rfl
theorem z2l (b:List Nat) (l:List DTyp): ∀i,i≤l.length→ ∀x∈rnd b (l.take i),x≤5001
 |0,_=>by simp[rnd]
 |i+1,h=>by
  rw[UF b l h]
  intro x hx
  rcases w0a.1 hx with hx|hx
  ·exact z2l b l i (by omega) x hx
  ·simp at hx;subst hx;unfold w1;omega
theorem Zv (l:List DTyp): ∀r,(rounds l r).length=l.length
 |0=>by simp[rounds]
 |r+1=>by have:=QL (rounds l r) l l.length (w09 _);rw[w08] at this;exact this
theorem z4l (l:List DTyp): ∀r,∀x∈rounds l r,x≤5001
 |0,x,h=>by simp[rounds] at h;omega
 |r+1,x,h=>by have:=z2l (rounds l r) l l.length (w09 _) x;rw[w08] at this;exact this h
theorem Z7 {l:List Nat} {c:Nat} (h: ∀x∈l,x≤c) (i:Nat):l.getD i 0≤c:=by
 rw[w00]
 cases hq:l[i]? with
 |none=>simp
 |some x=>simp only[w2a];exact h x (w4a hq)
theorem jx {l:List Nat} {i:Nat} (h:i<l.length):l.getD i 0=l[i]:=by simp[w00,h]
theorem zaI {fs:List DField} {k:Nat} (h:k<fs.length) (out:List Nat):fsum (fs.take (k+1)) out=fsum (fs.take k) out+out.getD fs[k].typ.toNat 0:=by
 unfold fsum
 rw[w0d h,w2d,List.sum_append];simp
theorem z5Y {fs:List DField} {out:List Nat} {c:Nat} (h: ∀x∈out,x≤c):fsum fs out≤c*fs.length:=by
 unfold fsum
 induction fs with
 |nil=>simp
 |cons f r ih=>
  have:=Z7 h f.typ.toNat
  simp only[w37,List.sum_cons,w2f,Nat.mul_add,w10];omega
def parts (t:DTyp):List Int:=(if t.kind=6 then [t.elem] else [])++t.fields.map DField.typ
theorem jK (t:DTyp) (x:AV) (hx:IsTyp t x) (hl:t.fields.length≤100) (m:Mem):Okl (IsK .i64) 1 tab tC [x] m (parts t):=by
 refine j4 V7 ?_
 obtain⟨stk,cur,nx,live,fl⟩:=m
 obtain⟨kind,elem,len,fields⟩:=t
 obtain⟨v,rfl,q1⟩:=hx
 dsimp only at q1 hl
 unfold parts
 dsimp only
 simp only[td,List.map,go_sem,reduceCtorEq,G3,G0,G2]
 by_cases hk:kind=6
 ·have hk':(kind==6)=true:=by simpa using hk
  rw[if_pos hk]
  simp only[go_sem,reduceCtorEq,G0,G2,hk']
  refine(Own.nil (R:=IsK .i64) (s:=1) []).xv (zh · _ _ _) (zP (R:=IsK .i64) (x:=elem) rfl) (by simp) fun y' n' e' ho'=> ?_
  simp only[go_sem,reduceCtorEq,G0,G2]
  rw[w32] at ho'
  refine za (α:=Nat) (fun k σ=>k≤fields.length∧ ∃nz y e,Own (IsK .i64) 1 y ([elem]++(fields.map DField.typ).take k) e∧heads [1,3,4] 1 σ=⟨tmps 30 [(1,.ptr (stk++[cur]).length 0 nx 0),(3,y),(4,.int .i64 k)],⟨stk++[cur],[⟨nx,[.int .u8 kind,.int .i64 elem,.int .i64 len,v]⟩],nz,e::live,fl⟩⟩) (fun k=>fields.length-k) 0 ?_ ?_
  ·refine⟨w06 _,n',y',e',by simpa using ho',?_⟩
   simp only[go_sem,reduceCtorEq,G0,G1]
   rfl
  ·rintro k σ ⟨hk,nz,y,e,ho,hσ⟩
   rw[hσ]
   clear hσ σ
   dsimp only at hk⊢
   by_cases h:k<fields.length
   ·have e2:nth v k= .agg [.str fields[k].name,.int .i64 fields[k].typ]:=q1.nth h
    have hat2:=q1.at .i64 h
    simp only[go_sem,G0,G1,G2,w02,h,q1.len,hat2,e2]
    refine ho.xv (zh · _ _ _) (zP (R:=IsK .i64) (x:=fields[k].typ) rfl) (by simp;omega) fun y' n' e' ho'=> ?_
    simp only[go_sem,G0,G2,zd h q1.max]
    rw[w13,←ke DField.typ h] at ho'
    exact⟨k+1,by omega,h,_,y',e',ho',rfl⟩
   ·have:k=fields.length:=by omega
    subst this
    rw[show(fields.map DField.typ).take fields.length=fields.map DField.typ by rw[show fields.length=(fields.map DField.typ).length by simp,w08]] at ho
    simp only[go_sem,G0,G1,G2,w02,h,q1.len]
    exact vT ho
 ·have hk':(kind==6)=false:=by simpa using hk
  rw[if_neg hk]
  simp only[go_sem,hk']
  refine za (α:=Nat) (fun k σ=>k≤fields.length∧ ∃nz y e,Own (IsK .i64) 1 y ([]++(fields.map DField.typ).take k) e∧heads [1,3,4] 1 σ=⟨tmps 30 [(1,.ptr (stk++[cur]).length 0 nx 0),(3,y),(4,.int .i64 k)],⟨stk++[cur],[⟨nx,[.int .u8 kind,.int .i64 elem,.int .i64 len,v]⟩],nz,e::live,fl⟩⟩) (fun k=>fields.length-k) 0 ?_ ?_
  ·refine⟨w06 _,nx+1,.nils,[],by simpa using Own.nil (R:=IsK .i64) (s:=1) [],?_⟩
   simp only[go_sem,reduceCtorEq,G0,G1]
   rfl
  ·rintro k σ ⟨hk,nz,y,e,ho,hσ⟩
   rw[hσ]
   clear hσ σ
   dsimp only at hk⊢
   by_cases h:k<fields.length
   ·have e2:nth v k= .agg [.str fields[k].name,.int .i64 fields[k].typ]:=q1.nth h
    have hat2:=q1.at .i64 h
    simp only[go_sem,G0,G1,G2,w02,h,q1.len,hat2,e2]
    refine ho.xv (zh · _ _ _) (zP (R:=IsK .i64) (x:=fields[k].typ) rfl) (by simp;omega) fun y' n' e' ho'=> ?_
    simp only[go_sem,G0,G2,zd h q1.max]
    rw[w13,←ke DField.typ h] at ho'
    exact⟨k+1,by omega,h,_,y',e',ho',rfl⟩
   ·have:k=fields.length:=by omega
    subst this
    rw[show(fields.map DField.typ).take fields.length=fields.map DField.typ by rw[show fields.length=(fields.map DField.typ).length by simp,w08]] at ho
    simp only[go_sem,G0,G1,G2,w02,h,q1.len]
    exact vT ho
theorem z6R {n i:Nat} {t:DTyp} (h:FineT n i t): ∀p∈parts t,0≤p∧p<i:=by
 intro p hp
 unfold parts at hp
 rcases h with⟨h1,_,_,h4⟩|⟨h1,_,_,_,h4⟩|⟨h1,h2,h3,_,_,h4⟩|⟨h1,h2⟩
 ·have:t.fields=[]:=w1d h4
  rw[this,if_neg (by omega)] at hp;simp at hp
 ·have:t.fields=[]:=w1d h4
  rw[this,if_neg (by omega)] at hp;simp at hp
 ·have:t.fields=[]:=w1d h4
  rw[this,if_pos h1] at hp;simp at hp;subst hp;exact⟨h2,h3⟩
 ·rw[if_neg (by omega)] at hp
  simp only[w32,w44] at hp
  obtain⟨f,hf,rfl⟩:=hp
  exact h2.1 f hf
def partBy (t:DTyp):Nat:=if t.kind=6 then t.len.toNat else 1
def psum (t:DTyp) (out:List Nat) (k:Nat):Nat:=(((parts t).take k).map fun p=>partBy t*out.getD p.toNat 0).sum
theorem z4p {t:DTyp} {k:Nat} (h:k<(parts t).length) (out:List Nat):psum t out (k+1)=psum t out k+partBy t*out.getD (parts t)[k].toNat 0:=by
 unfold psum
 rw[w0d h,w2d,List.sum_append];simp
theorem z6N {n i:Nat} {t:DTyp} (h:FineT n i t) (out:List Nat):psum t out (parts t).length=(if t.kind=6 then t.len.toNat*out.getD t.elem.toNat 0 else 0)+fsum t.fields out:=by
 unfold psum
 rw[w08]
 unfold parts partBy fsum
 by_cases h6:t.kind=6
 ·have hf:t.fields=[]:=by
   rcases h with⟨h1,_,_,h4⟩|⟨h1,_,_,_,h4⟩|⟨h1,h2,h3,_,_,h4⟩|⟨h1,h2⟩<;>first|omega|exact w1d h4
  simp[h6,hf]
 ·simp[h6,List.map_map,Function.comp_def]
theorem tR {n i:Nat} {t:DTyp} (h:FineT n i t):t.fields.length≤8∧(t.kind=6→1≤t.len∧t.len≤16)∧((t.kind=4∨t.kind=7)→0≤t.elem∧t.elem<n∧t.fields=[])∧(t.kind=6→0≤t.elem∧t.elem<i∧t.fields=[])∧(t.kind≠5→t.fields=[])∧(∀f∈t.fields,0≤f.typ∧f.typ<i):=by
 rcases h with⟨h1,h2,h3,h4⟩|⟨h1,h2,h3,h5,h4⟩|⟨h1,h2,h3,h5,h6,h4⟩|⟨h1,h2⟩
 ·have hf:t.fields=[]:=w1d h4
  rw[hf];refine⟨by simp,by omega,by omega,by omega,by simp,by simp⟩
 ·have hf:t.fields=[]:=w1d h4
  rw[hf];refine⟨by simp,by omega,fun _=>⟨h2,h3,rfl⟩,by omega,by simp,by simp⟩
 ·have hf:t.fields=[]:=w1d h4
  rw[hf];refine⟨by simp,fun _=>⟨h5,h6⟩,by omega,fun _=>⟨h2,h3,rfl⟩,by simp,by simp⟩
 ·exact⟨by have:=h2.2.2.2.2.1;omega,by omega,by omega,by omega,fun h=>absurd h1 h,h2.1⟩
theorem z4r {n i:Nat} {t:DTyp} (h:FineT n i t):partBy t≤16:=by
 have:=(tR h).2.1
 unfold partBy;split
 ·rename_i h6;have:=this h6;omega
 ·omega
theorem min5001 (a:Nat):(if(5001:Int)<(a:Int) then(5001:Int) else(a:Int))=((min 5001 a:Nat):Int):=by split<;>omega
theorem toNat_lt {p:Int} {i:Nat} (h:0≤p∧p<i):p.toNat<i:=by omega
theorem jw {a b:Nat} (ha:a≤16) (hb:b≤5001):a*b≤80016:=w4d (Nat.mul_le_mul ha hb) (by decide)
theorem jo (l:List DTyp) (x:AV) (hx:IsSl IsTyp 4 l x) (hv:ValidT l) (hl:l.length≤100): ∀(d:Nat),d≤3→ ∀m,Okl IsN 1 tab xI [x,.int .i64 (d:Nat)] m (rounds l (d+1))
 |0,_=>fun m=>by
  refine j4 jt ?_
  obtain⟨stk,cur,nx,live,fl⟩:=m
  rw[show rounds l (0+1)=rnd (rounds l 0) l from rfl]
  simp only[xA,List.map,go_sem,reduceCtorEq,G3,G0,G2,(by decide: ¬((0:Nat):Int)>0)]
  refine za (α:=Nat) (fun i σ=>i≤l.length∧ ∃nz y e,Own IsN 1 y (rnd (rounds l 0) (l.take i)) e∧heads [0,1,5,6,7] 0 σ=⟨tmps 106 [(0,x),(1,.int .i64 (0:Nat)),(5,.nils),(6,y),(7,.int .i64 i)],⟨stk++[cur],[],nz,e::live,fl⟩⟩) (fun i=>l.length-i) 0 ?_ ?_
  ·refine⟨w06 _,nx,.nils,[],by simpa [rnd] using Own.nil _,?_⟩
   simp only[go_sem,reduceCtorEq,G0,G1]
   rfl
  ·rintro i σ ⟨hi,nz,y,e,ho,hσ⟩
   rw[hσ]
   clear hσ σ
   dsimp only at hi⊢
   by_cases h:i<l.length
   ·have hfine:=hv i h
    obtain⟨v,e1,q1⟩:=hx.nth h
    have hty:IsTyp l[i] (nth x i):=hx.nth h
    have hat:=hx.at .i64 h
    have hol:=QL (rounds l 0) l i hi
    have hsucc:=UF (rounds l 0) l h
    have hle:=z2l (rounds l 0) l i hi
    have hflen:=tR hfine
    have hpok:=z6R hfine
    generalize hout:rnd (rounds l 0) (l.take i)=out at*
    have hty':=jK l[i] (nth x i) hty (by omega)
    have hag:=hty.agg.1
    simp only[go_sem,reduceCtorEq,G0,G1,G2,w02,h,hx.len,hat,hag]
    refine(hty' _).xv fun yp ts np hp=> ?_
    simp only[go_sem,reduceCtorEq,G0,G2]
    refine za (α:=Nat) (fun k σ=>k≤(parts l[i]).length∧ ∃nz,heads [0,1,5,6,7,8,9,10] 0 σ=⟨tmps 106 [(0,x),(1,.int .i64 (0:Nat)),(5,.nils),(6,y),(7,.int .i64 i),(8,.int .i64 (min 5001 (1+psum l[i] out k):Nat)),(9,yp),(10,.int .i64 k)],⟨stk++[cur],[],nz,(ts++e)::live,fl⟩⟩) (fun k=>(parts l[i]).length-k) 0 ?_ ?_
    ·refine⟨w06 _,?_⟩
     simp only[go_sem,reduceCtorEq,G0,G1,psum]
     exact⟨_,rfl⟩
    ·rintro k σ ⟨hk,nz,hσ⟩
     rw[hσ]
     clear hσ σ
     dsimp only at hk⊢
     have hplen:(parts l[i]).length≤9:=by unfold parts;rw[w05,w29];split<;>simp<;>omega
     by_cases hkl:k<(parts l[i]).length
     ·have hpk:=hpok _ (w04 hkl)
      have e2:nth yp k= .int .i64 (parts l[i])[k]:=hp.nth hkl
      have e2':nth yp k= .int .i64 ((parts l[i])[k].toNat:Nat):=by rw[e2];congr 1;omega
      have hoi:(parts l[i])[k].toNat<out.length:=by omega
      have e3:nth y (parts l[i])[k].toNat= .int .i64 (out[(parts l[i])[k].toNat]:Nat):=ho.nth hoi
      have hb:=z4r hfine
      have hc:=Z7 hle (parts l[i])[k].toNat
      have hmul:=jw hb hc
      rw[jx hoi] at hc hmul
      have hps:=z4p hkl out
      rw[jx hoi] at hps
      have ew:IntKind.i64.wrap ((min 5001 (1+psum l[i] out k):Nat)+IntKind.i64.wrap ((partBy l[i]:Nat)*(out[(parts l[i])[k].toNat]:Nat)))=((min 5001 (1+psum l[i] out k)+partBy l[i]*out[(parts l[i])[k].toNat]:Nat):Int):=by
       have:IntKind.i64.wrap ((partBy l[i]:Nat)*(out[(parts l[i])[k].toNat]:Nat))=((partBy l[i]*out[(parts l[i])[k].toNat]:Nat):Int):=by
        rw[←Int.natCast_mul,zb (by omega) (by omega)]
       rw[this,zb (by omega) (by omega)];omega
      have hmin:min 5001 (min 5001 (1+psum l[i] out k)+partBy l[i]*out[(parts l[i])[k].toNat])=min 5001 (1+psum l[i] out (k+1)):=by rw[hps];omega
      have hsk:IntKind.i64.wrap ((k:Int)+1)=((k+1:Nat):Int):=by rw[zb (by omega) (by omega)];omega
      by_cases h6:l[i].kind=6
      ·have h6':(l[i].kind==6)=true:=by simpa using h6
       have hl6:l[i].len=((partBy l[i]:Nat):Int):=by have:=hflen.2.1 h6;unfold partBy;rw[if_pos h6];omega
       simp only[go_sem,reduceCtorEq,G0,G1,G2,w02,hkl,hp.len,hat,e1,h6',hp.at _ hkl,e2',ho.at _ hoi,e3,hl6,ew,min5001,hmin,hsk]
       exact⟨k+1,by omega,hkl,_,rfl⟩
      ·have h6':(l[i].kind==6)=false:=by simpa using h6
       have hl6:(1:Int)=((partBy l[i]:Nat):Int):=by unfold partBy;rw[if_neg h6];first|done|rfl
       have ew2:=ew
       rw[←hl6] at ew2
       simp only[go_sem,reduceCtorEq,G0,G1,G2,w02,hkl,hp.len,hat,e1,h6',hp.at _ hkl,e2',ho.at _ hoi,e3,ew2,min5001,hmin,hsk]
       exact⟨k+1,by omega,hkl,_,rfl⟩
     ·have:k=(parts l[i]).length:=by omega
      subst this
      have hps:=z6N hfine out
      generalize psum l[i] out (parts l[i]).length=ps at*
      have hfs:=z5Y (fs:=l[i].fields) hle
      have hps5:ps≤200000:=by
       rw[hps]
       have:=Nat.mul_le_mul (w09 5001) hflen.1
       split
       ·rename_i h6
        have h16:=hflen.2.1 h6
        have:=jw (a:=l[i].len.toNat) (by omega) (Z7 hle l[i].elem.toNat)
        omega
       ·omega
      have hsuc:=zd h hx.max
      simp only[go_sem,reduceCtorEq,G0,G1,G2,w02,hkl,hp.len]
      have hw:min 5001 (1+ps)=w1 l[i] (rounds l 0) out:=by
       unfold w1 contrib
       have hz: ∀j,(rounds l 0).getD j 0=0:=fun j=>by
        simp only[rounds,w00,w3b];split<;>rfl
       rw[hps,hz]
       by_cases h4:l[i].kind=4
       ·simp[h4]
       ·by_cases h7:l[i].kind=7
        ·simp[h7]
        ·simp only[h4,h7,if_false];omega
      rw[hw] at*
      simp only[go_sem,reduceCtorEq,G0,G2,(by decide: ¬((0:Nat):Int)>0)]
      refine(ho.push ts).xv (zh · _ _ _) (zP (R:=IsN) (x:=w1 l[i] (rounds l 0) out) rfl) (by simp;omega) fun y' n' e' ho'=> ?_
      simp only[go_sem,reduceCtorEq,G0,G2,hsuc]
      rw[←hsucc] at ho'
      exact⟨i+1,by omega,h,_,_,_,ho',rfl⟩
   ·have:i=l.length:=by omega
    subst this
    rw[w08] at ho
    simp only[go_sem,reduceCtorEq,G0,G1,G2,w02,h,hx.len]
    exact vT ho
 |d+1,hd=>fun m=>by
  have ih:=jo l x hx hv hl d (by omega)
  refine j4 jt ?_
  obtain⟨stk,cur,nx,live,fl⟩:=m
  rw[show rounds l (d+1+1)=rnd (rounds l (d+1)) l from rfl]
  have hd0:(((d+1:Nat):Int)>0)=True:=by first|(simp;done)|(simp;omega)
  have hsub:IntKind.i64.wrap (((d+1:Nat):Int)-1)=((d:Nat):Int):=by rw[zb (by omega) (by omega)];omega
  simp only[xA,List.map,go_sem,reduceCtorEq,G3,G0,G2,hd0,hsub]
  refine(ih _).xv fun B tb nb hB=> ?_
  simp only[go_sem,reduceCtorEq,G0,G2]
  refine za (α:=Nat) (fun i σ=>i≤l.length∧ ∃nz y e,Own IsN 1 y (rnd (rounds l (d+1)) (l.take i)) e∧heads [0,1,5,6,7] 0 σ=⟨tmps 106 [(0,x),(1,.int .i64 ((d+1):Nat)),(5,B),(6,y),(7,.int .i64 i)],⟨stk++[cur],[],nz,e::live,fl⟩⟩) (fun i=>l.length-i) 0 ?_ ?_
  ·refine⟨w06 _,nb,.nils,tb,by simpa [rnd] using Own.nil _,?_⟩
   simp only[go_sem,reduceCtorEq,G0,G1]
   rfl
  ·rintro i σ ⟨hi,nz,y,e,ho,hσ⟩
   rw[hσ]
   clear hσ σ
   dsimp only at hi⊢
   by_cases h:i<l.length
   ·have hfine:=hv i h
    obtain⟨v,e1,q1⟩:=hx.nth h
    have hty:IsTyp l[i] (nth x i):=hx.nth h
    have hat:=hx.at .i64 h
    have hol:=QL (rounds l (d+1)) l i hi
    have hsucc:=UF (rounds l (d+1)) l h
    have hle:=z2l (rounds l (d+1)) l i hi
    have hflen:=tR hfine
    have hpok:=z6R hfine
    generalize hout:rnd (rounds l (d+1)) (l.take i)=out at*
    have hty':=jK l[i] (nth x i) hty (by omega)
    have hag:=hty.agg.1
    simp only[go_sem,reduceCtorEq,G0,G1,G2,w02,h,hx.len,hat,hag]
    refine(hty' _).xv fun yp ts np hp=> ?_
    simp only[go_sem,reduceCtorEq,G0,G2]
    refine za (α:=Nat) (fun k σ=>k≤(parts l[i]).length∧ ∃nz,heads [0,1,5,6,7,8,9,10] 0 σ=⟨tmps 106 [(0,x),(1,.int .i64 ((d+1):Nat)),(5,B),(6,y),(7,.int .i64 i),(8,.int .i64 (min 5001 (1+psum l[i] out k):Nat)),(9,yp),(10,.int .i64 k)],⟨stk++[cur],[],nz,(ts++e)::live,fl⟩⟩) (fun k=>(parts l[i]).length-k) 0 ?_ ?_
    ·refine⟨w06 _,?_⟩
     simp only[go_sem,reduceCtorEq,G0,G1,psum]
     exact⟨_,rfl⟩
    ·rintro k σ ⟨hk,nz,hσ⟩
     rw[hσ]
     clear hσ σ
     dsimp only at hk⊢
     have hplen:(parts l[i]).length≤9:=by unfold parts;rw[w05,w29];split<;>simp<;>omega
     by_cases hkl:k<(parts l[i]).length
     ·have hpk:=hpok _ (w04 hkl)
      have e2:nth yp k= .int .i64 (parts l[i])[k]:=hp.nth hkl
      have e2':nth yp k= .int .i64 ((parts l[i])[k].toNat:Nat):=by rw[e2];congr 1;omega
      have hoi:(parts l[i])[k].toNat<out.length:=by omega
      have e3:nth y (parts l[i])[k].toNat= .int .i64 (out[(parts l[i])[k].toNat]:Nat):=ho.nth hoi
      have hb:=z4r hfine
      have hc:=Z7 hle (parts l[i])[k].toNat
      have hmul:=jw hb hc
      rw[jx hoi] at hc hmul
      have hps:=z4p hkl out
      rw[jx hoi] at hps
      have ew:IntKind.i64.wrap ((min 5001 (1+psum l[i] out k):Nat)+IntKind.i64.wrap ((partBy l[i]:Nat)*(out[(parts l[i])[k].toNat]:Nat)))=((min 5001 (1+psum l[i] out k)+partBy l[i]*out[(parts l[i])[k].toNat]:Nat):Int):=by
       have:IntKind.i64.wrap ((partBy l[i]:Nat)*(out[(parts l[i])[k].toNat]:Nat))=((partBy l[i]*out[(parts l[i])[k].toNat]:Nat):Int):=by
        rw[←Int.natCast_mul,zb (by omega) (by omega)]
       rw[this,zb (by omega) (by omega)];omega
      have hmin:min 5001 (min 5001 (1+psum l[i] out k)+partBy l[i]*out[(parts l[i])[k].toNat])=min 5001 (1+psum l[i] out (k+1)):=by rw[hps];omega
      have hsk:IntKind.i64.wrap ((k:Int)+1)=((k+1:Nat):Int):=by rw[zb (by omega) (by omega)];omega
      by_cases h6:l[i].kind=6
      ·have h6':(l[i].kind==6)=true:=by simpa using h6
       have hl6:l[i].len=((partBy l[i]:Nat):Int):=by have:=hflen.2.1 h6;unfold partBy;rw[if_pos h6];omega
       simp only[go_sem,reduceCtorEq,G0,G1,G2,w02,hkl,hp.len,hat,e1,h6',hp.at _ hkl,e2',ho.at _ hoi,e3,hl6,ew,min5001,hmin,hsk]
       exact⟨k+1,by omega,hkl,_,rfl⟩
      ·have h6':(l[i].kind==6)=false:=by simpa using h6
       have hl6:(1:Int)=((partBy l[i]:Nat):Int):=by unfold partBy;rw[if_neg h6];first|done|rfl
       have ew2:=ew
       rw[←hl6] at ew2
       simp only[go_sem,reduceCtorEq,G0,G1,G2,w02,hkl,hp.len,hat,e1,h6',hp.at _ hkl,e2',ho.at _ hoi,e3,ew2,min5001,hmin,hsk]
       exact⟨k+1,by omega,hkl,_,rfl⟩
     ·have:k=(parts l[i]).length:=by omega
      subst this
      have hps:=z6N hfine out
      generalize psum l[i] out (parts l[i]).length=ps at*
      have hfs:=z5Y (fs:=l[i].fields) hle
      have hps5:ps≤200000:=by
       rw[hps]
       have:=Nat.mul_le_mul (w09 5001) hflen.1
       split
       ·rename_i h6
        have h16:=hflen.2.1 h6
        have:=jw (a:=l[i].len.toNat) (by omega) (Z7 hle l[i].elem.toNat)
        omega
       ·omega
      have hsuc:=zd h hx.max
      simp only[go_sem,reduceCtorEq,G0,G1,G2,w02,hkl,hp.len]
      have hd0:(((d+1:Nat):Int)>0)=True:=by first|(simp;done)|(simp;omega)
      have hbel:=z4l l (d+1)
      have hblen:=Zv l (d+1)
      generalize rounds l (d+1)=bel at*
      have hbs:IsSl IsN 1 bel B:=hB.sl (by omega)
      have hcb:=Z7 hbel l[i].elem.toNat
      by_cases h4:l[i].kind=4
      ·have h4':(l[i].kind==4)=true:=by simpa using h4
       have h7':(l[i].kind==7)=false:=by rw[h4];rfl
       have hel:=hflen.2.2.1 (.inl h4)
       have hbi:l[i].elem.toNat<bel.length:=by omega
       have e4:nth B l[i].elem.toNat= .int .i64 (bel[l[i].elem.toNat]:Nat):=hbs.nth hbi
       have hat4:=hbs.at .i64 hbi
       rw[w40 hel.1] at hat4
       rw[jx hbi] at hcb
       have ew:IntKind.i64.wrap ((min 5001 (1+ps):Nat)+(bel[l[i].elem.toNat]:Nat))=((min 5001 (1+ps)+bel[l[i].elem.toNat]:Nat):Int):=by
        rw[zb (by omega) (by omega)];omega
       have hw:min 5001 (min 5001 (1+ps)+bel[l[i].elem.toNat])=w1 l[i] bel out:=by
        unfold w1 contrib
        rw[if_pos h4,jx hbi,hps,if_neg (by omega)];omega
       simp only[go_sem,reduceCtorEq,G0,G2,hd0,hat,e1,h4',h7',hat4,e4,ew,min5001]
       refine(ho.push ts).xv (zh · _ _ _) (zP (R:=IsN) (x:=min 5001 (min 5001 (1+ps)+bel[l[i].elem.toNat])) rfl) (by simp;omega) fun y' n' e' ho'=> ?_
       simp only[go_sem,reduceCtorEq,G0,G2,hsuc]
       rw[hw,←hsucc] at ho'
       exact⟨i+1,by omega,h,_,_,_,ho',rfl⟩
      ·have h4':(l[i].kind==4)=false:=by simpa using h4
       by_cases h7:l[i].kind=7
       ·have h7':(l[i].kind==7)=true:=by simpa using h7
        have hel:=hflen.2.2.1 (.inr h7)
        have hbi:l[i].elem.toNat<bel.length:=by omega
        have e4:nth B l[i].elem.toNat= .int .i64 (bel[l[i].elem.toNat]:Nat):=hbs.nth hbi
        have hat4:=hbs.at .i64 hbi
        rw[w40 hel.1] at hat4
        rw[jx hbi] at hcb
        have ew:IntKind.i64.wrap ((min 5001 (1+ps):Nat)+IntKind.i64.wrap (16*(bel[l[i].elem.toNat]:Nat)))=((min 5001 (1+ps)+16*bel[l[i].elem.toNat]:Nat):Int):=by
         rw[zb (n:=16*(bel[l[i].elem.toNat]:Nat)) (by omega) (by omega),zb (by omega) (by omega)];omega
        have hw:min 5001 (min 5001 (1+ps)+16*bel[l[i].elem.toNat])=w1 l[i] bel out:=by
         unfold w1 contrib
         rw[if_neg h4,if_pos h7,jx hbi,hps,if_neg (by omega)];omega
        simp only[go_sem,reduceCtorEq,G0,G2,hd0,hat,e1,h4',h7',hat4,e4,ew,min5001]
        refine(ho.push ts).xv (zh · _ _ _) (zP (R:=IsN) (x:=min 5001 (min 5001 (1+ps)+16*bel[l[i].elem.toNat])) rfl) (by simp;omega) fun y' n' e' ho'=> ?_
        simp only[go_sem,reduceCtorEq,G0,G2,hsuc]
        rw[hw,←hsucc] at ho'
        exact⟨i+1,by omega,h,_,_,_,ho',rfl⟩
       ·have h7':(l[i].kind==7)=false:=by simpa using h7
        have hw:min 5001 (1+ps)=w1 l[i] bel out:=by
         unfold w1 contrib
         rw[if_neg h4,if_neg h7,hps];omega
        simp only[go_sem,reduceCtorEq,G0,G2,hd0,hat,e1,h4',h7']
        refine(ho.push ts).xv (zh · _ _ _) (zP (R:=IsN) (x:=min 5001 (1+ps)) rfl) (by simp;omega) fun y' n' e' ho'=> ?_
        simp only[go_sem,reduceCtorEq,G0,G2,hsuc]
        rw[hw,←hsucc] at ho'
        exact⟨i+1,by omega,h,_,_,_,ho',rfl⟩
   ·have:i=l.length:=by omega
    subst this
    rw[w08] at ho
    simp only[go_sem,reduceCtorEq,G0,G1,G2,w02,h,hx.len]
    exact vT ho
theorem QJ {A:List Nat} {n i v:Nat} (h:A.length=i) (hi:i<n):(A++List.replicate (n-i) 0).set i v=A++[v]++List.replicate (n-(i+1)) 0:=by
 rw[List.set_append,if_neg (by omega)]
 rw[show n-i=(n-(i+1))+1 by omega,w4f,show i-A.length=0 by omega]
 simp
theorem z7v {A B:List Nat} {j:Nat} (h:j<A.length):(A++B).getD j 0=A.getD j 0:=by
 simp[w00,w0c h]
theorem z1P (l:List DTyp) (x:AV) (hx:IsSl IsTyp 4 l x) (hv:ValidT l) (hl:l.length≤100) (stk:List (List Blk)) (cur:List Blk) (nx fl:Nat) (live:List (List Nat)):
  ∃bs j st k,CALL tab jF [x] ⟨stk,cur,nx,live,fl⟩=some (.arr stk.length (cur.length+j) st 0 l.length,⟨stk,cur++bs,k,live,fl⟩)∧bs[j]? =some ⟨st,ints (rounds l 4)⟩:=by
 suffices h:Does tab jF [x] ⟨stk,cur,nx,live,fl⟩ fun v m'=> ∃bs j st k,v= .arr stk.length (cur.length+j) st 0 l.length∧m'=⟨stk,cur++bs,k,live,fl⟩∧bs[j]? =some ⟨st,ints (rounds l 4)⟩ by
  obtain⟨z,h1,bs,j,st,k,h2,h3,h4⟩:=h
  exact⟨bs,j,st,k,by rw[h1,←h2,←h3],h4⟩
 refine yn z29 ?_ (w1c rfl)
 have hmk: ∀m:Mem,evMake m 1 8 [.int .i64 0] (.int .i64 l.length) (.int .i64 l.length)=some (.arr m.stk.length m.cur.length m.nx 0 l.length,{m with cur:=m.cur++[⟨m.nx,ints (List.replicate l.length 0)⟩],nx:=m.nx+1}):=fun m=>by
  unfold evMake
  simp only
  rw[if_pos ⟨trivial,by omega,by omega,by omega,rfl⟩,w1b,z7t]
 simp only[ZO,List.map,go_sem,reduceCtorEq,G0,G2,hx.len,hmk]
 refine za (α:=Nat) (fun r σ=>r≤4∧ ∃L k st nz,k<L.length∧L[k]? =some ⟨st,ints (rounds l r)⟩∧heads [0,3,13,999999] 1 σ=⟨tmps 82 [(0,x),(3,.arr (stk++[cur]).length k st 0 l.length),(13,.int .i64 r),(999999,.undef)],⟨stk++[cur],L,nz,[]::live,fl⟩⟩) (fun r=>4-r) 0 ?_ ?_
 ·refine⟨by omega,[⟨nx,ints (List.replicate l.length 0)⟩],0,nx,nx+1,by simp,rfl,?_⟩
  simp only[go_sem,reduceCtorEq,G0,G1]
  rfl
 ·rintro r σ ⟨hr,L,kb,st,nz,hkb,hLk,hσ⟩
  rw[hσ]
  clear hσ σ
  dsimp only at hr⊢
  by_cases h4:r<4
  ·have h4':(r:Int)<4:=by omega
   have hr1:IntKind.i64.wrap ((r:Int)+1)=((r+1:Nat):Int):=by rw[zb (by omega) (by omega)];omega
   simp only[go_sem,reduceCtorEq,G0,G1,G2,xu,h4',hx.len,hmk]
   have hbel:=z4l l r
   have hblen:=Zv l r
   have hrr:rounds l (r+1)=rnd (rounds l r) l:=rfl
   generalize rounds l r=bel at*
   refine za (α:=Nat) (fun i σ=>i≤l.length∧ ∃nz',heads [0,3,4,13,18,19,20] (L.length+1) σ=⟨tmps 82 [(0,x),(3,.arr (stk++[cur]).length kb st 0 l.length),(4,.arr (stk++[cur]).length L.length nz 0 l.length),(13,.int .i64 r),(18,x),(19,.int .i64 l.length),(20,.int .i64 i)],⟨stk++[cur],L++[⟨nz,ints (rnd bel (l.take i)++List.replicate (l.length-i) 0)⟩],nz',[]::live,fl⟩⟩) (fun i=>l.length-i) 0 ?_ ?_
   ·refine⟨w06 _,?_⟩
    simp only[go_sem,reduceCtorEq,G0,G1,vr,rnd,Nat.sub_zero]
    exact⟨_,rfl⟩
   ·rintro i σ ⟨hi,nz',hσ⟩
    rw[hσ]
    clear hσ σ
    dsimp only at hi⊢
    by_cases h:i<l.length
    ·have hfine:=hv i h
     obtain⟨v,e1,q1⟩:=hx.nth h
     have hat:=hx.at .i64 h
     have hAl:=QL bel l i hi
     have hrs:=UF bel l h
     have hle:=z2l bel l i hi
     have hflen:=tR hfine
     generalize hout:rnd bel (l.take i)=A at*
     have hmax:=hx.max
     generalize ht:l[i]=t at*
     clear ht
     generalize hn:l.length=n at*
     obtain⟨kind,elem,len,fields⟩:=t
     dsimp only at e1 q1 hflen
     have hgA: ∀j,j<i→takeV false 1 ((ints (A++List.replicate (n-i) 0)).drop j)=some (.int .i64 ((A.getD j 0:Nat):Int)):=fun j hj=>by
      rw[z01 (by simp;omega),z7v (by omega)]
     have hgB: ∀j,j<n→takeV false 1 ((ints bel).drop j)=some (.int .i64 ((bel.getD j 0:Nat):Int)):=fun j hj=>z01 (by omega)
     have hcB:=Z7 hbel elem.toNat
     have hcA:=Z7 hle elem.toNat
     simp only[go_sem,reduceCtorEq,G3,G0,G1,G2,xu,z0c,zdW,w02,h,hat,e1,q1.one]
     by_cases k4:kind=4
     ·subst k4
      have hel:=hflen.2.2.1 (.inl rfl)
      have hf:=hel.2.2
      have hix:=qF .i64 (p:=elem) (n:=n) ⟨hel.1,hel.2.1⟩
      have ew:IntKind.i64.wrap (1+((bel.getD elem.toNat 0:Nat):Int))=((1+bel.getD elem.toNat 0:Nat):Int):=by rw[zb (by omega) (by omega)];omega
      have hV:min 5001 (1+bel.getD elem.toNat 0)=w1 ⟨4,elem,len,fields⟩ bel A:=by unfold w1 contrib fsum;simp[hf]
      simp only[go_sem,reduceCtorEq,G0,G2,xu,z0c,w10,zc,hix,z7O _ _ _ hkb,hLk,hgB _ (show elem.toNat<n by omega),ew,q1.len]
      have hf0:((fields.length:Nat):Int)=0:=by rw[hf];rfl
      rw[yw]
      simp only[go_sem,reduceCtorEq,G0,G1,G2,Ya,z0a,hf0,(by decide: ¬(0:Int)<0)]
      have hsucc:=zd h hmax
      have hix:=qF .i64 (p:=(i:Int)) (n:=n) (by omega)
      rw[w1b] at hix
      have hset:=T5 (ws:=A++List.replicate (n-i) 0) (j:=i) (min 5001 (1+bel.getD elem.toNat 0)) (by simp;omega)
      rw[QJ hAl h,hV,←hrs] at hset
      have hcl:decide (i+1≤(A++List.replicate (n-i) 0).length)=true:=by simp;omega
      simp only[go_sem,reduceCtorEq,G0,G2,z0d,z1F,Ya,Xy,w10,zc,hix,min5001,hcl,hset,hV,hsucc]
      exact⟨i+1,by omega,h,_,rfl⟩
     have k4':(kind==4)=false:=by simpa using k4
     by_cases k7:kind=7
     ·subst k7
      have hel:=hflen.2.2.1 (.inr rfl)
      have hf:=hel.2.2
      have hix:=qF .i64 (p:=elem) (n:=n) ⟨hel.1,hel.2.1⟩
      have ew:IntKind.i64.wrap (1+IntKind.i64.wrap (16*((bel.getD elem.toNat 0:Nat):Int)))=((1+16*bel.getD elem.toNat 0:Nat):Int):=by
       rw[zb (n:=16*_) (by omega) (by omega),zb (by omega) (by omega)];omega
      have hV:min 5001 (1+16*bel.getD elem.toNat 0)=w1 ⟨7,elem,len,fields⟩ bel A:=by unfold w1 contrib fsum;simp[hf]
      simp only[go_sem,reduceCtorEq,G0,G2,xu,z0c,w10,k4',zc,hix,z7O _ _ _ hkb,hLk,hgB _ (show elem.toNat<n by omega),ew,q1.len]
      have hf0:((fields.length:Nat):Int)=0:=by rw[hf];rfl
      rw[yw]
      simp only[go_sem,reduceCtorEq,G0,G1,G2,Ya,z0a,hf0,(by decide: ¬(0:Int)<0)]
      have hsucc:=zd h hmax
      have hix:=qF .i64 (p:=(i:Int)) (n:=n) (by omega)
      rw[w1b] at hix
      have hset:=T5 (ws:=A++List.replicate (n-i) 0) (j:=i) (min 5001 (1+16*bel.getD elem.toNat 0)) (by simp;omega)
      rw[QJ hAl h,hV,←hrs] at hset
      have hcl:decide (i+1≤(A++List.replicate (n-i) 0).length)=true:=by simp;omega
      simp only[go_sem,reduceCtorEq,G0,G2,z0d,z1F,Ya,Xy,w10,zc,hix,min5001,hcl,hset,hV,hsucc]
      exact⟨i+1,by omega,h,_,rfl⟩
     have k7':(kind==7)=false:=by simpa using k7
     by_cases k6:kind=6
     ·subst k6
      have hel:=hflen.2.2.2.1 rfl
      have hf:=hel.2.2
      have hlen:=hflen.2.1 rfl
      have hmul:=jw (a:=len.toNat) (by omega) hcA
      have hix:=qF .i64 (p:=elem) (n:=n) ⟨hel.1,by omega⟩
      have ew:IntKind.i64.wrap (1+IntKind.i64.wrap (len*((A.getD elem.toNat 0:Nat):Int)))=((1+len.toNat*A.getD elem.toNat 0:Nat):Int):=by
       have:len*((A.getD elem.toNat 0:Nat):Int)=((len.toNat*A.getD elem.toNat 0:Nat):Int):=by
        rw[Int.natCast_mul,w40 (by omega)]
       rw[this,zb (n:=((len.toNat*A.getD elem.toNat 0:Nat):Int)) (by omega) (by omega),zb (by omega) (by omega)];omega
      have hV:min 5001 (1+len.toNat*A.getD elem.toNat 0)=w1 ⟨6,elem,len,fields⟩ bel A:=by unfold w1 contrib fsum;simp[hf]
      simp only[go_sem,reduceCtorEq,G0,G2,xu,z0d,z0c,w10,k4',k7',zc,hix,hgA _ (show elem.toNat<i by omega),ew,q1.len]
      have hf0:((fields.length:Nat):Int)=0:=by rw[hf];rfl
      rw[yw]
      simp only[go_sem,reduceCtorEq,G0,G1,G2,Ya,z0a,hf0,(by decide: ¬(0:Int)<0)]
      have hsucc:=zd h hmax
      have hix:=qF .i64 (p:=(i:Int)) (n:=n) (by omega)
      rw[w1b] at hix
      have hset:=T5 (ws:=A++List.replicate (n-i) 0) (j:=i) (min 5001 (1+len.toNat*A.getD elem.toNat 0)) (by simp;omega)
      rw[QJ hAl h,hV,←hrs] at hset
      have hcl:decide (i+1≤(A++List.replicate (n-i) 0).length)=true:=by simp;omega
      simp only[go_sem,reduceCtorEq,G0,G2,z0d,z1F,Ya,Xy,w10,zc,hix,min5001,hcl,hset,hV,hsucc]
      exact⟨i+1,by omega,h,_,rfl⟩
     have k6':(kind==6)=false:=by simpa using k6
     simp only[go_sem,reduceCtorEq,G0,G2,xu,z0c,k4',k7',k6',q1.len]
     refine za (α:=Nat) (fun k σ=>k≤fields.length∧ ∃nz'',heads [0,3,4,5,7,13,18,19,20,59,60,61] (L.length+2) σ=⟨tmps 82 [(0,x),(3,.arr (stk++[cur]).length kb st 0 n),(4,.arr (stk++[cur]).length L.length nz 0 n),(5,.int .i64 i),(7,.int .i64 ((1+fsum (fields.take k) A:Nat):Int)),(13,.int .i64 r),(18,x),(19,.int .i64 n),(20,.int .i64 i),(59,v),(60,.int .i64 fields.length),(61,.int .i64 k)],
      ⟨stk++[cur],L++[⟨nz,ints (A++List.replicate (n-i) 0)⟩]++[⟨nz',[.int .u8 kind,.int .i64 elem,.int .i64 len,v]⟩],nz'',[]::live,fl⟩⟩) (fun k=>fields.length-k) 0 ?_ ?_
     ·refine⟨w06 _,?_⟩
      simp only[go_sem,reduceCtorEq,G0,G1,z0a,fsum]
      exact⟨_,rfl⟩
     ·rintro k σ ⟨hk,nz'',hσ⟩
      rw[hσ]
      clear hσ σ
      dsimp only at hk⊢
      have hfs:=z5Y (fs:=fields.take k) hle
      have hfl:(fields.take k).length≤8:=by rw[w1a];omega
      have hfs8:fsum (fields.take k) A≤40008:=w4d hfs (by omega)
      by_cases hkl:k<fields.length
      ·have e2:nth v k= .agg [.str fields[k].name,.int .i64 fields[k].typ]:=q1.nth hkl
       have hat2:=q1.at .i64 hkl
       have htk:=hflen.2.2.2.2.2 _ (w04 hkl)
       have hix:=qF .i64 (p:=fields[k].typ) (n:=n) ⟨htk.1,by omega⟩
       have hcA:=Z7 hle fields[k].typ.toNat
       have hsu:=zaI hkl A
       have ew:IntKind.i64.wrap (((1+fsum (fields.take k) A:Nat):Int)+((A.getD fields[k].typ.toNat 0:Nat):Int))=((1+fsum (fields.take (k+1)) A:Nat):Int):=by rw[zb (by omega) (by omega)];omega
       simp only[go_sem,reduceCtorEq,G3,G0,G1,G2,xu,zdY,zdX,zdV,zdU,w10,w02,hkl,hat2,e2,zc,hix,hgA _ (show fields[k].typ.toNat<i by omega),ew,zd hkl q1.max]
       exact⟨k+1,by omega,hkl,_,rfl⟩
      ·have:k=fields.length:=by omega
       subst this
       rw[w08] at hfs8⊢
       have hV:min 5001 (1+fsum fields A)=w1 ⟨kind,elem,len,fields⟩ bel A:=by unfold w1 contrib;rw[if_neg k4,if_neg k7,if_neg k6]
       simp only[go_sem,reduceCtorEq,G0,G1,G2,Ya,w02,hkl]
       have hsucc:=zd h hmax
       have hix:=qF .i64 (p:=(i:Int)) (n:=n) (by omega)
       rw[w1b] at hix
       have hset:=T5 (ws:=A++List.replicate (n-i) 0) (j:=i) (min 5001 (1+fsum fields A)) (by simp;omega)
       rw[QJ hAl h,hV,←hrs] at hset
       have hcl:decide (i+1≤(A++List.replicate (n-i) 0).length)=true:=by simp;omega
       simp only[go_sem,reduceCtorEq,G0,G2,z0d,z1F,Ya,Xy,w10,zc,hix,min5001,hcl,hset,hV,hsucc]
       exact⟨i+1,by omega,h,_,rfl⟩
    ·have:i=l.length:=by omega
     subst this
     rw[w08,Nat.sub_self,List.replicate_zero,w1f]
     simp only[go_sem,reduceCtorEq,G0,G1,G2,w02,h,hr1]
     exact⟨r+1,by omega,h4,_,L.length,nz,_,by simp,by rw[hrr];simp,rfl⟩
  ·have:r=4:=by omega
   subst this
   simp only[go_sem,reduceCtorEq,G5,G0,G1,G2,(by decide: ¬(((4:Nat):Int)<4))]
   obtain⟨bs,hbs,hg⟩:=zar (m0:=⟨stk,cur,nx,live,fl⟩) (stk:=stk) (cur:=cur) (c':=L) (nx':=nz) (own:=[]) (live':=live) (fl':=fl) (k:=kb) (st:=st) (off:=0) (len:=l.length)
   rw[hbs,z8]
   exact⟨bs,kb,st,nz,by rw[Nat.add_comm],rfl,hg _ hLk⟩
def CheckP (l:List DTyp):Prop:=l.length≤32∧ValidT l∧ ∀w∈rounds l 4,w≤5000
noncomputable def err04 (l:List DTyp):Int:=if pb (CheckP l) then 0 else 8
theorem Y8 {l:List DTyp} (h: ¬CheckP l):err04 l=8:=by unfold err04;rw[zg h];rfl
theorem z0L {l:List DTyp} (h:CheckP l):err04 l=0:=by unfold err04;rw[zF h];rfl
def WfTypes (l:List DTyp):Prop:= ∀t∈l,WfTyp t
theorem WfTypes.names {l:List DTyp} (h:WfTypes l) {i:Nat} (hi:i<l.length):NamesOk l[i].fields:=fun f hf=>((h _ (w04 hi)).fields f hf).name
theorem Yd (l:List DTyp) (x:AV) (hx:IsSl IsTyp 4 l x) (hw:WfTypes l) (m:Mem):Okv tab uJ [x] m (.int .i64 (err04 l)):=by
 refine ze z3D ?_
 obtain⟨stk,cur,nx,live,fl⟩:=m
 simp only[YN,List.map,go_sem,reduceCtorEq,G0,G2,hx.len]
 by_cases hl:(l.length:Int)>32
 ·simp only[go_sem,reduceCtorEq,G0,G2,hl]
  rw[z6 rfl rfl,z8]
  exact⟨⟨_,rfl⟩,by rw[Y8 fun h'=>by have:=h'.1;omega]⟩
 simp only[go_sem,reduceCtorEq,G0,G2,hl,hx.len]
 refine za (α:=Nat) (fun i σ=>(i≤l.length∧ ∀j (h:j<l.length),j<i→FineT l.length j l[j])∧ ∃nz,heads [0,10,11] 0 σ=⟨tmps 29 [(0,x),(10,.int .i64 l.length),(11,.int .i64 i)],⟨stk++[cur],[],nz,[]::live,fl⟩⟩) (fun i=>l.length-i) 0 ?_ ?_
 ·refine⟨⟨w06 _,fun j _ h=>absurd h (w35 _)⟩,?_⟩
  simp only[go_sem,reduceCtorEq,G0,G1]
  exact⟨_,rfl⟩
 ·rintro i σ ⟨⟨hi,hv⟩,nz,hσ⟩
  rw[hσ]
  clear hσ σ
  dsimp only at hi hv⊢
  by_cases h:i<l.length
  ·have hF:=fun m=>z57 l x hx i h (hw _ (w04 h)) m
   by_cases hf:FineT l.length i l[i]
   ·rw[zF hf] at hF
    have hFe:=fun m=>(hF m).eq
    simp only[go_sem,reduceCtorEq,G0,G1,G2,w02,h,hFe,zd h hx.max]
    refine⟨i+1,by omega,⟨h,fun j hj hji=> ?_⟩,_,rfl⟩
    rcases Nat.lt_succ_iff_lt_or_eq.1 hji with q|q
    ·exact hv j hj q
    ·subst q;exact hf
   ·rw[zg hf] at hF
    have hFe:=fun m=>(hF m).eq
    simp only[go_sem,reduceCtorEq,G0,G1,G2,w02,h,hFe]
    rw[z6 rfl rfl,z8]
    exact⟨⟨_,rfl⟩,by rw[Y8 fun h'=>hf (h'.2.1 i h)]⟩
  ·have:i=l.length:=by omega
   subst this
   have hval:ValidT l:=fun j hj=>hv j hj hj
   simp only[go_sem,reduceCtorEq,G0,G1,G2,w02,h]
   obtain⟨bs,j,st,k,hcall,hbs⟩:=z1P l x hx hval (by omega) (stk++[cur]) [] nz fl ([]::live)
   simp only[go_sem,reduceCtorEq,G0,G2,hcall,evLen]
   have hwl:=Zv l 4
   refine za (α:=Nat) (fun i σ=>(i≤l.length∧ ∀w∈(rounds l 4).take i,w≤5000)∧ ∃nz,heads [20,21,22] bs.length σ=⟨tmps 29 [(20,.arr (stk++[cur]).length j st 0 l.length),(21,.int .i64 l.length),(22,.int .i64 i)],⟨stk++[cur],bs,nz,[]::live,fl⟩⟩) (fun i=>l.length-i) 0 ?_ ?_
   ·refine⟨⟨w06 _,by simp⟩,?_⟩
    simp only[go_sem,reduceCtorEq,G0,G1,w08]
    exact⟨_,rfl⟩
   ·rintro i σ ⟨⟨hi,hws⟩,nz,hσ⟩
    rw[hσ]
    clear hσ σ
    dsimp only at hi hws⊢
    by_cases h:i<l.length
    ·have hix:=qF .i64 (p:=(i:Int)) (n:=l.length) (by omega)
     rw[w1b] at hix
     have hg:=z01 (ws:=rounds l 4) (j:=i) (by omega)
     rw[jx (by omega)] at hg
     by_cases hw:(rounds l 4)[i]≤5000
     ·simp only[go_sem,G0,G1,G2,w02,h,zc,hix,w10,hbs,hg,show¬(((rounds l 4)[i]:Nat):Int)>5000 by omega,zd h hx.max,w08]
      exact⟨i+1,by omega,⟨h,zo (P:=fun w=>w≤5000) (by omega) hws hw⟩,_,rfl⟩
     ·simp only[go_sem,G0,G1,G2,w02,h,zc,hix,w10,hbs,hg,show(((rounds l 4)[i]:Nat):Int)>5000 by omega]
      rw[z6 rfl rfl,z8]
      exact⟨⟨_,rfl⟩,by rw[Y8 fun h'=>hw (h'.2.2 _ (w04 (by omega)))]⟩
    ·have:i=l.length:=by omega
     subst this
     rw[←hwl,w08] at hws
     simp only[go_sem,G0,G1,G2,w02,h]
     rw[z6 rfl rfl,z8]
     exact⟨⟨_,rfl⟩,by rw[z0L ⟨by omega,hval,hws⟩]⟩
theorem WO (l:List DTyp) (x:AV) (hx:IsSl IsTyp 4 l x) (hw:WfTypes l) (m:Mem):Okv tab vf [x] m (.int .i64 (err04 l)):=by
 refine ze Va ?_
 obtain⟨stk,cur,nx,live,fl⟩:=m
 simp only[tg,List.map,go_sem,reduceCtorEq,G0,G2,hx.len]
 by_cases hl:(l.length:Int)>32
 ·simp only[go_sem,reduceCtorEq,G0,G2,hl]
  rw[z6 rfl rfl,z8]
  exact⟨⟨_,rfl⟩,by rw[Y8 fun h'=>by have:=h'.1;omega]⟩
 simp only[go_sem,hl]
 refine za (α:=Nat) (fun i σ=>(i≤l.length∧ ∀j (h:j<l.length),j<i→FineT l.length j l[j])∧ ∃nz,heads [0,3] 0 σ=⟨tmps 32 [(0,x),(3,.int .i64 i)],⟨stk++[cur],[],nz,[]::live,fl⟩⟩) (fun i=>l.length-i) 0 ?_ ?_
 ·refine⟨⟨w06 _,fun j _ h=>absurd h (w35 _)⟩,?_⟩
  simp only[go_sem,reduceCtorEq,G0,G1]
  exact⟨_,rfl⟩
 ·rintro i σ ⟨⟨hi,hv⟩,nz,hσ⟩
  rw[hσ]
  clear hσ σ
  dsimp only at hi hv⊢
  by_cases h:i<l.length
  ·have hF:=fun m=>U6 l x hx i h (hw.names h) m
   by_cases hf:FineT l.length i l[i]
   ·rw[zF hf] at hF
    have hFe:=fun m=>(hF m).eq
    simp only[go_sem,reduceCtorEq,G0,G1,G2,w02,h,hx.len,hFe,zd h hx.max]
    refine⟨i+1,by omega,⟨h,fun j hj hji=> ?_⟩,_,rfl⟩
    rcases Nat.lt_succ_iff_lt_or_eq.1 hji with q|q
    ·exact hv j hj q
    ·subst q;exact hf
   ·rw[zg hf] at hF
    have hFe:=fun m=>(hF m).eq
    simp only[go_sem,reduceCtorEq,G0,G1,G2,w02,h,hx.len,hFe]
    rw[z6 rfl rfl,z8]
    exact⟨⟨_,rfl⟩,by rw[Y8 fun h'=>hf (h'.2.1 i h)]⟩
  ·have:i=l.length:=by omega
   subst this
   have hval:ValidT l:=fun j hj=>hv j hj hj
   simp only[go_sem,reduceCtorEq,G0,G1,G2,w02,h,hx.len]
   refine(jo l x hx hval (by omega) 3 (by omega) _).xv fun y ts n ho=> ?_
   simp only[go_sem,reduceCtorEq,G0,G2]
   have hwl:=Zv l 4
   refine za (α:=Nat) (fun i σ=>(i≤l.length∧ ∀w∈(rounds l 4).take i,w≤5000)∧ ∃nz,heads [0,4,5] 0 σ=⟨tmps 32 [(0,x),(4,y),(5,.int .i64 i)],⟨stk++[cur],[],nz,ts::live,fl⟩⟩) (fun i=>l.length-i) 0 ?_ ?_
   ·refine⟨⟨w06 _,by simp⟩,?_⟩
    simp only[go_sem,reduceCtorEq,G0,G1]
    exact⟨_,rfl⟩
   ·rintro i σ ⟨⟨hi,hws⟩,nz,hσ⟩
    rw[hσ]
    clear hσ σ
    dsimp only at hi hws⊢
    by_cases h:i<l.length
    ·have hiw:i<(rounds l (3+1)).length:=by rw[Zv];exact h
     have e1:nth y i= .int .i64 ((rounds l (3+1))[i]:Nat):=ho.nth hiw
     by_cases hw:(rounds l (3+1))[i]≤5000
     ·simp only[go_sem,reduceCtorEq,G3,G0,G1,G2,w02,h,hx.len,ho.at _ hiw,e1,show¬(((rounds l (3+1))[i]:Nat):Int)>5000 by omega,zd h hx.max]
      exact⟨i+1,by omega,⟨h,zo (P:=fun w=>w≤5000) (by omega) hws hw⟩,_,rfl⟩
     ·simp only[go_sem,reduceCtorEq,G3,G0,G1,G2,w02,h,hx.len,ho.at _ hiw,e1,show(((rounds l (3+1))[i]:Nat):Int)>5000 by omega]
      rw[z6 rfl rfl,z8]
      exact⟨⟨_,rfl⟩,by rw[Y8 fun h'=>hw (h'.2.2 _ (w04 hiw))]⟩
    ·have:i=l.length:=by omega
     subst this
     rw[←hwl,w08] at hws
     simp only[go_sem,reduceCtorEq,G0,G1,G2,w02,h,hx.len]
     rw[z6 rfl rfl,z8]
     exact⟨⟨_,rfl⟩,by rw[z0L ⟨by omega,hval,hws⟩]⟩
def up (n a:Nat):Nat:=(n+a-1)/a*a
theorem z86 (n:Nat):up n 1=n:=by unfold up;simp
theorem z1Y (n:Nat):up n 8=(n+7)/8*8:=rfl
def is18 (a:Nat):Prop:=a=1∨a=8
theorem z1X {n a:Nat} (h:is18 a):n≤up n a∧up n a≤n+7:=by
 rcases h with rfl|rfl
 ·rw[z86];omega
 ·rw[z1Y];omega
theorem zci {a b:Nat} (ha:is18 a) (hb:is18 b):is18 (max a b):=by unfold is18 at*;omega
theorem zcy (x:BitVec 64):(x&&& ~~~(7#64)).toNat=x.toNat/8*8:=by
 apply Nat.eq_of_testBit_eq
 intro i
 rw[BitVec.testBit_toNat,BitVec.getLsbD_and,BitVec.getLsbD_not,show(8:Nat)=2^3 from rfl,Nat.testBit_mul_two_pow,Nat.testBit_div_two_pow,BitVec.testBit_toNat]
 by_cases h3:3≤i
 ·have:(7#64).getLsbD i=false:=by
   rw[←BitVec.testBit_toNat]
   exact Nat.testBit_lt_two_pow (w58 (by decide:(7#64).toNat<2^3) (w4c (by omega) h3))
  by_cases h64:i<64
  ·rw[this,Nat.sub_add_cancel h3];simp[h3,h64]
  ·have:x.getLsbD i=false:=BitVec.getLsbD_of_ge x i (by omega)
   rw[Nat.sub_add_cancel h3,this];simp
 ·have:i=0∨i=1∨i=2:=by omega
  rcases this with rfl|rfl|rfl<;>simp<;>decide
theorem z4Y {n a:Nat} (h:is18 a) (hn:n≤4194304):evBits .andNot .i64 (IntKind.i64.wrap (IntKind.i64.wrap ((n:Int)+(a:Int))-1)) (IntKind.i64.wrap ((a:Int)-1))=some (.int .i64 ((up n a:Nat):Int)):=by
 have e0:(a:Int)=1∨(a:Int)=8:=by unfold is18 at h;omega
 have e1:IntKind.i64.wrap ((n:Int)+(a:Int))=n+a:=zb (by omega) (by omega)
 have e2:IntKind.i64.wrap ((n:Int)+a-1)=n+a-1:=zb (by omega) (by omega)
 have e3:IntKind.i64.wrap ((a:Int)-1)=a-1:=zb (by omega) (by omega)
 rw[e1,e2,e3]
 have hx: ∀y:Nat,y≤5000000→(BitVec.ofInt 64 (y:Int)).toNat=y:=fun y hy=>by
  rw[BitVec.toNat_ofInt];omega
 refine congrArg (fun z=>some (AV.int .i64 z)) (?_:IntKind.i64.wrap ((BitVec.ofInt 64 ((n:Int)+a-1)&&& ~~~BitVec.ofInt 64 ((a:Int)-1)).toNat:Int)=((up n a:Nat):Int))
 rcases h with rfl|rfl
 ·have:BitVec.ofInt 64 (((1:Nat):Int)-1)=0#64:=rfl
  rw[this]
  have h2:(BitVec.ofInt 64 ((n:Int)+((1:Nat):Int)-1)&&& ~~~(0#64))=BitVec.ofInt 64 (n:Int):=by
   rw[show(n:Int)+((1:Nat):Int)-1=n by omega,show~~~(0#64)=BitVec.allOnes 64 from by decide,BitVec.and_allOnes]
  rw[h2,hx n (by omega),z86,zb (by omega) (by omega)]
 ·have:BitVec.ofInt 64 (((8:Nat):Int)-1)=7#64:=rfl
  rw[this,zcy,show(n:Int)+((8:Nat):Int)-1=((n+7:Nat):Int) by omega,hx _ (by omega),z1Y,zb (by omega) (by omega)]
def togStep (far:Nat) (out:List (Nat×Nat)) (s:List Nat×Nat×Nat) (f:DField):List Nat×Nat×Nat:=
 (s.1++[up s.2.1 (out.getD f.typ.toNat (0,0)).2],min far (up s.2.1 (out.getD f.typ.toNat (0,0)).2+(out.getD f.typ.toNat (0,0)).1),max s.2.2 (out.getD f.typ.toNat (0,0)).2)
def tog (far:Nat) (out:List (Nat×Nat)) (fs:List DField):List Nat×Nat×Nat:=fs.foldl (togStep far out) ([],0,1)
def togEnd (far:Nat) (out:List (Nat×Nat)) (fs:List DField):Nat×Nat:=(min far (up (tog far out fs).2.1 (tog far out fs).2.2),(tog far out fs).2.2)
def ext1 (far:Nat) (out:List (Nat×Nat)) (t:DTyp):Nat×Nat:=
 if t.kind=1 then(1,1) else if t.kind=3 then(16,8) else if t.kind=7 then(24,8) else if t.kind=6 then(min far (t.len.toNat*(out.getD t.elem.toNat (0,0)).1),(out.getD t.elem.toNat (0,0)).2)
 else if t.kind=5 then togEnd far out t.fields else(8,8)
def exts (far:Nat) (l:List DTyp):List (Nat×Nat):=l.foldl (fun out t=>out++[ext1 far out t]) []
theorem Uh (far:Nat) (out:List (Nat×Nat)) {fs:List DField} {k:Nat} (h:k<fs.length):tog far out (fs.take (k+1))=togStep far out (tog far out (fs.take k)) fs[k]:=by
 unfold tog;rw[w0d h,List.foldl_append];rfl
theorem Zj (far:Nat) {l:List DTyp} {i:Nat} (h:i<l.length):exts far (l.take (i+1))=exts far (l.take i)++[ext1 far (exts far (l.take i)) l[i]]:=by
 unfold exts;rw[w0d h,List.foldl_append];rfl
theorem uG (far:Nat) (l:List DTyp): ∀i,i≤l.length→(exts far (l.take i)).length=i
 |0,_=>by simp[exts]
 |i+1,h=>by rw[Zj far h,w05,uG far l i (by omega)];rfl
def GoodP (out:List (Nat×Nat)):Prop:= ∀p∈out,p.1≤1048576∧is18 p.2
theorem GoodP.get {out:List (Nat×Nat)} (h:GoodP out) {j:Nat} (hj:j<out.length):(out.getD j (0,0)).1≤1048576∧is18 (out.getD j (0,0)).2:=by
 have:out.getD j (0,0)=out[j]:=by simp[w00,hj]
 rw[this];exact h _ (w04 hj)
theorem X0 {far:Nat} (hfar:far≤1048576) {out:List (Nat×Nat)} (h:GoodP out) {fs:List DField} (hf: ∀f∈fs,0≤f.typ∧f.typ<out.length): ∀k,k≤fs.length→(tog far out (fs.take k)).1.length=k∧(tog far out (fs.take k)).2.1≤1048576∧is18 (tog far out (fs.take k)).2.2
 |0,_=>by simp[tog,is18]
 |k+1,hk=>by
  obtain⟨h1,h2,h3⟩:=X0 hfar h hf k (by omega)
  have hfk:=hf _ (w04 (show k<fs.length by omega))
  have hg:=h.get (j:=fs[k].typ.toNat) (by omega)
  rw[Uh far out (show k<fs.length by omega)]
  exact⟨by simp[togStep,h1],by simp only[togStep];omega,zci h3 hg.2⟩
theorem zaK {far:Nat} (hfar:far≤1048576) {out:List (Nat×Nat)} (h:GoodP out) {n i:Nat} {t:DTyp} (hf:FineT n i t) (hi:out.length=i):(ext1 far out t).1≤1048576∧is18 (ext1 far out t).2:=by
 have hl:=tR hf
 unfold ext1
 split
 ·simp[is18]
 ·split
  ·simp[is18]
  ·split
   ·simp[is18]
   ·split
    ·rename_i h6
     have:=hl.2.2.2.1 h6
     exact⟨by simp only;omega,(h.get (by omega)).2⟩
    ·split
     ·have:=X0 hfar h (fs:=t.fields) (by rw[hi];exact hl.2.2.2.2.2) t.fields.length (w09 _)
      rw[w08] at this
      exact⟨by simp only[togEnd];omega,this.2.2⟩
     ·simp[is18]
theorem TJ {far:Nat} (hfar:far≤1048576) {l:List DTyp} (hv:ValidT l): ∀i,i≤l.length→GoodP (exts far (l.take i))
 |0,_=>by simp[exts,GoodP]
 |i+1,h=>by
  have ih:=TJ hfar hv i (by omega)
  rw[Zj far h]
  intro p hp
  rcases w0a.1 hp with hp|hp
  ·exact ih p hp
  ·simp at hp;subst hp;exact zaK hfar ih (hv i (by omega)) (uG far l i (by omega))
def prs (ws:List (Nat×Nat)):List AV:=ws.flatMap fun p=>[.int .i64 (p.1:Int),.int .i64 (p.2:Int)]
theorem zdd (ws:List (Nat×Nat)):(prs ws).length=ws.length*2:=by
 induction ws with
 |nil=>rfl
 |cons w r ih=>simp only[prs,w31,w05,w2f,w30] at ih⊢;omega
theorem QO: ∀(ws:List (Nat×Nat)) (j:Nat),j<ws.length→(prs ws).drop (j*2)= .int .i64 ((ws.getD j (0,0)).1:Int):: .int .i64 ((ws.getD j (0,0)).2:Int)::(prs ws).drop (j*2+2)
 | [],_,h=>by simp at h
 |w::r,0,_=>rfl
 |w::r,j+1,h=>by
  have:=QO r j (by simpa using h)
  simp only[prs,w31,show(j+1)*2=j*2+2 by omega,w28,w32,w22,List.getD_cons_succ] at this⊢
  exact this
theorem zdc (n:Nat):flatRep [.int .i64 0,.int .i64 0] n=prs (List.replicate n (0,0)):=by
 induction n with
 |zero=>rfl
 |succ n ih=>rw[flatRep,ih,w4f];rfl
theorem Y7: ∀(ws:List (Nat×Nat)) (j a b:Nat),j<ws.length→(prs ws).take (j*2)++[.int .i64 (a:Int),.int .i64 (b:Int)]++(prs ws).drop (j*2+2)=prs (ws.set j (a,b))
 | [],_,_,_,h=>by simp at h
 |w::r,0,a,b,_=>rfl
 |w::r,j+1,a,b,h=>by
  have:=Y7 r j a b (by simpa using h)
  simp only[prs,w31,show(j+1)*2=j*2+2 by omega,w28,w32,w22,w20,w46] at this⊢
  rw[this]
theorem z6O {ws:List (Nat×Nat)} {j:Nat} (h:j<ws.length):takeV true 2 ((prs ws).drop (j*2))=some (.agg [.int .i64 ((ws.getD j (0,0)).1:Int),.int .i64 ((ws.getD j (0,0)).2:Int)]):=by
 rw[QO ws j h];simp[takeV]
theorem z4i (l l' k:Nat) (ws:List (Nat×Nat)):shiftAll l l' k (prs ws)=prs ws:=by
 induction ws with
 |nil=>rfl
 |cons w r ih=>simp only[prs,w31,w28,w32,shiftAll,AV.shift] at ih⊢;rw[ih]
theorem z9z (a:Nat):(if(a:Int)<(1048576:Int) then(a:Int) else(1048576:Int))=((min 1048576 a:Nat):Int):=by split<;>omega
theorem z5Q (a:Nat):(if(a:Int)<(1000000:Int) then(a:Int) else(1000000:Int))=((min 1000000 a:Nat):Int):=by split<;>omega
theorem zdm (a b:Nat):(if(b:Int)>(a:Int) then(b:Int) else(a:Int))=((max a b:Nat):Int):=by split<;>omega
theorem zew {n a:Nat} (ha:is18 a) (h:n≤1048576):min 1048576 (up n a)=up n a:=by
 rcases ha with rfl|rfl
 ·rw[z86];omega
 ·rw[z1Y];omega
theorem zbU (a b:Nat):(if a<b then(b:Int) else(a:Int))=((max a b:Nat):Int):=by split<;>omega
theorem zaq {m0:Mem} {stk:List (List Blk)} {cur c':List Blk} {nx' fl':Nat} {own:List Nat} {live':List (List Nat)} {k st off len:Nat} {a b:Int}:
  ∃bs:List Blk,leave m0 ⟨stk++[cur],c',nx',own::live',fl'⟩ (.tup [.arr (stk++[cur]).length k st off len,.agg [.int .i64 a,.int .i64 b]])=some (.tup [.arr stk.length (k+cur.length) st off len,.agg [.int .i64 a,.int .i64 b]],⟨stk,cur++bs,nx',live',m0.floor⟩)∧
   ∀ws,c'[k]? =some ⟨st,ints ws⟩→bs[k]? =some ⟨st,ints ws⟩:=by
 have e:own.filter (fun _=>false)=[]:=by simp
 refine⟨c'.map fun b=>⟨b.st,shiftAll (stk++[cur]).length ((stk++[cur]).length-1) cur.length b.cs⟩,?_,?_⟩
 ·unfold leave
  simp only[w51,w48,Option.some_or,AV.refs,refsAny,beq_self_eq_true,Bool.true_or,if_true,AV.toks,toksAll,w1f,List.contains_nil,e,pushToks,w52,AV.shift,shiftAll]
  simp
 ·intro ws h
  rw[w17,h,w0e,Qk]
theorem z56 (ws W:List (Nat×Nat)) (hg:GoodP ws) (hle:ws.length≤W.length) (hW: ∀j,j<ws.length→W.getD j (0,0)=ws.getD j (0,0)) (fields:List DField) (v:AV) (q1:IsSl IsField 2 fields v) (hf: ∀f∈fields,0≤f.typ∧f.typ<ws.length) (hlen:fields.length≤100)
  (stk:List (List Blk)) (cur:List Blk) (nx fl:Nat) (live:List (List Nat)) (lv kb st:Nat) (hlv:lv≤stk.length) (hb:((stk++[cur]).getD lv [])[kb]? =some ⟨st,prs W⟩):
  ∃bs j s k,CALL tab Zc [.arr lv kb st 0 W.length,v] ⟨stk,cur,nx,live,fl⟩=some (.tup [.arr stk.length (cur.length+j) s 0 fields.length,.agg [.int .i64 ((togEnd 1048576 ws fields).1:Nat),.int .i64 ((togEnd 1048576 ws fields).2:Nat)]],⟨stk,cur++bs,k,live,fl⟩)∧bs[j]? =some ⟨s,ints (tog 1048576 ws fields).1⟩:=by
 suffices h:Does tab Zc [.arr lv kb st 0 W.length,v] ⟨stk,cur,nx,live,fl⟩ fun r m'=> ∃bs j s k,r= .tup [.arr stk.length (cur.length+j) s 0 fields.length,.agg [.int .i64 ((togEnd 1048576 ws fields).1:Nat),.int .i64 ((togEnd 1048576 ws fields).2:Nat)]]∧m'=⟨stk,cur++bs,k,live,fl⟩∧bs[j]? =some ⟨s,ints (tog 1048576 ws fields).1⟩ by
  obtain⟨z,h1,bs,j,s,k,h2,h3,h4⟩:=h
  exact⟨bs,j,s,k,by rw[h1,←h2,←h3],h4⟩
 refine yn z5j ?_ (w1c rfl)
 have hmk: ∀m:Mem,evMake m 1 8 [.int .i64 0] (.int .i64 fields.length) (.int .i64 fields.length)=some (.arr m.stk.length m.cur.length m.nx 0 fields.length,{m with cur:=m.cur++[⟨m.nx,ints (List.replicate fields.length 0)⟩],nx:=m.nx+1}):=fun m=>by
  unfold evMake
  simp only
  rw[if_pos ⟨trivial,by omega,by omega,by omega,rfl⟩,w1b,z7t]
 have hne:(lv==(stk++[cur]).length)=false:=by simp;omega
 simp only[WB,List.map,go_sem,reduceCtorEq,G3,G0,G4,G2,q1.len,hmk,evBuild]
 refine za (α:=Nat) (fun k σ=>k≤fields.length∧ ∃nz,heads [0,5,6,7,15,16,17] 3 σ=⟨tmps 68 [(0,.arr lv kb st 0 W.length),(5,.ptr (stk++[cur]).length 0 nx 0),(6,.arr (stk++[cur]).length 1 (nx+1) 0 fields.length),(7,.ptr (stk++[cur]).length 2 (nx+1+1) 0),(15,v),(16,.int .i64 fields.length),(17,.int .i64 k)],
  ⟨stk++[cur],[⟨nx,[.int .i64 0,.int .i64 0]⟩,⟨nx+1,ints ((tog 1048576 ws (fields.take k)).1++List.replicate (fields.length-k) 0)⟩,⟨nx+1+1,[.int .i64 ((tog 1048576 ws (fields.take k)).2.1:Nat),.int .i64 ((tog 1048576 ws (fields.take k)).2.2:Nat)]⟩],nz,[]::live,fl⟩⟩) (fun k=>fields.length-k) 0 ?_ ?_
 ·refine⟨w06 _,?_⟩
  simp only[go_sem,reduceCtorEq,G0,G1,tog,w21,List.foldl_nil,Nat.sub_zero]
  exact⟨_,rfl⟩
 ·rintro k σ ⟨hk,nz,hσ⟩
  rw[hσ]
  clear hσ σ
  dsimp only at hk⊢
  obtain⟨g1,g2,g3⟩:=X0 (far:=1048576) (w09 _) hg hf k hk
  by_cases h:k<fields.length
  ·have e2:nth v k= .agg [.str fields[k].name,.int .i64 fields[k].typ]:=q1.nth h
   have hat2:=q1.at .i64 h
   have hfk:=hf _ (w04 h)
   have hgk:=hg.get (j:=fields[k].typ.toNat) (by omega)
   have hix:=qF .i64 (p:=fields[k].typ) (n:=W.length) ⟨hfk.1,by omega⟩
   have hld:=z6O (ws:=W) (j:=fields[k].typ.toNat) (by omega)
   rw[hW _ (by omega)] at hld
   have hts:=Uh 1048576 ws h
   unfold togStep at hts
   generalize tog 1048576 ws (fields.take k)=s at*
   obtain⟨offs,en,mo⟩:=s
   dsimp only at g1 g2 g3
   generalize ws.getD fields[k].typ.toNat (0,0)=pr at*
   have hix2:=qF .i64 (p:=(k:Int)) (n:=fields.length) (by omega)
   rw[w1b] at hix2
   have hsz:offs.length=k:=g1
   have hcl:decide (k+1≤(ints (offs++List.replicate (fields.length-k) 0)).length)=true:=by rw[Xy];simp;omega
   have hset:=T5 (ws:=offs++List.replicate (fields.length-k) 0) (j:=k) (up en pr.2) (by simp;omega)
   rw[QJ hsz h] at hset
   have hg2:=z01 (ws:=offs++[up en pr.2]++List.replicate (fields.length-(k+1)) 0) (j:=k) (by simp;omega)
   have hv2:(offs++[up en pr.2]++List.replicate (fields.length-(k+1)) 0).getD k 0=up en pr.2:=by
    rw[z7v (by simp;omega)];simp[w00,←hsz]
   rw[hv2] at hg2
   have hup:=z1X (n:=en) hgk.2
   have ew:IntKind.i64.wrap ((up en pr.2:Nat)+(pr.1:Nat))=((up en pr.2+pr.1:Nat):Int):=by rw[zb (by omega) (by omega)];omega
   simp only[go_sem,reduceCtorEq,G3,G0,G4,G1,G2,w02,h,hat2,e2,zc,hix,hne,hb,hld,z4Y hgk.2 (show en≤4194304 by omega),hix2,w10,hcl,hset,hg2,ew,z9z,zbU,evBuild,zd h q1.max]
   refine⟨k+1,by omega,h,nz+1+1,?_⟩
   rw[hts]
  ·have:k=fields.length:=by omega
   subst this
   rw[w08,Nat.sub_self,List.replicate_zero,w1f] at*
   have hup:=z1X (n:=(tog 1048576 ws fields).2.1) g3
   have hfar:=zew g3 g2
   simp only[go_sem,reduceCtorEq,G3,G0,G4,G1,G2,w02,h,z4Y g3 (show(tog 1048576 ws fields).2.1≤4194304 by omega)]
   obtain⟨bs,hbs,hgb⟩:=zaq (m0:=⟨stk,cur,nx,live,fl⟩) (stk:=stk) (cur:=cur) (c':=[⟨nx,[.int .i64 ((up (tog 1048576 ws fields).2.1 (tog 1048576 ws fields).2.2:Nat):Int),.int .i64 ((tog 1048576 ws fields).2.2:Nat)]⟩,⟨nx+1,ints (tog 1048576 ws fields).1⟩,⟨nx+1+1,[.int .i64 ((up (tog 1048576 ws fields).2.1 (tog 1048576 ws fields).2.2:Nat):Int),.int .i64 ((tog 1048576 ws fields).2.2:Nat)]⟩]) (nx':=nz) (own:=[]) (live':=live) (fl':=fl) (k:=1) (st:=nx+1) (off:=0) (len:=fields.length) (a:=((up (tog 1048576 ws fields).2.1 (tog 1048576 ws fields).2.2:Nat):Int)) (b:=((tog 1048576 ws fields).2.2:Nat))
   rw[hbs,z8]
   refine⟨bs,1,nx+1,nz,?_,rfl,hgb _ rfl⟩
   unfold togEnd
   rw[hfar,Nat.add_comm]
theorem Zx {A:List (Nat×Nat)} {n i:Nat} {v:Nat×Nat} (h:A.length=i) (hi:i<n):(A++List.replicate (n-i) (0,0)).set i v=A++[v]++List.replicate (n-(i+1)) (0,0):=by
 rw[List.set_append,if_neg (by omega)]
 rw[show n-i=(n-(i+1))+1 by omega,w4f,show i-A.length=0 by omega]
 simp
theorem Tz {A B:List (Nat×Nat)} {j:Nat} (h:j<A.length):(A++B).getD j (0,0)=A.getD j (0,0):=by
 simp[w00,w0c h]
theorem z8w {m0:Mem} {stk:List (List Blk)} {cur c':List Blk} {nx' fl':Nat} {own:List Nat} {live':List (List Nat)} {k st off len:Nat}:
  ∃bs:List Blk,leave m0 ⟨stk++[cur],c',nx',own::live',fl'⟩ (.arr (stk++[cur]).length k st off len)=some (.arr stk.length (k+cur.length) st off len,⟨stk,cur++bs,nx',live',m0.floor⟩)∧
   ∀ws,c'[k]? =some ⟨st,prs ws⟩→bs[k]? =some ⟨st,prs ws⟩:=by
 have e:own.filter (fun _=>false)=[]:=by simp
 refine⟨c'.map fun b=>⟨b.st,shiftAll (stk++[cur]).length ((stk++[cur]).length-1) cur.length b.cs⟩,?_,?_⟩
 ·unfold leave
  simp only[w51,w48,Option.some_or,AV.refs,beq_self_eq_true,if_true,AV.toks,List.contains_nil,e,pushToks,w52,AV.shift]
  simp
 ·intro ws h
  rw[w17,h,w0e,z4i]
theorem YY (l:List DTyp) (x:AV) (hx:IsSl IsTyp 4 l x) (hv:ValidT l) (hl:l.length≤100) (stk:List (List Blk)) (cur:List Blk) (nx fl:Nat) (live:List (List Nat)):
  ∃bs j st k,CALL tab qD [x] ⟨stk,cur,nx,live,fl⟩=some (.arr stk.length (cur.length+j) st 0 l.length,⟨stk,cur++bs,k,live,fl⟩)∧bs[j]? =some ⟨st,prs (exts 1048576 l)⟩:=by
 suffices h:Does tab qD [x] ⟨stk,cur,nx,live,fl⟩ fun v m'=> ∃bs j st k,v= .arr stk.length (cur.length+j) st 0 l.length∧m'=⟨stk,cur++bs,k,live,fl⟩∧bs[j]? =some ⟨st,prs (exts 1048576 l)⟩ by
  obtain⟨z,h1,bs,j,st,k,h2,h3,h4⟩:=h
  exact⟨bs,j,st,k,by rw[h1,←h2,←h3],h4⟩
 refine yn z0v ?_ (w1c rfl)
 have hmk: ∀m:Mem,evMake m 2 16 [.int .i64 0,.int .i64 0] (.int .i64 l.length) (.int .i64 l.length)=some (.arr m.stk.length m.cur.length m.nx 0 l.length,{m with cur:=m.cur++[⟨m.nx,prs (List.replicate l.length (0,0))⟩],nx:=m.nx+1}):=fun m=>by
  unfold evMake
  simp only
  rw[if_pos ⟨trivial,by omega,by omega,by omega,rfl⟩,w1b,zdc]
 simp only[jY,List.map,go_sem,reduceCtorEq,G0,G2,hx.len,hmk]
 refine za (α:=Nat) (fun i σ=>i≤l.length∧ ∃nz,heads [3,10,11,12] 1 σ=⟨tmps 77 [(3,.arr (stk++[cur]).length 0 nx 0 l.length),(10,x),(11,.int .i64 l.length),(12,.int .i64 i)],
  ⟨stk++[cur],[⟨nx,prs (exts 1048576 (l.take i)++List.replicate (l.length-i) (0,0))⟩],nz,[]::live,fl⟩⟩) (fun i=>l.length-i) 0 ?_ ?_
 ·refine⟨w06 _,?_⟩
  simp only[go_sem,reduceCtorEq,G0,G1,exts,w21,List.foldl_nil,Nat.sub_zero]
  exact⟨_,rfl⟩
 ·rintro i σ ⟨hi,nz,hσ⟩
  rw[hσ]
  clear hσ σ
  dsimp only at hi⊢
  by_cases h:i<l.length
  ·have hfine:=hv i h
   obtain⟨v,e1,q1⟩:=hx.nth h
   have hat:=hx.at .i64 h
   have hsucc:=zd h hx.max
   have hAl:=uG 1048576 l i hi
   have hrs:=Zj 1048576 h
   have hgood:=TJ (far:=1048576) (w09 _) hv i hi
   have hflen:=tR hfine
   generalize hout:exts 1048576 (l.take i)=A at*
   generalize ht:l[i]=t at*
   clear ht
   generalize hn:l.length=n at*
   obtain⟨kind,elem,len,fields⟩:=t
   dsimp only at e1 q1 hflen
   have hix2:=qF .i64 (p:=(i:Int)) (n:=n) (by omega)
   rw[w1b] at hix2
   have hcl:decide (i*2+2≤(prs (A++List.replicate (n-i) (0,0))).length)=true:=by rw[zdd];simp;omega
   simp only[go_sem,G3,G0,G1,G2,w02,h,hat,e1,q1.one]
   by_cases k1:kind=1
   ·subst k1
    have hV:((1:Nat),(1:Nat))=ext1 1048576 A ⟨1,elem,len,fields⟩:=rfl
    simp only[go_sem,G0,G2]
    have hset:(prs (A++List.replicate (n-i) (0,0))).take (i*2)++[.int .i64 1,.int .i64 1]++(prs (A++List.replicate (n-i) (0,0))).drop (i*2+2)=prs ((A++List.replicate (n-i) (0,0)).set i (1,1)):=Y7 (A++List.replicate (n-i) (0,0)) i 1 1 (by simp;omega)
    rw[Zx hAl h] at hset
    simp only[go_sem,G3,G0,G4,G2,evBuild,zc,hix2,hcl,hset,hsucc]
    refine⟨i+1,by omega,h,?_⟩
    rw[hrs,←hV]
    exact⟨_,rfl⟩
   have k1':(kind==1)=false:=by simpa using k1
   by_cases k2:kind=2
   ·subst k2
    have hV:((8:Nat),(8:Nat))=ext1 1048576 A ⟨2,elem,len,fields⟩:=rfl
    simp only[go_sem,G0,G2,k1']
    have hset:(prs (A++List.replicate (n-i) (0,0))).take (i*2)++[.int .i64 8,.int .i64 8]++(prs (A++List.replicate (n-i) (0,0))).drop (i*2+2)=prs ((A++List.replicate (n-i) (0,0)).set i (8,8)):=Y7 (A++List.replicate (n-i) (0,0)) i 8 8 (by simp;omega)
    rw[Zx hAl h] at hset
    simp only[go_sem,G3,G0,G4,G2,evBuild,zc,hix2,hcl,hset,hsucc]
    refine⟨i+1,by omega,h,?_⟩
    rw[hrs,←hV]
    exact⟨_,rfl⟩
   have k2':(kind==2)=false:=by simpa using k2
   by_cases k4:kind=4
   ·subst k4
    have hV:((8:Nat),(8:Nat))=ext1 1048576 A ⟨4,elem,len,fields⟩:=rfl
    simp only[go_sem,G0,G2,k1',k2']
    have hset:(prs (A++List.replicate (n-i) (0,0))).take (i*2)++[.int .i64 8,.int .i64 8]++(prs (A++List.replicate (n-i) (0,0))).drop (i*2+2)=prs ((A++List.replicate (n-i) (0,0)).set i (8,8)):=Y7 (A++List.replicate (n-i) (0,0)) i 8 8 (by simp;omega)
    rw[Zx hAl h] at hset
    simp only[go_sem,G3,G0,G4,G2,evBuild,zc,hix2,hcl,hset,hsucc]
    refine⟨i+1,by omega,h,?_⟩
    rw[hrs,←hV]
    exact⟨_,rfl⟩
   have k4':(kind==4)=false:=by simpa using k4
   by_cases k3:kind=3
   ·subst k3
    have hV:((16:Nat),(8:Nat))=ext1 1048576 A ⟨3,elem,len,fields⟩:=rfl
    simp only[go_sem,G0,G2,k1',k2',k4']
    have hset:(prs (A++List.replicate (n-i) (0,0))).take (i*2)++[.int .i64 16,.int .i64 8]++(prs (A++List.replicate (n-i) (0,0))).drop (i*2+2)=prs ((A++List.replicate (n-i) (0,0)).set i (16,8)):=Y7 (A++List.replicate (n-i) (0,0)) i 16 8 (by simp;omega)
    rw[Zx hAl h] at hset
    simp only[go_sem,G3,G0,G4,G2,evBuild,zc,hix2,hcl,hset,hsucc]
    refine⟨i+1,by omega,h,?_⟩
    rw[hrs,←hV]
    exact⟨_,rfl⟩
   have k3':(kind==3)=false:=by simpa using k3
   by_cases k7:kind=7
   ·subst k7
    have hV:((24:Nat),(8:Nat))=ext1 1048576 A ⟨7,elem,len,fields⟩:=rfl
    simp only[go_sem,G0,G2,k1',k2',k4',k3']
    have hset:(prs (A++List.replicate (n-i) (0,0))).take (i*2)++[.int .i64 24,.int .i64 8]++(prs (A++List.replicate (n-i) (0,0))).drop (i*2+2)=prs ((A++List.replicate (n-i) (0,0)).set i (24,8)):=Y7 (A++List.replicate (n-i) (0,0)) i 24 8 (by simp;omega)
    rw[Zx hAl h] at hset
    simp only[go_sem,G3,G0,G4,G2,evBuild,zc,hix2,hcl,hset,hsucc]
    refine⟨i+1,by omega,h,?_⟩
    rw[hrs,←hV]
    exact⟨_,rfl⟩
   have k7':(kind==7)=false:=by simpa using k7
   by_cases k6:kind=6
   ·subst k6
    have hel:=hflen.2.2.2.1 rfl
    have hle:=hflen.2.1 rfl
    have hge:=hgood.get (j:=elem.toNat) (by omega)
    have hix:=qF .i64 (p:=elem) (n:=n) ⟨hel.1,by omega⟩
    have hld:=z6O (ws:=A++List.replicate (n-i) (0,0)) (j:=elem.toNat) (by simp;omega)
    rw[Tz (by omega)] at hld
    have hV:(min 1048576 (len.toNat*(A.getD elem.toNat (0,0)).1),(A.getD elem.toNat (0,0)).2)=ext1 1048576 A ⟨6,elem,len,fields⟩:=rfl
    generalize A.getD elem.toNat (0,0)=pr at*
    have hmul:len.toNat*pr.1≤16*1048576:=Nat.mul_le_mul (by omega) hge.1
    have ew:IntKind.i64.wrap (len*(pr.1:Int))=((len.toNat*pr.1:Nat):Int):=by
     have:len*(pr.1:Int)=((len.toNat*pr.1:Nat):Int):=by rw[Int.natCast_mul,w40 (by omega)]
     rw[this,zb (by omega) (by omega)]
    simp only[go_sem,G3,G0,G4,G2,k1',k2',k4',k3',k7',zc,hix,hld,ew,z9z,evBuild]
    have hset:=Y7 (A++List.replicate (n-i) (0,0)) i (min 1048576 (len.toNat*pr.1)) (pr.2) (by simp;omega)
    rw[Zx hAl h] at hset
    simp only[go_sem,G3,G0,G2,hix2,hcl,hset,hsucc]
    refine⟨i+1,by omega,h,?_⟩
    rw[hrs,←hV]
    exact⟨_,rfl⟩
   have k6':(kind==6)=false:=by simpa using k6
   have k5:kind=5:=by
    rcases hfine with⟨h1,_⟩|⟨h1,_⟩|⟨h1,_⟩|⟨h1,_⟩<;>dsimp only at h1<;>omega
   subst k5
   have hV:togEnd 1048576 A fields=ext1 1048576 A ⟨5,elem,len,fields⟩:=rfl
   obtain⟨bs,j,s,k,hcall,_⟩:=z56 A (A++List.replicate (n-i) (0,0)) hgood (by simp) (fun j hj=>Tz hj) fields v q1 (by rw[hAl];exact hflen.2.2.2.2.2) (by omega) (stk++[cur])
    [⟨nx,prs (A++List.replicate (n-i) (0,0))⟩,⟨nz,[.int .u8 5,.int .i64 elem,.int .i64 len,v]⟩] (nz+1) fl ([]::live) (stk++[cur]).length 0 nx (w09 _) (by simp)
   have hlW:List.length (A++List.replicate (n-i) ((0:Nat),(0:Nat)))=n:=by simp;omega
   rw[hlW] at hcall
   simp only[go_sem,G3,G0,G2,k1',k2',k4',k3',k7',k6',hcall]
   generalize togEnd 1048576 A fields=pr at*
   have hset:=Y7 (A++List.replicate (n-i) (0,0)) i (pr.1) (pr.2) (by simp;omega)
   rw[Zx hAl h] at hset
   simp only[go_sem,G3,G0,G2,zc,hix2,hcl,hset,hsucc]
   refine⟨i+1,by omega,h,?_⟩
   rw[hrs,←hV]
   exact⟨_,rfl⟩
  ·have:i=l.length:=by omega
   subst this
   rw[w08,Nat.sub_self,List.replicate_zero,w1f]
   simp only[go_sem,G0,G1,G2,w02,h]
   obtain⟨bs,hbs,hgb⟩:=z8w (m0:=⟨stk,cur,nx,live,fl⟩) (stk:=stk) (cur:=cur) (c':=[⟨nx,prs (exts 1048576 l)⟩]) (nx':=nz) (own:=[]) (live':=live) (fl':=fl) (k:=0) (st:=nx) (off:=0) (len:=l.length)
   rw[hbs,z8]
   exact⟨bs,0,nx,nz,by rw[Nat.add_comm],rfl,hgb _ rfl⟩
theorem zdT {tab:Nat→Option AFunc} {f:Nat} {args:List AV} {m m':Mem} {r:AV} (h:CALL tab f args m=some (r,m')) (hf:m.floor≤m.stk.length+1):m.nx≤m'.nx:=by
 obtain⟨n,h⟩:=XJ.1 h
 exact(Te n _ _ _ _ _ h hf).nx
structure Own2 {α β:Type} (R1:α→AV→Prop) (s1:Nat) (y1:AV) (a:List α) (R2:β→AV→Prop) (s2:Nat) (y2:AV) (b:List β) (e:List Nat) (nx:Nat):Prop where
 l:Own R1 s1 y1 a e
 r:Own R2 s2 y2 b e
 dj: ∀t∈y1.toks,t∉y2.toks
 bl: ∀t∈y1.toks,t<nx
 br: ∀t∈y2.toks,t<nx
section
variable {α β : Type} {R1 : α → AV → Prop} {s1 : Nat} {y1 : AV} {a : List α} {R2 : β → AV → Prop} {s2 : Nat} {y2 : AV} {b : List β} {e : List Nat} {nx : Nat}
theorem Own2.symm (h:Own2 R1 s1 y1 a R2 s2 y2 b e nx):Own2 R2 s2 y2 b R1 s1 y1 a e nx:=⟨h.r,h.l,fun t h1 h2=>h.dj t h2 h1,h.br,h.bl⟩
theorem Own2.nil (e:List Nat) (nx:Nat):Own2 R1 s1 .nils [] R2 s2 .nils [] e nx:=⟨.nil e,.nil e,fun t h=>by simp[AV.toks] at h,fun t h=>by simp[AV.toks] at h,fun t h=>by simp[AV.toks] at h⟩
theorem Own2.mono {e':List Nat} {nx':Nat} (h:Own2 R1 s1 y1 a R2 s2 y2 b e nx) (k: ∀t∈e,t∈e') (hn:nx≤nx'):Own2 R1 s1 y1 a R2 s2 y2 b e' nx':=
 ⟨h.l.mono k,h.r.mono k,h.dj,fun t ht=>w58 (h.bl t ht) hn,fun t ht=>w58 (h.br t ht) hn⟩
theorem zad {α:Type} {R:α→AV→Prop} {s:Nat} {y:AV} {xs:List α} {e:List Nat} {t:Nat} (h:Own R s y xs e) (ht:t∉y.toks):Own R s y xs (e.erase t):=by
 rcases h with h|⟨tk,ys,h1,h2,h3|⟨u,h3,h4⟩⟩
 ·exact .inl h
 ·exact .inr ⟨tk,ys,h1,h2,.inl h3⟩
 ·refine .inr ⟨tk,ys,h1,h2,.inr ⟨u,(List.mem_erase_of_ne ?_).2 h3,h4⟩⟩
  rintro rfl
  exact ht (by rw[h1,h4];simp[AV.toks])
theorem Own2.app {cs:List α} {z:AV} {zs:List AV} {bytes:Nat} (h:Own2 R1 s1 y1 a R2 s2 y2 b e nx) (hz: ∀m:Mem,m.elems s1 z=some zs) (hc:All2 R1 cs zs) (hl:(a.length+cs.length)*bytes≤140737488355328)
  (stk:List (List Blk)) (cur:List Blk) (rest:List (List Nat)) (fl:Nat):
  ∃y' n e',evApp ⟨stk,cur,nx,e::rest,fl⟩ s1 bytes y1 z=some (y',⟨stk,cur,n,e'::rest,fl⟩)∧Own2 R1 s1 y' (a++cs) R2 s2 y2 b e' n:=by
 have new: ∀ys (e':List Nat),All2 R1 (a++cs) ys→Own R2 s2 y2 b e'→nx∈e'→Own2 R1 s1 (.list s1 (.id nx) ys) (a++cs) R2 s2 y2 b e' (nx+1):=fun ys e' q ho hn=>
  ⟨.inr ⟨_,ys,rfl,q,.inr ⟨nx,hn,rfl⟩⟩,ho,fun t ht h2=>by
   simp only[AV.toks,w16] at ht
   subst ht
   exact Nat.lt_irrefl _ (h.br _ h2),fun t ht=>by
   simp only[AV.toks,w16] at ht
   omega,fun t ht=>Nat.lt_succ_of_lt (h.br t ht)⟩
 rcases Own.app (m:=⟨stk,cur,nx,e::rest,fl⟩) (h.l.mono fun t h=>by simp only[w41,w0a];exact .inl h) (hz _) hc hl with⟨hcs,q⟩|⟨ys,q,eq⟩|⟨t,ys,q0,hy,_,q,eq⟩
 ·subst hcs;rw[w1f];exact⟨_,_,_,q,h⟩
 ·exact⟨_,_,nx::e,eq,new ys _ q (h.r.mono fun t h=>w26 _ h) w24⟩
 ·have ht:t∈e:=by
   rcases h.l with⟨h1,_⟩|⟨tk,ys',e1,_,e2|⟨t',e3,e2⟩⟩
   ·rw[h1] at hy;cases hy
   ·rw[e1,e2] at hy;cases hy
   ·rw[e1,e2] at hy;injection hy with _ hy _;injection hy with hy;exact hy▸e3
  have hd:dropTok t (e::rest)=e.erase t::rest:=by
   simp only[dropTok];rw[if_pos (by simpa using ht)]
  rw[show(Mem.live ⟨stk,cur,nx,e::rest,fl⟩)=e::rest from rfl,hd] at eq
  refine⟨_,_,nx::e.erase t,eq,new ys _ q ((zad h.r (h.dj t (by rw[hy];simp[AV.toks]))).mono fun t h=>w26 _ h) w24⟩
variable {tab : Nat → Option AFunc} {ρ : List AV} {k : Kont} {l : List AOper} {d : Option Nat}
theorem Own2.xv1 {cs:List α} {z:AV} {zs:List AV} {bytes fl:Nat} {stk:List (List Blk)} {cur:List Blk} {rest:List (List Nat)} (h:Own2 R1 s1 y1 a R2 s2 y2 b e nx) (hz: ∀m:Mem,m.elems s1 z=some zs) (hc:All2 R1 cs zs) (hl:(a.length+cs.length)*bytes≤140737488355328)
  (q: ∀y' n e',Own2 R1 s1 y' (a++cs) R2 s2 y2 b e' n→Xs tab l (setDst ρ d y') ⟨stk,cur,n,e'::rest,fl⟩ k):Xv tab (evApp ⟨stk,cur,nx,e::rest,fl⟩ s1 bytes y1 z) d l ρ k:=by
 obtain⟨y',n,e',h1,h2⟩:=h.app hz hc hl stk cur rest fl
 rw[h1,qT];exact q y' n e' h2
theorem Own2.xv2 {cs:List β} {z:AV} {zs:List AV} {bytes fl:Nat} {stk:List (List Blk)} {cur:List Blk} {rest:List (List Nat)} (h:Own2 R1 s1 y1 a R2 s2 y2 b e nx) (hz: ∀m:Mem,m.elems s2 z=some zs) (hc:All2 R2 cs zs) (hl:(b.length+cs.length)*bytes≤140737488355328)
  (q: ∀y' n e',Own2 R1 s1 y1 a R2 s2 y' (b++cs) e' n→Xs tab l (setDst ρ d y') ⟨stk,cur,n,e'::rest,fl⟩ k):Xv tab (evApp ⟨stk,cur,nx,e::rest,fl⟩ s2 bytes y2 z) d l ρ k:=by
 obtain⟨y',n,e',h1,h2⟩:=h.symm.app hz hc hl stk cur rest fl
 rw[h1,qT];exact q y' n e' h2.symm
end
theorem zer {n a:Nat} (ha:is18 a) (hn:n≤4194304) (m:Mem):Okv tab xY [.int .i64 n,.int .i64 a] m (.int .i64 (up n a:Nat)):=by
 refine ze Qj ?_
 obtain⟨stk,cur,nx,live,fl⟩:=m
 have e1:IntKind.i64.wrap ((n:Int)+(a:Int))=((n+a:Nat):Int):=by unfold is18 at ha;rw[zb (by omega) (by omega)];omega
 have e2:IntKind.i64.wrap (((n+a:Nat):Int)-1)=((n+a-1:Nat):Int):=by unfold is18 at ha;rw[zb (by omega) (by omega)];omega
 have e3:IntKind.i64.wrap (((n+a-1:Nat):Int).tdiv (a:Int))=(((n+a-1)/a:Nat):Int):=by
  rw[zbv]
  have:(n+a-1)/a≤n+a-1:=Nat.div_le_self _ _
  unfold is18 at ha
  generalize (n+a-1)/a=q at*
  rw[zb (by omega) (by omega)]
 have e4:IntKind.i64.wrap ((((n+a-1)/a:Nat):Int)*(a:Int))=((up n a:Nat):Int):=by
  rw[←Int.natCast_mul]
  have:=z1X (n:=n) ha
  show IntKind.i64.wrap ((up n a:Nat):Int)=_
  rw[zb (by omega) (by omega)]
 have e0: ¬((a:Int)=0):=by unfold is18 at ha;omega
 simp only[j9,List.map,go_sem,reduceCtorEq,G3,G0,G2,e1,e2,e0,e3,e4]
 rw[z6 rfl rfl,z8]
 exact⟨⟨_,rfl⟩,rfl⟩
def szs (ws:List (Nat×Nat)):List Nat:=ws.map Prod.fst
def als (ws:List (Nat×Nat)):List Nat:=ws.map Prod.snd
theorem z5q {ws:List (Nat×Nat)} {j:Nat} (h:j<ws.length):(szs ws)[j]'(by simpa [szs] using h)=(ws.getD j (0,0)).1:=by simp[szs,w00,h]
theorem z9N {ws:List (Nat×Nat)} {j:Nat} (h:j<ws.length):(als ws)[j]'(by simpa [als] using h)=(ws.getD j (0,0)).2:=by simp[als,w00,h]
theorem z7V (ws:List (Nat×Nat)) (hg:GoodP ws) (y1 y2:AV) (h1:IsSl IsN 1 (szs ws) y1) (h2:IsSl IsN 1 (als ws) y2) (fields:List DField) (v:AV) (q1:IsSl IsField 2 fields v) (hf: ∀f∈fields,0≤f.typ∧f.typ<ws.length) (hlen:fields.length≤100) (m:Mem):
  ∃y ts k,CALL tab xg [y1,y2,v] m=some (.tup [y,.int .i64 ((togEnd 1000000 ws fields).1:Nat),.int .i64 ((togEnd 1000000 ws fields).2:Nat)],{m with nx:=k,live:=pushToks ts m.live})∧Own IsN 1 y (tog 1000000 ws fields).1 ts:=by
 suffices h:Does tab xg [y1,y2,v] m fun r m'=> ∃y ts k,r= .tup [y,.int .i64 ((togEnd 1000000 ws fields).1:Nat),.int .i64 ((togEnd 1000000 ws fields).2:Nat)]∧m'={m with nx:=k,live:=pushToks ts m.live}∧Own IsN 1 y (tog 1000000 ws fields).1 ts by
  obtain⟨z,e1,y,ts,k,e2,e3,e4⟩:=h
  exact⟨y,ts,k,by rw[e1,←e2,←e3],e4⟩
 refine yn Yj ?_ (w1c rfl)
 obtain⟨stk,cur,nx,live,fl⟩:=m
 simp only[vG,List.map,go_sem,G3]
 refine za (α:=Nat) (fun k σ=>k≤fields.length∧ ∃nz y e,Own IsN 1 y (tog 1000000 ws (fields.take k)).1 e∧heads [0,1,2,9,10,11,12] 0 σ=⟨tmps 55 [(0,y1),(1,y2),(2,v),(9,y),(10,.int .i64 ((tog 1000000 ws (fields.take k)).2.1:Nat)),(11,.int .i64 ((tog 1000000 ws (fields.take k)).2.2:Nat)),(12,.int .i64 k)],⟨stk++[cur],[],nz,e::live,fl⟩⟩) (fun k=>fields.length-k) 0 ?_ ?_
 ·refine⟨w06 _,nx,.nils,[],.nil _,?_⟩
  simp only[go_sem,reduceCtorEq,G0,G1,tog,w21,List.foldl_nil]
  rfl
 ·rintro k σ ⟨hk,nz,y,e,ho,hσ⟩
  rw[hσ]
  clear hσ σ
  dsimp only at hk⊢
  obtain⟨g1,g2,g3⟩:=X0 (far:=1000000) (by omega) hg hf k hk
  by_cases h:k<fields.length
  ·have e2:nth v k= .agg [.str fields[k].name,.int .i64 fields[k].typ]:=q1.nth h
   have hat2:=q1.at .i64 h
   have hfk:=hf _ (w04 h)
   have hj:fields[k].typ.toNat<ws.length:=by omega
   have hgk:=hg.get hj
   have ht1:fields[k].typ.toNat<(szs ws).length:=by simpa [szs] using hj
   have ht2:fields[k].typ.toNat<(als ws).length:=by simpa [als] using hj
   have s1:nth y1 fields[k].typ.toNat= .int .i64 ((szs ws)[fields[k].typ.toNat]:Nat):=h1.nth ht1
   have s2:nth y2 fields[k].typ.toNat= .int .i64 ((als ws)[fields[k].typ.toNat]:Nat):=h2.nth ht2
   have a1:=h1.at .i64 ht1
   have a2:=h2.at .i64 ht2
   rw[w40 hfk.1] at a1 a2
   rw[z5q hj] at s1
   rw[z9N hj] at s2
   have hts:=Uh 1000000 ws h
   unfold togStep at hts
   generalize tog 1000000 ws (fields.take k)=s at*
   obtain⟨offs,en,mo⟩:=s
   dsimp only at g1 g2 g3 ho
   generalize ws.getD fields[k].typ.toNat (0,0)=pr at*
   have hup:=z1X (n:=en) hgk.2
   have ew:IntKind.i64.wrap ((up en pr.2:Nat)+(pr.1:Nat))=((up en pr.2+pr.1:Nat):Int):=by rw[zb (by omega) (by omega)];omega
   simp only[go_sem,reduceCtorEq,G0,G1,G2,w02,h,q1.len,hat2,e2,a2,s2,(zer hgk.2 (show en≤4194304 by omega) _).eq]
   refine ho.xv (zh · _ _ _) (zP (R:=IsN) (x:=up en pr.2) rfl) (by simp;omega) fun y' n' e' ho'=> ?_
   simp only[go_sem,reduceCtorEq,G0,G2,a1,s1,a2,s2,ew,z5Q,zdm,zd h q1.max]
   refine⟨k+1,by omega,h,n',y',e',?_,?_⟩
   ·rw[hts];exact ho'
   ·rw[hts]
  ·have:k=fields.length:=by omega
   subst this
   rw[w08] at*
   have hup:=z1X (n:=(tog 1000000 ws fields).2.1) g3
   simp only[go_sem,reduceCtorEq,G0,G1,G2,w02,h,q1.len,(zer g3 (show(tog 1000000 ws fields).2.1≤4194304 by omega) _).eq,z5Q]
   rw[Xp (by simp only[AV.refs,refsAny,ho.refs];rfl),z8]
   refine⟨y,_,_,rfl,rfl,?_⟩
   simp only[AV.toks,toksAll,w1f]
   exact ho.filter
end Go.Proofs.W
end
section
namespace Go.Vs
def OkT (tab:Nat→Option AFunc) (f:Nat) (args:List AV) (m:Mem) (Q:AV→List Nat→Nat→Prop):Prop:=
 ∃y ts k,CALL tab f args m=some (y,{m with nx:=k,live:=pushToks ts m.live})∧Q y ts k
def FinT (m:Mem) (Q:AV→List Nat→Nat→Prop) (v:AV) (m':Mem):Prop:= ∃ts k,m'={m with nx:=k,live:=pushToks ts m.live}∧Q v ts k
theorem jv {tab:Nat→Option AFunc} {f:Nat} {fn:AFunc} (h:tab f=some fn) {args:List AV} {m:Mem} {Q:AV→List Nat→Nat→Prop} (hx:X tab fn.body (mk fn.ntmps (.tup []) (numb 0 args)) (enter m) (.fin fn.res m (FinT m Q))) (hn:args.length≤fn.ntmps:=by exact w1c rfl):
  OkT tab f args m Q:=by
 obtain⟨x,h1,ts,k,h2,h3⟩:=yn h hx hn;exact⟨x.1,ts,k,by rw[h1,←h2],h3⟩
section
variable {tab : Nat → Option AFunc} {ρ : List AV} {m : Mem} {k : Kont} {l : List AOper} {d : Option Nat} {f : Nat} {args : List AV}
theorem OkT.xv {Q:AV→List Nat→Nat→Prop} (h:OkT tab f args m Q) (q: ∀y ts n,Q y ts n→Xs tab l (setDst ρ d y) {m with nx:=n,live:=pushToks ts m.live} k):Xv tab (CALL tab f args m) d l ρ k:=by
 obtain⟨y,ts,n,h1,h2⟩:=h
 rw[h1,qT];exact q y ts n h2
theorem Ok.xv {R:AV→Prop} (h:Ok tab f args m R) (q: ∀y n,R y→Xs tab l (setDst ρ d y) (m.bump n) k):Xv tab (CALL tab f args m) d l ρ k:=by
 obtain⟨y,n,h1,h2⟩:=h
 rw[h1,qT];exact q y n h2
theorem OkT.xw {Q:AV→List Nat→Nat→Prop} {fl:Nat} {m0:Mem} {ws:Watch} (h:OkT tab f args m Q) (q: ∀y ts n,Q y ts n→Xd tab fl m0 ws l (setDst ρ d y) {m with nx:=n,live:=pushToks ts m.live} k):Xw tab (CALL tab f args m) 2 fl m0 ws d l ρ m k:=by
 obtain⟨y,ts,n,h1,h2⟩:=h
 rw[h1,ze0];exact q y ts n h2
theorem OkT.mono {Q Q':AV→List Nat→Nat→Prop} (h:OkT tab f args m Q) (k: ∀y ts n,Q y ts n→Q' y ts n):OkT tab f args m Q':=let ⟨y,ts,n,h1,h2⟩:=h;⟨y,ts,n,h1,k _ _ _ h2⟩
end
theorem zr {stk:List (List Blk)} {cur c':List Blk} {nx nx' fl fl':Nat} {live:List (List Nat)} {own:List Nat} {r:AV} {Q:AV→List Nat→Nat→Prop} (h1:r.refs (stk++[cur]).length=false) (h:Q r (own.filter fun t=>r.toks.contains t) nx'):
  Opt (leave ⟨stk,cur,nx,live,fl⟩ ⟨stk++[cur],c',nx',own::live,fl'⟩ r) fun q=>FinT ⟨stk,cur,nx,live,fl⟩ Q q.1 q.2:=by
 rw[Xp h1,z8]
 exact⟨_,nx',rfl,h⟩
theorem IsSl.refs {α:Type} {R:α→AV→Prop} {s:Nat} {xs:List α} {y:AV} (h:IsSl R s xs y) (l:Nat):y.refs l=false:=by
 rcases h with⟨_,⟨rfl,rfl⟩|⟨tk,ys,rfl,h⟩⟩<;>rfl
theorem IsSl.fld {l:List DField} {x:AV} (hx:IsSl IsField 2 l x) {j:Nat} (h:j<l.length):Vs.nth x j= .agg [.str l[j].name,.int .i64 l[j].typ]:=hx.nth h
theorem z3a {tab:Nat→Option AFunc} {f:Nat} {b:Bool} (h:tab f=some (constFn b)) (m:Mem):CALL tab f [] m=some (.bool b,m):=by
 refine XJ.2 ⟨1,?_⟩
 simp only[callN,h,evFn,constFn,ev,w30,Nat.sub_self,List.replicate_zero,w1f,evRess,evRes,w34,w0e,w00,List.getElem?_cons_zero,w2a,packRes]
 exact z13 m b
end Go.Vs
end
section
namespace Go.Proofs.W
open Go.Vs
set_option linter.unusedSimpArgs false
set_option maxRecDepth 100000
theorem TL {p q:Prop} [Decidable p] [Decidable q] (h:p↔q):AV.bool (decide p)=AV.bool (decide q):=congrArg AV.bool (decide_eq_decide.2 h)
theorem Qw {q:Prop} [Decidable q] (h: ¬q):AV.bool false=AV.bool (decide q):=congrArg AV.bool (decide_eq_false h).symm
theorem zeT {b:Bool} {q:Prop} [Decidable q] (h:b=true↔q):AV.bool b=AV.bool (decide q):=congrArg AV.bool (by rw[w3d,decide_eq_true_eq];exact h)
def t00:DTyp:=⟨0,0,0,[]⟩
def f00:DField:=⟨[],0⟩
def tyA (l:List DTyp) (t:Int):DTyp:=l.getD t.toNat t00
def fdA (l:List DField) (i:Int):DField:=l.getD i.toNat f00
theorem zd4 {l:List DTyp} {k:Nat} (h:k<l.length):tyA l k=l[k]:=by simp[tyA,w00,h]
theorem z05 {l:List DField} {k:Nat} (h:k<l.length):fdA l k=l[k]:=by simp[fdA,w00,h]
def kindI (l:List DTyp) (t:Int):Int:=if t<0 then 0 else(tyA l t).kind
def slotT (f:DFunc) (s:Int):Int:=if 0≤s∧s<f.slots.length then(fdA f.slots s).typ else-1
def called (x:DInstr):Int:=if x.op=25 then x.b else if x.op=26∨x.op=27 then x.a else-1
def NV (d:DImage) (f:DFunc) (y:AV):Prop:= ∃ty tx fs w0 w1 w2 w3,y= .agg [ty,tx,fs,.str f.name,.int .i64 f.params,.int .i64 f.result,w0,w1,w2,w3]∧IsSl IsTyp 4 d.types ty∧IsSl IsStr 1 d.texts tx∧IsSl IsFunc 7 d.funcs fs∧
 IsSl IsField 2 f.slots w0∧IsSl IsInstr 4 f.code w1∧IsSl IsRun 2 f.sizes w2∧IsSl IsRun 2 f.lives w3
theorem _root_.Go.Vs.IsSl.tyA {l:List DTyp} {x:AV} (hx:IsSl IsTyp 4 l x) {j:Nat} (h:j<l.length): ∃v0,nth x j= .agg [.int .u8 (tyA l j).kind,.int .i64 (tyA l j).elem,.int .i64 (tyA l j).len,v0]∧IsSl IsField 2 (tyA l j).fields v0:=by
 obtain⟨v0,h1,h2⟩:=hx.nth h
 rw[←zd4 h] at h1 h2
 exact⟨v0,h1,h2⟩
theorem _root_.Go.Vs.IsSl.fdA {l:List DField} {x:AV} (hx:IsSl IsField 2 l x) {j:Nat} (h:j<l.length):nth x j= .agg [.str (fdA l j).name,.int .i64 (fdA l j).typ]:=by
 rw[z05 h];exact hx.fld h
theorem qV {α:Type} {R:α→AV→Prop} {s:Nat} (l:List α) (x:AV) (hx:IsSl R s l x) (i:Int) (m:Mem):Okv tab yF [x,.int .i64 i] m (.bool (decide (0≤i∧i<l.length))):=by
 refine ze Yn ?_
 obtain⟨stk,cur,nx,live,fl⟩:=m
 generalize hr:decide (0≤i∧i<(l.length:Int))=r
 simp only[vJ,List.map,go_sem,reduceCtorEq,G3,G0,G2]
 by_cases h:i≥0
 ·simp only[go_sem,reduceCtorEq,G0,G2,h,hx.len]
  rw[z6 rfl rfl,z8]
  exact⟨⟨_,rfl⟩,by rw[←hr];exact TL (by omega)⟩
 ·simp only[go_sem,reduceCtorEq,G0,G2,h]
  rw[z6 rfl rfl,z8]
  exact⟨⟨_,rfl⟩,by rw[←hr];exact Qw (by omega)⟩
theorem Y3 {α:Type} {R:α→AV→Prop} {s:Nat} (l:List α) (x:AV) (hx:IsSl R s l x) (i:Int) (m:Mem):Okv tab yg [x,.int .i64 i] m (.bool (decide (0≤i∧i<l.length))):=by
 refine ze X7 ?_
 obtain⟨stk,cur,nx,live,fl⟩:=m
 generalize hr:decide (0≤i∧i<(l.length:Int))=r
 simp only[u7,List.map,go_sem,reduceCtorEq,G3,G0,G2]
 by_cases h:i≥0
 ·simp only[go_sem,reduceCtorEq,G0,G2,h,hx.len]
  rw[z6 rfl rfl,z8]
  exact⟨⟨_,rfl⟩,by rw[←hr];exact TL (by omega)⟩
 ·simp only[go_sem,reduceCtorEq,G0,G2,h]
  rw[z6 rfl rfl,z8]
  exact⟨⟨_,rfl⟩,by rw[←hr];exact Qw (by omega)⟩
theorem Qf {α:Type} {R:α→AV→Prop} {s:Nat} (l:List α) (x:AV) (hx:IsSl R s l x) (i:Int) (m:Mem):Okv tab xh [x,.int .i64 i] m (.bool (decide (0≤i∧i<l.length))):=by
 refine ze Ym ?_
 obtain⟨stk,cur,nx,live,fl⟩:=m
 generalize hr:decide (0≤i∧i<(l.length:Int))=r
 simp only[vI,List.map,go_sem,reduceCtorEq,G3,G0,G2]
 by_cases h:i≥0
 ·simp only[go_sem,reduceCtorEq,G0,G2,h,hx.len]
  rw[z6 rfl rfl,z8]
  exact⟨⟨_,rfl⟩,by rw[←hr];exact TL (by omega)⟩
 ·simp only[go_sem,reduceCtorEq,G0,G2,h]
  rw[z6 rfl rfl,z8]
  exact⟨⟨_,rfl⟩,by rw[←hr];exact Qw (by omega)⟩
theorem WK {α:Type} {R:α→AV→Prop} {s:Nat} (l:List α) (x:AV) (hx:IsSl R s l x) (i:Int) (m:Mem):Okv tab tF [x,.int .i64 i] m (.bool (decide (0≤i∧i<l.length))):=by
 refine ze Vf ?_
 obtain⟨stk,cur,nx,live,fl⟩:=m
 generalize hr:decide (0≤i∧i<(l.length:Int))=r
 simp only[tn,List.map,go_sem,reduceCtorEq,G3,G0,G2]
 by_cases h:i≥0
 ·simp only[go_sem,reduceCtorEq,G0,G2,h,hx.len]
  rw[z6 rfl rfl,z8]
  exact⟨⟨_,rfl⟩,by rw[←hr];exact TL (by omega)⟩
 ·simp only[go_sem,reduceCtorEq,G0,G2,h]
  rw[z6 rfl rfl,z8]
  exact⟨⟨_,rfl⟩,by rw[←hr];exact Qw (by omega)⟩
theorem Ua (x:DInstr) (m:Mem):Okv tab qw [.agg [.int .u8 x.op,.int .i64 x.a,.int .i64 x.b,.int .i64 x.c]] m (.int .i64 (called x)):=by
 refine ze z2e ?_
 obtain⟨stk,cur,nx,live,fl⟩:=m
 simp only[ZS,List.map,go_sem,reduceCtorEq,G3,G0,G2]
 repeat' (((first|refine zp ?_ ?_|refine zk ?_ ?_|refine zl ?_ ?_|refine zi ?_ ?_|refine zj ?_ ?_)<;>intro hq)<;>simp only[go_sem,reduceCtorEq,G0,G2,hq])
 all_goals
  rw[z6 rfl rfl,z8]
  refine⟨⟨_,rfl⟩,?_⟩
  unfold called
  simp only[beq_iff_eq,beq_eq_false_iff_ne,ne_eq] at*
  simp[*]
theorem jn (x:DInstr) (m:Mem):Okv tab xG [.agg [.int .u8 x.op,.int .i64 x.a,.int .i64 x.b,.int .i64 x.c]] m (.int .i64 (called x)):=by
 refine ze XT ?_
 obtain⟨stk,cur,nx,live,fl⟩:=m
 simp only[um,List.map,go_sem,reduceCtorEq,G3,G0,G2]
 repeat' (((first|refine zp ?_ ?_|refine zk ?_ ?_|refine zl ?_ ?_|refine zi ?_ ?_|refine zj ?_ ?_)<;>intro hq)<;>simp only[go_sem,reduceCtorEq,G0,G2,hq])
 all_goals
  rw[z6 rfl rfl,z8]
  refine⟨⟨_,rfl⟩,?_⟩
  unfold called
  simp only[beq_iff_eq,beq_eq_false_iff_ne,ne_eq] at*
  simp[*]
theorem z0l (d:DImage) (f:DFunc) (y:AV) (hy:NV d f y) (s:Int) (m:Mem):Okv tab zn [y,.int .i64 s] m (.int .i64 (slotT f s)):=by
 obtain⟨ty,tx,fs,w0,w1,w2,w3,rfl,h0,h1,h2,h3,h4,h5,h6⟩:=hy
 refine ze Vh ?_
 obtain⟨stk,cur,nx,live,fl⟩:=m
 simp only[to,List.map,go_sem,reduceCtorEq,G3,G0,G2,(qV _ _ h3 _ _).eq]
 by_cases h:0≤s∧s<f.slots.length
 ·obtain⟨k,rfl⟩: ∃k:Nat,s=k:=⟨s.toNat,by omega⟩
  have hk:k<f.slots.length:=by omega
  have hd:decide ((0:Int)≤k∧(k:Int)<f.slots.length)=true:=by simpa using h
  simp only[go_sem,reduceCtorEq,G3,G0,G2,hd,h3.at _ hk,h3.fdA hk]
  rw[z6 rfl rfl,z8]
  exact⟨⟨_,rfl⟩,by unfold slotT;rw[if_pos h]⟩
 ·simp only[go_sem,reduceCtorEq,G0,G2,h]
  rw[z6 rfl rfl,z8]
  exact⟨⟨_,rfl⟩,by unfold slotT;rw[if_neg h]⟩
theorem z0n (d:DImage) (y:AV) (hy:IsImage d y) (t:Int) (ht:t<d.types.length) (m:Mem):Okv tab zD [y,.int .i64 t] m (.int .u8 (kindI d.types t)):=by
 obtain⟨ty,tx,fs,rfl,h0,h1,h2⟩:=hy
 refine ze Uk ?_
 obtain⟨stk,cur,nx,live,fl⟩:=m
 simp only[tV,List.map,go_sem,reduceCtorEq,G3,G0,G2]
 by_cases h:t<0
 ·simp only[go_sem,reduceCtorEq,G0,G2,h]
  rw[z6 rfl rfl,z8]
  exact⟨⟨_,rfl⟩,by unfold kindI;rw[if_pos h]⟩
 ·obtain⟨k,rfl⟩: ∃k:Nat,t=k:=⟨t.toNat,by omega⟩
  have hk:k<d.types.length:=by omega
  obtain⟨v0,e1,e2⟩:=h0.tyA hk
  simp only[go_sem,reduceCtorEq,G0,G2,h,h0.at _ hk,e1]
  rw[z6 rfl rfl,z8]
  exact⟨⟨_,rfl⟩,by unfold kindI;rw[if_neg h]⟩
theorem z84 (l:List Int) (x:AV) (hx:IsSl (IsK .u8) 1 l x) (v:Int) (m:Mem):Ok tab xZ [x,.int .u8 v] m (fun r=> ∃i,r= .int .i64 i∧(0≤i↔v∈l)):=by
 refine z6V Zt ?_
 obtain⟨stk,cur,nx,live,fl⟩:=m
 simp only[xW,List.map,go_sem,reduceCtorEq,G3,G0,G2,hx.len]
 refine za (α:=Nat) (fun k σ=>(k≤l.length∧v∉l.take k)∧ ∃nz,heads [0,1,7,8] 0 σ=⟨tmps 19 [(0,x),(1,.int .u8 v),(7,.int .i64 l.length),(8,.int .i64 k)],⟨stk++[cur],[],nz,[]::live,fl⟩⟩) (fun k=>l.length-k) 0 ?_ ?_
 ·refine⟨⟨w06 _,by simp⟩,?_⟩
  simp only[go_sem,reduceCtorEq,G0,G1]
  exact⟨_,rfl⟩
 ·rintro k σ ⟨⟨hk,hv⟩,nz,hσ⟩
  rw[hσ]
  clear hσ σ
  dsimp only at hk hv⊢
  by_cases h:k<l.length
  ·have e1:nth x k= .int .u8 l[k]:=hx.nth h
   have hat:=hx.at .i64 h
   have hsucc:=zd h hx.max
   by_cases hq:v=l[k]
   ·have hq':(v==l[k])=true:=by simpa using hq
    simp only[go_sem,reduceCtorEq,G0,G1,G2,w02,h,hat,e1,hq']
    rw[z6 rfl rfl,z8]
    exact⟨⟨_,rfl⟩,_,rfl,⟨fun _=>hq▸w04 h,fun _=>by omega⟩⟩
   ·have hq':(v==l[k])=false:=by simpa using hq
    simp only[go_sem,reduceCtorEq,G0,G1,G2,w02,h,hat,e1,hq',hsucc]
    refine⟨k+1,by omega,⟨h,?_⟩,_,rfl⟩
    rw[w0d h]
    simp only[w0a,w16,not_or];exact⟨hv,hq⟩
  ·have:k=l.length:=by omega
   subst this
   rw[w08] at hv
   simp only[go_sem,reduceCtorEq,G0,G1,G2,w02,h]
   rw[z6 rfl rfl,z8]
   exact⟨⟨_,rfl⟩,_,rfl,⟨fun h=>absurd h (by decide),fun h=>absurd h hv⟩⟩
theorem z3w (l:List Int) (x:AV) (hx:IsSl (IsK .u8) 1 l x) (v:Int) (m:Mem):Okv tab xl [x,.int .u8 v] m (.bool (decide (v∈l))):=by
 refine ze kB ?_
 obtain⟨stk,cur,nx,live,fl⟩:=m
 simp only[xi,List.map,go_sem,reduceCtorEq,G3,G0,G2]
 refine(z84 l x hx v _).xv fun y n ⟨i,hy,hi⟩=> ?_
 subst hy
 simp only[go_sem,reduceCtorEq,G0,G2]
 rw[z6 rfl rfl,z8]
 exact⟨⟨_,rfl⟩,TL hi⟩
theorem isL1 (a:Int) (tk:Tok):IsSl (IsK .u8) 1 [a] (.list 1 tk [.int .u8 a]):= .mk ⟨rfl,trivial⟩ (by simp)
theorem isL2 (a b:Int) (tk:Tok):IsSl (IsK .u8) 1 [a,b] (.list 1 tk [.int .u8 a,.int .u8 b]):= .mk ⟨rfl,rfl,trivial⟩ (by simp)
theorem isL3 (a b c:Int) (tk:Tok):IsSl (IsK .u8) 1 [a,b,c] (.list 1 tk [.int .u8 a,.int .u8 b,.int .u8 c]):= .mk ⟨rfl,rfl,rfl,trivial⟩ (by simp)
def isT (d:DImage) (t:Int) (ks:List Int):Bool:=decide (0≤t∧kindI d.types t∈ks)
theorem z58 (d:DImage) (f:DFunc) (y:AV) (hy:NV d f y) (t:Int) (ht:t<d.types.length) (ks:List Int) (x:AV) (hx:IsSl (IsK .u8) 1 ks x) (m:Mem):Okv tab zA [y,.int .i64 t,x] m (.bool (isT d t ks)):=by
 obtain⟨ty,tx,fs,w0,w1,w2,w3,rfl,h0,h1,h2,h3,h4,h5,h6⟩:=hy
 refine ze TQ ?_
 obtain⟨stk,cur,nx,live,fl⟩:=m
 simp only[qI,List.map,go_sem,reduceCtorEq,G3,G0,G2]
 by_cases h:t≥0
 ·obtain⟨k,rfl⟩: ∃k:Nat,t=k:=⟨t.toNat,by omega⟩
  have hk:k<d.types.length:=by omega
  obtain⟨v0,e1,e2⟩:=h0.tyA hk
  simp only[go_sem,reduceCtorEq,G0,G2,h,h0.at _ hk,e1,(z3w _ _ hx _ _).eq]
  rw[z6 rfl rfl,z8]
  exact⟨⟨_,rfl⟩,by unfold isT kindI;rw[if_neg (by omega)];exact TL ⟨fun h=>⟨by omega,h⟩,fun h=>h.2⟩⟩
 ·simp only[go_sem,reduceCtorEq,G0,G2,h]
  rw[z6 rfl rfl,z8]
  exact⟨⟨_,rfl⟩,by unfold isT;exact Qw (fun h'=>h (by omega))⟩
theorem z5b (d:DImage) (f:DFunc) (y:AV) (hy:NV d f y) (t e:Int) (ht:t<d.types.length) (ks:List Int) (x:AV) (hx:IsSl (IsK .u8) 1 ks x) (m:Mem):Okv tab yB [y,.int .i64 t,.int .i64 e,x] m (.bool (isT d t ks&&decide ((tyA d.types t).elem=e))):=by
 have hy':=hy
 obtain⟨ty,tx,fs,w0,w1,w2,w3,rfl,h0,h1,h2,h3,h4,h5,h6⟩:=hy
 refine ze Vj ?_
 obtain⟨stk,cur,nx,live,fl⟩:=m
 simp only[tq,List.map,go_sem,reduceCtorEq,G3,G0,G2,(z58 d f _ hy' t ht ks x hx _).eq]
 by_cases h:isT d t ks=true
 ·have h':=h
  unfold isT at h'
  simp only[decide_eq_true_eq] at h'
  obtain⟨k,rfl⟩: ∃k:Nat,t=k:=⟨t.toNat,by omega⟩
  have hk:k<d.types.length:=by omega
  obtain⟨v0,e1,e2⟩:=h0.tyA hk
  simp only[go_sem,reduceCtorEq,G0,G2,h,h0.at _ hk,e1]
  rw[z6 rfl rfl,z8]
  exact⟨⟨_,rfl⟩,rfl⟩
 ·have h2:isT d t ks=false:=by simpa using h
  simp only[go_sem,reduceCtorEq,G0,G2,h2]
  rw[z6 rfl rfl,z8]
  exact⟨⟨_,rfl⟩,rfl⟩
def memT (d:DImage) (t k:Int):Int:=if 0≤t∧kindI d.types t=5∧0≤k∧k<(tyA d.types t).fields.length then(fdA (tyA d.types t).fields k).typ else-1
def memB (d:DImage) (t k e:Int):Bool:=decide (0≤t∧kindI d.types t=5∧0≤k∧k<(tyA d.types t).fields.length∧(fdA (tyA d.types t).fields k).typ=e)
theorem Tw (d:DImage) (f:DFunc) (y:AV) (hy:NV d f y) (t i e:Int) (ht:t<d.types.length) (m:Mem):Okv tab xr [y,.int .i64 t,.int .i64 i,.int .i64 e] m (.bool (memB d t i e)):=by
 have hy':=hy
 obtain⟨ty,tx,fs,w0,w1,w2,w3,rfl,h0,h1,h2,h3,h4,h5,h6⟩:=hy
 refine ze X8 ?_
 obtain⟨stk,cur,nx,live,fl⟩:=m
 simp only[u9,List.map,go_sem,reduceCtorEq,G3,G0,G2,(z58 d f _ hy' t ht [5] _ (isL1 5 _) _).eq]
 by_cases h:isT d t [5]=true
 ·have h':=h
  unfold isT at h'
  simp only[decide_eq_true_eq,w16] at h'
  obtain⟨k,rfl⟩: ∃k:Nat,t=k:=⟨t.toNat,by omega⟩
  have hk:k<d.types.length:=by omega
  obtain⟨v0,e1,e2⟩:=h0.tyA hk
  simp only[go_sem,reduceCtorEq,G0,G2,h,h0.at _ hk,e1,(qV _ _ e2 _ _).eq]
  by_cases hi:0≤i∧i<(tyA d.types k).fields.length
  ·obtain⟨j,rfl⟩: ∃j:Nat,i=j:=⟨i.toNat,by omega⟩
   have hj:j<(tyA d.types k).fields.length:=by omega
   have hd:decide ((0:Int)≤j∧(j:Int)<(tyA d.types k).fields.length)=true:=by simpa using hi
   simp only[go_sem,reduceCtorEq,G0,G2,hd,h0.at _ hk,e1,e2.at _ hj,e2.fdA hj]
   rw[z6 rfl rfl,z8]
   refine⟨⟨_,rfl⟩,?_⟩
   unfold memB
   exact zeT (by rw[beq_iff_eq];exact⟨fun q=>⟨h'.1,h'.2,hi.1,hi.2,q⟩,fun q=>q.2.2.2.2⟩)
  ·have hd:decide (0≤i∧i<(tyA d.types k).fields.length)=false:=by simpa using hi
   simp only[go_sem,reduceCtorEq,G0,G2,hd]
   rw[z6 rfl rfl,z8]
   exact⟨⟨_,rfl⟩,by unfold memB;exact Qw (fun q=>hi ⟨q.2.2.1,q.2.2.2.1⟩)⟩
 ·have h2:isT d t [5]=false:=by simpa using h
  simp only[go_sem,reduceCtorEq,G0,G2,h2]
  rw[z6 rfl rfl,z8]
  exact⟨⟨_,rfl⟩,by unfold memB;exact Qw (fun q=>h (by unfold isT;simpa using ⟨q.1,q.2.1⟩))⟩
theorem Tv (d:DImage) (y:AV) (hy:IsImage d y) (t i:Int) (ht:t<d.types.length) (m:Mem):Okv tab xC [y,.int .i64 t,.int .i64 i] m (.int .i64 (memT d t i)):=by
 have hy':=hy
 obtain⟨ty,tx,fs,rfl,h0,h1,h2⟩:=hy
 refine ze XP ?_
 obtain⟨stk,cur,nx,live,fl⟩:=m
 simp only[uj,List.map,go_sem,reduceCtorEq,G3,G0,G2,(z0n d _ hy' t ht _).eq]
 by_cases h:0≤t∧kindI d.types t=5
 ·obtain⟨k,rfl⟩: ∃k:Nat,t=k:=⟨t.toNat,by omega⟩
  have hk:k<d.types.length:=by omega
  obtain⟨v0,e1,e2⟩:=h0.tyA hk
  have h5:(kindI d.types k !=5)=false:=by simpa using h.2
  by_cases hi:0≤i∧i<(tyA d.types k).fields.length
  ·obtain⟨j,rfl⟩: ∃j:Nat,i=j:=⟨i.toNat,by omega⟩
   have hj:j<(tyA d.types k).fields.length:=by omega
   simp only[go_sem,reduceCtorEq,G0,G2,h5,show¬((j:Int)<0) by omega,h0.at _ hk,e1,e2.len,show¬((j:Int)≥(tyA d.types k).fields.length) by omega,e2.at _ hj,e2.fdA hj]
   rw[z6 rfl rfl,z8]
   exact⟨⟨_,rfl⟩,by unfold memT;rw[if_pos ⟨h.1,h.2,hi⟩]⟩
  ·have hm:memT d k i= -1:=by unfold memT;rw[if_neg fun q=>hi q.2.2]
   by_cases hi0:i<0
   ·simp only[go_sem,reduceCtorEq,G0,G2,h5,hi0]
    rw[z6 rfl rfl,z8]
    exact⟨⟨_,rfl⟩,by rw[hm]⟩
   ·simp only[go_sem,reduceCtorEq,G0,G2,h5,hi0,h0.at _ hk,e1,e2.len,show i≥(tyA d.types k).fields.length by omega]
    rw[z6 rfl rfl,z8]
    exact⟨⟨_,rfl⟩,by rw[hm]⟩
 ·have h5:(kindI d.types t !=5)=true:=by
   rw[bne_iff_ne];intro e
   by_cases ht0:0≤t
   ·exact h ⟨ht0,e⟩
   ·unfold kindI at e;rw[if_pos (by omega)] at e;omega
  simp only[go_sem,reduceCtorEq,G0,G2,h5]
  rw[z6 rfl rfl,z8]
  exact⟨⟨_,rfl⟩,by unfold memT;rw[if_neg fun q=>h ⟨q.1,q.2.1⟩]⟩
def ofT (d:DImage) (t a b:Int):Int:=if 0≤t∧(kindI d.types t=a∨kindI d.types t=b) then(tyA d.types t).elem else-1
theorem z9g (d:DImage) (y:AV) (hy:IsImage d y) (t a b:Int) (ht:t<d.types.length) (m:Mem):Okv tab xb [y,.int .i64 t,.int .u8 a,.int .u8 b] m (.int .i64 (ofT d t a b)):=by
 have hy':=hy
 obtain⟨ty,tx,fs,rfl,h0,h1,h2⟩:=hy
 refine ze Qi ?_
 obtain⟨stk,cur,nx,live,fl⟩:=m
 simp only[j8,List.map,go_sem,reduceCtorEq,G3,G0,G2,(z0n d _ hy' t ht _).eq]
 by_cases h:t<0
 ·simp only[go_sem,reduceCtorEq,G0,G2,h]
  rw[z6 rfl rfl,z8]
  exact⟨⟨_,rfl⟩,by unfold ofT;rw[if_neg (by omega)]⟩
 ·obtain⟨k,rfl⟩: ∃k:Nat,t=k:=⟨t.toNat,by omega⟩
  have hk:k<d.types.length:=by omega
  obtain⟨v0,e1,e2⟩:=h0.tyA hk
  simp only[go_sem,reduceCtorEq,G0,G2,h]
  have fine:kindI d.types k=a∨kindI d.types k=b→ofT d k a b=(tyA d.types k).elem:=fun q=>by unfold ofT;rw[if_pos ⟨by omega,q⟩]
  by_cases ha:kindI d.types k=a
  ·have ha':(kindI d.types k !=a)=false:=by simpa using ha
   simp only[go_sem,reduceCtorEq,G0,G2,ha',h0.at _ hk,e1]
   rw[z6 rfl rfl,z8]
   exact⟨⟨_,rfl⟩,by rw[fine (.inl ha)]⟩
  ·have ha':(kindI d.types k !=a)=true:=by simpa using ha
   by_cases hb:kindI d.types k=b
   ·have hb':(kindI d.types k !=b)=false:=by simpa using hb
    simp only[go_sem,reduceCtorEq,G0,G2,ha',hb',h0.at _ hk,e1]
    rw[z6 rfl rfl,z8]
    exact⟨⟨_,rfl⟩,by rw[fine (.inr hb)]⟩
   ·have hb':(kindI d.types k !=b)=true:=by simpa using hb
    simp only[go_sem,reduceCtorEq,G0,G2,ha',hb']
    rw[z6 rfl rfl,z8]
    exact⟨⟨_,rfl⟩,by unfold ofT;rw[if_neg fun q=>q.2.elim ha hb]⟩
abbrev IsI:Int→AV→Prop:=IsK .i64
def rdsk (x:DInstr) (k:Nat):List Int:=((List.range k).filter fun j=>rd (sk x j)&&decide (0≤opn x j)).map (opn x)
def wrsk (x:DInstr) (k:Nat):List Int:=((List.range k).filter fun j=>wt (sk x j)&&decide (0≤opn x j)).map (opn x)
def rds (x:DInstr):List Int:=rdsk x 3
def wrs (x:DInstr):List Int:=wrsk x 3
theorem z5w {x:DInstr} {k:Nat} (h:rd (sk x k)=true) (h':0≤opn x k):rdsk x (k+1)=rdsk x k++[opn x k]:=by
 unfold rdsk;rw[List.range_succ,List.filter_append,w2d];simp[h,h']
theorem z2n {x:DInstr} {k:Nat} (h: ¬(rd (sk x k)=true∧0≤opn x k)):rdsk x (k+1)=rdsk x k:=by
 unfold rdsk;rw[List.range_succ,List.filter_append,w2d];simp at h⊢;exact h
theorem z52 {x:DInstr} {k:Nat} (h:wt (sk x k)=true) (h':0≤opn x k):wrsk x (k+1)=wrsk x k++[opn x k]:=by
 unfold wrsk;rw[List.range_succ,List.filter_append,w2d];simp[h,h']
theorem z1H {x:DInstr} {k:Nat} (h: ¬(wt (sk x k)=true∧0≤opn x k)):wrsk x (k+1)=wrsk x k:=by
 unfold wrsk;rw[List.range_succ,List.filter_append,w2d];simp at h⊢;exact h
theorem UG (x:DInstr) (k:Nat):(rdsk x k).length≤k:=by unfold rdsk;rw[w29];exact w4d (List.length_filter_le _ _) (by simp)
theorem Zn (x:DInstr) (k:Nat):(wrsk x k).length≤k:=by unfold wrsk;rw[w29];exact w4d (List.length_filter_le _ _) (by simp)
theorem YH (a:Int):All2 IsI [a] [.int .i64 a]:=⟨rfl,trivial⟩
theorem z6T {y1 y2:AV} {a b:List Int} {own:List Nat} {nx:Nat} (h:Own2 IsI 1 y1 a IsI 1 y2 b own nx) {r:AV} (hr: ∀t,t∈y1.toks∨t∈y2.toks→t∈r.toks):Own2 IsI 1 y1 a IsI 1 y2 b (own.filter fun t=>r.toks.contains t) nx:=by
 have key: ∀{y:AV} {xs:List Int},Own IsI 1 y xs own→(∀t∈y.toks,t∈r.toks)→Own IsI 1 y xs (own.filter fun t=>r.toks.contains t):=by
  intro y xs h k
  rcases h with h|⟨tk,ys,rfl,h2,h3|⟨t,h3,rfl⟩⟩
  ·exact .inl h
  ·exact .inr ⟨tk,ys,rfl,h2,.inl h3⟩
  ·exact .inr ⟨_,ys,rfl,h2,.inr ⟨t,w55.2 ⟨h3,by simpa using k t (by simp[AV.toks])⟩,rfl⟩⟩
 exact⟨key h.l fun t ht=>hr t (.inl ht),key h.r fun t ht=>hr t (.inr ht),h.dj,h.bl,h.br⟩
theorem YZ (x:DInstr) (hw:WfI x) (hx:InstrP x) (m:Mem):OkT tab zQ [.agg [.int .u8 x.op,.int .i64 x.a,.int .i64 x.b,.int .i64 x.c]] m (fun r ts n=> ∃y1 y2,r= .tup [y1,y2]∧Own2 IsI 1 y1 (rds x) IsI 1 y2 (wrs x) ts n):=by
 refine jv X3 ?_
 obtain⟨stk,cur,nx,live,fl⟩:=m
 have hx':=hx
 obtain⟨a,b,c,hs,_⟩:=hx'
 simp only[vZ,List.map,go_sem,reduceCtorEq,G3,G0,G2,(z1u x.op _).eq,(js x _).eq,hs]
 refine za (α:=Nat) (fun k σ=>k≤3∧ ∃nz y1 y2 e,Own2 IsI 1 y1 (rdsk x k) IsI 1 y2 (wrsk x k) e nz∧heads [4,5,6,7,8] 2 σ=⟨tmps 64 [(4,y1),(5,y2),(6,.str [a,b,c]),(7,.ptr (stk++[cur]).length 1 (nx+1) 0),(8,.int .i64 k)],⟨stk++[cur],[⟨nx,[.int .u8 x.op,.int .i64 x.a,.int .i64 x.b,.int .i64 x.c]⟩,⟨nx+1,[.int .i64 x.a,.int .i64 x.b,.int .i64 x.c]⟩],nz,e::live,fl⟩⟩) (fun k=>3-k) 0 ?_ ?_
 ·refine⟨w06 _,?_⟩
  simp only[go_sem,reduceCtorEq,G0,G1]
  exact⟨_,_,_,[],.nil _ _,rfl⟩
 ·rintro k σ ⟨hk,nz,y1,y2,e,ho,hσ⟩
  rw[hσ]
  clear hσ σ
  dsimp only at hk⊢
  by_cases h:k<3
  ·obtain⟨hlt,hfit,hin,hcnt,hget⟩:=ZG hs hx hw h
   have hix:idx (.int .i64 (k:Int)) 3=some k:=zB .i64 k 3 h
   have hc3:=cell3 x h
   have hlt3:((k:Int)<3)=True:=eq_true (by omega)
   have hsucc:IntKind.i64.wrap ((k:Int)+1)=((k+1:Nat):Int):=by rw[zb (by omega) (by omega)];omega
   have hl1:=UG x k
   have hl2:=Zn x k
   have q: ∀c:UInt8,(((sk x k).toNat:Int)==(c.toNat:Int))=(sk x k==c):=fun c=>by
    rw[w3d,beq_iff_eq,beq_iff_eq,Int.ofNat_inj,UInt8.toNat_inj]
   have q114:=q 114
   have q101:=q 101
   have q119:=q 119
   have q103:=q 103
   change (((sk x k).toNat:Int)==114)=_ at q114
   change (((sk x k).toNat:Int)==101)=_ at q101
   change (((sk x k).toNat:Int)==119)=_ at q119
   change (((sk x k).toNat:Int)==103)=_ at q103
   by_cases hr:rd (sk x k)=true∧0≤opn x k
   ·obtain⟨hr,hp⟩:=hr
    have hw':wt (sk x k)=false:=by
     unfold rd at hr;unfold wt
     simp only[w2c,beq_iff_eq] at hr
     rcases hr with e|e<;>rw[e]<;>rfl
    have hge:opn x k≥0:=hp
    have w1:(sk x k==119)=false:=by unfold wt at hw';simp only[w3a] at hw';exact hw'.1
    have w2:(sk x k==103)=false:=by unfold wt at hw';simp only[w3a] at hw';exact hw'.2
    by_cases r1:(sk x k==114)=true
    ·simp only[go_sem,G3,G0,G1,G2,hlt3,hix,hget,q114,r1,evIaddrA,w10,hc3,hge]
     refine ho.xv1 (zh · 1 .full [.int .i64 (opn x k)]) (YH _) (by simp;omega) fun y' n' e' ho'=> ?_
     simp only[go_sem,G3,G0,G2,hix,hget,q119,q103,w1,w2,hsucc]
     ·refine⟨k+1,by omega,by omega,_,_,_,_,?_,rfl⟩
      rw[z5w hr hp,z1H (by simp[hw'])];assumption
    ·have r1:(sk x k==114)=false:=by simpa using r1
     have r2:(sk x k==101)=true:=by unfold rd at hr;rw[r1] at hr;simpa using hr
     simp only[go_sem,G3,G0,G1,G2,hlt3,hix,hget,q114,q101,r1,r2,evIaddrA,w10,hc3,hge]
     refine ho.xv1 (zh · 1 .full [.int .i64 (opn x k)]) (YH _) (by simp;omega) fun y' n' e' ho'=> ?_
     simp only[go_sem,G3,G0,G2,hix,hget,q119,q103,w1,w2,hsucc]
     ·refine⟨k+1,by omega,by omega,_,_,_,_,?_,rfl⟩
      rw[z5w hr hp,z1H (by simp[hw'])];assumption
   ·by_cases hwp:wt (sk x k)=true∧0≤opn x k
    ·obtain⟨hwt,hp⟩:=hwp
     have hge:opn x k≥0:=hp
     have hr':rd (sk x k)=false:=by
      cases hq:rd (sk x k) with
      |false=>rfl
      |true=>exact absurd ⟨hq,hp⟩ hr
     have r1:(sk x k==114)=false:=by unfold rd at hr';simp only[w3a] at hr';exact hr'.1
     have r2:(sk x k==101)=false:=by unfold rd at hr';simp only[w3a] at hr';exact hr'.2
     by_cases w1:(sk x k==119)=true
     ·simp only[go_sem,G3,G0,G1,G2,hlt3,hix,hget,q114,q101,q119,r1,r2,w1,evIaddrA,w10,hc3,hge]
      refine ho.xv2 (zh · 1 .full [.int .i64 (opn x k)]) (YH _) (by simp;omega) fun y' n' e' ho'=> ?_
      simp only[go_sem,G0,G2,hsucc]
      ·refine⟨k+1,by omega,by omega,_,_,_,_,?_,rfl⟩
       rw[z2n hr,z52 hwt hp];assumption
     ·have w1:(sk x k==119)=false:=by simpa using w1
      have w2:(sk x k==103)=true:=by unfold wt at hwt;rw[w1] at hwt;simpa using hwt
      simp only[go_sem,G3,G0,G1,G2,hlt3,hix,hget,q114,q101,q119,q103,r1,r2,w1,w2,evIaddrA,w10,hc3,hge]
      refine ho.xv2 (zh · 1 .full [.int .i64 (opn x k)]) (YH _) (by simp;omega) fun y' n' e' ho'=> ?_
      simp only[go_sem,G0,G2,hsucc]
      ·refine⟨k+1,by omega,by omega,_,_,_,_,?_,rfl⟩
       rw[z2n hr,z52 hwt hp];assumption
    ·simp only[go_sem,G3,G0,G1,G2,hlt3,hix,hget,q114]
     repeat' (((first|refine zp ?_ ?_|refine zk ?_ ?_|refine zl ?_ ?_|refine zi ?_ ?_|refine zj ?_ ?_)<;>intro hq)<;>simp only[go_sem,G3,G0,G2,hq,hix,hget,q101,q119,q103,evIaddrA,w10,hc3,hsucc])
     all_goals first
      |(refine⟨k+1,by omega,by omega,_,_,_,_,?_,rfl⟩;rw[z2n hr,z1H hwp];exact ho)
      |(exfalso;simp only[rd,wt,w2c,decide_eq_true_eq] at*;simp_all)
  ·have:k=3:=by omega
   subst this
   simp only[go_sem,G5,G0,G1,G2,show(((3:Nat):Int)<3)=False from eq_false (by decide)]
   refine zr ?_ ⟨y1,y2,rfl,z6T ho fun t ht=> ?_⟩
   ·simp only[AV.refs,refsAny,ho.l.refs,ho.r.refs];rfl
   ·simp only[AV.toks,toksAll,w0a,List.not_mem_nil,or_false];exact ht
theorem cellR {x:DInstr} {a b c:UInt8} (hs:shp x.op=[a,b,c]) {k:Nat} (h:k<3):takeV false 1 (([.bool (rd a),.bool (wt a),.int .i64 (lo b),.int .i64 (hi b),.bool (rd b),.bool (wt b),.int .i64 (lo c),.int .i64 (hi c),.bool (rd c),.bool (wt c)]:List AV).drop (k*4))=some (.bool (rd (sk x k))):=by
 unfold sk;rw[hs]
 rcases three h with rfl|rfl|rfl<;>rfl
theorem cellW {x:DInstr} {a b c:UInt8} (hs:shp x.op=[a,b,c]) {k:Nat} (h:k<3):takeV false 1 (([.bool (wt a),.int .i64 (lo b),.int .i64 (hi b),.bool (rd b),.bool (wt b),.int .i64 (lo c),.int .i64 (hi c),.bool (rd c),.bool (wt c)]:List AV).drop (k*4))=some (.bool (wt (sk x k))):=by
 unfold sk;rw[hs]
 rcases three h with rfl|rfl|rfl<;>rfl
theorem z1t (x:DInstr) (hw:WfI x) (hx:InstrP x) (m:Mem) (hf:m.floor≤m.stk.length+1):OkT tab jg [.agg [.int .u8 x.op,.int .i64 x.a,.int .i64 x.b,.int .i64 x.c]] m (fun r ts n=> ∃y1 y2,r= .tup [y1,y2,.int .i64 0]∧Own2 IsI 1 y1 (rds x) IsI 1 y2 (wrs x) ts n):=by
 refine jv z6D ?_
 obtain⟨stk,cur,nx,live,fl⟩:=m
 dsimp only at hf
 have hf':fl≤(stk++[cur]).length+1:=by simp;omega
 have hx':=hx
 obtain⟨a,b,c,hs,_⟩:=hx'
 have hS:=fun c nz lv=>(U8 x.op ⟨stk++[cur],c,nz,lv,fl⟩ hf').eq
 have hC:=fun c nz lv=>(Y4 x ⟨stk++[cur],c,nz,lv,fl⟩ hf').eq
 rw[kK hx] at hC
 simp only[Tn,List.map,go_sem,reduceCtorEq,G3,G0,G2,hC,show((0:Int) !=0)=false from rfl,hS,z2j hs,(Zp x _).eq]
 refine za (α:=Nat) (fun k σ=>k≤3∧ ∃nz st y1 y2 e,Own2 IsI 1 y1 (rdsk x k) IsI 1 y2 (wrsk x k) e nz∧heads [2,3,6,22,23] 2 σ=⟨tmps 54 [(2,y1),(3,y2),(6,.ptr (stk++[cur]).length 1 st 0),(22,.agg [.int .i64 x.a,.int .i64 x.b,.int .i64 x.c]),(23,.int .i64 k)],⟨stk++[cur],[⟨nx,[.int .u8 x.op,.int .i64 x.a,.int .i64 x.b,.int .i64 x.c]⟩,⟨st,[.int .i64 (lo a),.int .i64 (hi a),.bool (rd a),.bool (wt a),.int .i64 (lo b),.int .i64 (hi b),.bool (rd b),.bool (wt b),.int .i64 (lo c),.int .i64 (hi c),.bool (rd c),.bool (wt c)]⟩],nz,e::live,fl⟩⟩) (fun k=>3-k) 0 ?_ ?_
 ·refine⟨w06 _,?_⟩
  simp only[go_sem,reduceCtorEq,G0,G1]
  exact⟨_,_,_,_,[],.nil _ _,rfl⟩
 ·rintro k σ ⟨hk,nz,st,y1,y2,e,ho,hσ⟩
  rw[hσ]
  clear hσ σ
  dsimp only at hk⊢
  by_cases h:k<3
  ·have hix:idx (.int .i64 (k:Int)) 3=some k:=zB .i64 k 3 h
   have hc3:=cell3 x h
   have hcr:=cellR hs h
   have hcw:=cellW hs h
   have hlt3:((k:Int)<3)=True:=eq_true (by omega)
   have hsucc:IntKind.i64.wrap ((k:Int)+1)=((k+1:Nat):Int):=by rw[zb (by omega) (by omega)];omega
   have hl1:=UG x k
   have hl2:=Zn x k
   simp only[go_sem,G0,G1,G2,hlt3,hix,w10,hc3,evIaddrA,hcr]
   by_cases hr:rd (sk x k)=true∧0≤opn x k
   ·obtain⟨hr,hp⟩:=hr
    have hge:opn x k≥0:=hp
    simp only[go_sem,G0,G2,hr,hge]
    refine ho.xv1 (zh · 1 .full [.int .i64 (opn x k)]) (YH _) (by simp;omega) fun y' n' e' ho'=> ?_
    simp only[go_sem,G0,G2,hix,evIaddrA,hcw]
    by_cases hwt:wt (sk x k)=true
    ·simp only[go_sem,G0,G2,hwt,hge]
     refine ho'.xv2 (zh · 1 .full [.int .i64 (opn x k)]) (YH _) (by simp;omega) fun y2' n2 e2 ho2=> ?_
     simp only[go_sem,G0,G2,hsucc]
     refine⟨k+1,by omega,by omega,_,_,_,_,_,?_,rfl⟩
     rw[z5w hr hp,z52 hwt hp];exact ho2
    ·have hwt':wt (sk x k)=false:=by simpa using hwt
     simp only[go_sem,G0,G2,hwt',hsucc]
     refine⟨k+1,by omega,by omega,_,_,_,_,_,?_,rfl⟩
     rw[z5w hr hp,z1H (fun q=>hwt q.1)];exact ho'
   ·by_cases hwp:wt (sk x k)=true∧0≤opn x k
    ·obtain⟨hwt,hp⟩:=hwp
     have hge:opn x k≥0:=hp
     have hr':rd (sk x k)=false:=by
      cases hq:rd (sk x k) with
      |false=>rfl
      |true=>exact absurd ⟨hq,hp⟩ hr
     simp only[go_sem,G0,G2,hr',hix,evIaddrA,hcw,hwt,hge]
     refine ho.xv2 (zh · 1 .full [.int .i64 (opn x k)]) (YH _) (by simp;omega) fun y2' n2 e2 ho2=> ?_
     simp only[go_sem,G0,G2,hsucc]
     refine⟨k+1,by omega,by omega,_,_,_,_,_,?_,rfl⟩
     rw[z2n hr,z52 hwt hp];exact ho2
    ·repeat' (((first|refine zp ?_ ?_|refine zk ?_ ?_|refine zl ?_ ?_|refine zi ?_ ?_|refine zj ?_ ?_)<;>intro hq)<;>simp only[go_sem,G0,G2,hq,hix,evIaddrA,hcw,hsucc])
     all_goals first
      |(refine⟨k+1,by omega,by omega,_,_,_,_,_,?_,rfl⟩;rw[z2n hr,z1H hwp];exact ho)
      |(exfalso;simp only[decide_eq_true_eq] at*;simp_all)
  ·have:k=3:=by omega
   subst this
   simp only[go_sem,G5,G0,G1,G2,show(((3:Nat):Int)<3)=False from eq_false (by decide)]
   refine zr ?_ ⟨y1,y2,rfl,z6T ho fun t ht=> ?_⟩
   ·simp only[AV.refs,refsAny,ho.l.refs,ho.r.refs];rfl
   ·simp only[AV.toks,toksAll,w0a,List.not_mem_nil,or_false];exact ht
theorem z8f {x:DInstr}: ∀s∈rds x,0≤s:=by
 intro s h
 unfold rds rdsk at h
 simp only[w44,w55,w42,w0f,decide_eq_true_eq] at h
 obtain⟨k,⟨hk,h1,h2⟩,rfl⟩:=h
 exact h2
theorem zbd {x:DInstr}: ∀s∈wrs x,0≤s:=by
 intro s h
 unfold wrs wrsk at h
 simp only[w44,w55,w42,w0f,decide_eq_true_eq] at h
 obtain⟨k,⟨hk,h1,h2⟩,rfl⟩:=h
 exact h2
def NearP (d:DImage) (f:DFunc) (x:DInstr):Prop:=(∀s∈rds x++wrs x,s<f.slots.length)∧called x<d.funcs.length∧(x.op=2→x.b<d.texts.length)
theorem zey {x:DInstr} (h:InstrP x) (e:x.op=2):0≤x.b:=by
 obtain⟨a,b,c,hs,f1,f2,f3⟩:=h
 rw[e] at hs
 have:shp 2=[119,116,45]:=by decide
 rw[this] at hs
 injection hs with _ hs
 injection hs with hs _
 subst hs
 have:lo 116=0:=by decide
 unfold fitsK at f2;omega
theorem zbf (d:DImage) (f:DFunc) (y:AV) (hy:NV d f y) (x:DInstr) (hx:InstrP x) (hw:WfI x) (m:Mem) (hf:m.floor≤m.stk.length+1):
  Okv tab vh [y,.agg [.int .u8 x.op,.int .i64 x.a,.int .i64 x.b,.int .i64 x.c]] m (.int .i64 (if pb (NearP d f x) then 0 else 16)):=by
 obtain⟨ty,tx,fs,w0,w1,w2,w3,rfl,h0,h1,h2,h3,h4,h5,h6⟩:=hy
 refine ze Vi ?_
 obtain⟨stk,cur,nx,live,fl⟩:=m
 dsimp only at hf
 have hf':fl≤(stk++[cur]).length+1:=by simp;omega
 simp only[tp,List.map,go_sem,reduceCtorEq,G3,G0,G2]
 refine(z1t x hw hx _ hf').xv fun r ts n1 ⟨y1,y2,hr,ho⟩=> ?_
 subst hr
 have hl1:=UG x 3
 have hl2:=Zn x 3
 have hlive: ∃e,pushToks ts ([]::live)=e::live∧Own2 IsI 1 y1 (rds x) IsI 1 y2 (wrs x) e n1:=by
  cases ts with
  |nil=>exact⟨[],rfl,ho⟩
  |cons t ts=>exact⟨_,rfl,by simpa using ho⟩
 obtain⟨e,he,ho⟩:=hlive
 simp only[he]
 simp only[go_sem,reduceCtorEq,G0,G2,show((0:Int) !=0)=false from rfl]
 obtain⟨z2,hz2,hc2⟩:=ho.r.elems
 refine ho.l.xv hz2 hc2 (by unfold rds wrs;omega) fun y3 n3 e3 ho3=> ?_
 have hy3:=ho3.sl (by rw[w05];unfold rds wrs;omega)
 have hlen3:(rds x++wrs x).length≤6:=by rw[w05];unfold rds wrs;omega
 have hnn: ∀s∈rds x++wrs x,0≤s:=fun s hs=>by
  rcases w0a.1 hs with q|q
  ·exact z8f s q
  ·exact zbd s q
 have hNP:NearP d f x↔(∀s∈rds x++wrs x,s<f.slots.length)∧called x<d.funcs.length∧(x.op=2→x.b<d.texts.length):=Iff.rfl
 generalize hL:rds x++wrs x=l at*
 simp only[go_sem,reduceCtorEq,G3,G0,G2,hy3.len]
 refine za (α:=Nat) (fun k σ=>(k≤l.length∧ ∀j,(hj:j<k)→(hl:j<l.length)→l[j]<f.slots.length)∧ ∃nz e,heads [2,3,22,23,24] 2 σ=⟨tmps 57 [(2,.ptr (stk++[cur]).length 0 nx 0),(3,.ptr (stk++[cur]).length 1 (nx+1) 0),(22,y3),(23,.int .i64 l.length),(24,.int .i64 k)],⟨stk++[cur],[⟨nx,[ty,tx,fs,.str f.name,.int .i64 f.params,.int .i64 f.result,w0,w1,w2,w3]⟩,⟨nx+1,[.int .u8 x.op,.int .i64 x.a,.int .i64 x.b,.int .i64 x.c]⟩],nz,e::live,fl⟩⟩) (fun k=>l.length-k) 0 ?_ ?_
 ·refine⟨⟨w06 _,fun j h=>absurd h (w35 _)⟩,?_⟩
  simp only[go_sem,reduceCtorEq,G0,G1]
  exact⟨_,_,rfl⟩
 ·rintro k σ ⟨⟨hk,ht⟩,nz,e4,hσ⟩
  rw[hσ]
  clear hσ σ
  dsimp only at hk ht⊢
  by_cases h:k<l.length
  ·have e1:nth y3 k= .int .i64 l[k]:=hy3.nth h
   have hsucc:=zd h hy3.max
   have hnn':=hnn _ (w04 h)
   simp only[go_sem,G3,G0,G1,G2,w02,h,hy3.at _ h,e1,(qV _ _ h3 _ _).eq]
   by_cases hq:l[k]<f.slots.length
   ·have hd:decide (0≤l[k]∧l[k]<f.slots.length)=true:=decide_eq_true ⟨hnn',hq⟩
    simp only[go_sem,G0,G2,hd,hsucc]
    refine⟨k+1,by omega,⟨h,fun j hj hl=> ?_⟩,_,_,rfl⟩
    rcases w3c j k with q|q
    ·exact ht j q hl
    ·have:j=k:=by omega
     subst this;exact hq
   ·have hd:decide (0≤l[k]∧l[k]<f.slots.length)=false:=decide_eq_false fun q=>hq q.2
    simp only[go_sem,G0,G2,hd]
    rw[z6 rfl rfl,z8]
    refine⟨⟨_,rfl⟩,?_⟩
    rw[zg fun q=>hq ((hNP.1 q).1 _ (w04 h))];rfl
  ·have hke:k=l.length:=by omega
   subst hke
   have hall: ∀s∈l,s<f.slots.length:=fun s hs=>by
    obtain⟨j,hj,rfl⟩:=List.mem_iff_getElem.1 hs
    exact ht j hj hj
   simp only[go_sem,G3,G0,G1,G2,w02,h,(Ua x _).eq,h2.len]
   by_cases hcl:called x≥d.funcs.length
   ·simp only[go_sem,G0,G2,hcl]
    rw[z6 rfl rfl,z8]
    refine⟨⟨_,rfl⟩,?_⟩
    rw[zg fun q=>by have:=(hNP.1 q).2.1;omega];rfl
   ·by_cases h2o:x.op=2
    ·have h2b:(x.op==2)=true:=by simpa using h2o
     have hnn2:=zey hx h2o
     by_cases hb:x.b<d.texts.length
     ·have hd:decide (0≤x.b∧x.b<d.texts.length)=true:=decide_eq_true ⟨hnn2,hb⟩
      simp only[go_sem,G0,G2,hcl,h2b,(WK _ _ h1 _ _).eq,hd]
      rw[z6 rfl rfl,z8]
      refine⟨⟨_,rfl⟩,?_⟩
      rw[zF (hNP.2 ⟨hall,by omega,fun _=>hb⟩)];rfl
     ·have hd:decide (0≤x.b∧x.b<d.texts.length)=false:=decide_eq_false fun q=>hb q.2
      simp only[go_sem,G0,G2,hcl,h2b,(WK _ _ h1 _ _).eq,hd]
      rw[z6 rfl rfl,z8]
      refine⟨⟨_,rfl⟩,?_⟩
      rw[zg fun q=>hb ((hNP.1 q).2.2 h2o)];rfl
    ·have h2b:(x.op==2)=false:=by simpa using h2o
     simp only[go_sem,G0,G2,hcl,h2b]
     rw[z6 rfl rfl,z8]
     refine⟨⟨_,rfl⟩,?_⟩
     rw[zF (hNP.2 ⟨hall,by omega,fun q=>absurd q h2o⟩)];rfl
def fn00:DFunc:=⟨[],0,0,[],[],[],[]⟩
def fnA (l:List DFunc) (k:Nat):DFunc:=l.getD k fn00
theorem z1D {l:List DFunc} {j:Nat} (h:j<l.length):l[j]=fnA l j:=by simp[fnA,w00,h]
theorem _root_.Go.Vs.IsSl.fnA {l:List DFunc} {x:AV} (hx:IsSl IsFunc 7 l x) {j:Nat} (h:j<l.length): ∃w0 w1 w2 w3,Vs.nth x j= .agg [.str (fnA l j).name,.int .i64 (fnA l j).params,.int .i64 (fnA l j).result,w0,w1,w2,w3]∧
  IsSl IsField 2 (fnA l j).slots w0∧IsSl IsInstr 4 (fnA l j).code w1∧IsSl IsRun 2 (fnA l j).sizes w2∧IsSl IsRun 2 (fnA l j).lives w3:=by
 rw[←z1D h];exact hx.nth h
theorem z83 (d:DImage) (y:AV) (hy:IsImage d y) (g:Nat) (hg:g<d.funcs.length) (x:DInstr) (hx:InstrP x) (hw:WfI x) (m:Mem):
  Okv tab yK [y,.int .i64 g,.agg [.int .u8 x.op,.int .i64 x.a,.int .i64 x.b,.int .i64 x.c]] m (.bool (pb (NearP d (fnA d.funcs g) x))):=by
 obtain⟨ty,tx,fs,rfl,h0,h1,h2⟩:=hy
 obtain⟨w0,w1,w2,w3,ef,h3,h4,h5,h6⟩:=h2.fnA hg
 have hatg:=h2.at .i64 hg
 refine ze Um ?_
 obtain⟨stk,cur,nx,live,fl⟩:=m
 simp only[tX,List.map,go_sem,reduceCtorEq,G3,G0,G2]
 refine(YZ x hw hx _).xv fun r ts n1 ⟨y1,y2,hr,ho⟩=> ?_
 subst hr
 have hl1:=UG x 3
 have hl2:=Zn x 3
 have hlive: ∃e,pushToks ts ([]::live)=e::live∧Own2 IsI 1 y1 (rds x) IsI 1 y2 (wrs x) e n1:=by
  cases ts with
  |nil=>exact⟨[],rfl,ho⟩
  |cons t ts=>exact⟨_,rfl,by simpa using ho⟩
 obtain⟨e,he,ho⟩:=hlive
 simp only[he]
 simp only[go_sem,reduceCtorEq,G0,G2]
 obtain⟨z1,hz1,hc1⟩:=ho.l.elems
 obtain⟨z2,hz2,hc2⟩:=ho.r.elems
 have hn:Own IsI 1 (.list 1 .full []) [] e:=Own.full (R:=IsI) (xs:=[]) (ys:=[]) trivial e
 refine hn.xv hz1 hc1 (by unfold rds;simp;omega) fun y3 n3 e3 ho3=> ?_
 simp only[go_sem,reduceCtorEq,G0,G2]
 rw[w32] at ho3
 refine ho3.xv hz2 hc2 (by unfold rds wrs;omega) fun y4 n4 e4 ho4=> ?_
 have hy3:=ho4.sl (by rw[w05];unfold rds wrs;omega)
 have hNP:NearP d (fnA d.funcs g) x↔(∀s∈rds x++wrs x,s<(fnA d.funcs g).slots.length)∧called x<d.funcs.length∧(x.op=2→x.b<d.texts.length):=Iff.rfl
 generalize fnA d.funcs g=f at*
 generalize hL:rds x++wrs x=l at*
 simp only[go_sem,reduceCtorEq,G3,G0,G2]
 refine za (α:=Nat) (fun k σ=>(k≤l.length∧ ∀j,(hj:j<k)→(hl:j<l.length)→l[j]<f.slots.length)∧ ∃nz e,heads [1,3,5,9,10] 2 σ=⟨tmps 60 [(1,.int .i64 g),(3,.ptr (stk++[cur]).length 0 nx 0),(5,.ptr (stk++[cur]).length 1 (nx+1) 0),(9,y4),(10,.int .i64 k)],⟨stk++[cur],[⟨nx,[ty,tx,fs]⟩,⟨nx+1,[.int .u8 x.op,.int .i64 x.a,.int .i64 x.b,.int .i64 x.c]⟩],nz,e::live,fl⟩⟩) (fun k=>l.length-k) 0 ?_ ?_
 ·refine⟨⟨w06 _,fun j h=>absurd h (w35 _)⟩,?_⟩
  simp only[go_sem,reduceCtorEq,G0,G1]
  exact⟨_,_,rfl⟩
 ·rintro k σ ⟨⟨hk,ht⟩,nz,e5,hσ⟩
  rw[hσ]
  clear hσ σ
  dsimp only at hk ht⊢
  by_cases h:k<l.length
  ·have e1:nth y4 k= .int .i64 l[k]:=hy3.nth h
   have hsucc:=zd h hy3.max
   by_cases hq:l[k]<f.slots.length
   ·simp only[go_sem,G0,G1,G2,w02,h,hy3.len,hy3.at _ h,e1,hatg,ef,h3.len,show¬l[k]≥f.slots.length by omega,hsucc]
    refine⟨k+1,by omega,⟨h,fun j hj hl=> ?_⟩,_,_,rfl⟩
    rcases w3c j k with q|q
    ·exact ht j q hl
    ·have:j=k:=by omega
     subst this;exact hq
   ·simp only[go_sem,G0,G1,G2,w02,h,hy3.len,hy3.at _ h,e1,hatg,ef,h3.len,show l[k]≥f.slots.length by omega]
    rw[z6 rfl rfl,z8]
    refine⟨⟨_,rfl⟩,?_⟩
    rw[zg fun q=>hq ((hNP.1 q).1 _ (w04 h))]
  ·have hke:k=l.length:=by omega
   subst hke
   have hall: ∀s∈l,s<f.slots.length:=fun s hs=>by
    obtain⟨j,hj,rfl⟩:=List.mem_iff_getElem.1 hs
    exact ht j hj hj
   simp only[go_sem,G3,G0,G1,G2,w02,h,hy3.len,(jn x _).eq,h2.len]
   by_cases hcl:called x<d.funcs.length
   ·by_cases h2o:x.op=2
    ·have h2b:(x.op !=2)=false:=by simpa using h2o
     simp only[go_sem,G0,G2,hcl,h2b,h1.len]
     rw[z6 rfl rfl,z8]
     refine⟨⟨_,rfl⟩,congrArg AV.bool (kY ?_)⟩
     rw[decide_eq_true_eq]
     exact⟨fun q=>hNP.2 ⟨hall,hcl,fun _=>q⟩,fun q=>(hNP.1 q).2.2 h2o⟩
    ·have h2b:(x.op !=2)=true:=by simpa using h2o
     simp only[go_sem,G0,G2,hcl,h2b]
     rw[z6 rfl rfl,z8]
     refine⟨⟨_,rfl⟩,?_⟩
     rw[zF (hNP.2 ⟨hall,hcl,fun q=>absurd q h2o⟩)]
   ·simp only[go_sem,G0,G2,hcl]
    rw[z6 rfl rfl,z8]
    refine⟨⟨_,rfl⟩,?_⟩
    rw[zg fun q=>hcl (hNP.1 q).2.1]
end Go.Proofs.W
end
section
namespace Go.Vs
def rwC (stk:List (List Blk)) (cur:List Blk) (lv k st:Nat) (y:List AV):List (List Blk):=(stk++[cur]).modify lv fun f=>f.set k ⟨st,y⟩
section
variable {stk : List (List Blk)} {cur : List Blk} {lv k st : Nat} {y y' : List AV}
theorem z9s:(rwC stk cur lv k st y).length=(stk++[cur]).length:=by simp[rwC]
theorem z9t (h:lv≤stk.length) (hk:k<((stk++[cur]).getD lv []).length):((rwC stk cur lv k st y).getD lv [])[k]? =some ⟨st,y⟩:=by
 have hl:lv<(stk++[cur]).length:=by simp;omega
 unfold rwC
 simp only[w00,w33] at hk⊢
 rw[w11 hl] at hk⊢
 simp only[if_true,Option.map_eq_map,w0e,w2a] at hk⊢
 simp[hk]
theorem z9r:(rwC stk cur lv k st y).modify lv (fun f=>f.set k ⟨st,y'⟩)=rwC stk cur lv k st y':=by
 unfold rwC
 apply w2b
 intro j
 simp only[w33]
 cases (stk++[cur])[j]? with
 |none=>simp
 |some f=>
  by_cases e:lv=j
  ·simp[e,List.set_set]
  ·simp[e]
theorem zbA (h:((stk++[cur]).getD lv [])[k]? =some ⟨st,y⟩):stk++[cur]=rwC stk cur lv k st y:=by
 unfold rwC
 apply w2b
 intro j
 simp only[w33]
 by_cases e:lv=j
 ·subst e
  simp only[w00] at h
  cases hq:(stk++[cur])[lv]? with
  |none=>rfl
  |some f=>
   rw[hq] at h
   simp only[w2a] at h
   simp only[if_true,Option.map_eq_map,w0e,Option.some.injEq]
   apply w2b
   intro q
   rw[w38]
   by_cases e2:k=q
   ·subst e2
    obtain⟨hkf,hke⟩:=w0b.1 h
    simp[hkf,hke]
   ·simp[e2]
 ·simp[e]
def wroteC (m:Mem) (lv k st:Nat) (y:List AV) (n:Nat) (l:List (List Nat)):Mem:={m.put lv k st y with nx:=n,live:=l}
theorem z1I {nx fl n:Nat} {live l:List (List Nat)}:wroteC ⟨stk,cur,nx,live,fl⟩ stk.length k st y' n l=⟨stk,cur.set k ⟨st,y'⟩,n,l,fl⟩:=by
 unfold wroteC Mem.put
 rw[if_pos (by simp)]
theorem Xq {m0:Mem} {c':List Blk} {nx' fl':Nat} {own:List Nat} {live':List (List Nat)} {r:AV} (hlv:lv≤stk.length) (h1:r.refs (stk++[cur]).length=false) (h2:r.toks=[]) (nx:Nat) (live:List (List Nat)):
  leave m0 ⟨rwC stk cur lv k st y,c',nx',own::live',fl'⟩ r=some (r,wroteC ⟨stk,cur,nx,live,m0.floor⟩ lv k st y nx' live'):=by
 unfold wroteC
 by_cases e:lv=stk.length
 ·have:rwC stk cur lv k st y=stk++[cur.set k ⟨st,y⟩]:=by
   unfold rwC;subst e
   rw[w47 (by simp)];simp
  rw[this,x9 (by simpa using h1) h2]
  unfold Mem.put
  simp[e]
 ·have:rwC stk cur lv k st y=(stk.modify lv fun f=>f.set k ⟨st,y⟩)++[cur]:=by
   unfold rwC
   apply w2b
   intro j
   simp only[w33]
   by_cases hj:j<stk.length
   ·rw[w0c hj,w0c (by simpa using hj),w33]
   ·rw[w15 (by omega),w15 (by simp;omega),List.length_modify]
    cases [cur][j-stk.length]? with
    |none=>rfl
    |some z=>simp[show¬lv=j by omega]
  rw[this,x9 (by simpa using h1) h2]
  unfold Mem.put
  simp[e]
end
theorem qM {S:List (List Blk)} {C:List Blk} {nx fl:Nat} {live:List (List Nat)} {lv k st:Nat} {cs:List AV} (h:Mem.blk ⟨S,C,nx,live,fl⟩ lv k st=some cs) (hlv:lv≤S.length):((S++[C]).getD lv [])[k]? =some ⟨st,cs⟩:=by
 unfold Mem.blk at h
 split at h
 ·rename_i b hb
  split at h
  ·rename_i e
   injection h with h
   have hb':b=⟨st,cs⟩:=by rw[←h,←eq_of_beq e]
   subst hb'
   unfold Mem.row at hb
   by_cases e:lv=S.length
   ·subst e;simpa using hb
   ·simp only at hb
    rw[if_neg (by simpa using e)] at hb
    simp only[w00] at hb⊢
    rw[w0c (by omega)];exact hb
  ·cases h
 ·cases h
theorem QA {S:List (List Blk)} {C c:List Blk} {nx fl n L k st:Nat} {live l:List (List Nat)} {y:List AV} (h:L≤S.length):wroteC ⟨S++[C],c,nx,live,fl⟩ L k st y n l=⟨rwC S C L k st y,c,n,l,fl⟩:=by
 unfold wroteC Mem.put rwC
 rw[if_neg (by simp;omega)]
theorem zcv {S:List (List Blk)} {C:List Blk} {nx fl:Nat} {live:List (List Nat)} {lv k st:Nat} {cs:List AV} (h:Mem.blk ⟨S,C,nx,live,fl⟩ lv k st=some cs) (hlv:lv≤S.length):k<((S++[C]).getD lv []).length:=
 (w0b.1 (qM h hlv)).1
theorem XG {S:List (List Blk)} {C c:List Blk} {nx fl nx' fl':Nat} {live live':List (List Nat)} {lv k st:Nat} {cs:List AV} (h:Mem.blk ⟨S,C,nx,live,fl⟩ lv k st=some cs) (hlv:lv≤S.length):Mem.blk ⟨S++[C],c,nx',live',fl'⟩ lv k st=some cs:=by
 have h1:=qM h hlv
 unfold Mem.blk Mem.row
 simp only
 rw[if_neg (by simp;omega),h1]
 simp
end Go.Vs
end
section
namespace Go.Proofs.W
open Go.Vs
set_option linter.unusedSimpArgs false
set_option maxRecDepth 100000
theorem X9 (j:Nat) (l:List (List Nat)):Vs.sink j [] l=l:=rfl
theorem zcW (p:Int) (m:Mem):Okv tab qU [.int .i64 p] m (.bool false):=by
 refine ze z1l ?_
 obtain⟨stk,cur,nx,live,fl⟩:=m
 simp only[kT,List.map,go_sem,reduceCtorEq,G0,G2]
 rw[z6 rfl rfl,z8]
 exact⟨⟨_,rfl⟩,by simp⟩
theorem zbq (p q:Int) (m:Mem):Okv tab jI [.int .i64 p,.int .i64 q] m (.bool (decide (p<q))):=by
 refine ze z2d ?_
 obtain⟨stk,cur,nx,live,fl⟩:=m
 simp only[ZR,List.map,go_sem,reduceCtorEq,G3,G0,G2,(zcW p _).eq]
 rw[z6 rfl rfl,z8]
 exact⟨⟨_,rfl⟩,rfl⟩
def Sets (tab:Nat→Option AFunc) (f:Nat) (args:List AV) (m:Mem) (L k st:Nat) (y:List AV) (r:AV):Prop:= ∃n,CALL tab f args m=some (r,wroteC m L k st y n m.live)
noncomputable def setsNx (tab:Nat→Option AFunc) (f:Nat) (args:List AV) (m:Mem):Nat:=match CALL tab f args m with|some (_,m')=>m'.nx|none=>0
theorem Sets.eq {tab:Nat→Option AFunc} {f:Nat} {args:List AV} {m:Mem} {L k st:Nat} {y:List AV} {r:AV} (h:Sets tab f args m L k st y r):CALL tab f args m=some (r,wroteC m L k st y (setsNx tab f args m) m.live):=by
 obtain⟨n,h⟩:=h
 rw[h]
 unfold setsNx
 rw[h]
 rfl
theorem z1w {tab:Nat→Option AFunc} {f:Nat} {fn:AFunc} (h:tab f=some fn) {args:List AV} {m:Mem} {L k st:Nat} {y:List AV} {r:AV} (hx:X tab fn.body (mk fn.ntmps (.tup []) (numb 0 args)) (enter m) (.fin fn.res m fun v m'=> ∃n,v=r∧m'=wroteC m L k st y n m.live)) (hn:args.length≤fn.ntmps:=by exact w1c rfl):
  Sets tab f args m L k st y r:=by
 obtain⟨x,h1,n,h2,h3⟩:=yn h hx hn;exact⟨n,by rw[h1,←h2,←h3]⟩
theorem li (l:List AV) (k:Nat) {v:AV} (h:(l.drop k).head? =some v):takeV false 1 (l.drop k)=some v:=by
 unfold takeV
 cases hd:l.drop k with
 |nil=>rw[hd] at h;cases h
 |cons a r=>rw[hd] at h;simp at h⊢;exact h
theorem zbj (p q:Int) (S:List (List Blk)) (C:List Blk) (nx fl:Nat) (live:List (List Nat)) (L k st:Nat) (hL:L≤S.length) (hfl:fl≤L) (hb:Mem.blk ⟨S,C,nx,live,fl⟩ L k st=some [.int .i64 p,.int .i64 q]):
  Sets tab yM [.grow 1 L k st 2,.int .i64 0,.int .i64 2] ⟨S,C,nx,live,fl⟩ L k st [.int .i64 (min p q),.int .i64 (max p q)] (.tup []):=by
 refine z1w ji ?_
 have hrow:=qM hb hL
 have hk:=zcv hb hL
 have hne: ∀y,(L==(rwC S C L k st y).length)=false:=fun y=>by rw[z9s];simp;omega
 have hget: ∀y,((rwC S C L k st y).getD L [])[k]? =some ⟨st,y⟩:=fun y=>z9t hL hk
 have i0:idx (.int .i64 0) 2=some 0:=rfl
 have i1:idx (.int .i64 1) 2=some 1:=rfl
 have a01:IntKind.i64.wrap (0+1)=1:=rfl
 have a12:IntKind.i64.wrap (1+1)=2:=rfl
 have s10:IntKind.i64.wrap (1-1)=0:=rfl
 simp only[yL,List.map,go_sem,reduceCtorEq,G3,G0,G2,zbA hrow]
 rw[yw]
 simp only[go_sem,reduceCtorEq,G0,G1,G2,a01,show((1:Int)<2)=True from eq_true (by decide)]
 rw[yw]
 by_cases h:q<p
 ·have h1:min p q=q:=by omega
  have h2:max p q=p:=by omega
  rw[h1,h2]
  simp only[go_sem,reduceCtorEq,G3,G0,G4,G1,G2,show((1:Int)>0)=True from eq_true (by decide),evIaddr,i0,i1,hne,hget,s10,w10,(zbq q p _).eq,h,hfl,z9r,X9]
  rw[yw]
  simp only[go_sem,reduceCtorEq,G0,G1,G2,show((0:Int)>0)=False from eq_false (by decide),a12]
  rw[yw]
  simp only[go_sem,reduceCtorEq,G0,G1,G2,show((2:Int)<2)=False from eq_false (by decide)]
  rw[Xq hL rfl rfl nx live,z8]
  exact⟨_,rfl,rfl⟩
 ·have h1:min p q=p:=by omega
  have h2:max p q=q:=by omega
  rw[h1,h2]
  simp only[go_sem,reduceCtorEq,G0,G1,G2,show((1:Int)>0)=True from eq_true (by decide),evIaddr,i0,i1,hne,hget,s10,w10,(zbq q p _).eq,h,a12]
  rw[yw]
  simp only[go_sem,reduceCtorEq,G0,G1,G2,show((2:Int)<2)=False from eq_false (by decide)]
  rw[Xq hL rfl rfl nx live,z8]
  exact⟨_,rfl,rfl⟩
theorem zf8 (p q:Int) (S:List (List Blk)) (C:List Blk) (nx fl:Nat) (live:List (List Nat)) (L k st:Nat) (hL:L≤S.length) (hfl:fl≤L) (hb:Mem.blk ⟨S,C,nx,live,fl⟩ L k st=some [.int .i64 p,.int .i64 q]) (z:Int):
  Sets tab ye [.grow 1 L k st 2,.int .i64 0,.int .i64 2,.int .i64 z] ⟨S,C,nx,live,fl⟩ L k st [.int .i64 (min p q),.int .i64 (max p q)] (.tup []):=by
 refine z1w Z2 ?_
 simp only[xB,List.map,go_sem,G3]
 rw[yw]
 simp only[go_sem,reduceCtorEq,G0,G1,G2,show IntKind.i64.wrap (2-0)=2 from rfl,show((2:Int)≤12)=True from eq_true (by decide),(zbj p q (S++[C]) [] nx fl ([]::live) L k st (by simp;omega) hfl (XG hb hL)).eq,QA hL]
 rw[Xq hL rfl rfl nx live,z8]
 exact⟨_,rfl,rfl⟩
theorem zd3 (m:Mem):Okv tab jE [.int .u64 2] m (.int .i64 2):=by
 refine ze QH ?_
 obtain⟨stk,cur,nx,live,fl⟩:=m
 simp only[jz,List.map,go_sem,reduceCtorEq,G3,G0,G2,show((2:Int)≥4294967296)=False from eq_false (by decide),show((2:Int)≥65536)=False from eq_false (by decide),show((2:Int)≥256)=False from eq_false (by decide),show IntKind.u8.wrap 2=2 from rfl,show idx (.int .u8 2) 256=some 2 from rfl,
  UInt8.toNat_ofNat]
 rw[z6 rfl rfl,z8]
 exact⟨⟨_,rfl⟩,rfl⟩
theorem zf9 (m:Mem):Okv tab kW [.int .u64 2] m (.int .i64 2):=by
 refine ze z1j ?_
 obtain⟨stk,cur,nx,live,fl⟩:=m
 simp only[kR,List.map,go_sem,reduceCtorEq,G0,G2,(zd3 _).eq]
 rw[z6 rfl rfl,z8]
 exact⟨⟨_,rfl⟩,rfl⟩
theorem zeu (p q:Int) (S:List (List Blk)) (C:List Blk) (nx fl:Nat) (live:List (List Nat)) (L k st:Nat) (hL:L≤S.length) (hfl:fl≤L) (hb:Mem.blk ⟨S,C,nx,live,fl⟩ L k st=some [.int .i64 p,.int .i64 q]):
  Sets tab vg [.grow 1 L k st 2] ⟨S,C,nx,live,fl⟩ L k st [.int .i64 (min p q),.int .i64 (max p q)] (.tup []):=by
 refine z1w Vc ?_
 have hP:=fun n z=>(zf8 p q (S++[C]) [] n fl ([]::live) L k st (by simp;omega) hfl (XG hb hL) z).eq
 simp only[tj,List.map,go_sem,reduceCtorEq,G0,G2,evLen,show IntKind.u64.wrap (2:Int)=2 from rfl,(zf9 _).eq,show(((2:Nat):Int))=2 from rfl,hP,QA hL]
 rw[Xq hL rfl rfl nx live,z8]
 exact⟨_,rfl,rfl⟩
theorem z5d (p q:Int) (h:p≠q) (S:List (List Blk)) (C:List Blk) (nx fl:Nat) (live:List (List Nat)) (L k st:Nat) (hL:L≤S.length) (hb:Mem.blk ⟨S,C,nx,live,fl⟩ L k st=some [.int .i64 p,.int .i64 q]):
  Okv tab ya [.grow 1 L k st 2] ⟨S,C,nx,live,fl⟩ (.grow 1 L k st 2):=by
 refine ze qK ?_
 have hrow:=qM hb hL
 have hne:(L==(S++[C]).length)=false:=by simp;omega
 have i0:idx (.int .i64 0) 2=some 0:=rfl
 have i1:idx (.int .i64 1) 2=some 1:=rfl
 have hq:(q==p)=false:=by simpa using fun e:q=p=>h e.symm
 simp only[xe,List.map,go_sem,reduceCtorEq,G0,G2,evLen,show(((2:Nat):Int)<2)=False from eq_false (by decide)]
 rw[yw]
 simp only[go_sem,reduceCtorEq,G0,G1,G2,evLen,show((1:Int)<((2:Nat):Int))=True from eq_true (by decide),evIaddr,i0,i1,show IntKind.i64.wrap (1-1)=0 from rfl,hne,hrow,w10,hq,show IntKind.i64.wrap (1+1)=2 from rfl]
 rw[yw]
 simp only[go_sem,reduceCtorEq,G0,G1,G2,evLen,show((2:Int)<((2:Nat):Int))=False from eq_false (by decide)]
 rw[z6 (by simp only[AV.refs];simp;omega) rfl,z8]
 exact⟨⟨_,rfl⟩,rfl⟩
theorem z5e (p:Int) (S:List (List Blk)) (C:List Blk) (nx fl:Nat) (live:List (List Nat)) (L k st:Nat) (hL:L≤S.length) (hfl:fl≤L) (hb:Mem.blk ⟨S,C,nx,live,fl⟩ L k st=some [.int .i64 p,.int .i64 p]):
  Sets tab ya [.grow 1 L k st 2] ⟨S,C,nx,live,fl⟩ L k st [.int .i64 p,.int .i64 0] (.grow 1 L k st 1):=by
 refine z1w qK ?_
 have hrow:=qM hb hL
 have hk:=zcv hb hL
 have hne: ∀y,(L==(rwC S C L k st y).length)=false:=fun y=>by rw[z9s];simp;omega
 have hget: ∀y,((rwC S C L k st y).getD L [])[k]? =some ⟨st,y⟩:=fun y=>z9t hL hk
 have i0:idx (.int .i64 0) 2=some 0:=rfl
 have i1:idx (.int .i64 1) 2=some 1:=rfl
 have b1:bound (some (.int .i64 1)) 2 0=some 1:=rfl
 have b2:bound (none:Option AV) 2 2=some 2:=rfl
 have b3:bound (some (.int .i64 1)) 2 2=some 1:=rfl
 have b4:bound (none:Option AV) 1 0=some 0:=rfl
 simp only[xe,List.map,go_sem,reduceCtorEq,G0,G2,evLen,show(((2:Nat):Int)<2)=False from eq_false (by decide),zbA hrow]
 rw[yw]
 simp only[go_sem,reduceCtorEq,G5,G0,G1,G2,evLen,show((1:Int)<((2:Nat):Int))=True from eq_true (by decide),evIaddr,i0,i1,show IntKind.i64.wrap (1-1)=0 from rfl,hne,hget,w10,evSlice,b1,b2]
 rw[yw]
 simp only[go_sem,reduceCtorEq,G3,G5,G0,G1,G2,evLen,show((1:Int)<((1:Nat):Int))=False from eq_false (by decide),evSlice,b1,b2,b3,b4,show((1:Nat)==0)=false from rfl,show((0:Nat)==0)=true from rfl,evClr,hne,hget,hfl,z9r,flatRep,w10,Nat.one_ne_zero]
 rw[Xq hL (by simp only[AV.refs];simp;omega) rfl nx live,z8]
 exact⟨_,rfl,rfl⟩
def SlotsP (d:DImage) (f:DFunc):Prop:= ∀s∈f.slots,0≤s.typ∧s.typ<d.types.length
theorem tO {d:DImage} {f:DFunc} (h:SlotsP d f) (s:Int):slotT f s<d.types.length:=by
 unfold slotT
 split
 ·rename_i hs
  obtain⟨k,rfl⟩: ∃k:Nat,s=k:=⟨s.toNat,by omega⟩
  have hk:k<f.slots.length:=by omega
  rw[z05 hk]
  exact(h _ (w04 hk)).2
 ·omega
def cellsN (ty tx fs w0 w1 w2 w3:AV) (f:DFunc):List AV:=[ty,tx,fs,.str f.name,.int .i64 f.params,.int .i64 f.result,w0,w1,w2,w3]
section
variable (d : DImage) (f : DFunc) (ty tx fs w0 w1 w2 w3 : AV) (hy : NV d f (.agg (cellsN ty tx fs w0 w1 w2 w3 f)))
include hy
theorem z5a (t:Int) (ht:t<d.types.length) (m:Mem) (L st:Nat) (hL:L≤m.stk.length) (hb:m.blk L 0 st=some (cellsN ty tx fs w0 w1 w2 w3 f)):Okv tab vP [.int .i64 t,.ptr L 0 st 0] m (.bool (isT d t [1])):=by
 refine ze Yo ?_
 obtain⟨stk,cur,nx,live,fl⟩:=m
 have hI:=fun m=>(z58 d f _ hy t ht [1] _ (isL1 1 .full) m).eq
 simp only[cellsN] at hI
 have hrow:=qM hb hL
 have hne:(L==(stk++[cur]).length)=false:=by simp at hL⊢;omega
 simp only[vK,List.map,go_sem,reduceCtorEq,G3,G0,G2,hne,hrow,cellsN]
 simp only[go_sem,reduceCtorEq,G0,G2,hI]
 rw[z6 rfl rfl,z8]
 exact⟨⟨_,rfl⟩,rfl⟩
theorem zbi (t:Int) (ht:t<d.types.length) (m:Mem) (L st:Nat) (hL:L≤m.stk.length) (hb:m.blk L 0 st=some (cellsN ty tx fs w0 w1 w2 w3 f)):Okv tab vS [.int .i64 t,.ptr L 0 st 0] m (.bool (isT d t [1,2,4])):=by
 refine ze Yr ?_
 obtain⟨stk,cur,nx,live,fl⟩:=m
 have hI:=fun m=>(z58 d f _ hy t ht [1,2,4] _ (isL3 1 2 4 .full) m).eq
 simp only[cellsN] at hI
 have hrow:=qM hb hL
 have hne:(L==(stk++[cur]).length)=false:=by simp at hL⊢;omega
 simp only[vN,List.map,go_sem,reduceCtorEq,G3,G0,G2,hne,hrow,cellsN]
 simp only[go_sem,reduceCtorEq,G0,G2,hI]
 rw[z6 rfl rfl,z8]
 exact⟨⟨_,rfl⟩,rfl⟩
theorem zcV (t:Int) (ht:t<d.types.length) (m:Mem) (L st:Nat) (hL:L≤m.stk.length) (hb:m.blk L 0 st=some (cellsN ty tx fs w0 w1 w2 w3 f)):Okv tab zR [.int .i64 t,.ptr L 0 st 0] m (.bool (!isT d t [2])):=by
 refine ze Zu ?_
 obtain⟨stk,cur,nx,live,fl⟩:=m
 have hI:=fun m=>(z58 d f _ hy t ht [2] _ (isL1 2 .full) m).eq
 simp only[cellsN] at hI
 have hrow:=qM hb hL
 have hne:(L==(stk++[cur]).length)=false:=by simp at hL⊢;omega
 simp only[xX,List.map,go_sem,reduceCtorEq,G3,G0,G2,hne,hrow,cellsN]
 simp only[go_sem,reduceCtorEq,G0,G2,hI]
 rw[z6 rfl rfl,z8]
 exact⟨⟨_,rfl⟩,rfl⟩
theorem zbr (l:List Int) (x:AV) (hx:IsSl IsI 1 l x) (hl: ∀t∈l,t<d.types.length) (m:Mem) (L st:Nat) (hL:L≤m.stk.length) (hb:m.blk L 0 st=some (cellsN ty tx fs w0 w1 w2 w3 f)):
  Ok tab yV [x,.fn (.func zR) [] [.ptr L 0 st 0]] m (fun r=> ∃i,r= .int .i64 i∧(0≤i↔ ∃t∈l,isT d t [2]=false)):=by
 refine z6V tM ?_
 obtain⟨stk,cur,nx,live,fl⟩:=m
 simp only[yR,List.map,go_sem,reduceCtorEq,G3,G0,G2,hx.len]
 refine za (α:=Nat) (fun k σ=>(k≤l.length∧ ∀t∈l.take k,isT d t [2]=true)∧ ∃nz,heads [0,1,7,8] 0 σ=⟨tmps 19 [(0,x),(1,.fn (.func zR) [] [.ptr L 0 st 0]),(7,.int .i64 l.length),(8,.int .i64 k)],⟨stk++[cur],[],nz,[]::live,fl⟩⟩) (fun k=>l.length-k) 0 ?_ ?_
 ·refine⟨⟨w06 _,by simp⟩,?_⟩
  simp only[go_sem,reduceCtorEq,G0,G1]
  exact⟨_,rfl⟩
 ·rintro k σ ⟨⟨hk,hv⟩,nz,hσ⟩
  rw[hσ]
  clear hσ σ
  dsimp only at hk hv⊢
  by_cases h:k<l.length
  ·have e1:nth x k= .int .i64 l[k]:=hx.nth h
   have hsucc:=zd h hx.max
   have hC:=(zcV d f ty tx fs w0 w1 w2 w3 hy l[k] (hl _ (w04 h)) ⟨stk++[cur],[],nz,[]::live,fl⟩ L st (by simp at hL⊢;omega) (XG hb hL)).eq
   simp only[go_sem,reduceCtorEq,G0,G1,G2,w02,h,hx.at _ h,e1,hC]
   cases hq:isT d l[k] [2]
   ·simp only[go_sem,reduceCtorEq,G0,G2]
    rw[z6 rfl rfl,z8]
    exact⟨⟨_,rfl⟩,_,rfl,⟨fun _=>⟨_,w04 h,hq⟩,fun _=>by omega⟩⟩
   ·simp only[go_sem,reduceCtorEq,G0,G2,hsucc]
    refine⟨k+1,by omega,⟨h,fun t ht=> ?_⟩,_,rfl⟩
    rw[w0d h] at ht
    rcases w0a.1 ht with q|q
    ·exact hv t q
    ·rw[w16.1 q];exact hq
  ·have:k=l.length:=by omega
   subst this
   rw[w08] at hv
   simp only[go_sem,reduceCtorEq,G0,G1,G2,w02,h]
   rw[z6 rfl rfl,z8]
   exact⟨⟨_,rfl⟩,_,rfl,⟨fun h=>absurd h (by decide),fun⟨t,h1,h2⟩=>by rw[hv t h1] at h2;cases h2⟩⟩
theorem z6r (l:List Int) (x:AV) (hx:IsSl IsI 1 l x) (hl: ∀t∈l,t<d.types.length) (m:Mem) (L st:Nat) (hL:L≤m.stk.length) (hb:m.blk L 0 st=some (cellsN ty tx fs w0 w1 w2 w3 f)):
  Okv tab zU [x,.fn (.func zR) [] [.ptr L 0 st 0]] m (.bool (!l.all fun t=>isT d t [2])):=by
 refine ze ud ?_
 obtain⟨stk,cur,nx,live,fl⟩:=m
 simp only[yu,List.map,go_sem,reduceCtorEq,G3,G0,G2]
 refine(zbr d f ty tx fs w0 w1 w2 w3 hy l x hx hl _ L st (by simp at hL⊢;omega) (XG hb hL)).xv fun y n ⟨i,hy,hi⟩=> ?_
 subst hy
 simp only[go_sem,reduceCtorEq,G0,G2]
 rw[z6 rfl rfl,z8]
 refine⟨⟨_,rfl⟩,congrArg AV.bool ?_⟩
 rw[w3d,decide_eq_true_eq,Bool.not_eq_true',List.all_eq_false]
 refine Iff.trans hi ⟨fun⟨t,h1,h2⟩=>⟨t,h1,by simp[h2]⟩,fun⟨t,h1,h2⟩=>⟨t,h1,by simpa using h2⟩⟩
theorem z9h (l:List Int) (x:AV) (hx:IsSl IsI 1 l x) (hl: ∀t∈l,t<d.types.length) (m:Mem) (L st:Nat) (hL:L≤m.stk.length) (hb:m.blk L 0 st=some (cellsN ty tx fs w0 w1 w2 w3 f)):
  Okv tab vQ [x,.ptr L 0 st 0] m (.bool (l.all fun t=>isT d t [2])):=by
 refine ze Yp ?_
 obtain⟨stk,cur,nx,live,fl⟩:=m
 simp only[vL,List.map,go_sem,reduceCtorEq,G3,G0,G2,(z6r d f ty tx fs w0 w1 w2 w3 hy l x hx hl ⟨stk++[cur],[],nx,[]::live,fl⟩ L st (by simp at hL⊢;omega) (XG hb hL)).eq]
 rw[z6 rfl rfl,z8]
 exact⟨⟨_,rfl⟩,rfl⟩
end
def laterB (d:DImage) (g:DFunc):Bool:=decide (g.result<0)&&(decide (g.params=0)||(decide (g.params=1)&&isT d (fdA g.slots 0).typ [1,2,4]))
theorem z9i (d:DImage) (f:DFunc) (y:AV) (hy:NV d f y) (g:DFunc) (z:AV) (hz:IsFunc g z) (hg:SlotsP d g) (hgp:g.params≤g.slots.length) (m:Mem) (hf:m.floor≤m.stk.length+1):Okv tab uD [y,z] m (.bool (laterB d g)):=by
 have hy':=hy
 obtain⟨ty,tx,fs,w0,w1,w2,w3,rfl,h0,h1,h2,h3,h4,h5,h6⟩:=hy
 obtain⟨v0,v1,v2,v3,rfl,q0,q1,q2,q3⟩:=hz
 refine ze W2 ?_
 obtain⟨stk,cur,nx,live,fl⟩:=m
 simp only[uy,List.map,go_sem,reduceCtorEq,G3,G0,G2]
 unfold laterB
 by_cases hr:g.result<0
 ·by_cases hp0:g.params=0
  ·have e0:(g.params==0)=true:=by simpa using hp0
   simp only[go_sem,reduceCtorEq,G0,G2,hr,e0]
   rw[z6 rfl rfl,z8]
   exact⟨⟨_,rfl⟩,by simp[hp0]⟩
  ·have e0:(g.params==0)=false:=by simpa using hp0
   by_cases hp1:g.params=1
   ·have e1:(g.params==1)=true:=by simpa using hp1
    have hlen:0<g.slots.length:=by omega
    have hat:evIaddr 2 v0 (.int .i64 0)=some (.ro (nth v0 0).cells):=q0.at .i64 hlen
    have eg:nth v0 0= .agg [.str (fdA g.slots 0).name,.int .i64 (fdA g.slots 0).typ]:=q0.fdA hlen
    have ht:(fdA g.slots 0).typ<d.types.length:=by
     have h00:fdA g.slots 0=g.slots[0]:=z05 hlen
     rw[h00];exact(hg _ (w04 hlen)).2
    have hC:=fun nz=>(zbi d f ty tx fs w0 w1 w2 w3 hy' (fdA g.slots 0).typ ht ⟨stk++[cur],[⟨nx,cellsN ty tx fs w0 w1 w2 w3 f⟩,⟨nx+1,[.str g.name,.int .i64 g.params,.int .i64 g.result,v0,v1,v2,v3]⟩],nz,[]::live,fl⟩ (stk++[cur]).length nx (w09 _) (by simp[Mem.blk,Mem.row])).eq
    simp only[cellsN] at hC
    simp only[go_sem,reduceCtorEq,G0,G2,hr,e0,e1,hat,eg,hC]
    rw[z6 rfl rfl,z8]
    exact⟨⟨_,rfl⟩,by simp[hp1]⟩
   ·have e1:(g.params==1)=false:=by simpa using hp1
    simp only[go_sem,reduceCtorEq,G0,G2,hr,e0,e1]
    rw[z6 rfl rfl,z8]
    exact⟨⟨_,rfl⟩,by simp[hp0,hp1]⟩
 ·simp only[go_sem,reduceCtorEq,G0,G2,hr]
  rw[z6 rfl rfl,z8]
  exact⟨⟨_,rfl⟩,by simp⟩
theorem zbk (t:DTyp) (z:AV) (hz:IsTyp t z) (m:Mem):Okv tab vu [z] m (.bool (decide (t.kind∈[1,2,4]))):=by
 obtain⟨v,rfl,_⟩:=hz
 refine ze Ul ?_
 obtain⟨stk,cur,nx,live,fl⟩:=m
 simp only[tW,List.map,go_sem,reduceCtorEq,G3,G0,G2]
 repeat' (((first|refine zp ?_ ?_|refine zk ?_ ?_|refine zl ?_ ?_|refine zi ?_ ?_|refine zj ?_ ?_)<;>intro hq)<;>simp only[go_sem,reduceCtorEq,G0,G2,hq])
 all_goals
  rw[z6 rfl rfl,z8]
  refine⟨⟨_,rfl⟩,congrArg AV.bool ?_⟩
  simp only[beq_iff_eq,beq_eq_false_iff_ne,ne_eq] at*
  rw[w3d]
  simp[*]
theorem z6p (d:DImage) (y:AV) (hy:IsImage d y) (k:Nat) (hk:k<d.funcs.length) (hg:SlotsP d (fnA d.funcs k)) (hgp:(fnA d.funcs k).params≤(fnA d.funcs k).slots.length) (hgr: -1≤(fnA d.funcs k).result) (m:Mem) (hf:m.floor≤m.stk.length+1):Okv tab tv [y,.int .i64 k] m (.bool (laterB d (fnA d.funcs k))):=by
 obtain⟨ty,tx,fs,rfl,h0,h1,h2⟩:=hy
 obtain⟨v0,v1,v2,v3,ef,q0,q1,q2,q3⟩:=h2.fnA hk
 have hatg:=h2.at .i64 hk
 generalize fnA d.funcs k=g at*
 refine ze WS ?_
 obtain⟨stk,cur,nx,live,fl⟩:=m
 simp only[uP,List.map,go_sem,reduceCtorEq,G3,G0,G2,hatg,ef,q0.one,q1.one,q2.one,q3.one]
 unfold laterB
 by_cases hr:g.result<0
 ·have er:(g.result== -1)=true:=by rw[beq_iff_eq];omega
  by_cases hp0:g.params=0
  ·have e0:(g.params==0)=true:=by simpa using hp0
   simp only[go_sem,reduceCtorEq,G0,G2,er,e0]
   rw[z6 rfl rfl,z8]
   exact⟨⟨_,rfl⟩,by simp[hp0,hr]⟩
  ·have e0:(g.params==0)=false:=by simpa using hp0
   by_cases hp1:g.params=1
   ·have e1:(g.params==1)=true:=by simpa using hp1
    have hlen:0<g.slots.length:=by omega
    have hat:evIaddr 2 v0 (.int .i64 0)=some (.ro (nth v0 0).cells):=q0.at .i64 hlen
    have eg:nth v0 0= .agg [.str (fdA g.slots 0).name,.int .i64 (fdA g.slots 0).typ]:=q0.fdA hlen
    have h00:fdA g.slots 0=g.slots[0]:=z05 hlen
    have ht:0≤(fdA g.slots 0).typ∧(fdA g.slots 0).typ<d.types.length:=by rw[h00];exact hg _ (w04 hlen)
    generalize (fdA g.slots 0).typ=t at*
    obtain⟨q,rfl⟩: ∃q:Nat,t=q:=⟨t.toNat,by omega⟩
    have hq:q<d.types.length:=by omega
    obtain⟨u0,e2,e3⟩:=h0.tyA hq
    have hW:=fun m=>(zbk (tyA d.types q) _ ⟨u0,rfl,e3⟩ m).eq
    simp only[go_sem,reduceCtorEq,G3,G0,G2,er,e0,e1,hat,eg,h0.at _ hq,e2,hW]
    rw[z6 rfl rfl,z8]
    refine⟨⟨_,rfl⟩,congrArg AV.bool ?_⟩
    unfold isT kindI
    rw[if_neg (by omega)]
    simp[hp1,hr]
   ·have e1:(g.params==1)=false:=by simpa using hp1
    simp only[go_sem,reduceCtorEq,G0,G2,er,e0,e1]
    rw[z6 rfl rfl,z8]
    exact⟨⟨_,rfl⟩,by simp[hp0,hp1]⟩
 ·have er:(g.result== -1)=false:=by rw[beq_eq_false_iff_ne];omega
  simp only[go_sem,reduceCtorEq,G0,G2,er]
  rw[z6 rfl rfl,z8]
  exact⟨⟨_,rfl⟩,by simp[hr]⟩
theorem Tu (d:DImage) (y:AV) (hy:IsImage d y) (k:Nat) (hk:k<d.funcs.length) (s:Int) (m:Mem):Okv tab zt [y,.int .i64 k,.int .i64 s] m (.int .i64 (slotT (fnA d.funcs k) s)):=by
 obtain⟨ty,tx,fs,rfl,h0,h1,h2⟩:=hy
 obtain⟨v0,v1,v2,v3,ef,q0,q1,q2,q3⟩:=h2.fnA hk
 have hatg:=h2.at .i64 hk
 generalize fnA d.funcs k=g at*
 refine ze Uj ?_
 obtain⟨stk,cur,nx,live,fl⟩:=m
 simp only[tU,List.map,go_sem,reduceCtorEq,G3,G0,G2]
 by_cases h:0≤s∧s<g.slots.length
 ·obtain⟨j,rfl⟩: ∃j:Nat,s=j:=⟨s.toNat,by omega⟩
  have hj:j<g.slots.length:=by omega
  simp only[go_sem,reduceCtorEq,G0,G2,show¬((j:Int)<0) by omega,hatg,ef,q0.len,show¬((j:Int)≥g.slots.length) by omega,q0.at _ hj,q0.fdA hj]
  rw[z6 rfl rfl,z8]
  exact⟨⟨_,rfl⟩,by unfold slotT;rw[if_pos h]⟩
 ·by_cases hs:s<0
  ·simp only[go_sem,reduceCtorEq,G0,G2,hs]
   rw[z6 rfl rfl,z8]
   exact⟨⟨_,rfl⟩,by unfold slotT;rw[if_neg h]⟩
  ·simp only[go_sem,reduceCtorEq,G0,G2,hs,hatg,ef,q0.len,show s≥g.slots.length by omega]
   rw[z6 rfl rfl,z8]
   exact⟨⟨_,rfl⟩,by unfold slotT;rw[if_neg h]⟩
theorem z9k (l:List DTyp) (x:AV) (hx:IsSl IsTyp 4 l x) (hv:ValidT l) (hl:l.length≤100) (m:Mem) (hf:m.floor≤m.stk.length+1):
  ∃y1 y2 ts k,CALL tab x5 [x] m=some (.tup [y1,y2],{m with nx:=k,live:=pushToks ts m.live})∧Own IsN 1 y1 (szs (exts 1000000 l)) ts∧Own IsN 1 y2 (als (exts 1000000 l)) ts:=by
 suffices h:Does tab x5 [x] m fun r m'=> ∃y1 y2 ts k,r= .tup [y1,y2]∧m'={m with nx:=k,live:=pushToks ts m.live}∧Own IsN 1 y1 (szs (exts 1000000 l)) ts∧Own IsN 1 y2 (als (exts 1000000 l)) ts by
  obtain⟨z,e1,y1,y2,ts,k,e2,e3,e4⟩:=h
  exact⟨y1,y2,ts,k,by rw[e1,←e2,←e3],e4⟩
 refine yn V6 ?_ (w1c rfl)
 obtain⟨stk,cur,nx,live,fl⟩:=m
 dsimp only at hf
 simp only[tc,List.map,go_sem]
 refine za (α:=Nat) (fun i σ=>i≤l.length∧ ∃nz y1 y2 e,Own2 IsN 1 y1 (szs (exts 1000000 (l.take i))) IsN 1 y2 (als (exts 1000000 (l.take i))) e nz∧heads [0,4,5,6] 0 σ=⟨tmps 75 [(0,x),(4,y1),(5,y2),(6,.int .i64 i)],⟨stk++[cur],[],nz,e::live,fl⟩⟩) (fun i=>l.length-i) 0 ?_ ?_
 ·refine⟨w06 _,nx,.nils,.nils,[],.nil _ _,?_⟩
  simp only[go_sem,reduceCtorEq,G0,G1]
  rfl
 ·rintro i σ ⟨hi,nz,y1,y2,e,hO,hσ⟩
  rw[hσ]
  clear hσ σ
  dsimp only at hi⊢
  by_cases h:i<l.length
  ·have hfine:=hv i h
   obtain⟨v,e1,q1⟩:=hx.nth h
   have hat:=hx.at .i64 h
   have hsucc:=zd h hx.max
   have hAl:=uG 1000000 l i hi
   have hrs:=Zj 1000000 h
   have hgood:=TJ (far:=1000000) (by omega) hv i hi
   have hflen:=tR hfine
   have hlx:=hx.len
   generalize hout:exts 1000000 (l.take i)=A at*
   generalize ht:l[i]=t at*
   clear ht
   obtain⟨kind,elem,len,fields⟩:=t
   dsimp only at e1 q1 hflen
   simp only[go_sem,reduceCtorEq,G0,G1,G2,w02,h,hlx,hat,e1]
   by_cases k1:kind=1
   ·subst k1
    have hV:((1:Nat),(1:Nat))=ext1 1000000 A ⟨1,elem,len,fields⟩:=rfl
    simp only[go_sem,reduceCtorEq,G0,G2]
    refine hO.xv1 (zh · _ _ _) (zP (R:=IsN) (x:=1) rfl) (by simp[szs];omega) fun y1' n1 e1' hO1=> ?_
    simp only[go_sem,reduceCtorEq,G0,G2]
    refine hO1.xv2 (zh · _ _ _) (zP (R:=IsN) (x:=1) rfl) (by simp[als];omega) fun y2' n2 e2' hO2=> ?_
    simp only[go_sem,reduceCtorEq,G0,G2,hsucc]
    refine⟨i+1,by omega,h,n2,y1',y2',e2',?_,rfl⟩
    rw[hrs,←hV]
    simpa [szs,als] using hO2
   have k1':(kind==1)=false:=by simpa using k1
   by_cases k3:kind=3
   ·subst k3
    have hV:((16:Nat),(8:Nat))=ext1 1000000 A ⟨3,elem,len,fields⟩:=rfl
    simp only[go_sem,reduceCtorEq,G0,G2,k1']
    refine hO.xv1 (zh · _ _ _) (zP (R:=IsN) (x:=16) rfl) (by simp[szs];omega) fun y1' n1 e1' hO1=> ?_
    simp only[go_sem,reduceCtorEq,G0,G2]
    refine hO1.xv2 (zh · _ _ _) (zP (R:=IsN) (x:=8) rfl) (by simp[als];omega) fun y2' n2 e2' hO2=> ?_
    simp only[go_sem,reduceCtorEq,G0,G2,hsucc]
    refine⟨i+1,by omega,h,n2,y1',y2',e2',?_,rfl⟩
    rw[hrs,←hV]
    simpa [szs,als] using hO2
   have k3':(kind==3)=false:=by simpa using k3
   by_cases k7:kind=7
   ·subst k7
    have hV:((24:Nat),(8:Nat))=ext1 1000000 A ⟨7,elem,len,fields⟩:=rfl
    simp only[go_sem,reduceCtorEq,G0,G2,k1',k3']
    refine hO.xv1 (zh · _ _ _) (zP (R:=IsN) (x:=24) rfl) (by simp[szs];omega) fun y1' n1 e1' hO1=> ?_
    simp only[go_sem,reduceCtorEq,G0,G2]
    refine hO1.xv2 (zh · _ _ _) (zP (R:=IsN) (x:=8) rfl) (by simp[als];omega) fun y2' n2 e2' hO2=> ?_
    simp only[go_sem,reduceCtorEq,G0,G2,hsucc]
    refine⟨i+1,by omega,h,n2,y1',y2',e2',?_,rfl⟩
    rw[hrs,←hV]
    simpa [szs,als] using hO2
   have k7':(kind==7)=false:=by simpa using k7
   by_cases k6:kind=6
   ·subst k6
    have hel:=hflen.2.2.2.1 rfl
    have hle:=hflen.2.1 rfl
    have hj:elem.toNat<A.length:=by omega
    have hge:=hgood.get hj
    have hV:(min 1000000 (len.toNat*(A.getD elem.toNat (0,0)).1),(A.getD elem.toNat (0,0)).2)=ext1 1000000 A ⟨6,elem,len,fields⟩:=rfl
    have ht1:elem.toNat<(szs A).length:=by simpa [szs] using hj
    have ht2:elem.toNat<(als A).length:=by simpa [als] using hj
    have s1:nth y1 elem.toNat= .int .i64 ((szs A)[elem.toNat]:Nat):=hO.l.nth ht1
    have s2:nth y2 elem.toNat= .int .i64 ((als A)[elem.toNat]:Nat):=hO.r.nth ht2
    have a1:=hO.l.at .i64 ht1
    have a2:=hO.r.at .i64 ht2
    rw[w40 hel.1] at a1 a2
    rw[z5q hj] at s1
    rw[z9N hj] at s2
    generalize A.getD elem.toNat (0,0)=pr at*
    have hmul:len.toNat*pr.1≤16*1048576:=Nat.mul_le_mul (by omega) hge.1
    have ew:IntKind.i64.wrap (len*(pr.1:Int))=((len.toNat*pr.1:Nat):Int):=by
     have:len*(pr.1:Int)=((len.toNat*pr.1:Nat):Int):=by rw[Int.natCast_mul,w40 (by omega)]
     rw[this,zb (by omega) (by omega)]
    simp only[go_sem,reduceCtorEq,G0,G2,k1',k3',k7',hat,e1,a1,s1,a2,s2,ew,z5Q]
    refine hO.xv1 (zh · _ _ _) (zP (R:=IsN) (x:=min 1000000 (len.toNat*pr.1)) rfl) (by simp[szs];omega) fun y1' n1 e1' hO1=> ?_
    simp only[go_sem,reduceCtorEq,G0,G2]
    refine hO1.xv2 (zh · _ _ _) (zP (R:=IsN) (x:=pr.2) rfl) (by simp[als];omega) fun y2' n2 e2' hO2=> ?_
    simp only[go_sem,reduceCtorEq,G0,G2,hsucc]
    refine⟨i+1,by omega,h,n2,y1',y2',e2',?_,rfl⟩
    rw[hrs,←hV]
    simpa [szs,als] using hO2
   have k6':(kind==6)=false:=by simpa using k6
   by_cases k5:kind=5
   ·subst k5
    have hV:togEnd 1000000 A fields=ext1 1000000 A ⟨5,elem,len,fields⟩:=rfl
    obtain⟨yt,ts,kk,hcall,_⟩:=z7V A hgood y1 y2 (hO.l.sl (by simp[szs];omega)) (hO.r.sl (by simp[als];omega)) fields v q1 (by rw[hAl];exact hflen.2.2.2.2.2) (by omega) ⟨stk++[cur],[],nz,e::live,fl⟩
    have hnx:=zdT hcall (by simp;omega)
    simp only[go_sem,reduceCtorEq,G0,G2,k1',k3',k7',k6',hat,e1,hcall]
    have hO:=hO.mono (e':=ts++e) (fun t ht=>w4e _ ht) hnx
    generalize togEnd 1000000 A fields=pr at*
    refine hO.xv1 (zh · _ _ _) (zP (R:=IsN) (x:=pr.1) rfl) (by simp[szs];omega) fun y1' n1 e1' hO1=> ?_
    simp only[go_sem,reduceCtorEq,G0,G2]
    refine hO1.xv2 (zh · _ _ _) (zP (R:=IsN) (x:=pr.2) rfl) (by simp[als];omega) fun y2' n2 e2' hO2=> ?_
    simp only[go_sem,reduceCtorEq,G0,G2,hsucc]
    refine⟨i+1,by omega,h,n2,y1',y2',e2',?_,rfl⟩
    rw[hrs,←hV]
    simpa [szs,als] using hO2
   have k5':(kind==5)=false:=by simpa using k5
   have hV:((8:Nat),(8:Nat))=ext1 1000000 A ⟨kind,elem,len,fields⟩:=by unfold ext1;simp only[k1,k3,k7,k6,k5,if_false]
   simp only[go_sem,reduceCtorEq,G0,G2,k1',k3',k7',k6',k5']
   refine hO.xv1 (zh · _ _ _) (zP (R:=IsN) (x:=8) rfl) (by simp[szs];omega) fun y1' n1 e1' hO1=> ?_
   simp only[go_sem,reduceCtorEq,G0,G2]
   refine hO1.xv2 (zh · _ _ _) (zP (R:=IsN) (x:=8) rfl) (by simp[als];omega) fun y2' n2 e2' hO2=> ?_
   simp only[go_sem,reduceCtorEq,G0,G2,hsucc]
   refine⟨i+1,by omega,h,n2,y1',y2',e2',?_,rfl⟩
   rw[hrs,←hV]
   simpa [szs,als] using hO2
  ·have:i=l.length:=by omega
   subst this
   rw[w08] at hO
   simp only[go_sem,reduceCtorEq,G0,G1,G2,w02,h,hx.len]
   rw[Xp (by simp only[AV.refs,refsAny,hO.l.refs,hO.r.refs];rfl),z8]
   refine⟨y1,y2,_,_,rfl,rfl,hO.l.filter.mono ?_,hO.r.filter.mono ?_⟩
   ·intro t ht
    simp only[w55,AV.toks,toksAll,w1f,List.contains_iff_mem,w0a] at ht⊢
    exact⟨ht.1,.inl ht.2⟩
   ·intro t ht
    simp only[w55,AV.toks,toksAll,w1f,List.contains_iff_mem,w0a] at ht⊢
    exact⟨ht.1,.inr ht.2⟩
def agree (a b:Nat):Prop:=a=b∨(256<a∧256<b)
def AgL (A B:List (Nat×Nat)):Prop:=A.length=B.length∧ ∀j,agree (A.getD j (0,0)).1 (B.getD j (0,0)).1∧(A.getD j (0,0)).2=(B.getD j (0,0)).2
theorem z0S {f1 f2 x y:Nat} (h1:256<f1) (h2:256<f2) (h:agree x y):agree (min f1 x) (min f2 y):=by unfold agree at*;omega
theorem z7R {x y a:Nat} (ha:is18 a) (h:agree x y):agree (up x a) (up y a):=by
 rcases h with rfl|⟨h1,h2⟩
 ·exact .inl rfl
 ·have:=z1X (n:=x) ha;have:=z1X (n:=y) ha;exact .inr (by omega)
theorem zb8 {a b c d:Nat} (h:agree a b) (k:agree c d):agree (a+c) (b+d):=by unfold agree at*;omega
theorem z4d {f1 f2:Nat} (h1:256<f1) (h1':f1≤1048576) (h2:256<f2) {A B:List (Nat×Nat)} (hg:GoodP A) (h:AgL A B) {fs:List DField} (hf: ∀f∈fs,0≤f.typ∧f.typ<A.length): ∀k,k≤fs.length→
  agree (tog f1 A (fs.take k)).2.1 (tog f2 B (fs.take k)).2.1∧(tog f1 A (fs.take k)).2.2=(tog f2 B (fs.take k)).2.2
 |0,_=>by simp[tog,agree]
 |k+1,hk=>by
  obtain⟨e1,e2⟩:=z4d h1 h1' h2 hg h hf k (by omega)
  obtain⟨_,_,g3⟩:=X0 h1' hg hf k (by omega)
  have hfk:=hf _ (w04 (show k<fs.length by omega))
  have hgk:=hg.get (j:=fs[k].typ.toNat) (by omega)
  have hj:=h.2 fs[k].typ.toNat
  rw[Uh f1 A (show k<fs.length by omega),Uh f2 B (show k<fs.length by omega)]
  simp only[togStep]
  rw[←hj.2]
  exact⟨z0S h1 h2 (zb8 (z7R hgk.2 e1) hj.1),by rw[e2]⟩
theorem z8J {f1 f2:Nat} (h1:256<f1) (h1':f1≤1048576) (h2:256<f2) {A B:List (Nat×Nat)} (hg:GoodP A) (h:AgL A B) {n i:Nat} {t:DTyp} (hf:FineT n i t) (hi:A.length=i):
  agree (ext1 f1 A t).1 (ext1 f2 B t).1∧(ext1 f1 A t).2=(ext1 f2 B t).2:=by
 have hl:=tR hf
 unfold ext1
 split
 ·simp[agree]
 ·split
  ·simp[agree]
  ·split
   ·simp[agree]
   ·split
    ·rename_i h6
     have hj:=h.2 t.elem.toNat
     refine⟨z0S h1 h2 ?_,hj.2⟩
     have hlen:=(hl.2.1 h6).1
     rcases hj.1 with e|⟨e,e'⟩
     ·rw[e];exact .inl rfl
     ·have m1:=Nat.mul_le_mul (show 1≤t.len.toNat by omega) (w09 (A.getD t.elem.toNat (0,0)).1)
      have m2:=Nat.mul_le_mul (show 1≤t.len.toNat by omega) (w09 (B.getD t.elem.toNat (0,0)).1)
      exact .inr (by omega)
    ·split
     ·have hfs: ∀f∈t.fields,0≤f.typ∧f.typ<A.length:=by rw[hi];exact hl.2.2.2.2.2
      have:=z4d h1 h1' h2 hg h hfs t.fields.length (w09 _)
      have hgd:=X0 h1' hg hfs t.fields.length (w09 _)
      rw[w08] at this hgd
      simp only[togEnd]
      rw[←this.2]
      exact⟨z0S h1 h2 (z7R hgd.2.2 this.1),rfl⟩
     ·simp[agree]
theorem Qu {f1 f2:Nat} (h1:256<f1) (h1':f1≤1048576) (h2:256<f2) {l:List DTyp} (hv:ValidT l): ∀i,i≤l.length→AgL (exts f1 (l.take i)) (exts f2 (l.take i))
 |0,_=>by simp[exts,AgL,agree]
 |i+1,hi=>by
  have ih:=Qu h1 h1' h2 hv i (by omega)
  have la:=uG f1 l i (by omega)
  have lb:=uG f2 l i (by omega)
  have he:=z8J h1 h1' h2 (TJ h1' hv i (by omega)) ih (hv i (by omega)) la
  rw[Zj f1 (show i<l.length by omega),Zj f2 (show i<l.length by omega)]
  refine⟨by simp[la,lb],fun j=> ?_⟩
  by_cases hj:j<i
  ·rw[Tz (by omega),Tz (by omega)];exact ih.2 j
  ·by_cases hj2:j=i
   ·subst hj2
    simp only[w00]
    rw[w15 (by omega),w15 (by omega),la,lb]
    simpa using he
   ·simp only[w00]
    rw[w18 (by simp;omega),w18 (by simp;omega)]
    simp[agree]
def FitsP (l:List DTyp):Prop:= ∀i,i<l.length→((exts 1000000 l).getD i (0,0)).1≤256
theorem z7y {l:List DTyp} (hv:ValidT l) (i:Nat):((exts 1048576 l).getD i (0,0)).1≤256↔((exts 1000000 l).getD i (0,0)).1≤256:=by
 have:=(Qu (f1:=1048576) (f2:=1000000) (by omega) (w09 _) (by omega) hv l.length (w09 _)).2 i
 rw[w08] at this
 unfold agree at this;omega
theorem z7g {m0:Mem} {stk:List (List Blk)} {cur c':List Blk} {nx' fl':Nat} {own:List Nat} {live':List (List Nat)} {k st off len:Nat} {a:Int}:
  ∃bs:List Blk,leave m0 ⟨stk++[cur],c',nx',own::live',fl'⟩ (.tup [.arr (stk++[cur]).length k st off len,.int .i64 a])=some (.tup [.arr stk.length (k+cur.length) st off len,.int .i64 a],⟨stk,cur++bs,nx',live',m0.floor⟩)∧
   ∀ws,c'[k]? =some ⟨st,prs ws⟩→bs[k]? =some ⟨st,prs ws⟩:=by
 have e:own.filter (fun _=>false)=[]:=by simp
 refine⟨c'.map fun b=>⟨b.st,shiftAll (stk++[cur]).length ((stk++[cur]).length-1) cur.length b.cs⟩,?_,?_⟩
 ·unfold leave
  simp only[w51,w48,Option.some_or,AV.refs,refsAny,beq_self_eq_true,Bool.true_or,if_true,AV.toks,toksAll,w1f,List.contains_nil,e,pushToks,w52,AV.shift,shiftAll]
  simp
 ·intro ws h
  rw[w17,h,w0e,z4i]
theorem z8g {ws:List (Nat×Nat)} {j:Nat} (h:j<ws.length):takeV false 1 ((prs ws).drop (j*2))=some (.int .i64 ((ws.getD j (0,0)).1:Int)):=by rw[QO ws j h,z23]
theorem zeD {ws:List (Nat×Nat)} {j:Nat} (h:j<ws.length):takeV false 1 ((prs ws).drop (j*2+1))=some (.int .i64 ((ws.getD j (0,0)).2:Int)):=by
 rw[←List.drop_drop,QO ws j h];simp[takeV]
theorem z81 (l:List DTyp) (x:AV) (hx:IsSl IsTyp 4 l x) (hw:WfTypes l) (hc:CheckP l) (i:Nat) (hi:i<l.length) (hs:((exts 1048576 l).getD i (0,0)).1≤256) (stk:List (List Blk)) (cur:List Blk) (nx fl:Nat) (live:List (List Nat)):
  ∃bs j st k,CALL tab qu [x,.int .i64 i] ⟨stk,cur,nx,live,fl⟩=some (.tup [.arr stk.length (cur.length+j) st 0 l.length,.int .i64 0],⟨stk,cur++bs,k,live,fl⟩)∧bs[j]? =some ⟨st,prs (exts 1048576 l)⟩:=by
 suffices h:Does tab qu [x,.int .i64 i] ⟨stk,cur,nx,live,fl⟩ fun v m'=> ∃bs j st k,v= .tup [.arr stk.length (cur.length+j) st 0 l.length,.int .i64 0]∧m'=⟨stk,cur++bs,k,live,fl⟩∧bs[j]? =some ⟨st,prs (exts 1048576 l)⟩ by
  obtain⟨z,h1,bs,j,st,k,h2,h3,h4⟩:=h
  exact⟨bs,j,st,k,by rw[h1,←h2,←h3],h4⟩
 refine yn Uy ?_ (w1c rfl)
 have hC:=Yd l x hx hw
 rw[z0L hc] at hC
 have hl:=hc.1
 simp only[jA,List.map,go_sem,reduceCtorEq,G3,G0,G2,(hC _).eq,show((0:Int) !=0)=false from rfl,hx.len,show¬((i:Int)<0) by omega,show¬((i:Int)≥l.length) by omega]
 obtain⟨bs,j,st,k,hcall,hbs⟩:=YY l x hx hc.2.1 (by omega) (stk++[cur]) [] (callNx tab uJ [x] ⟨stk++[cur],[],nx,[]::live,fl⟩) fl ([]::live)
 have hel:(exts 1048576 l).length=l.length:=by have:=uG 1048576 l l.length (w09 _);rwa [w08] at this
 have hix:=qF .i64 (p:=(i:Int)) (n:=l.length) (by omega)
 rw[w1b] at hix
 simp only[go_sem,reduceCtorEq,G0,G2,hcall,zc,hix,hbs,z8g (ws:=exts 1048576 l) (j:=i) (by omega),show¬((((exts 1048576 l).getD i (0,0)).1:Nat):Int)>256 by omega]
 obtain⟨bs',hbs',hg⟩:=z7g (m0:=⟨stk,cur,nx,live,fl⟩) (stk:=stk) (cur:=cur) (c':=bs) (nx':=k) (own:=[]) (live':=live) (fl':=fl) (k:=j) (st:=st) (off:=0) (len:=l.length) (a:=0)
 rw[hbs',z8]
 exact⟨bs',j,st,k,by rw[Nat.add_comm],rfl,hg _ hbs⟩
theorem z6k (l:List DTyp) (x:AV) (hx:IsSl IsTyp 4 l x) (hw:WfTypes l) (hc:CheckP l) (i:Nat) (hi:i<l.length) (hs: ¬((exts 1048576 l).getD i (0,0)).1≤256) (m:Mem):
  Okv tab qu [x,.int .i64 i] m (.tup [.nils,.int .i64 16]):=by
 refine ze Uy ?_
 obtain⟨stk,cur,nx,live,fl⟩:=m
 have hC:=Yd l x hx hw
 rw[z0L hc] at hC
 have hl:=hc.1
 simp only[jA,List.map,go_sem,reduceCtorEq,G3,G0,G2,(hC _).eq,show((0:Int) !=0)=false from rfl,hx.len,show¬((i:Int)<0) by omega,show¬((i:Int)≥l.length) by omega]
 obtain⟨bs,j,st,k,hcall,hbs⟩:=YY l x hx hc.2.1 (by omega) (stk++[cur]) [] (callNx tab uJ [x] ⟨stk++[cur],[],nx,[]::live,fl⟩) fl ([]::live)
 have hel:(exts 1048576 l).length=l.length:=by have:=uG 1048576 l l.length (w09 _);rwa [w08] at this
 have hix:=qF .i64 (p:=(i:Int)) (n:=l.length) (by omega)
 rw[w1b] at hix
 simp only[go_sem,reduceCtorEq,G0,G2,hcall,zc,hix,hbs,z8g (ws:=exts 1048576 l) (j:=i) (by omega),show((((exts 1048576 l).getD i (0,0)).1:Nat):Int)>256 by omega]
 rw[z6 rfl rfl,z8]
 exact⟨⟨_,rfl⟩,rfl⟩
theorem U9 (l:List DTyp) (x:AV) (hx:IsSl IsTyp 4 l x) (hw:WfTypes l) (hc:CheckP l) (i:Nat) (hi:i<l.length) (hs:((exts 1048576 l).getD i (0,0)).1≤256) (m:Mem):
  Okv tab qP [x,.int .i64 i] m (.tup [.int .i64 (((exts 1048576 l).getD i (0,0)).1:Nat),.int .i64 (((exts 1048576 l).getD i (0,0)).2:Nat),.int .i64 0]):=by
 obtain⟨stk,cur,nx,live,fl⟩:=m
 refine ze Q2 ?_
 obtain⟨bs,j,st,k,hcall,hbs⟩:=z81 l x hx hw hc i hi hs (stk++[cur]) [] nx fl ([]::live)
 have hel:(exts 1048576 l).length=l.length:=by have:=uG 1048576 l l.length (w09 _);rwa [w08] at this
 have hix:=qF .i64 (p:=(i:Int)) (n:=l.length) (by omega)
 rw[w1b] at hix
 simp only[km,List.map,go_sem,reduceCtorEq,G3,G0,G2,hcall,show((0:Int) !=0)=false from rfl,zc,hix,hbs,z8g (ws:=exts 1048576 l) (j:=i) (by omega),zeD (ws:=exts 1048576 l) (j:=i) (by omega)]
 rw[z6 rfl rfl,z8]
 exact⟨⟨_,rfl⟩,rfl⟩
def sizeErr (l:List DTyp) (i:Nat):Int:=if((exts 1048576 l).getD i (0,0)).1≤256 then 0 else 16
theorem z3s (l:List DTyp) (x:AV) (hx:IsSl IsTyp 4 l x) (hw:WfTypes l) (hc:CheckP l) (i:Nat) (hi:i<l.length) (m:Mem):
  ∃a b,Okv tab qP [x,.int .i64 i] m (.tup [a,b,.int .i64 (sizeErr l i)]):=by
 obtain⟨stk,cur,nx,live,fl⟩:=m
 by_cases hs:((exts 1048576 l).getD i (0,0)).1≤256
 ·exact⟨_,_,by have:=U9 l x hx hw hc i hi hs ⟨stk,cur,nx,live,fl⟩;rwa [show sizeErr l i=0 by unfold sizeErr;rw[if_pos hs]]⟩
 ·refine⟨.int .i64 0,.int .i64 0,?_⟩
  refine ze Q2 ?_
  simp only[km,List.map,go_sem,reduceCtorEq,G3,G0,G2,(z6k l x hx hw hc i hi hs _).eq,show((16:Int) !=0)=true from rfl]
  rw[z6 rfl rfl,z8]
  exact⟨⟨_,rfl⟩,by unfold sizeErr;rw[if_neg hs]⟩
def up8 (n:Nat):Nat:=(n+7)/8*8
def szT (l:List DTyp) (t:Int):Nat:=((exts 1000000 l).getD t.toNat (0,0)).1
def sumK (l:List DTyp) (ts:List Int) (k:Nat):Nat:=((ts.take k).map fun t=>up8 (szT l t)).sum
def sumB (l:List DTyp) (ts:List Int):Nat:=sumK l ts ts.length
theorem z0y {l:List DTyp} {ts:List Int} {k:Nat} (h:k<ts.length):sumK l ts (k+1)=sumK l ts k+up8 (szT l ts[k]):=by
 unfold sumK;rw[w0d h,w2d,List.sum_append];simp
structure TypP (l:List DTyp):Prop where
 w:WfTypes l
 c:CheckP l
 f:FitsP l
theorem TypP.le {l:List DTyp} (h:TypP l) {k:Nat} (hk:k<l.length):szT l k≤256:=h.f k hk
theorem TypP.same {l:List DTyp} (h:TypP l) {k:Nat} (hk:k<l.length):((exts 1048576 l).getD k (0,0)).1=szT l k:=by
 have:=(Qu (f1:=1048576) (f2:=1000000) (by omega) (w09 _) (by omega) h.c.2.1 l.length (w09 _)).2 k
 rw[w08] at this
 have hle:=h.le hk
 unfold agree at this
 unfold szT at hle⊢
 rw[w1b] at hle⊢
 omega
theorem andNot7: ∀n:Fin 300,(BitVec.ofNat 64 n.val&&& ~~~(BitVec.ofNat 64 7)).toNat=n.val/8*8:=by decide
theorem zaL {n:Nat} (h:n<300):evBits .andNot .i64 (n:Int) 7=some (.int .i64 ((n/8*8:Nat):Int)):=by
 unfold evBits
 show some (AV.int .i64 (IntKind.i64.wrap (((BitVec.ofInt 64 (n:Int)&&& ~~~(BitVec.ofInt 64 (7:Int)):BitVec 64).toNat:Nat):Int)))=_
 have e1:BitVec.ofInt 64 (n:Int)=BitVec.ofNat 64 n:=BitVec.ofInt_natCast ..
 have e2:BitVec.ofInt 64 (7:Int)=BitVec.ofNat 64 7:=by decide
 rw[e1,e2,andNot7 ⟨n,h⟩,zb (by omega) (by omega)]
theorem zcZ (n:Nat) (h:n≤256) (m:Mem):Okv tab ZU [.int .i64 n] m (.tup [.int .i64 (up8 n:Nat),.int .i64 0]):=by
 refine ze z27 ?_
 obtain⟨stk,cur,nx,live,fl⟩:=m
 have hw:IntKind.i64.wrap ((n:Int)+7)=((n+7:Nat):Int):=by rw[zb (by omega) (by omega)];omega
 simp only[ZM,List.map,go_sem,reduceCtorEq,G0,G2,show¬((n:Int)<0) by omega,show¬((n:Int)>1073741824) by omega,hw,zaL (n:=n+7) (by omega)]
 rw[z6 rfl rfl,z8]
 exact⟨⟨_,rfl⟩,rfl⟩
theorem za2 (n:Nat) (h:n≤256) (m:Mem):Okv tab ua [.int .i64 n] m (.int .i64 (up8 n:Nat)):=by
 refine ze X4 ?_
 obtain⟨stk,cur,nx,live,fl⟩:=m
 have hU:=fun m=>(zer (n:=n) (a:=8) (.inr rfl) (by omega) m).eq
 have e8:(((8:Nat):Int))=8:=rfl
 rw[e8] at hU
 simp only[u4,List.map,go_sem,reduceCtorEq,G0,G2,hU]
 rw[z6 rfl rfl,z8]
 refine⟨⟨_,rfl⟩,?_⟩
 unfold Go.Proofs.W.up up8
 rw[show n+8-1=n+7 by omega]
def InT (l:List DTyp) (ts:List Int):Prop:= ∀t∈ts,0≤t∧t<l.length
theorem QI {l:List DTyp} {ts:List Int} (hl:TypP l) (h:InT l ts): ∀k,k≤ts.length→sumK l ts k≤264*k
 |0,_=>by simp[sumK]
 |k+1,hk=>by
  have ih:=QI hl h k (by omega)
  rw[z0y (by omega)]
  obtain⟨q,hq⟩: ∃q:Nat,ts[k]=q:=⟨(ts[k]).toNat,by have:=h _ (w04 (show k<ts.length by omega));omega⟩
  have hql:q<l.length:=by have:=h _ (w04 (show k<ts.length by omega));omega
  rw[hq]
  have:=hl.le hql
  unfold up8;omega
theorem QD (d:DImage) (hT:TypP d.types) (f:DFunc) (y:AV) (hy:NV d f y) (ts:List Int) (x:AV) (hx:IsSl IsI 1 ts x) (hin:InT d.types ts) (hlen:ts.length≤100000) (m:Mem):Okv tab xK [y,x] m (.tup [.int .i64 (sumB d.types ts:Nat),.int .i64 0]):=by
 obtain⟨ty,tx,fs,w0,w1,w2,w3,rfl,h0,h1,h2,h3,h4,h5,h6⟩:=hy
 refine ze W3 ?_
 obtain⟨stk,cur,nx,live,fl⟩:=m
 simp only[uz,List.map,go_sem,reduceCtorEq,G3,G0,G2,hx.len]
 refine za (α:=Nat) (fun k σ=>k≤ts.length∧ ∃nz,heads [2,6,12,13,14] 1 σ=⟨tmps 43 [(2,.ptr (stk++[cur]).length 0 nx 0),(6,.int .i64 (sumK d.types ts k:Nat)),(12,x),(13,.int .i64 ts.length),(14,.int .i64 k)],⟨stk++[cur],[⟨nx,[ty,tx,fs,.str f.name,.int .i64 f.params,.int .i64 f.result,w0,w1,w2,w3]⟩],nz,[]::live,fl⟩⟩) (fun k=>ts.length-k) 0 ?_ ?_
 ·refine⟨w06 _,?_⟩
  simp only[go_sem,reduceCtorEq,G0,G1]
  exact⟨_,rfl⟩
 ·rintro k σ ⟨hk,nz,hσ⟩
  rw[hσ]
  clear hσ σ
  dsimp only at hk⊢
  by_cases h:k<ts.length
  ·have e1:nth x k= .int .i64 ts[k]:=hx.nth h
   have hsucc:=zd h hx.max
   have hss:=z0y (l:=d.types) h
   have hb:=hin _ (w04 h)
   have hat:=hx.at .i64 h
   have hs1:=QI hT hin k hk
   generalize ts[k]=t at*
   obtain⟨q,rfl⟩: ∃q:Nat,t=q:=⟨t.toNat,by omega⟩
   have hq:q<d.types.length:=by omega
   have hle:=hT.le hq
   have hS:=fun m=>(U9 d.types ty h0 hT.w hT.c q hq (by rw[hT.same hq];exact hle) m).eq
   rw[hT.same hq] at hS
   have hw:IntKind.i64.wrap ((sumK d.types ts k:Nat)+(up8 (szT d.types q):Nat):Int)=((sumK d.types ts k+up8 (szT d.types q):Nat):Int):=by
    unfold up8
    rw[zb (by omega) (by omega)];omega
   simp only[go_sem,G0,G1,G2,w02,h,hat,e1,hS,show((0:Int) !=0)=false from rfl,(zcZ _ hle _).eq,hw,hsucc]
   refine⟨k+1,by omega,h,?_⟩
   rw[hss]
   exact⟨_,rfl⟩
  ·have:k=ts.length:=by omega
   subst this
   simp only[go_sem,G0,G1,G2,w02,h]
   rw[z6 rfl rfl,z8]
   exact⟨⟨_,rfl⟩,rfl⟩
theorem zez {l:List DTyp} (h:TypP l) {k:Nat} (hk:k<l.length):k<(szs (exts 1000000 l)).length∧ ∀hk',(szs (exts 1000000 l))[k]'hk'=szT l k:=by
 have hel:(exts 1000000 l).length=l.length:=by have:=uG 1000000 l l.length (w09 _);rwa [w08] at this
 have hk2:k<(szs (exts 1000000 l)).length:=by unfold szs;rw[w29,hel];exact hk
 refine⟨hk2,fun hk'=> ?_⟩
 unfold szT
 rw[w1b]
 simp only[szs,List.getElem_map,w00,w11 (show k<(exts 1000000 l).length by rw[hel];exact hk),w2a]
theorem z1v (d:DImage) (hT:TypP d.types) (y:AV) (hy:IsImage d y) (ts:List Int) (x:AV) (hx:IsSl IsI 1 ts x) (hin:InT d.types ts) (hlen:ts.length≤100000) (m:Mem) (hf:m.floor≤m.stk.length+1):Okv tab yc [y,x] m (.int .i64 (sumB d.types ts:Nat)):=by
 obtain⟨ty,tx,fs,rfl,h0,h1,h2⟩:=hy
 refine ze WV ?_
 obtain⟨stk,cur,nx,live,fl⟩:=m
 dsimp only at hf
 have hf':fl≤(stk++[cur]).length+1:=by simp;omega
 obtain⟨z1,z2,t2,k2,hcall,ho1,ho2⟩:=z9k d.types ty h0 hT.c.2.1 (by have:=hT.c.1;omega) ⟨stk++[cur],[⟨nx,[ty,tx,fs]⟩],nx+1,[]::live,fl⟩ hf'
 have hel:(exts 1000000 d.types).length=d.types.length:=by have:=uG 1000000 d.types d.types.length (w09 _);rwa [w08] at this
 have hz1:=ho1.sl (by unfold szs;rw[w29,hel];exact h0.max)
 have hlive: ∃e,pushToks t2 ([]::live)=e::live:=by cases t2<;>exact⟨_,rfl⟩
 obtain⟨e,he⟩:=hlive
 dsimp only at hcall
 rw[he] at hcall
 simp only[uS,List.map,go_sem,reduceCtorEq,G3,G0,G2,hcall]
 refine za (α:=Nat) (fun k σ=>k≤ts.length∧ ∃nz,heads [1,5,7,8] 1 σ=⟨tmps 32 [(1,x),(5,z1),(7,.int .i64 (sumK d.types ts k:Nat)),(8,.int .i64 k)],⟨stk++[cur],[⟨nx,[ty,tx,fs]⟩],nz,e::live,fl⟩⟩) (fun k=>ts.length-k) 0 ?_ ?_
 ·refine⟨w06 _,?_⟩
  simp only[go_sem,reduceCtorEq,G0,G1]
  exact⟨_,rfl⟩
 ·rintro k σ ⟨hk,nz,hσ⟩
  rw[hσ]
  clear hσ σ
  dsimp only at hk⊢
  by_cases h:k<ts.length
  ·have e1:nth x k= .int .i64 ts[k]:=hx.nth h
   have hsucc:=zd h hx.max
   have hss:=z0y (l:=d.types) h
   have hb:=hin _ (w04 h)
   have hat:=hx.at .i64 h
   have hs1:=QI hT hin k hk
   generalize ts[k]=t at*
   obtain⟨q,rfl⟩: ∃q:Nat,t=q:=⟨t.toNat,by omega⟩
   have hq:q<d.types.length:=by omega
   have hle:=hT.le hq
   obtain⟨hq2,hq3⟩:=zez hT hq
   have e2:nth z1 q= .int .i64 ((szT d.types q:Nat):Int):=by have:=hz1.nth hq2;rw[hq3] at this;exact this
   have hw:IntKind.i64.wrap ((sumK d.types ts k:Nat)+(up8 (szT d.types q):Nat):Int)=((sumK d.types ts k+up8 (szT d.types q):Nat):Int):=by
    unfold up8
    rw[zb (by omega) (by omega)];omega
   simp only[go_sem,G0,G1,G2,w02,h,hx.len,hat,e1,hz1.at .i64 hq2,e2,(za2 _ hle _).eq,hw,hsucc]
   refine⟨k+1,by omega,h,?_⟩
   rw[hss]
   exact⟨_,rfl⟩
  ·have:k=ts.length:=by omega
   subst this
   simp only[go_sem,G0,G1,G2,w02,h,hx.len]
   rw[z6 rfl rfl,z8]
   exact⟨⟨_,rfl⟩,rfl⟩
theorem z2q {x:DInstr} (h:InstrP x):x.op=1∨x.op=2∨x.op=3∨x.op=4∨x.op=5∨x.op=6∨x.op=7∨x.op=8∨x.op=9∨x.op=10∨x.op=11∨x.op=12∨x.op=13∨x.op=14∨x.op=15∨x.op=16∨x.op=17∨x.op=18∨x.op=19∨x.op=20∨x.op=21∨x.op=22∨x.op=23∨x.op=24∨x.op=25∨x.op=26∨x.op=27∨x.op=28∨x.op=29∨x.op=30∨x.op=31∨x.op=32∨x.op=33∨x.op=34:=by
 obtain⟨a,b,c,hs,_⟩:=h
 by_cases hq:1≤x.op∧x.op≤34
 ·omega
 ·exfalso
  unfold shp at hs
  repeat rw[if_neg (by omega)] at hs
  cases hs
def typP (d:DImage) (f:DFunc) (x:DInstr):Bool:=if x.op=1∨x.op=32 then([slotT f x.a].all fun t=>isT d t [2]) else if x.op=2 then(isT d (slotT f x.a) [3]) else if x.op=3∨x.op=23 then(isT d (slotT f x.a) [1]) else if x.op=5 then(slotT f x.a==slotT f x.b) else if x.op=6∨x.op=7∨x.op=8∨x.op=9 then([slotT f x.a,slotT f x.b,slotT f x.c].all fun t=>isT d t [2]) else if x.op=10 then(isT d (slotT f x.a) [1]&&[slotT f x.b,slotT f x.c].all fun t=>isT d t [2]) else if x.op=11 then((isT d (slotT f x.a) [1]&&(slotT f x.b==slotT f x.c))&&isT d (slotT f x.b) [2,1,4]) else if x.op=12 then(isT d (slotT f x.a) [1]&&isT d (slotT f x.b) [1]) else if x.op=13 then(memB d (slotT f x.b) x.c (slotT f x.a)) else if x.op=14 then(memB d (slotT f x.a) x.b (slotT f x.c)) else if x.op=15 then(isT d (slotT f x.a) [4]) else if x.op=16 then(isT d (slotT f x.b) [4]&&decide ((tyA d.types (slotT f x.b)).elem=slotT f x.a)) else if x.op=17 then(isT d (slotT f x.a) [4]&&decide ((tyA d.types (slotT f x.a)).elem=slotT f x.b)) else if x.op=18 then(isT d (slotT f x.a) [7]&&[slotT f x.b].all fun t=>isT d t [2]) else if x.op=19 then((isT d (slotT f x.b) [7,6]&&decide ((tyA d.types (slotT f x.b)).elem=slotT f x.a))&&[slotT f x.c].all fun t=>isT d t [2]) else if x.op=20 then((isT d (slotT f x.a) [7,6]&&decide ((tyA d.types (slotT f x.a)).elem=slotT f x.c))&&[slotT f x.b].all fun t=>isT d t [2]) else if x.op=21 then(([slotT f x.a].all fun t=>isT d t [2])&&isT d (slotT f x.b) [3,7,6]) else if x.op=25 then(decide (x.a<0)||((fnA d.funcs x.b.toNat).result==slotT f x.a)) else if x.op=26∨x.op=27 then(laterB d (fnA d.funcs x.a.toNat)) else if x.op=28 then(isT d (slotT f x.a) [2,1,3]) else if x.op=29∨x.op=33 then(isT d (slotT f x.a) [1]&&[slotT f x.b].all fun t=>isT d t [2]) else if x.op=34 then(decide (x.a<0)||(f.result==slotT f x.a)) else true
def typR (d:DImage) (f:DFunc) (x:DInstr):Bool:=if x.op=1∨x.op=32 then(kindI d.types (slotT f x.a)==2) else if x.op=2 then(kindI d.types (slotT f x.a)==3) else if x.op=3∨x.op=23 then(kindI d.types (slotT f x.a)==1) else if x.op=5 then(slotT f x.a==slotT f x.b) else if x.op=6∨x.op=7∨x.op=8∨x.op=9 then((kindI d.types (slotT f x.a)==2&&kindI d.types (slotT f x.b)==2)&&kindI d.types (slotT f x.c)==2) else if x.op=10 then((kindI d.types (slotT f x.a)==1&&kindI d.types (slotT f x.b)==2)&&kindI d.types (slotT f x.c)==2) else if x.op=11 then((kindI d.types (slotT f x.a)==1&&slotT f x.b==slotT f x.c)&&decide ((tyA d.types (slotT f x.b)).kind∈[1,2,4])) else if x.op=12 then(kindI d.types (slotT f x.a)==1&&kindI d.types (slotT f x.b)==1) else if x.op=13 then(memT d (slotT f x.b) x.c==slotT f x.a) else if x.op=14 then(memT d (slotT f x.a) x.b==slotT f x.c) else if x.op=15 then(kindI d.types (slotT f x.a)==4) else if x.op=16 then(ofT d (slotT f x.b) 4 4==slotT f x.a) else if x.op=17 then(ofT d (slotT f x.a) 4 4==slotT f x.b) else if x.op=18 then(kindI d.types (slotT f x.a)==7&&kindI d.types (slotT f x.b)==2) else if x.op=19 then(ofT d (slotT f x.b) 7 6==slotT f x.a&&kindI d.types (slotT f x.c)==2) else if x.op=20 then(ofT d (slotT f x.a) 7 6==slotT f x.c&&kindI d.types (slotT f x.b)==2) else if x.op=21 then(kindI d.types (slotT f x.a)==2&&((kindI d.types (slotT f x.b)==3||kindI d.types (slotT f x.b)==7)||kindI d.types (slotT f x.b)==6)) else if x.op=25 then(x.a== -1||((fnA d.funcs x.b.toNat).result==slotT f x.a)) else if x.op=26∨x.op=27 then(laterB d (fnA d.funcs x.a.toNat)) else if x.op=28 then((kindI d.types (slotT f x.a)==2||kindI d.types (slotT f x.a)==1)||kindI d.types (slotT f x.a)==3) else if x.op=29∨x.op=33 then(kindI d.types (slotT f x.a)==1&&kindI d.types (slotT f x.b)==2) else if x.op=34 then(x.a== -1||(f.result==slotT f x.a)) else true
theorem isI1 (a:Int) (tk:Tok):IsSl IsI 1 [a] (.list 1 tk [.int .i64 a]):= .mk ⟨rfl,trivial⟩ (by simp)
theorem isI2 (a b:Int) (tk:Tok):IsSl IsI 1 [a,b] (.list 1 tk [.int .i64 a,.int .i64 b]):= .mk ⟨rfl,rfl,trivial⟩ (by simp)
theorem isI3 (a b c:Int) (tk:Tok):IsSl IsI 1 [a,b,c] (.list 1 tk [.int .i64 a,.int .i64 b,.int .i64 c]):= .mk ⟨rfl,rfl,rfl,trivial⟩ (by simp)
structure ImgP (d:DImage):Prop where
 s: ∀g∈d.funcs,SlotsP d g∧g.params≤g.slots.length∧0≤g.params∧ -1≤g.result
theorem ImgP.at {d:DImage} (h:ImgP d) {k:Nat} (hk:k<d.funcs.length):SlotsP d (fnA d.funcs k)∧(fnA d.funcs k).params≤(fnA d.funcs k).slots.length∧0≤(fnA d.funcs k).params∧ -1≤(fnA d.funcs k).result:=by
 rw[←z1D hk];exact h.s _ (w04 hk)
theorem Ty {d:DImage} {f:DFunc} {x:DInstr} (hx:InstrP x) (hw:WfI x) (hN:NearP d f x) (hs:SlotsP d f) {k:Nat} (hk:k<3) (hl:sk x k=119∨sk x k=114):0≤slotT f (opn x k):=by
 obtain⟨a,b,c,hsh,hh⟩:=hx
 have hx:InstrP x:=⟨a,b,c,hsh,hh⟩
 have hfit:=(ZG hsh hx hw hk).2.1
 have h0:0≤opn x k:=by
  unfold fitsK at hfit
  rcases hl with e|e<;>rw[e] at hfit
  ·have:lo 119=0:=by decide
   omega
  ·have:lo 114=0:=by decide
   omega
 have hmem:opn x k∈rds x++wrs x:=by
  rw[w0a]
  rcases hl with e|e
  ·right
   unfold wrs wrsk
   simp only[w44,w55,w42,w0f,decide_eq_true_eq]
   exact⟨k,⟨hk,by rw[e];rfl,h0⟩,rfl⟩
  ·left
   unfold rds rdsk
   simp only[w44,w55,w42,w0f,decide_eq_true_eq]
   exact⟨k,⟨hk,by rw[e];rfl,h0⟩,rfl⟩
 have hlt:=hN.1 _ hmem
 unfold slotT
 rw[if_pos ⟨h0,hlt⟩]
 obtain⟨j,hj⟩: ∃j:Nat,opn x k=j:=⟨(opn x k).toNat,by omega⟩
 have hj':j<f.slots.length:=by omega
 rw[hj,z05 hj']
 exact(hs _ (w04 hj')).1
theorem z69 {d:DImage} {f:DFunc} {x:DInstr} (hx:InstrP x) (hN:NearP d f x) (h:x.op=25):0≤x.b∧x.b<d.funcs.length:=by
 have h2:=hN.2.1
 unfold called at h2
 rw[if_pos h] at h2
 refine⟨?_,h2⟩
 obtain⟨a,b,c,hs,f1,f2,f3⟩:=hx
 rw[h] at hs
 have:shp 25=[103,99,45]:=by decide
 rw[this] at hs
 injection hs with _ hs
 injection hs with hs _
 subst hs
 have:lo 99=0:=by decide
 unfold fitsK at f2;omega
theorem Td {d:DImage} {f:DFunc} {x:DInstr} (hx:InstrP x) (hN:NearP d f x) (h:x.op=26∨x.op=27):0≤x.a∧x.a<d.funcs.length:=by
 have h2:=hN.2.1
 unfold called at h2
 rw[if_neg (by omega),if_pos h] at h2
 refine⟨?_,h2⟩
 obtain⟨a,b,c,hs,f1,f2,f3⟩:=hx
 have:shp x.op=[99,45,45]:=by rcases h with h|h<;>rw[h]<;>decide
 rw[this] at hs
 injection hs with hs _
 subst hs
 have:lo 99=0:=by decide
 unfold fitsK at f1;omega
theorem zaP (a b:DField):eqAt [(0,2),(1,1)] [.str a.name,.int .i64 a.typ] [.str b.name,.int .i64 b.typ]=some (decide (a=b)):=by
 obtain⟨a0,a1⟩:=a
 obtain⟨b0,b1⟩:=b
 simp only[eqAt,eqCell,List.getD_cons_zero,List.getD_cons_succ,sameKind,if_true,DField.mk.injEq]
 by_cases h0:a0=b0
 case neg=>
  have e:(a0==b0)=false:=by simp[h0]
  simp[h0,e]
 subst h0
 by_cases h1:a1=b1
 case neg=>
  have e:(a1==b1)=false:=by simp[h1]
  simp[h1,e]
 subst h1
 simp
theorem zaO (a b:DInstr):eqAt [(0,1),(1,1),(2,1),(3,1)] [.int .u8 a.op,.int .i64 a.a,.int .i64 a.b,.int .i64 a.c] [.int .u8 b.op,.int .i64 b.a,.int .i64 b.b,.int .i64 b.c]=some (decide (a=b)):=by
 obtain⟨a0,a1,a2,a3⟩:=a
 obtain⟨b0,b1,b2,b3⟩:=b
 simp only[eqAt,eqCell,List.getD_cons_zero,List.getD_cons_succ,sameKind,if_true,DInstr.mk.injEq]
 by_cases h0:a0=b0
 case neg=>
  have e:(a0==b0)=false:=by simp[h0]
  simp[h0,e]
 subst h0
 by_cases h1:a1=b1
 case neg=>
  have e:(a1==b1)=false:=by simp[h1]
  simp[h1,e]
 subst h1
 by_cases h2:a2=b2
 case neg=>
  have e:(a2==b2)=false:=by simp[h2]
  simp[h2,e]
 subst h2
 by_cases h3:a3=b3
 case neg=>
  have e:(a3==b3)=false:=by simp[h3]
  simp[h3,e]
 subst h3
 simp
theorem z9J (a b:DRun):eqAt [(0,1),(1,1)] [.int .i64 a.frm,.int .u64 a.value] [.int .i64 b.frm,.int .u64 b.value]=some (decide (a=b)):=by
 obtain⟨a0,a1⟩:=a
 obtain⟨b0,b1⟩:=b
 simp only[eqAt,eqCell,List.getD_cons_zero,List.getD_cons_succ,sameKind,if_true,DRun.mk.injEq]
 by_cases h0:a0=b0
 case neg=>
  have e:(a0==b0)=false:=by simp[h0]
  simp[h0,e]
 subst h0
 by_cases h1:a1=b1
 case neg=>
  have e:(a1==b1)=false:=by simp[h1]
  simp[h1,e]
 subst h1
 simp
theorem vV (xs ys:List DRun) (x y:AV) (hx:IsSl IsRun 2 xs x) (hy:IsSl IsRun 2 ys y) (m:Mem):Okv tab yr [x,y] m (.bool (decide (xs=ys))):=by
 refine ze jS ?_
 obtain⟨stk,cur,nx,live,fl⟩:=m
 simp only[xa,List.map,go_sem,reduceCtorEq,G3,G0,G2,hx.len,hy.len,vq]
 by_cases hl:xs.length=ys.length
 ·simp only[go_sem,reduceCtorEq,G0,G2,hl,hx.len]
  refine za (α:=Nat) (fun i σ=>(i≤xs.length∧xs.take i=ys.take i)∧heads [0,1,12,13] 0 σ=⟨tmps 26 [(0,x),(1,y),(12,.int .i64 xs.length),(13,.int .i64 i)],⟨stk++[cur],[],nx,[]::live,fl⟩⟩) (fun i=>xs.length-i) 0 ?_ ?_
  ·refine⟨⟨w06 _,rfl⟩,?_⟩
   simp only[go_sem,reduceCtorEq,G0,G1,hl]
   rfl
  ·rintro i σ ⟨⟨hi,ht⟩,hσ⟩
   rw[hσ]
   dsimp only at hi ht⊢
   by_cases h:i<xs.length
   ·have h':i<ys.length:=hl▸h
    have e1:nth x i= .agg [.int .i64 xs[i].frm,.int .u64 xs[i].value]:=hx.nth h
    have e2:nth y i= .agg [.int .i64 ys[i].frm,.int .u64 ys[i].value]:=hy.nth h'
    simp only[go_sem,reduceCtorEq,G3,G0,G1,G2,w02,h,hx.at _ h,hy.at _ h',e1,e2,z9J]
    by_cases he:xs[i]=ys[i]
    ·simp only[go_sem,reduceCtorEq,G0,G2,he,zd h hx.max]
     exact⟨i+1,by omega,⟨h,xx hl ht h he⟩,rfl⟩
    ·simp only[go_sem,reduceCtorEq,G0,G2,he]
     rw[z6 rfl rfl,z8]
     exact⟨⟨_,rfl⟩,by rw[decide_eq_false (qz h h' he)]⟩
   ·have:i=xs.length:=by omega
    subst this
    simp only[go_sem,reduceCtorEq,G0,G1,G2,w02,h]
    rw[z6 rfl rfl,z8]
    exact⟨⟨_,rfl⟩,by rw[decide_eq_true (uh hl ht)]⟩
 ·simp only[go_sem,reduceCtorEq,G0,G2,hl]
  rw[z6 rfl rfl,z8]
  exact⟨⟨_,rfl⟩,by rw[decide_eq_false (qy hl)]⟩
theorem tI (xs ys:List DField) (x y:AV) (hx:IsSl IsField 2 xs x) (hy:IsSl IsField 2 ys y) (m:Mem):Okv tab yS [x,y] m (.bool (decide (xs=ys))):=by
 refine ze Zq ?_
 obtain⟨stk,cur,nx,live,fl⟩:=m
 simp only[xT,List.map,go_sem,reduceCtorEq,G3,G0,G2,hx.len,hy.len,vq]
 by_cases hl:xs.length=ys.length
 ·simp only[go_sem,hl]
  refine za (α:=Nat) (fun i σ=>(i≤xs.length∧xs.take i=ys.take i)∧heads [0,1,5] 0 σ=⟨tmps 26 [(0,x),(1,y),(5,.int .i64 i)],⟨stk++[cur],[],nx,[]::live,fl⟩⟩) (fun i=>xs.length-i) 0 ?_ ?_
  ·refine⟨⟨w06 _,rfl⟩,?_⟩
   simp only[go_sem,reduceCtorEq,G0,G1]
   rfl
  ·rintro i σ ⟨⟨hi,ht⟩,hσ⟩
   rw[hσ]
   dsimp only at hi ht⊢
   by_cases h:i<xs.length
   ·have h':i<ys.length:=hl▸h
    have e1:nth x i= .agg [.str xs[i].name,.int .i64 xs[i].typ]:=hx.nth h
    have e2:nth y i= .agg [.str ys[i].name,.int .i64 ys[i].typ]:=hy.nth h'
    simp only[go_sem,reduceCtorEq,G3,G0,G1,G2,w02,h,hx.len,hx.at _ h,hy.at _ h',e1,e2,zaP]
    by_cases he:xs[i]=ys[i]
    ·simp only[go_sem,reduceCtorEq,G0,G2,he,zd h hx.max]
     exact⟨i+1,by omega,⟨h,xx hl ht h he⟩,rfl⟩
    ·simp only[go_sem,reduceCtorEq,G0,G2,he]
     rw[z6 rfl rfl,z8]
     exact⟨⟨_,rfl⟩,by rw[decide_eq_false (qz h h' he)]⟩
   ·have:i=xs.length:=by omega
    subst this
    simp only[go_sem,reduceCtorEq,G0,G1,G2,w02,h,hx.len]
    rw[z6 rfl rfl,z8]
    exact⟨⟨_,rfl⟩,by rw[decide_eq_true (uh hl ht)]⟩
 ·simp only[go_sem,reduceCtorEq,G0,G2,hl]
  rw[z6 rfl rfl,z8]
  exact⟨⟨_,rfl⟩,by rw[decide_eq_false (qy hl)]⟩
theorem U5 (xs ys:List DInstr) (x y:AV) (hx:IsSl IsInstr 4 xs x) (hy:IsSl IsInstr 4 ys y) (m:Mem):Okv tab qm [x,y] m (.bool (decide (xs=ys))):=by
 refine ze Us ?_
 obtain⟨stk,cur,nx,live,fl⟩:=m
 simp only[qd,List.map,go_sem,reduceCtorEq,G3,G0,G2,hx.len,hy.len,vq]
 by_cases hl:xs.length=ys.length
 ·simp only[go_sem,hl]
  refine za (α:=Nat) (fun i σ=>(i≤xs.length∧xs.take i=ys.take i)∧heads [0,1,5] 0 σ=⟨tmps 26 [(0,x),(1,y),(5,.int .i64 i)],⟨stk++[cur],[],nx,[]::live,fl⟩⟩) (fun i=>xs.length-i) 0 ?_ ?_
  ·refine⟨⟨w06 _,rfl⟩,?_⟩
   simp only[go_sem,reduceCtorEq,G0,G1]
   rfl
  ·rintro i σ ⟨⟨hi,ht⟩,hσ⟩
   rw[hσ]
   dsimp only at hi ht⊢
   by_cases h:i<xs.length
   ·have h':i<ys.length:=hl▸h
    have e1:nth x i= .agg [.int .u8 xs[i].op,.int .i64 xs[i].a,.int .i64 xs[i].b,.int .i64 xs[i].c]:=hx.nth h
    have e2:nth y i= .agg [.int .u8 ys[i].op,.int .i64 ys[i].a,.int .i64 ys[i].b,.int .i64 ys[i].c]:=hy.nth h'
    simp only[go_sem,reduceCtorEq,G3,G0,G1,G2,w02,h,hx.len,hx.at _ h,hy.at _ h',e1,e2,zaO]
    by_cases he:xs[i]=ys[i]
    ·simp only[go_sem,reduceCtorEq,G0,G2,he,zd h hx.max]
     exact⟨i+1,by omega,⟨h,xx hl ht h he⟩,rfl⟩
    ·simp only[go_sem,reduceCtorEq,G0,G2,he]
     rw[z6 rfl rfl,z8]
     exact⟨⟨_,rfl⟩,by rw[decide_eq_false (qz h h' he)]⟩
   ·have:i=xs.length:=by omega
    subst this
    simp only[go_sem,reduceCtorEq,G0,G1,G2,w02,h,hx.len]
    rw[z6 rfl rfl,z8]
    exact⟨⟨_,rfl⟩,by rw[decide_eq_true (uh hl ht)]⟩
 ·simp only[go_sem,reduceCtorEq,G0,G2,hl]
  rw[z6 rfl rfl,z8]
  exact⟨⟨_,rfl⟩,by rw[decide_eq_false (qy hl)]⟩
theorem ky (xs ys:List DRun) (x y:AV) (hx:IsSl IsRun 2 xs x) (hy:IsSl IsRun 2 ys y) (m:Mem):Okv tab vx [x,y] m (.bool (decide (xs=ys))):=by
 refine ze Uq ?_
 obtain⟨stk,cur,nx,live,fl⟩:=m
 simp only[qb,List.map,go_sem,reduceCtorEq,G3,G0,G2,hx.len,hy.len,vq]
 by_cases hl:xs.length=ys.length
 ·simp only[go_sem,hl]
  refine za (α:=Nat) (fun i σ=>(i≤xs.length∧xs.take i=ys.take i)∧heads [0,1,5] 0 σ=⟨tmps 26 [(0,x),(1,y),(5,.int .i64 i)],⟨stk++[cur],[],nx,[]::live,fl⟩⟩) (fun i=>xs.length-i) 0 ?_ ?_
  ·refine⟨⟨w06 _,rfl⟩,?_⟩
   simp only[go_sem,reduceCtorEq,G0,G1]
   rfl
  ·rintro i σ ⟨⟨hi,ht⟩,hσ⟩
   rw[hσ]
   dsimp only at hi ht⊢
   by_cases h:i<xs.length
   ·have h':i<ys.length:=hl▸h
    have e1:nth x i= .agg [.int .i64 xs[i].frm,.int .u64 xs[i].value]:=hx.nth h
    have e2:nth y i= .agg [.int .i64 ys[i].frm,.int .u64 ys[i].value]:=hy.nth h'
    simp only[go_sem,reduceCtorEq,G3,G0,G1,G2,w02,h,hx.len,hx.at _ h,hy.at _ h',e1,e2,z9J]
    by_cases he:xs[i]=ys[i]
    ·simp only[go_sem,reduceCtorEq,G0,G2,he,zd h hx.max]
     exact⟨i+1,by omega,⟨h,xx hl ht h he⟩,rfl⟩
    ·simp only[go_sem,reduceCtorEq,G0,G2,he]
     rw[z6 rfl rfl,z8]
     exact⟨⟨_,rfl⟩,by rw[decide_eq_false (qz h h' he)]⟩
   ·have:i=xs.length:=by omega
    subst this
    simp only[go_sem,reduceCtorEq,G0,G1,G2,w02,h,hx.len]
    rw[z6 rfl rfl,z8]
    exact⟨⟨_,rfl⟩,by rw[decide_eq_true (uh hl ht)]⟩
 ·simp only[go_sem,reduceCtorEq,G0,G2,hl]
  rw[z6 rfl rfl,z8]
  exact⟨⟨_,rfl⟩,by rw[decide_eq_false (qy hl)]⟩
theorem XM (xs ys:List Int) (x y:AV) (hx:IsSl (IsK .i64) 1 xs x) (hy:IsSl (IsK .i64) 1 ys y) (m:Mem):Okv tab uC [x,y] m (.bool (decide (xs=ys))):=by
 refine ze W1 ?_
 obtain⟨stk,cur,nx,live,fl⟩:=m
 simp only[ux,List.map,go_sem,reduceCtorEq,G3,G0,G2,hx.len,hy.len,vq]
 by_cases hl:xs.length=ys.length
 ·simp only[go_sem,reduceCtorEq,G0,G2,hl,hx.len]
  refine za (α:=Nat) (fun i σ=>(i≤xs.length∧xs.take i=ys.take i)∧heads [0,1,12,13] 0 σ=⟨tmps 26 [(0,x),(1,y),(12,.int .i64 xs.length),(13,.int .i64 i)],⟨stk++[cur],[],nx,[]::live,fl⟩⟩) (fun i=>xs.length-i) 0 ?_ ?_
  ·refine⟨⟨w06 _,rfl⟩,?_⟩
   simp only[go_sem,reduceCtorEq,G0,G1,hl]
   rfl
  ·rintro i σ ⟨⟨hi,ht⟩,hσ⟩
   rw[hσ]
   dsimp only at hi ht⊢
   by_cases h:i<xs.length
   ·have h':i<ys.length:=hl▸h
    have e1:nth x i= .int .i64 xs[i]:=hx.nth h
    have e2:nth y i= .int .i64 ys[i]:=hy.nth h'
    simp only[go_sem,reduceCtorEq,G0,G1,G2,w02,h,hx.at _ h,hy.at _ h',e1,e2]
    by_cases he:xs[i]=ys[i]
    ·simp only[go_sem,reduceCtorEq,G0,G2,he,zd h hx.max,bne_self_eq_false]
     exact⟨i+1,by omega,⟨h,xx hl ht h he⟩,rfl⟩
    ·have hb:(xs[i]==ys[i])=false:=by simp[he]
     have hb':(xs[i] !=ys[i])=true:=by simp[he]
     simp only[go_sem,reduceCtorEq,G0,G2,hb']
     rw[z6 rfl rfl,z8]
     exact⟨⟨_,rfl⟩,by rw[decide_eq_false (qz h h' he)]⟩
   ·have:i=xs.length:=by omega
    subst this
    simp only[go_sem,reduceCtorEq,G0,G1,G2,w02,h]
    rw[z6 rfl rfl,z8]
    exact⟨⟨_,rfl⟩,by rw[decide_eq_true (uh hl ht)]⟩
 ·simp only[go_sem,reduceCtorEq,G0,G2,hl]
  rw[z6 rfl rfl,z8]
  exact⟨⟨_,rfl⟩,by rw[decide_eq_false (qy hl)]⟩
theorem yD (xs ys:List Int) (x y:AV) (hx:IsSl (IsK .i64) 1 xs x) (hy:IsSl (IsK .i64) 1 ys y) (m:Mem):Okv tab zH [x,y] m (.bool (decide (xs=ys))):=by
 refine ze Yk ?_
 obtain⟨stk,cur,nx,live,fl⟩:=m
 simp only[vH,List.map,go_sem,reduceCtorEq,G3,G0,G2,hx.len,hy.len,vq]
 by_cases hl:xs.length=ys.length
 ·simp only[go_sem,hl]
  refine za (α:=Nat) (fun i σ=>(i≤xs.length∧xs.take i=ys.take i)∧heads [0,1,5] 0 σ=⟨tmps 26 [(0,x),(1,y),(5,.int .i64 i)],⟨stk++[cur],[],nx,[]::live,fl⟩⟩) (fun i=>xs.length-i) 0 ?_ ?_
  ·refine⟨⟨w06 _,rfl⟩,?_⟩
   simp only[go_sem,reduceCtorEq,G0,G1]
   rfl
  ·rintro i σ ⟨⟨hi,ht⟩,hσ⟩
   rw[hσ]
   dsimp only at hi ht⊢
   by_cases h:i<xs.length
   ·have h':i<ys.length:=hl▸h
    have e1:nth x i= .int .i64 xs[i]:=hx.nth h
    have e2:nth y i= .int .i64 ys[i]:=hy.nth h'
    simp only[go_sem,reduceCtorEq,G0,G1,G2,w02,h,hx.len,hx.at _ h,hy.at _ h',e1,e2]
    by_cases he:xs[i]=ys[i]
    ·simp only[go_sem,reduceCtorEq,G0,G2,he,zd h hx.max,bne_self_eq_false]
     exact⟨i+1,by omega,⟨h,xx hl ht h he⟩,rfl⟩
    ·have hb:(xs[i]==ys[i])=false:=by simp[he]
     have hb':(xs[i] !=ys[i])=true:=by simp[he]
     simp only[go_sem,reduceCtorEq,G0,G2,hb']
     rw[z6 rfl rfl,z8]
     exact⟨⟨_,rfl⟩,by rw[decide_eq_false (qz h h' he)]⟩
   ·have:i=xs.length:=by omega
    subst this
    simp only[go_sem,reduceCtorEq,G0,G1,G2,w02,h,hx.len]
    rw[z6 rfl rfl,z8]
    exact⟨⟨_,rfl⟩,by rw[decide_eq_true (uh hl ht)]⟩
 ·simp only[go_sem,reduceCtorEq,G0,G2,hl]
  rw[z6 rfl rfl,z8]
  exact⟨⟨_,rfl⟩,by rw[decide_eq_false (qy hl)]⟩
theorem yC (a b:DFunc) (x y:AV) (hx:IsFunc a x) (hy:IsFunc b y) (m:Mem):Okv tab zL [x,y] m (.bool (decide (a=b))):=by
 refine ze Yh ?_
 obtain⟨stk,cur,nx,live,fl⟩:=m
 obtain⟨a_name,a_params,a_result,a_slots,a_code,a_sizes,a_lives⟩:=a
 obtain⟨b_name,b_params,b_result,b_slots,b_code,b_sizes,b_lives⟩:=b
 obtain⟨x_slots,x_code,x_sizes,x_lives,rfl,hx_slots,hx_code,hx_sizes,hx_lives⟩:=hx
 obtain⟨y_slots,y_code,y_sizes,y_lives,rfl,hy_slots,hy_code,hy_sizes,hy_lives⟩:=hy
 dsimp only at hx_slots hy_slots hx_code hy_code hx_sizes hy_sizes hx_lives hy_lives
 simp only[vE,List.map,go_sem,reduceCtorEq,G3,G0,G2,evStr,DFunc.mk.injEq]
 by_cases h_name:a_name=b_name
 case neg=>
  have e:(a_name==b_name)=false:=by simp[h_name]
  simp only[go_sem,reduceCtorEq,G0,G2,e]
  rw[z6 rfl rfl,z8]
  exact⟨⟨_,rfl⟩,by simp[h_name]⟩
 subst h_name
 simp only[go_sem,reduceCtorEq,G0,G2,beq_self_eq_true]
 by_cases h_params:a_params=b_params
 case neg=>
  have e:(a_params==b_params)=false:=by simp[h_params]
  simp only[go_sem,reduceCtorEq,G0,G2,e]
  rw[z6 rfl rfl,z8]
  exact⟨⟨_,rfl⟩,by simp[h_params]⟩
 subst h_params
 simp only[go_sem,reduceCtorEq,G0,G2,beq_self_eq_true]
 by_cases h_result:a_result=b_result
 case neg=>
  have e:(a_result==b_result)=false:=by simp[h_result]
  simp only[go_sem,reduceCtorEq,G0,G2,e]
  rw[z6 rfl rfl,z8]
  exact⟨⟨_,rfl⟩,by simp[h_result]⟩
 subst h_result
 simp only[go_sem,reduceCtorEq,G0,G2,beq_self_eq_true]
 obtain⟨k_slots,c_slots⟩:=Okv.all (tI _ _ _ _ hx_slots hy_slots)
 simp only[c_slots]
 by_cases h_slots:a_slots=b_slots
 case neg=>
  simp only[go_sem,reduceCtorEq,G0,G2,h_slots]
  rw[z6 rfl rfl,z8]
  exact⟨⟨_,rfl⟩,by simp[]⟩
 subst h_slots
 simp only[go_sem,reduceCtorEq,G0,G2,beq_self_eq_true]
 obtain⟨k_code,c_code⟩:=Okv.all (U5 _ _ _ _ hx_code hy_code)
 simp only[c_code]
 by_cases h_code:a_code=b_code
 case neg=>
  simp only[go_sem,reduceCtorEq,G0,G2,h_code]
  rw[z6 rfl rfl,z8]
  exact⟨⟨_,rfl⟩,by simp[]⟩
 subst h_code
 simp only[go_sem,reduceCtorEq,G0,G2,beq_self_eq_true]
 obtain⟨k_sizes,c_sizes⟩:=Okv.all (ky _ _ _ _ hx_sizes hy_sizes)
 simp only[c_sizes]
 by_cases h_sizes:a_sizes=b_sizes
 case neg=>
  simp only[go_sem,reduceCtorEq,G0,G2,h_sizes]
  rw[z6 rfl rfl,z8]
  exact⟨⟨_,rfl⟩,by simp[]⟩
 subst h_sizes
 simp only[go_sem,reduceCtorEq,G0,G2,beq_self_eq_true]
 obtain⟨k_lives,c_lives⟩:=Okv.all (ky _ _ _ _ hx_lives hy_lives)
 simp only[c_lives]
 by_cases h_lives:a_lives=b_lives
 case neg=>
  simp only[go_sem,reduceCtorEq,G0,G2,h_lives]
  rw[z6 rfl rfl,z8]
  exact⟨⟨_,rfl⟩,by simp[]⟩
 subst h_lives
 simp only[go_sem,reduceCtorEq,G0,G2]
 rw[z6 rfl rfl,z8]
 exact⟨⟨_,rfl⟩,by simp⟩
theorem ZW (xs ys:List DTyp) (x y:AV) (hx:IsSl IsTyp 4 xs x) (hy:IsSl IsTyp 4 ys y) (m:Mem):Okv tab vk [x,y] m (.bool (decide (xs=ys))):=by
 refine ze ZX ?_
 obtain⟨stk,cur,nx,live,fl⟩:=m
 simp only[vi,List.map,go_sem,reduceCtorEq,G3,G0,G2,hx.len,hy.len,vq]
 by_cases hl:xs.length=ys.length
 ·simp only[go_sem,hl]
  refine za (α:=Nat×Nat) (fun z σ=>(z.1≤xs.length∧xs.take z.1=ys.take z.1)∧heads [0,1,5] 0 σ=⟨tmps 68 [(0,x),(1,y),(5,.int .i64 z.1)],⟨stk++[cur],[],z.2,[]::live,fl⟩⟩) (fun z=>xs.length-z.1) (0,nx) ?_ ?_
  ·refine⟨⟨w06 _,rfl⟩,?_⟩
   simp only[go_sem,reduceCtorEq,G0,G1]
   rfl
  ·rintro⟨i,nz⟩ σ ⟨⟨hi,ht⟩,hσ⟩
   rw[hσ]
   dsimp only at hi ht⊢
   by_cases h:i<xs.length
   ·have h':i<ys.length:=hl▸h
    obtain⟨v,e1,q1⟩:=hx.nth h
    obtain⟨u,e2,q2⟩:=hy.nth h'
    have eqt: ∀a b:DTyp,a=b↔(a.kind=b.kind∧a.elem=b.elem∧a.len=b.len∧a.fields=b.fields):=fun a b=>by cases a;cases b;simp
    obtain⟨K,hK⟩:=Okv.all (tI _ _ _ _ q1 q2)
    simp only[go_sem,reduceCtorEq,G0,G1,G2,w02,h,hx.len,hx.at _ h,hy.at _ h',e1,e2]
    have fin:xs[i]≠ys[i]→ ∀k:Nat,(∃k',(⟨stk,cur,k,live,fl⟩:Mem)=(⟨stk,cur,nx,live,fl⟩:Mem).bump k')∧AV.bool false=AV.bool (decide (xs=ys)):=fun he k=>⟨⟨_,rfl⟩,by rw[decide_eq_false (qz h h' he)]⟩
    by_cases c1:xs[i].kind=ys[i].kind
    case neg=>
     have e:(xs[i].kind !=ys[i].kind)=true:=by simp[c1]
     simp only[go_sem,reduceCtorEq,G0,G2,e]
     rw[z6 rfl rfl,z8]
     exact fin (fun he=>c1 (by rw[he])) _
    simp only[go_sem,reduceCtorEq,G0,G2,c1,bne_self_eq_false,hx.at _ h,hy.at _ h',e1,e2]
    by_cases c2:xs[i].elem=ys[i].elem
    case neg=>
     have e:(xs[i].elem !=ys[i].elem)=true:=by simp[c2]
     simp only[go_sem,reduceCtorEq,G0,G2,e]
     rw[z6 rfl rfl,z8]
     exact fin (fun he=>c2 (by rw[he])) _
    simp only[go_sem,reduceCtorEq,G0,G2,c2,bne_self_eq_false,hx.at _ h,hy.at _ h',e1,e2]
    by_cases c3:xs[i].len=ys[i].len
    case neg=>
     have e:(xs[i].len !=ys[i].len)=true:=by simp[c3]
     simp only[go_sem,reduceCtorEq,G0,G2,e]
     rw[z6 rfl rfl,z8]
     exact fin (fun he=>c3 (by rw[he])) _
    simp only[go_sem,reduceCtorEq,G0,G2,c3,bne_self_eq_false,hx.at _ h,hy.at _ h',e1,e2,hK]
    by_cases c4:xs[i].fields=ys[i].fields
    case neg=>
     simp only[go_sem,reduceCtorEq,G0,G2,c4]
     rw[z6 rfl rfl,z8]
     exact fin (fun he=>c4 (by rw[he])) _
    simp only[go_sem,reduceCtorEq,G0,G2,c4,zd h hx.max]
    exact⟨(i+1,_),by dsimp only;omega,⟨h,xx hl ht h ((eqt _ _).2 ⟨c1,c2,c3,c4⟩)⟩,rfl⟩
   ·have:i=xs.length:=by omega
    subst this
    simp only[go_sem,reduceCtorEq,G0,G1,G2,w02,h,hx.len]
    rw[z6 rfl rfl,z8]
    exact⟨⟨_,rfl⟩,by rw[decide_eq_true (uh hl ht)]⟩
 ·simp only[go_sem,reduceCtorEq,G0,G2,hl]
  rw[z6 rfl rfl,z8]
  exact⟨⟨_,rfl⟩,by rw[decide_eq_false (qy hl)]⟩
theorem U4 (a b:DImage) (x y:AV) (hx:IsImage a x) (hy:IsImage b y) (m:Mem):Okv tab qk [x,y] m (.bool (decide (a=b))):=by
 refine ze Uo ?_
 obtain⟨stk,cur,nx,live,fl⟩:=m
 obtain⟨ta,sa,fa⟩:=a
 obtain⟨tb,sb,fb⟩:=b
 obtain⟨x0,x1,x2,rfl,p0,p1,p2⟩:=hx
 obtain⟨y0,y1,y2,rfl,q0,q1,q2⟩:=hy
 dsimp only at p0 p1 p2 q0 q1 q2
 obtain⟨K,hK⟩:=Okv.all (ZW _ _ _ _ p0 q0)
 simp only[tZ,List.map,go_sem,reduceCtorEq,G3,G0,G2,hK,DImage.mk.injEq]
 by_cases c1:ta=tb
 case neg=>
  simp only[go_sem,reduceCtorEq,G0,G2,c1]
  rw[z6 rfl rfl,z8]
  exact⟨⟨_,rfl⟩,by simp[]⟩
 simp only[go_sem,reduceCtorEq,G0,G2,c1,p1.len,q1.len,vq]
 by_cases c2:sa.length=sb.length
 case neg=>
  simp only[go_sem,reduceCtorEq,G0,G2,c2]
  rw[z6 rfl rfl,z8]
  exact⟨⟨_,rfl⟩,by simp[qy c2]⟩
 simp only[go_sem,reduceCtorEq,G0,G2,c2,p2.len,q2.len,vq]
 by_cases c3:fa.length=fb.length
 case neg=>
  simp only[go_sem,reduceCtorEq,G0,G2,c3]
  rw[z6 rfl rfl,z8]
  exact⟨⟨_,rfl⟩,by simp[qy c3]⟩
 simp only[go_sem,G3,c3]
 refine za (α:=Nat×Nat) (fun z σ=>(z.1≤sa.length∧sa.take z.1=sb.take z.1)∧heads [2,3,5] 2 σ=⟨tmps 68 [(2,.ptr (stk++[cur]).length 0 nx 0),(3,.ptr (stk++[cur]).length 1 (nx+1) 0),(5,.int .i64 z.1)],⟨stk++[cur],[⟨nx,[x0,x1,x2]⟩,⟨nx+1,[y0,y1,y2]⟩],z.2,[]::live,fl⟩⟩) (fun z=>sa.length-z.1) (0,K ⟨stk++[cur],[⟨nx,[x0,x1,x2]⟩,⟨nx+1,[y0,y1,y2]⟩],nx+1+1,[]::live,fl⟩) ?_ ?_
 ·refine⟨⟨w06 _,rfl⟩,?_⟩
  simp only[go_sem,reduceCtorEq,G0,G1]
  rfl
 ·rintro⟨i,nz⟩ σ ⟨⟨hi,ht⟩,hσ⟩
  rw[hσ]
  dsimp only at hi ht⊢
  by_cases h:i<sa.length
  ·have h':i<sb.length:=c2▸h
   have e1:nth x1 i= .str sa[i]:=p1.nth h
   have e2:nth y1 i= .str sb[i]:=q1.nth h'
   simp only[go_sem,G0,G1,G2,w02,h,p1.len,p1.at _ h,q1.at _ h',e1,e2,evStr]
   by_cases he:sa[i]=sb[i]
   ·simp only[go_sem,G0,G2,he,zd h p1.max]
    exact⟨(i+1,_),by dsimp only;omega,⟨h,xx c2 ht h he⟩,rfl⟩
   ·have hb:(sa[i]==sb[i])=false:=by simp[he]
    simp only[go_sem,G0,G2,hb]
    rw[z6 rfl rfl,z8]
    exact⟨⟨_,rfl⟩,by simp[qz h h' he]⟩
  ·have:i=sa.length:=by omega
   subst this
   have es:=uh c2 ht
   clear hσ σ
   simp only[go_sem,G3,G0,G1,G2,w02,h,p1.len]
   refine za (α:=Nat×Nat) (fun z σ=>(z.1≤fa.length∧fa.take z.1=fb.take z.1)∧heads [2,3,6] 2 σ=⟨tmps 68 [(2,.ptr (stk++[cur]).length 0 nx 0),(3,.ptr (stk++[cur]).length 1 (nx+1) 0),(6,.int .i64 z.1)],⟨stk++[cur],[⟨nx,[x0,x1,x2]⟩,⟨nx+1,[y0,y1,y2]⟩],z.2,[]::live,fl⟩⟩) (fun z=>fa.length-z.1) (0,nz) ?_ ?_
   ·refine⟨⟨w06 _,rfl⟩,?_⟩
    simp only[go_sem,G0,G1]
    rfl
   ·rintro⟨i,nz⟩ σ ⟨⟨hi,ht⟩,hσ⟩
    rw[hσ]
    dsimp only at hi ht⊢
    by_cases h:i<fa.length
    ·have h':i<fb.length:=c3▸h
     have e1:=p2.nth h
     have e2:=q2.nth h'
     obtain⟨K2,hK2⟩:=Okv.all (yC _ _ _ _ e1 e2)
     simp only[go_sem,G0,G1,G2,w02,h,p2.len,p2.at _ h,q2.at _ h',e1.agg.1,e2.agg.1,hK2]
     by_cases he:fa[i]=fb[i]
     ·simp only[go_sem,G0,G2,he,zd h p2.max]
      exact⟨(i+1,_),by dsimp only;omega,⟨h,xx c3 ht h he⟩,rfl⟩
     ·simp only[go_sem,G0,G2,he]
      rw[z6 rfl rfl,z8]
      exact⟨⟨_,rfl⟩,by simp[qz h h' he]⟩
    ·have:i=fa.length:=by omega
     subst this
     simp only[go_sem,G0,G1,G2,w02,h,p2.len]
     rw[z6 rfl rfl,z8]
     exact⟨⟨_,rfl⟩,by simp[es,uh c3 ht]⟩
end Go.Proofs.W
end
