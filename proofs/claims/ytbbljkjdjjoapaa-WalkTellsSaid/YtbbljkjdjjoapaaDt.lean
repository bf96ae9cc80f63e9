/-
  Dt: the plain types, and what abstract values they have (printed by program).
-/
import Derived.Test.YtbbljkjdjjoapaaVd
namespace Go.Vs
/-- Numbers that a uint64, a uint8 holds; texts. -/
def inU64 (n : Int) : Prop := 0 ≤ n ∧ n < 18446744073709551616
def inU8 (n : Int) : Prop := 0 ≤ n ∧ n < 256
def strOk (s : List UInt8) : Prop := s.length ≤ 9223372036854775807
structure DField where
  name : List UInt8
  typ : Int
  deriving DecidableEq
def IsField (d : DField) (y : AV) : Prop := y = .agg [.str d.name, .int .i64 d.typ]
structure WfField (d : DField) : Prop where
  name : strOk d.name
  typ : in64 d.typ
theorem IsField.agg {d : DField} {y : AV} (h : IsField d y) : takeV true 2 y.cells = some y ∧ y.cells.length = 2 := by
  obtain rfl := h
  exact ⟨rfl, rfl⟩
structure DTyp where
  kind : Int
  elem : Int
  len : Int
  fields : List DField
  deriving DecidableEq
def IsTyp (d : DTyp) (y : AV) : Prop := ∃ v0, y = .agg [.int .u8 d.kind, .int .i64 d.elem, .int .i64 d.len, v0] ∧ IsSl IsField 2 d.fields v0
structure WfTyp (d : DTyp) : Prop where
  kind : inU8 d.kind
  elem : in64 d.elem
  len : in64 d.len
  fields : ∀ x ∈ d.fields, WfField x
theorem IsTyp.agg {d : DTyp} {y : AV} (h : IsTyp d y) : takeV true 4 y.cells = some y ∧ y.cells.length = 4 := by
  obtain ⟨v0, rfl, _⟩ := h
  exact ⟨rfl, rfl⟩
structure DInstr where
  op : Int
  a : Int
  b : Int
  c : Int
  deriving DecidableEq
def IsInstr (d : DInstr) (y : AV) : Prop := y = .agg [.int .u8 d.op, .int .i64 d.a, .int .i64 d.b, .int .i64 d.c]
structure WfInstr (d : DInstr) : Prop where
  op : inU8 d.op
  a : in64 d.a
  b : in64 d.b
  c : in64 d.c
theorem IsInstr.agg {d : DInstr} {y : AV} (h : IsInstr d y) : takeV true 4 y.cells = some y ∧ y.cells.length = 4 := by
  obtain rfl := h
  exact ⟨rfl, rfl⟩
structure DRun where
  frm : Int
  value : Int
  deriving DecidableEq
def IsRun (d : DRun) (y : AV) : Prop := y = .agg [.int .i64 d.frm, .int .u64 d.value]
structure WfRun (d : DRun) : Prop where
  frm : in64 d.frm
  value : inU64 d.value
theorem IsRun.agg {d : DRun} {y : AV} (h : IsRun d y) : takeV true 2 y.cells = some y ∧ y.cells.length = 2 := by
  obtain rfl := h
  exact ⟨rfl, rfl⟩
structure DFunc where
  name : List UInt8
  params : Int
  result : Int
  slots : List DField
  code : List DInstr
  sizes : List DRun
  lives : List DRun
  deriving DecidableEq
def IsFunc (d : DFunc) (y : AV) : Prop := ∃ v0 v1 v2 v3, y = .agg [.str d.name, .int .i64 d.params, .int .i64 d.result, v0, v1, v2, v3] ∧ IsSl IsField 2 d.slots v0 ∧ IsSl IsInstr 4 d.code v1 ∧ IsSl IsRun 2 d.sizes v2 ∧ IsSl IsRun 2 d.lives v3
structure WfFunc (d : DFunc) : Prop where
  name : strOk d.name
  params : in64 d.params
  result : in64 d.result
  slots : ∀ x ∈ d.slots, WfField x
  code : ∀ x ∈ d.code, WfInstr x
  sizes : ∀ x ∈ d.sizes, WfRun x
  lives : ∀ x ∈ d.lives, WfRun x
theorem IsFunc.agg {d : DFunc} {y : AV} (h : IsFunc d y) : takeV true 7 y.cells = some y ∧ y.cells.length = 7 := by
  obtain ⟨v0, v1, v2, v3, rfl, _, _, _, _⟩ := h
  exact ⟨rfl, rfl⟩
structure DImage where
  types : List DTyp
  texts : List (List UInt8)
  funcs : List DFunc
  deriving DecidableEq
def IsImage (d : DImage) (y : AV) : Prop := ∃ v0 v1 v2, y = .agg [v0, v1, v2] ∧ IsSl IsTyp 4 d.types v0 ∧ IsSl IsStr 1 d.texts v1 ∧ IsSl IsFunc 7 d.funcs v2
structure WfImage (d : DImage) : Prop where
  types : ∀ x ∈ d.types, WfTyp x
  texts : ∀ x ∈ d.texts, strOk x
  funcs : ∀ x ∈ d.funcs, WfFunc x
theorem IsImage.agg {d : DImage} {y : AV} (h : IsImage d y) : takeV true 3 y.cells = some y ∧ y.cells.length = 3 := by
  obtain ⟨v0, v1, v2, rfl, _, _, _⟩ := h
  exact ⟨rfl, rfl⟩
structure DRegion where
  base : Int
  bytes : List UInt8
  deriving DecidableEq
def IsRegion (d : DRegion) (y : AV) : Prop := ∃ v0, y = .agg [.int .u64 d.base, v0] ∧ IsSl IsByte 1 d.bytes v0
structure WfRegion (d : DRegion) : Prop where
  base : inU64 d.base
  bytes : ∀ x ∈ d.bytes, True
theorem IsRegion.agg {d : DRegion} {y : AV} (h : IsRegion d y) : takeV true 2 y.cells = some y ∧ y.cells.length = 2 := by
  obtain ⟨v0, rfl, _⟩ := h
  exact ⟨rfl, rfl⟩
structure DRoutine where
  status : Int
  code : Int
  sp : Int
  defers : Int
  panics : Int
  key : Int
  deriving DecidableEq
def IsRoutine (d : DRoutine) (y : AV) : Prop := y = .agg [.int .u8 d.status, .int .u64 d.code, .int .u64 d.sp, .int .u64 d.defers, .int .u64 d.panics, .int .i64 d.key]
structure WfRoutine (d : DRoutine) : Prop where
  status : inU8 d.status
  code : inU64 d.code
  sp : inU64 d.sp
  defers : inU64 d.defers
  panics : inU64 d.panics
  key : in64 d.key
theorem IsRoutine.agg {d : DRoutine} {y : AV} (h : IsRoutine d y) : takeV true 6 y.cells = some y ∧ y.cells.length = 6 := by
  obtain rfl := h
  exact ⟨rfl, rfl⟩
structure DEnded where
  outcome : Int
  failing : Int
  steps : Int
  deriving DecidableEq
def IsEnded (d : DEnded) (y : AV) : Prop := y = .agg [.int .u8 d.outcome, .int .i64 d.failing, .int .i64 d.steps]
structure WfEnded (d : DEnded) : Prop where
  outcome : inU8 d.outcome
  failing : in64 d.failing
  steps : in64 d.steps
theorem IsEnded.agg {d : DEnded} {y : AV} (h : IsEnded d y) : takeV true 3 y.cells = some y ∧ y.cells.length = 3 := by
  obtain rfl := h
  exact ⟨rfl, rfl⟩
structure DDump where
  image : DImage
  ended : DEnded
  heap : DRegion
  stacks : List DRegion
  routines : List DRoutine
  defers : List (List Int)
  panics : List (List Int)
  deriving DecidableEq
def IsDump (d : DDump) (y : AV) : Prop := ∃ v0 v1 v2 v3 v4 v5 v6 v7, y = .agg [v0, v1, v2, .int .u8 d.ended.outcome, .int .i64 d.ended.failing, .int .i64 d.ended.steps, .int .u64 d.heap.base, v3, v4, v5, v6, v7] ∧ IsSl IsTyp 4 d.image.types v0 ∧ IsSl IsStr 1 d.image.texts v1 ∧ IsSl IsFunc 7 d.image.funcs v2 ∧ IsSl IsByte 1 d.heap.bytes v3 ∧ IsSl IsRegion 2 d.stacks v4 ∧ IsSl IsRoutine 6 d.routines v5 ∧ IsSl (IsSl (IsK .u64) 1) 1 d.defers v6 ∧ IsSl (IsSl (IsK .u64) 1) 1 d.panics v7
structure WfDump (d : DDump) : Prop where
  image : WfImage d.image
  ended : WfEnded d.ended
  heap : WfRegion d.heap
  stacks : ∀ x ∈ d.stacks, WfRegion x
  routines : ∀ x ∈ d.routines, WfRoutine x
  defers : ∀ l ∈ d.defers, ∀ x ∈ l, inU64 x
  panics : ∀ l ∈ d.panics, ∀ x ∈ l, inU64 x
theorem IsDump.agg {d : DDump} {y : AV} (h : IsDump d y) : takeV true 12 y.cells = some y ∧ y.cells.length = 12 := by
  obtain ⟨v0, v1, v2, v3, v4, v5, v6, v7, rfl, _, _, _, _, _, _, _, _⟩ := h
  exact ⟨rfl, rfl⟩
structure DSection where
  kind : Int
  data : List UInt8
  deriving DecidableEq
def IsSection (d : DSection) (y : AV) : Prop := ∃ v0, y = .agg [.int .u8 d.kind, v0] ∧ IsSl IsByte 1 d.data v0
structure WfSection (d : DSection) : Prop where
  kind : inU8 d.kind
  data : ∀ x ∈ d.data, True
theorem IsSection.agg {d : DSection} {y : AV} (h : IsSection d y) : takeV true 2 y.cells = some y ∧ y.cells.length = 2 := by
  obtain ⟨v0, rfl, _⟩ := h
  exact ⟨rfl, rfl⟩
structure DFrame where
  start : Int
  func : Int
  at_ : Int
  code : Int
  size : Int
  mode : Int
  record : Int
  caller : Int
  deriving DecidableEq
def IsFrame (d : DFrame) (y : AV) : Prop := y = .agg [.int .u64 d.start, .int .i64 d.func, .int .i64 d.at_, .int .u64 d.code, .int .i64 d.size, .int .u64 d.mode, .int .u64 d.record, .int .u64 d.caller]
structure WfFrame (d : DFrame) : Prop where
  start : inU64 d.start
  func : in64 d.func
  at_ : in64 d.at_
  code : inU64 d.code
  size : in64 d.size
  mode : inU64 d.mode
  record : inU64 d.record
  caller : inU64 d.caller
theorem IsFrame.agg {d : DFrame} {y : AV} (h : IsFrame d y) : takeV true 8 y.cells = some y ∧ y.cells.length = 8 := by
  obtain rfl := h
  exact ⟨rfl, rfl⟩
end Go.Vs
