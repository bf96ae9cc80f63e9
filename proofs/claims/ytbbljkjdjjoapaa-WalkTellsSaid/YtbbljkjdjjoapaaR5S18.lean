/-
  R5S18
-/
import Derived.Test.YtbbljkjdjjoapaaR5S16
import Derived.Test.YtbbljkjdjjoapaaDt
namespace Go.Proofs.W
open Go.Vs
set_option linter.unusedSimpArgs false
set_option maxRecDepth 100000

def shapes : List (List UInt8) := [[119, 110, 45], [119, 116, 45], [119, 98, 45], [119, 45, 45], [119, 114, 45], [119, 114, 114], [119, 114, 102], [114, 102, 114], [114, 114, 45], [114, 114, 114], [105, 45, 45], [114, 105, 45], [114, 45, 45], [103, 99, 45], [99, 45, 45], [119, 119, 45], [45, 45, 45], [101, 45, 45], []]
theorem shp_mem (op : Int) : shp op ∈ shapes := by
  by_cases h : 0 ≤ op ∧ op ≤ 34
  · have hall : ∀ k : Fin 35, shp (k.val : Int) ∈ shapes := by decide +kernel
    have := hall ⟨op.toNat, by omega⟩
    rwa [show ((op.toNat : Nat) : Int) = op by omega] at this
  · have : shp op = [] := by
      unfold shp
      repeat rw [if_neg (by omega)]
    rw [this]; decide
theorem shp_len (op : Int) : shp op = [] ∨ ∃ a b c, shp op = [a, b, c] := by
  have h : ∀ s ∈ shapes, s = [] ∨ s.length = 3 := by decide
  rcases h _ (shp_mem op) with h | h
  · exact .inl h
  · right
    match hs : shp op, h with
    | [a, b, c], _ => exact ⟨a, b, c, rfl⟩

def letterOk (c : UInt8) : Prop := c = 45 ∨ c = 119 ∨ c = 114 ∨ c = 103 ∨ c = 101 ∨ c = 110 ∨ c = 116 ∨ c = 98 ∨ c = 102 ∨ c = 105 ∨ c = 99
instance (c : UInt8) : Decidable (letterOk c) := by unfold letterOk; exact inferInstance
def lettersB (s : List UInt8) : Bool := match s with
  | [a, b, c] => decide (letterOk a ∧ letterOk b ∧ letterOk c ∧ (cnt [a, b, c] ≤ 0 ↔ a = 45) ∧ (cnt [a, b, c] ≤ 1 ↔ b = 45) ∧ (cnt [a, b, c] ≤ 2 ↔ c = 45))
  | _ => true
theorem shp_letters {op : Int} {a b c : UInt8} (h : shp op = [a, b, c]) : letterOk a ∧ letterOk b ∧ letterOk c ∧ (cnt [a, b, c] ≤ 0 ↔ a = 45) ∧ (cnt [a, b, c] ≤ 1 ↔ b = 45) ∧ (cnt [a, b, c] ≤ 2 ↔ c = 45) := by
  have hall : ∀ s ∈ shapes, lettersB s = true := by decide
  have := hall _ (shp_mem op)
  rw [h] at this
  exact of_decide_eq_true this

def opn (x : DInstr) : Nat → Int
  | 0 => x.a
  | 1 => x.b
  | _ => x.c

def fitsK (c : UInt8) (n : Int) : Prop := lo c ≤ n ∧ n ≤ hi c
/-- An instruction is valid. -/
def InstrP (x : DInstr) : Prop := ∃ a b c, shp x.op = [a, b, c] ∧ fitsK a x.a ∧ fitsK b x.b ∧ fitsK c x.c
noncomputable def err06 (x : DInstr) : Int := if pb (InstrP x) then 0 else 8
theorem err06_bad {x : DInstr} (h : ¬ InstrP x) : err06 x = 8 := by unfold err06; rw [pb_false h]; rfl
theorem err06_ok {x : DInstr} (h : InstrP x) : err06 x = 0 := by unfold err06; rw [pb_true h]; rfl

theorem w_Fits (c : UInt8) (hc : letterOk c) (n : Int) (hn : in64 n) (m : Mem) : Okv tab F_wreckageref06_Fits [.int .u8 c.toNat, .int .i64 n] m (.bool (pb (fitsK c n))) := by
  refine okv_of t_wreckageref06_Fits ?_
  obtain ⟨stk, cur, nx, live, fl⟩ := m
  have hk : ∀ k : UInt8, (((c.toNat : Int)) = (k.toNat : Int)) ↔ c = k := fun k => by
    rw [Int.ofNat_inj, UInt8.toNat_inj]
  have e45 := hk 45
  have e119 := hk 119
  have e114 := hk 114
  have e103 := hk 103
  have e101 := hk 101
  have e116 := hk 116
  have e99 := hk 99
  have e98 := hk 98
  have e102 := hk 102
  have e105 := hk 105
  simp only [a_wreckageref06_Fits, go_sem, reduceIte, reduceCtorEq, Nat.reduceAdd, Nat.reduceSub, Nat.reduceEqDiff, Nat.reduceLeDiff, Nat.reduceBEq, Nat.reduceLT]
  repeat' ((first | refine Xc_by (fun hq => ?_) (fun hq => ?_) | refine Xgt_by (fun hq => ?_) (fun hq => ?_) | refine Xgf_by (fun hq => ?_) (fun hq => ?_) | refine Xut_by (fun hq => ?_) (fun hq => ?_) | refine Xuf_by (fun hq => ?_) (fun hq => ?_)) <;> simp only [go_sem, reduceIte, reduceCtorEq, Nat.reduceAdd, Nat.reduceSub, Nat.reduceEqDiff, Nat.reduceLeDiff, Nat.reduceBEq, Nat.reduceLT, hq])
  all_goals
    rw [leave_plain rfl rfl, Opt_some]
    refine ⟨⟨_, rfl⟩, congrArg AV.bool (pb_eq ?_)⟩
    unfold in64 at hn
    simp only [decide_eq_true_eq, decide_eq_false_iff_not, beq_iff_eq, beq_eq_false_iff_ne, ne_eq] at *
    unfold letterOk at hc
    rcases hc with rfl | rfl | rfl | rfl | rfl | rfl | rfl | rfl | rfl | rfl | rfl <;> first | (exfalso; simp_all; done) | (unfold fitsK; simp only [lo, hi]; simp; omega)

theorem w_ref_Operands (x : DInstr) (m : Mem) : Okv tab F_wreckageref06_Operands [.agg [.int .u8 x.op, .int .i64 x.a, .int .i64 x.b, .int .i64 x.c]] m (.agg [.int .i64 x.a, .int .i64 x.b, .int .i64 x.c]) := by
  refine okv_of t_wreckageref06_Operands ?_
  obtain ⟨stk, cur, nx, live, fl⟩ := m
  simp only [a_wreckageref06_Operands, go_sem, reduceIte, reduceCtorEq, Nat.reduceAdd, Nat.reduceSub, Nat.reduceEqDiff, Nat.reduceLeDiff, Nat.reduceBEq, Nat.reduceLT, evBuild]
  rw [leave_plain rfl rfl, Opt_some]
  exact ⟨⟨_, rfl⟩, rfl⟩
theorem w_ops_operands (x : DInstr) (m : Mem) : Okv tab F_ops_operands [.agg [.int .u8 x.op, .int .i64 x.a, .int .i64 x.b, .int .i64 x.c]] m (.agg [.int .i64 x.a, .int .i64 x.b, .int .i64 x.c]) := by
  refine okv_of t_ops_operands ?_
  obtain ⟨stk, cur, nx, live, fl⟩ := m
  simp only [a_ops_operands, go_sem, reduceIte, reduceCtorEq, Nat.reduceAdd, Nat.reduceSub, Nat.reduceEqDiff, Nat.reduceLeDiff, Nat.reduceBEq, Nat.reduceLT, evBuild]
  rw [leave_plain rfl rfl, Opt_some]
  exact ⟨⟨_, rfl⟩, rfl⟩

theorem i0 : idx (.int .i64 0) 3 = some 0 := rfl
theorem i1 : idx (.int .i64 1) 3 = some 1 := rfl
theorem i2 : idx (.int .i64 2) 3 = some 2 := rfl
theorem w01 : IntKind.i64.wrap (0 + 1) = 1 := rfl
theorem w12 : IntKind.i64.wrap (1 + 1) = 2 := rfl
theorem w23 : IntKind.i64.wrap (2 + 1) = 3 := rfl
theorem l03 : ((0 : Int) < 3) = True := eq_true (by decide)
theorem l13 : ((1 : Int) < 3) = True := eq_true (by decide)
theorem l23 : ((2 : Int) < 3) = True := eq_true (by decide)
theorem l33 : ((3 : Int) < 3) = False := eq_false (by decide)

theorem instr_iff {x : DInstr} {a b c : UInt8} (h : shp x.op = [a, b, c]) : InstrP x ↔ fitsK a x.a ∧ fitsK b x.b ∧ fitsK c x.c := by
  unfold InstrP
  rw [h]
  constructor
  · rintro ⟨a', b', c', e, h1⟩
    injection e with e1 e; injection e with e2 e; injection e with e3 e
    subst e1; subst e2; subst e3
    exact h1
  · exact fun h1 => ⟨a, b, c, rfl, h1⟩

def WfI (x : DInstr) : Prop := in64 x.a ∧ in64 x.b ∧ in64 x.c

set_option maxHeartbeats 4000000 in
theorem w_ref06_Check (x : DInstr) (hw : WfI x) (m : Mem) : Okv tab F_wreckageref06_Check [.agg [.int .u8 x.op, .int .i64 x.a, .int .i64 x.b, .int .i64 x.c]] m (.int .i64 (err06 x)) := by
  refine okv_of t_wreckageref06_Check ?_
  obtain ⟨stk, cur, nx, live, fl⟩ := m
  simp only [a_wreckageref06_Check, go_sem, reduceIte, reduceCtorEq, Nat.reduceAdd, Nat.reduceSub, Nat.reduceEqDiff, Nat.reduceLeDiff, Nat.reduceBEq, Nat.reduceLT]
  rcases shp_len x.op with hs | ⟨a, b, c, hs⟩
  · simp only [go_sem, reduceIte, reduceCtorEq, Nat.reduceAdd, Nat.reduceSub, Nat.reduceEqDiff, Nat.reduceLeDiff, Nat.reduceBEq, Nat.reduceLT, (w_Shape x.op _).eq, (w_ref_Operands x _).eq, hs, show ((((0 : Nat)) : Int) != 3) = true from rfl]
    rw [leave_plain rfl rfl, Opt_some]
    exact ⟨⟨_, rfl⟩, by rw [err06_bad]; rintro ⟨a, b, c, h, _⟩; rw [hs] at h; cases h⟩
  · obtain ⟨ha, hb, hc, _⟩ := shp_letters hs
    simp only [go_sem, reduceIte, reduceCtorEq, Nat.reduceAdd, Nat.reduceSub, Nat.reduceEqDiff, Nat.reduceLeDiff, Nat.reduceBEq, Nat.reduceLT, (w_Shape x.op _).eq, (w_ref_Operands x _).eq, hs, show ((((3 : Nat)) : Int) != 3) = false from rfl]
    rw [XL_once]
    simp only [go_sem, reduceIte, reduceCtorEq, Nat.reduceAdd, Nat.reduceSub, Nat.reduceEqDiff, Nat.reduceLeDiff, Nat.reduceBEq, Nat.reduceLT, l03, i0, evIaddrA, Nat.reduceMul, Nat.mul_zero, Nat.zero_mul]
    by_cases hf1 : fitsK a x.a
    case neg =>
      simp only [go_sem, reduceIte, reduceCtorEq, Nat.reduceAdd, Nat.reduceSub, Nat.reduceEqDiff, Nat.reduceLeDiff, Nat.reduceBEq, Nat.reduceLT, (w_Fits a ha x.a hw.1 _).eq, pb_false hf1]
      rw [leave_plain rfl rfl, Opt_some]
      exact ⟨⟨_, rfl⟩, by rw [err06_bad fun h' => hf1 ((instr_iff hs).1 h').1]⟩
    simp only [go_sem, reduceIte, reduceCtorEq, Nat.reduceAdd, Nat.reduceSub, Nat.reduceEqDiff, Nat.reduceLeDiff, Nat.reduceBEq, Nat.reduceLT, (w_Fits a ha x.a hw.1 _).eq, pb_true hf1, w01]
    rw [XL_once]
    simp only [go_sem, reduceIte, reduceCtorEq, Nat.reduceAdd, Nat.reduceSub, Nat.reduceEqDiff, Nat.reduceLeDiff, Nat.reduceBEq, Nat.reduceLT, l13, i1, evIaddrA, Nat.reduceMul, Nat.mul_one]
    by_cases hf2 : fitsK b x.b
    case neg =>
      simp only [go_sem, reduceIte, reduceCtorEq, Nat.reduceAdd, Nat.reduceSub, Nat.reduceEqDiff, Nat.reduceLeDiff, Nat.reduceBEq, Nat.reduceLT, (w_Fits b hb x.b hw.2.1 _).eq, pb_false hf2]
      rw [leave_plain rfl rfl, Opt_some]
      exact ⟨⟨_, rfl⟩, by rw [err06_bad fun h' => hf2 ((instr_iff hs).1 h').2.1]⟩
    simp only [go_sem, reduceIte, reduceCtorEq, Nat.reduceAdd, Nat.reduceSub, Nat.reduceEqDiff, Nat.reduceLeDiff, Nat.reduceBEq, Nat.reduceLT, (w_Fits b hb x.b hw.2.1 _).eq, pb_true hf2, w12]
    rw [XL_once]
    simp only [go_sem, reduceIte, reduceCtorEq, Nat.reduceAdd, Nat.reduceSub, Nat.reduceEqDiff, Nat.reduceLeDiff, Nat.reduceBEq, Nat.reduceLT, l23, i2, evIaddrA, Nat.reduceMul, Nat.mul_one]
    by_cases hf3 : fitsK c x.c
    case neg =>
      simp only [go_sem, reduceIte, reduceCtorEq, Nat.reduceAdd, Nat.reduceSub, Nat.reduceEqDiff, Nat.reduceLeDiff, Nat.reduceBEq, Nat.reduceLT, (w_Fits c hc x.c hw.2.2 _).eq, pb_false hf3]
      rw [leave_plain rfl rfl, Opt_some]
      exact ⟨⟨_, rfl⟩, by rw [err06_bad fun h' => hf3 ((instr_iff hs).1 h').2.2]⟩
    simp only [go_sem, reduceIte, reduceCtorEq, Nat.reduceAdd, Nat.reduceSub, Nat.reduceEqDiff, Nat.reduceLeDiff, Nat.reduceBEq, Nat.reduceLT, (w_Fits c hc x.c hw.2.2 _).eq, pb_true hf3, w23]
    rw [XL_once]
    simp only [go_sem, reduceIte, reduceCtorEq, Nat.reduceAdd, Nat.reduceSub, Nat.reduceEqDiff, Nat.reduceLeDiff, Nat.reduceBEq, Nat.reduceLT, l33]
    rw [leave_plain rfl rfl, Opt_some]
    exact ⟨⟨_, rfl⟩, by rw [err06_ok ((instr_iff hs).2 ⟨hf1, hf2, hf3⟩)]⟩

end Go.Proofs.W

namespace Go.Proofs.W
open Go.Vs
set_option linter.unusedSimpArgs false
set_option maxRecDepth 100000

theorem shape_eq {op : Int} {a b c : UInt8} (h : shp op = [a, b, c]) : shapeOf op = .tup [.agg [.int .i64 (lo a), .int .i64 (hi a), .bool (rd a), .bool (wt a), .int .i64 (lo b), .int .i64 (hi b), .bool (rd b), .bool (wt b), .int .i64 (lo c), .int .i64 (hi c), .bool (rd c), .bool (wt c)], .int .i64 (cnt [a, b, c])] := by
  unfold shapeOf; rw [h]; rfl
theorem shape_nil {op : Int} (h : shp op = []) : shapeOf op = .tup [.agg [.int .i64 0, .int .i64 0, .bool false, .bool false, .int .i64 0, .int .i64 0, .bool false, .bool false, .int .i64 0, .int .i64 0, .bool false, .bool false], .int .i64 (-1)] := by
  unfold shapeOf; rw [if_pos h]; rfl
theorem cnt_nonneg (s : List UInt8) : ¬ cnt s < 0 := by unfold cnt; omega

set_option maxHeartbeats 4000000 in
theorem w_ops_Check (x : DInstr) (m : Mem) (hf : m.floor ≤ m.stk.length + 1) : Okv tab F_ops_Check [.agg [.int .u8 x.op, .int .i64 x.a, .int .i64 x.b, .int .i64 x.c]] m (.int .i64 (err06 x)) := by
  refine okv_of t_ops_Check ?_
  obtain ⟨stk, cur, nx, live, fl⟩ := m
  dsimp only at hf
  have hS := fun c nz lv => (w_ops_shape x.op ⟨stk ++ [cur], c, nz, lv, fl⟩ (by simp; omega)).eq
  simp only [a_ops_Check, go_sem, reduceIte, reduceCtorEq, Nat.reduceAdd, Nat.reduceSub, Nat.reduceEqDiff, Nat.reduceLeDiff, Nat.reduceBEq, Nat.reduceLT, hS]
  rcases shp_len x.op with hs | ⟨a, b, c, hs⟩
  · simp only [go_sem, reduceIte, reduceCtorEq, Nat.reduceAdd, Nat.reduceSub, Nat.reduceEqDiff, Nat.reduceLeDiff, Nat.reduceBEq, Nat.reduceLT, shape_nil hs, show ((-1 : Int) < 0) = True from eq_true (by decide)]
    rw [leave_plain rfl rfl, Opt_some]
    exact ⟨⟨_, rfl⟩, by rw [err06_bad]; rintro ⟨a, b, c, h, _⟩; rw [hs] at h; cases h⟩
  · simp only [go_sem, reduceIte, reduceCtorEq, Nat.reduceAdd, Nat.reduceSub, Nat.reduceEqDiff, Nat.reduceLeDiff, Nat.reduceBEq, Nat.reduceLT, shape_eq hs, cnt_nonneg, (w_ops_operands x _).eq]
    rw [XL_once]
    simp only [go_sem, reduceIte, reduceCtorEq, Nat.reduceAdd, Nat.reduceSub, Nat.reduceEqDiff, Nat.reduceLeDiff, Nat.reduceBEq, Nat.reduceLT, l03, i0, evIaddrA, Nat.reduceMul, Nat.mul_zero, Nat.zero_mul]
    by_cases hl1 : x.a < lo a
    · simp only [go_sem, reduceIte, reduceCtorEq, Nat.reduceAdd, Nat.reduceSub, Nat.reduceEqDiff, Nat.reduceLeDiff, Nat.reduceBEq, Nat.reduceLT, hl1]
      rw [leave_plain rfl rfl, Opt_some]
      exact ⟨⟨_, rfl⟩, by rw [err06_bad fun h' => by have := ((instr_iff hs).1 h').1; unfold fitsK at this; omega]⟩
    by_cases hh1 : x.a > hi a
    · simp only [go_sem, reduceIte, reduceCtorEq, Nat.reduceAdd, Nat.reduceSub, Nat.reduceEqDiff, Nat.reduceLeDiff, Nat.reduceBEq, Nat.reduceLT, hl1, i0, evIaddrA, Nat.reduceMul, Nat.mul_one, Nat.zero_mul, hh1]
      rw [leave_plain rfl rfl, Opt_some]
      exact ⟨⟨_, rfl⟩, by rw [err06_bad fun h' => by have := ((instr_iff hs).1 h').1; unfold fitsK at this; omega]⟩
    simp only [go_sem, reduceIte, reduceCtorEq, Nat.reduceAdd, Nat.reduceSub, Nat.reduceEqDiff, Nat.reduceLeDiff, Nat.reduceBEq, Nat.reduceLT, hl1, i0, evIaddrA, Nat.reduceMul, Nat.mul_one, Nat.zero_mul, hh1, w01]
    rw [XL_once]
    simp only [go_sem, reduceIte, reduceCtorEq, Nat.reduceAdd, Nat.reduceSub, Nat.reduceEqDiff, Nat.reduceLeDiff, Nat.reduceBEq, Nat.reduceLT, l13, i1, evIaddrA, Nat.reduceMul, Nat.mul_one]
    by_cases hl2 : x.b < lo b
    · simp only [go_sem, reduceIte, reduceCtorEq, Nat.reduceAdd, Nat.reduceSub, Nat.reduceEqDiff, Nat.reduceLeDiff, Nat.reduceBEq, Nat.reduceLT, hl2]
      rw [leave_plain rfl rfl, Opt_some]
      exact ⟨⟨_, rfl⟩, by rw [err06_bad fun h' => by have := ((instr_iff hs).1 h').2.1; unfold fitsK at this; omega]⟩
    by_cases hh2 : x.b > hi b
    · simp only [go_sem, reduceIte, reduceCtorEq, Nat.reduceAdd, Nat.reduceSub, Nat.reduceEqDiff, Nat.reduceLeDiff, Nat.reduceBEq, Nat.reduceLT, hl2, i1, evIaddrA, Nat.reduceMul, Nat.mul_one, Nat.zero_mul, hh2]
      rw [leave_plain rfl rfl, Opt_some]
      exact ⟨⟨_, rfl⟩, by rw [err06_bad fun h' => by have := ((instr_iff hs).1 h').2.1; unfold fitsK at this; omega]⟩
    simp only [go_sem, reduceIte, reduceCtorEq, Nat.reduceAdd, Nat.reduceSub, Nat.reduceEqDiff, Nat.reduceLeDiff, Nat.reduceBEq, Nat.reduceLT, hl2, i1, evIaddrA, Nat.reduceMul, Nat.mul_one, Nat.zero_mul, hh2, w12]
    rw [XL_once]
    simp only [go_sem, reduceIte, reduceCtorEq, Nat.reduceAdd, Nat.reduceSub, Nat.reduceEqDiff, Nat.reduceLeDiff, Nat.reduceBEq, Nat.reduceLT, l23, i2, evIaddrA, Nat.reduceMul, Nat.mul_one]
    by_cases hl3 : x.c < lo c
    · simp only [go_sem, reduceIte, reduceCtorEq, Nat.reduceAdd, Nat.reduceSub, Nat.reduceEqDiff, Nat.reduceLeDiff, Nat.reduceBEq, Nat.reduceLT, hl3]
      rw [leave_plain rfl rfl, Opt_some]
      exact ⟨⟨_, rfl⟩, by rw [err06_bad fun h' => by have := ((instr_iff hs).1 h').2.2; unfold fitsK at this; omega]⟩
    by_cases hh3 : x.c > hi c
    · simp only [go_sem, reduceIte, reduceCtorEq, Nat.reduceAdd, Nat.reduceSub, Nat.reduceEqDiff, Nat.reduceLeDiff, Nat.reduceBEq, Nat.reduceLT, hl3, i2, evIaddrA, Nat.reduceMul, Nat.mul_one, Nat.zero_mul, hh3]
      rw [leave_plain rfl rfl, Opt_some]
      exact ⟨⟨_, rfl⟩, by rw [err06_bad fun h' => by have := ((instr_iff hs).1 h').2.2; unfold fitsK at this; omega]⟩
    simp only [go_sem, reduceIte, reduceCtorEq, Nat.reduceAdd, Nat.reduceSub, Nat.reduceEqDiff, Nat.reduceLeDiff, Nat.reduceBEq, Nat.reduceLT, hl3, i2, evIaddrA, Nat.reduceMul, Nat.mul_one, Nat.zero_mul, hh3, w23]
    rw [XL_once]
    simp only [go_sem, reduceIte, reduceCtorEq, Nat.reduceAdd, Nat.reduceSub, Nat.reduceEqDiff, Nat.reduceLeDiff, Nat.reduceBEq, Nat.reduceLT, l33]
    rw [leave_plain rfl rfl, Opt_some]
    exact ⟨⟨_, rfl⟩, by rw [err06_ok ((instr_iff hs).2 ⟨⟨by omega, by omega⟩, ⟨by omega, by omega⟩, ⟨by omega, by omega⟩⟩)]⟩

/-- An operand as bytes. -/
def codeOf (c : UInt8) (n : Int) : List UInt8 := if c = 45 then [] else if c = 110 ∨ c = 103 ∨ c = 101 then minimal (zigzag n) else minimal n.toNat
/-- The letter of an operand. -/
def sk (x : DInstr) (k : Nat) : UInt8 := (shp x.op).getD k 45
/-- An instruction as bytes, up to one of its operands. -/
def cod6k (x : DInstr) : Nat → List UInt8
  | 0 => [UInt8.ofNat x.op.toNat]
  | k + 1 => cod6k x k ++ codeOf (sk x k) (opn x k)
def cod6 (x : DInstr) : List UInt8 := cod6k x 3

theorem lo_neg {c : UInt8} (h : letterOk c) : lo c < 0 ↔ (c = 110 ∨ c = 103 ∨ c = 101) := by
  unfold letterOk at h
  rcases h with rfl | rfl | rfl | rfl | rfl | rfl | rfl | rfl | rfl | rfl | rfl <;> decide

theorem w_Signed06 (c : UInt8) (m : Mem) : Okv tab F_wreckageref06_Signed [.int .u8 c.toNat] m (.bool (decide (c = 110 ∨ c = 103 ∨ c = 101))) := by
  refine okv_of t_wreckageref06_Signed ?_
  obtain ⟨stk, cur, nx, live, fl⟩ := m
  have hk : ∀ k : UInt8, (((c.toNat : Int)) = (k.toNat : Int)) ↔ c = k := fun k => by
    rw [Int.ofNat_inj, UInt8.toNat_inj]
  have e110 := hk 110
  have e103 := hk 103
  have e101 := hk 101
  simp only [a_wreckageref06_Signed, go_sem, reduceIte, reduceCtorEq, Nat.reduceAdd, Nat.reduceSub, Nat.reduceEqDiff, Nat.reduceLeDiff, Nat.reduceBEq, Nat.reduceLT]
  repeat' ((first | refine Xc_by (fun hq => ?_) (fun hq => ?_) | refine Xgt_by (fun hq => ?_) (fun hq => ?_) | refine Xgf_by (fun hq => ?_) (fun hq => ?_) | refine Xut_by (fun hq => ?_) (fun hq => ?_) | refine Xuf_by (fun hq => ?_) (fun hq => ?_)) <;> simp only [go_sem, reduceIte, reduceCtorEq, Nat.reduceAdd, Nat.reduceSub, Nat.reduceEqDiff, Nat.reduceLeDiff, Nat.reduceBEq, Nat.reduceLT, hq])
  all_goals
    rw [leave_plain rfl rfl, Opt_some]
    refine ⟨⟨_, rfl⟩, congrArg AV.bool ?_⟩
    simp only [beq_iff_eq, beq_eq_false_iff_ne, ne_eq] at *
    rw [Bool.eq_iff_iff]
    simp_all

theorem isByte_nat {a : Int} (h : 0 ≤ a ∧ a < 256) : IsByte (UInt8.ofNat a.toNat) (.int .u8 a) := by
  have := isByte_u8 (a := a.toNat) (by omega)
  rwa [show ((a.toNat : Nat) : Int) = a by omega] at this

theorem codeOf_len {c : UInt8} {n : Int} (hc : letterOk c) (hf : fitsK c n) (hn : in64 n) : (codeOf c n).length ≤ 10 := by
  unfold codeOf
  split
  · simp
  · split
    · exact minimal_ten (zigzag_lt hn)
    · exact minimal_ten (by unfold in64 at hn; omega)

theorem fits_pos {c : UInt8} {n : Int} (hc : letterOk c) (hf : fitsK c n) (hs : ¬ (c = 110 ∨ c = 103 ∨ c = 101)) : 0 ≤ n := by
  have h1 : ¬ lo c < 0 := fun h => hs ((lo_neg hc).1 h)
  unfold fitsK at hf; omega

theorem three {k : Nat} (h : k < 3) : k = 0 ∨ k = 1 ∨ k = 2 := by omega
theorem instr_at {x : DInstr} {a b c : UInt8} (hs : shp x.op = [a, b, c]) (h : InstrP x) (hw : WfI x) {k : Nat} (hk : k < 3) : letterOk (sk x k) ∧ fitsK (sk x k) (opn x k) ∧ in64 (opn x k) ∧ (cnt [a, b, c] ≤ k ↔ sk x k = 45) ∧ [a, b, c][k]? = some (sk x k) := by
  obtain ⟨f1, f2, f3⟩ := (instr_iff hs).1 h
  obtain ⟨l1, l2, l3, c1, c2, c3⟩ := shp_letters hs
  obtain ⟨w1, w2, w3⟩ := hw
  unfold sk
  rw [hs]
  rcases three hk with rfl | rfl | rfl
  · exact ⟨l1, f1, w1, c1, rfl⟩
  · exact ⟨l2, f2, w2, c2, rfl⟩
  · exact ⟨l3, f3, w3, c3, rfl⟩
theorem cod6k_len {x : DInstr} {a b c : UInt8} (hs : shp x.op = [a, b, c]) (h : InstrP x) (hw : WfI x) : ∀ k, k ≤ 3 → (cod6k x k).length ≤ 1 + 10 * k
  | 0, _ => by simp [cod6k]
  | k + 1, hk => by
    have ih := cod6k_len hs h hw k (by omega)
    obtain ⟨h1, h2, h3, _⟩ := instr_at hs h hw (show k < 3 by omega)
    have := codeOf_len h1 h2 h3
    simp only [cod6k, List.length_append]; omega
theorem cell3 (x : DInstr) {k : Nat} (h : k < 3) : takeV false 1 (([AV.int .i64 x.a, .int .i64 x.b, .int .i64 x.c]).drop k) = some (.int .i64 (opn x k)) := by
  rcases three h with rfl | rfl | rfl <;> rfl
theorem cell12 {x : DInstr} {a b c : UInt8} (hs : shp x.op = [a, b, c]) {k : Nat} (h : k < 3) : takeV false 1 (([.int .i64 (lo a), .int .i64 (hi a), .bool (rd a), .bool (wt a), .int .i64 (lo b), .int .i64 (hi b), .bool (rd b), .bool (wt b), .int .i64 (lo c), .int .i64 (hi c), .bool (rd c), .bool (wt c)] : List AV).drop (k * 4)) = some (.int .i64 (lo (sk x k))) := by
  unfold sk; rw [hs]
  rcases three h with rfl | rfl | rfl <;> rfl

set_option maxHeartbeats 4000000 in
theorem w_ref06_Coded (x : DInstr) (hop : inU8 x.op) (hw : WfI x) (hx : InstrP x) (m : Mem) : Okl IsByte 1 tab F_wreckageref06_Coded [.agg [.int .u8 x.op, .int .i64 x.a, .int .i64 x.b, .int .i64 x.c]] m (cod6 x) := by
  refine okl_of t_wreckageref06_Coded ?_
  obtain ⟨stk, cur, nx, live, fl⟩ := m
  have hx' := hx
  obtain ⟨a, b, c, hs, _⟩ := hx'
  simp only [a_wreckageref06_Coded, go_sem, reduceIte, reduceCtorEq, Nat.reduceAdd, Nat.reduceSub, Nat.reduceEqDiff, Nat.reduceLeDiff, Nat.reduceBEq, Nat.reduceLT, (w_Shape x.op _).eq, (w_ref_Operands x _).eq, hs]
  refine XL_rule (α := Nat) (fun k σ => k ≤ 3 ∧ ∃ nz y e, Own IsByte 1 y (cod6k x k) e ∧ heads [3, 4, 5, 6] 2 σ = ⟨tmps 42 [(3, y), (4, .str [a, b, c]), (5, .ptr (stk ++ [cur]).length 1 (nx + 1) 0), (6, .int .i64 k)], ⟨stk ++ [cur], [⟨nx, [.int .u8 x.op, .int .i64 x.a, .int .i64 x.b, .int .i64 x.c]⟩, ⟨nx + 1, [.int .i64 x.a, .int .i64 x.b, .int .i64 x.c]⟩], nz, e :: live, fl⟩⟩) (fun k => 3 - k) 0 ?_ ?_
  · refine ⟨Nat.zero_le _, ?_⟩
    simp only [go_sem, reduceIte, reduceCtorEq, Nat.reduceAdd, Nat.reduceSub, Nat.reduceEqDiff, Nat.reduceLeDiff, Nat.reduceBEq, Nat.reduceLT]
    exact ⟨_, _, [], .full (all2_one (isByte_nat hop)) _, rfl⟩
  · rintro k σ ⟨hk, nz, y, e, ho, hσ⟩
    rw [hσ]
    clear hσ σ
    dsimp only at hk ⊢
    by_cases h : k < 3
    · skip
      obtain ⟨hlt, hfit, hin, hcnt, hget⟩ := instr_at hs hx hw h
      have hix : idx (.int .i64 (k : Int)) 3 = some k := idx_int .i64 k 3 h
      have hc3 := cell3 x h
      have hlen := cod6k_len hs hx hw k (by omega)
      have hcl := codeOf_len hlt hfit hin
      have hlt3 : ((k : Int) < 3) = True := eq_true (by omega)
      have hsucc : IntKind.i64.wrap ((k : Int) + 1) = ((k + 1 : Nat) : Int) := by rw [wrap_i64' (by omega) (by omega)]; omega
      simp only [go_sem, reduceIte, reduceCtorEq, Nat.reduceAdd, Nat.reduceSub, Nat.reduceEqDiff, Nat.reduceLeDiff, Nat.reduceBEq, Nat.reduceLT, hlt3, hix, hget]
      by_cases h45 : sk x k = 45
      · have h45' : (((sk x k).toNat : Int) == 45) = true := by rw [h45]; rfl
        simp only [go_sem, reduceIte, reduceCtorEq, Nat.reduceAdd, Nat.reduceSub, Nat.reduceEqDiff, Nat.reduceLeDiff, Nat.reduceBEq, Nat.reduceLT, h45', hsucc]
        refine ⟨k + 1, by omega, h, nz, y, e, ?_, rfl⟩
        rw [cod6k, codeOf, if_pos h45, List.append_nil]; exact ho
      · have h45' : (((sk x k).toNat : Int) == 45) = false := by
          rw [beq_eq_false_iff_ne]; intro e; apply h45; apply UInt8.toNat_inj.1; show (sk x k).toNat = 45; omega
        by_cases hsg : sk x k = 110 ∨ sk x k = 103 ∨ sk x k = 101
        · have hcode : codeOf (sk x k) (opn x k) = minimal (zigzag (opn x k)) := by unfold codeOf; rw [if_neg h45, if_pos hsg]
          simp only [go_sem, reduceIte, reduceCtorEq, Nat.reduceAdd, Nat.reduceSub, Nat.reduceEqDiff, Nat.reduceLeDiff, Nat.reduceBEq, Nat.reduceLT, h45', hix, hget, (w_Signed06 _ _).eq, hsg, evIaddrA, Nat.mul_one, hc3, (w_wreckageref02_Double _ hin _).eq]
          refine (w_wreckageref02_Minimal _ (zigzag_lt hin) _).xv fun y1 t1 k1 ho1 => ?_
          simp only [go_sem, reduceIte, reduceCtorEq, Nat.reduceAdd, Nat.reduceSub, Nat.reduceEqDiff, Nat.reduceLeDiff, Nat.reduceBEq, Nat.reduceLT]
          obtain ⟨z1, hz1, hc1⟩ := ho1.elems
          rw [← hcode] at hc1
          refine (ho.push t1).xv hz1 hc1 (by omega) fun y2 k2 e2 ho2 => ?_
          simp only [go_sem, reduceIte, reduceCtorEq, Nat.reduceAdd, Nat.reduceSub, Nat.reduceEqDiff, Nat.reduceLeDiff, Nat.reduceBEq, Nat.reduceLT, hsucc]
          exact ⟨k + 1, by omega, h, k2, y2, e2, ho2, rfl⟩
        · have hpos := fits_pos hlt hfit hsg
          have hcode : codeOf (sk x k) (opn x k) = minimal (opn x k).toNat := by unfold codeOf; rw [if_neg h45, if_neg hsg]
          have ew : IntKind.u64.wrap (opn x k) = (((opn x k).toNat : Nat) : Int) := by unfold in64 at hin; rw [wrap_u64 (by omega) (by omega)]; omega
          simp only [go_sem, reduceIte, reduceCtorEq, Nat.reduceAdd, Nat.reduceSub, Nat.reduceEqDiff, Nat.reduceLeDiff, Nat.reduceBEq, Nat.reduceLT, h45', hix, hget, (w_Signed06 _ _).eq, hsg, evIaddrA, Nat.mul_one, hc3, ew]
          refine (w_wreckageref02_Minimal _ (by unfold in64 at hin; omega) _).xv fun y1 t1 k1 ho1 => ?_
          simp only [go_sem, reduceIte, reduceCtorEq, Nat.reduceAdd, Nat.reduceSub, Nat.reduceEqDiff, Nat.reduceLeDiff, Nat.reduceBEq, Nat.reduceLT]
          obtain ⟨z1, hz1, hc1⟩ := ho1.elems
          rw [← hcode] at hc1
          refine (ho.push t1).xv hz1 hc1 (by omega) fun y2 k2 e2 ho2 => ?_
          simp only [go_sem, reduceIte, reduceCtorEq, Nat.reduceAdd, Nat.reduceSub, Nat.reduceEqDiff, Nat.reduceLeDiff, Nat.reduceBEq, Nat.reduceLT, hsucc]
          exact ⟨k + 1, by omega, h, k2, y2, e2, ho2, rfl⟩
    · have : k = 3 := by omega
      subst this
      simp only [go_sem, reduceIte, reduceCtorEq, Nat.reduceAdd, Nat.reduceSub, Nat.reduceEqDiff, Nat.reduceLeDiff, Nat.reduceBEq, Nat.reduceLT, show (((3 : Nat) : Int) < 3) = False from eq_false (by decide)]
      exact fin_own ho

set_option maxHeartbeats 4000000 in
theorem w_ops_Encode (x : DInstr) (hop : inU8 x.op) (hw : WfI x) (hx : InstrP x) (m : Mem) (hf : m.floor ≤ m.stk.length + 1) : Okp IsByte 1 tab F_ops_Encode [.agg [.int .u8 x.op, .int .i64 x.a, .int .i64 x.b, .int .i64 x.c]] m (cod6 x) 0 := by
  refine okp_of t_ops_Encode ?_
  obtain ⟨stk, cur, nx, live, fl⟩ := m
  dsimp only at hf
  have hf' : fl ≤ (stk ++ [cur]).length + 1 := by simp; omega
  have hx' := hx
  obtain ⟨a, b, c, hs, _⟩ := hx'
  have hS := fun c nz lv => (w_ops_shape x.op ⟨stk ++ [cur], c, nz, lv, fl⟩ hf').eq
  have hC := fun c nz lv => (w_ops_Check x ⟨stk ++ [cur], c, nz, lv, fl⟩ hf').eq
  rw [err06_ok hx] at hC
  simp only [a_ops_Encode, go_sem, reduceIte, reduceCtorEq, Nat.reduceAdd, Nat.reduceSub, Nat.reduceEqDiff, Nat.reduceLeDiff, Nat.reduceBEq, Nat.reduceLT, hC, show ((0 : Int) != 0) = false from rfl, hS, shape_eq hs, (w_ops_operands x _).eq]
  refine XL_rule (α := Nat) (fun k σ => k ≤ 3 ∧ ∃ nz st y e, Own IsByte 1 y (cod6k x k) e ∧ heads [5, 6, 7, 25, 26] 2 σ = ⟨tmps 51 [(5, .ptr (stk ++ [cur]).length 1 st 0), (6, .int .i64 (cnt [a, b, c])), (7, y), (25, .agg [.int .i64 x.a, .int .i64 x.b, .int .i64 x.c]), (26, .int .i64 k)], ⟨stk ++ [cur], [⟨nx, [.int .u8 x.op, .int .i64 x.a, .int .i64 x.b, .int .i64 x.c]⟩, ⟨st, [.int .i64 (lo a), .int .i64 (hi a), .bool (rd a), .bool (wt a), .int .i64 (lo b), .int .i64 (hi b), .bool (rd b), .bool (wt b), .int .i64 (lo c), .int .i64 (hi c), .bool (rd c), .bool (wt c)]⟩], nz, e :: live, fl⟩⟩) (fun k => 3 - k) 0 ?_ ?_
  · refine ⟨Nat.zero_le _, ?_⟩
    simp only [go_sem, reduceIte, reduceCtorEq, Nat.reduceAdd, Nat.reduceSub, Nat.reduceEqDiff, Nat.reduceLeDiff, Nat.reduceBEq, Nat.reduceLT]
    exact ⟨_, _, _, [], .full (all2_one (isByte_nat hop)) _, rfl⟩
  · rintro k σ ⟨hk, nz, st, y, e, ho, hσ⟩
    rw [hσ]
    clear hσ σ
    dsimp only at hk ⊢
    by_cases h : k < 3
    · skip
      obtain ⟨hlt, hfit, hin, hcnt, hget⟩ := instr_at hs hx hw h
      have hix : idx (.int .i64 (k : Int)) 3 = some k := idx_int .i64 k 3 h
      have hc3 := cell3 x h
      have hlen := cod6k_len hs hx hw k (by omega)
      have hcl := codeOf_len hlt hfit hin
      have hlt3 : ((k : Int) < 3) = True := eq_true (by omega)
      have hsucc : IntKind.i64.wrap ((k : Int) + 1) = ((k + 1 : Nat) : Int) := by rw [wrap_i64' (by omega) (by omega)]; omega
      have hc12 := cell12 hs h
      by_cases h45 : sk x k = 45
      · have hge : (k : Int) ≥ cnt [a, b, c] := hcnt.2 h45
        simp only [go_sem, reduceIte, reduceCtorEq, Nat.reduceAdd, Nat.reduceSub, Nat.reduceEqDiff, Nat.reduceLeDiff, Nat.reduceBEq, Nat.reduceLT, hlt3, hix, Nat.mul_one, hc3, hge, hsucc]
        refine ⟨k + 1, by omega, h, nz, st, y, e, ?_, rfl⟩
        rw [cod6k, codeOf, if_pos h45, List.append_nil]; exact ho
      · have hge : ¬ ((k : Int) ≥ cnt [a, b, c]) := fun e => h45 (hcnt.1 e)
        by_cases hsg : sk x k = 110 ∨ sk x k = 103 ∨ sk x k = 101
        · have hcode : codeOf (sk x k) (opn x k) = minimal (zigzag (opn x k)) := by unfold codeOf; rw [if_neg h45, if_pos hsg]
          have hneg := (lo_neg hlt).2 hsg
          simp only [go_sem, reduceIte, reduceCtorEq, Nat.reduceAdd, Nat.reduceSub, Nat.reduceEqDiff, Nat.reduceLeDiff, Nat.reduceBEq, Nat.reduceLT, hlt3, hix, Nat.mul_one, hc3, hge, evIaddrA, hc12, hneg]
          refine (w_wire_Signed _ hin _ _ _ _ _ hf').xv fun y1 t1 k1 ho1 => ?_
          simp only [go_sem, reduceIte, reduceCtorEq, Nat.reduceAdd, Nat.reduceSub, Nat.reduceEqDiff, Nat.reduceLeDiff, Nat.reduceBEq, Nat.reduceLT]
          obtain ⟨z1, hz1, hc1⟩ := ho1.elems
          rw [← hcode] at hc1
          refine (ho.push t1).xv hz1 hc1 (by omega) fun y2 k2 e2 ho2 => ?_
          simp only [go_sem, reduceIte, reduceCtorEq, Nat.reduceAdd, Nat.reduceSub, Nat.reduceEqDiff, Nat.reduceLeDiff, Nat.reduceBEq, Nat.reduceLT, hsucc]
          exact ⟨k + 1, by omega, h, k2, st, y2, e2, ho2, rfl⟩
        · have hpos := fits_pos hlt hfit hsg
          have hneg : ¬ lo (sk x k) < 0 := fun e => hsg ((lo_neg hlt).1 e)
          have hcode : codeOf (sk x k) (opn x k) = minimal (opn x k).toNat := by unfold codeOf; rw [if_neg h45, if_neg hsg]
          have ew : IntKind.u64.wrap (opn x k) = (((opn x k).toNat : Nat) : Int) := by unfold in64 at hin; rw [wrap_u64 (by omega) (by omega)]; omega
          simp only [go_sem, reduceIte, reduceCtorEq, Nat.reduceAdd, Nat.reduceSub, Nat.reduceEqDiff, Nat.reduceLeDiff, Nat.reduceBEq, Nat.reduceLT, hlt3, hix, Nat.mul_one, hc3, hge, evIaddrA, hc12, hneg, ew]
          refine (w_wire_Vary _ (by unfold in64 at hin; omega) _ _ _ _ _ hf').xv fun y1 t1 k1 ho1 => ?_
          simp only [go_sem, reduceIte, reduceCtorEq, Nat.reduceAdd, Nat.reduceSub, Nat.reduceEqDiff, Nat.reduceLeDiff, Nat.reduceBEq, Nat.reduceLT]
          obtain ⟨z1, hz1, hc1⟩ := ho1.elems
          rw [← hcode] at hc1
          refine (ho.push t1).xv hz1 hc1 (by omega) fun y2 k2 e2 ho2 => ?_
          simp only [go_sem, reduceIte, reduceCtorEq, Nat.reduceAdd, Nat.reduceSub, Nat.reduceEqDiff, Nat.reduceLeDiff, Nat.reduceBEq, Nat.reduceLT, hsucc]
          exact ⟨k + 1, by omega, h, k2, st, y2, e2, ho2, rfl⟩
    · have : k = 3 := by omega
      subst this
      simp only [go_sem, reduceIte, reduceCtorEq, Nat.reduceAdd, Nat.reduceSub, Nat.reduceEqDiff, Nat.reduceLeDiff, Nat.reduceBEq, Nat.reduceLT, show (((3 : Nat) : Int) < 3) = False from eq_false (by decide)]
      exact fin_pair ho

end Go.Proofs.W
