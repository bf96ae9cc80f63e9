/-
  R5S16
-/
import Derived.Test.YtbbljkjdjjoapaaR5S1
namespace Go.Proofs.W
open Go.Vs
set_option linter.unusedSimpArgs false
set_option maxRecDepth 100000

/-- What the operands of an operation are, a letter each. -/
def shp (op : Int) : List UInt8 :=
  if op = 1 then [119, 110, 45] else if op = 2 then [119, 116, 45] else if op = 3 then [119, 98, 45] else if op = 4 ∨ op = 15 then [119, 45, 45]
  else if op = 5 ∨ op = 12 ∨ op = 16 ∨ op = 18 ∨ op = 21 ∨ op = 33 then [119, 114, 45]
  else if op = 6 ∨ op = 7 ∨ op = 8 ∨ op = 9 ∨ op = 10 ∨ op = 11 ∨ op = 19 then [119, 114, 114]
  else if op = 13 then [119, 114, 102] else if op = 14 then [114, 102, 114] else if op = 17 then [114, 114, 45] else if op = 20 then [114, 114, 114]
  else if op = 22 then [105, 45, 45] else if op = 23 then [114, 105, 45] else if op = 24 ∨ op = 28 ∨ op = 32 then [114, 45, 45] else if op = 25 then [103, 99, 45]
  else if op = 26 ∨ op = 27 then [99, 45, 45] else if op = 29 then [119, 119, 45] else if op = 30 ∨ op = 31 then [45, 45, 45] else if op = 34 then [101, 45, 45] else []

set_option maxHeartbeats 8000000 in
theorem w_Shape (op : Int) (m : Mem) : Okv tab F_wreckageref06_Shape [.int .u8 op] m (.str (shp op)) := by
  refine okv_of t_wreckageref06_Shape ?_
  obtain ⟨stk, cur, nx, live, fl⟩ := m
  simp only [a_wreckageref06_Shape, go_sem, reduceIte, reduceCtorEq, Nat.reduceAdd, Nat.reduceSub, Nat.reduceEqDiff, Nat.reduceLeDiff, Nat.reduceBEq, Nat.reduceLT]
  repeat' ((first | refine Xc_by (fun hq => ?_) (fun hq => ?_) | refine Xgt_by (fun hq => ?_) (fun hq => ?_) | refine Xgf_by (fun hq => ?_) (fun hq => ?_) | refine Xut_by (fun hq => ?_) (fun hq => ?_) | refine Xuf_by (fun hq => ?_) (fun hq => ?_)) <;> simp only [go_sem, reduceIte, reduceCtorEq, Nat.reduceAdd, Nat.reduceSub, Nat.reduceEqDiff, Nat.reduceLeDiff, Nat.reduceBEq, Nat.reduceLT, hq])
  all_goals
    rw [leave_plain rfl rfl, Opt_some]
    refine ⟨⟨_, rfl⟩, ?_⟩
    simp only [beq_iff_eq, beq_eq_false_iff_ne] at *
    unfold shp
    first | (subst op; rfl) | (simp [*]; done)

end Go.Proofs.W

namespace Go.Proofs.W
open Go.Vs
set_option linter.unusedSimpArgs false
set_option maxRecDepth 100000

theorem call_xv {tab : Nat → Option AFunc} {f : Nat} {args : List AV} {m m' : Mem} {v : AV} {d : Option Nat} {l : List AOper} {ρ : List AV} {k : Kont} (h : CALL tab f args m = some (v, m')) (q : Xs tab l (setDst ρ d v) m' k) : Xv tab (CALL tab f args m) d l ρ k := by
  rw [h, Xv_some]; exact q

def U (lo hi : Int) (r w : Bool) : List AV := [.int .i64 lo, .int .i64 hi, .bool r, .bool w]
theorem sink_nil (j : Nat) (l : List (List Nat)) : sink j [] l = l := rfl

theorem w_read (m : Mem) : Okv tab F_ops_read [] m (.agg (U 0 15 true false)) := by
  refine okv_of t_ops_read ?_
  obtain ⟨stk, cur, nx, live, fl⟩ := m
  simp only [a_ops_read, go_sem, reduceIte, reduceCtorEq, Nat.reduceAdd, Nat.reduceSub, Nat.reduceEqDiff, Nat.reduceLeDiff, Nat.reduceBEq, Nat.reduceLT, evBuild]
  rw [leave_plain rfl rfl, Opt_some]
  exact ⟨⟨_, rfl⟩, rfl⟩
theorem w_write (m : Mem) : Okv tab F_ops_write [] m (.agg (U 0 15 false true)) := by
  refine okv_of t_ops_write ?_
  obtain ⟨stk, cur, nx, live, fl⟩ := m
  simp only [a_ops_write, go_sem, reduceIte, reduceCtorEq, Nat.reduceAdd, Nat.reduceSub, Nat.reduceEqDiff, Nat.reduceLeDiff, Nat.reduceBEq, Nat.reduceLT, evBuild]
  rw [leave_plain rfl rfl, Opt_some]
  exact ⟨⟨_, rfl⟩, rfl⟩
theorem w_whole (m : Mem) : Okv tab F_ops_whole [] m (.agg (U (-9223372036854775808) 9223372036854775807 false false)) := by
  refine okv_of t_ops_whole ?_
  obtain ⟨stk, cur, nx, live, fl⟩ := m
  simp only [a_ops_whole, go_sem, reduceIte, reduceCtorEq, Nat.reduceAdd, Nat.reduceSub, Nat.reduceEqDiff, Nat.reduceLeDiff, Nat.reduceBEq, Nat.reduceLT, evBuild]
  rw [leave_plain rfl rfl, Opt_some]
  exact ⟨⟨_, rfl⟩, rfl⟩
theorem w_below (n : Int) (hn : 0 ≤ n ∧ n ≤ 1000) (m : Mem) : Okv tab F_ops_below [.int .i64 n] m (.agg (U 0 (n - 1) false false)) := by
  refine okv_of t_ops_below ?_
  obtain ⟨stk, cur, nx, live, fl⟩ := m
  simp only [a_ops_below, go_sem, reduceIte, reduceCtorEq, Nat.reduceAdd, Nat.reduceSub, Nat.reduceEqDiff, Nat.reduceLeDiff, Nat.reduceBEq, Nat.reduceLT, evBuild, wrap_i64' (n := n - 1) (by omega) (by omega)]
  rw [leave_plain rfl rfl, Opt_some]
  exact ⟨⟨_, rfl⟩, rfl⟩

theorem w_shape1_1 (a b : Int) (c d : Bool) (stk : List (List Blk)) (st st2 nx fl : Nat) (live : List (List Nat)) (hf : fl ≤ stk.length) :
    CALL tab F_ops_shape_1 [.list 4 .full [.agg (U a b c d)], .ptr stk.length 0 st 0, .ptr stk.length 1 st2 0] ⟨stk, [⟨st, U 0 0 false false ++ U 0 0 false false ++ U 0 0 false false⟩, ⟨st2, [.int .i64 0]⟩], nx, live, fl⟩ =
      some (.tup [], ⟨stk, [⟨st, U a b c d ++ U 0 0 false false ++ U 0 0 false false⟩, ⟨st2, [.int .i64 1]⟩], callNx tab F_ops_shape_1 [.list 4 .full [.agg (U a b c d)], .ptr stk.length 0 st 0, .ptr stk.length 1 st2 0] ⟨stk, [⟨st, U 0 0 false false ++ U 0 0 false false ++ U 0 0 false false⟩, ⟨st2, [.int .i64 0]⟩], nx, live, fl⟩, live, fl⟩) := by
  suffices h : ∃ k, CALL tab F_ops_shape_1 [.list 4 .full [.agg (U a b c d)], .ptr stk.length 0 st 0, .ptr stk.length 1 st2 0] ⟨stk, [⟨st, U 0 0 false false ++ U 0 0 false false ++ U 0 0 false false⟩, ⟨st2, [.int .i64 0]⟩], nx, live, fl⟩ = some (.tup [], ⟨stk, [⟨st, U a b c d ++ U 0 0 false false ++ U 0 0 false false⟩, ⟨st2, [.int .i64 1]⟩], k, live, fl⟩) by
    obtain ⟨k, h⟩ := h
    rw [h]; unfold callNx; rw [h]
  suffices h : Does tab F_ops_shape_1 [.list 4 .full [.agg (U a b c d)], .ptr stk.length 0 st 0, .ptr stk.length 1 st2 0] ⟨stk, [⟨st, U 0 0 false false ++ U 0 0 false false ++ U 0 0 false false⟩, ⟨st2, [.int .i64 0]⟩], nx, live, fl⟩ fun v m' => ∃ k, v = .tup [] ∧ m' = ⟨stk, [⟨st, U a b c d ++ U 0 0 false false ++ U 0 0 false false⟩, ⟨st2, [.int .i64 1]⟩], k, live, fl⟩ by
    obtain ⟨x, h1, k, h2, h3⟩ := h
    exact ⟨k, by rw [h1, ← h2, ← h3]⟩
  refine does_of t_ops_shape_1 ?_ (Nat.le_of_ble_eq_true rfl)
  have hne : ∀ z : List Blk, (stk.length == (stk ++ [z]).length) = false := fun z => by simp
  have hg : ∀ z : List Blk, (stk ++ [z]).getD stk.length [] = z := fun z => by simp
  have hmod : ∀ z f, (stk ++ [z]).modify stk.length f = stk ++ [f z] := fun z f => by
    rw [List.modify_eq_take_cons_drop (by simp)]; simp
  simp only [a_ops_shape_1, go_sem, reduceIte, reduceCtorEq, Nat.reduceAdd, Nat.reduceSub, Nat.reduceEqDiff, Nat.reduceLeDiff, Nat.reduceBEq, Nat.reduceLT, hne, hg, evSliceA, bound, U, elems_list, List.flatMap_cons, List.flatMap_nil, hf, hmod, List.set_cons_zero, List.set_cons_succ, Nat.zero_mul, Nat.mul_zero, Nat.reduceMul, sink_nil, show min 1 3 = 1 from rfl, show min 2 3 = 2 from rfl, show min 3 3 = 3 from rfl, Nat.succ_ne_zero]
  rw [leave_gen rfl rfl, Opt_some]
  exact ⟨_, rfl, rfl⟩
theorem w_shape1_2 (a b a2 b2 : Int) (c d c2 d2 : Bool) (stk : List (List Blk)) (st st2 nx fl : Nat) (live : List (List Nat)) (hf : fl ≤ stk.length) :
    CALL tab F_ops_shape_1 [.list 4 .full [.agg (U a b c d), .agg (U a2 b2 c2 d2)], .ptr stk.length 0 st 0, .ptr stk.length 1 st2 0] ⟨stk, [⟨st, U 0 0 false false ++ U 0 0 false false ++ U 0 0 false false⟩, ⟨st2, [.int .i64 0]⟩], nx, live, fl⟩ =
      some (.tup [], ⟨stk, [⟨st, U a b c d ++ U a2 b2 c2 d2 ++ U 0 0 false false⟩, ⟨st2, [.int .i64 2]⟩], callNx tab F_ops_shape_1 [.list 4 .full [.agg (U a b c d), .agg (U a2 b2 c2 d2)], .ptr stk.length 0 st 0, .ptr stk.length 1 st2 0] ⟨stk, [⟨st, U 0 0 false false ++ U 0 0 false false ++ U 0 0 false false⟩, ⟨st2, [.int .i64 0]⟩], nx, live, fl⟩, live, fl⟩) := by
  suffices h : ∃ k, CALL tab F_ops_shape_1 [.list 4 .full [.agg (U a b c d), .agg (U a2 b2 c2 d2)], .ptr stk.length 0 st 0, .ptr stk.length 1 st2 0] ⟨stk, [⟨st, U 0 0 false false ++ U 0 0 false false ++ U 0 0 false false⟩, ⟨st2, [.int .i64 0]⟩], nx, live, fl⟩ = some (.tup [], ⟨stk, [⟨st, U a b c d ++ U a2 b2 c2 d2 ++ U 0 0 false false⟩, ⟨st2, [.int .i64 2]⟩], k, live, fl⟩) by
    obtain ⟨k, h⟩ := h
    rw [h]; unfold callNx; rw [h]
  suffices h : Does tab F_ops_shape_1 [.list 4 .full [.agg (U a b c d), .agg (U a2 b2 c2 d2)], .ptr stk.length 0 st 0, .ptr stk.length 1 st2 0] ⟨stk, [⟨st, U 0 0 false false ++ U 0 0 false false ++ U 0 0 false false⟩, ⟨st2, [.int .i64 0]⟩], nx, live, fl⟩ fun v m' => ∃ k, v = .tup [] ∧ m' = ⟨stk, [⟨st, U a b c d ++ U a2 b2 c2 d2 ++ U 0 0 false false⟩, ⟨st2, [.int .i64 2]⟩], k, live, fl⟩ by
    obtain ⟨x, h1, k, h2, h3⟩ := h
    exact ⟨k, by rw [h1, ← h2, ← h3]⟩
  refine does_of t_ops_shape_1 ?_ (Nat.le_of_ble_eq_true rfl)
  have hne : ∀ z : List Blk, (stk.length == (stk ++ [z]).length) = false := fun z => by simp
  have hg : ∀ z : List Blk, (stk ++ [z]).getD stk.length [] = z := fun z => by simp
  have hmod : ∀ z f, (stk ++ [z]).modify stk.length f = stk ++ [f z] := fun z f => by
    rw [List.modify_eq_take_cons_drop (by simp)]; simp
  simp only [a_ops_shape_1, go_sem, reduceIte, reduceCtorEq, Nat.reduceAdd, Nat.reduceSub, Nat.reduceEqDiff, Nat.reduceLeDiff, Nat.reduceBEq, Nat.reduceLT, hne, hg, evSliceA, bound, U, elems_list, List.flatMap_cons, List.flatMap_nil, hf, hmod, List.set_cons_zero, List.set_cons_succ, Nat.zero_mul, Nat.mul_zero, Nat.reduceMul, sink_nil, show min 1 3 = 1 from rfl, show min 2 3 = 2 from rfl, show min 3 3 = 3 from rfl, Nat.succ_ne_zero]
  rw [leave_gen rfl rfl, Opt_some]
  exact ⟨_, rfl, rfl⟩
theorem w_shape1_3 (a b a2 b2 a3 b3 : Int) (c d c2 d2 c3 d3 : Bool) (stk : List (List Blk)) (st st2 nx fl : Nat) (live : List (List Nat)) (hf : fl ≤ stk.length) :
    CALL tab F_ops_shape_1 [.list 4 .full [.agg (U a b c d), .agg (U a2 b2 c2 d2), .agg (U a3 b3 c3 d3)], .ptr stk.length 0 st 0, .ptr stk.length 1 st2 0] ⟨stk, [⟨st, U 0 0 false false ++ U 0 0 false false ++ U 0 0 false false⟩, ⟨st2, [.int .i64 0]⟩], nx, live, fl⟩ =
      some (.tup [], ⟨stk, [⟨st, U a b c d ++ U a2 b2 c2 d2 ++ U a3 b3 c3 d3⟩, ⟨st2, [.int .i64 3]⟩], callNx tab F_ops_shape_1 [.list 4 .full [.agg (U a b c d), .agg (U a2 b2 c2 d2), .agg (U a3 b3 c3 d3)], .ptr stk.length 0 st 0, .ptr stk.length 1 st2 0] ⟨stk, [⟨st, U 0 0 false false ++ U 0 0 false false ++ U 0 0 false false⟩, ⟨st2, [.int .i64 0]⟩], nx, live, fl⟩, live, fl⟩) := by
  suffices h : ∃ k, CALL tab F_ops_shape_1 [.list 4 .full [.agg (U a b c d), .agg (U a2 b2 c2 d2), .agg (U a3 b3 c3 d3)], .ptr stk.length 0 st 0, .ptr stk.length 1 st2 0] ⟨stk, [⟨st, U 0 0 false false ++ U 0 0 false false ++ U 0 0 false false⟩, ⟨st2, [.int .i64 0]⟩], nx, live, fl⟩ = some (.tup [], ⟨stk, [⟨st, U a b c d ++ U a2 b2 c2 d2 ++ U a3 b3 c3 d3⟩, ⟨st2, [.int .i64 3]⟩], k, live, fl⟩) by
    obtain ⟨k, h⟩ := h
    rw [h]; unfold callNx; rw [h]
  suffices h : Does tab F_ops_shape_1 [.list 4 .full [.agg (U a b c d), .agg (U a2 b2 c2 d2), .agg (U a3 b3 c3 d3)], .ptr stk.length 0 st 0, .ptr stk.length 1 st2 0] ⟨stk, [⟨st, U 0 0 false false ++ U 0 0 false false ++ U 0 0 false false⟩, ⟨st2, [.int .i64 0]⟩], nx, live, fl⟩ fun v m' => ∃ k, v = .tup [] ∧ m' = ⟨stk, [⟨st, U a b c d ++ U a2 b2 c2 d2 ++ U a3 b3 c3 d3⟩, ⟨st2, [.int .i64 3]⟩], k, live, fl⟩ by
    obtain ⟨x, h1, k, h2, h3⟩ := h
    exact ⟨k, by rw [h1, ← h2, ← h3]⟩
  refine does_of t_ops_shape_1 ?_ (Nat.le_of_ble_eq_true rfl)
  have hne : ∀ z : List Blk, (stk.length == (stk ++ [z]).length) = false := fun z => by simp
  have hg : ∀ z : List Blk, (stk ++ [z]).getD stk.length [] = z := fun z => by simp
  have hmod : ∀ z f, (stk ++ [z]).modify stk.length f = stk ++ [f z] := fun z f => by
    rw [List.modify_eq_take_cons_drop (by simp)]; simp
  simp only [a_ops_shape_1, go_sem, reduceIte, reduceCtorEq, Nat.reduceAdd, Nat.reduceSub, Nat.reduceEqDiff, Nat.reduceLeDiff, Nat.reduceBEq, Nat.reduceLT, hne, hg, evSliceA, bound, U, elems_list, List.flatMap_cons, List.flatMap_nil, hf, hmod, List.set_cons_zero, List.set_cons_succ, Nat.zero_mul, Nat.mul_zero, Nat.reduceMul, sink_nil, show min 1 3 = 1 from rfl, show min 2 3 = 2 from rfl, show min 3 3 = 3 from rfl, Nat.succ_ne_zero]
  rw [leave_gen rfl rfl, Opt_some]
  exact ⟨_, rfl, rfl⟩

/-- What an operand may be. -/
def lo (c : UInt8) : Int := if c = 110 then -9223372036854775808 else if c = 103 ∨ c = 101 then -1 else 0
def hi (c : UInt8) : Int := if c = 110 then 9223372036854775807 else if c = 45 then 0 else if c = 116 ∨ c = 99 then 31 else if c = 98 then 1 else if c = 102 then 7 else if c = 105 then 199 else 15
def rd (c : UInt8) : Bool := c == 114 || c == 101
def wt (c : UInt8) : Bool := c == 119 || c == 103
def useOf (c : UInt8) : List AV := U (lo c) (hi c) (rd c) (wt c)
/-- How many operands an operation has. -/
def cnt (s : List UInt8) : Int := ((s.filter fun c => c != 45).length : Nat)

noncomputable def shapeOf (op : Int) : AV :=
  if shp op = [] then .tup [.agg (U 0 0 false false ++ U 0 0 false false ++ U 0 0 false false), .int .i64 (-1)] else .tup [.agg ((shp op).flatMap useOf), .int .i64 (cnt (shp op))]

set_option maxHeartbeats 16000000 in
theorem w_ops_shape (op : Int) (m : Mem) (hf : m.floor ≤ m.stk.length + 1) : Okv tab F_ops_shape [.int .u8 op] m (shapeOf op) := by
  refine okv_of t_ops_shape ?_
  obtain ⟨stk, cur, nx, live, fl⟩ := m
  dsimp only at hf
  have hf' : fl ≤ (stk ++ [cur]).length := by simp; omega
  have i0 : idx (.int .i64 0) 3 = some 0 := rfl
  have i1 : idx (.int .i64 1) 3 = some 1 := rfl
  have i2 : idx (.int .i64 2) 3 = some 2 := rfl
  simp only [a_ops_shape, go_sem, reduceIte, reduceCtorEq, Nat.reduceAdd, Nat.reduceSub, Nat.reduceEqDiff, Nat.reduceLeDiff, Nat.reduceBEq, Nat.reduceLT]
  repeat' first | ((first | refine Xc_by (fun hq => ?_) (fun hq => ?_) | refine Xgt_by (fun hq => ?_) (fun hq => ?_) | refine Xgf_by (fun hq => ?_) (fun hq => ?_) | refine Xut_by (fun hq => ?_) (fun hq => ?_) | refine Xuf_by (fun hq => ?_) (fun hq => ?_)) <;> simp only [go_sem, reduceIte, reduceCtorEq, Nat.reduceAdd, Nat.reduceSub, Nat.reduceEqDiff, Nat.reduceLeDiff, Nat.reduceBEq, Nat.reduceLT, hq, U, bne_self_eq_false, Nat.reduceBNe, evIaddrA, i0, i1, i2, Nat.reduceMul, sink_nil, List.set_cons_zero, List.set_cons_succ]) | ((first | (refine (w_read _).xv fun n => ?_) | (refine (w_write _).xv fun n => ?_) | (refine (w_whole _).xv fun n => ?_) | (refine (w_below 32 (by decide) _).xv fun n => ?_) | (refine (w_below 2 (by decide) _).xv fun n => ?_) | (refine (w_below 8 (by decide) _).xv fun n => ?_) | (refine (w_below 200 (by decide) _).xv fun n => ?_) | (refine call_xv (w_shape1_1 _ _ _ _ _ _ _ _ _ _ hf') ?_) | (refine call_xv (w_shape1_2 _ _ _ _ _ _ _ _ _ _ _ _ _ _ hf') ?_) | (refine call_xv (w_shape1_3 _ _ _ _ _ _ _ _ _ _ _ _ _ _ _ _ _ _ hf') ?_)) <;> simp only [go_sem, reduceIte, reduceCtorEq, Nat.reduceAdd, Nat.reduceSub, Nat.reduceEqDiff, Nat.reduceLeDiff, Nat.reduceBEq, Nat.reduceLT, U, bne_self_eq_false, Nat.reduceBNe, evIaddrA, i0, i1, i2, Nat.reduceMul, sink_nil, List.set_cons_zero, List.set_cons_succ])
  all_goals
    simp only [beq_iff_eq, beq_eq_false_iff_ne] at *
    rw [leave_plain rfl rfl, Opt_some]
    refine ⟨⟨_, rfl⟩, ?_⟩
    first | (subst op; rfl) | (have hs : shp op = [] := (by unfold shp; simp [*]); unfold shapeOf; rw [if_pos hs]; first | done | rfl)

end Go.Proofs.W
