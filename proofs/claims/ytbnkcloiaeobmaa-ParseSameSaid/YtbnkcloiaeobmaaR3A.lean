/-
  R3A
-/
import Derived.Test.YtbnkcloiaeobmaaR3Code
import Derived.Test.YtbnkcloiaeobmaaDt
namespace Go.Proofs.W
open Go.Vs
set_option linter.unusedSimpArgs false
set_option maxRecDepth 100000

theorem eq_DField (a b : DField) : eqAt [(0, 2), (1, 1)] [.str a.name, .int .i64 a.typ] [.str b.name, .int .i64 b.typ] = some (decide (a = b)) := by
  obtain ⟨a0, a1⟩ := a
  obtain ⟨b0, b1⟩ := b
  simp only [eqAt, eqCell, List.getD_cons_zero, List.getD_cons_succ, sameKind, if_true, DField.mk.injEq]
  by_cases h0 : a0 = b0
  case neg =>
    have e : (a0 == b0) = false := by simp [h0]
    simp [h0, e]
  subst h0
  by_cases h1 : a1 = b1
  case neg =>
    have e : (a1 == b1) = false := by simp [h1]
    simp [h1, e]
  subst h1
  simp
theorem eq_DInstr (a b : DInstr) : eqAt [(0, 1), (1, 1), (2, 1), (3, 1)] [.int .u8 a.op, .int .i64 a.a, .int .i64 a.b, .int .i64 a.c] [.int .u8 b.op, .int .i64 b.a, .int .i64 b.b, .int .i64 b.c] = some (decide (a = b)) := by
  obtain ⟨a0, a1, a2, a3⟩ := a
  obtain ⟨b0, b1, b2, b3⟩ := b
  simp only [eqAt, eqCell, List.getD_cons_zero, List.getD_cons_succ, sameKind, if_true, DInstr.mk.injEq]
  by_cases h0 : a0 = b0
  case neg =>
    have e : (a0 == b0) = false := by simp [h0]
    simp [h0, e]
  subst h0
  by_cases h1 : a1 = b1
  case neg =>
    have e : (a1 == b1) = false := by simp [h1]
    simp [h1, e]
  subst h1
  by_cases h2 : a2 = b2
  case neg =>
    have e : (a2 == b2) = false := by simp [h2]
    simp [h2, e]
  subst h2
  by_cases h3 : a3 = b3
  case neg =>
    have e : (a3 == b3) = false := by simp [h3]
    simp [h3, e]
  subst h3
  simp
theorem eq_DRun (a b : DRun) : eqAt [(0, 1), (1, 1)] [.int .i64 a.frm, .int .u64 a.value] [.int .i64 b.frm, .int .u64 b.value] = some (decide (a = b)) := by
  obtain ⟨a0, a1⟩ := a
  obtain ⟨b0, b1⟩ := b
  simp only [eqAt, eqCell, List.getD_cons_zero, List.getD_cons_succ, sameKind, if_true, DRun.mk.injEq]
  by_cases h0 : a0 = b0
  case neg =>
    have e : (a0 == b0) = false := by simp [h0]
    simp [h0, e]
  subst h0
  by_cases h1 : a1 = b1
  case neg =>
    have e : (a1 == b1) = false := by simp [h1]
    simp [h1, e]
  subst h1
  simp
theorem eq_DRoutine (a b : DRoutine) : eqAt [(0, 1), (1, 1), (2, 1), (3, 1), (4, 1), (5, 1)] [.int .u8 a.status, .int .u64 a.code, .int .u64 a.sp, .int .u64 a.defers, .int .u64 a.panics, .int .i64 a.key] [.int .u8 b.status, .int .u64 b.code, .int .u64 b.sp, .int .u64 b.defers, .int .u64 b.panics, .int .i64 b.key] = some (decide (a = b)) := by
  obtain ⟨a0, a1, a2, a3, a4, a5⟩ := a
  obtain ⟨b0, b1, b2, b3, b4, b5⟩ := b
  simp only [eqAt, eqCell, List.getD_cons_zero, List.getD_cons_succ, sameKind, if_true, DRoutine.mk.injEq]
  by_cases h0 : a0 = b0
  case neg =>
    have e : (a0 == b0) = false := by simp [h0]
    simp [h0, e]
  subst h0
  by_cases h1 : a1 = b1
  case neg =>
    have e : (a1 == b1) = false := by simp [h1]
    simp [h1, e]
  subst h1
  by_cases h2 : a2 = b2
  case neg =>
    have e : (a2 == b2) = false := by simp [h2]
    simp [h2, e]
  subst h2
  by_cases h3 : a3 = b3
  case neg =>
    have e : (a3 == b3) = false := by simp [h3]
    simp [h3, e]
  subst h3
  by_cases h4 : a4 = b4
  case neg =>
    have e : (a4 == b4) = false := by simp [h4]
    simp [h4, e]
  subst h4
  by_cases h5 : a5 = b5
  case neg =>
    have e : (a5 == b5) = false := by simp [h5]
    simp [h5, e]
  subst h5
  simp
theorem eq_DEnded (a b : DEnded) : eqAt [(0, 1), (1, 1), (2, 1)] [.int .u8 a.outcome, .int .i64 a.failing, .int .i64 a.steps] [.int .u8 b.outcome, .int .i64 b.failing, .int .i64 b.steps] = some (decide (a = b)) := by
  obtain ⟨a0, a1, a2⟩ := a
  obtain ⟨b0, b1, b2⟩ := b
  simp only [eqAt, eqCell, List.getD_cons_zero, List.getD_cons_succ, sameKind, if_true, DEnded.mk.injEq]
  by_cases h0 : a0 = b0
  case neg =>
    have e : (a0 == b0) = false := by simp [h0]
    simp [h0, e]
  subst h0
  by_cases h1 : a1 = b1
  case neg =>
    have e : (a1 == b1) = false := by simp [h1]
    simp [h1, e]
  subst h1
  by_cases h2 : a2 = b2
  case neg =>
    have e : (a2 == b2) = false := by simp [h2]
    simp [h2, e]
  subst h2
  simp
theorem w_slices_Equal_string_string (xs ys : List (List UInt8)) (x y : AV) (hx : IsSl IsStr 1 xs x) (hy : IsSl IsStr 1 ys y) (m : Mem) : Okv tab F_slices_Equal_string_string [x, y] m (.bool (decide (xs = ys))) := by
  refine okv_of t_slices_Equal_string_string ?_
  obtain ⟨stk, cur, nx, live, fl⟩ := m
  simp only [a_slices_Equal_string_string, go_sem, reduceIte, reduceCtorEq, Nat.reduceAdd, Nat.reduceSub, Nat.reduceEqDiff, Nat.reduceLeDiff, Nat.reduceBEq, Nat.reduceLT, hx.len, hy.len, natCast_bne]
  by_cases hl : xs.length = ys.length
  · simp only [go_sem, reduceIte, reduceCtorEq, Nat.reduceAdd, Nat.reduceSub, Nat.reduceEqDiff, Nat.reduceLeDiff, Nat.reduceBEq, Nat.reduceLT, hl, hx.len]
    refine XL_rule (α := Nat) (fun i σ => (i ≤ xs.length ∧ xs.take i = ys.take i) ∧ heads [0, 1, 12, 13] 0 σ = ⟨tmps 26 [(0, x), (1, y), (12, .int .i64 xs.length), (13, .int .i64 i)], ⟨stk ++ [cur], [], nx, [] :: live, fl⟩⟩) (fun i => xs.length - i) 0 ?_ ?_
    · refine ⟨⟨Nat.zero_le _, rfl⟩, ?_⟩
      simp only [go_sem, reduceIte, reduceCtorEq, Nat.reduceAdd, Nat.reduceSub, Nat.reduceEqDiff, Nat.reduceLeDiff, Nat.reduceBEq, Nat.reduceLT, hl]
      rfl
    · rintro i σ ⟨⟨hi, ht⟩, hσ⟩
      rw [hσ]
      dsimp only at hi ht ⊢
      by_cases h : i < xs.length
      · have h' : i < ys.length := hl ▸ h
        have e1 : nth x i = .str xs[i] := hx.nth h
        have e2 : nth y i = .str ys[i] := hy.nth h'
        simp only [go_sem, reduceIte, reduceCtorEq, Nat.reduceAdd, Nat.reduceSub, Nat.reduceEqDiff, Nat.reduceLeDiff, Nat.reduceBEq, Nat.reduceLT, Int.ofNat_lt, h, h', hx.len, hy.len, hx.at _ h, hy.at _ h', e1, e2, evStr]
        by_cases he : xs[i] = ys[i]
        · simp only [go_sem, reduceIte, reduceCtorEq, Nat.reduceAdd, Nat.reduceSub, Nat.reduceEqDiff, Nat.reduceLeDiff, Nat.reduceBEq, Nat.reduceLT, he, succ_i64 h hx.max, bne_self_eq_false]
          exact ⟨i + 1, by omega, ⟨h, take_succ_eq hl ht h he⟩, rfl⟩
        · have hb : (xs[i] == ys[i]) = false := by simp [he]
          have hb' : (xs[i] != ys[i]) = true := by simp [he]
          simp only [go_sem, reduceIte, reduceCtorEq, Nat.reduceAdd, Nat.reduceSub, Nat.reduceEqDiff, Nat.reduceLeDiff, Nat.reduceBEq, Nat.reduceLT, hb, hb']
          rw [leave_plain rfl rfl, Opt_some]
          exact ⟨⟨_, rfl⟩, by rw [decide_eq_false (ne_of_get h h' he)]⟩
      · have : i = xs.length := by omega
        subst this
        simp only [go_sem, reduceIte, reduceCtorEq, Nat.reduceAdd, Nat.reduceSub, Nat.reduceEqDiff, Nat.reduceLeDiff, Nat.reduceBEq, Nat.reduceLT, Int.ofNat_lt, h, hx.len]
        rw [leave_plain rfl rfl, Opt_some]
        exact ⟨⟨_, rfl⟩, by rw [decide_eq_true (eq_of_take hl ht)]⟩
  · simp only [go_sem, reduceIte, reduceCtorEq, Nat.reduceAdd, Nat.reduceSub, Nat.reduceEqDiff, Nat.reduceLeDiff, Nat.reduceBEq, Nat.reduceLT, hl]
    rw [leave_plain rfl rfl, Opt_some]
    exact ⟨⟨_, rfl⟩, by rw [decide_eq_false (ne_of_len hl)]⟩

theorem w_slices_Equal_byte_byte (xs ys : List UInt8) (x y : AV) (hx : IsSl IsByte 1 xs x) (hy : IsSl IsByte 1 ys y) (m : Mem) : Okv tab F_slices_Equal_byte_byte [x, y] m (.bool (decide (xs = ys))) := by
  refine okv_of t_slices_Equal_byte_byte ?_
  obtain ⟨stk, cur, nx, live, fl⟩ := m
  simp only [a_slices_Equal_byte_byte, go_sem, reduceIte, reduceCtorEq, Nat.reduceAdd, Nat.reduceSub, Nat.reduceEqDiff, Nat.reduceLeDiff, Nat.reduceBEq, Nat.reduceLT, hx.len, hy.len, natCast_bne]
  by_cases hl : xs.length = ys.length
  · simp only [go_sem, reduceIte, reduceCtorEq, Nat.reduceAdd, Nat.reduceSub, Nat.reduceEqDiff, Nat.reduceLeDiff, Nat.reduceBEq, Nat.reduceLT, hl, hx.len]
    refine XL_rule (α := Nat) (fun i σ => (i ≤ xs.length ∧ xs.take i = ys.take i) ∧ heads [0, 1, 12, 13] 0 σ = ⟨tmps 26 [(0, x), (1, y), (12, .int .i64 xs.length), (13, .int .i64 i)], ⟨stk ++ [cur], [], nx, [] :: live, fl⟩⟩) (fun i => xs.length - i) 0 ?_ ?_
    · refine ⟨⟨Nat.zero_le _, rfl⟩, ?_⟩
      simp only [go_sem, reduceIte, reduceCtorEq, Nat.reduceAdd, Nat.reduceSub, Nat.reduceEqDiff, Nat.reduceLeDiff, Nat.reduceBEq, Nat.reduceLT, hl]
      rfl
    · rintro i σ ⟨⟨hi, ht⟩, hσ⟩
      rw [hσ]
      dsimp only at hi ht ⊢
      by_cases h : i < xs.length
      · have h' : i < ys.length := hl ▸ h
        have e1 : nth x i = .int .u8 (xs[i]).toNat := hx.nth h
        have e2 : nth y i = .int .u8 (ys[i]).toNat := hy.nth h'
        simp only [go_sem, reduceIte, reduceCtorEq, Nat.reduceAdd, Nat.reduceSub, Nat.reduceEqDiff, Nat.reduceLeDiff, Nat.reduceBEq, Nat.reduceLT, Int.ofNat_lt, h, h', hx.len, hy.len, hx.at _ h, hy.at _ h', e1, e2, natCast_bne, byte_ne]
        by_cases he : xs[i] = ys[i]
        · simp only [go_sem, reduceIte, reduceCtorEq, Nat.reduceAdd, Nat.reduceSub, Nat.reduceEqDiff, Nat.reduceLeDiff, Nat.reduceBEq, Nat.reduceLT, he, succ_i64 h hx.max]
          exact ⟨i + 1, by omega, ⟨h, take_succ_eq hl ht h he⟩, rfl⟩
        · simp only [go_sem, reduceIte, reduceCtorEq, Nat.reduceAdd, Nat.reduceSub, Nat.reduceEqDiff, Nat.reduceLeDiff, Nat.reduceBEq, Nat.reduceLT, he]
          rw [leave_plain rfl rfl, Opt_some]
          exact ⟨⟨_, rfl⟩, by rw [decide_eq_false (ne_of_get h h' he)]⟩
      · have : i = xs.length := by omega
        subst this
        simp only [go_sem, reduceIte, reduceCtorEq, Nat.reduceAdd, Nat.reduceSub, Nat.reduceEqDiff, Nat.reduceLeDiff, Nat.reduceBEq, Nat.reduceLT, Int.ofNat_lt, h, hx.len]
        rw [leave_plain rfl rfl, Opt_some]
        exact ⟨⟨_, rfl⟩, by rw [decide_eq_true (eq_of_take hl ht)]⟩
  · simp only [go_sem, reduceIte, reduceCtorEq, Nat.reduceAdd, Nat.reduceSub, Nat.reduceEqDiff, Nat.reduceLeDiff, Nat.reduceBEq, Nat.reduceLT, hl]
    rw [leave_plain rfl rfl, Opt_some]
    exact ⟨⟨_, rfl⟩, by rw [decide_eq_false (ne_of_len hl)]⟩

theorem w_slices_Equal_uint64_uint64 (xs ys : List Int) (x y : AV) (hx : IsSl (IsK .u64) 1 xs x) (hy : IsSl (IsK .u64) 1 ys y) (m : Mem) : Okv tab F_slices_Equal_uint64_uint64 [x, y] m (.bool (decide (xs = ys))) := by
  refine okv_of t_slices_Equal_uint64_uint64 ?_
  obtain ⟨stk, cur, nx, live, fl⟩ := m
  simp only [a_slices_Equal_uint64_uint64, go_sem, reduceIte, reduceCtorEq, Nat.reduceAdd, Nat.reduceSub, Nat.reduceEqDiff, Nat.reduceLeDiff, Nat.reduceBEq, Nat.reduceLT, hx.len, hy.len, natCast_bne]
  by_cases hl : xs.length = ys.length
  · simp only [go_sem, reduceIte, reduceCtorEq, Nat.reduceAdd, Nat.reduceSub, Nat.reduceEqDiff, Nat.reduceLeDiff, Nat.reduceBEq, Nat.reduceLT, hl, hx.len]
    refine XL_rule (α := Nat) (fun i σ => (i ≤ xs.length ∧ xs.take i = ys.take i) ∧ heads [0, 1, 12, 13] 0 σ = ⟨tmps 26 [(0, x), (1, y), (12, .int .i64 xs.length), (13, .int .i64 i)], ⟨stk ++ [cur], [], nx, [] :: live, fl⟩⟩) (fun i => xs.length - i) 0 ?_ ?_
    · refine ⟨⟨Nat.zero_le _, rfl⟩, ?_⟩
      simp only [go_sem, reduceIte, reduceCtorEq, Nat.reduceAdd, Nat.reduceSub, Nat.reduceEqDiff, Nat.reduceLeDiff, Nat.reduceBEq, Nat.reduceLT, hl]
      rfl
    · rintro i σ ⟨⟨hi, ht⟩, hσ⟩
      rw [hσ]
      dsimp only at hi ht ⊢
      by_cases h : i < xs.length
      · have h' : i < ys.length := hl ▸ h
        have e1 : nth x i = .int .u64 xs[i] := hx.nth h
        have e2 : nth y i = .int .u64 ys[i] := hy.nth h'
        simp only [go_sem, reduceIte, reduceCtorEq, Nat.reduceAdd, Nat.reduceSub, Nat.reduceEqDiff, Nat.reduceLeDiff, Nat.reduceBEq, Nat.reduceLT, Int.ofNat_lt, h, h', hx.len, hy.len, hx.at _ h, hy.at _ h', e1, e2, evStr]
        by_cases he : xs[i] = ys[i]
        · simp only [go_sem, reduceIte, reduceCtorEq, Nat.reduceAdd, Nat.reduceSub, Nat.reduceEqDiff, Nat.reduceLeDiff, Nat.reduceBEq, Nat.reduceLT, he, succ_i64 h hx.max, bne_self_eq_false]
          exact ⟨i + 1, by omega, ⟨h, take_succ_eq hl ht h he⟩, rfl⟩
        · have hb : (xs[i] == ys[i]) = false := by simp [he]
          have hb' : (xs[i] != ys[i]) = true := by simp [he]
          simp only [go_sem, reduceIte, reduceCtorEq, Nat.reduceAdd, Nat.reduceSub, Nat.reduceEqDiff, Nat.reduceLeDiff, Nat.reduceBEq, Nat.reduceLT, hb, hb']
          rw [leave_plain rfl rfl, Opt_some]
          exact ⟨⟨_, rfl⟩, by rw [decide_eq_false (ne_of_get h h' he)]⟩
      · have : i = xs.length := by omega
        subst this
        simp only [go_sem, reduceIte, reduceCtorEq, Nat.reduceAdd, Nat.reduceSub, Nat.reduceEqDiff, Nat.reduceLeDiff, Nat.reduceBEq, Nat.reduceLT, Int.ofNat_lt, h, hx.len]
        rw [leave_plain rfl rfl, Opt_some]
        exact ⟨⟨_, rfl⟩, by rw [decide_eq_true (eq_of_take hl ht)]⟩
  · simp only [go_sem, reduceIte, reduceCtorEq, Nat.reduceAdd, Nat.reduceSub, Nat.reduceEqDiff, Nat.reduceLeDiff, Nat.reduceBEq, Nat.reduceLT, hl]
    rw [leave_plain rfl rfl, Opt_some]
    exact ⟨⟨_, rfl⟩, by rw [decide_eq_false (ne_of_len hl)]⟩

theorem w_slices_Equal_api_Field_api_Field (xs ys : List DField) (x y : AV) (hx : IsSl IsField 2 xs x) (hy : IsSl IsField 2 ys y) (m : Mem) : Okv tab F_slices_Equal_api_Field_api_Field [x, y] m (.bool (decide (xs = ys))) := by
  refine okv_of t_slices_Equal_api_Field_api_Field ?_
  obtain ⟨stk, cur, nx, live, fl⟩ := m
  simp only [a_slices_Equal_api_Field_api_Field, go_sem, reduceIte, reduceCtorEq, Nat.reduceAdd, Nat.reduceSub, Nat.reduceEqDiff, Nat.reduceLeDiff, Nat.reduceBEq, Nat.reduceLT, hx.len, hy.len, natCast_bne]
  by_cases hl : xs.length = ys.length
  · simp only [go_sem, reduceIte, reduceCtorEq, Nat.reduceAdd, Nat.reduceSub, Nat.reduceEqDiff, Nat.reduceLeDiff, Nat.reduceBEq, Nat.reduceLT, hl, hx.len]
    refine XL_rule (α := Nat) (fun i σ => (i ≤ xs.length ∧ xs.take i = ys.take i) ∧ heads [0, 1, 12, 13] 0 σ = ⟨tmps 26 [(0, x), (1, y), (12, .int .i64 xs.length), (13, .int .i64 i)], ⟨stk ++ [cur], [], nx, [] :: live, fl⟩⟩) (fun i => xs.length - i) 0 ?_ ?_
    · refine ⟨⟨Nat.zero_le _, rfl⟩, ?_⟩
      simp only [go_sem, reduceIte, reduceCtorEq, Nat.reduceAdd, Nat.reduceSub, Nat.reduceEqDiff, Nat.reduceLeDiff, Nat.reduceBEq, Nat.reduceLT, hl]
      rfl
    · rintro i σ ⟨⟨hi, ht⟩, hσ⟩
      rw [hσ]
      dsimp only at hi ht ⊢
      by_cases h : i < xs.length
      · have h' : i < ys.length := hl ▸ h
        have e1 : nth x i = .agg [.str xs[i].name, .int .i64 xs[i].typ] := hx.nth h
        have e2 : nth y i = .agg [.str ys[i].name, .int .i64 ys[i].typ] := hy.nth h'
        simp only [go_sem, reduceIte, reduceCtorEq, Nat.reduceAdd, Nat.reduceSub, Nat.reduceEqDiff, Nat.reduceLeDiff, Nat.reduceBEq, Nat.reduceLT, Int.ofNat_lt, h, h', hx.len, hy.len, hx.at _ h, hy.at _ h', e1, e2, eq_DField]
        by_cases he : xs[i] = ys[i]
        · simp only [go_sem, reduceIte, reduceCtorEq, Nat.reduceAdd, Nat.reduceSub, Nat.reduceEqDiff, Nat.reduceLeDiff, Nat.reduceBEq, Nat.reduceLT, he, succ_i64 h hx.max]
          exact ⟨i + 1, by omega, ⟨h, take_succ_eq hl ht h he⟩, rfl⟩
        · simp only [go_sem, reduceIte, reduceCtorEq, Nat.reduceAdd, Nat.reduceSub, Nat.reduceEqDiff, Nat.reduceLeDiff, Nat.reduceBEq, Nat.reduceLT, he]
          rw [leave_plain rfl rfl, Opt_some]
          exact ⟨⟨_, rfl⟩, by rw [decide_eq_false (ne_of_get h h' he)]⟩
      · have : i = xs.length := by omega
        subst this
        simp only [go_sem, reduceIte, reduceCtorEq, Nat.reduceAdd, Nat.reduceSub, Nat.reduceEqDiff, Nat.reduceLeDiff, Nat.reduceBEq, Nat.reduceLT, Int.ofNat_lt, h, hx.len]
        rw [leave_plain rfl rfl, Opt_some]
        exact ⟨⟨_, rfl⟩, by rw [decide_eq_true (eq_of_take hl ht)]⟩
  · simp only [go_sem, reduceIte, reduceCtorEq, Nat.reduceAdd, Nat.reduceSub, Nat.reduceEqDiff, Nat.reduceLeDiff, Nat.reduceBEq, Nat.reduceLT, hl]
    rw [leave_plain rfl rfl, Opt_some]
    exact ⟨⟨_, rfl⟩, by rw [decide_eq_false (ne_of_len hl)]⟩

theorem w_slices_Equal_api_Instr_api_Instr (xs ys : List DInstr) (x y : AV) (hx : IsSl IsInstr 4 xs x) (hy : IsSl IsInstr 4 ys y) (m : Mem) : Okv tab F_slices_Equal_api_Instr_api_Instr [x, y] m (.bool (decide (xs = ys))) := by
  refine okv_of t_slices_Equal_api_Instr_api_Instr ?_
  obtain ⟨stk, cur, nx, live, fl⟩ := m
  simp only [a_slices_Equal_api_Instr_api_Instr, go_sem, reduceIte, reduceCtorEq, Nat.reduceAdd, Nat.reduceSub, Nat.reduceEqDiff, Nat.reduceLeDiff, Nat.reduceBEq, Nat.reduceLT, hx.len, hy.len, natCast_bne]
  by_cases hl : xs.length = ys.length
  · simp only [go_sem, reduceIte, reduceCtorEq, Nat.reduceAdd, Nat.reduceSub, Nat.reduceEqDiff, Nat.reduceLeDiff, Nat.reduceBEq, Nat.reduceLT, hl, hx.len]
    refine XL_rule (α := Nat) (fun i σ => (i ≤ xs.length ∧ xs.take i = ys.take i) ∧ heads [0, 1, 12, 13] 0 σ = ⟨tmps 26 [(0, x), (1, y), (12, .int .i64 xs.length), (13, .int .i64 i)], ⟨stk ++ [cur], [], nx, [] :: live, fl⟩⟩) (fun i => xs.length - i) 0 ?_ ?_
    · refine ⟨⟨Nat.zero_le _, rfl⟩, ?_⟩
      simp only [go_sem, reduceIte, reduceCtorEq, Nat.reduceAdd, Nat.reduceSub, Nat.reduceEqDiff, Nat.reduceLeDiff, Nat.reduceBEq, Nat.reduceLT, hl]
      rfl
    · rintro i σ ⟨⟨hi, ht⟩, hσ⟩
      rw [hσ]
      dsimp only at hi ht ⊢
      by_cases h : i < xs.length
      · have h' : i < ys.length := hl ▸ h
        have e1 : nth x i = .agg [.int .u8 xs[i].op, .int .i64 xs[i].a, .int .i64 xs[i].b, .int .i64 xs[i].c] := hx.nth h
        have e2 : nth y i = .agg [.int .u8 ys[i].op, .int .i64 ys[i].a, .int .i64 ys[i].b, .int .i64 ys[i].c] := hy.nth h'
        simp only [go_sem, reduceIte, reduceCtorEq, Nat.reduceAdd, Nat.reduceSub, Nat.reduceEqDiff, Nat.reduceLeDiff, Nat.reduceBEq, Nat.reduceLT, Int.ofNat_lt, h, h', hx.len, hy.len, hx.at _ h, hy.at _ h', e1, e2, eq_DInstr]
        by_cases he : xs[i] = ys[i]
        · simp only [go_sem, reduceIte, reduceCtorEq, Nat.reduceAdd, Nat.reduceSub, Nat.reduceEqDiff, Nat.reduceLeDiff, Nat.reduceBEq, Nat.reduceLT, he, succ_i64 h hx.max]
          exact ⟨i + 1, by omega, ⟨h, take_succ_eq hl ht h he⟩, rfl⟩
        · simp only [go_sem, reduceIte, reduceCtorEq, Nat.reduceAdd, Nat.reduceSub, Nat.reduceEqDiff, Nat.reduceLeDiff, Nat.reduceBEq, Nat.reduceLT, he]
          rw [leave_plain rfl rfl, Opt_some]
          exact ⟨⟨_, rfl⟩, by rw [decide_eq_false (ne_of_get h h' he)]⟩
      · have : i = xs.length := by omega
        subst this
        simp only [go_sem, reduceIte, reduceCtorEq, Nat.reduceAdd, Nat.reduceSub, Nat.reduceEqDiff, Nat.reduceLeDiff, Nat.reduceBEq, Nat.reduceLT, Int.ofNat_lt, h, hx.len]
        rw [leave_plain rfl rfl, Opt_some]
        exact ⟨⟨_, rfl⟩, by rw [decide_eq_true (eq_of_take hl ht)]⟩
  · simp only [go_sem, reduceIte, reduceCtorEq, Nat.reduceAdd, Nat.reduceSub, Nat.reduceEqDiff, Nat.reduceLeDiff, Nat.reduceBEq, Nat.reduceLT, hl]
    rw [leave_plain rfl rfl, Opt_some]
    exact ⟨⟨_, rfl⟩, by rw [decide_eq_false (ne_of_len hl)]⟩

theorem w_slices_Equal_api_Run_api_Run (xs ys : List DRun) (x y : AV) (hx : IsSl IsRun 2 xs x) (hy : IsSl IsRun 2 ys y) (m : Mem) : Okv tab F_slices_Equal_api_Run_api_Run [x, y] m (.bool (decide (xs = ys))) := by
  refine okv_of t_slices_Equal_api_Run_api_Run ?_
  obtain ⟨stk, cur, nx, live, fl⟩ := m
  simp only [a_slices_Equal_api_Run_api_Run, go_sem, reduceIte, reduceCtorEq, Nat.reduceAdd, Nat.reduceSub, Nat.reduceEqDiff, Nat.reduceLeDiff, Nat.reduceBEq, Nat.reduceLT, hx.len, hy.len, natCast_bne]
  by_cases hl : xs.length = ys.length
  · simp only [go_sem, reduceIte, reduceCtorEq, Nat.reduceAdd, Nat.reduceSub, Nat.reduceEqDiff, Nat.reduceLeDiff, Nat.reduceBEq, Nat.reduceLT, hl, hx.len]
    refine XL_rule (α := Nat) (fun i σ => (i ≤ xs.length ∧ xs.take i = ys.take i) ∧ heads [0, 1, 12, 13] 0 σ = ⟨tmps 26 [(0, x), (1, y), (12, .int .i64 xs.length), (13, .int .i64 i)], ⟨stk ++ [cur], [], nx, [] :: live, fl⟩⟩) (fun i => xs.length - i) 0 ?_ ?_
    · refine ⟨⟨Nat.zero_le _, rfl⟩, ?_⟩
      simp only [go_sem, reduceIte, reduceCtorEq, Nat.reduceAdd, Nat.reduceSub, Nat.reduceEqDiff, Nat.reduceLeDiff, Nat.reduceBEq, Nat.reduceLT, hl]
      rfl
    · rintro i σ ⟨⟨hi, ht⟩, hσ⟩
      rw [hσ]
      dsimp only at hi ht ⊢
      by_cases h : i < xs.length
      · have h' : i < ys.length := hl ▸ h
        have e1 : nth x i = .agg [.int .i64 xs[i].frm, .int .u64 xs[i].value] := hx.nth h
        have e2 : nth y i = .agg [.int .i64 ys[i].frm, .int .u64 ys[i].value] := hy.nth h'
        simp only [go_sem, reduceIte, reduceCtorEq, Nat.reduceAdd, Nat.reduceSub, Nat.reduceEqDiff, Nat.reduceLeDiff, Nat.reduceBEq, Nat.reduceLT, Int.ofNat_lt, h, h', hx.len, hy.len, hx.at _ h, hy.at _ h', e1, e2, eq_DRun]
        by_cases he : xs[i] = ys[i]
        · simp only [go_sem, reduceIte, reduceCtorEq, Nat.reduceAdd, Nat.reduceSub, Nat.reduceEqDiff, Nat.reduceLeDiff, Nat.reduceBEq, Nat.reduceLT, he, succ_i64 h hx.max]
          exact ⟨i + 1, by omega, ⟨h, take_succ_eq hl ht h he⟩, rfl⟩
        · simp only [go_sem, reduceIte, reduceCtorEq, Nat.reduceAdd, Nat.reduceSub, Nat.reduceEqDiff, Nat.reduceLeDiff, Nat.reduceBEq, Nat.reduceLT, he]
          rw [leave_plain rfl rfl, Opt_some]
          exact ⟨⟨_, rfl⟩, by rw [decide_eq_false (ne_of_get h h' he)]⟩
      · have : i = xs.length := by omega
        subst this
        simp only [go_sem, reduceIte, reduceCtorEq, Nat.reduceAdd, Nat.reduceSub, Nat.reduceEqDiff, Nat.reduceLeDiff, Nat.reduceBEq, Nat.reduceLT, Int.ofNat_lt, h, hx.len]
        rw [leave_plain rfl rfl, Opt_some]
        exact ⟨⟨_, rfl⟩, by rw [decide_eq_true (eq_of_take hl ht)]⟩
  · simp only [go_sem, reduceIte, reduceCtorEq, Nat.reduceAdd, Nat.reduceSub, Nat.reduceEqDiff, Nat.reduceLeDiff, Nat.reduceBEq, Nat.reduceLT, hl]
    rw [leave_plain rfl rfl, Opt_some]
    exact ⟨⟨_, rfl⟩, by rw [decide_eq_false (ne_of_len hl)]⟩

theorem w_slices_Equal_api_Routine_api_Routine (xs ys : List DRoutine) (x y : AV) (hx : IsSl IsRoutine 6 xs x) (hy : IsSl IsRoutine 6 ys y) (m : Mem) : Okv tab F_slices_Equal_api_Routine_api_Routine [x, y] m (.bool (decide (xs = ys))) := by
  refine okv_of t_slices_Equal_api_Routine_api_Routine ?_
  obtain ⟨stk, cur, nx, live, fl⟩ := m
  simp only [a_slices_Equal_api_Routine_api_Routine, go_sem, reduceIte, reduceCtorEq, Nat.reduceAdd, Nat.reduceSub, Nat.reduceEqDiff, Nat.reduceLeDiff, Nat.reduceBEq, Nat.reduceLT, hx.len, hy.len, natCast_bne]
  by_cases hl : xs.length = ys.length
  · simp only [go_sem, reduceIte, reduceCtorEq, Nat.reduceAdd, Nat.reduceSub, Nat.reduceEqDiff, Nat.reduceLeDiff, Nat.reduceBEq, Nat.reduceLT, hl, hx.len]
    refine XL_rule (α := Nat) (fun i σ => (i ≤ xs.length ∧ xs.take i = ys.take i) ∧ heads [0, 1, 12, 13] 0 σ = ⟨tmps 26 [(0, x), (1, y), (12, .int .i64 xs.length), (13, .int .i64 i)], ⟨stk ++ [cur], [], nx, [] :: live, fl⟩⟩) (fun i => xs.length - i) 0 ?_ ?_
    · refine ⟨⟨Nat.zero_le _, rfl⟩, ?_⟩
      simp only [go_sem, reduceIte, reduceCtorEq, Nat.reduceAdd, Nat.reduceSub, Nat.reduceEqDiff, Nat.reduceLeDiff, Nat.reduceBEq, Nat.reduceLT, hl]
      rfl
    · rintro i σ ⟨⟨hi, ht⟩, hσ⟩
      rw [hσ]
      dsimp only at hi ht ⊢
      by_cases h : i < xs.length
      · have h' : i < ys.length := hl ▸ h
        have e1 : nth x i = .agg [.int .u8 xs[i].status, .int .u64 xs[i].code, .int .u64 xs[i].sp, .int .u64 xs[i].defers, .int .u64 xs[i].panics, .int .i64 xs[i].key] := hx.nth h
        have e2 : nth y i = .agg [.int .u8 ys[i].status, .int .u64 ys[i].code, .int .u64 ys[i].sp, .int .u64 ys[i].defers, .int .u64 ys[i].panics, .int .i64 ys[i].key] := hy.nth h'
        simp only [go_sem, reduceIte, reduceCtorEq, Nat.reduceAdd, Nat.reduceSub, Nat.reduceEqDiff, Nat.reduceLeDiff, Nat.reduceBEq, Nat.reduceLT, Int.ofNat_lt, h, h', hx.len, hy.len, hx.at _ h, hy.at _ h', e1, e2, eq_DRoutine]
        by_cases he : xs[i] = ys[i]
        · simp only [go_sem, reduceIte, reduceCtorEq, Nat.reduceAdd, Nat.reduceSub, Nat.reduceEqDiff, Nat.reduceLeDiff, Nat.reduceBEq, Nat.reduceLT, he, succ_i64 h hx.max]
          exact ⟨i + 1, by omega, ⟨h, take_succ_eq hl ht h he⟩, rfl⟩
        · simp only [go_sem, reduceIte, reduceCtorEq, Nat.reduceAdd, Nat.reduceSub, Nat.reduceEqDiff, Nat.reduceLeDiff, Nat.reduceBEq, Nat.reduceLT, he]
          rw [leave_plain rfl rfl, Opt_some]
          exact ⟨⟨_, rfl⟩, by rw [decide_eq_false (ne_of_get h h' he)]⟩
      · have : i = xs.length := by omega
        subst this
        simp only [go_sem, reduceIte, reduceCtorEq, Nat.reduceAdd, Nat.reduceSub, Nat.reduceEqDiff, Nat.reduceLeDiff, Nat.reduceBEq, Nat.reduceLT, Int.ofNat_lt, h, hx.len]
        rw [leave_plain rfl rfl, Opt_some]
        exact ⟨⟨_, rfl⟩, by rw [decide_eq_true (eq_of_take hl ht)]⟩
  · simp only [go_sem, reduceIte, reduceCtorEq, Nat.reduceAdd, Nat.reduceSub, Nat.reduceEqDiff, Nat.reduceLeDiff, Nat.reduceBEq, Nat.reduceLT, hl]
    rw [leave_plain rfl rfl, Opt_some]
    exact ⟨⟨_, rfl⟩, by rw [decide_eq_false (ne_of_len hl)]⟩

theorem w_wreckageref04_SameFields (xs ys : List DField) (x y : AV) (hx : IsSl IsField 2 xs x) (hy : IsSl IsField 2 ys y) (m : Mem) : Okv tab F_wreckageref04_SameFields [x, y] m (.bool (decide (xs = ys))) := by
  refine okv_of t_wreckageref04_SameFields ?_
  obtain ⟨stk, cur, nx, live, fl⟩ := m
  simp only [a_wreckageref04_SameFields, go_sem, reduceIte, reduceCtorEq, Nat.reduceAdd, Nat.reduceSub, Nat.reduceEqDiff, Nat.reduceLeDiff, Nat.reduceBEq, Nat.reduceLT, hx.len, hy.len, natCast_bne]
  by_cases hl : xs.length = ys.length
  · simp only [go_sem, reduceIte, reduceCtorEq, Nat.reduceAdd, Nat.reduceSub, Nat.reduceEqDiff, Nat.reduceLeDiff, Nat.reduceBEq, Nat.reduceLT, hl, hx.len]
    refine XL_rule (α := Nat) (fun i σ => (i ≤ xs.length ∧ xs.take i = ys.take i) ∧ heads [0, 1, 5] 0 σ = ⟨tmps 26 [(0, x), (1, y), (5, .int .i64 i)], ⟨stk ++ [cur], [], nx, [] :: live, fl⟩⟩) (fun i => xs.length - i) 0 ?_ ?_
    · refine ⟨⟨Nat.zero_le _, rfl⟩, ?_⟩
      simp only [go_sem, reduceIte, reduceCtorEq, Nat.reduceAdd, Nat.reduceSub, Nat.reduceEqDiff, Nat.reduceLeDiff, Nat.reduceBEq, Nat.reduceLT, hl]
      rfl
    · rintro i σ ⟨⟨hi, ht⟩, hσ⟩
      rw [hσ]
      dsimp only at hi ht ⊢
      by_cases h : i < xs.length
      · have h' : i < ys.length := hl ▸ h
        have e1 : nth x i = .agg [.str xs[i].name, .int .i64 xs[i].typ] := hx.nth h
        have e2 : nth y i = .agg [.str ys[i].name, .int .i64 ys[i].typ] := hy.nth h'
        simp only [go_sem, reduceIte, reduceCtorEq, Nat.reduceAdd, Nat.reduceSub, Nat.reduceEqDiff, Nat.reduceLeDiff, Nat.reduceBEq, Nat.reduceLT, Int.ofNat_lt, h, h', hx.len, hy.len, hx.at _ h, hy.at _ h', e1, e2, eq_DField]
        by_cases he : xs[i] = ys[i]
        · simp only [go_sem, reduceIte, reduceCtorEq, Nat.reduceAdd, Nat.reduceSub, Nat.reduceEqDiff, Nat.reduceLeDiff, Nat.reduceBEq, Nat.reduceLT, he, succ_i64 h hx.max]
          exact ⟨i + 1, by omega, ⟨h, take_succ_eq hl ht h he⟩, rfl⟩
        · simp only [go_sem, reduceIte, reduceCtorEq, Nat.reduceAdd, Nat.reduceSub, Nat.reduceEqDiff, Nat.reduceLeDiff, Nat.reduceBEq, Nat.reduceLT, he]
          rw [leave_plain rfl rfl, Opt_some]
          exact ⟨⟨_, rfl⟩, by rw [decide_eq_false (ne_of_get h h' he)]⟩
      · have : i = xs.length := by omega
        subst this
        simp only [go_sem, reduceIte, reduceCtorEq, Nat.reduceAdd, Nat.reduceSub, Nat.reduceEqDiff, Nat.reduceLeDiff, Nat.reduceBEq, Nat.reduceLT, Int.ofNat_lt, h, hx.len]
        rw [leave_plain rfl rfl, Opt_some]
        exact ⟨⟨_, rfl⟩, by rw [decide_eq_true (eq_of_take hl ht)]⟩
  · simp only [go_sem, reduceIte, reduceCtorEq, Nat.reduceAdd, Nat.reduceSub, Nat.reduceEqDiff, Nat.reduceLeDiff, Nat.reduceBEq, Nat.reduceLT, hl]
    rw [leave_plain rfl rfl, Opt_some]
    exact ⟨⟨_, rfl⟩, by rw [decide_eq_false (ne_of_len hl)]⟩

theorem w_wreckageref07_Same (xs ys : List DInstr) (x y : AV) (hx : IsSl IsInstr 4 xs x) (hy : IsSl IsInstr 4 ys y) (m : Mem) : Okv tab F_wreckageref07_Same [x, y] m (.bool (decide (xs = ys))) := by
  refine okv_of t_wreckageref07_Same ?_
  obtain ⟨stk, cur, nx, live, fl⟩ := m
  simp only [a_wreckageref07_Same, go_sem, reduceIte, reduceCtorEq, Nat.reduceAdd, Nat.reduceSub, Nat.reduceEqDiff, Nat.reduceLeDiff, Nat.reduceBEq, Nat.reduceLT, hx.len, hy.len, natCast_bne]
  by_cases hl : xs.length = ys.length
  · simp only [go_sem, reduceIte, reduceCtorEq, Nat.reduceAdd, Nat.reduceSub, Nat.reduceEqDiff, Nat.reduceLeDiff, Nat.reduceBEq, Nat.reduceLT, hl, hx.len]
    refine XL_rule (α := Nat) (fun i σ => (i ≤ xs.length ∧ xs.take i = ys.take i) ∧ heads [0, 1, 5] 0 σ = ⟨tmps 26 [(0, x), (1, y), (5, .int .i64 i)], ⟨stk ++ [cur], [], nx, [] :: live, fl⟩⟩) (fun i => xs.length - i) 0 ?_ ?_
    · refine ⟨⟨Nat.zero_le _, rfl⟩, ?_⟩
      simp only [go_sem, reduceIte, reduceCtorEq, Nat.reduceAdd, Nat.reduceSub, Nat.reduceEqDiff, Nat.reduceLeDiff, Nat.reduceBEq, Nat.reduceLT, hl]
      rfl
    · rintro i σ ⟨⟨hi, ht⟩, hσ⟩
      rw [hσ]
      dsimp only at hi ht ⊢
      by_cases h : i < xs.length
      · have h' : i < ys.length := hl ▸ h
        have e1 : nth x i = .agg [.int .u8 xs[i].op, .int .i64 xs[i].a, .int .i64 xs[i].b, .int .i64 xs[i].c] := hx.nth h
        have e2 : nth y i = .agg [.int .u8 ys[i].op, .int .i64 ys[i].a, .int .i64 ys[i].b, .int .i64 ys[i].c] := hy.nth h'
        simp only [go_sem, reduceIte, reduceCtorEq, Nat.reduceAdd, Nat.reduceSub, Nat.reduceEqDiff, Nat.reduceLeDiff, Nat.reduceBEq, Nat.reduceLT, Int.ofNat_lt, h, h', hx.len, hy.len, hx.at _ h, hy.at _ h', e1, e2, eq_DInstr]
        by_cases he : xs[i] = ys[i]
        · simp only [go_sem, reduceIte, reduceCtorEq, Nat.reduceAdd, Nat.reduceSub, Nat.reduceEqDiff, Nat.reduceLeDiff, Nat.reduceBEq, Nat.reduceLT, he, succ_i64 h hx.max]
          exact ⟨i + 1, by omega, ⟨h, take_succ_eq hl ht h he⟩, rfl⟩
        · simp only [go_sem, reduceIte, reduceCtorEq, Nat.reduceAdd, Nat.reduceSub, Nat.reduceEqDiff, Nat.reduceLeDiff, Nat.reduceBEq, Nat.reduceLT, he]
          rw [leave_plain rfl rfl, Opt_some]
          exact ⟨⟨_, rfl⟩, by rw [decide_eq_false (ne_of_get h h' he)]⟩
      · have : i = xs.length := by omega
        subst this
        simp only [go_sem, reduceIte, reduceCtorEq, Nat.reduceAdd, Nat.reduceSub, Nat.reduceEqDiff, Nat.reduceLeDiff, Nat.reduceBEq, Nat.reduceLT, Int.ofNat_lt, h, hx.len]
        rw [leave_plain rfl rfl, Opt_some]
        exact ⟨⟨_, rfl⟩, by rw [decide_eq_true (eq_of_take hl ht)]⟩
  · simp only [go_sem, reduceIte, reduceCtorEq, Nat.reduceAdd, Nat.reduceSub, Nat.reduceEqDiff, Nat.reduceLeDiff, Nat.reduceBEq, Nat.reduceLT, hl]
    rw [leave_plain rfl rfl, Opt_some]
    exact ⟨⟨_, rfl⟩, by rw [decide_eq_false (ne_of_len hl)]⟩

theorem w_wreckageref08_Same (xs ys : List DRun) (x y : AV) (hx : IsSl IsRun 2 xs x) (hy : IsSl IsRun 2 ys y) (m : Mem) : Okv tab F_wreckageref08_Same [x, y] m (.bool (decide (xs = ys))) := by
  refine okv_of t_wreckageref08_Same ?_
  obtain ⟨stk, cur, nx, live, fl⟩ := m
  simp only [a_wreckageref08_Same, go_sem, reduceIte, reduceCtorEq, Nat.reduceAdd, Nat.reduceSub, Nat.reduceEqDiff, Nat.reduceLeDiff, Nat.reduceBEq, Nat.reduceLT, hx.len, hy.len, natCast_bne]
  by_cases hl : xs.length = ys.length
  · simp only [go_sem, reduceIte, reduceCtorEq, Nat.reduceAdd, Nat.reduceSub, Nat.reduceEqDiff, Nat.reduceLeDiff, Nat.reduceBEq, Nat.reduceLT, hl, hx.len]
    refine XL_rule (α := Nat) (fun i σ => (i ≤ xs.length ∧ xs.take i = ys.take i) ∧ heads [0, 1, 5] 0 σ = ⟨tmps 26 [(0, x), (1, y), (5, .int .i64 i)], ⟨stk ++ [cur], [], nx, [] :: live, fl⟩⟩) (fun i => xs.length - i) 0 ?_ ?_
    · refine ⟨⟨Nat.zero_le _, rfl⟩, ?_⟩
      simp only [go_sem, reduceIte, reduceCtorEq, Nat.reduceAdd, Nat.reduceSub, Nat.reduceEqDiff, Nat.reduceLeDiff, Nat.reduceBEq, Nat.reduceLT, hl]
      rfl
    · rintro i σ ⟨⟨hi, ht⟩, hσ⟩
      rw [hσ]
      dsimp only at hi ht ⊢
      by_cases h : i < xs.length
      · have h' : i < ys.length := hl ▸ h
        have e1 : nth x i = .agg [.int .i64 xs[i].frm, .int .u64 xs[i].value] := hx.nth h
        have e2 : nth y i = .agg [.int .i64 ys[i].frm, .int .u64 ys[i].value] := hy.nth h'
        simp only [go_sem, reduceIte, reduceCtorEq, Nat.reduceAdd, Nat.reduceSub, Nat.reduceEqDiff, Nat.reduceLeDiff, Nat.reduceBEq, Nat.reduceLT, Int.ofNat_lt, h, h', hx.len, hy.len, hx.at _ h, hy.at _ h', e1, e2, eq_DRun]
        by_cases he : xs[i] = ys[i]
        · simp only [go_sem, reduceIte, reduceCtorEq, Nat.reduceAdd, Nat.reduceSub, Nat.reduceEqDiff, Nat.reduceLeDiff, Nat.reduceBEq, Nat.reduceLT, he, succ_i64 h hx.max]
          exact ⟨i + 1, by omega, ⟨h, take_succ_eq hl ht h he⟩, rfl⟩
        · simp only [go_sem, reduceIte, reduceCtorEq, Nat.reduceAdd, Nat.reduceSub, Nat.reduceEqDiff, Nat.reduceLeDiff, Nat.reduceBEq, Nat.reduceLT, he]
          rw [leave_plain rfl rfl, Opt_some]
          exact ⟨⟨_, rfl⟩, by rw [decide_eq_false (ne_of_get h h' he)]⟩
      · have : i = xs.length := by omega
        subst this
        simp only [go_sem, reduceIte, reduceCtorEq, Nat.reduceAdd, Nat.reduceSub, Nat.reduceEqDiff, Nat.reduceLeDiff, Nat.reduceBEq, Nat.reduceLT, Int.ofNat_lt, h, hx.len]
        rw [leave_plain rfl rfl, Opt_some]
        exact ⟨⟨_, rfl⟩, by rw [decide_eq_true (eq_of_take hl ht)]⟩
  · simp only [go_sem, reduceIte, reduceCtorEq, Nat.reduceAdd, Nat.reduceSub, Nat.reduceEqDiff, Nat.reduceLeDiff, Nat.reduceBEq, Nat.reduceLT, hl]
    rw [leave_plain rfl rfl, Opt_some]
    exact ⟨⟨_, rfl⟩, by rw [decide_eq_false (ne_of_len hl)]⟩

theorem w_wreckageref27_SameHeads (xs ys : List DRoutine) (x y : AV) (hx : IsSl IsRoutine 6 xs x) (hy : IsSl IsRoutine 6 ys y) (m : Mem) : Okv tab F_wreckageref27_SameHeads [x, y] m (.bool (decide (xs = ys))) := by
  refine okv_of t_wreckageref27_SameHeads ?_
  obtain ⟨stk, cur, nx, live, fl⟩ := m
  simp only [a_wreckageref27_SameHeads, go_sem, reduceIte, reduceCtorEq, Nat.reduceAdd, Nat.reduceSub, Nat.reduceEqDiff, Nat.reduceLeDiff, Nat.reduceBEq, Nat.reduceLT, hx.len, hy.len, natCast_bne]
  by_cases hl : xs.length = ys.length
  · simp only [go_sem, reduceIte, reduceCtorEq, Nat.reduceAdd, Nat.reduceSub, Nat.reduceEqDiff, Nat.reduceLeDiff, Nat.reduceBEq, Nat.reduceLT, hl, hx.len]
    refine XL_rule (α := Nat) (fun i σ => (i ≤ xs.length ∧ xs.take i = ys.take i) ∧ heads [0, 1, 5] 0 σ = ⟨tmps 26 [(0, x), (1, y), (5, .int .i64 i)], ⟨stk ++ [cur], [], nx, [] :: live, fl⟩⟩) (fun i => xs.length - i) 0 ?_ ?_
    · refine ⟨⟨Nat.zero_le _, rfl⟩, ?_⟩
      simp only [go_sem, reduceIte, reduceCtorEq, Nat.reduceAdd, Nat.reduceSub, Nat.reduceEqDiff, Nat.reduceLeDiff, Nat.reduceBEq, Nat.reduceLT, hl]
      rfl
    · rintro i σ ⟨⟨hi, ht⟩, hσ⟩
      rw [hσ]
      dsimp only at hi ht ⊢
      by_cases h : i < xs.length
      · have h' : i < ys.length := hl ▸ h
        have e1 : nth x i = .agg [.int .u8 xs[i].status, .int .u64 xs[i].code, .int .u64 xs[i].sp, .int .u64 xs[i].defers, .int .u64 xs[i].panics, .int .i64 xs[i].key] := hx.nth h
        have e2 : nth y i = .agg [.int .u8 ys[i].status, .int .u64 ys[i].code, .int .u64 ys[i].sp, .int .u64 ys[i].defers, .int .u64 ys[i].panics, .int .i64 ys[i].key] := hy.nth h'
        simp only [go_sem, reduceIte, reduceCtorEq, Nat.reduceAdd, Nat.reduceSub, Nat.reduceEqDiff, Nat.reduceLeDiff, Nat.reduceBEq, Nat.reduceLT, Int.ofNat_lt, h, h', hx.len, hy.len, hx.at _ h, hy.at _ h', e1, e2, eq_DRoutine]
        by_cases he : xs[i] = ys[i]
        · simp only [go_sem, reduceIte, reduceCtorEq, Nat.reduceAdd, Nat.reduceSub, Nat.reduceEqDiff, Nat.reduceLeDiff, Nat.reduceBEq, Nat.reduceLT, he, succ_i64 h hx.max]
          exact ⟨i + 1, by omega, ⟨h, take_succ_eq hl ht h he⟩, rfl⟩
        · simp only [go_sem, reduceIte, reduceCtorEq, Nat.reduceAdd, Nat.reduceSub, Nat.reduceEqDiff, Nat.reduceLeDiff, Nat.reduceBEq, Nat.reduceLT, he]
          rw [leave_plain rfl rfl, Opt_some]
          exact ⟨⟨_, rfl⟩, by rw [decide_eq_false (ne_of_get h h' he)]⟩
      · have : i = xs.length := by omega
        subst this
        simp only [go_sem, reduceIte, reduceCtorEq, Nat.reduceAdd, Nat.reduceSub, Nat.reduceEqDiff, Nat.reduceLeDiff, Nat.reduceBEq, Nat.reduceLT, Int.ofNat_lt, h, hx.len]
        rw [leave_plain rfl rfl, Opt_some]
        exact ⟨⟨_, rfl⟩, by rw [decide_eq_true (eq_of_take hl ht)]⟩
  · simp only [go_sem, reduceIte, reduceCtorEq, Nat.reduceAdd, Nat.reduceSub, Nat.reduceEqDiff, Nat.reduceLeDiff, Nat.reduceBEq, Nat.reduceLT, hl]
    rw [leave_plain rfl rfl, Opt_some]
    exact ⟨⟨_, rfl⟩, by rw [decide_eq_false (ne_of_len hl)]⟩

theorem w_wreckageref27_SameList (xs ys : List Int) (x y : AV) (hx : IsSl (IsK .u64) 1 xs x) (hy : IsSl (IsK .u64) 1 ys y) (m : Mem) : Okv tab F_wreckageref27_SameList [x, y] m (.bool (decide (xs = ys))) := by
  refine okv_of t_wreckageref27_SameList ?_
  obtain ⟨stk, cur, nx, live, fl⟩ := m
  simp only [a_wreckageref27_SameList, go_sem, reduceIte, reduceCtorEq, Nat.reduceAdd, Nat.reduceSub, Nat.reduceEqDiff, Nat.reduceLeDiff, Nat.reduceBEq, Nat.reduceLT, hx.len, hy.len, natCast_bne]
  by_cases hl : xs.length = ys.length
  · simp only [go_sem, reduceIte, reduceCtorEq, Nat.reduceAdd, Nat.reduceSub, Nat.reduceEqDiff, Nat.reduceLeDiff, Nat.reduceBEq, Nat.reduceLT, hl, hx.len]
    refine XL_rule (α := Nat) (fun i σ => (i ≤ xs.length ∧ xs.take i = ys.take i) ∧ heads [0, 1, 5] 0 σ = ⟨tmps 26 [(0, x), (1, y), (5, .int .i64 i)], ⟨stk ++ [cur], [], nx, [] :: live, fl⟩⟩) (fun i => xs.length - i) 0 ?_ ?_
    · refine ⟨⟨Nat.zero_le _, rfl⟩, ?_⟩
      simp only [go_sem, reduceIte, reduceCtorEq, Nat.reduceAdd, Nat.reduceSub, Nat.reduceEqDiff, Nat.reduceLeDiff, Nat.reduceBEq, Nat.reduceLT, hl]
      rfl
    · rintro i σ ⟨⟨hi, ht⟩, hσ⟩
      rw [hσ]
      dsimp only at hi ht ⊢
      by_cases h : i < xs.length
      · have h' : i < ys.length := hl ▸ h
        have e1 : nth x i = .int .u64 xs[i] := hx.nth h
        have e2 : nth y i = .int .u64 ys[i] := hy.nth h'
        simp only [go_sem, reduceIte, reduceCtorEq, Nat.reduceAdd, Nat.reduceSub, Nat.reduceEqDiff, Nat.reduceLeDiff, Nat.reduceBEq, Nat.reduceLT, Int.ofNat_lt, h, h', hx.len, hy.len, hx.at _ h, hy.at _ h', e1, e2, evStr]
        by_cases he : xs[i] = ys[i]
        · simp only [go_sem, reduceIte, reduceCtorEq, Nat.reduceAdd, Nat.reduceSub, Nat.reduceEqDiff, Nat.reduceLeDiff, Nat.reduceBEq, Nat.reduceLT, he, succ_i64 h hx.max, bne_self_eq_false]
          exact ⟨i + 1, by omega, ⟨h, take_succ_eq hl ht h he⟩, rfl⟩
        · have hb : (xs[i] == ys[i]) = false := by simp [he]
          have hb' : (xs[i] != ys[i]) = true := by simp [he]
          simp only [go_sem, reduceIte, reduceCtorEq, Nat.reduceAdd, Nat.reduceSub, Nat.reduceEqDiff, Nat.reduceLeDiff, Nat.reduceBEq, Nat.reduceLT, hb, hb']
          rw [leave_plain rfl rfl, Opt_some]
          exact ⟨⟨_, rfl⟩, by rw [decide_eq_false (ne_of_get h h' he)]⟩
      · have : i = xs.length := by omega
        subst this
        simp only [go_sem, reduceIte, reduceCtorEq, Nat.reduceAdd, Nat.reduceSub, Nat.reduceEqDiff, Nat.reduceLeDiff, Nat.reduceBEq, Nat.reduceLT, Int.ofNat_lt, h, hx.len]
        rw [leave_plain rfl rfl, Opt_some]
        exact ⟨⟨_, rfl⟩, by rw [decide_eq_true (eq_of_take hl ht)]⟩
  · simp only [go_sem, reduceIte, reduceCtorEq, Nat.reduceAdd, Nat.reduceSub, Nat.reduceEqDiff, Nat.reduceLeDiff, Nat.reduceBEq, Nat.reduceLT, hl]
    rw [leave_plain rfl rfl, Opt_some]
    exact ⟨⟨_, rfl⟩, by rw [decide_eq_false (ne_of_len hl)]⟩

end Go.Proofs.W
