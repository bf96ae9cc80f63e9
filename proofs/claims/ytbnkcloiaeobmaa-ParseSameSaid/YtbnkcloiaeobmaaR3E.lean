/-
  R3E
-/
import Derived.Test.YtbnkcloiaeobmaaR3D
namespace Go.Proofs.W
open Go.Vs
set_option linter.unusedSimpArgs false
set_option maxRecDepth 100000

theorem w_parse_sameChain (a b : List Int) (x y : AV) (hx : IsSl (IsK .u64) 1 a x) (hy : IsSl (IsK .u64) 1 b y) (m : Mem) : Okv tab F_parse_sameChain [x, y] m (.bool (decide (a = b))) := by
  refine okv_of t_parse_sameChain ?_
  obtain ⟨stk, cur, nx, live, fl⟩ := m
  obtain ⟨K, hK⟩ := Okv.all (w_slices_Equal_uint64_uint64 _ _ _ _ hx hy)
  simp only [a_parse_sameChain, go_sem, reduceIte, reduceCtorEq, Nat.reduceAdd, Nat.reduceSub, Nat.reduceEqDiff, Nat.reduceLeDiff, Nat.reduceBEq, Nat.reduceLT, hK]
  rw [leave_plain rfl rfl, Opt_some]
  exact ⟨⟨_, rfl⟩, rfl⟩

theorem w_slices_EqualFunc_uint64_uint64_uint64_uint64 (xs ys : List (List Int)) (x y : AV) (hx : IsSl (IsSl (IsK .u64) 1) 1 xs x) (hy : IsSl (IsSl (IsK .u64) 1) 1 ys y) (m : Mem) : Okv tab F_slices_EqualFunc_uint64_uint64_uint64_uint64 [x, y, .fn (.func F_parse_sameChain) [] []] m (.bool (decide (xs = ys))) := by
  refine okv_of t_slices_EqualFunc_uint64_uint64_uint64_uint64 ?_
  obtain ⟨stk, cur, nx, live, fl⟩ := m
  simp only [a_slices_EqualFunc_uint64_uint64_uint64_uint64, go_sem, reduceIte, reduceCtorEq, Nat.reduceAdd, Nat.reduceSub, Nat.reduceEqDiff, Nat.reduceLeDiff, Nat.reduceBEq, Nat.reduceLT, hx.len, hy.len, natCast_bne]
  by_cases hl : xs.length = ys.length
  · simp only [go_sem, reduceIte, reduceCtorEq, Nat.reduceAdd, Nat.reduceSub, Nat.reduceEqDiff, Nat.reduceLeDiff, Nat.reduceBEq, Nat.reduceLT, hl, hx.len]
    refine XL_rule (α := Nat × Nat) (fun z σ => (z.1 ≤ xs.length ∧ xs.take z.1 = ys.take z.1) ∧ heads [1, 2, 15, 16, 17] 0 σ = ⟨tmps 32 [(1, y), (2, .fn (.func F_parse_sameChain) [] []), (15, x), (16, .int .i64 xs.length), (17, .int .i64 z.1)], ⟨stk ++ [cur], [], z.2, [] :: live, fl⟩⟩) (fun z => xs.length - z.1) (0, nx) ?_ ?_
    · refine ⟨⟨Nat.zero_le _, rfl⟩, ?_⟩
      simp only [go_sem, reduceIte, reduceCtorEq, Nat.reduceAdd, Nat.reduceSub, Nat.reduceEqDiff, Nat.reduceLeDiff, Nat.reduceBEq, Nat.reduceLT, hl]
      rfl
    · rintro ⟨i, nz⟩ σ ⟨⟨hi, ht⟩, hσ⟩
      rw [hσ]
      dsimp only at hi ht ⊢
      by_cases h : i < xs.length
      · have h' : i < ys.length := hl ▸ h
        have e1 := hx.nth h
        have e2 := hy.nth h'
        obtain ⟨k, hk⟩ := Okv.all (w_parse_sameChain _ _ _ _ e1 e2)
        simp only [go_sem, reduceIte, reduceCtorEq, Nat.reduceAdd, Nat.reduceSub, Nat.reduceEqDiff, Nat.reduceLeDiff, Nat.reduceBEq, Nat.reduceLT, Int.ofNat_lt, h, h', hx.len, hy.len, hx.at _ h, hy.at _ h', e1.refs_cells, e2.refs_cells, e1.one, e2.one, hk]
        by_cases he : xs[i] = ys[i]
        · simp only [go_sem, reduceIte, reduceCtorEq, Nat.reduceAdd, Nat.reduceSub, Nat.reduceEqDiff, Nat.reduceLeDiff, Nat.reduceBEq, Nat.reduceLT, he, succ_i64 h hx.max]
          exact ⟨(i + 1, _), by dsimp only; omega, ⟨h, take_succ_eq hl ht h he⟩, rfl⟩
        · simp only [go_sem, reduceIte, reduceCtorEq, Nat.reduceAdd, Nat.reduceSub, Nat.reduceEqDiff, Nat.reduceLeDiff, Nat.reduceBEq, Nat.reduceLT, he]
          rw [leave_plain rfl rfl, Opt_some]
          exact ⟨⟨_, rfl⟩, by rw [decide_eq_false (ne_of_get h h' he)]⟩
      · have : i = xs.length := by omega
        subst this
        simp only [go_sem, reduceIte, reduceCtorEq, Nat.reduceAdd, Nat.reduceSub, Nat.reduceEqDiff, Nat.reduceLeDiff, Nat.reduceBEq, Nat.reduceLT, Int.ofNat_lt, h, hx.len]
        rw [leave_plain rfl rfl, Opt_some]
        exact ⟨⟨_, rfl⟩, by rw [decide_eq_true (eq_of_take hl ht)]⟩
  · simp only [go_sem, reduceIte, reduceCtorEq, Nat.reduceAdd, Nat.reduceSub, Nat.reduceEqDiff, Nat.reduceLeDiff, Nat.reduceBEq, Nat.reduceLT, hl]
    rw [leave_plain rfl rfl, Opt_some]
    exact ⟨⟨_, rfl⟩, by rw [decide_eq_false (ne_of_len hl)]⟩

theorem w_wreckageref27_SameChains (xs ys : List (List Int)) (x y : AV) (hx : IsSl (IsSl (IsK .u64) 1) 1 xs x) (hy : IsSl (IsSl (IsK .u64) 1) 1 ys y) (m : Mem) : Okv tab F_wreckageref27_SameChains [x, y] m (.bool (decide (xs = ys))) := by
  refine okv_of t_wreckageref27_SameChains ?_
  obtain ⟨stk, cur, nx, live, fl⟩ := m
  simp only [a_wreckageref27_SameChains, go_sem, reduceIte, reduceCtorEq, Nat.reduceAdd, Nat.reduceSub, Nat.reduceEqDiff, Nat.reduceLeDiff, Nat.reduceBEq, Nat.reduceLT, hx.len, hy.len, natCast_bne]
  by_cases hl : xs.length = ys.length
  · simp only [go_sem, reduceIte, reduceCtorEq, Nat.reduceAdd, Nat.reduceSub, Nat.reduceEqDiff, Nat.reduceLeDiff, Nat.reduceBEq, Nat.reduceLT, hl, hx.len]
    refine XL_rule (α := Nat × Nat) (fun z σ => (z.1 ≤ xs.length ∧ xs.take z.1 = ys.take z.1) ∧ heads [0, 1, 5] 0 σ = ⟨tmps 27 [(0, x), (1, y), (5, .int .i64 z.1)], ⟨stk ++ [cur], [], z.2, [] :: live, fl⟩⟩) (fun z => xs.length - z.1) (0, nx) ?_ ?_
    · refine ⟨⟨Nat.zero_le _, rfl⟩, ?_⟩
      simp only [go_sem, reduceIte, reduceCtorEq, Nat.reduceAdd, Nat.reduceSub, Nat.reduceEqDiff, Nat.reduceLeDiff, Nat.reduceBEq, Nat.reduceLT, hl]
      rfl
    · rintro ⟨i, nz⟩ σ ⟨⟨hi, ht⟩, hσ⟩
      rw [hσ]
      dsimp only at hi ht ⊢
      by_cases h : i < xs.length
      · have h' : i < ys.length := hl ▸ h
        have e1 := hx.nth h
        have e2 := hy.nth h'
        obtain ⟨k, hk⟩ := Okv.all (w_wreckageref27_SameList _ _ _ _ e1 e2)
        simp only [go_sem, reduceIte, reduceCtorEq, Nat.reduceAdd, Nat.reduceSub, Nat.reduceEqDiff, Nat.reduceLeDiff, Nat.reduceBEq, Nat.reduceLT, Int.ofNat_lt, h, h', hx.len, hy.len, hx.at _ h, hy.at _ h', e1.refs_cells, e2.refs_cells, e1.one, e2.one, hk]
        by_cases he : xs[i] = ys[i]
        · simp only [go_sem, reduceIte, reduceCtorEq, Nat.reduceAdd, Nat.reduceSub, Nat.reduceEqDiff, Nat.reduceLeDiff, Nat.reduceBEq, Nat.reduceLT, he, succ_i64 h hx.max]
          exact ⟨(i + 1, _), by dsimp only; omega, ⟨h, take_succ_eq hl ht h he⟩, rfl⟩
        · simp only [go_sem, reduceIte, reduceCtorEq, Nat.reduceAdd, Nat.reduceSub, Nat.reduceEqDiff, Nat.reduceLeDiff, Nat.reduceBEq, Nat.reduceLT, he]
          rw [leave_plain rfl rfl, Opt_some]
          exact ⟨⟨_, rfl⟩, by rw [decide_eq_false (ne_of_get h h' he)]⟩
      · have : i = xs.length := by omega
        subst this
        simp only [go_sem, reduceIte, reduceCtorEq, Nat.reduceAdd, Nat.reduceSub, Nat.reduceEqDiff, Nat.reduceLeDiff, Nat.reduceBEq, Nat.reduceLT, Int.ofNat_lt, h, hx.len]
        rw [leave_plain rfl rfl, Opt_some]
        exact ⟨⟨_, rfl⟩, by rw [decide_eq_true (eq_of_take hl ht)]⟩
  · simp only [go_sem, reduceIte, reduceCtorEq, Nat.reduceAdd, Nat.reduceSub, Nat.reduceEqDiff, Nat.reduceLeDiff, Nat.reduceBEq, Nat.reduceLT, hl]
    rw [leave_plain rfl rfl, Opt_some]
    exact ⟨⟨_, rfl⟩, by rw [decide_eq_false (ne_of_len hl)]⟩

theorem w_wreckageref26_SameRegion (a b : DRegion) (x y : AV) (hx : IsRegion a x) (hy : IsRegion b y) (m : Mem) : Okv tab F_wreckageref26_SameRegion [x, y] m (.bool (decide (a = b))) := by
  refine okv_of t_wreckageref26_SameRegion ?_
  obtain ⟨stk, cur, nx, live, fl⟩ := m
  obtain ⟨a1, a2⟩ := a
  obtain ⟨b1, b2⟩ := b
  obtain ⟨v, rfl, hv⟩ := hx
  obtain ⟨u, rfl, hu⟩ := hy
  dsimp only at hv hu
  have hvs := fun m => IsBytes.toStr m hv
  have hus := fun m => IsBytes.toStr m hu
  simp only [a_wreckageref26_SameRegion, go_sem, reduceIte, reduceCtorEq, Nat.reduceAdd, Nat.reduceSub, Nat.reduceEqDiff, Nat.reduceLeDiff, Nat.reduceBEq, Nat.reduceLT, DRegion.mk.injEq]
  by_cases h : a1 = b1
  · subst h
    by_cases h2 : a2 = b2
    · subst h2
      simp only [go_sem, reduceIte, reduceCtorEq, Nat.reduceAdd, Nat.reduceSub, Nat.reduceEqDiff, Nat.reduceLeDiff, Nat.reduceBEq, Nat.reduceLT, hvs, hus, evStr]
      rw [leave_plain rfl rfl, Opt_some]
      exact ⟨⟨_, rfl⟩, by simp⟩
    · have e : (a2 == b2) = false := by simp [h2]
      simp only [go_sem, reduceIte, reduceCtorEq, Nat.reduceAdd, Nat.reduceSub, Nat.reduceEqDiff, Nat.reduceLeDiff, Nat.reduceBEq, Nat.reduceLT, hvs, hus, evStr, e]
      rw [leave_plain rfl rfl, Opt_some]
      exact ⟨⟨_, rfl⟩, by simp [h2]⟩
  · have e : (a1 == b1) = false := by simp [h]
    simp only [go_sem, reduceIte, reduceCtorEq, Nat.reduceAdd, Nat.reduceSub, Nat.reduceEqDiff, Nat.reduceLeDiff, Nat.reduceBEq, Nat.reduceLT, e]
    rw [leave_plain rfl rfl, Opt_some]
    exact ⟨⟨_, rfl⟩, by simp [h]⟩

theorem w_wreckageref26_SameRegions (xs ys : List DRegion) (x y : AV) (hx : IsSl IsRegion 2 xs x) (hy : IsSl IsRegion 2 ys y) (m : Mem) : Okv tab F_wreckageref26_SameRegions [x, y] m (.bool (decide (xs = ys))) := by
  refine okv_of t_wreckageref26_SameRegions ?_
  obtain ⟨stk, cur, nx, live, fl⟩ := m
  simp only [a_wreckageref26_SameRegions, go_sem, reduceIte, reduceCtorEq, Nat.reduceAdd, Nat.reduceSub, Nat.reduceEqDiff, Nat.reduceLeDiff, Nat.reduceBEq, Nat.reduceLT, hx.len, hy.len, natCast_bne]
  by_cases hl : xs.length = ys.length
  · simp only [go_sem, reduceIte, reduceCtorEq, Nat.reduceAdd, Nat.reduceSub, Nat.reduceEqDiff, Nat.reduceLeDiff, Nat.reduceBEq, Nat.reduceLT, hl, hx.len]
    refine XL_rule (α := Nat × Nat) (fun z σ => (z.1 ≤ xs.length ∧ xs.take z.1 = ys.take z.1) ∧ heads [0, 1, 5] 0 σ = ⟨tmps 27 [(0, x), (1, y), (5, .int .i64 z.1)], ⟨stk ++ [cur], [], z.2, [] :: live, fl⟩⟩) (fun z => xs.length - z.1) (0, nx) ?_ ?_
    · refine ⟨⟨Nat.zero_le _, rfl⟩, ?_⟩
      simp only [go_sem, reduceIte, reduceCtorEq, Nat.reduceAdd, Nat.reduceSub, Nat.reduceEqDiff, Nat.reduceLeDiff, Nat.reduceBEq, Nat.reduceLT, hl]
      rfl
    · rintro ⟨i, nz⟩ σ ⟨⟨hi, ht⟩, hσ⟩
      rw [hσ]
      dsimp only at hi ht ⊢
      by_cases h : i < xs.length
      · have h' : i < ys.length := hl ▸ h
        have e1 := hx.nth h
        have e2 := hy.nth h'
        have e1' := e1
        obtain ⟨p_bytes, g1, hp_bytes⟩ := e1'
        rw [g1] at e1
        have e2' := e2
        obtain ⟨q_bytes, g2, hq_bytes⟩ := e2'
        rw [g2] at e2
        obtain ⟨k, hk⟩ := Okv.all (w_wreckageref26_SameRegion _ _ _ _ e1 e2)
        simp only [go_sem, reduceIte, reduceCtorEq, Nat.reduceAdd, Nat.reduceSub, Nat.reduceEqDiff, Nat.reduceLeDiff, Nat.reduceBEq, Nat.reduceLT, Int.ofNat_lt, h, h', hx.len, hy.len, hx.at _ h, hy.at _ h', g1, hp_bytes.one, g2, hq_bytes.one, hk]
        by_cases he : xs[i] = ys[i]
        · simp only [go_sem, reduceIte, reduceCtorEq, Nat.reduceAdd, Nat.reduceSub, Nat.reduceEqDiff, Nat.reduceLeDiff, Nat.reduceBEq, Nat.reduceLT, he, succ_i64 h hx.max]
          exact ⟨(i + 1, _), by dsimp only; omega, ⟨h, take_succ_eq hl ht h he⟩, rfl⟩
        · simp only [go_sem, reduceIte, reduceCtorEq, Nat.reduceAdd, Nat.reduceSub, Nat.reduceEqDiff, Nat.reduceLeDiff, Nat.reduceBEq, Nat.reduceLT, he]
          rw [leave_plain rfl rfl, Opt_some]
          exact ⟨⟨_, rfl⟩, by rw [decide_eq_false (ne_of_get h h' he)]⟩
      · have : i = xs.length := by omega
        subst this
        simp only [go_sem, reduceIte, reduceCtorEq, Nat.reduceAdd, Nat.reduceSub, Nat.reduceEqDiff, Nat.reduceLeDiff, Nat.reduceBEq, Nat.reduceLT, Int.ofNat_lt, h, hx.len]
        rw [leave_plain rfl rfl, Opt_some]
        exact ⟨⟨_, rfl⟩, by rw [decide_eq_true (eq_of_take hl ht)]⟩
  · simp only [go_sem, reduceIte, reduceCtorEq, Nat.reduceAdd, Nat.reduceSub, Nat.reduceEqDiff, Nat.reduceLeDiff, Nat.reduceBEq, Nat.reduceLT, hl]
    rw [leave_plain rfl rfl, Opt_some]
    exact ⟨⟨_, rfl⟩, by rw [decide_eq_false (ne_of_len hl)]⟩

end Go.Proofs.W
