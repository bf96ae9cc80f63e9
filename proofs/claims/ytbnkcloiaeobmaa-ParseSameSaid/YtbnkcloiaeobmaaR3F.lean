/-
  R3F
-/
import Derived.Test.YtbnkcloiaeobmaaR3E
namespace Go.Proofs.W
open Go.Vs
set_option linter.unusedSimpArgs false
set_option maxRecDepth 100000

set_option maxHeartbeats 2000000 in
theorem w_wreckageref04_SameTable (xs ys : List DTyp) (x y : AV) (hx : IsSl IsTyp 4 xs x) (hy : IsSl IsTyp 4 ys y) (m : Mem) : Okv tab F_wreckageref04_SameTable [x, y] m (.bool (decide (xs = ys))) := by
  refine okv_of t_wreckageref04_SameTable ?_
  obtain ⟨stk, cur, nx, live, fl⟩ := m
  simp only [a_wreckageref04_SameTable, go_sem, reduceIte, reduceCtorEq, Nat.reduceAdd, Nat.reduceSub, Nat.reduceEqDiff, Nat.reduceLeDiff, Nat.reduceBEq, Nat.reduceLT, hx.len, hy.len, natCast_bne]
  by_cases hl : xs.length = ys.length
  · simp only [go_sem, reduceIte, reduceCtorEq, Nat.reduceAdd, Nat.reduceSub, Nat.reduceEqDiff, Nat.reduceLeDiff, Nat.reduceBEq, Nat.reduceLT, hl, hx.len]
    refine XL_rule (α := Nat × Nat) (fun z σ => (z.1 ≤ xs.length ∧ xs.take z.1 = ys.take z.1) ∧ heads [0, 1, 5] 0 σ = ⟨tmps 68 [(0, x), (1, y), (5, .int .i64 z.1)], ⟨stk ++ [cur], [], z.2, [] :: live, fl⟩⟩) (fun z => xs.length - z.1) (0, nx) ?_ ?_
    · refine ⟨⟨Nat.zero_le _, rfl⟩, ?_⟩
      simp only [go_sem, reduceIte, reduceCtorEq, Nat.reduceAdd, Nat.reduceSub, Nat.reduceEqDiff, Nat.reduceLeDiff, Nat.reduceBEq, Nat.reduceLT, hl]
      rfl
    · rintro ⟨i, nz⟩ σ ⟨⟨hi, ht⟩, hσ⟩
      rw [hσ]
      dsimp only at hi ht ⊢
      by_cases h : i < xs.length
      · have h' : i < ys.length := hl ▸ h
        obtain ⟨v, e1, q1⟩ := hx.nth h
        obtain ⟨u, e2, q2⟩ := hy.nth h'
        have eqt : ∀ a b : DTyp, a = b ↔ (a.kind = b.kind ∧ a.elem = b.elem ∧ a.len = b.len ∧ a.fields = b.fields) := fun a b => by cases a; cases b; simp
        obtain ⟨K, hK⟩ := Okv.all (w_wreckageref04_SameFields _ _ _ _ q1 q2)
        simp only [go_sem, reduceIte, reduceCtorEq, Nat.reduceAdd, Nat.reduceSub, Nat.reduceEqDiff, Nat.reduceLeDiff, Nat.reduceBEq, Nat.reduceLT, Int.ofNat_lt, h, h', hx.len, hy.len, hx.at _ h, hy.at _ h', e1, e2]
        have fin : xs[i] ≠ ys[i] → ∀ k : Nat, (∃ k', (⟨stk, cur, k, live, fl⟩ : Mem) = (⟨stk, cur, nx, live, fl⟩ : Mem).bump k') ∧ AV.bool false = AV.bool (decide (xs = ys)) := fun he k => ⟨⟨_, rfl⟩, by rw [decide_eq_false (ne_of_get h h' he)]⟩
        by_cases c1 : xs[i].kind = ys[i].kind
        case neg =>
          have e : (xs[i].kind != ys[i].kind) = true := by simp [c1]
          simp only [go_sem, reduceIte, reduceCtorEq, Nat.reduceAdd, Nat.reduceSub, Nat.reduceEqDiff, Nat.reduceLeDiff, Nat.reduceBEq, Nat.reduceLT, e]
          rw [leave_plain rfl rfl, Opt_some]
          exact fin (fun he => c1 (by rw [he])) _
        simp only [go_sem, reduceIte, reduceCtorEq, Nat.reduceAdd, Nat.reduceSub, Nat.reduceEqDiff, Nat.reduceLeDiff, Nat.reduceBEq, Nat.reduceLT, c1, bne_self_eq_false, hx.at _ h, hy.at _ h', e1, e2]
        by_cases c2 : xs[i].elem = ys[i].elem
        case neg =>
          have e : (xs[i].elem != ys[i].elem) = true := by simp [c2]
          simp only [go_sem, reduceIte, reduceCtorEq, Nat.reduceAdd, Nat.reduceSub, Nat.reduceEqDiff, Nat.reduceLeDiff, Nat.reduceBEq, Nat.reduceLT, e]
          rw [leave_plain rfl rfl, Opt_some]
          exact fin (fun he => c2 (by rw [he])) _
        simp only [go_sem, reduceIte, reduceCtorEq, Nat.reduceAdd, Nat.reduceSub, Nat.reduceEqDiff, Nat.reduceLeDiff, Nat.reduceBEq, Nat.reduceLT, c2, bne_self_eq_false, hx.at _ h, hy.at _ h', e1, e2]
        by_cases c3 : xs[i].len = ys[i].len
        case neg =>
          have e : (xs[i].len != ys[i].len) = true := by simp [c3]
          simp only [go_sem, reduceIte, reduceCtorEq, Nat.reduceAdd, Nat.reduceSub, Nat.reduceEqDiff, Nat.reduceLeDiff, Nat.reduceBEq, Nat.reduceLT, e]
          rw [leave_plain rfl rfl, Opt_some]
          exact fin (fun he => c3 (by rw [he])) _
        simp only [go_sem, reduceIte, reduceCtorEq, Nat.reduceAdd, Nat.reduceSub, Nat.reduceEqDiff, Nat.reduceLeDiff, Nat.reduceBEq, Nat.reduceLT, c3, bne_self_eq_false, hx.at _ h, hy.at _ h', e1, e2, hK]
        by_cases c4 : xs[i].fields = ys[i].fields
        case neg =>
          simp only [go_sem, reduceIte, reduceCtorEq, Nat.reduceAdd, Nat.reduceSub, Nat.reduceEqDiff, Nat.reduceLeDiff, Nat.reduceBEq, Nat.reduceLT, c4]
          rw [leave_plain rfl rfl, Opt_some]
          exact fin (fun he => c4 (by rw [he])) _
        simp only [go_sem, reduceIte, reduceCtorEq, Nat.reduceAdd, Nat.reduceSub, Nat.reduceEqDiff, Nat.reduceLeDiff, Nat.reduceBEq, Nat.reduceLT, c4, succ_i64 h hx.max]
        exact ⟨(i + 1, _), by dsimp only; omega, ⟨h, take_succ_eq hl ht h ((eqt _ _).2 ⟨c1, c2, c3, c4⟩)⟩, rfl⟩
      · have : i = xs.length := by omega
        subst this
        simp only [go_sem, reduceIte, reduceCtorEq, Nat.reduceAdd, Nat.reduceSub, Nat.reduceEqDiff, Nat.reduceLeDiff, Nat.reduceBEq, Nat.reduceLT, Int.ofNat_lt, h, hx.len]
        rw [leave_plain rfl rfl, Opt_some]
        exact ⟨⟨_, rfl⟩, by rw [decide_eq_true (eq_of_take hl ht)]⟩
  · simp only [go_sem, reduceIte, reduceCtorEq, Nat.reduceAdd, Nat.reduceSub, Nat.reduceEqDiff, Nat.reduceLeDiff, Nat.reduceBEq, Nat.reduceLT, hl]
    rw [leave_plain rfl rfl, Opt_some]
    exact ⟨⟨_, rfl⟩, by rw [decide_eq_false (ne_of_len hl)]⟩

set_option maxHeartbeats 2000000 in
theorem w_wreckageref09_Same (a b : DImage) (x y : AV) (hx : IsImage a x) (hy : IsImage b y) (m : Mem) : Okv tab F_wreckageref09_Same [x, y] m (.bool (decide (a = b))) := by
  refine okv_of t_wreckageref09_Same ?_
  obtain ⟨stk, cur, nx, live, fl⟩ := m
  obtain ⟨ta, sa, fa⟩ := a
  obtain ⟨tb, sb, fb⟩ := b
  obtain ⟨x0, x1, x2, rfl, p0, p1, p2⟩ := hx
  obtain ⟨y0, y1, y2, rfl, q0, q1, q2⟩ := hy
  dsimp only at p0 p1 p2 q0 q1 q2
  obtain ⟨K, hK⟩ := Okv.all (w_wreckageref04_SameTable _ _ _ _ p0 q0)
  simp only [a_wreckageref09_Same, go_sem, reduceIte, reduceCtorEq, Nat.reduceAdd, Nat.reduceSub, Nat.reduceEqDiff, Nat.reduceLeDiff, Nat.reduceBEq, Nat.reduceLT, hK, DImage.mk.injEq]
  by_cases c1 : ta = tb
  case neg =>
    simp only [go_sem, reduceIte, reduceCtorEq, Nat.reduceAdd, Nat.reduceSub, Nat.reduceEqDiff, Nat.reduceLeDiff, Nat.reduceBEq, Nat.reduceLT, c1]
    rw [leave_plain rfl rfl, Opt_some]
    exact ⟨⟨_, rfl⟩, by simp [c1]⟩
  simp only [go_sem, reduceIte, reduceCtorEq, Nat.reduceAdd, Nat.reduceSub, Nat.reduceEqDiff, Nat.reduceLeDiff, Nat.reduceBEq, Nat.reduceLT, c1, p1.len, q1.len, natCast_bne]
  by_cases c2 : sa.length = sb.length
  case neg =>
    simp only [go_sem, reduceIte, reduceCtorEq, Nat.reduceAdd, Nat.reduceSub, Nat.reduceEqDiff, Nat.reduceLeDiff, Nat.reduceBEq, Nat.reduceLT, c2]
    rw [leave_plain rfl rfl, Opt_some]
    exact ⟨⟨_, rfl⟩, by simp [ne_of_len c2]⟩
  simp only [go_sem, reduceIte, reduceCtorEq, Nat.reduceAdd, Nat.reduceSub, Nat.reduceEqDiff, Nat.reduceLeDiff, Nat.reduceBEq, Nat.reduceLT, c2, p2.len, q2.len, natCast_bne]
  by_cases c3 : fa.length = fb.length
  case neg =>
    simp only [go_sem, reduceIte, reduceCtorEq, Nat.reduceAdd, Nat.reduceSub, Nat.reduceEqDiff, Nat.reduceLeDiff, Nat.reduceBEq, Nat.reduceLT, c3]
    rw [leave_plain rfl rfl, Opt_some]
    exact ⟨⟨_, rfl⟩, by simp [ne_of_len c3]⟩
  simp only [go_sem, reduceIte, reduceCtorEq, Nat.reduceAdd, Nat.reduceSub, Nat.reduceEqDiff, Nat.reduceLeDiff, Nat.reduceBEq, Nat.reduceLT, c3]
  refine XL_rule (α := Nat × Nat) (fun z σ => (z.1 ≤ sa.length ∧ sa.take z.1 = sb.take z.1) ∧ heads [2, 3, 5] 2 σ = ⟨tmps 68 [(2, .ptr (stk ++ [cur]).length 0 nx 0), (3, .ptr (stk ++ [cur]).length 1 (nx + 1) 0), (5, .int .i64 z.1)], ⟨stk ++ [cur], [⟨nx, [x0, x1, x2]⟩, ⟨nx + 1, [y0, y1, y2]⟩], z.2, [] :: live, fl⟩⟩) (fun z => sa.length - z.1) (0, K ⟨stk ++ [cur], [⟨nx, [x0, x1, x2]⟩, ⟨nx + 1, [y0, y1, y2]⟩], nx + 1 + 1, [] :: live, fl⟩) ?_ ?_
  · refine ⟨⟨Nat.zero_le _, rfl⟩, ?_⟩
    simp only [go_sem, reduceIte, reduceCtorEq, Nat.reduceAdd, Nat.reduceSub, Nat.reduceEqDiff, Nat.reduceLeDiff, Nat.reduceBEq, Nat.reduceLT]
    rfl
  · rintro ⟨i, nz⟩ σ ⟨⟨hi, ht⟩, hσ⟩
    rw [hσ]
    dsimp only at hi ht ⊢
    by_cases h : i < sa.length
    · have h' : i < sb.length := c2 ▸ h
      have e1 : nth x1 i = .str sa[i] := p1.nth h
      have e2 : nth y1 i = .str sb[i] := q1.nth h'
      simp only [go_sem, reduceIte, reduceCtorEq, Nat.reduceAdd, Nat.reduceSub, Nat.reduceEqDiff, Nat.reduceLeDiff, Nat.reduceBEq, Nat.reduceLT, Int.ofNat_lt, h, p1.len, p1.at _ h, q1.at _ h', e1, e2, evStr]
      by_cases he : sa[i] = sb[i]
      · simp only [go_sem, reduceIte, reduceCtorEq, Nat.reduceAdd, Nat.reduceSub, Nat.reduceEqDiff, Nat.reduceLeDiff, Nat.reduceBEq, Nat.reduceLT, he, succ_i64 h p1.max]
        exact ⟨(i + 1, _), by dsimp only; omega, ⟨h, take_succ_eq c2 ht h he⟩, rfl⟩
      · have hb : (sa[i] == sb[i]) = false := by simp [he]
        simp only [go_sem, reduceIte, reduceCtorEq, Nat.reduceAdd, Nat.reduceSub, Nat.reduceEqDiff, Nat.reduceLeDiff, Nat.reduceBEq, Nat.reduceLT, hb]
        rw [leave_plain rfl rfl, Opt_some]
        exact ⟨⟨_, rfl⟩, by simp [ne_of_get h h' he]⟩
    · have : i = sa.length := by omega
      subst this
      have es := eq_of_take c2 ht
      clear hσ σ
      simp only [go_sem, reduceIte, reduceCtorEq, Nat.reduceAdd, Nat.reduceSub, Nat.reduceEqDiff, Nat.reduceLeDiff, Nat.reduceBEq, Nat.reduceLT, Int.ofNat_lt, h, p1.len]
      refine XL_rule (α := Nat × Nat) (fun z σ => (z.1 ≤ fa.length ∧ fa.take z.1 = fb.take z.1) ∧ heads [2, 3, 6] 2 σ = ⟨tmps 68 [(2, .ptr (stk ++ [cur]).length 0 nx 0), (3, .ptr (stk ++ [cur]).length 1 (nx + 1) 0), (6, .int .i64 z.1)], ⟨stk ++ [cur], [⟨nx, [x0, x1, x2]⟩, ⟨nx + 1, [y0, y1, y2]⟩], z.2, [] :: live, fl⟩⟩) (fun z => fa.length - z.1) (0, nz) ?_ ?_
      · refine ⟨⟨Nat.zero_le _, rfl⟩, ?_⟩
        simp only [go_sem, reduceIte, reduceCtorEq, Nat.reduceAdd, Nat.reduceSub, Nat.reduceEqDiff, Nat.reduceLeDiff, Nat.reduceBEq, Nat.reduceLT]
        rfl
      · rintro ⟨i, nz⟩ σ ⟨⟨hi, ht⟩, hσ⟩
        rw [hσ]
        dsimp only at hi ht ⊢
        by_cases h : i < fa.length
        · have h' : i < fb.length := c3 ▸ h
          have e1 := p2.nth h
          have e2 := q2.nth h'
          obtain ⟨K2, hK2⟩ := Okv.all (w_wreckageref09_SameFunc _ _ _ _ e1 e2)
          simp only [go_sem, reduceIte, reduceCtorEq, Nat.reduceAdd, Nat.reduceSub, Nat.reduceEqDiff, Nat.reduceLeDiff, Nat.reduceBEq, Nat.reduceLT, Int.ofNat_lt, h, p2.len, p2.at _ h, q2.at _ h', e1.agg.1, e2.agg.1, hK2]
          by_cases he : fa[i] = fb[i]
          · simp only [go_sem, reduceIte, reduceCtorEq, Nat.reduceAdd, Nat.reduceSub, Nat.reduceEqDiff, Nat.reduceLeDiff, Nat.reduceBEq, Nat.reduceLT, he, succ_i64 h p2.max]
            exact ⟨(i + 1, _), by dsimp only; omega, ⟨h, take_succ_eq c3 ht h he⟩, rfl⟩
          · simp only [go_sem, reduceIte, reduceCtorEq, Nat.reduceAdd, Nat.reduceSub, Nat.reduceEqDiff, Nat.reduceLeDiff, Nat.reduceBEq, Nat.reduceLT, he]
            rw [leave_plain rfl rfl, Opt_some]
            exact ⟨⟨_, rfl⟩, by simp [ne_of_get h h' he]⟩
        · have : i = fa.length := by omega
          subst this
          simp only [go_sem, reduceIte, reduceCtorEq, Nat.reduceAdd, Nat.reduceSub, Nat.reduceEqDiff, Nat.reduceLeDiff, Nat.reduceBEq, Nat.reduceLT, Int.ofNat_lt, h, p2.len]
          rw [leave_plain rfl rfl, Opt_some]
          exact ⟨⟨_, rfl⟩, by simp [c1, es, eq_of_take c3 ht]⟩

end Go.Proofs.W
