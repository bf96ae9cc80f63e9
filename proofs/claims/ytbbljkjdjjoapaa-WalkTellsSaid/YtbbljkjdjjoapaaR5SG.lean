/-
  R5SG
-/
import Derived.Test.YtbbljkjdjjoapaaR5S1
import Derived.Test.YtbbljkjdjjoapaaDt
namespace Go.Proofs.W
open Go.Vs
set_option linter.unusedSimpArgs false
set_option maxRecDepth 100000

/-- A table is great. -/
def great04 (l : List DTyp) : Bool := decide (40 < l.length) || l.any fun t => decide (20 < t.fields.length) || t.fields.any fun f => decide (100 < f.name.length)

theorem w_wreckageref04_Great (xs : List DTyp) (x : AV) (hx : IsSl IsTyp 4 xs x) (m : Mem) : Okv tab F_wreckageref04_Great [x] m (.bool (great04 xs)) := by
  refine okv_of t_wreckageref04_Great ?_
  obtain ⟨stk, cur, nx, live, fl⟩ := m
  simp only [a_wreckageref04_Great, go_sem, reduceIte, reduceCtorEq, Nat.reduceAdd, Nat.reduceSub, Nat.reduceEqDiff, Nat.reduceLeDiff, Nat.reduceBEq, Nat.reduceLT, hx.len]
  by_cases h40 : (xs.length : Int) > 40
  · simp only [go_sem, reduceIte, reduceCtorEq, Nat.reduceAdd, Nat.reduceSub, Nat.reduceEqDiff, Nat.reduceLeDiff, Nat.reduceBEq, Nat.reduceLT, h40]
    rw [leave_plain rfl rfl, Opt_some]
    exact ⟨⟨_, rfl⟩, by simp [great04, show 40 < xs.length by omega]⟩
  · simp only [go_sem, reduceIte, reduceCtorEq, Nat.reduceAdd, Nat.reduceSub, Nat.reduceEqDiff, Nat.reduceLeDiff, Nat.reduceBEq, Nat.reduceLT, h40]
    refine XL_rule (α := Nat) (fun i σ => (i ≤ xs.length ∧ ∀ t ∈ xs.take i, (decide (20 < t.fields.length) || t.fields.any fun f => decide (100 < f.name.length)) = false) ∧ heads [0, 3] 0 σ = ⟨tmps 42 [(0, x), (3, .int .i64 i)], ⟨stk ++ [cur], [], nx, [] :: live, fl⟩⟩) (fun i => xs.length - i) 0 ?_ ?_
    · refine ⟨⟨Nat.zero_le _, by simp⟩, ?_⟩
      simp only [go_sem, reduceIte, reduceCtorEq, Nat.reduceAdd, Nat.reduceSub, Nat.reduceEqDiff, Nat.reduceLeDiff, Nat.reduceBEq, Nat.reduceLT]
      rfl
    · rintro i σ ⟨⟨hi, hs⟩, hσ⟩
      rw [hσ]
      dsimp only at hi hs ⊢
      by_cases h : i < xs.length
      · obtain ⟨v, e1, e2⟩ := hx.nth h
        have hany : ∀ (hb : (decide (20 < xs[i].fields.length) || xs[i].fields.any fun f => decide (100 < f.name.length)) = true), great04 xs = true := fun hb => by
          have : (xs.any fun t => decide (20 < t.fields.length) || t.fields.any fun f => decide (100 < f.name.length)) = true := List.any_eq_true.2 ⟨xs[i], List.getElem_mem h, hb⟩
          simp only [great04, this, Bool.or_true]
        by_cases h20 : (xs[i].fields.length : Int) > 20
        · simp only [go_sem, reduceIte, reduceCtorEq, Nat.reduceAdd, Nat.reduceSub, Nat.reduceEqDiff, Nat.reduceLeDiff, Nat.reduceBEq, Nat.reduceLT, Int.ofNat_lt, h, hx.len, hx.at _ h, e1, e2.len, h20]
          rw [leave_plain rfl rfl, Opt_some]
          exact ⟨⟨_, rfl⟩, by rw [hany (by simp [show 20 < xs[i].fields.length by omega])]⟩
        · simp only [go_sem, reduceIte, reduceCtorEq, Nat.reduceAdd, Nat.reduceSub, Nat.reduceEqDiff, Nat.reduceLeDiff, Nat.reduceBEq, Nat.reduceLT, Int.ofNat_lt, h, hx.len, hx.at _ h, e1, e2.len, h20]
          refine XL_rule (α := Nat) (fun k σ => (k ≤ xs[i].fields.length ∧ ∀ f ∈ xs[i].fields.take k, f.name.length ≤ 100) ∧ heads [0, 3, 4] 0 σ = ⟨tmps 42 [(0, x), (3, .int .i64 i), (4, .int .i64 k)], ⟨stk ++ [cur], [], nx, [] :: live, fl⟩⟩) (fun k => xs[i].fields.length - k) 0 ?_ ?_
          · refine ⟨⟨Nat.zero_le _, by simp⟩, ?_⟩
            simp only [go_sem, reduceIte, reduceCtorEq, Nat.reduceAdd, Nat.reduceSub, Nat.reduceEqDiff, Nat.reduceLeDiff, Nat.reduceBEq, Nat.reduceLT]
            rfl
          · rintro k σ ⟨⟨hk, hks⟩, hσ⟩
            rw [hσ]
            dsimp only at hk hks ⊢
            by_cases hkl : k < xs[i].fields.length
            · have e3 : nth v k = .agg [.str xs[i].fields[k].name, .int .i64 xs[i].fields[k].typ] := e2.nth hkl
              by_cases hn : (xs[i].fields[k].name.length : Int) > 100
              · simp only [go_sem, reduceIte, reduceCtorEq, Nat.reduceAdd, Nat.reduceSub, Nat.reduceEqDiff, Nat.reduceLeDiff, Nat.reduceBEq, Nat.reduceLT, Int.ofNat_lt, h, hx.len, hx.at _ h, e1, e2.len, hkl, e2.at _ hkl, e3, hn]
                rw [leave_plain rfl rfl, Opt_some]
                refine ⟨⟨_, rfl⟩, ?_⟩
                rw [hany]
                have : (xs[i].fields.any fun f => decide (100 < f.name.length)) = true := List.any_eq_true.2 ⟨_, List.getElem_mem hkl, by simp; omega⟩
                rw [this, Bool.or_true]
              · simp only [go_sem, reduceIte, reduceCtorEq, Nat.reduceAdd, Nat.reduceSub, Nat.reduceEqDiff, Nat.reduceLeDiff, Nat.reduceBEq, Nat.reduceLT, Int.ofNat_lt, h, hx.len, hx.at _ h, e1, e2.len, hkl, e2.at _ hkl, e3, hn, succ_i64 hkl e2.max]
                exact ⟨k + 1, by omega, ⟨hkl, mem_take_succ (P := fun f => f.name.length ≤ 100) hkl hks (by omega)⟩, rfl⟩
            · have : k = xs[i].fields.length := by omega
              subst this
              rw [List.take_length] at hks
              simp only [go_sem, reduceIte, reduceCtorEq, Nat.reduceAdd, Nat.reduceSub, Nat.reduceEqDiff, Nat.reduceLeDiff, Nat.reduceBEq, Nat.reduceLT, Int.ofNat_lt, h, hx.len, hx.at _ h, e1, e2.len, hkl, succ_i64 h hx.max]
              refine ⟨i + 1, by omega, ⟨h, mem_take_succ (P := fun t => (decide (20 < t.fields.length) || t.fields.any fun f => decide (100 < f.name.length)) = false) h hs ?_⟩, rfl⟩
              have : (xs[i].fields.any fun f => decide (100 < f.name.length)) = false := List.any_eq_false.2 fun f hf => by simpa using hks f hf
              rw [this, Bool.or_false]
              simp; omega
      · have : i = xs.length := by omega
        subst this
        rw [List.take_length] at hs
        simp only [go_sem, reduceIte, reduceCtorEq, Nat.reduceAdd, Nat.reduceSub, Nat.reduceEqDiff, Nat.reduceLeDiff, Nat.reduceBEq, Nat.reduceLT, Int.ofNat_lt, h, hx.len]
        rw [leave_plain rfl rfl, Opt_some]
        refine ⟨⟨_, rfl⟩, ?_⟩
        have : (xs.any fun t => decide (20 < t.fields.length) || t.fields.any fun f => decide (100 < f.name.length)) = false := List.any_eq_false.2 fun t ht => by rw [hs t ht]; simp
        simp only [great04, this, Bool.or_false]
        congr 1
        simp; omega

/-- A function is great, all being n instructions. -/
def greatF (f : DFunc) : Bool := decide (100 < f.name.length) || decide (20 < f.slots.length) || decide (210 < f.code.length) || decide (210 < f.sizes.length) || decide (210 < f.lives.length) || f.slots.any fun s => decide (100 < s.name.length)

def sumCode (l : List DFunc) : Nat := (l.map fun f => f.code.length).sum

theorem sumCode_take (l : List DFunc) (i : Nat) (h : i < l.length) : sumCode (l.take (i + 1)) = sumCode (l.take i) + l[i].code.length := by
  unfold sumCode
  rw [List.take_succ_eq_append_getElem h, List.map_append, List.sum_append]; rfl

theorem sumCode_take_le (l : List DFunc) (i : Nat) : sumCode (l.take i) ≤ sumCode l := by
  have : sumCode l = sumCode (l.take i) + sumCode (l.drop i) := by
    conv => lhs; rw [← List.take_append_drop i l]
    unfold sumCode
    rw [List.map_append, List.sum_append]
  omega

/-- An image is great. -/
def great09 (m : DImage) : Bool := great04 m.types || decide (40 < m.texts.length) || decide (40 < m.funcs.length) || m.texts.any (fun t => decide (100 < t.length)) || m.funcs.any greatF || decide (1000 < sumCode m.funcs)

set_option maxHeartbeats 2000000 in
theorem w_wreckageref09_Great (d : DImage) (x : AV) (hx : IsImage d x) (m : Mem) : Okv tab F_wreckageref09_Great [x] m (.bool (great09 d)) := by
  refine okv_of t_wreckageref09_Great ?_
  obtain ⟨stk, cur, nx, live, fl⟩ := m
  obtain ⟨types, texts, funcs⟩ := d
  obtain ⟨v0, v1, v2, rfl, h0, h1, h2⟩ := hx
  dsimp only at h0 h1 h2
  obtain ⟨K, hK⟩ := Okv.all (w_wreckageref04_Great _ _ h0)
  simp only [a_wreckageref09_Great, go_sem, reduceIte, reduceCtorEq, Nat.reduceAdd, Nat.reduceSub, Nat.reduceEqDiff, Nat.reduceLeDiff, Nat.reduceBEq, Nat.reduceLT, hK]
  have done : ∀ {b c : Bool} {stk' : List (List Blk)} {cur' : List Blk} {k : Nat}, b = c → ((∃ k', (⟨stk, cur, k, live, fl⟩ : Mem) = (⟨stk, cur, nx, live, fl⟩ : Mem).bump k') ∧ AV.bool b = AV.bool c) := fun h => ⟨⟨_, rfl⟩, by rw [h]⟩
  cases hg : great04 types
  case true =>
    simp only [go_sem, reduceIte, reduceCtorEq, Nat.reduceAdd, Nat.reduceSub, Nat.reduceEqDiff, Nat.reduceLeDiff, Nat.reduceBEq, Nat.reduceLT]
    rw [leave_plain rfl rfl, Opt_some]
    exact ⟨⟨_, rfl⟩, by simp [great09, hg]⟩
  by_cases ht : (texts.length : Int) > 40
  · simp only [go_sem, reduceIte, reduceCtorEq, Nat.reduceAdd, Nat.reduceSub, Nat.reduceEqDiff, Nat.reduceLeDiff, Nat.reduceBEq, Nat.reduceLT, h1.len, ht]
    rw [leave_plain rfl rfl, Opt_some]
    exact ⟨⟨_, rfl⟩, by simp [great09, show 40 < texts.length by omega]⟩
  by_cases hf : (funcs.length : Int) > 40
  · simp only [go_sem, reduceIte, reduceCtorEq, Nat.reduceAdd, Nat.reduceSub, Nat.reduceEqDiff, Nat.reduceLeDiff, Nat.reduceBEq, Nat.reduceLT, h1.len, h2.len, ht, hf]
    rw [leave_plain rfl rfl, Opt_some]
    exact ⟨⟨_, rfl⟩, by simp [great09, show 40 < funcs.length by omega]⟩
  simp only [go_sem, reduceIte, reduceCtorEq, Nat.reduceAdd, Nat.reduceSub, Nat.reduceEqDiff, Nat.reduceLeDiff, Nat.reduceBEq, Nat.reduceLT, h1.len, h2.len, ht, hf]
  refine XL_rule (α := Nat) (fun i σ => (i ≤ texts.length ∧ ∀ t ∈ texts.take i, t.length ≤ 100) ∧ heads [1, 3] 1 σ = ⟨tmps 101 [(1, .ptr (stk ++ [cur]).length 0 nx 0), (3, .int .i64 i)], ⟨stk ++ [cur], [⟨nx, [v0, v1, v2]⟩], K ⟨stk ++ [cur], [⟨nx, [v0, v1, v2]⟩], nx + 1, [] :: live, fl⟩, [] :: live, fl⟩⟩) (fun i => texts.length - i) 0 ?_ ?_
  · refine ⟨⟨Nat.zero_le _, by simp⟩, ?_⟩
    simp only [go_sem, reduceIte, reduceCtorEq, Nat.reduceAdd, Nat.reduceSub, Nat.reduceEqDiff, Nat.reduceLeDiff, Nat.reduceBEq, Nat.reduceLT]
    rfl
  · rintro i σ ⟨⟨hi, hs⟩, hσ⟩
    rw [hσ]
    dsimp only at hi hs ⊢
    by_cases h : i < texts.length
    · have e1 : nth v1 i = .str texts[i] := h1.nth h
      by_cases hn : (texts[i].length : Int) > 100
      · simp only [go_sem, reduceIte, reduceCtorEq, Nat.reduceAdd, Nat.reduceSub, Nat.reduceEqDiff, Nat.reduceLeDiff, Nat.reduceBEq, Nat.reduceLT, Int.ofNat_lt, h, h1.len, h1.at _ h, e1, hn]
        rw [leave_plain rfl rfl, Opt_some]
        have : texts.any (fun t => decide (100 < t.length)) = true := List.any_eq_true.2 ⟨_, List.getElem_mem h, by simp; omega⟩
        exact ⟨⟨_, rfl⟩, by simp only [great09, this, Bool.or_true, Bool.true_or]⟩
      · simp only [go_sem, reduceIte, reduceCtorEq, Nat.reduceAdd, Nat.reduceSub, Nat.reduceEqDiff, Nat.reduceLeDiff, Nat.reduceBEq, Nat.reduceLT, Int.ofNat_lt, h, h1.len, h1.at _ h, e1, hn, succ_i64 h h1.max]
        exact ⟨i + 1, by omega, ⟨h, mem_take_succ (P := fun t => t.length ≤ 100) h hs (by omega)⟩, rfl⟩
    · have : i = texts.length := by omega
      subst this
      rw [List.take_length] at hs
      have htx : texts.any (fun t => decide (100 < t.length)) = false := List.any_eq_false.2 fun t ht => by simpa using hs t ht
      clear hσ σ
      simp only [go_sem, reduceIte, reduceCtorEq, Nat.reduceAdd, Nat.reduceSub, Nat.reduceEqDiff, Nat.reduceLeDiff, Nat.reduceBEq, Nat.reduceLT, Int.ofNat_lt, h, h1.len]
      refine XL_rule (α := Nat × Nat) (fun z σ => (z.1 ≤ funcs.length ∧ (∀ f ∈ funcs.take z.1, greatF f = false) ∧ sumCode (funcs.take z.1) ≤ 1000) ∧ heads [1, 4, 5] 1 σ = ⟨tmps 101 [(1, .ptr (stk ++ [cur]).length 0 nx 0), (4, .int .i64 (sumCode (funcs.take z.1) : Nat)), (5, .int .i64 z.1)], ⟨stk ++ [cur], [⟨nx, [v0, v1, v2]⟩], z.2, [] :: live, fl⟩⟩) (fun z => funcs.length - z.1) (0, K ⟨stk ++ [cur], [⟨nx, [v0, v1, v2]⟩], nx + 1, [] :: live, fl⟩) ?_ ?_
      · refine ⟨⟨Nat.zero_le _, by simp, by simp [sumCode]⟩, ?_⟩
        simp only [go_sem, reduceIte, reduceCtorEq, Nat.reduceAdd, Nat.reduceSub, Nat.reduceEqDiff, Nat.reduceLeDiff, Nat.reduceBEq, Nat.reduceLT, sumCode]
        rfl
      · rintro ⟨i, z⟩ σ ⟨⟨hi, hs, hsum⟩, hσ⟩
        rw [hσ]
        dsimp only at hi hs hsum ⊢
        by_cases h : i < funcs.length
        · obtain ⟨w0, w1, w2, w3, e1, q0, q1, q2, q3⟩ := h2.nth h
          have hst := sumCode_take funcs i h
          have hany : ∀ (hb : greatF funcs[i] = true), great09 ⟨types, texts, funcs⟩ = true := fun hb => by
            have : funcs.any greatF = true := List.any_eq_true.2 ⟨_, List.getElem_mem h, hb⟩
            simp only [great09, this, Bool.or_true, Bool.true_or]
          have hcm := q1.max
          simp only [go_sem, reduceIte, reduceCtorEq, Nat.reduceAdd, Nat.reduceSub, Nat.reduceEqDiff, Nat.reduceLeDiff, Nat.reduceBEq, Nat.reduceLT, Int.ofNat_lt, h, h2.len, h2.at _ h, e1, q0.one, q1.one, q2.one, q3.one, q1.len]
          by_cases c1 : (funcs[i].name.length : Int) > 100
          · simp only [go_sem, reduceIte, reduceCtorEq, Nat.reduceAdd, Nat.reduceSub, Nat.reduceEqDiff, Nat.reduceLeDiff, Nat.reduceBEq, Nat.reduceLT, c1]
            rw [leave_plain rfl rfl, Opt_some]
            exact ⟨⟨_, rfl⟩, by rw [hany (by simp [greatF, show 100 < funcs[i].name.length by omega])]⟩
          simp only [go_sem, reduceIte, reduceCtorEq, Nat.reduceAdd, Nat.reduceSub, Nat.reduceEqDiff, Nat.reduceLeDiff, Nat.reduceBEq, Nat.reduceLT, c1, q0.len]
          by_cases c2 : (funcs[i].slots.length : Int) > 20
          · simp only [go_sem, reduceIte, reduceCtorEq, Nat.reduceAdd, Nat.reduceSub, Nat.reduceEqDiff, Nat.reduceLeDiff, Nat.reduceBEq, Nat.reduceLT, c2]
            rw [leave_plain rfl rfl, Opt_some]
            exact ⟨⟨_, rfl⟩, by rw [hany (by simp [greatF, show 20 < funcs[i].slots.length by omega])]⟩
          simp only [go_sem, reduceIte, reduceCtorEq, Nat.reduceAdd, Nat.reduceSub, Nat.reduceEqDiff, Nat.reduceLeDiff, Nat.reduceBEq, Nat.reduceLT, c2, q1.len]
          by_cases c3 : (funcs[i].code.length : Int) > 210
          · simp only [go_sem, reduceIte, reduceCtorEq, Nat.reduceAdd, Nat.reduceSub, Nat.reduceEqDiff, Nat.reduceLeDiff, Nat.reduceBEq, Nat.reduceLT, c3]
            rw [leave_plain rfl rfl, Opt_some]
            exact ⟨⟨_, rfl⟩, by rw [hany (by simp [greatF, show 210 < funcs[i].code.length by omega])]⟩
          have ew : IntKind.i64.wrap ((sumCode (funcs.take i) : Int) + funcs[i].code.length) = ((sumCode (funcs.take (i + 1)) : Nat) : Int) := by
            rw [wrap_i64' (by omega) (by omega)]; omega
          simp only [go_sem, reduceIte, reduceCtorEq, Nat.reduceAdd, Nat.reduceSub, Nat.reduceEqDiff, Nat.reduceLeDiff, Nat.reduceBEq, Nat.reduceLT, c3, q2.len, ew]
          by_cases c4 : (funcs[i].sizes.length : Int) > 210
          · simp only [go_sem, reduceIte, reduceCtorEq, Nat.reduceAdd, Nat.reduceSub, Nat.reduceEqDiff, Nat.reduceLeDiff, Nat.reduceBEq, Nat.reduceLT, c4]
            rw [leave_plain rfl rfl, Opt_some]
            exact ⟨⟨_, rfl⟩, by rw [hany (by simp [greatF, show 210 < funcs[i].sizes.length by omega])]⟩
          simp only [go_sem, reduceIte, reduceCtorEq, Nat.reduceAdd, Nat.reduceSub, Nat.reduceEqDiff, Nat.reduceLeDiff, Nat.reduceBEq, Nat.reduceLT, c4, q3.len]
          by_cases c5 : (funcs[i].lives.length : Int) > 210
          · simp only [go_sem, reduceIte, reduceCtorEq, Nat.reduceAdd, Nat.reduceSub, Nat.reduceEqDiff, Nat.reduceLeDiff, Nat.reduceBEq, Nat.reduceLT, c5]
            rw [leave_plain rfl rfl, Opt_some]
            exact ⟨⟨_, rfl⟩, by rw [hany (by simp [greatF, show 210 < funcs[i].lives.length by omega])]⟩
          simp only [go_sem, reduceIte, reduceCtorEq, Nat.reduceAdd, Nat.reduceSub, Nat.reduceEqDiff, Nat.reduceLeDiff, Nat.reduceBEq, Nat.reduceLT, c5]
          by_cases c6 : (sumCode (funcs.take (i + 1)) : Int) > 1000
          · simp only [go_sem, reduceIte, reduceCtorEq, Nat.reduceAdd, Nat.reduceSub, Nat.reduceEqDiff, Nat.reduceLeDiff, Nat.reduceBEq, Nat.reduceLT, c6]
            rw [leave_plain rfl rfl, Opt_some]
            have := sumCode_take_le funcs (i + 1)
            exact ⟨⟨_, rfl⟩, by simp [great09, show 1000 < sumCode funcs by omega]⟩
          simp only [go_sem, reduceIte, reduceCtorEq, Nat.reduceAdd, Nat.reduceSub, Nat.reduceEqDiff, Nat.reduceLeDiff, Nat.reduceBEq, Nat.reduceLT, c6]
          refine XL_rule (α := Nat) (fun k σ => (k ≤ funcs[i].slots.length ∧ ∀ s ∈ funcs[i].slots.take k, s.name.length ≤ 100) ∧ heads [1, 4, 5, 6, 7] 2 σ = ⟨tmps 101 [(1, .ptr (stk ++ [cur]).length 0 nx 0), (4, .int .i64 (sumCode (funcs.take (i + 1)) : Nat)), (5, .int .i64 i), (6, .ptr (stk ++ [cur]).length 1 z 0), (7, .int .i64 k)],
            ⟨stk ++ [cur], [⟨nx, [v0, v1, v2]⟩, ⟨z, [.str funcs[i].name, .int .i64 funcs[i].params, .int .i64 funcs[i].result, w0, w1, w2, w3]⟩], z + 1, [] :: live, fl⟩⟩) (fun k => funcs[i].slots.length - k) 0 ?_ ?_
          · refine ⟨⟨Nat.zero_le _, by simp⟩, ?_⟩
            simp only [go_sem, reduceIte, reduceCtorEq, Nat.reduceAdd, Nat.reduceSub, Nat.reduceEqDiff, Nat.reduceLeDiff, Nat.reduceBEq, Nat.reduceLT]
            rfl
          · rintro k σ ⟨⟨hk, hks⟩, hσ⟩
            rw [hσ]
            dsimp only at hk hks ⊢
            by_cases hkl : k < funcs[i].slots.length
            · have e3 : nth w0 k = .agg [.str funcs[i].slots[k].name, .int .i64 funcs[i].slots[k].typ] := q0.nth hkl
              by_cases hn : (funcs[i].slots[k].name.length : Int) > 100
              · simp only [go_sem, reduceIte, reduceCtorEq, Nat.reduceAdd, Nat.reduceSub, Nat.reduceEqDiff, Nat.reduceLeDiff, Nat.reduceBEq, Nat.reduceLT, Int.ofNat_lt, q0.len, hkl, q0.at _ hkl, e3, hn]
                rw [leave_plain rfl rfl, Opt_some]
                refine ⟨⟨_, rfl⟩, ?_⟩
                rw [hany]
                have : (funcs[i].slots.any fun s => decide (100 < s.name.length)) = true := List.any_eq_true.2 ⟨_, List.getElem_mem hkl, by simp; omega⟩
                simp only [greatF, this, Bool.or_true]
              · simp only [go_sem, reduceIte, reduceCtorEq, Nat.reduceAdd, Nat.reduceSub, Nat.reduceEqDiff, Nat.reduceLeDiff, Nat.reduceBEq, Nat.reduceLT, Int.ofNat_lt, q0.len, hkl, q0.at _ hkl, e3, hn, succ_i64 hkl q0.max]
                exact ⟨k + 1, by omega, ⟨hkl, mem_take_succ (P := fun f => f.name.length ≤ 100) hkl hks (by omega)⟩, rfl⟩
            · have : k = funcs[i].slots.length := by omega
              subst this
              rw [List.take_length] at hks
              simp only [go_sem, reduceIte, reduceCtorEq, Nat.reduceAdd, Nat.reduceSub, Nat.reduceEqDiff, Nat.reduceLeDiff, Nat.reduceBEq, Nat.reduceLT, Int.ofNat_lt, q0.len, hkl, succ_i64 h h2.max]
              refine ⟨(i + 1, _), by dsimp only; omega, ⟨h, mem_take_succ (P := fun f => greatF f = false) h hs ?_, by dsimp only; omega⟩, rfl⟩
              have : (funcs[i].slots.any fun s => decide (100 < s.name.length)) = false := List.any_eq_false.2 fun f hf => by simpa using hks f hf
              simp only [greatF, this, Bool.or_false]
              simp; omega
        · have : i = funcs.length := by omega
          subst this
          rw [List.take_length] at hs hsum
          simp only [go_sem, reduceIte, reduceCtorEq, Nat.reduceAdd, Nat.reduceSub, Nat.reduceEqDiff, Nat.reduceLeDiff, Nat.reduceBEq, Nat.reduceLT, Int.ofNat_lt, h, h2.len]
          rw [leave_plain rfl rfl, Opt_some]
          refine ⟨⟨_, rfl⟩, ?_⟩
          have : funcs.any greatF = false := List.any_eq_false.2 fun f hf => by rw [hs f hf]; simp
          simp only [great09, hg, htx, this, Bool.or_false, Bool.false_or]
          congr 1
          simp; omega

end Go.Proofs.W
