/-
  R3C
-/
import Derived.Test.YtbnkcloiaeobmaaR3B
namespace Go.Proofs.W
open Go.Vs
set_option linter.unusedSimpArgs false
set_option maxRecDepth 100000

def sumLen {α : Type} (l : List (List α)) : Nat := (l.map List.length).sum

theorem sumLen_take {α : Type} (l : List (List α)) (i : Nat) (h : i < l.length) : sumLen (l.take (i + 1)) = sumLen (l.take i) + l[i].length := by
  unfold sumLen
  rw [List.take_succ_eq_append_getElem h, List.map_append, List.sum_append]; rfl

theorem sumLen_le {α : Type} (c : Nat) : ∀ (l : List (List α)), (∀ x ∈ l, x.length ≤ c) → sumLen l ≤ c * l.length
  | [], _ => by simp [sumLen]
  | x :: r, h => by
    have h1 := sumLen_le c r fun y hy => h y (List.mem_cons_of_mem _ hy)
    have h2 := h x List.mem_cons_self
    simp only [sumLen, List.map_cons, List.sum_cons, List.length_cons, Nat.mul_add] at h1 ⊢
    omega

/-- More than so many lists, a list longer than so many, more than so many in all. -/
def greatL {α : Type} (a b c : Nat) (l : List (List α)) : Bool := decide (a < l.length) || l.any (fun x => decide (b < x.length)) || decide (c < sumLen l)

theorem greatL_any {α : Type} {a b c : Nat} {l : List (List α)} (i : Nat) (h : i < l.length) (hb : b < l[i].length) : greatL a b c l = true := by
  have : l.any (fun x => decide (b < x.length)) = true := List.any_eq_true.2 ⟨l[i], List.getElem_mem h, by simpa using hb⟩
  simp [greatL, this]

theorem greatL_end {α : Type} {a b c : Nat} {l : List (List α)} (hl : l.length ≤ a) (hs : ∀ x ∈ l, x.length ≤ b) : greatL a b c l = decide (c < sumLen l) := by
  have : l.any (fun x => decide (b < x.length)) = false := List.any_eq_false.2 fun x hx => by simpa using hs x hx
  simp [greatL, this, show ¬ a < l.length by omega]

theorem greatL_false {α : Type} {a b c : Nat} {l : List (List α)} (h : greatL a b c l = false) : l.length ≤ a ∧ (∀ x ∈ l, x.length ≤ b) ∧ sumLen l ≤ c := by
  simp only [greatL, Bool.or_eq_false_iff, decide_eq_false_iff_not, Nat.not_lt] at h
  refine ⟨h.1.1, fun x hx => ?_, h.2⟩
  have := List.any_eq_false.1 h.1.2 x hx
  simpa using this

theorem mem_take_succ {α : Type} {l : List α} {i : Nat} (h : i < l.length) {P : α → Prop} (h1 : ∀ x ∈ l.take i, P x) (h2 : P l[i]) : ∀ x ∈ l.take (i + 1), P x := by
  intro x hx
  rw [List.take_succ_eq_append_getElem h] at hx
  rcases List.mem_append.1 hx with hx | hx
  · exact h1 x hx
  · simp at hx; rw [hx]; exact h2

theorem w_wreckageref27_Great (xs : List (List Int)) (x : AV) (hx : IsSl (IsSl (IsK .u64) 1) 1 xs x) (m : Mem) : Okv tab F_wreckageref27_Great [x] m (.bool (greatL 20 420 1000 xs)) := by
  refine okv_of t_wreckageref27_Great ?_
  obtain ⟨stk, cur, nx, live, fl⟩ := m
  simp only [a_wreckageref27_Great, go_sem, reduceIte, reduceCtorEq, Nat.reduceAdd, Nat.reduceSub, Nat.reduceEqDiff, Nat.reduceLeDiff, Nat.reduceBEq, Nat.reduceLT]
  refine XL_rule (α := Nat) (fun i σ => (i ≤ xs.length ∧ i ≤ 21 ∧ ∀ c ∈ xs.take i, c.length ≤ 420) ∧ heads [0, 3, 4] 0 σ = ⟨tmps 35 [(0, x), (3, .int .i64 (sumLen (xs.take i) : Nat)), (4, .int .i64 i)], ⟨stk ++ [cur], [], nx, [] :: live, fl⟩⟩) (fun i => xs.length - i) 0 ?_ ?_
  · refine ⟨⟨Nat.zero_le _, Nat.zero_le _, by simp⟩, ?_⟩
    simp only [go_sem, reduceIte, reduceCtorEq, Nat.reduceAdd, Nat.reduceSub, Nat.reduceEqDiff, Nat.reduceLeDiff, Nat.reduceBEq, Nat.reduceLT, sumLen]
    rfl
  · rintro i σ ⟨⟨hi, h21, hs⟩, hσ⟩
    rw [hσ]
    dsimp only at hi h21 hs ⊢
    have hb := sumLen_le 420 _ hs
    rw [List.length_take, Nat.min_eq_left hi] at hb
    by_cases h : i < xs.length
    · by_cases h20 : i ≤ 20
      · have e1 := hx.nth h
        by_cases hc : 420 < xs[i].length
        · simp only [go_sem, reduceIte, reduceCtorEq, Nat.reduceAdd, Nat.reduceSub, Nat.reduceEqDiff, Nat.reduceLeDiff, Nat.reduceBEq, Nat.reduceLT, Int.ofNat_lt, h, hx.len, show (i : Int) ≤ 20 by omega, hx.at _ h, e1.refs_cells, e1.len, show (xs[i].length : Int) > 420 by omega]
          rw [leave_plain rfl rfl, Opt_some]
          exact ⟨⟨_, rfl⟩, by rw [greatL_any i h hc]⟩
        · have hs' := mem_take_succ (P := fun c => c.length ≤ 420) h hs (by omega)
          have hst := sumLen_take xs i h
          have ew : IntKind.i64.wrap ((sumLen (xs.take i) : Int) + xs[i].length) = ((sumLen (xs.take (i + 1)) : Nat) : Int) := by
            rw [wrap_i64' (by omega) (by omega)]; omega
          simp only [go_sem, reduceIte, reduceCtorEq, Nat.reduceAdd, Nat.reduceSub, Nat.reduceEqDiff, Nat.reduceLeDiff, Nat.reduceBEq, Nat.reduceLT, Int.ofNat_lt, h, hx.len, show (i : Int) ≤ 20 by omega, hx.at _ h, e1.refs_cells, e1.len, show ¬ ((xs[i].length : Int) > 420) by omega, ew, succ_i64 h hx.max]
          exact ⟨i + 1, by omega, ⟨h, by omega, hs'⟩, rfl⟩
      · have hl20 : 20 < xs.length := by omega
        simp only [go_sem, reduceIte, reduceCtorEq, Nat.reduceAdd, Nat.reduceSub, Nat.reduceEqDiff, Nat.reduceLeDiff, Nat.reduceBEq, Nat.reduceLT, Int.ofNat_lt, h, hx.len, show ¬ ((i : Int) ≤ 20) by omega, show (xs.length : Int) > 20 by omega]
        rw [leave_plain rfl rfl, Opt_some]
        exact ⟨⟨_, rfl⟩, by simp [greatL, hl20]⟩
    · have : i = xs.length := by omega
      subst this
      rw [List.take_length] at *
      by_cases h20 : 20 < xs.length
      · simp only [go_sem, reduceIte, reduceCtorEq, Nat.reduceAdd, Nat.reduceSub, Nat.reduceEqDiff, Nat.reduceLeDiff, Nat.reduceBEq, Nat.reduceLT, Int.ofNat_lt, h, hx.len, show (xs.length : Int) > 20 by omega]
        rw [leave_plain rfl rfl, Opt_some]
        exact ⟨⟨_, rfl⟩, by simp [greatL, h20]⟩
      · simp only [go_sem, reduceIte, reduceCtorEq, Nat.reduceAdd, Nat.reduceSub, Nat.reduceEqDiff, Nat.reduceLeDiff, Nat.reduceBEq, Nat.reduceLT, Int.ofNat_lt, h, hx.len, show ¬ ((xs.length : Int) > 20) by omega]
        rw [leave_plain rfl rfl, Opt_some]
        refine ⟨⟨_, rfl⟩, ?_⟩
        rw [greatL_end (by omega) hs]
        simp only [AV.bool.injEq, decide_eq_decide]
        omega

theorem w_wreckageref26_Great (xs : List DRegion) (x : AV) (hx : IsSl IsRegion 2 xs x) (m : Mem) : Okv tab F_wreckageref26_Great [x] m (.bool (greatL 20 20000 40000 (xs.map DRegion.bytes))) := by
  refine okv_of t_wreckageref26_Great ?_
  obtain ⟨stk, cur, nx, live, fl⟩ := m
  simp only [a_wreckageref26_Great, go_sem, reduceIte, reduceCtorEq, Nat.reduceAdd, Nat.reduceSub, Nat.reduceEqDiff, Nat.reduceLeDiff, Nat.reduceBEq, Nat.reduceLT]
  refine XL_rule (α := Nat) (fun i σ => (i ≤ xs.length ∧ i ≤ 21 ∧ ∀ c ∈ (xs.map DRegion.bytes).take i, c.length ≤ 20000) ∧ heads [0, 3, 4] 0 σ = ⟨tmps 37 [(0, x), (3, .int .i64 (sumLen ((xs.map DRegion.bytes).take i) : Nat)), (4, .int .i64 i)], ⟨stk ++ [cur], [], nx, [] :: live, fl⟩⟩) (fun i => xs.length - i) 0 ?_ ?_
  · refine ⟨⟨Nat.zero_le _, Nat.zero_le _, by simp⟩, ?_⟩
    simp only [go_sem, reduceIte, reduceCtorEq, Nat.reduceAdd, Nat.reduceSub, Nat.reduceEqDiff, Nat.reduceLeDiff, Nat.reduceBEq, Nat.reduceLT, sumLen]
    rfl
  · rintro i σ ⟨⟨hi, h21, hs⟩, hσ⟩
    rw [hσ]
    dsimp only at hi h21 hs ⊢
    have hb := sumLen_le 20000 _ hs
    have hml : (xs.map DRegion.bytes).length = xs.length := by simp
    rw [List.length_take, hml, Nat.min_eq_left hi] at hb
    by_cases h : i < xs.length
    · have h' : i < (xs.map DRegion.bytes).length := by rw [hml]; exact h
      have hget : (xs.map DRegion.bytes)[i] = xs[i].bytes := by simp
      by_cases h20 : i ≤ 20
      · obtain ⟨v, e1, e2⟩ := hx.nth h
        by_cases hc : 20000 < xs[i].bytes.length
        · simp only [go_sem, reduceIte, reduceCtorEq, Nat.reduceAdd, Nat.reduceSub, Nat.reduceEqDiff, Nat.reduceLeDiff, Nat.reduceBEq, Nat.reduceLT, Int.ofNat_lt, h, hx.len, show (i : Int) ≤ 20 by omega, hx.at _ h, e1, e2.len, show (xs[i].bytes.length : Int) > 20000 by omega]
          rw [leave_plain rfl rfl, Opt_some]
          exact ⟨⟨_, rfl⟩, by rw [greatL_any i h' (by rw [hget]; exact hc)]⟩
        · have hs' := mem_take_succ (P := fun c => c.length ≤ 20000) h' hs (by rw [hget]; omega)
          have hst := sumLen_take (xs.map DRegion.bytes) i h'
          rw [hget] at hst
          have ew : IntKind.i64.wrap ((sumLen ((xs.map DRegion.bytes).take i) : Int) + xs[i].bytes.length) = ((sumLen ((xs.map DRegion.bytes).take (i + 1)) : Nat) : Int) := by
            rw [wrap_i64' (by omega) (by omega)]; omega
          simp only [go_sem, reduceIte, reduceCtorEq, Nat.reduceAdd, Nat.reduceSub, Nat.reduceEqDiff, Nat.reduceLeDiff, Nat.reduceBEq, Nat.reduceLT, Int.ofNat_lt, h, hx.len, show (i : Int) ≤ 20 by omega, hx.at _ h, e1, e2.len, show ¬ ((xs[i].bytes.length : Int) > 20000) by omega, ew, succ_i64 h hx.max]
          exact ⟨i + 1, by omega, ⟨h, by omega, hs'⟩, rfl⟩
      · have hl20 : 20 < xs.length := by omega
        simp only [go_sem, reduceIte, reduceCtorEq, Nat.reduceAdd, Nat.reduceSub, Nat.reduceEqDiff, Nat.reduceLeDiff, Nat.reduceBEq, Nat.reduceLT, Int.ofNat_lt, h, hx.len, show ¬ ((i : Int) ≤ 20) by omega, show (xs.length : Int) > 20 by omega]
        rw [leave_plain rfl rfl, Opt_some]
        exact ⟨⟨_, rfl⟩, by simp [greatL, hl20]⟩
    · have : i = xs.length := by omega
      subst this
      have htk : (xs.map DRegion.bytes).take xs.length = xs.map DRegion.bytes := by rw [← hml, List.take_length]
      rw [htk] at hs hb ⊢
      by_cases h20 : 20 < xs.length
      · simp only [go_sem, reduceIte, reduceCtorEq, Nat.reduceAdd, Nat.reduceSub, Nat.reduceEqDiff, Nat.reduceLeDiff, Nat.reduceBEq, Nat.reduceLT, Int.ofNat_lt, h, hx.len, show (xs.length : Int) > 20 by omega]
        rw [leave_plain rfl rfl, Opt_some]
        exact ⟨⟨_, rfl⟩, by simp [greatL, h20]⟩
      · simp only [go_sem, reduceIte, reduceCtorEq, Nat.reduceAdd, Nat.reduceSub, Nat.reduceEqDiff, Nat.reduceLeDiff, Nat.reduceBEq, Nat.reduceLT, Int.ofNat_lt, h, hx.len, show ¬ ((xs.length : Int) > 20) by omega]
        rw [leave_plain rfl rfl, Opt_some]
        refine ⟨⟨_, rfl⟩, ?_⟩
        rw [greatL_end (by omega) hs]
        simp only [AV.bool.injEq, decide_eq_decide]
        omega

/-- A table is great. -/
def great04 (l : List DTyp) : Bool := decide (40 < l.length) || l.any fun t => decide (20 < t.fields.length) || t.fields.any fun f => decide (100 < f.name.length)

theorem w_wreckageref04_Great (xs : List DTyp) (x : AV) (hx : IsSl IsTyp 4 xs x) (m : Mem) : Okv tab F_wreckageref04_Great [x] m (.bool (great04 xs)) := by
  refine okv_of t_wreckageref04_Great ?_
  obtain ⟨stk, cur, nx, live, fl⟩ := m
  simp only [a_wreckageref04_Great, go_sem, reduceIte, reduceCtorEq, Nat.reduceAdd, Nat.reduceSub, Nat.reduceEqDiff, Nat.reduceLeDiff, Nat.reduceBEq, Nat.reduceLT, hx.len]
  by_cases h40 : (xs.length : Int) > 40
  · simp only [go_sem, reduceIte, reduceCtorEq, Nat.reduceAdd, Nat.reduceSub, Nat.reduceEqDiff, Nat.reduceLeDiff, Nat.reduceBEq, Nat.reduceLT, h40]
    rw [leave_plain rfl rfl, Opt_some]
    exact ⟨⟨_, rfl⟩, by simp [great04, show 40 < xs.length by omega]⟩
  · simp only [go_sem, reduceIte, reduceCtorEq, Nat.reduceAdd, Nat.reduceSub, Nat.reduceEqDiff, Nat.reduceLeDiff, Nat.reduceBEq, Nat.reduceLT, h40]
    refine XL_rule (α := Nat) (fun i σ => (i ≤ xs.length ∧ ∀ t ∈ xs.take i, (decide (20 < t.fields.length) || t.fields.any fun f => decide (100 < f.name.length)) = false) ∧ heads [0, 3] 0 σ = ⟨tmps 42 [(0, x), (3, .int .i64 i)], ⟨stk ++ [cur], [], nx, [] :: live, fl⟩⟩) (fun i => xs.length - i) 0 ?_ ?_
    · refine ⟨⟨Nat.zero_le _, by simp⟩, ?_⟩
      simp only [go_sem, reduceIte, reduceCtorEq, Nat.reduceAdd, Nat.reduceSub, Nat.reduceEqDiff, Nat.reduceLeDiff, Nat.reduceBEq, Nat.reduceLT]
      rfl
    · rintro i σ ⟨⟨hi, hs⟩, hσ⟩
      rw [hσ]
      dsimp only at hi hs ⊢
      by_cases h : i < xs.length
      · obtain ⟨v, e1, e2⟩ := hx.nth h
        have hany : ∀ (hb : (decide (20 < xs[i].fields.length) || xs[i].fields.any fun f => decide (100 < f.name.length)) = true), great04 xs = true := fun hb => by
          have : (xs.any fun t => decide (20 < t.fields.length) || t.fields.any fun f => decide (100 < f.name.length)) = true := List.any_eq_true.2 ⟨xs[i], List.getElem_mem h, hb⟩
          simp only [great04, this, Bool.or_true]
        by_cases h20 : (xs[i].fields.length : Int) > 20
        · simp only [go_sem, reduceIte, reduceCtorEq, Nat.reduceAdd, Nat.reduceSub, Nat.reduceEqDiff, Nat.reduceLeDiff, Nat.reduceBEq, Nat.reduceLT, Int.ofNat_lt, h, hx.len, hx.at _ h, e1, e2.len, h20]
          rw [leave_plain rfl rfl, Opt_some]
          exact ⟨⟨_, rfl⟩, by rw [hany (by simp [show 20 < xs[i].fields.length by omega])]⟩
        · simp only [go_sem, reduceIte, reduceCtorEq, Nat.reduceAdd, Nat.reduceSub, Nat.reduceEqDiff, Nat.reduceLeDiff, Nat.reduceBEq, Nat.reduceLT, Int.ofNat_lt, h, hx.len, hx.at _ h, e1, e2.len, h20]
          refine XL_rule (α := Nat) (fun k σ => (k ≤ xs[i].fields.length ∧ ∀ f ∈ xs[i].fields.take k, f.name.length ≤ 100) ∧ heads [0, 3, 4] 0 σ = ⟨tmps 42 [(0, x), (3, .int .i64 i), (4, .int .i64 k)], ⟨stk ++ [cur], [], nx, [] :: live, fl⟩⟩) (fun k => xs[i].fields.length - k) 0 ?_ ?_
          · refine ⟨⟨Nat.zero_le _, by simp⟩, ?_⟩
            simp only [go_sem, reduceIte, reduceCtorEq, Nat.reduceAdd, Nat.reduceSub, Nat.reduceEqDiff, Nat.reduceLeDiff, Nat.reduceBEq, Nat.reduceLT]
            rfl
          · rintro k σ ⟨⟨hk, hks⟩, hσ⟩
            rw [hσ]
            dsimp only at hk hks ⊢
            by_cases hkl : k < xs[i].fields.length
            · have e3 : nth v k = .agg [.str xs[i].fields[k].name, .int .i64 xs[i].fields[k].typ] := e2.nth hkl
              by_cases hn : (xs[i].fields[k].name.length : Int) > 100
              · simp only [go_sem, reduceIte, reduceCtorEq, Nat.reduceAdd, Nat.reduceSub, Nat.reduceEqDiff, Nat.reduceLeDiff, Nat.reduceBEq, Nat.reduceLT, Int.ofNat_lt, h, hx.len, hx.at _ h, e1, e2.len, hkl, e2.at _ hkl, e3, hn]
                rw [leave_plain rfl rfl, Opt_some]
                refine ⟨⟨_, rfl⟩, ?_⟩
                rw [hany]
                have : (xs[i].fields.any fun f => decide (100 < f.name.length)) = true := List.any_eq_true.2 ⟨_, List.getElem_mem hkl, by simp; omega⟩
                rw [this, Bool.or_true]
              · simp only [go_sem, reduceIte, reduceCtorEq, Nat.reduceAdd, Nat.reduceSub, Nat.reduceEqDiff, Nat.reduceLeDiff, Nat.reduceBEq, Nat.reduceLT, Int.ofNat_lt, h, hx.len, hx.at _ h, e1, e2.len, hkl, e2.at _ hkl, e3, hn, succ_i64 hkl e2.max]
                exact ⟨k + 1, by omega, ⟨hkl, mem_take_succ (P := fun f => f.name.length ≤ 100) hkl hks (by omega)⟩, rfl⟩
            · have : k = xs[i].fields.length := by omega
              subst this
              rw [List.take_length] at hks
              simp only [go_sem, reduceIte, reduceCtorEq, Nat.reduceAdd, Nat.reduceSub, Nat.reduceEqDiff, Nat.reduceLeDiff, Nat.reduceBEq, Nat.reduceLT, Int.ofNat_lt, h, hx.len, hx.at _ h, e1, e2.len, hkl, succ_i64 h hx.max]
              refine ⟨i + 1, by omega, ⟨h, mem_take_succ (P := fun t => (decide (20 < t.fields.length) || t.fields.any fun f => decide (100 < f.name.length)) = false) h hs ?_⟩, rfl⟩
              have : (xs[i].fields.any fun f => decide (100 < f.name.length)) = false := List.any_eq_false.2 fun f hf => by simpa using hks f hf
              rw [this, Bool.or_false]
              simp; omega
      · have : i = xs.length := by omega
        subst this
        rw [List.take_length] at hs
        simp only [go_sem, reduceIte, reduceCtorEq, Nat.reduceAdd, Nat.reduceSub, Nat.reduceEqDiff, Nat.reduceLeDiff, Nat.reduceBEq, Nat.reduceLT, Int.ofNat_lt, h, hx.len]
        rw [leave_plain rfl rfl, Opt_some]
        refine ⟨⟨_, rfl⟩, ?_⟩
        have : (xs.any fun t => decide (20 < t.fields.length) || t.fields.any fun f => decide (100 < f.name.length)) = false := List.any_eq_false.2 fun t ht => by rw [hs t ht]; simp
        simp only [great04, this, Bool.or_false]
        congr 1
        simp; omega

end Go.Proofs.W
