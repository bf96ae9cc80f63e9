/-
  R5S19
-/
import Derived.Test.YtbbljkjdjjoapaaR5S1
import Derived.Test.YtbbljkjdjjoapaaDt
namespace Go.Proofs.W
open Go.Vs
set_option linter.unusedSimpArgs false
set_option maxRecDepth 100000

def r0 : DRun := ⟨0, 0⟩
def runAt (l : List DRun) (j : Nat) : DRun := l.getD j r0
theorem runAt_get {l : List DRun} {j : Nat} (h : j < l.length) : l[j] = runAt l j := by simp [runAt, List.getD_eq_getElem?_getD, h]
def stepOk (l : List DRun) (n : Int) (j : Nat) : Prop := (runAt l j).frm < n ∧ (0 < j → (runAt l (j - 1)).frm < (runAt l j).frm ∧ (runAt l (j - 1)).value ≠ (runAt l j).value)
/-- Runs are valid. -/
def FineR (l : List DRun) (n : Int) : Prop := 0 < l.length ∧ (runAt l 0).frm = 0 ∧ ∀ j, j < l.length → stepOk l n j

theorem IsSl.run {l : List DRun} {x : AV} (hx : IsSl IsRun 2 l x) {j : Nat} (h : j < l.length) : nth x j = .agg [.int .i64 (runAt l j).frm, .int .u64 (runAt l j).value] := by
  have := hx.nth h
  rw [runAt_get h] at this
  exact this

theorem idx0 (n : Nat) (h : 0 < n) : idx (.int .i64 0) n = some 0 := idx_int .i64 0 n h

theorem at0 {α : Type} {R : α → AV → Prop} {s : Nat} {xs : List α} {y : AV} (h : IsSl R s xs y) (hi : 0 < xs.length) : evIaddr s y (.int .i64 0) = some (.ro (nth y 0).cells) := h.at .i64 hi
theorem at_pred {α : Type} {R : α → AV → Prop} {s : Nat} {xs : List α} {y : AV} (h : IsSl R s xs y) {i : Nat} (h0 : 0 < i) (hi : i - 1 < xs.length) : evIaddr s y (.int .i64 ((i : Int) - 1)) = some (.ro (nth y (i - 1)).cells) := by
  have := h.at .i64 hi
  rwa [show ((i - 1 : Nat) : Int) = (i : Int) - 1 by omega] at this

set_option maxHeartbeats 4000000 in
theorem w_ref08_Fine (l : List DRun) (x : AV) (hx : IsSl IsRun 2 l x) (n : Int) (m : Mem) : Okv tab F_wreckageref08_Fine [x, .int .i64 n] m (.bool (pb (FineR l n))) := by
  refine okv_of t_wreckageref08_Fine ?_
  obtain ⟨stk, cur, nx, live, fl⟩ := m
  simp only [a_wreckageref08_Fine, go_sem, reduceIte, reduceCtorEq, Nat.reduceAdd, Nat.reduceSub, Nat.reduceEqDiff, Nat.reduceLeDiff, Nat.reduceBEq, Nat.reduceLT, hx.len]
  by_cases h0 : 0 < l.length
  case neg =>
    have h0' : (l.length : Int) < 1 := by omega
    simp only [go_sem, reduceIte, reduceCtorEq, Nat.reduceAdd, Nat.reduceSub, Nat.reduceEqDiff, Nat.reduceLeDiff, Nat.reduceBEq, Nat.reduceLT, h0']
    rw [leave_plain rfl rfl, Opt_some]
    exact ⟨⟨_, rfl⟩, by rw [pb_false fun h => h0 h.1]⟩
  have h0' : ¬ (l.length : Int) < 1 := by omega
  by_cases hz : (runAt l 0).frm = 0
  case neg =>
    have hz' : ((runAt l 0).frm != 0) = true := by simpa using hz
    simp only [go_sem, reduceIte, reduceCtorEq, Nat.reduceAdd, Nat.reduceSub, Nat.reduceEqDiff, Nat.reduceLeDiff, Nat.reduceBEq, Nat.reduceLT, h0', at0 hx h0, IsSl.run hx h0, hz']
    rw [leave_plain rfl rfl, Opt_some]
    exact ⟨⟨_, rfl⟩, by rw [pb_false fun h => hz h.2.1]⟩
  have hz' : ((runAt l 0).frm != 0) = false := by simpa using hz
  simp only [go_sem, reduceIte, reduceCtorEq, Nat.reduceAdd, Nat.reduceSub, Nat.reduceEqDiff, Nat.reduceLeDiff, Nat.reduceBEq, Nat.reduceLT, h0', at0 hx h0, IsSl.run hx h0, hz']
  refine XL_rule (α := Nat) (fun i σ => (i ≤ l.length ∧ ∀ j, j < i → stepOk l n j) ∧ ∃ nz, heads [0, 1, 5] 0 σ = ⟨tmps 61 [(0, x), (1, .int .i64 n), (5, .int .i64 i)], ⟨stk ++ [cur], [], nz, [] :: live, fl⟩⟩) (fun i => l.length - i) 0 ?_ ?_
  · refine ⟨⟨Nat.zero_le _, fun j h => absurd h (Nat.not_lt_zero _)⟩, ?_⟩
    simp only [go_sem, reduceIte, reduceCtorEq, Nat.reduceAdd, Nat.reduceSub, Nat.reduceEqDiff, Nat.reduceLeDiff, Nat.reduceBEq, Nat.reduceLT]
    exact ⟨_, rfl⟩
  · rintro i σ ⟨⟨hi, ht⟩, nz, hσ⟩
    rw [hσ]
    clear hσ σ
    dsimp only at hi ht ⊢
    by_cases h : i < l.length
    · have e1 := IsSl.run hx h
      have hat := hx.at .i64 h
      have bad : ¬ stepOk l n i → pb (FineR l n) = false := fun hb => pb_false fun h' => hb (h'.2.2 i h)
      have hsucc := succ_i64 h hx.max
      have hmx := hx.max
      have next : stepOk l n i → ∀ j, j < i + 1 → stepOk l n j := fun hs j hj => by
        rcases Nat.lt_succ_iff_lt_or_eq.1 hj with q | q
        · exact ht j q
        · exact q ▸ hs
      simp only [go_sem, reduceIte, reduceCtorEq, Nat.reduceAdd, Nat.reduceSub, Nat.reduceEqDiff, Nat.reduceLeDiff, Nat.reduceBEq, Nat.reduceLT, Int.ofNat_lt, h, hx.len, hat, e1]
      by_cases hn : (runAt l i).frm < n
      case neg =>
        have hn' : (runAt l i).frm ≥ n := by omega
        simp only [go_sem, reduceIte, reduceCtorEq, Nat.reduceAdd, Nat.reduceSub, Nat.reduceEqDiff, Nat.reduceLeDiff, Nat.reduceBEq, Nat.reduceLT, hn']
        rw [leave_plain rfl rfl, Opt_some]
        exact ⟨⟨_, rfl⟩, by rw [bad fun h' => hn h'.1]⟩
      have hn' : ¬ (runAt l i).frm ≥ n := by omega
      by_cases hp : 0 < i
      case neg =>
        have hp' : ¬ ((i : Int) > 0) := by omega
        simp only [go_sem, reduceIte, reduceCtorEq, Nat.reduceAdd, Nat.reduceSub, Nat.reduceEqDiff, Nat.reduceLeDiff, Nat.reduceBEq, Nat.reduceLT, hn', hp', hsucc]
        exact ⟨i + 1, by omega, ⟨h, next ⟨hn, fun h' => absurd h' hp⟩⟩, _, rfl⟩
      have hp' : (i : Int) > 0 := by omega
      have hsub : IntKind.i64.wrap ((i : Int) - 1) = (i : Int) - 1 := wrap_i64' (by omega) (by omega)
      have e2 := IsSl.run hx (show i - 1 < l.length by omega)
      have hat2 := at_pred hx hp (show i - 1 < l.length by omega)
      by_cases hq : (runAt l (i - 1)).frm ≥ (runAt l i).frm
      · simp only [go_sem, reduceIte, reduceCtorEq, Nat.reduceAdd, Nat.reduceSub, Nat.reduceEqDiff, Nat.reduceLeDiff, Nat.reduceBEq, Nat.reduceLT, hn', hp', hsub, hat, e1, hat2, e2, hq]
        rw [leave_plain rfl rfl, Opt_some]
        exact ⟨⟨_, rfl⟩, by rw [bad fun h' => by have := (h'.2 hp).1; omega]⟩
      · by_cases hv : (runAt l (i - 1)).value = (runAt l i).value
        · have hv' : ((runAt l (i - 1)).value == (runAt l i).value) = true := by simpa using hv
          simp only [go_sem, reduceIte, reduceCtorEq, Nat.reduceAdd, Nat.reduceSub, Nat.reduceEqDiff, Nat.reduceLeDiff, Nat.reduceBEq, Nat.reduceLT, hn', hp', hsub, hat, e1, hat2, e2, hq, hv']
          rw [leave_plain rfl rfl, Opt_some]
          exact ⟨⟨_, rfl⟩, by rw [bad fun h' => (h'.2 hp).2 hv]⟩
        · have hv' : ((runAt l (i - 1)).value == (runAt l i).value) = false := by simpa using hv
          simp only [go_sem, reduceIte, reduceCtorEq, Nat.reduceAdd, Nat.reduceSub, Nat.reduceEqDiff, Nat.reduceLeDiff, Nat.reduceBEq, Nat.reduceLT, hn', hp', hsub, hat, e1, hat2, e2, hq, hv', hsucc]
          exact ⟨i + 1, by omega, ⟨h, next ⟨hn, fun _ => ⟨by omega, hv⟩⟩⟩, _, rfl⟩
    · have : i = l.length := by omega
      subst this
      simp only [go_sem, reduceIte, reduceCtorEq, Nat.reduceAdd, Nat.reduceSub, Nat.reduceEqDiff, Nat.reduceLeDiff, Nat.reduceBEq, Nat.reduceLT, Int.ofNat_lt, h, hx.len]
      rw [leave_plain rfl rfl, Opt_some]
      exact ⟨⟨_, rfl⟩, by rw [pb_true ⟨h0, hz, ht⟩]⟩

noncomputable def err08 (l : List DRun) (n : Int) : Int := if n < 1 ∨ n > 200 then 2 else if pb (FineR l n) then 0 else 8

theorem w_ref08_Check (l : List DRun) (x : AV) (hx : IsSl IsRun 2 l x) (n : Int) (m : Mem) : Okv tab F_wreckageref08_Check [x, .int .i64 n] m (.int .i64 (err08 l n)) := by
  refine okv_of t_wreckageref08_Check ?_
  obtain ⟨stk, cur, nx, live, fl⟩ := m
  simp only [a_wreckageref08_Check, go_sem, reduceIte, reduceCtorEq, Nat.reduceAdd, Nat.reduceSub, Nat.reduceEqDiff, Nat.reduceLeDiff, Nat.reduceBEq, Nat.reduceLT]
  have hF := fun m => (w_ref08_Fine l x hx n m).eq
  repeat' ((first | refine Xc_by (fun hq => ?_) (fun hq => ?_) | refine Xgt_by (fun hq => ?_) (fun hq => ?_) | refine Xgf_by (fun hq => ?_) (fun hq => ?_) | refine Xut_by (fun hq => ?_) (fun hq => ?_) | refine Xuf_by (fun hq => ?_) (fun hq => ?_)) <;> simp only [go_sem, reduceIte, reduceCtorEq, Nat.reduceAdd, Nat.reduceSub, Nat.reduceEqDiff, Nat.reduceLeDiff, Nat.reduceBEq, Nat.reduceLT, hq, hF])
  all_goals
    rw [leave_plain rfl rfl, Opt_some]
    refine ⟨⟨_, rfl⟩, ?_⟩
    unfold err08
    simp only [decide_eq_true_eq, decide_eq_false_iff_not, Bool.not_eq_true', Bool.not_eq_false'] at *
    simp [*]

theorem w_counted (n : Int) (m : Mem) : Okv tab F_tables_counted [.int .i64 n] m (.int .i64 (if n < 1 ∨ n > 200 then 2 else 0)) := by
  refine okv_of t_tables_counted ?_
  obtain ⟨stk, cur, nx, live, fl⟩ := m
  simp only [a_tables_counted, go_sem, reduceIte, reduceCtorEq, Nat.reduceAdd, Nat.reduceSub, Nat.reduceEqDiff, Nat.reduceLeDiff, Nat.reduceBEq, Nat.reduceLT]
  repeat' ((first | refine Xc_by (fun hq => ?_) (fun hq => ?_) | refine Xgt_by (fun hq => ?_) (fun hq => ?_) | refine Xgf_by (fun hq => ?_) (fun hq => ?_) | refine Xut_by (fun hq => ?_) (fun hq => ?_) | refine Xuf_by (fun hq => ?_) (fun hq => ?_)) <;> simp only [go_sem, reduceIte, reduceCtorEq, Nat.reduceAdd, Nat.reduceSub, Nat.reduceEqDiff, Nat.reduceLeDiff, Nat.reduceBEq, Nat.reduceLT, hq])
  all_goals
    rw [leave_plain rfl rfl, Opt_some]
    refine ⟨⟨_, rfl⟩, ?_⟩
    simp only [decide_eq_true_eq, decide_eq_false_iff_not] at *
    simp [*]

theorem IsSl.from1 {α : Type} {R : α → AV → Prop} {s : Nat} {xs : List α} {y : AV} (h : IsSl R s xs y) (h0 : 0 < xs.length) : ∃ y', evSlice s y (some (.int .i64 1)) none none = some y' ∧ IsSl R s (xs.drop 1) y' := by
  rcases h with ⟨hm, ⟨rfl, rfl⟩ | ⟨tk, ys, rfl, h⟩⟩
  · simp at h0
  · have hl := h.len
    have hb : bound (some (.int .i64 1)) ys.length 0 = some 1 := by
      unfold bound; simp only; rw [if_pos (by omega)]; rfl
    have e : evSlice s (.list s tk ys) (some (.int .i64 1)) none none = some (.list s (if ys.length == ys.length && (1 == 0 || decide (1 < ys.length)) then tk else .none) ((ys.take ys.length).drop 1)) := by
      unfold evSlice
      simp only [beq_self_eq_true, if_true]
      rw [show bound none ys.length ys.length = some ys.length from rfl, Option.bind_some, hb]
      simp
    refine ⟨_, e, ?_⟩
    rw [List.take_length]
    exact .mk (h.drop 1) (by rw [List.length_drop]; omega)

theorem fine_last {l : List DRun} {n : Int} (h0 : 0 < l.length) (hl : (runAt l (l.length - 1)).frm < n) (hs : ∀ j, 0 < j → j < l.length → (runAt l (j - 1)).frm < (runAt l j).frm) : ∀ k, k < l.length → (runAt l (l.length - 1 - k)).frm < n
  | 0, _ => by simpa using hl
  | k + 1, hk => by
    have ih := fine_last h0 hl hs k (by omega)
    have := hs (l.length - 1 - k) (by omega) (by omega)
    rw [show l.length - 1 - k - 1 = l.length - 1 - (k + 1) by omega] at this
    omega

set_option maxHeartbeats 4000000 in
theorem w_tables_fine (l : List DRun) (x : AV) (hx : IsSl IsRun 2 l x) (n : Int) (m : Mem) : Okv tab F_tables_fine [x, .int .i64 n] m (.bool (pb (FineR l n))) := by
  refine okv_of t_tables_fine ?_
  obtain ⟨stk, cur, nx, live, fl⟩ := m
  have hmx := hx.max
  simp only [a_tables_fine, go_sem, reduceIte, reduceCtorEq, Nat.reduceAdd, Nat.reduceSub, Nat.reduceEqDiff, Nat.reduceLeDiff, Nat.reduceBEq, Nat.reduceLT, hx.len]
  by_cases h0 : 0 < l.length
  case neg =>
    have h0' : ((l.length : Int) == 0) = true := beq_iff_eq.2 (by omega)
    simp only [go_sem, reduceIte, reduceCtorEq, Nat.reduceAdd, Nat.reduceSub, Nat.reduceEqDiff, Nat.reduceLeDiff, Nat.reduceBEq, Nat.reduceLT, h0']
    rw [leave_plain rfl rfl, Opt_some]
    exact ⟨⟨_, rfl⟩, by rw [pb_false fun h => h0 h.1]⟩
  have h0' : ((l.length : Int) == 0) = false := beq_eq_false_iff_ne.2 (by omega)
  by_cases hz : (runAt l 0).frm = 0
  case neg =>
    have hz' : ((runAt l 0).frm != 0) = true := by simpa using hz
    simp only [go_sem, reduceIte, reduceCtorEq, Nat.reduceAdd, Nat.reduceSub, Nat.reduceEqDiff, Nat.reduceLeDiff, Nat.reduceBEq, Nat.reduceLT, h0', at0 hx h0, IsSl.run hx h0, hz']
    rw [leave_plain rfl rfl, Opt_some]
    exact ⟨⟨_, rfl⟩, by rw [pb_false fun h => hz h.2.1]⟩
  have hz' : ((runAt l 0).frm != 0) = false := by simpa using hz
  have hsub : IntKind.i64.wrap ((l.length : Int) - 1) = (l.length : Int) - 1 := wrap_i64' (by omega) (by omega)
  have hlast := at_pred hx h0 (show l.length - 1 < l.length by omega)
  have elast := IsSl.run hx (show l.length - 1 < l.length by omega)
  by_cases hn : (runAt l (l.length - 1)).frm < n
  case neg =>
    have hn' : (runAt l (l.length - 1)).frm ≥ n := by omega
    simp only [go_sem, reduceIte, reduceCtorEq, Nat.reduceAdd, Nat.reduceSub, Nat.reduceEqDiff, Nat.reduceLeDiff, Nat.reduceBEq, Nat.reduceLT, h0', at0 hx h0, IsSl.run hx h0, hz', hx.len, hsub, hlast, elast, hn']
    rw [leave_plain rfl rfl, Opt_some]
    exact ⟨⟨_, rfl⟩, by rw [pb_false fun h => hn (h.2.2 _ (by omega)).1]⟩
  have hn' : ¬ (runAt l (l.length - 1)).frm ≥ n := by omega
  obtain ⟨y, hy, hys⟩ := IsSl.from1 hx h0
  have hyl := hys.len
  rw [List.length_drop] at hyl
  simp only [go_sem, reduceIte, reduceCtorEq, Nat.reduceAdd, Nat.reduceSub, Nat.reduceEqDiff, Nat.reduceLeDiff, Nat.reduceBEq, Nat.reduceLT, h0', at0 hx h0, IsSl.run hx h0, hz', hx.len, hsub, hlast, elast, hn', hy, hyl]
  refine XL_rule (α := Nat) (fun i σ => (i + 1 ≤ l.length ∧ ∀ j, 0 < j → j ≤ i → (runAt l (j - 1)).frm < (runAt l j).frm ∧ (runAt l (j - 1)).value ≠ (runAt l j).value) ∧ ∃ nz, heads [5, 33, 34, 35] 1 σ = ⟨tmps 55 [(5, .ptr (stk ++ [cur]).length 0 nx 0), (33, y), (34, .int .i64 (l.length - 1 : Nat)), (35, .int .i64 i)], ⟨stk ++ [cur], [⟨nx, [.int .i64 (runAt l i).frm, .int .u64 (runAt l i).value]⟩], nz, [] :: live, fl⟩⟩) (fun i => l.length - i) 0 ?_ ?_
  · refine ⟨⟨h0, fun j h h' => absurd h (by omega)⟩, ?_⟩
    simp only [go_sem, reduceIte, reduceCtorEq, Nat.reduceAdd, Nat.reduceSub, Nat.reduceEqDiff, Nat.reduceLeDiff, Nat.reduceBEq, Nat.reduceLT]
    exact ⟨_, rfl⟩
  · rintro i σ ⟨⟨hi, ht⟩, nz, hσ⟩
    rw [hσ]
    clear hσ σ
    dsimp only at hi ht ⊢
    by_cases h : i < l.length - 1
    · have hd : i < (l.drop 1).length := by rw [List.length_drop]; exact h
      have e1 : nth y i = .agg [.int .i64 (runAt l (i + 1)).frm, .int .u64 (runAt l (i + 1)).value] := by
        have := IsSl.run hys hd
        rw [this]
        have : runAt (l.drop 1) i = runAt l (i + 1) := by simp [runAt, List.getD_eq_getElem?_getD, List.getElem?_drop, Nat.add_comm]
        rw [this]
      have hat := hys.at .i64 hd
      have hsucc := succ_i64 hd hys.max
      have bad : ¬ ((runAt l i).frm < (runAt l (i + 1)).frm ∧ (runAt l i).value ≠ (runAt l (i + 1)).value) → pb (FineR l n) = false := fun hb => pb_false fun h' => hb (by have := (h'.2.2 (i + 1) (by omega)).2 (by omega); simpa using this)
      simp only [go_sem, reduceIte, reduceCtorEq, Nat.reduceAdd, Nat.reduceSub, Nat.reduceEqDiff, Nat.reduceLeDiff, Nat.reduceBEq, Nat.reduceLT, Int.ofNat_lt, h, hat, e1]
      by_cases hq : (runAt l (i + 1)).frm ≤ (runAt l i).frm
      · simp only [go_sem, reduceIte, reduceCtorEq, Nat.reduceAdd, Nat.reduceSub, Nat.reduceEqDiff, Nat.reduceLeDiff, Nat.reduceBEq, Nat.reduceLT, hq]
        rw [leave_plain rfl rfl, Opt_some]
        exact ⟨⟨_, rfl⟩, by rw [bad fun h' => by omega]⟩
      · by_cases hv : (runAt l (i + 1)).value = (runAt l i).value
        · have hv' : ((runAt l (i + 1)).value == (runAt l i).value) = true := by simpa using hv
          simp only [go_sem, reduceIte, reduceCtorEq, Nat.reduceAdd, Nat.reduceSub, Nat.reduceEqDiff, Nat.reduceLeDiff, Nat.reduceBEq, Nat.reduceLT, hq, evBuild, eqAt, eqCell, hv']
          rw [leave_plain rfl rfl, Opt_some]
          exact ⟨⟨_, rfl⟩, by rw [bad fun h' => h'.2 hv.symm]⟩
        · have hv' : ((runAt l (i + 1)).value == (runAt l i).value) = false := by simpa using hv
          simp only [go_sem, reduceIte, reduceCtorEq, Nat.reduceAdd, Nat.reduceSub, Nat.reduceEqDiff, Nat.reduceLeDiff, Nat.reduceBEq, Nat.reduceLT, hq, evBuild, eqAt, eqCell, hv', hsucc]
          refine ⟨i + 1, by omega, ⟨by omega, fun j hj hji => ?_⟩, _, rfl⟩
          rcases Nat.lt_or_eq_of_le hji with q | q
          · exact ht j hj (by omega)
          · subst q; exact ⟨by simpa using (by omega : (runAt l i).frm < (runAt l (i + 1)).frm), fun e => hv (by simpa using e.symm)⟩
    · have hil : i = l.length - 1 := by omega
      simp only [go_sem, reduceIte, reduceCtorEq, Nat.reduceAdd, Nat.reduceSub, Nat.reduceEqDiff, Nat.reduceLeDiff, Nat.reduceBEq, Nat.reduceLT, Int.ofNat_lt, h]
      rw [leave_plain rfl rfl, Opt_some]
      refine ⟨⟨_, rfl⟩, by rw [pb_true ⟨h0, hz, fun j hj => ⟨?_, fun hp => ht j hp (by omega)⟩⟩]⟩
      have := fine_last h0 hn (fun j hp hj => (ht j hp (by omega)).1) (l.length - 1 - j) (by omega)
      rwa [show l.length - 1 - (l.length - 1 - j) = j by omega] at this

theorem w_tables_Check (l : List DRun) (x : AV) (hx : IsSl IsRun 2 l x) (n : Int) (m : Mem) : Okv tab F_tables_Check [x, .int .i64 n] m (.int .i64 (err08 l n)) := by
  refine okv_of t_tables_Check ?_
  obtain ⟨stk, cur, nx, live, fl⟩ := m
  have hF := fun m => (w_tables_fine l x hx n m).eq
  have hC := fun m => (w_counted n m).eq
  simp only [a_tables_Check, go_sem, reduceIte, reduceCtorEq, Nat.reduceAdd, Nat.reduceSub, Nat.reduceEqDiff, Nat.reduceLeDiff, Nat.reduceBEq, Nat.reduceLT, hC]
  by_cases hn : n < 1 ∨ n > 200
  · simp only [go_sem, reduceIte, reduceCtorEq, Nat.reduceAdd, Nat.reduceSub, Nat.reduceEqDiff, Nat.reduceLeDiff, Nat.reduceBEq, Nat.reduceLT, hn, show ((2 : Int) != 0) = true from rfl]
    rw [leave_plain rfl rfl, Opt_some]
    exact ⟨⟨_, rfl⟩, by unfold err08; rw [if_pos hn]⟩
  · simp only [go_sem, reduceIte, reduceCtorEq, Nat.reduceAdd, Nat.reduceSub, Nat.reduceEqDiff, Nat.reduceLeDiff, Nat.reduceBEq, Nat.reduceLT, hn, show ((0 : Int) != 0) = false from rfl, hF]
    cases hp : pb (FineR l n)
    · simp only [go_sem, reduceIte, reduceCtorEq, Nat.reduceAdd, Nat.reduceSub, Nat.reduceEqDiff, Nat.reduceLeDiff, Nat.reduceBEq, Nat.reduceLT]
      rw [leave_plain rfl rfl, Opt_some]
      exact ⟨⟨_, rfl⟩, by unfold err08; rw [if_neg hn, hp]; rfl⟩
    · simp only [go_sem, reduceIte, reduceCtorEq, Nat.reduceAdd, Nat.reduceSub, Nat.reduceEqDiff, Nat.reduceLeDiff, Nat.reduceBEq, Nat.reduceLT]
      rw [leave_plain rfl rfl, Opt_some]
      exact ⟨⟨_, rfl⟩, by unfold err08; rw [if_neg hn, hp]; rfl⟩

end Go.Proofs.W

namespace Go.Proofs.W
open Go.Vs
set_option linter.unusedSimpArgs false
set_option maxRecDepth 100000

def wasAt (l : List DRun) (k : Nat) : Int := if k = 0 then 0 else (runAt l (k - 1)).frm
/-- Runs as bytes, up to one of them. -/
def cod8 (l : List DRun) : Nat → List UInt8
  | 0 => minimal l.length
  | k + 1 => cod8 l k ++ minimal ((runAt l k).frm - wasAt l k).toNat ++ minimal (runAt l k).value.toNat

def WfRuns (l : List DRun) : Prop := ∀ r ∈ l, WfRun r
theorem WfRuns.at {l : List DRun} (h : WfRuns l) {k : Nat} (hk : k < l.length) : WfRun (runAt l k) := by rw [← runAt_get hk]; exact h _ (List.getElem_mem hk)

theorem fine_pos {l : List DRun} {n : Int} (h : FineR l n) : ∀ k, k < l.length → 0 ≤ (runAt l k).frm
  | 0, _ => by rw [h.2.1]; omega
  | k + 1, hk => by
    have ih := fine_pos h k (by omega)
    have := ((h.2.2 (k + 1) hk).2 (by omega)).1
    simp only [Nat.add_sub_cancel] at this; omega
theorem fine_was {l : List DRun} {n : Int} (h : FineR l n) {k : Nat} (hk : k < l.length) : 0 ≤ (runAt l k).frm - wasAt l k ∧ (runAt l k).frm - wasAt l k ≤ n ∧ -1 ≤ wasAt l k := by
  have h1 := fine_pos h k hk
  have h2 := (h.2.2 k hk).1
  unfold wasAt
  split
  · omega
  · rename_i h0
    have h3 := fine_pos h (k - 1) (by omega)
    have := ((h.2.2 k hk).2 (by omega)).1
    omega

theorem cod8_len {l : List DRun} {n : Int} (h : FineR l n) (hn : n ≤ 200) (hw : WfRuns l) (hl : l.length ≤ 1000) : ∀ k, k ≤ l.length → (cod8 l k).length ≤ 10 + 20 * k
  | 0, _ => minimal_ten (by omega)
  | k + 1, hk => by
    have ih := cod8_len h hn hw hl k (by omega)
    have h1 := fine_was h (show k < l.length by omega)
    have h2 := (hw.at (show k < l.length by omega)).value
    unfold inU64 at h2
    have m1 := minimal_ten (n := ((runAt l k).frm - wasAt l k).toNat) (by omega)
    have m2 := minimal_ten (n := (runAt l k).value.toNat) (by omega)
    simp only [cod8, List.length_append]; omega

set_option maxHeartbeats 4000000 in
theorem w_ref08_Coded (l : List DRun) (x : AV) (hx : IsSl IsRun 2 l x) (n : Int) (hfine : FineR l n) (hn : n ≤ 200) (hw : WfRuns l) (hl : l.length ≤ 1000) (m : Mem) : Okl IsByte 1 tab F_wreckageref08_Coded [x] m (cod8 l l.length) := by
  refine okl_of t_wreckageref08_Coded ?_
  obtain ⟨stk, cur, nx, live, fl⟩ := m
  have e0 : IntKind.u64.wrap (l.length : Int) = l.length := wrap_u64 (by omega) (by omega)
  simp only [a_wreckageref08_Coded, go_sem, reduceIte, reduceCtorEq, Nat.reduceAdd, Nat.reduceSub, Nat.reduceEqDiff, Nat.reduceLeDiff, Nat.reduceBEq, Nat.reduceLT, hx.len, e0]
  refine (w_wreckageref02_Minimal l.length (by omega) _).xv fun y ts k ho => ?_
  simp only [go_sem, reduceIte, reduceCtorEq, Nat.reduceAdd, Nat.reduceSub, Nat.reduceEqDiff, Nat.reduceLeDiff, Nat.reduceBEq, Nat.reduceLT]
  refine XL_rule (α := Nat) (fun i σ => i ≤ l.length ∧ ∃ nz y e, Own IsByte 1 y (cod8 l i) e ∧ heads [0, 3, 4, 5] 0 σ = ⟨tmps 41 [(0, x), (3, y), (4, .int .i64 (wasAt l i)), (5, .int .i64 i)], ⟨stk ++ [cur], [], nz, e :: live, fl⟩⟩) (fun i => l.length - i) 0 ?_ ?_
  · refine ⟨Nat.zero_le _, k, y, _, ho, ?_⟩
    simp only [go_sem, reduceIte, reduceCtorEq, Nat.reduceAdd, Nat.reduceSub, Nat.reduceEqDiff, Nat.reduceLeDiff, Nat.reduceBEq, Nat.reduceLT, wasAt, List.append_nil]
    rfl
  · rintro i σ ⟨hi, nz, y, e, ho, hσ⟩
    rw [hσ]
    clear hσ σ
    dsimp only at hi ⊢
    by_cases h : i < l.length
    · skip
      have h1 := fine_was hfine h
      have h2 := (hw.at h).value
      unfold inU64 at h2
      have hpos := fine_pos hfine i h
      have hfr := (hfine.2.2 i h).1
      have e1 := IsSl.run hx h
      have hat := hx.at .i64 h
      have m1 := minimal_ten (n := ((runAt l i).frm - wasAt l i).toNat) (by omega)
      have m2 := minimal_ten (n := (runAt l i).value.toNat) (by omega)
      have hcl := cod8_len hfine hn hw hl i (by omega)
      have ew : IntKind.u64.wrap (IntKind.i64.wrap ((runAt l i).frm - wasAt l i)) = ((((runAt l i).frm - wasAt l i).toNat : Nat) : Int) := by
        rw [wrap_i64' (by omega) (by omega), wrap_u64 (by omega) (by omega)]; omega
      have ev : (runAt l i).value = (((runAt l i).value.toNat : Nat) : Int) := by omega
      have hsucc := succ_i64 h hx.max
      have hwn : wasAt l (i + 1) = (runAt l i).frm := by unfold wasAt; rw [if_neg (by omega)]; simp
      simp only [go_sem, reduceIte, reduceCtorEq, Nat.reduceAdd, Nat.reduceSub, Nat.reduceEqDiff, Nat.reduceLeDiff, Nat.reduceBEq, Nat.reduceLT, Int.ofNat_lt, h, hx.len, hat, e1, ew]
      refine (w_wreckageref02_Minimal _ (by omega) _).xv fun y1 t1 k1 ho1 => ?_
      simp only [go_sem, reduceIte, reduceCtorEq, Nat.reduceAdd, Nat.reduceSub, Nat.reduceEqDiff, Nat.reduceLeDiff, Nat.reduceBEq, Nat.reduceLT]
      obtain ⟨z1, hz1, hc1⟩ := ho1.elems
      refine (ho.push t1).xv hz1 hc1 (by omega) fun y2 k2 e2 ho2 => ?_
      simp only [go_sem, reduceIte, reduceCtorEq, Nat.reduceAdd, Nat.reduceSub, Nat.reduceEqDiff, Nat.reduceLeDiff, Nat.reduceBEq, Nat.reduceLT, hat, e1]
      rw [ev]
      refine (w_wreckageref02_Minimal _ (by omega) _).xv fun y3 t3 k3 ho3 => ?_
      simp only [go_sem, reduceIte, reduceCtorEq, Nat.reduceAdd, Nat.reduceSub, Nat.reduceEqDiff, Nat.reduceLeDiff, Nat.reduceBEq, Nat.reduceLT]
      obtain ⟨z3, hz3, hc3⟩ := ho3.elems
      refine (ho2.push t3).xv hz3 hc3 (by simp only [List.length_append]; omega) fun y4 k4 e4 ho4 => ?_
      simp only [go_sem, reduceIte, reduceCtorEq, Nat.reduceAdd, Nat.reduceSub, Nat.reduceEqDiff, Nat.reduceLeDiff, Nat.reduceBEq, Nat.reduceLT, hat, e1, hsucc]
      exact ⟨i + 1, by omega, h, k4, y4, e4, ho4, by rw [hwn]⟩
    · have : i = l.length := by omega
      subst this
      simp only [go_sem, reduceIte, reduceCtorEq, Nat.reduceAdd, Nat.reduceSub, Nat.reduceEqDiff, Nat.reduceLeDiff, Nat.reduceBEq, Nat.reduceLT, Int.ofNat_lt, h, hx.len]
      exact fin_own ho

set_option maxHeartbeats 4000000 in
theorem w_tables_Encode (l : List DRun) (x : AV) (hx : IsSl IsRun 2 l x) (n : Int) (hfine : FineR l n) (hn1 : 1 ≤ n) (hn : n ≤ 200) (hw : WfRuns l) (hl : l.length ≤ 1000) (m : Mem) (hf : m.floor ≤ m.stk.length + 1) : Okp IsByte 1 tab F_tables_Encode [x, .int .i64 n] m (cod8 l l.length) 0 := by
  refine okp_of t_tables_Encode ?_
  obtain ⟨stk, cur, nx, live, fl⟩ := m
  dsimp only at hf
  have hf' : fl ≤ (stk ++ [cur]).length + 1 := by simp; omega
  have e0 : IntKind.u64.wrap (l.length : Int) = l.length := wrap_u64 (by omega) (by omega)
  have hC := w_tables_Check l x hx n
  rw [show err08 l n = 0 by unfold err08; rw [if_neg (by omega), pb_true hfine]; rfl] at hC
  simp only [a_tables_Encode, go_sem, reduceIte, reduceCtorEq, Nat.reduceAdd, Nat.reduceSub, Nat.reduceEqDiff, Nat.reduceLeDiff, Nat.reduceBEq, Nat.reduceLT, (hC _).eq, show ((0 : Int) != 0) = false from rfl, hx.len, e0]
  refine (w_wire_Vary l.length (by omega) _ _ _ _ _ hf').xv fun y ts k ho => ?_
  simp only [go_sem, reduceIte, reduceCtorEq, Nat.reduceAdd, Nat.reduceSub, Nat.reduceEqDiff, Nat.reduceLeDiff, Nat.reduceBEq, Nat.reduceLT, hx.len]
  refine XL_rule (α := Nat) (fun i σ => i ≤ l.length ∧ ∃ nz y e, Own IsByte 1 y (cod8 l i) e ∧ heads [7, 8, 21, 22, 23] 0 σ = ⟨tmps 44 [(7, y), (8, .int .i64 (wasAt l i)), (21, x), (22, .int .i64 l.length), (23, .int .i64 i)], ⟨stk ++ [cur], [], nz, e :: live, fl⟩⟩) (fun i => l.length - i) 0 ?_ ?_
  · refine ⟨Nat.zero_le _, k, y, _, ho, ?_⟩
    simp only [go_sem, reduceIte, reduceCtorEq, Nat.reduceAdd, Nat.reduceSub, Nat.reduceEqDiff, Nat.reduceLeDiff, Nat.reduceBEq, Nat.reduceLT, wasAt, List.append_nil]
    rfl
  · rintro i σ ⟨hi, nz, y, e, ho, hσ⟩
    rw [hσ]
    clear hσ σ
    dsimp only at hi ⊢
    by_cases h : i < l.length
    · skip
      have h1 := fine_was hfine h
      have h2 := (hw.at h).value
      unfold inU64 at h2
      have hpos := fine_pos hfine i h
      have hfr := (hfine.2.2 i h).1
      have e1 := IsSl.run hx h
      have hat := hx.at .i64 h
      have m1 := minimal_ten (n := ((runAt l i).frm - wasAt l i).toNat) (by omega)
      have m2 := minimal_ten (n := (runAt l i).value.toNat) (by omega)
      have hcl := cod8_len hfine hn hw hl i (by omega)
      have ew : IntKind.u64.wrap (IntKind.i64.wrap ((runAt l i).frm - wasAt l i)) = ((((runAt l i).frm - wasAt l i).toNat : Nat) : Int) := by
        rw [wrap_i64' (by omega) (by omega), wrap_u64 (by omega) (by omega)]; omega
      have ev : (runAt l i).value = (((runAt l i).value.toNat : Nat) : Int) := by omega
      have hsucc := succ_i64 h hx.max
      have hwn : wasAt l (i + 1) = (runAt l i).frm := by unfold wasAt; rw [if_neg (by omega)]; simp
      simp only [go_sem, reduceIte, reduceCtorEq, Nat.reduceAdd, Nat.reduceSub, Nat.reduceEqDiff, Nat.reduceLeDiff, Nat.reduceBEq, Nat.reduceLT, Int.ofNat_lt, h, hat, e1, ew]
      refine (w_wire_Vary _ (by omega) _ _ _ _ _ hf').xv fun y1 t1 k1 ho1 => ?_
      simp only [go_sem, reduceIte, reduceCtorEq, Nat.reduceAdd, Nat.reduceSub, Nat.reduceEqDiff, Nat.reduceLeDiff, Nat.reduceBEq, Nat.reduceLT]
      obtain ⟨z1, hz1, hc1⟩ := ho1.elems
      refine (ho.push t1).xv hz1 hc1 (by omega) fun y2 k2 e2 ho2 => ?_
      simp only [go_sem, reduceIte, reduceCtorEq, Nat.reduceAdd, Nat.reduceSub, Nat.reduceEqDiff, Nat.reduceLeDiff, Nat.reduceBEq, Nat.reduceLT]
      rw [ev]
      refine (w_wire_Vary _ (by omega) _ _ _ _ _ hf').xv fun y3 t3 k3 ho3 => ?_
      simp only [go_sem, reduceIte, reduceCtorEq, Nat.reduceAdd, Nat.reduceSub, Nat.reduceEqDiff, Nat.reduceLeDiff, Nat.reduceBEq, Nat.reduceLT]
      obtain ⟨z3, hz3, hc3⟩ := ho3.elems
      refine (ho2.push t3).xv hz3 hc3 (by simp only [List.length_append]; omega) fun y4 k4 e4 ho4 => ?_
      simp only [go_sem, reduceIte, reduceCtorEq, Nat.reduceAdd, Nat.reduceSub, Nat.reduceEqDiff, Nat.reduceLeDiff, Nat.reduceBEq, Nat.reduceLT, hsucc]
      exact ⟨i + 1, by omega, h, k4, y4, e4, ho4, by rw [hwn]⟩
    · have : i = l.length := by omega
      subst this
      simp only [go_sem, reduceIte, reduceCtorEq, Nat.reduceAdd, Nat.reduceSub, Nat.reduceEqDiff, Nat.reduceLeDiff, Nat.reduceBEq, Nat.reduceLT, Int.ofNat_lt, h]
      exact fin_pair ho

end Go.Proofs.W

namespace Go.Proofs.W
open Go.Vs
set_option linter.unusedSimpArgs false
set_option maxRecDepth 100000

/-- The value of runs at an instruction. -/
def valR (l : List DRun) (i : Int) : Nat → Int
  | 0 => 0
  | k + 1 => if (runAt l k).frm ≤ i then (runAt l k).value else valR l i k

theorem fine_mono {l : List DRun} {n : Int} (h : FineR l n) (a : Nat) : ∀ b, a ≤ b → b < l.length → (runAt l a).frm ≤ (runAt l b).frm
  | 0, hab, _ => by have : a = 0 := by omega
                    subst this; exact Int.le_refl _
  | b + 1, hab, hb => by
    by_cases e : a = b + 1
    · subst e; exact Int.le_refl _
    · have ih := fine_mono h a b (by omega) (by omega)
      have := ((h.2.2 (b + 1) hb).2 (by omega)).1
      simp only [Nat.add_sub_cancel] at this; omega

theorem valR_eq {l : List DRun} {n i : Int} (h : FineR l n) (b : Nat) (hb0 : 0 < b) (hlow : (runAt l (b - 1)).frm ≤ i) (hhi : ∀ k, b ≤ k → k < l.length → i < (runAt l k).frm) : ∀ k, b ≤ k → k ≤ l.length → valR l i k = (runAt l (b - 1)).value
  | 0, hk, _ => by omega
  | k + 1, hk, hl => by
    unfold valR
    by_cases e : b = k + 1
    · subst e; simp only [Nat.add_sub_cancel] at hlow ⊢; rw [if_pos hlow]
    · have := hhi k (by omega) (by omega)
      rw [if_neg (by omega)]
      exact valR_eq h b hb0 hlow hhi k (by omega) (by omega)

theorem w_ref08_Value (l : List DRun) (x : AV) (hx : IsSl IsRun 2 l x) (i : Int) (m : Mem) : Okv tab F_wreckageref08_Value [x, .int .i64 i] m (.int .u64 (valR l i l.length)) := by
  refine okv_of t_wreckageref08_Value ?_
  obtain ⟨stk, cur, nx, live, fl⟩ := m
  simp only [a_wreckageref08_Value, go_sem, reduceIte, reduceCtorEq, Nat.reduceAdd, Nat.reduceSub, Nat.reduceEqDiff, Nat.reduceLeDiff, Nat.reduceBEq, Nat.reduceLT]
  refine XL_rule (α := Nat) (fun k σ => k ≤ l.length ∧ ∃ nz, heads [0, 1, 5, 6] 0 σ = ⟨tmps 26 [(0, x), (1, .int .i64 i), (5, .int .u64 (valR l i k)), (6, .int .i64 k)], ⟨stk ++ [cur], [], nz, [] :: live, fl⟩⟩) (fun k => l.length - k) 0 ?_ ?_
  · refine ⟨Nat.zero_le _, ?_⟩
    simp only [go_sem, reduceIte, reduceCtorEq, Nat.reduceAdd, Nat.reduceSub, Nat.reduceEqDiff, Nat.reduceLeDiff, Nat.reduceBEq, Nat.reduceLT, valR]
    exact ⟨_, rfl⟩
  · rintro k σ ⟨hk, nz, hσ⟩
    rw [hσ]
    clear hσ σ
    dsimp only at hk ⊢
    by_cases h : k < l.length
    · have e1 := IsSl.run hx h
      have hat := hx.at .i64 h
      have hsucc := succ_i64 h hx.max
      by_cases hq : (runAt l k).frm ≤ i
      · simp only [go_sem, reduceIte, reduceCtorEq, Nat.reduceAdd, Nat.reduceSub, Nat.reduceEqDiff, Nat.reduceLeDiff, Nat.reduceBEq, Nat.reduceLT, Int.ofNat_lt, h, hx.len, hat, e1, hq, hsucc]
        refine ⟨k + 1, by omega, h, nz, ?_⟩
        unfold valR; rw [if_pos hq]
      · simp only [go_sem, reduceIte, reduceCtorEq, Nat.reduceAdd, Nat.reduceSub, Nat.reduceEqDiff, Nat.reduceLeDiff, Nat.reduceBEq, Nat.reduceLT, Int.ofNat_lt, h, hx.len, hat, e1, hq, hsucc]
        refine ⟨k + 1, by omega, h, nz, ?_⟩
        rw [show valR l i (k + 1) = valR l i k by rw [valR, if_neg hq]]
    · have : k = l.length := by omega
      subst this
      simp only [go_sem, reduceIte, reduceCtorEq, Nat.reduceAdd, Nat.reduceSub, Nat.reduceEqDiff, Nat.reduceLeDiff, Nat.reduceBEq, Nat.reduceLT, Int.ofNat_lt, h, hx.len]
      rw [leave_plain rfl rfl, Opt_some]
      exact ⟨⟨_, rfl⟩, rfl⟩

theorem w_ref08_At (l : List DRun) (x : AV) (hx : IsSl IsRun 2 l x) (n i : Int) (hfine : FineR l n) (hn : 1 ≤ n ∧ n ≤ 200) (hi : 0 ≤ i ∧ i < n) (m : Mem) : Okv tab F_wreckageref08_At [x, .int .i64 n, .int .i64 i] m (.tup [.int .u64 (valR l i l.length), .int .i64 0]) := by
  refine okv_of t_wreckageref08_At ?_
  obtain ⟨stk, cur, nx, live, fl⟩ := m
  have hC := w_ref08_Check l x hx n
  rw [show err08 l n = 0 by unfold err08; rw [if_neg (by omega), pb_true hfine]; rfl] at hC
  simp only [a_wreckageref08_At, go_sem, reduceIte, reduceCtorEq, Nat.reduceAdd, Nat.reduceSub, Nat.reduceEqDiff, Nat.reduceLeDiff, Nat.reduceBEq, Nat.reduceLT, (hC _).eq, show ((0 : Int) != 0) = false from rfl, show ¬ i < 0 by omega, show ¬ i ≥ n by omega, (w_ref08_Value l x hx i _).eq]
  rw [leave_plain rfl rfl, Opt_some]
  exact ⟨⟨_, rfl⟩, rfl⟩

theorem row_of_blk {m : Mem} {l k st : Nat} {cs : List AV} (h : m.blk l k st = some cs) : (m.row l)[k]? = some ⟨st, cs⟩ := by
  unfold Mem.blk at h
  split at h
  · rename_i b hb
    split at h
    · rename_i e
      injection h with h
      rw [hb, ← h, ← eq_of_beq e]
    · cases h
  · cases h

/-- The closure that sort.Search asks: its captured variables lie in blocks of a frame below. -/
theorem w_At_1 (l : List DRun) (x : AV) (hx : IsSl IsRun 2 l x) (i : Int) (k : Nat) (hk : k < l.length) (m : Mem) (lv st st2 : Nat) (hlv : lv ≤ m.stk.length) (h1 : m.blk lv 0 st = some [x]) (h2 : m.blk lv 1 st2 = some [.int .i64 i]) :
    Okv tab F_tables_At_1 [.int .i64 k, .ptr lv 0 st 0, .ptr lv 1 st2 0] m (.bool (decide ((runAt l k).frm > i))) := by
  refine okv_of t_tables_At_1 ?_
  obtain ⟨stk, cur, nx, live, fl⟩ := m
  have hne : (lv == (stk ++ [cur]).length) = false := by simp at hlv ⊢; omega
  have hrow : (stk ++ [cur]).getD lv [] = (Mem.row ⟨stk, cur, nx, live, fl⟩ lv) := by
    unfold Mem.row
    simp only at hlv ⊢
    by_cases e : lv = stk.length
    · subst e; simp
    · rw [if_neg (by simpa using e)]
      simp only [List.getD_eq_getElem?_getD]
      rw [List.getElem?_append_left (by omega)]
  have b1 := row_of_blk h1
  have b2 := row_of_blk h2
  rw [← hrow] at b1 b2
  simp only [a_tables_At_1, go_sem, reduceIte, reduceCtorEq, Nat.reduceAdd, Nat.reduceSub, Nat.reduceEqDiff, Nat.reduceLeDiff, Nat.reduceBEq, Nat.reduceLT, hne, b1, b2, hx.at _ hk, IsSl.run hx hk]
  rw [leave_plain rfl rfl, Opt_some]
  exact ⟨⟨_, rfl⟩, rfl⟩

set_option maxHeartbeats 2000000 in
theorem w_Search (l : List DRun) (x : AV) (hx : IsSl IsRun 2 l x) (n : Int) (hfine : FineR l n) (hl : l.length ≤ 1000) (i : Int) (m : Mem) (lv st st2 : Nat) (hlv : lv ≤ m.stk.length) (h1 : m.blk lv 0 st = some [x]) (h2 : m.blk lv 1 st2 = some [.int .i64 i]) :
    Ok tab F_sort_Search [.int .i64 l.length, .fn (.func F_tables_At_1) [] [.ptr lv 0 st 0, .ptr lv 1 st2 0]] m (fun r => ∃ b : Nat, r = .int .i64 b ∧ b ≤ l.length ∧ (∀ k, k < b → (runAt l k).frm ≤ i) ∧ ∀ k, b ≤ k → k < l.length → i < (runAt l k).frm) := by
  refine ok_of t_sort_Search ?_
  obtain ⟨stk, cur, nx, live, fl⟩ := m
  have hblk : ∀ (c : List Blk) (nz : Nat) (lv2 : List (List Nat)) (k s : Nat), (Mem.blk ⟨stk ++ [cur], c, nz, lv2, fl⟩ lv k s) = Mem.blk ⟨stk, cur, nx, live, fl⟩ lv k s := fun c nz lv2 k s => by
    unfold Mem.blk Mem.row
    simp only at hlv ⊢
    rw [if_neg (by simp; omega)]
    by_cases e : lv = stk.length
    · subst e; simp
    · rw [if_neg (by simpa using e)]
      simp only [List.getD_eq_getElem?_getD]
      rw [List.getElem?_append_left (by omega)]
  simp only [a_sort_Search, go_sem, reduceIte, reduceCtorEq, Nat.reduceAdd, Nat.reduceSub, Nat.reduceEqDiff, Nat.reduceLeDiff, Nat.reduceBEq, Nat.reduceLT]
  refine XL_rule (α := Nat × Nat) (fun z σ => (z.1 ≤ z.2 ∧ z.2 ≤ l.length ∧ (∀ k, k < z.1 → (runAt l k).frm ≤ i) ∧ ∀ k, z.2 ≤ k → k < l.length → i < (runAt l k).frm) ∧ ∃ nz, heads [1, 5, 6] 0 σ = ⟨tmps 26 [(1, .fn (.func F_tables_At_1) [] [.ptr lv 0 st 0, .ptr lv 1 st2 0]), (5, .int .i64 z.1), (6, .int .i64 z.2)], ⟨stk ++ [cur], [], nz, [] :: live, fl⟩⟩) (fun z => z.2 - z.1) (0, l.length) ?_ ?_
  · refine ⟨⟨Nat.zero_le _, Nat.le_refl _, fun k h => absurd h (Nat.not_lt_zero _), fun k h h' => by dsimp only at h; omega⟩, ?_⟩
    simp only [go_sem, reduceIte, reduceCtorEq, Nat.reduceAdd, Nat.reduceSub, Nat.reduceEqDiff, Nat.reduceLeDiff, Nat.reduceBEq, Nat.reduceLT]
    exact ⟨_, rfl⟩
  · rintro ⟨a, b⟩ σ ⟨⟨hab, hb, hlow, hhi⟩, nz, hσ⟩
    rw [hσ]
    clear hσ σ
    dsimp only at hab hb hlow hhi ⊢
    by_cases h : a < b
    · have e1 : IntKind.i64.wrap ((a : Int) + (b : Int)) = ((a + b : Nat) : Int) := by rw [wrap_i64' (by omega) (by omega)]; omega
      have e2 : IntKind.u64.wrap ((a + b : Nat) : Int) = ((a + b : Nat) : Int) := wrap_u64 (by omega) (by omega)
      have e3 : ((a + b : Nat) : Int).fdiv (2 ^ min (Int.toNat 1) 64) = (((a + b) / 2 : Nat) : Int) := by
        rw [Int.fdiv_eq_ediv_of_nonneg _ (by decide)]; simp
      have e4 : IntKind.i64.wrap (((a + b) / 2 : Nat) : Int) = (((a + b) / 2 : Nat) : Int) := wrap_i64' (by omega) (by omega)
      generalize hh : (a + b) / 2 = c at *
      have hc : c < l.length := by omega
      have hA := w_At_1 l x hx i c hc ⟨stk ++ [cur], [], nz, [] :: live, fl⟩ lv st st2 (by simp at hlv ⊢; omega) (by rw [hblk]; exact h1) (by rw [hblk]; exact h2)
      simp only [go_sem, reduceIte, reduceCtorEq, Nat.reduceAdd, Nat.reduceSub, Nat.reduceEqDiff, Nat.reduceLeDiff, Nat.reduceBEq, Nat.reduceLT, Int.ofNat_lt, h, e1, e2, evShift, IntKind.bits, (by decide : ¬ ((1 : Int) < 0)), e3, e4, hA.eq]
      by_cases hq : (runAt l c).frm > i
      · simp only [go_sem, reduceIte, reduceCtorEq, Nat.reduceAdd, Nat.reduceSub, Nat.reduceEqDiff, Nat.reduceLeDiff, Nat.reduceBEq, Nat.reduceLT, hq]
        refine ⟨(a, c), by dsimp only; omega, ⟨by dsimp only; omega, by dsimp only; omega, hlow, fun k hk hkl => ?_⟩, _, rfl⟩
        have := fine_mono hfine c k hk hkl
        dsimp only at hk; omega
      · have hs : IntKind.i64.wrap ((c : Int) + 1) = ((c + 1 : Nat) : Int) := succ_i64 hc hx.max
        simp only [go_sem, reduceIte, reduceCtorEq, Nat.reduceAdd, Nat.reduceSub, Nat.reduceEqDiff, Nat.reduceLeDiff, Nat.reduceBEq, Nat.reduceLT, hq, hs]
        refine ⟨(c + 1, b), by dsimp only; omega, ⟨by dsimp only; omega, hb, fun k hk => ?_, hhi⟩, _, rfl⟩
        have := fine_mono hfine k c (by dsimp only at hk; omega) hc
        omega
    · have : a = b := by omega
      subst this
      simp only [go_sem, reduceIte, reduceCtorEq, Nat.reduceAdd, Nat.reduceSub, Nat.reduceEqDiff, Nat.reduceLeDiff, Nat.reduceBEq, Nat.reduceLT, Int.ofNat_lt, h]
      rw [leave_plain rfl rfl, Opt_some]
      exact ⟨⟨_, rfl⟩, a, rfl, hb, hlow, hhi⟩

set_option maxHeartbeats 2000000 in
theorem w_tables_At (l : List DRun) (x : AV) (hx : IsSl IsRun 2 l x) (n i : Int) (hfine : FineR l n) (hn : 1 ≤ n ∧ n ≤ 200) (hi : 0 ≤ i ∧ i < n) (hl : l.length ≤ 1000) (m : Mem) : Okv tab F_tables_At [x, .int .i64 n, .int .i64 i] m (.tup [.int .u64 (valR l i l.length), .int .i64 0]) := by
  refine okv_of t_tables_At ?_
  obtain ⟨stk, cur, nx, live, fl⟩ := m
  have hC := w_tables_Check l x hx n
  rw [show err08 l n = 0 by unfold err08; rw [if_neg (by omega), pb_true hfine]; rfl] at hC
  have hcell := hx.refs_cells
  simp only [a_tables_At, go_sem, reduceIte, reduceCtorEq, Nat.reduceAdd, Nat.reduceSub, Nat.reduceEqDiff, Nat.reduceLeDiff, Nat.reduceBEq, Nat.reduceLT, hcell, (hC _).eq, show ((0 : Int) != 0) = false from rfl, show ¬ i < 0 by omega, show ¬ i ≥ n by omega, hx.len]
  obtain ⟨r, k, hcall, b, rfl, hb, hlow, hhi⟩ := w_Search l x hx n hfine hl i ⟨stk ++ [cur], [⟨nx, [x]⟩, ⟨nx + 1, [.int .i64 i]⟩], callNx tab F_tables_Check [x, .int .i64 n] ⟨stk ++ [cur], [⟨nx, [x]⟩, ⟨nx + 1, [.int .i64 i]⟩], nx + 1 + 1, [] :: live, fl⟩, [] :: live, fl⟩ (stk ++ [cur]).length nx (nx + 1) (Nat.le_refl _) (by simp [Mem.blk, Mem.row]) (by simp [Mem.blk, Mem.row])
  have hb0 : 0 < b := by
    rcases Nat.eq_zero_or_pos b with h | h
    · have := hhi 0 (by omega) hfine.1
      rw [hfine.2.1] at this; omega
    · exact h
  have hsub : IntKind.i64.wrap ((b : Int) - 1) = (b : Int) - 1 := wrap_i64' (by omega) (by omega)
  have hat := at_pred hx hb0 (show b - 1 < l.length by omega)
  have e1 := IsSl.run hx (show b - 1 < l.length by omega)
  simp only [go_sem, reduceIte, reduceCtorEq, Nat.reduceAdd, Nat.reduceSub, Nat.reduceEqDiff, Nat.reduceLeDiff, Nat.reduceBEq, Nat.reduceLT, hcall, hsub, hat, e1]
  rw [leave_plain rfl rfl, Opt_some]
  refine ⟨⟨_, rfl⟩, ?_⟩
  rw [valR_eq hfine b hb0 (hlow _ (by omega)) hhi l.length hb (Nat.le_refl _)]

end Go.Proofs.W
