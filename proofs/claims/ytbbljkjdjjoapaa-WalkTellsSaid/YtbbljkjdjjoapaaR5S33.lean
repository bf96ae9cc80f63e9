/-
  R5S33
-/
import Derived.Test.YtbbljkjdjjoapaaR5S27
import Derived.Test.YtbbljkjdjjoapaaR5SG
namespace Go.Proofs.W
open Go.Vs
set_option linter.unusedSimpArgs false
set_option maxRecDepth 100000

theorem and_255 {a : Nat} (h : a < 18446744073709551616) : evBits .and .u64 (a : Int) 255 = some (.int .u64 ((a % 256 : Nat) : Int)) := by
  refine congrArg (fun z => some (AV.int .u64 z)) (?_ : IntKind.u64.wrap ((BitVec.ofInt 64 (a : Int) &&& BitVec.ofInt 64 255).toNat : Int) = ((a % 256 : Nat) : Int))
  have e1 : (BitVec.ofInt 64 (a : Int)).toNat = a := by rw [BitVec.toNat_ofInt]; omega
  have e2 : (BitVec.ofInt 64 255).toNat = 2 ^ 8 - 1 := by decide
  rw [BitVec.toNat_and, e1, e2, Nat.and_two_pow_sub_one_eq_mod, wrap_u64 (by omega) (by omega)]
theorem shr_8 (a : Nat) : (a : Int).fdiv (2 ^ min (Int.toNat 8) 64) = ((a / 256 : Nat) : Int) := by
  rw [Int.fdiv_eq_ediv_of_nonneg _ (by decide)]; simp

def badAt (d : DImage) (a : Nat) : Prop := a / 256 = 0 ∨ a / 256 > d.funcs.length ∨ a % 256 ≥ (fnAt d.funcs (a / 256 - 1)).code.length
open Classical in
/-- The function and the instruction with an address, and the error. -/
noncomputable def findR (d : DImage) (a : Nat) : Int × Int × Int :=
  if err09 d ≠ 0 then (0, 0, err09 d) else if badAt d a then (0, 0, 6) else (((a / 256 - 1 : Nat) : Int), ((a % 256 : Nat) : Int), 0)
noncomputable def findV (d : DImage) (a : Nat) : AV := .tup [.int .i64 (findR d a).1, .int .i64 (findR d a).2.1, .int .i64 (findR d a).2.2]

theorem err_fine {d : DImage} (h : err09 d = 0) : FineI d := by
  by_cases hf : FineI d
  · exact hf
  · exfalso; unfold err09 at h; rw [pb_false hf] at h; simp at h

theorem at_u64 {α : Type} {R : α → AV → Prop} {s : Nat} {xs : List α} {y : AV} (h : IsSl R s xs y) {i : Nat} (k : IntKind) (hi : i < xs.length) : evIaddr s y (.int k i) = some (.ro (nth y i).cells) := h.at k hi

set_option maxHeartbeats 4000000 in
theorem w_image_Find (d : DImage) (x : AV) (hx : IsImage d x) (hw : WfImage d) (a : Nat) (ha : a < 18446744073709551616) (m : Mem) (hfl : m.floor ≤ m.stk.length + 1) : Okv tab F_image_Find [x, .int .u64 a] m (findV d a) := by
  refine okv_of t_image_Find ?_
  obtain ⟨stk, cur, nx, live, fl⟩ := m
  dsimp only at hfl
  have hfl' : fl ≤ (stk ++ [cur]).length + 1 := by simp; omega
  have hC := fun c nz lv => (w_image_Check d x hx hw ⟨stk ++ [cur], c, nz, lv, fl⟩ hfl').eq
  obtain ⟨types, texts, funcs⟩ := d
  obtain ⟨v0, v1, v2, rfl, h0, h1, h2⟩ := hx
  dsimp only at h0 h1 h2
  simp only [a_image_Find, go_sem, reduceIte, reduceCtorEq, Nat.reduceAdd, Nat.reduceSub, Nat.reduceEqDiff, Nat.reduceLeDiff, Nat.reduceBEq, Nat.reduceLT, hC]
  by_cases he : err09 ⟨types, texts, funcs⟩ = 0
  case neg =>
    have he' : (err09 ⟨types, texts, funcs⟩ != 0) = true := by simpa using he
    simp only [go_sem, reduceIte, reduceCtorEq, Nat.reduceAdd, Nat.reduceSub, Nat.reduceEqDiff, Nat.reduceLeDiff, Nat.reduceBEq, Nat.reduceLT, he']
    rw [leave_plain rfl rfl, Opt_some]
    exact ⟨⟨_, rfl⟩, by unfold findV findR; rw [if_pos he]⟩
  obtain ⟨hc, a2, a3, a4, a5, a6, a7, a8⟩ := err_fine he
  dsimp only at hc a2 a3 a4 a5 a6 a7 a8
  have e1 : IntKind.i64.wrap ((a % 256 : Nat) : Int) = ((a % 256 : Nat) : Int) := wrap_i64' (by omega) (by omega)
  have e2 : IntKind.u64.wrap ((funcs.length : Nat) : Int) = ((funcs.length : Nat) : Int) := wrap_u64 (by omega) (by omega)
  simp only [go_sem, reduceIte, reduceCtorEq, Nat.reduceAdd, Nat.reduceSub, Nat.reduceEqDiff, Nat.reduceLeDiff, Nat.reduceBEq, Nat.reduceLT, he, show ((0 : Int) != 0) = false from rfl, evShift, IntKind.bits, (by decide : ¬ ((8 : Int) < 0)), shr_8, and_255 ha, e1, h2.len, e2]
  have bad : badAt ⟨types, texts, funcs⟩ a → AV.tup [.int .i64 0, .int .i64 0, .int .i64 6] = findV ⟨types, texts, funcs⟩ a := fun hb => by
    unfold findV findR; rw [if_neg (by rw [he]; decide), if_pos hb]
  by_cases hn0 : a / 256 = 0
  · simp only [go_sem, reduceIte, reduceCtorEq, Nat.reduceAdd, Nat.reduceSub, Nat.reduceEqDiff, Nat.reduceLeDiff, Nat.reduceBEq, Nat.reduceLT, hn0, show (((0 : Nat) : Int) == 0) = true from rfl]
    rw [leave_plain rfl rfl, Opt_some]
    exact ⟨⟨_, rfl⟩, bad (.inl hn0)⟩
  have hn0' : (((a / 256 : Nat) : Int) == 0) = false := beq_eq_false_iff_ne.2 (by omega)
  by_cases hn1 : a / 256 > funcs.length
  · simp only [go_sem, reduceIte, reduceCtorEq, Nat.reduceAdd, Nat.reduceSub, Nat.reduceEqDiff, Nat.reduceLeDiff, Nat.reduceBEq, Nat.reduceLT, hn0', h2.len, e2, show ((a / 256 : Nat) : Int) > ((funcs.length : Nat) : Int) by omega]
    rw [leave_plain rfl rfl, Opt_some]
    exact ⟨⟨_, rfl⟩, bad (.inr (.inl hn1))⟩
  have hk : a / 256 - 1 < funcs.length := by omega
  have e3 : IntKind.u64.wrap (((a / 256 : Nat) : Int) - 1) = ((a / 256 - 1 : Nat) : Int) := by rw [wrap_u64 (by omega) (by omega)]; omega
  have hat := h2.at .u64 hk
  obtain ⟨u0, u1, u2, u3, e5, k0, k1, k2, k3⟩ := h2.nth hk
  rw [fnAt_get hk] at e5 k0 k1 k2 k3
  simp only [go_sem, reduceIte, reduceCtorEq, Nat.reduceAdd, Nat.reduceSub, Nat.reduceEqDiff, Nat.reduceLeDiff, Nat.reduceBEq, Nat.reduceLT, hn0', h2.len, e2, show ¬ ((a / 256 : Nat) : Int) > ((funcs.length : Nat) : Int) by omega, e3, hat, e5, k1.len]
  by_cases hi : a % 256 ≥ (fnAt funcs (a / 256 - 1)).code.length
  · simp only [go_sem, reduceIte, reduceCtorEq, Nat.reduceAdd, Nat.reduceSub, Nat.reduceEqDiff, Nat.reduceLeDiff, Nat.reduceBEq, Nat.reduceLT, show ((a % 256 : Nat) : Int) ≥ (((fnAt funcs (a / 256 - 1)).code.length : Nat) : Int) by omega]
    rw [leave_plain rfl rfl, Opt_some]
    exact ⟨⟨_, rfl⟩, bad (.inr (.inr hi))⟩
  · have e6 : IntKind.i64.wrap ((a / 256 : Nat) : Int) = ((a / 256 : Nat) : Int) := wrap_i64' (by omega) (by omega)
    have e7 : IntKind.i64.wrap (((a / 256 : Nat) : Int) - 1) = ((a / 256 - 1 : Nat) : Int) := by rw [wrap_i64' (by omega) (by omega)]; omega
    simp only [go_sem, reduceIte, reduceCtorEq, Nat.reduceAdd, Nat.reduceSub, Nat.reduceEqDiff, Nat.reduceLeDiff, Nat.reduceBEq, Nat.reduceLT, show ¬ ((a % 256 : Nat) : Int) ≥ (((fnAt funcs (a / 256 - 1)).code.length : Nat) : Int) by omega, e6, e7]
    rw [leave_plain rfl rfl, Opt_some]
    refine ⟨⟨_, rfl⟩, ?_⟩
    unfold findV findR
    rw [if_neg (by rw [he]; decide), if_neg]
    rintro (h | h | h)
    · exact hn0 h
    · exact hn1 h
    · exact hi h

set_option maxHeartbeats 4000000 in
theorem w_Where (d : DImage) (x : AV) (hx : IsImage d x) (hl : d.funcs.length ≤ 32) (a : Nat) (ha : a < 18446744073709551616) (m : Mem) :
    (badAt d a → Okv tab F_wreckageref09_Where [x, .int .u64 a] m (.tup [.int .i64 0, .int .i64 0, .bool false])) ∧ (¬ badAt d a → Okv tab F_wreckageref09_Where [x, .int .u64 a] m (.tup [.int .i64 ((a / 256 - 1 : Nat) : Int), .int .i64 ((a % 256 : Nat) : Int), .bool true])) := by
  suffices h : ∀ r, (r = if pb (badAt d a) then AV.tup [.int .i64 0, .int .i64 0, .bool false] else .tup [.int .i64 ((a / 256 - 1 : Nat) : Int), .int .i64 ((a % 256 : Nat) : Int), .bool true]) → Okv tab F_wreckageref09_Where [x, .int .u64 a] m r by
    exact ⟨fun hb => h _ (by rw [pb_true hb]; rfl), fun hb => h _ (by rw [pb_false hb]; rfl)⟩
  intro r hr
  refine okv_of t_wreckageref09_Where ?_
  obtain ⟨stk, cur, nx, live, fl⟩ := m
  obtain ⟨types, texts, funcs⟩ := d
  obtain ⟨v0, v1, v2, rfl, h0, h1, h2⟩ := hx
  dsimp only at h0 h1 h2 hl
  have e1 : IntKind.i64.wrap (((funcs.length : Nat) : Int) + 1) = ((funcs.length + 1 : Nat) : Int) := by rw [wrap_i64' (by omega) (by omega)]; omega
  have e2 : IntKind.i64.wrap (256 * ((funcs.length + 1 : Nat) : Int)) = ((256 * (funcs.length + 1) : Nat) : Int) := by rw [wrap_i64' (by omega) (by omega)]; omega
  have e3 : IntKind.u64.wrap ((256 * (funcs.length + 1) : Nat) : Int) = ((256 * (funcs.length + 1) : Nat) : Int) := wrap_u64 (by omega) (by omega)
  simp only [a_wreckageref09_Where, go_sem, reduceIte, reduceCtorEq, Nat.reduceAdd, Nat.reduceSub, Nat.reduceEqDiff, Nat.reduceLeDiff, Nat.reduceBEq, Nat.reduceLT]
  by_cases hn0 : a < 256
  · simp only [go_sem, reduceIte, reduceCtorEq, Nat.reduceAdd, Nat.reduceSub, Nat.reduceEqDiff, Nat.reduceLeDiff, Nat.reduceBEq, Nat.reduceLT, show ((a : Nat) : Int) < 256 by omega]
    rw [leave_plain rfl rfl, Opt_some]
    exact ⟨⟨_, rfl⟩, by rw [hr, pb_true (.inl (by omega))]; rfl⟩
  by_cases hn1 : a ≥ 256 * (funcs.length + 1)
  · simp only [go_sem, reduceIte, reduceCtorEq, Nat.reduceAdd, Nat.reduceSub, Nat.reduceEqDiff, Nat.reduceLeDiff, Nat.reduceBEq, Nat.reduceLT, show ¬ ((a : Nat) : Int) < 256 by omega, h2.len, e1, e2, e3, show ((a : Nat) : Int) ≥ ((256 * (funcs.length + 1) : Nat) : Int) by omega]
    rw [leave_plain rfl rfl, Opt_some]
    exact ⟨⟨_, rfl⟩, by rw [hr, pb_true (.inr (.inl (by dsimp only; omega)))]; rfl⟩
  have hk : a / 256 - 1 < funcs.length := by omega
  have d1 : IntKind.u64.wrap (((a : Nat) : Int).tdiv 256) = ((a / 256 : Nat) : Int) := by
    rw [show (((a : Nat) : Int).tdiv 256) = ((a / 256 : Nat) : Int) from rfl, wrap_u64 (by omega) (by omega)]
  have d2 : (((a : Nat) : Int).tmod 256) = ((a % 256 : Nat) : Int) := rfl
  have d3 : IntKind.i64.wrap ((a / 256 : Nat) : Int) = ((a / 256 : Nat) : Int) := wrap_i64' (by omega) (by omega)
  have d4 : IntKind.i64.wrap (((a / 256 : Nat) : Int) - 1) = ((a / 256 - 1 : Nat) : Int) := by rw [wrap_i64' (by omega) (by omega)]; omega
  have d5 : IntKind.i64.wrap ((a % 256 : Nat) : Int) = ((a % 256 : Nat) : Int) := wrap_i64' (by omega) (by omega)
  have hat := h2.at .i64 hk
  obtain ⟨u0, u1, u2, u3, e5, k0, k1, k2, k3⟩ := h2.nth hk
  rw [fnAt_get hk] at e5 k0 k1 k2 k3
  simp only [go_sem, reduceIte, reduceCtorEq, Nat.reduceAdd, Nat.reduceSub, Nat.reduceEqDiff, Nat.reduceLeDiff, Nat.reduceBEq, Nat.reduceLT, show ¬ ((a : Nat) : Int) < 256 by omega, h2.len, e1, e2, e3, show ¬ ((a : Nat) : Int) ≥ ((256 * (funcs.length + 1) : Nat) : Int) by omega, (by decide : ¬ ((256 : Int) = 0)), d1, d2, d3, d4, d5, hat, e5, k1.len]
  by_cases hi : a % 256 ≥ (fnAt funcs (a / 256 - 1)).code.length
  · simp only [go_sem, reduceIte, reduceCtorEq, Nat.reduceAdd, Nat.reduceSub, Nat.reduceEqDiff, Nat.reduceLeDiff, Nat.reduceBEq, Nat.reduceLT, show ((a % 256 : Nat) : Int) ≥ (((fnAt funcs (a / 256 - 1)).code.length : Nat) : Int) by omega]
    rw [leave_plain rfl rfl, Opt_some]
    exact ⟨⟨_, rfl⟩, by rw [hr, pb_true (.inr (.inr hi))]; rfl⟩
  · simp only [go_sem, reduceIte, reduceCtorEq, Nat.reduceAdd, Nat.reduceSub, Nat.reduceEqDiff, Nat.reduceLeDiff, Nat.reduceBEq, Nat.reduceLT, show ¬ ((a % 256 : Nat) : Int) ≥ (((fnAt funcs (a / 256 - 1)).code.length : Nat) : Int) by omega]
    rw [leave_plain rfl rfl, Opt_some]
    refine ⟨⟨_, rfl⟩, ?_⟩
    rw [hr, pb_false]
    · rfl
    · rintro (h | h | h)
      · omega
      · dsimp only at h; omega
      · exact hi h

theorem w_ref09_Find (d : DImage) (x : AV) (hx : IsImage d x) (hw : WfImage d) (a : Nat) (ha : a < 18446744073709551616) (m : Mem) (hfl : m.floor ≤ m.stk.length + 1) : Okv tab F_wreckageref09_Find [x, .int .u64 a] m (findV d a) := by
  refine okv_of t_wreckageref09_Find ?_
  obtain ⟨stk, cur, nx, live, fl⟩ := m
  dsimp only at hfl
  have hfl' : fl ≤ (stk ++ [cur]).length + 1 := by simp; omega
  have hC := fun c nz lv => (w_ref09_Check d x hx hw ⟨stk ++ [cur], c, nz, lv, fl⟩ hfl').eq
  by_cases he : err09 d = 0
  case neg =>
    have he' : (err09 d != 0) = true := by simpa using he
    obtain ⟨v0, v1, v2, rfl, _⟩ := hx
    simp only [a_wreckageref09_Find, go_sem, reduceIte, reduceCtorEq, Nat.reduceAdd, Nat.reduceSub, Nat.reduceEqDiff, Nat.reduceLeDiff, Nat.reduceBEq, Nat.reduceLT, hC, he']
    rw [leave_plain rfl rfl, Opt_some]
    exact ⟨⟨_, rfl⟩, by unfold findV findR; rw [if_pos he]⟩
  have hfi := err_fine he
  have hW := fun m => w_Where d x hx hfi.2.2.2.1 a ha m
  obtain ⟨v0, v1, v2, rfl, _⟩ := hx
  by_cases hb : badAt d a
  · have hW := fun m => ((hW m).1 hb).eq
    simp only [a_wreckageref09_Find, go_sem, reduceIte, reduceCtorEq, Nat.reduceAdd, Nat.reduceSub, Nat.reduceEqDiff, Nat.reduceLeDiff, Nat.reduceBEq, Nat.reduceLT, hC, he, show ((0 : Int) != 0) = false from rfl, hW]
    rw [leave_plain rfl rfl, Opt_some]
    exact ⟨⟨_, rfl⟩, by unfold findV findR; rw [if_neg (by rw [he]; decide), if_pos hb]⟩
  · have hW := fun m => ((hW m).2 hb).eq
    simp only [a_wreckageref09_Find, go_sem, reduceIte, reduceCtorEq, Nat.reduceAdd, Nat.reduceSub, Nat.reduceEqDiff, Nat.reduceLeDiff, Nat.reduceBEq, Nat.reduceLT, hC, he, show ((0 : Int) != 0) = false from rfl, hW]
    rw [leave_plain rfl rfl, Opt_some]
    exact ⟨⟨_, rfl⟩, by unfold findV findR; rw [if_neg (by rw [he]; decide), if_neg hb]⟩

end Go.Proofs.W

namespace Go.Proofs.W
open Go.Vs
set_option linter.unusedSimpArgs false
set_option maxRecDepth 100000

theorem w_walk_Code (d : DImage) (x : AV) (hx : IsImage d x) (hw : WfImage d) (a : Nat) (ha : a < 18446744073709551616) (m : Mem) (hfl : m.floor ≤ m.stk.length + 1) : Okv tab F_walk_Code [x, .int .u64 a] m (findV d a) := by
  refine okv_of t_walk_Code ?_
  obtain ⟨stk, cur, nx, live, fl⟩ := m
  dsimp only at hfl
  have hfl' : fl ≤ (stk ++ [cur]).length + 1 := by simp; omega
  have hC := fun c nz lv => (w_image_Find d x hx hw a ha ⟨stk ++ [cur], c, nz, lv, fl⟩ hfl').eq
  obtain ⟨v0, v1, v2, rfl, _⟩ := hx
  unfold findV at hC ⊢
  simp only [a_walk_Code, go_sem, reduceIte, reduceCtorEq, Nat.reduceAdd, Nat.reduceSub, Nat.reduceEqDiff, Nat.reduceLeDiff, Nat.reduceBEq, Nat.reduceLT, hC]
  rw [leave_plain rfl rfl, Opt_some]
  exact ⟨⟨_, rfl⟩, rfl⟩
theorem w_ref30_Code (d : DImage) (x : AV) (hx : IsImage d x) (hw : WfImage d) (a : Nat) (ha : a < 18446744073709551616) (m : Mem) (hfl : m.floor ≤ m.stk.length + 1) : Okv tab F_wreckageref30_Code [x, .int .u64 a] m (findV d a) := by
  refine okv_of t_wreckageref30_Code ?_
  obtain ⟨stk, cur, nx, live, fl⟩ := m
  dsimp only at hfl
  have hfl' : fl ≤ (stk ++ [cur]).length + 1 := by simp; omega
  have hC := fun c nz lv => (w_ref09_Find d x hx hw a ha ⟨stk ++ [cur], c, nz, lv, fl⟩ hfl').eq
  obtain ⟨v0, v1, v2, rfl, _⟩ := hx
  unfold findV at hC ⊢
  simp only [a_wreckageref30_Code, go_sem, reduceIte, reduceCtorEq, Nat.reduceAdd, Nat.reduceSub, Nat.reduceEqDiff, Nat.reduceLeDiff, Nat.reduceBEq, Nat.reduceLT, hC]
  rw [leave_plain rfl rfl, Opt_some]
  exact ⟨⟨_, rfl⟩, rfl⟩

/-- The place of the frame that begins at an address, from some place on. -/
def atFrom (s : Int) : List DFrame → Nat → Int × Int
  | [], _ => (0, 6)
  | f :: r, i => if f.start = s then ((i : Int), 0) else atFrom s r (i + 1)
def atV (l : List DFrame) (s : Int) : AV := .tup [.int .i64 (atFrom s l 0).1, .int .i64 (atFrom s l 0).2]

theorem atFrom_drop (l : List DFrame) (s : Int) {i : Nat} (h : i < l.length) : atFrom s (l.drop i) i = if l[i].start = s then ((i : Int), 0) else atFrom s (l.drop (i + 1)) (i + 1) := by
  rw [List.drop_eq_getElem_cons h, atFrom]

set_option maxHeartbeats 2000000 in
theorem w_walk_At (l : List DFrame) (x : AV) (hx : IsSl IsFrame 8 l x) (s : Int) (m : Mem) : Okv tab F_walk_At [x, .int .u64 s] m (atV l s) := by
  refine okv_of t_walk_At ?_
  obtain ⟨stk, cur, nx, live, fl⟩ := m
  simp only [a_walk_At, go_sem, reduceIte, reduceCtorEq, Nat.reduceAdd, Nat.reduceSub, Nat.reduceEqDiff, Nat.reduceLeDiff, Nat.reduceBEq, Nat.reduceLT, hx.len]
  refine XL_rule (α := Nat) (fun i σ => (i ≤ l.length ∧ atFrom s l 0 = atFrom s (l.drop i) i) ∧ ∃ nz, heads [1, 8, 9, 10] 0 σ = ⟨tmps 21 [(1, .int .u64 s), (8, x), (9, .int .i64 l.length), (10, .int .i64 i)], ⟨stk ++ [cur], [], nz, [] :: live, fl⟩⟩) (fun i => l.length - i) 0 ?_ ?_
  · refine ⟨⟨Nat.zero_le _, by simp⟩, ?_⟩
    simp only [go_sem, reduceIte, reduceCtorEq, Nat.reduceAdd, Nat.reduceSub, Nat.reduceEqDiff, Nat.reduceLeDiff, Nat.reduceBEq, Nat.reduceLT]
    exact ⟨_, rfl⟩
  · rintro i σ ⟨⟨hi, ht⟩, nz, hσ⟩
    rw [hσ]
    clear hσ σ
    dsimp only at hi ht ⊢
    by_cases h : i < l.length
    · have e1 : nth x i = .agg [.int .u64 l[i].start, .int .i64 l[i].func, .int .i64 l[i].at_, .int .u64 l[i].code, .int .i64 l[i].size, .int .u64 l[i].mode, .int .u64 l[i].record, .int .u64 l[i].caller] := hx.nth h
      have hat := hx.at .i64 h
      have hsucc := succ_i64 h hx.max
      have hlen := hx.len
      rw [atFrom_drop l s h] at ht
      by_cases hs : l[i].start = s
      · have hs' : (l[i].start == s) = true := by simpa using hs
        rw [if_pos hs] at ht
        simp only [go_sem, reduceIte, reduceCtorEq, Nat.reduceAdd, Nat.reduceSub, Nat.reduceEqDiff, Nat.reduceLeDiff, Nat.reduceBEq, Nat.reduceLT, Int.ofNat_lt, h, hlen, hat, e1, hs']
        rw [leave_plain rfl rfl, Opt_some]
        exact ⟨⟨_, rfl⟩, by unfold atV; rw [ht]⟩
      · have hs' : (l[i].start == s) = false := by simpa using hs
        rw [if_neg hs] at ht
        simp only [go_sem, reduceIte, reduceCtorEq, Nat.reduceAdd, Nat.reduceSub, Nat.reduceEqDiff, Nat.reduceLeDiff, Nat.reduceBEq, Nat.reduceLT, Int.ofNat_lt, h, hlen, hat, e1, hs', hsucc]
        exact ⟨i + 1, by omega, ⟨h, ht⟩, _, rfl⟩
    · have : i = l.length := by omega
      subst this
      rw [List.drop_length] at ht
      simp only [go_sem, reduceIte, reduceCtorEq, Nat.reduceAdd, Nat.reduceSub, Nat.reduceEqDiff, Nat.reduceLeDiff, Nat.reduceBEq, Nat.reduceLT, Int.ofNat_lt, h, hx.len]
      rw [leave_plain rfl rfl, Opt_some]
      exact ⟨⟨_, rfl⟩, by unfold atV; rw [ht]; rfl⟩
set_option maxHeartbeats 2000000 in
theorem w_ref30_At (l : List DFrame) (x : AV) (hx : IsSl IsFrame 8 l x) (s : Int) (m : Mem) : Okv tab F_wreckageref30_At [x, .int .u64 s] m (atV l s) := by
  refine okv_of t_wreckageref30_At ?_
  obtain ⟨stk, cur, nx, live, fl⟩ := m
  simp only [a_wreckageref30_At, go_sem, reduceIte, reduceCtorEq, Nat.reduceAdd, Nat.reduceSub, Nat.reduceEqDiff, Nat.reduceLeDiff, Nat.reduceBEq, Nat.reduceLT]
  refine XL_rule (α := Nat) (fun i σ => (i ≤ l.length ∧ atFrom s l 0 = atFrom s (l.drop i) i) ∧ ∃ nz, heads [0, 1, 6] 0 σ = ⟨tmps 21 [(0, x), (1, .int .u64 s), (6, .int .i64 i)], ⟨stk ++ [cur], [], nz, [] :: live, fl⟩⟩) (fun i => l.length - i) 0 ?_ ?_
  · refine ⟨⟨Nat.zero_le _, by simp⟩, ?_⟩
    simp only [go_sem, reduceIte, reduceCtorEq, Nat.reduceAdd, Nat.reduceSub, Nat.reduceEqDiff, Nat.reduceLeDiff, Nat.reduceBEq, Nat.reduceLT]
    exact ⟨_, rfl⟩
  · rintro i σ ⟨⟨hi, ht⟩, nz, hσ⟩
    rw [hσ]
    clear hσ σ
    dsimp only at hi ht ⊢
    by_cases h : i < l.length
    · have e1 : nth x i = .agg [.int .u64 l[i].start, .int .i64 l[i].func, .int .i64 l[i].at_, .int .u64 l[i].code, .int .i64 l[i].size, .int .u64 l[i].mode, .int .u64 l[i].record, .int .u64 l[i].caller] := hx.nth h
      have hat := hx.at .i64 h
      have hsucc := succ_i64 h hx.max
      have hlen := hx.len
      rw [atFrom_drop l s h] at ht
      by_cases hs : l[i].start = s
      · have hs' : (l[i].start == s) = true := by simpa using hs
        rw [if_pos hs] at ht
        simp only [go_sem, reduceIte, reduceCtorEq, Nat.reduceAdd, Nat.reduceSub, Nat.reduceEqDiff, Nat.reduceLeDiff, Nat.reduceBEq, Nat.reduceLT, Int.ofNat_lt, h, hlen, hat, e1, hs']
        rw [leave_plain rfl rfl, Opt_some]
        exact ⟨⟨_, rfl⟩, by unfold atV; rw [ht]⟩
      · have hs' : (l[i].start == s) = false := by simpa using hs
        rw [if_neg hs] at ht
        simp only [go_sem, reduceIte, reduceCtorEq, Nat.reduceAdd, Nat.reduceSub, Nat.reduceEqDiff, Nat.reduceLeDiff, Nat.reduceBEq, Nat.reduceLT, Int.ofNat_lt, h, hlen, hat, e1, hs', hsucc]
        exact ⟨i + 1, by omega, ⟨h, ht⟩, _, rfl⟩
    · have : i = l.length := by omega
      subst this
      rw [List.drop_length] at ht
      simp only [go_sem, reduceIte, reduceCtorEq, Nat.reduceAdd, Nat.reduceSub, Nat.reduceEqDiff, Nat.reduceLeDiff, Nat.reduceBEq, Nat.reduceLT, Int.ofNat_lt, h, hx.len]
      rw [leave_plain rfl rfl, Opt_some]
      exact ⟨⟨_, rfl⟩, by unfold atV; rw [ht]; rfl⟩

def outOf (d : DImage) (f : DFrame) : Prop := f.func < 0 ∨ f.func ≥ d.funcs.length ∨ f.at_ < 0 ∨ f.at_ ≥ (fnAt d.funcs f.func.toNat).code.length
open Classical in
noncomputable def liveR (d : DImage) (f : DFrame) : Int × Int :=
  if err09 d ≠ 0 then (0, err09 d) else if outOf d f then (0, 16) else (valR (fnAt d.funcs f.func.toNat).lives f.at_ (fnAt d.funcs f.func.toNat).lives.length, 0)
noncomputable def liveV (d : DImage) (f : DFrame) : AV := .tup [.int .u64 (liveR d f).1, .int .i64 (liveR d f).2]

set_option maxHeartbeats 4000000 in
theorem w_walk_Live (d : DImage) (x : AV) (hx : IsImage d x) (hw : WfImage d) (f : DFrame) (y : AV) (hy : IsFrame f y) (m : Mem) (hfl : m.floor ≤ m.stk.length + 1) : Okv tab F_walk_Live [x, y] m (liveV d f) := by
  refine okv_of t_walk_Live ?_
  obtain ⟨stk, cur, nx, live, fl⟩ := m
  dsimp only at hfl
  have hfl' : fl ≤ (stk ++ [cur]).length + 1 := by simp; omega
  have hC := fun c nz lv => (w_image_Check d x hx hw ⟨stk ++ [cur], c, nz, lv, fl⟩ hfl').eq
  obtain ⟨types, texts, funcs⟩ := d
  obtain ⟨v0, v1, v2, rfl, h0, h1, h2⟩ := hx
  obtain ⟨start, func, at_, code, size, mode, record, caller⟩ := f
  obtain rfl := hy
  dsimp only at h0 h1 h2
  simp only [a_walk_Live, go_sem, reduceIte, reduceCtorEq, Nat.reduceAdd, Nat.reduceSub, Nat.reduceEqDiff, Nat.reduceLeDiff, Nat.reduceBEq, Nat.reduceLT, hC]
  by_cases he : err09 ⟨types, texts, funcs⟩ = 0
  case neg =>
    have he' : (err09 ⟨types, texts, funcs⟩ != 0) = true := by simpa using he
    simp only [go_sem, reduceIte, reduceCtorEq, Nat.reduceAdd, Nat.reduceSub, Nat.reduceEqDiff, Nat.reduceLeDiff, Nat.reduceBEq, Nat.reduceLT, he']
    rw [leave_plain rfl rfl, Opt_some]
    exact ⟨⟨_, rfl⟩, by unfold liveV liveR; rw [if_pos he]⟩
  obtain ⟨hc, a2, a3, a4, a5, a6, a7, a8⟩ := err_fine he
  dsimp only at hc a2 a3 a4 a5 a6 a7 a8
  have bad : outOf ⟨types, texts, funcs⟩ ⟨start, func, at_, code, size, mode, record, caller⟩ → AV.tup [.int .u64 0, .int .i64 16] = liveV ⟨types, texts, funcs⟩ ⟨start, func, at_, code, size, mode, record, caller⟩ := fun hb => by
    unfold liveV liveR; rw [if_neg (by rw [he]; decide), if_pos hb]
  simp only [go_sem, reduceIte, reduceCtorEq, Nat.reduceAdd, Nat.reduceSub, Nat.reduceEqDiff, Nat.reduceLeDiff, Nat.reduceBEq, Nat.reduceLT, he, show ((0 : Int) != 0) = false from rfl]
  by_cases b1 : func < 0
  · simp only [go_sem, reduceIte, reduceCtorEq, Nat.reduceAdd, Nat.reduceSub, Nat.reduceEqDiff, Nat.reduceLeDiff, Nat.reduceBEq, Nat.reduceLT, b1]
    rw [leave_plain rfl rfl, Opt_some]
    exact ⟨⟨_, rfl⟩, bad (.inl b1)⟩
  by_cases b2 : func ≥ funcs.length
  · simp only [go_sem, reduceIte, reduceCtorEq, Nat.reduceAdd, Nat.reduceSub, Nat.reduceEqDiff, Nat.reduceLeDiff, Nat.reduceBEq, Nat.reduceLT, b1, h2.len, b2]
    rw [leave_plain rfl rfl, Opt_some]
    exact ⟨⟨_, rfl⟩, bad (.inr (.inl b2))⟩
  by_cases b3 : at_ < 0
  · simp only [go_sem, reduceIte, reduceCtorEq, Nat.reduceAdd, Nat.reduceSub, Nat.reduceEqDiff, Nat.reduceLeDiff, Nat.reduceBEq, Nat.reduceLT, b1, h2.len, b2, b3]
    rw [leave_plain rfl rfl, Opt_some]
    exact ⟨⟨_, rfl⟩, bad (.inr (.inr (.inl b3)))⟩
  have hk : func.toNat < funcs.length := by omega
  have hat := h2.at .i64 hk
  rw [Int.toNat_of_nonneg (by omega)] at hat
  obtain ⟨u0, u1, u2, u3, e5, k0, k1, k2, k3⟩ := h2.nth hk
  have hfp := a7 _ (List.getElem_mem hk)
  have hwf := hw.funcs _ (List.getElem_mem hk)
  rw [fnAt_get hk] at e5 k0 k1 k2 k3 hfp hwf
  by_cases b4 : at_ ≥ (fnAt funcs func.toNat).code.length
  · simp only [go_sem, reduceIte, reduceCtorEq, Nat.reduceAdd, Nat.reduceSub, Nat.reduceEqDiff, Nat.reduceLeDiff, Nat.reduceBEq, Nat.reduceLT, b1, h2.len, b2, b3, hat, e5, k1.len, b4]
    rw [leave_plain rfl rfl, Opt_some]
    exact ⟨⟨_, rfl⟩, bad (.inr (.inr (.inr b4)))⟩
  obtain ⟨_, _, _, g10, g11, g12, g13⟩ := hfp
  have hsh := fine_short g13 (by omega)
  have hA := fun m => (w_tables_At _ u3 k3 ((fnAt funcs func.toNat).code.length : Nat) at_ g13 ⟨by omega, by omega⟩ ⟨by omega, by omega⟩ (by omega) m).eq
  simp only [go_sem, reduceIte, reduceCtorEq, Nat.reduceAdd, Nat.reduceSub, Nat.reduceEqDiff, Nat.reduceLeDiff, Nat.reduceBEq, Nat.reduceLT, b1, h2.len, b2, b3, hat, e5, k1.len, b4, hA]
  rw [leave_plain rfl rfl, Opt_some]
  refine ⟨⟨_, rfl⟩, ?_⟩
  unfold liveV liveR
  rw [if_neg (by rw [he]; decide), if_neg]
  rintro (h | h | h | h)
  · exact b1 h
  · exact b2 h
  · exact b3 h
  · exact b4 h

set_option maxHeartbeats 4000000 in
theorem w_ref30_Live (d : DImage) (x : AV) (hx : IsImage d x) (hw : WfImage d) (f : DFrame) (y : AV) (hy : IsFrame f y) (m : Mem) (hfl : m.floor ≤ m.stk.length + 1) : Okv tab F_wreckageref30_Live [x, y] m (liveV d f) := by
  refine okv_of t_wreckageref30_Live ?_
  obtain ⟨stk, cur, nx, live, fl⟩ := m
  dsimp only at hfl
  have hfl' : fl ≤ (stk ++ [cur]).length + 1 := by simp; omega
  have hC := fun c nz lv => (w_ref09_Check d x hx hw ⟨stk ++ [cur], c, nz, lv, fl⟩ hfl').eq
  obtain ⟨types, texts, funcs⟩ := d
  obtain ⟨v0, v1, v2, rfl, h0, h1, h2⟩ := hx
  obtain ⟨start, func, at_, code, size, mode, record, caller⟩ := f
  obtain rfl := hy
  dsimp only at h0 h1 h2
  simp only [a_wreckageref30_Live, go_sem, reduceIte, reduceCtorEq, Nat.reduceAdd, Nat.reduceSub, Nat.reduceEqDiff, Nat.reduceLeDiff, Nat.reduceBEq, Nat.reduceLT, hC]
  by_cases he : err09 ⟨types, texts, funcs⟩ = 0
  case neg =>
    have he' : (err09 ⟨types, texts, funcs⟩ != 0) = true := by simpa using he
    simp only [go_sem, reduceIte, reduceCtorEq, Nat.reduceAdd, Nat.reduceSub, Nat.reduceEqDiff, Nat.reduceLeDiff, Nat.reduceBEq, Nat.reduceLT, he']
    rw [leave_plain rfl rfl, Opt_some]
    exact ⟨⟨_, rfl⟩, by unfold liveV liveR; rw [if_pos he]⟩
  obtain ⟨hc, a2, a3, a4, a5, a6, a7, a8⟩ := err_fine he
  dsimp only at hc a2 a3 a4 a5 a6 a7 a8
  have bad : outOf ⟨types, texts, funcs⟩ ⟨start, func, at_, code, size, mode, record, caller⟩ → AV.tup [.int .u64 0, .int .i64 16] = liveV ⟨types, texts, funcs⟩ ⟨start, func, at_, code, size, mode, record, caller⟩ := fun hb => by
    unfold liveV liveR; rw [if_neg (by rw [he]; decide), if_pos hb]
  simp only [go_sem, reduceIte, reduceCtorEq, Nat.reduceAdd, Nat.reduceSub, Nat.reduceEqDiff, Nat.reduceLeDiff, Nat.reduceBEq, Nat.reduceLT, he, show ((0 : Int) != 0) = false from rfl]
  by_cases b1 : func < 0
  · simp only [go_sem, reduceIte, reduceCtorEq, Nat.reduceAdd, Nat.reduceSub, Nat.reduceEqDiff, Nat.reduceLeDiff, Nat.reduceBEq, Nat.reduceLT, b1]
    rw [leave_plain rfl rfl, Opt_some]
    exact ⟨⟨_, rfl⟩, bad (.inl b1)⟩
  by_cases b2 : func ≥ funcs.length
  · simp only [go_sem, reduceIte, reduceCtorEq, Nat.reduceAdd, Nat.reduceSub, Nat.reduceEqDiff, Nat.reduceLeDiff, Nat.reduceBEq, Nat.reduceLT, b1, h2.len, b2]
    rw [leave_plain rfl rfl, Opt_some]
    exact ⟨⟨_, rfl⟩, bad (.inr (.inl b2))⟩
  by_cases b3 : at_ < 0
  · simp only [go_sem, reduceIte, reduceCtorEq, Nat.reduceAdd, Nat.reduceSub, Nat.reduceEqDiff, Nat.reduceLeDiff, Nat.reduceBEq, Nat.reduceLT, b1, h2.len, b2, b3]
    rw [leave_plain rfl rfl, Opt_some]
    exact ⟨⟨_, rfl⟩, bad (.inr (.inr (.inl b3)))⟩
  have hk : func.toNat < funcs.length := by omega
  have hat := h2.at .i64 hk
  rw [Int.toNat_of_nonneg (by omega)] at hat
  obtain ⟨u0, u1, u2, u3, e5, k0, k1, k2, k3⟩ := h2.nth hk
  have hfp := a7 _ (List.getElem_mem hk)
  have hwf := hw.funcs _ (List.getElem_mem hk)
  rw [fnAt_get hk] at e5 k0 k1 k2 k3 hfp hwf
  by_cases b4 : at_ ≥ (fnAt funcs func.toNat).code.length
  · simp only [go_sem, reduceIte, reduceCtorEq, Nat.reduceAdd, Nat.reduceSub, Nat.reduceEqDiff, Nat.reduceLeDiff, Nat.reduceBEq, Nat.reduceLT, b1, h2.len, b2, b3, hat, e5, k1.len, b4]
    rw [leave_plain rfl rfl, Opt_some]
    exact ⟨⟨_, rfl⟩, bad (.inr (.inr (.inr b4)))⟩
  obtain ⟨_, _, _, g10, g11, g12, g13⟩ := hfp
  have hsh := fine_short g13 (by omega)
  have hA := fun m => (w_ref08_At _ u3 k3 ((fnAt funcs func.toNat).code.length : Nat) at_ g13 ⟨by omega, by omega⟩ ⟨by omega, by omega⟩ m).eq
  simp only [go_sem, reduceIte, reduceCtorEq, Nat.reduceAdd, Nat.reduceSub, Nat.reduceEqDiff, Nat.reduceLeDiff, Nat.reduceBEq, Nat.reduceLT, b1, h2.len, b2, b3, hat, e5, k1.len, b4, hA]
  rw [leave_plain rfl rfl, Opt_some]
  refine ⟨⟨_, rfl⟩, ?_⟩
  unfold liveV liveR
  rw [if_neg (by rw [he]; decide), if_neg]
  rintro (h | h | h | h)
  · exact b1 h
  · exact b2 h
  · exact b3 h
  · exact b4 h

end Go.Proofs.W

namespace Go.Proofs.W
open Go.Vs
set_option linter.unusedSimpArgs false
set_option maxRecDepth 100000

set_option maxHeartbeats 8000000 in
theorem w_WalkTells (d : DImage) (x : AV) (hx : IsImage d x) (hw : WfImage d) (a : Int) (ha : inU64 a) (l : List DFrame) (z : AV) (hz : IsSl IsFrame 8 l z) (s : Int) (f : DFrame) (y : AV) (hy : IsFrame f y) (m : Mem) (hfl : m.floor ≤ m.stk.length + 1) :
    Okv tab F_wreckagelaw30_WalkTells [x, .int .u64 a, z, .int .u64 s, y] m (.bool true) := by
  refine okv_of t_wreckagelaw30_WalkTells ?_
  obtain ⟨stk, cur, nx, live, fl⟩ := m
  dsimp only at hfl
  have hfl' : fl ≤ (stk ++ [cur]).length + 1 := by simp; omega
  unfold inU64 at ha
  have ea : a = ((a.toNat : Nat) : Int) := by omega
  have hl : a.toNat < 18446744073709551616 := by omega
  rw [ea]
  generalize a.toNat = n at *
  have hG := fun m => (w_wreckageref09_Great d x hx m).eq
  have c1 := fun c nz lv => (w_walk_Code d x hx hw n hl ⟨stk ++ [cur], c, nz, lv, fl⟩ hfl').eq
  have c2 := fun c nz lv => (w_ref30_Code d x hx hw n hl ⟨stk ++ [cur], c, nz, lv, fl⟩ hfl').eq
  have c3 := fun m => (w_walk_At l z hz s m).eq
  have c4 := fun m => (w_ref30_At l z hz s m).eq
  have c5 := fun c nz lv => (w_walk_Live d x hx hw f y hy ⟨stk ++ [cur], c, nz, lv, fl⟩ hfl').eq
  have c6 := fun c nz lv => (w_ref30_Live d x hx hw f y hy ⟨stk ++ [cur], c, nz, lv, fl⟩ hfl').eq
  unfold findV at c1 c2
  unfold atV at c3 c4
  unfold liveV at c5 c6
  obtain ⟨v0, v1, v2, rfl, _⟩ := hx
  obtain rfl := hy
  simp only [a_wreckagelaw30_WalkTells, go_sem, reduceIte, reduceCtorEq, Nat.reduceAdd, Nat.reduceSub, Nat.reduceEqDiff, Nat.reduceLeDiff, Nat.reduceBEq, Nat.reduceLT, hG]
  cases great09 d
  case true =>
    simp only [go_sem, reduceIte, reduceCtorEq, Nat.reduceAdd, Nat.reduceSub, Nat.reduceEqDiff, Nat.reduceLeDiff, Nat.reduceBEq, Nat.reduceLT]
    rw [leave_plain rfl rfl, Opt_some]
    exact ⟨⟨_, rfl⟩, rfl⟩
  by_cases h200 : (l.length : Int) > 200
  · simp only [go_sem, reduceIte, reduceCtorEq, Nat.reduceAdd, Nat.reduceSub, Nat.reduceEqDiff, Nat.reduceLeDiff, Nat.reduceBEq, Nat.reduceLT, hz.len, h200]
    rw [leave_plain rfl rfl, Opt_some]
    exact ⟨⟨_, rfl⟩, rfl⟩
  simp only [go_sem, reduceIte, reduceCtorEq, Nat.reduceAdd, Nat.reduceSub, Nat.reduceEqDiff, Nat.reduceLeDiff, Nat.reduceBEq, Nat.reduceLT, hz.len, h200, c1, c2, c3, c4, c5, c6]
  rw [leave_plain rfl rfl, Opt_some]
  exact ⟨⟨_, rfl⟩, rfl⟩

end Go.Proofs.W
