/-
  R5S23
-/
import Derived.Test.YtbbljkjdjjoapaaR5S1
import Derived.Test.YtbbljkjdjjoapaaR5S19
import Derived.Test.YtbbljkjdjjoapaaR5S18
import Derived.Test.YtbbljkjdjjoapaaR5S8
namespace Go.Proofs.W
open Go.Vs
set_option linter.unusedSimpArgs false
set_option maxRecDepth 100000

theorem blk_low {stk : List (List Blk)} {cur c : List Blk} {nx nx' fl fl' : Nat} {live live' : List (List Nat)} {lv k s : Nat} (hlv : lv ≤ stk.length) : (Mem.blk ⟨stk ++ [cur], c, nx', live', fl'⟩ lv k s) = Mem.blk ⟨stk, cur, nx, live, fl⟩ lv k s := by
  unfold Mem.blk Mem.row
  simp only
  rw [if_neg (by simp; omega)]
  by_cases e : lv = stk.length
  · subst e; simp
  · rw [if_neg (by simpa using e)]
    simp only [List.getD_eq_getElem?_getD]
    rw [List.getElem?_append_left (by omega)]

theorem row_low {stk : List (List Blk)} {cur : List Blk} {nx fl : Nat} {live : List (List Nat)} {lv k st : Nat} {cs : List AV} (hlv : lv ≤ stk.length) (h : Mem.blk ⟨stk, cur, nx, live, fl⟩ lv k st = some cs) : ((stk ++ [cur]).getD lv [])[k]? = some ⟨st, cs⟩ := by
  have := row_of_blk h
  unfold Mem.row at this
  by_cases e : lv = stk.length
  · subst e; simpa using this
  · simp only at this
    rw [if_neg (by simpa using e)] at this
    simp only [List.getD_eq_getElem?_getD] at this ⊢
    rw [List.getElem?_append_left (by omega)]; exact this

theorem w_named_1 (g : DField) (y : AV) (hy : IsField g y) (s : List UInt8) (t : Int) (m : Mem) (lv st : Nat) (hlv : lv ≤ m.stk.length) (h1 : m.blk lv 0 st = some [.str s, .int .i64 t]) : Okv tab F_image_named_1 [y, .ptr lv 0 st 0] m (.bool (g.name == s)) := by
  refine okv_of t_image_named_1 ?_
  obtain ⟨stk, cur, nx, live, fl⟩ := m
  dsimp only at hlv
  obtain rfl := hy
  have hne : (lv == (stk ++ [cur]).length) = false := by simp; omega
  have b1 := row_low hlv h1
  simp only [a_image_named_1, go_sem, reduceIte, reduceCtorEq, Nat.reduceAdd, Nat.reduceSub, Nat.reduceEqDiff, Nat.reduceLeDiff, Nat.reduceBEq, Nat.reduceLT, hne, b1, evStr]
  rw [leave_plain rfl rfl, Opt_some]
  exact ⟨⟨_, rfl⟩, rfl⟩

theorem w_IndexFunc_Field (xs : List DField) (x : AV) (hx : IsSl IsField 2 xs x) (s : List UInt8) (t : Int) (m : Mem) (lv st : Nat) (hlv : lv ≤ m.stk.length) (h1 : m.blk lv 0 st = some [.str s, .int .i64 t]) :
    Ok tab F_slices_IndexFunc_api_Field_api_Field [x, .fn (.func F_image_named_1) [] [.ptr lv 0 st 0]] m (fun r => ∃ n : Int, r = .int .i64 n ∧ decide (n ≥ 0) = xs.any (·.name == s)) := by
  refine ok_of t_slices_IndexFunc_api_Field_api_Field ?_
  obtain ⟨stk, cur, nx, live, fl⟩ := m
  dsimp only at hlv
  simp only [a_slices_IndexFunc_api_Field_api_Field, go_sem, reduceIte, reduceCtorEq, Nat.reduceAdd, Nat.reduceSub, Nat.reduceEqDiff, Nat.reduceLeDiff, Nat.reduceBEq, Nat.reduceLT, hx.len]
  refine XL_rule (α := Nat) (fun i σ => (i ≤ xs.length ∧ ∀ c ∈ xs.take i, (c.name == s) = false) ∧ ∃ nz, heads [0, 1, 7, 8] 0 σ = ⟨tmps 19 [(0, x), (1, .fn (.func F_image_named_1) [] [.ptr lv 0 st 0]), (7, .int .i64 xs.length), (8, .int .i64 i)], ⟨stk ++ [cur], [], nz, [] :: live, fl⟩⟩) (fun i => xs.length - i) 0 ?_ ?_
  · refine ⟨⟨Nat.zero_le _, by simp⟩, ?_⟩
    simp only [go_sem, reduceIte, reduceCtorEq, Nat.reduceAdd, Nat.reduceSub, Nat.reduceEqDiff, Nat.reduceLeDiff, Nat.reduceBEq, Nat.reduceLT]
    exact ⟨_, rfl⟩
  · rintro i σ ⟨⟨hi, ht⟩, nz, hσ⟩
    rw [hσ]
    clear hσ σ
    dsimp only at hi ht ⊢
    by_cases h : i < xs.length
    · have hfl : IsField xs[i] (nth x i) := hx.nth h
      have hag := hfl.agg.1
      have hcall := fun nz => (w_named_1 xs[i] (nth x i) hfl s t ⟨stk ++ [cur], [], nz, [] :: live, fl⟩ lv st (by simp; omega) (by rw [blk_low hlv]; exact h1)).eq
      simp only [go_sem, reduceIte, reduceCtorEq, Nat.reduceAdd, Nat.reduceSub, Nat.reduceEqDiff, Nat.reduceLeDiff, Nat.reduceBEq, Nat.reduceLT, Int.ofNat_lt, h, hx.at _ h, hag, hcall]
      cases hc : (xs[i].name == s)
      · simp only [go_sem, reduceIte, reduceCtorEq, Nat.reduceAdd, Nat.reduceSub, Nat.reduceEqDiff, Nat.reduceLeDiff, Nat.reduceBEq, Nat.reduceLT, hc, succ_i64 h hx.max]
        exact ⟨i + 1, by omega, ⟨h, mem_take_succ (P := fun c => (c.name == s) = false) h ht hc⟩, _, rfl⟩
      · simp only [go_sem, reduceIte, reduceCtorEq, Nat.reduceAdd, Nat.reduceSub, Nat.reduceEqDiff, Nat.reduceLeDiff, Nat.reduceBEq, Nat.reduceLT, hc]
        rw [leave_plain rfl rfl, Opt_some]
        refine ⟨⟨_, rfl⟩, _, rfl, ?_⟩
        rw [List.any_eq_true.2 ⟨_, List.getElem_mem h, hc⟩]
        simp
    · have : i = xs.length := by omega
      subst this
      rw [List.take_length] at ht
      simp only [go_sem, reduceIte, reduceCtorEq, Nat.reduceAdd, Nat.reduceSub, Nat.reduceEqDiff, Nat.reduceLeDiff, Nat.reduceBEq, Nat.reduceLT, Int.ofNat_lt, h]
      rw [leave_plain rfl rfl, Opt_some]
      refine ⟨⟨_, rfl⟩, _, rfl, ?_⟩
      rw [List.any_eq_false.2 fun c hc => by rw [ht c hc]; simp]
      rfl

theorem w_ContainsFunc_Field (xs : List DField) (x : AV) (hx : IsSl IsField 2 xs x) (s : List UInt8) (t : Int) (m : Mem) (lv st : Nat) (hlv : lv ≤ m.stk.length) (h1 : m.blk lv 0 st = some [.str s, .int .i64 t]) :
    Okv tab F_slices_ContainsFunc_api_Field_api_Field [x, .fn (.func F_image_named_1) [] [.ptr lv 0 st 0]] m (.bool (xs.any (·.name == s))) := by
  refine okv_of t_slices_ContainsFunc_api_Field_api_Field ?_
  obtain ⟨stk, cur, nx, live, fl⟩ := m
  dsimp only at hlv
  simp only [a_slices_ContainsFunc_api_Field_api_Field, go_sem, reduceIte, reduceCtorEq, Nat.reduceAdd, Nat.reduceSub, Nat.reduceEqDiff, Nat.reduceLeDiff, Nat.reduceBEq, Nat.reduceLT]
  obtain ⟨r, k, e1, n, rfl, e2⟩ := w_IndexFunc_Field xs x hx s t ⟨stk ++ [cur], [], nx, [] :: live, fl⟩ lv st (by simp; omega) (by rw [blk_low hlv]; exact h1)
  simp only [go_sem, reduceIte, reduceCtorEq, Nat.reduceAdd, Nat.reduceSub, Nat.reduceEqDiff, Nat.reduceLeDiff, Nat.reduceBEq, Nat.reduceLT, e1, e2]
  rw [leave_plain rfl rfl, Opt_some]
  exact ⟨⟨_, rfl⟩, rfl⟩

theorem IsSl.upto {α : Type} {R : α → AV → Prop} {s : Nat} {xs : List α} {y : AV} (h : IsSl R s xs y) {i : Nat} (hi : i < xs.length) : ∃ y', evSlice s y none (some (.int .i64 i)) none = some y' ∧ IsSl R s (xs.take i) y' := by
  rcases h with ⟨hm, ⟨rfl, rfl⟩ | ⟨tk, ys, rfl, h⟩⟩
  · simp at hi
  · have hl := h.len
    have hb : bound (some (.int .i64 (i : Int))) ys.length ys.length = some i := by
      unfold bound; simp only; rw [if_pos (by omega)]; rfl
    have e : evSlice s (.list s tk ys) none (some (.int .i64 i)) none = some (.list s (if i == ys.length && (0 == 0 || decide (0 < ys.length)) then tk else .none) ((ys.take i).drop 0)) := by
      unfold evSlice
      simp only [beq_self_eq_true, if_true]
      rw [hb, Option.bind_some, show bound none i 0 = some 0 from rfl]
      simp
    refine ⟨_, e, ?_⟩
    rw [List.drop_zero]
    exact .mk (h.take i) (by rw [List.length_take]; omega)

/-- Fields with names that are different, without a limit. -/
def NamesP (l : List DField) : Prop := (∀ f ∈ l, named f.name = true) ∧ (l.map DField.name).Nodup

set_option maxHeartbeats 2000000 in
theorem w_image_named (xs : List DField) (x : AV) (hx : IsSl IsField 2 xs x) (m : Mem) : Okv tab F_image_named [x] m (.bool (pb (NamesP xs))) := by
  refine okv_of t_image_named ?_
  obtain ⟨stk, cur, nx, live, fl⟩ := m
  simp only [a_image_named, go_sem, reduceIte, reduceCtorEq, Nat.reduceAdd, Nat.reduceSub, Nat.reduceEqDiff, Nat.reduceLeDiff, Nat.reduceBEq, Nat.reduceLT, hx.len]
  have hml : (xs.map DField.name).length = xs.length := by simp
  refine XL_rule (α := Nat) (fun i σ => (i ≤ xs.length ∧ (∀ c ∈ xs.take i, named c.name = true) ∧ ((xs.map DField.name).take i).Nodup) ∧ ∃ nz, heads [0, 5, 6, 7] 0 σ = ⟨tmps 24 [(0, x), (5, x), (6, .int .i64 xs.length), (7, .int .i64 i)], ⟨stk ++ [cur], [], nz, [] :: live, fl⟩⟩) (fun i => xs.length - i) 0 ?_ ?_
  · refine ⟨⟨Nat.zero_le _, by simp, by simp⟩, ?_⟩
    simp only [go_sem, reduceIte, reduceCtorEq, Nat.reduceAdd, Nat.reduceSub, Nat.reduceEqDiff, Nat.reduceLeDiff, Nat.reduceBEq, Nat.reduceLT]
    exact ⟨_, rfl⟩
  · rintro i σ ⟨⟨hi, ht, hd⟩, nz, hσ⟩
    rw [hσ]
    clear hσ σ
    dsimp only at hi ht hd ⊢
    by_cases h : i < xs.length
    · have e1 : nth x i = .agg [.str xs[i].name, .int .i64 xs[i].typ] := hx.nth h
      obtain ⟨y, hy, hys⟩ := IsSl.upto hx h
      simp only [go_sem, reduceIte, reduceCtorEq, Nat.reduceAdd, Nat.reduceSub, Nat.reduceEqDiff, Nat.reduceLeDiff, Nat.reduceBEq, Nat.reduceLT, Int.ofNat_lt, h, hx.at _ h, e1, (w_kinds_Named _ _).eq]
      cases hc : named xs[i].name
      · simp only [go_sem, reduceIte, reduceCtorEq, Nat.reduceAdd, Nat.reduceSub, Nat.reduceEqDiff, Nat.reduceLeDiff, Nat.reduceBEq, Nat.reduceLT]
        rw [leave_plain rfl rfl, Opt_some]
        exact ⟨⟨_, rfl⟩, by rw [pb_false fun h' => by have := h'.1 _ (List.getElem_mem h); rw [hc] at this; cases this]⟩
      · have hcall := fun nz' => (w_ContainsFunc_Field (xs.take i) y hys xs[i].name xs[i].typ ⟨stk ++ [cur], [⟨nz, [.str xs[i].name, .int .i64 xs[i].typ]⟩], nz', [] :: live, fl⟩ (stk ++ [cur]).length nz (Nat.le_refl _) (by simp [Mem.blk, Mem.row])).eq
        simp only [go_sem, reduceIte, reduceCtorEq, Nat.reduceAdd, Nat.reduceSub, Nat.reduceEqDiff, Nat.reduceLeDiff, Nat.reduceBEq, Nat.reduceLT, hy, hcall]
        cases ha : (xs.take i).any (·.name == xs[i].name)
        · simp only [go_sem, reduceIte, reduceCtorEq, Nat.reduceAdd, Nat.reduceSub, Nat.reduceEqDiff, Nat.reduceLeDiff, Nat.reduceBEq, Nat.reduceLT, succ_i64 h hx.max]
          refine ⟨i + 1, by omega, ⟨h, mem_take_succ (P := fun c => named c.name = true) h ht hc, ?_⟩, _, rfl⟩
          refine nodup_take (by rw [hml]; exact h) hd fun z hz => ?_
          rw [← List.map_take, List.mem_map] at hz
          obtain ⟨f, hf, rfl⟩ := hz
          have := List.any_eq_false.1 ha f hf
          simpa using this
        · simp only [go_sem, reduceIte, reduceCtorEq, Nat.reduceAdd, Nat.reduceSub, Nat.reduceEqDiff, Nat.reduceLeDiff, Nat.reduceBEq, Nat.reduceLT]
          rw [leave_plain rfl rfl, Opt_some]
          refine ⟨⟨_, rfl⟩, congrArg AV.bool (pb_false fun h' => ?_).symm⟩
          obtain ⟨f, hf, he⟩ := List.any_eq_true.1 ha
          obtain ⟨j, hj, rfl⟩ := List.mem_take_iff_getElem.1 hf
          exact not_nodup (l := xs.map DField.name) (i := i) (k := j) (by omega) (by rw [hml]; exact h) (by simpa using he) h'.2
    · have : i = xs.length := by omega
      subst this
      rw [List.take_length] at ht
      rw [← hml, List.take_length] at hd
      simp only [go_sem, reduceIte, reduceCtorEq, Nat.reduceAdd, Nat.reduceSub, Nat.reduceEqDiff, Nat.reduceLeDiff, Nat.reduceBEq, Nat.reduceLT, Int.ofNat_lt, h]
      rw [leave_plain rfl rfl, Opt_some]
      exact ⟨⟨_, rfl⟩, by rw [pb_true ⟨ht, hd⟩]⟩

end Go.Proofs.W

namespace Go.Proofs.W
open Go.Vs
set_option linter.unusedSimpArgs false
set_option maxRecDepth 100000

def HeadP (n : Nat) (f : DFunc) : Prop := named f.name = true ∧ (f.slots.length : Int) ≤ 16 ∧ NamesP f.slots ∧ 0 ≤ f.params ∧ f.params ≤ f.slots.length ∧ -1 ≤ f.result ∧ f.result < n
/-- A function is valid for n types. -/
def FuncP (n : Nat) (f : DFunc) : Prop := HeadP n f ∧ (∀ s ∈ f.slots, 0 ≤ s.typ ∧ s.typ < n) ∧ (∀ x ∈ f.code, InstrP x) ∧ 1 ≤ f.code.length ∧ f.code.length ≤ 200 ∧ FineR f.sizes f.code.length ∧ FineR f.lives f.code.length

theorem fields_names {l : List DField} {k : Int} : FieldsP l k ↔ (l.length : Int) ≤ k ∧ NamesP l := Iff.rfl

theorem err08_ok {l : List DRun} {n : Int} : (err08 l n == 0) = pb (1 ≤ n ∧ n ≤ 200 ∧ FineR l n) := by
  unfold err08
  refine pb_eq ?_
  by_cases h : n < 1 ∨ n > 200
  · rw [if_pos h]; simp; omega
  · rw [if_neg h]
    cases hp : pb (FineR l n)
    · have := pb_niff.1 hp
      simp [this]
    · have := pb_iff.1 hp
      simp [this]; omega

theorem wfI_of {x : DInstr} (h : WfInstr x) : WfI x := ⟨h.a, h.b, h.c⟩

set_option maxHeartbeats 8000000 in
theorem w_image_function (l : List DTyp) (x : AV) (hx : IsSl IsTyp 4 l x) (f : DFunc) (y : AV) (hy : IsFunc f y) (hw : WfFunc f) (m : Mem) (hfl : m.floor ≤ m.stk.length + 1) : Okv tab F_image_function [x, y] m (.bool (pb (FuncP l.length f))) := by
  refine okv_of t_image_function ?_
  obtain ⟨stk, cur, nx, live, fl⟩ := m
  dsimp only at hfl
  have hfl' : fl ≤ (stk ++ [cur]).length + 1 := by simp; omega
  have hlx := hx.len
  obtain ⟨name, params, result, slots, code, sizes, lives⟩ := f
  obtain ⟨w0, w1, w2, w3, rfl, q0, q1, q2, q3⟩ := hy
  dsimp only at q0 q1 q2 q3
  generalize l.length = n at *
  have hN := fun m => (w_kinds_Named name m).eq
  have hI := fun m => (w_image_named slots w0 q0 m).eq
  have hl0 := q0.len
  simp only [a_image_function, go_sem, reduceIte, reduceCtorEq, Nat.reduceAdd, Nat.reduceSub, Nat.reduceEqDiff, Nat.reduceLeDiff, Nat.reduceBEq, Nat.reduceLT, hN]
  by_cases hA : HeadP n ⟨name, params, result, slots, code, sizes, lives⟩
  · obtain ⟨a1, a2, a3, a4, a5, a6, a7⟩ := hA
    have hA : HeadP n ⟨name, params, result, slots, code, sizes, lives⟩ := ⟨a1, a2, a3, a4, a5, a6, a7⟩
    dsimp only at a1 a2 a3 a4 a5 a6 a7
    simp only [go_sem, reduceIte, reduceCtorEq, Nat.reduceAdd, Nat.reduceSub, Nat.reduceEqDiff, Nat.reduceLeDiff, Nat.reduceBEq, Nat.reduceLT, a1, hl0, show ¬ (slots.length : Int) > 16 by omega, hI, pb_true a3, show ¬ params < 0 by omega, show ¬ params > slots.length by omega, show ¬ result < -1 by omega, hlx, show ¬ result ≥ n by omega]
    refine XL_rule (α := Nat) (fun i σ => (i ≤ slots.length ∧ ∀ s ∈ slots.take i, 0 ≤ s.typ ∧ s.typ < n) ∧ ∃ nz, heads [0, 3, 51, 52, 53] 1 σ = ⟨tmps 95 [(0, x), (3, .ptr (stk ++ [cur]).length 0 nx 0), (51, w0), (52, .int .i64 slots.length), (53, .int .i64 i)], ⟨stk ++ [cur], [⟨nx, [.str name, .int .i64 params, .int .i64 result, w0, w1, w2, w3]⟩], nz, [] :: live, fl⟩⟩) (fun i => slots.length - i) 0 ?_ ?_
    · refine ⟨⟨Nat.zero_le _, by simp⟩, ?_⟩
      simp only [go_sem, reduceIte, reduceCtorEq, Nat.reduceAdd, Nat.reduceSub, Nat.reduceEqDiff, Nat.reduceLeDiff, Nat.reduceBEq, Nat.reduceLT]
      exact ⟨_, rfl⟩
    · rintro i σ ⟨⟨hi, ht⟩, nz, hσ⟩
      rw [hσ]
      clear hσ σ
      dsimp only at hi ht ⊢
      by_cases h : i < slots.length
      · have e1 : nth w0 i = .agg [.str slots[i].name, .int .i64 slots[i].typ] := q0.nth h
        have hat := q0.at .i64 h
        have hsucc := succ_i64 h q0.max
        have hlen0 := q0.len
        by_cases hf : 0 ≤ slots[i].typ ∧ slots[i].typ < n
        · simp only [go_sem, reduceIte, reduceCtorEq, Nat.reduceAdd, Nat.reduceSub, Nat.reduceEqDiff, Nat.reduceLeDiff, Nat.reduceBEq, Nat.reduceLT, Int.ofNat_lt, h, hlen0, hat, e1, show ¬ slots[i].typ < 0 by omega, hlx, show ¬ slots[i].typ ≥ n by omega, hsucc]
          exact ⟨i + 1, by omega, ⟨h, mem_take_succ (P := fun s => 0 ≤ s.typ ∧ s.typ < n) h ht hf⟩, _, rfl⟩
        · simp only [go_sem, reduceIte, reduceCtorEq, Nat.reduceAdd, Nat.reduceSub, Nat.reduceEqDiff, Nat.reduceLeDiff, Nat.reduceBEq, Nat.reduceLT, Int.ofNat_lt, h, hlen0, hat, e1]
          repeat' ((first | refine Xc_by (fun hq => ?_) (fun hq => ?_) | refine Xgt_by (fun hq => ?_) (fun hq => ?_) | refine Xgf_by (fun hq => ?_) (fun hq => ?_) | refine Xut_by (fun hq => ?_) (fun hq => ?_) | refine Xuf_by (fun hq => ?_) (fun hq => ?_)) <;> simp only [go_sem, reduceIte, reduceCtorEq, Nat.reduceAdd, Nat.reduceSub, Nat.reduceEqDiff, Nat.reduceLeDiff, Nat.reduceBEq, Nat.reduceLT, hq, hat, e1, hlx])
          all_goals first
            | (rw [leave_plain rfl rfl, Opt_some]; exact ⟨⟨_, rfl⟩, congrArg AV.bool (pb_false fun h' => hf (h'.2.1 _ (List.getElem_mem h))).symm⟩)
            | (exfalso; simp only [decide_eq_true_eq, decide_eq_false_iff_not] at *; omega)
      · have : i = slots.length := by omega
        subst this
        rw [List.take_length] at ht
        simp only [go_sem, reduceIte, reduceCtorEq, Nat.reduceAdd, Nat.reduceSub, Nat.reduceEqDiff, Nat.reduceLeDiff, Nat.reduceBEq, Nat.reduceLT, Int.ofNat_lt, h, q0.len, q1.len]
        refine XL_rule (α := Nat) (fun i σ => (i ≤ code.length ∧ ∀ s ∈ code.take i, InstrP s) ∧ ∃ nz, heads [3, 69, 70, 71] 1 σ = ⟨tmps 95 [(3, .ptr (stk ++ [cur]).length 0 nx 0), (69, w1), (70, .int .i64 code.length), (71, .int .i64 i)], ⟨stk ++ [cur], [⟨nx, [.str name, .int .i64 params, .int .i64 result, w0, w1, w2, w3]⟩], nz, [] :: live, fl⟩⟩) (fun i => code.length - i) 0 ?_ ?_
        · refine ⟨⟨Nat.zero_le _, by simp⟩, ?_⟩
          simp only [go_sem, reduceIte, reduceCtorEq, Nat.reduceAdd, Nat.reduceSub, Nat.reduceEqDiff, Nat.reduceLeDiff, Nat.reduceBEq, Nat.reduceLT]
          exact ⟨_, rfl⟩
        · rintro i σ ⟨⟨hi, hc⟩, nz, hσ⟩
          rw [hσ]
          clear hσ σ
          dsimp only at hi hc ⊢
          by_cases h : i < code.length
          · have e1 : nth w1 i = .agg [.int .u8 code[i].op, .int .i64 code[i].a, .int .i64 code[i].b, .int .i64 code[i].c] := q1.nth h
            have hat := q1.at .i64 h
            have hsucc := succ_i64 h q1.max
            have hwi := wfI_of (hw.code _ (List.getElem_mem h))
            have hchk := fun c nz => (w_ops_Check code[i] ⟨stk ++ [cur], c, nz, [] :: live, fl⟩ hfl').eq
            by_cases hf : InstrP code[i]
            · rw [err06_ok hf] at hchk
              simp only [go_sem, reduceIte, reduceCtorEq, Nat.reduceAdd, Nat.reduceSub, Nat.reduceEqDiff, Nat.reduceLeDiff, Nat.reduceBEq, Nat.reduceLT, Int.ofNat_lt, h, q1.len, hat, e1, hchk, show ((0 : Int) != 0) = false from rfl, hsucc]
              exact ⟨i + 1, by omega, ⟨h, mem_take_succ (P := fun s => InstrP s) h hc hf⟩, _, rfl⟩
            · rw [err06_bad hf] at hchk
              simp only [go_sem, reduceIte, reduceCtorEq, Nat.reduceAdd, Nat.reduceSub, Nat.reduceEqDiff, Nat.reduceLeDiff, Nat.reduceBEq, Nat.reduceLT, Int.ofNat_lt, h, q1.len, hat, e1, hchk, show ((8 : Int) != 0) = true from rfl]
              rw [leave_plain rfl rfl, Opt_some]
              exact ⟨⟨_, rfl⟩, congrArg AV.bool (pb_false fun h' => hf (h'.2.2.1 _ (List.getElem_mem h))).symm⟩
          · have : i = code.length := by omega
            subst this
            rw [List.take_length] at hc
            have hT2 := fun m => (w_tables_Check sizes w2 q2 code.length m).eq
            have hT3 := fun m => (w_tables_Check lives w3 q3 code.length m).eq
            simp only [go_sem, reduceIte, reduceCtorEq, Nat.reduceAdd, Nat.reduceSub, Nat.reduceEqDiff, Nat.reduceLeDiff, Nat.reduceBEq, Nat.reduceLT, Int.ofNat_lt, h, q1.len, hT2, err08_ok]
            repeat' ((first | refine Xc_by (fun hq => ?_) (fun hq => ?_) | refine Xgt_by (fun hq => ?_) (fun hq => ?_) | refine Xgf_by (fun hq => ?_) (fun hq => ?_) | refine Xut_by (fun hq => ?_) (fun hq => ?_) | refine Xuf_by (fun hq => ?_) (fun hq => ?_)) <;> simp only [go_sem, reduceIte, reduceCtorEq, Nat.reduceAdd, Nat.reduceSub, Nat.reduceEqDiff, Nat.reduceLeDiff, Nat.reduceBEq, Nat.reduceLT, hq, q1.len, hT3, err08_ok])
            all_goals
              rw [leave_plain rfl rfl, Opt_some]
              refine ⟨⟨_, rfl⟩, congrArg AV.bool (pb_eq ?_)⟩
              simp only [pb_iff, pb_niff] at *
              unfold FuncP
              dsimp only
              clear hT2 hT3
              grind
  · repeat' ((first | refine Xc_by (fun hq => ?_) (fun hq => ?_) | refine Xgt_by (fun hq => ?_) (fun hq => ?_) | refine Xgf_by (fun hq => ?_) (fun hq => ?_) | refine Xut_by (fun hq => ?_) (fun hq => ?_) | refine Xuf_by (fun hq => ?_) (fun hq => ?_)) <;> simp only [go_sem, reduceIte, reduceCtorEq, Nat.reduceAdd, Nat.reduceSub, Nat.reduceEqDiff, Nat.reduceLeDiff, Nat.reduceBEq, Nat.reduceLT, hq, hl0, hI, hlx])
    all_goals first
      | (rw [leave_plain rfl rfl, Opt_some]; exact ⟨⟨_, rfl⟩, congrArg AV.bool (pb_false fun h' => hA h'.1).symm⟩)
      | (exfalso; apply hA; unfold HeadP; simp only [decide_eq_true_eq, decide_eq_false_iff_not, pb_iff, pb_niff, Bool.not_eq_true', Bool.not_eq_false'] at *; clear hN hI; grind)

set_option maxHeartbeats 8000000 in
theorem w_ref09_function (l : List DTyp) (x : AV) (hx : IsSl IsTyp 4 l x) (f : DFunc) (y : AV) (hy : IsFunc f y) (hw : WfFunc f) (m : Mem) : Okv tab F_wreckageref09_function [x, y] m (.bool (pb (FuncP l.length f))) := by
  refine okv_of t_wreckageref09_function ?_
  obtain ⟨stk, cur, nx, live, fl⟩ := m
  have hlx := hx.len
  obtain ⟨name, params, result, slots, code, sizes, lives⟩ := f
  obtain ⟨w0, w1, w2, w3, rfl, q0, q1, q2, q3⟩ := hy
  dsimp only at q0 q1 q2 q3
  generalize l.length = n at *
  have hN := fun m => (w_wreckageref04_Named name hw.name m).eq
  have hI := fun m => (w_wreckageref04_Fields slots 16 w0 q0 (fun f hf => (hw.slots f hf).name) m).eq
  have hl0 := q0.len
  have hl1 := q1.len
  simp only [a_wreckageref09_function, go_sem, reduceIte, reduceCtorEq, Nat.reduceAdd, Nat.reduceSub, Nat.reduceEqDiff, Nat.reduceLeDiff, Nat.reduceBEq, Nat.reduceLT, hN]
  by_cases hA : HeadP n ⟨name, params, result, slots, code, sizes, lives⟩ ∧ 1 ≤ code.length ∧ code.length ≤ 200
  · obtain ⟨⟨a1, a2, a3, a4, a5, a6, a7⟩, a8, a9⟩ := hA
    have hA : HeadP n ⟨name, params, result, slots, code, sizes, lives⟩ := ⟨a1, a2, a3, a4, a5, a6, a7⟩
    dsimp only at a1 a2 a3 a4 a5 a6 a7
    have hfp : FieldsP slots 16 := ⟨a2, a3⟩
    simp only [go_sem, reduceIte, reduceCtorEq, Nat.reduceAdd, Nat.reduceSub, Nat.reduceEqDiff, Nat.reduceLeDiff, Nat.reduceBEq, Nat.reduceLT, a1, hI, pb_true hfp, show ¬ params < 0 by omega, hl0, show ¬ params > slots.length by omega, show ¬ result < -1 by omega, hlx, show ¬ result ≥ n by omega, hl1, show ¬ (code.length : Int) < 1 by omega, show ¬ (code.length : Int) > 200 by omega]
    refine XL_rule (α := Nat) (fun i σ => (i ≤ slots.length ∧ ∀ s ∈ slots.take i, 0 ≤ s.typ ∧ s.typ < n) ∧ ∃ nz, heads [0, 3, 5] 1 σ = ⟨tmps 107 [(0, x), (3, .ptr (stk ++ [cur]).length 0 nx 0), (5, .int .i64 i)], ⟨stk ++ [cur], [⟨nx, [.str name, .int .i64 params, .int .i64 result, w0, w1, w2, w3]⟩], nz, [] :: live, fl⟩⟩) (fun i => slots.length - i) 0 ?_ ?_
    · refine ⟨⟨Nat.zero_le _, by simp⟩, ?_⟩
      simp only [go_sem, reduceIte, reduceCtorEq, Nat.reduceAdd, Nat.reduceSub, Nat.reduceEqDiff, Nat.reduceLeDiff, Nat.reduceBEq, Nat.reduceLT]
      exact ⟨_, rfl⟩
    · rintro i σ ⟨⟨hi, ht⟩, nz, hσ⟩
      rw [hσ]
      clear hσ σ
      dsimp only at hi ht ⊢
      by_cases h : i < slots.length
      · have e1 : nth w0 i = .agg [.str slots[i].name, .int .i64 slots[i].typ] := q0.nth h
        have hat := q0.at .i64 h
        have hsucc := succ_i64 h q0.max
        have hlen0 := q0.len
        by_cases hf : 0 ≤ slots[i].typ ∧ slots[i].typ < n
        · simp only [go_sem, reduceIte, reduceCtorEq, Nat.reduceAdd, Nat.reduceSub, Nat.reduceEqDiff, Nat.reduceLeDiff, Nat.reduceBEq, Nat.reduceLT, Int.ofNat_lt, h, hlen0, hat, e1, show ¬ slots[i].typ < 0 by omega, hlx, show ¬ slots[i].typ ≥ n by omega, hsucc]
          exact ⟨i + 1, by omega, ⟨h, mem_take_succ (P := fun s => 0 ≤ s.typ ∧ s.typ < n) h ht hf⟩, _, rfl⟩
        · simp only [go_sem, reduceIte, reduceCtorEq, Nat.reduceAdd, Nat.reduceSub, Nat.reduceEqDiff, Nat.reduceLeDiff, Nat.reduceBEq, Nat.reduceLT, Int.ofNat_lt, h, hlen0, hat, e1]
          repeat' ((first | refine Xc_by (fun hq => ?_) (fun hq => ?_) | refine Xgt_by (fun hq => ?_) (fun hq => ?_) | refine Xgf_by (fun hq => ?_) (fun hq => ?_) | refine Xut_by (fun hq => ?_) (fun hq => ?_) | refine Xuf_by (fun hq => ?_) (fun hq => ?_)) <;> simp only [go_sem, reduceIte, reduceCtorEq, Nat.reduceAdd, Nat.reduceSub, Nat.reduceEqDiff, Nat.reduceLeDiff, Nat.reduceBEq, Nat.reduceLT, hq, hat, e1, hlx])
          all_goals first
            | (rw [leave_plain rfl rfl, Opt_some]; exact ⟨⟨_, rfl⟩, congrArg AV.bool (pb_false fun h' => hf (h'.2.1 _ (List.getElem_mem h))).symm⟩)
            | (exfalso; simp only [decide_eq_true_eq, decide_eq_false_iff_not] at *; omega)
      · have : i = slots.length := by omega
        subst this
        rw [List.take_length] at ht
        simp only [go_sem, reduceIte, reduceCtorEq, Nat.reduceAdd, Nat.reduceSub, Nat.reduceEqDiff, Nat.reduceLeDiff, Nat.reduceBEq, Nat.reduceLT, Int.ofNat_lt, h, q0.len, q1.len]
        refine XL_rule (α := Nat) (fun i σ => (i ≤ code.length ∧ ∀ s ∈ code.take i, InstrP s) ∧ ∃ nz, heads [3, 6] 1 σ = ⟨tmps 107 [(3, .ptr (stk ++ [cur]).length 0 nx 0), (6, .int .i64 i)], ⟨stk ++ [cur], [⟨nx, [.str name, .int .i64 params, .int .i64 result, w0, w1, w2, w3]⟩], nz, [] :: live, fl⟩⟩) (fun i => code.length - i) 0 ?_ ?_
        · refine ⟨⟨Nat.zero_le _, by simp⟩, ?_⟩
          simp only [go_sem, reduceIte, reduceCtorEq, Nat.reduceAdd, Nat.reduceSub, Nat.reduceEqDiff, Nat.reduceLeDiff, Nat.reduceBEq, Nat.reduceLT]
          exact ⟨_, rfl⟩
        · rintro i σ ⟨⟨hi, hc⟩, nz, hσ⟩
          rw [hσ]
          clear hσ σ
          dsimp only at hi hc ⊢
          by_cases h : i < code.length
          · have e1 : nth w1 i = .agg [.int .u8 code[i].op, .int .i64 code[i].a, .int .i64 code[i].b, .int .i64 code[i].c] := q1.nth h
            have hat := q1.at .i64 h
            have hsucc := succ_i64 h q1.max
            have hwi := wfI_of (hw.code _ (List.getElem_mem h))
            have hchk := fun m => (w_ref06_Check code[i] hwi m).eq
            by_cases hf : InstrP code[i]
            · rw [err06_ok hf] at hchk
              simp only [go_sem, reduceIte, reduceCtorEq, Nat.reduceAdd, Nat.reduceSub, Nat.reduceEqDiff, Nat.reduceLeDiff, Nat.reduceBEq, Nat.reduceLT, Int.ofNat_lt, h, q1.len, hat, e1, hchk, show ((0 : Int) != 0) = false from rfl, hsucc]
              exact ⟨i + 1, by omega, ⟨h, mem_take_succ (P := fun s => InstrP s) h hc hf⟩, _, rfl⟩
            · rw [err06_bad hf] at hchk
              simp only [go_sem, reduceIte, reduceCtorEq, Nat.reduceAdd, Nat.reduceSub, Nat.reduceEqDiff, Nat.reduceLeDiff, Nat.reduceBEq, Nat.reduceLT, Int.ofNat_lt, h, q1.len, hat, e1, hchk, show ((8 : Int) != 0) = true from rfl]
              rw [leave_plain rfl rfl, Opt_some]
              exact ⟨⟨_, rfl⟩, congrArg AV.bool (pb_false fun h' => hf (h'.2.2.1 _ (List.getElem_mem h))).symm⟩
          · have : i = code.length := by omega
            subst this
            rw [List.take_length] at hc
            have hT2 := fun m => (w_ref08_Fine sizes w2 q2 code.length m).eq
            have hT3 := fun m => (w_ref08_Fine lives w3 q3 code.length m).eq
            simp only [go_sem, reduceIte, reduceCtorEq, Nat.reduceAdd, Nat.reduceSub, Nat.reduceEqDiff, Nat.reduceLeDiff, Nat.reduceBEq, Nat.reduceLT, Int.ofNat_lt, h, q1.len, hT2]
            repeat' ((first | refine Xc_by (fun hq => ?_) (fun hq => ?_) | refine Xgt_by (fun hq => ?_) (fun hq => ?_) | refine Xgf_by (fun hq => ?_) (fun hq => ?_) | refine Xut_by (fun hq => ?_) (fun hq => ?_) | refine Xuf_by (fun hq => ?_) (fun hq => ?_)) <;> simp only [go_sem, reduceIte, reduceCtorEq, Nat.reduceAdd, Nat.reduceSub, Nat.reduceEqDiff, Nat.reduceLeDiff, Nat.reduceBEq, Nat.reduceLT, hq, q1.len, hT3])
            all_goals
              rw [leave_plain rfl rfl, Opt_some]
              refine ⟨⟨_, rfl⟩, congrArg AV.bool (pb_eq ?_)⟩
              simp only [pb_iff, pb_niff] at *
              unfold FuncP
              dsimp only
              clear hT2 hT3
              grind
  · repeat' ((first | refine Xc_by (fun hq => ?_) (fun hq => ?_) | refine Xgt_by (fun hq => ?_) (fun hq => ?_) | refine Xgf_by (fun hq => ?_) (fun hq => ?_) | refine Xut_by (fun hq => ?_) (fun hq => ?_) | refine Xuf_by (fun hq => ?_) (fun hq => ?_)) <;> simp only [go_sem, reduceIte, reduceCtorEq, Nat.reduceAdd, Nat.reduceSub, Nat.reduceEqDiff, Nat.reduceLeDiff, Nat.reduceBEq, Nat.reduceLT, hq, hl0, hI, hlx, hl1])
    all_goals first
      | (rw [leave_plain rfl rfl, Opt_some]; exact ⟨⟨_, rfl⟩, congrArg AV.bool (pb_false fun h' => hA ⟨h'.1, h'.2.2.2.1, h'.2.2.2.2.1⟩).symm⟩)
      | (exfalso; apply hA; unfold HeadP; simp only [decide_eq_true_eq, decide_eq_false_iff_not, pb_iff, pb_niff, fields_names, Bool.not_eq_true', Bool.not_eq_false'] at *; clear hN hI; grind)

end Go.Proofs.W

namespace Go.Proofs.W
open Go.Vs
set_option linter.unusedSimpArgs false
set_option maxRecDepth 100000

/-- An image is valid, but for its bytes. -/
def FineI (m : DImage) : Prop := CheckP m.types ∧ m.texts.length ≤ 32 ∧ 1 ≤ m.funcs.length ∧ m.funcs.length ≤ 32 ∧ FitsP m.types ∧ (∀ t ∈ m.texts, t.length ≤ 64) ∧ (∀ f ∈ m.funcs, FuncP m.types.length f) ∧ (m.funcs.map DFunc.name).Nodup

set_option maxHeartbeats 8000000 in
theorem w_image_fine (d : DImage) (x : AV) (hx : IsImage d x) (hw : WfImage d) (m : Mem) (hfl : m.floor ≤ m.stk.length + 1) : Okv tab F_image_fine [x] m (.bool (pb (FineI d))) := by
  refine okv_of t_image_fine ?_
  obtain ⟨stk, cur, nx, live, fl⟩ := m
  dsimp only at hfl
  have hfl' : fl ≤ (stk ++ [cur]).length + 1 := by simp; omega
  obtain ⟨types, texts, funcs⟩ := d
  obtain ⟨v0, v1, v2, rfl, h0, h1, h2⟩ := hx
  dsimp only at h0 h1 h2
  have hwt : WfTypes types := hw.types
  have hC := fun m => (w_kinds_Check types v0 h0 hwt m).eq
  have hl0 := h0.len
  have hl1 := h1.len
  have hl2 := h2.len
  simp only [a_image_fine, go_sem, reduceIte, reduceCtorEq, Nat.reduceAdd, Nat.reduceSub, Nat.reduceEqDiff, Nat.reduceLeDiff, Nat.reduceBEq, Nat.reduceLT, hC]
  by_cases hc : CheckP types
  case neg =>
    simp only [go_sem, reduceIte, reduceCtorEq, Nat.reduceAdd, Nat.reduceSub, Nat.reduceEqDiff, Nat.reduceLeDiff, Nat.reduceBEq, Nat.reduceLT, err_bad hc, show ((8 : Int) != 0) = true from rfl]
    rw [leave_plain rfl rfl, Opt_some]
    exact ⟨⟨_, rfl⟩, congrArg AV.bool (pb_false fun h' => hc h'.1).symm⟩
  simp only [go_sem, reduceIte, reduceCtorEq, Nat.reduceAdd, Nat.reduceSub, Nat.reduceEqDiff, Nat.reduceLeDiff, Nat.reduceBEq, Nat.reduceLT, err_ok hc, show ((0 : Int) != 0) = false from rfl, hl1]
  by_cases a2 : texts.length ≤ 32
  case neg =>
    simp only [go_sem, reduceIte, reduceCtorEq, Nat.reduceAdd, Nat.reduceSub, Nat.reduceEqDiff, Nat.reduceLeDiff, Nat.reduceBEq, Nat.reduceLT, show (texts.length : Int) > 32 by omega]
    rw [leave_plain rfl rfl, Opt_some]
    exact ⟨⟨_, rfl⟩, congrArg AV.bool (pb_false fun h' => a2 h'.2.1).symm⟩
  simp only [go_sem, reduceIte, reduceCtorEq, Nat.reduceAdd, Nat.reduceSub, Nat.reduceEqDiff, Nat.reduceLeDiff, Nat.reduceBEq, Nat.reduceLT, show ¬ (texts.length : Int) > 32 by omega, hl2]
  by_cases a3 : 1 ≤ funcs.length
  case neg =>
    simp only [go_sem, reduceIte, reduceCtorEq, Nat.reduceAdd, Nat.reduceSub, Nat.reduceEqDiff, Nat.reduceLeDiff, Nat.reduceBEq, Nat.reduceLT, show ((funcs.length : Int) == 0) = true from beq_iff_eq.2 (by omega)]
    rw [leave_plain rfl rfl, Opt_some]
    exact ⟨⟨_, rfl⟩, congrArg AV.bool (pb_false fun h' => a3 h'.2.2.1).symm⟩
  simp only [go_sem, reduceIte, reduceCtorEq, Nat.reduceAdd, Nat.reduceSub, Nat.reduceEqDiff, Nat.reduceLeDiff, Nat.reduceBEq, Nat.reduceLT, show ((funcs.length : Int) == 0) = false from beq_eq_false_iff_ne.2 (by omega), hl2]
  by_cases a4 : funcs.length ≤ 32
  case neg =>
    simp only [go_sem, reduceIte, reduceCtorEq, Nat.reduceAdd, Nat.reduceSub, Nat.reduceEqDiff, Nat.reduceLeDiff, Nat.reduceBEq, Nat.reduceLT, show (funcs.length : Int) > 32 by omega]
    rw [leave_plain rfl rfl, Opt_some]
    exact ⟨⟨_, rfl⟩, congrArg AV.bool (pb_false fun h' => a4 h'.2.2.2.1).symm⟩
  simp only [go_sem, reduceIte, reduceCtorEq, Nat.reduceAdd, Nat.reduceSub, Nat.reduceEqDiff, Nat.reduceLeDiff, Nat.reduceBEq, Nat.reduceLT, show ¬ (funcs.length : Int) > 32 by omega, hl0]
  refine XL_rule (α := Nat) (fun i σ => (i ≤ types.length ∧ ∀ j, j < i → ((exts 1000000 types).getD j (0, 0)).1 ≤ 256) ∧ ∃ nz, heads [1, 36, 37] 1 σ = ⟨tmps 85 [(1, .ptr (stk ++ [cur]).length 0 nx 0), (36, .int .i64 types.length), (37, .int .i64 i)], ⟨stk ++ [cur], [⟨nx, [v0, v1, v2]⟩], nz, [] :: live, fl⟩⟩) (fun i => types.length - i) 0 ?_ ?_
  · refine ⟨⟨Nat.zero_le _, fun j h => absurd h (Nat.not_lt_zero _)⟩, ?_⟩
    simp only [go_sem, reduceIte, reduceCtorEq, Nat.reduceAdd, Nat.reduceSub, Nat.reduceEqDiff, Nat.reduceLeDiff, Nat.reduceBEq, Nat.reduceLT]
    exact ⟨_, rfl⟩
  · rintro i σ ⟨⟨hi, hs⟩, nz, hσ⟩
    rw [hσ]
    clear hσ σ
    dsimp only at hi hs ⊢
    by_cases h : i < types.length
    · obtain ⟨ra, rb, hS⟩ := w_layout_Size types v0 h0 hwt hc i h ⟨stk ++ [cur], [⟨nx, [v0, v1, v2]⟩], nz, [] :: live, fl⟩
      have hsucc := succ_i64 h h0.max
      by_cases hz : ((exts 1000000 types).getD i (0, 0)).1 ≤ 256
      · have hse : sizeErr types i = 0 := by unfold sizeErr; rw [if_pos ((fits_iff hc.2.1 i).2 hz)]
        rw [hse] at hS
        simp only [go_sem, reduceIte, reduceCtorEq, Nat.reduceAdd, Nat.reduceSub, Nat.reduceEqDiff, Nat.reduceLeDiff, Nat.reduceBEq, Nat.reduceLT, Int.ofNat_lt, h, hS.eq, show ((0 : Int) != 0) = false from rfl, hsucc]
        refine ⟨i + 1, by omega, ⟨h, fun j hj => ?_⟩, _, rfl⟩
        rcases Nat.lt_succ_iff_lt_or_eq.1 hj with q | q
        · exact hs j q
        · exact q ▸ hz
      · have hse : sizeErr types i = 16 := by unfold sizeErr; rw [if_neg fun e => hz ((fits_iff hc.2.1 i).1 e)]
        rw [hse] at hS
        simp only [go_sem, reduceIte, reduceCtorEq, Nat.reduceAdd, Nat.reduceSub, Nat.reduceEqDiff, Nat.reduceLeDiff, Nat.reduceBEq, Nat.reduceLT, Int.ofNat_lt, h, hS.eq, show ((16 : Int) != 0) = true from rfl]
        rw [leave_plain rfl rfl, Opt_some]
        exact ⟨⟨_, rfl⟩, congrArg AV.bool (pb_false fun h' => hz (h'.2.2.2.2.1 i h)).symm⟩
    · have : i = types.length := by omega
      subst this
      have hfit : FitsP types := hs
      simp only [go_sem, reduceIte, reduceCtorEq, Nat.reduceAdd, Nat.reduceSub, Nat.reduceEqDiff, Nat.reduceLeDiff, Nat.reduceBEq, Nat.reduceLT, Int.ofNat_lt, h, h1.len]
      refine XL_rule (α := Nat) (fun i σ => (i ≤ texts.length ∧ ∀ t ∈ texts.take i, t.length ≤ 64) ∧ ∃ nz, heads [1, 52, 53, 54] 1 σ = ⟨tmps 85 [(1, .ptr (stk ++ [cur]).length 0 nx 0), (52, v1), (53, .int .i64 texts.length), (54, .int .i64 i)], ⟨stk ++ [cur], [⟨nx, [v0, v1, v2]⟩], nz, [] :: live, fl⟩⟩) (fun i => texts.length - i) 0 ?_ ?_
      · refine ⟨⟨Nat.zero_le _, by simp⟩, ?_⟩
        simp only [go_sem, reduceIte, reduceCtorEq, Nat.reduceAdd, Nat.reduceSub, Nat.reduceEqDiff, Nat.reduceLeDiff, Nat.reduceBEq, Nat.reduceLT]
        exact ⟨_, rfl⟩
      · rintro i σ ⟨⟨hi, ht⟩, nz, hσ⟩
        rw [hσ]
        clear hσ σ
        dsimp only at hi ht ⊢
        by_cases h : i < texts.length
        · have e1 : nth v1 i = .str texts[i] := h1.nth h
          have hat := h1.at .i64 h
          have hsucc := succ_i64 h h1.max
          have hl1 := h1.len
          by_cases hf : texts[i].length ≤ 64
          · simp only [go_sem, reduceIte, reduceCtorEq, Nat.reduceAdd, Nat.reduceSub, Nat.reduceEqDiff, Nat.reduceLeDiff, Nat.reduceBEq, Nat.reduceLT, Int.ofNat_lt, h, hl1, hat, e1, show ¬ (texts[i].length : Int) > 64 by omega, hsucc]
            exact ⟨i + 1, by omega, ⟨h, mem_take_succ (P := fun t => t.length ≤ 64) h ht hf⟩, _, rfl⟩
          · simp only [go_sem, reduceIte, reduceCtorEq, Nat.reduceAdd, Nat.reduceSub, Nat.reduceEqDiff, Nat.reduceLeDiff, Nat.reduceBEq, Nat.reduceLT, Int.ofNat_lt, h, hl1, hat, e1, show (texts[i].length : Int) > 64 by omega]
            rw [leave_plain rfl rfl, Opt_some]
            exact ⟨⟨_, rfl⟩, congrArg AV.bool (pb_false fun h' => hf (h'.2.2.2.2.2.1 _ (List.getElem_mem h))).symm⟩
        · have : i = texts.length := by omega
          subst this
          rw [List.take_length] at ht
          simp only [go_sem, reduceIte, reduceCtorEq, Nat.reduceAdd, Nat.reduceSub, Nat.reduceEqDiff, Nat.reduceLeDiff, Nat.reduceBEq, Nat.reduceLT, Int.ofNat_lt, h, h2.len]
          refine XL_rule (α := Nat) (fun i σ => (i ≤ funcs.length ∧ (∀ f ∈ funcs.take i, FuncP types.length f) ∧ ((funcs.map DFunc.name).take i).Nodup) ∧ ∃ nz', heads [1, 9, 64, 65, 66] 2 σ = ⟨tmps 85 [(1, .ptr (stk ++ [cur]).length 0 nx 0), (9, .mapR (stk ++ [cur]).length 1 nz), (64, v2), (65, .int .i64 funcs.length), (66, .int .i64 i)], ⟨stk ++ [cur], [⟨nx, [v0, v1, v2]⟩, ⟨nz, [.tup (ents ((funcs.map DFunc.name).take i))]⟩], nz', [] :: live, fl⟩⟩) (fun i => funcs.length - i) 0 ?_ ?_
          · refine ⟨⟨Nat.zero_le _, by simp, by simp⟩, ?_⟩
            simp only [go_sem, reduceIte, reduceCtorEq, Nat.reduceAdd, Nat.reduceSub, Nat.reduceEqDiff, Nat.reduceLeDiff, Nat.reduceBEq, Nat.reduceLT]
            exact ⟨_, rfl⟩
          · rintro i σ ⟨⟨hi, hfs, hnd⟩, nz', hσ⟩
            rw [hσ]
            clear hσ σ
            dsimp only at hi hfs hnd ⊢
            have hml : (funcs.map DFunc.name).length = funcs.length := by simp
            by_cases h : i < funcs.length
            · have hfn : IsFunc funcs[i] (nth v2 i) := h2.nth h
              obtain ⟨u0, u1, u2, u3, e1, k0, k1, k2, k3⟩ := hfn
              have hfn : IsFunc funcs[i] (nth v2 i) := h2.nth h
              rw [e1] at hfn
              have hat := h2.at .i64 h
              have hsucc := succ_i64 h h2.max
              simp only [go_sem, reduceIte, reduceCtorEq, Nat.reduceAdd, Nat.reduceSub, Nat.reduceEqDiff, Nat.reduceLeDiff, Nat.reduceBEq, Nat.reduceLT, Int.ofNat_lt, h, hat, e1, k0.one, k1.one, k2.one, k3.one, mapGet_names]
              by_cases hs : funcs[i].name ∈ (funcs.map DFunc.name).take i
              · simp only [go_sem, reduceIte, reduceCtorEq, Nat.reduceAdd, Nat.reduceSub, Nat.reduceEqDiff, Nat.reduceLeDiff, Nat.reduceBEq, Nat.reduceLT, pb_true hs]
                rw [leave_plain rfl rfl, Opt_some]
                refine ⟨⟨_, rfl⟩, congrArg AV.bool (pb_false fun h' => ?_).symm⟩
                obtain ⟨j, hj, he⟩ := List.mem_take_iff_getElem.1 hs
                exact not_nodup (l := funcs.map DFunc.name) (i := i) (k := j) (by omega) (by rw [hml]; exact h) (by rw [he]; simp) h'.2.2.2.2.2.2.2
              have hcall := fun c nz => (w_image_function types v0 h0 funcs[i] _ hfn (hw.funcs _ (List.getElem_mem h)) ⟨stk ++ [cur], c, nz, [] :: live, fl⟩ hfl').eq
              simp only [go_sem, reduceIte, reduceCtorEq, Nat.reduceAdd, Nat.reduceSub, Nat.reduceEqDiff, Nat.reduceLeDiff, Nat.reduceBEq, Nat.reduceLT, pb_false hs, hcall]
              by_cases hf : FuncP types.length funcs[i]
              case neg =>
                simp only [go_sem, reduceIte, reduceCtorEq, Nat.reduceAdd, Nat.reduceSub, Nat.reduceEqDiff, Nat.reduceLeDiff, Nat.reduceBEq, Nat.reduceLT, pb_false hf]
                rw [leave_plain rfl rfl, Opt_some]
                exact ⟨⟨_, rfl⟩, congrArg AV.bool (pb_false fun h' => hf (h'.2.2.2.2.2.2.1 _ (List.getElem_mem h))).symm⟩
              simp only [go_sem, reduceIte, reduceCtorEq, Nat.reduceAdd, Nat.reduceSub, Nat.reduceEqDiff, Nat.reduceLeDiff, Nat.reduceBEq, Nat.reduceLT, pb_true hf, mapPut_names _ _ hs, hsucc]
              have htk := take_succ_map DFunc.name h
              rw [← htk]
              refine ⟨i + 1, by omega, ⟨h, mem_take_succ (P := fun f => FuncP types.length f) h hfs hf, ?_⟩, _, rfl⟩
              exact nodup_take (by rw [hml]; exact h) hnd (fun y hy e => hs (by rw [List.getElem_map] at e; exact e ▸ hy))
            · have : i = funcs.length := by omega
              subst this
              rw [List.take_length] at hfs
              rw [← hml, List.take_length] at hnd
              simp only [go_sem, reduceIte, reduceCtorEq, Nat.reduceAdd, Nat.reduceSub, Nat.reduceEqDiff, Nat.reduceLeDiff, Nat.reduceBEq, Nat.reduceLT, Int.ofNat_lt, h]
              rw [leave_plain rfl rfl, Opt_some]
              exact ⟨⟨_, rfl⟩, by rw [pb_true ⟨hc, a2, a3, a4, hfit, ht, hfs, hnd⟩]⟩

end Go.Proofs.W

namespace Go.Proofs.W
open Go.Vs
set_option linter.unusedSimpArgs false
set_option maxRecDepth 100000

set_option maxHeartbeats 8000000 in
theorem w_ref09_Fine (d : DImage) (x : AV) (hx : IsImage d x) (hw : WfImage d) (m : Mem) (hfl : m.floor ≤ m.stk.length + 1) : Okv tab F_wreckageref09_Fine [x] m (.bool (pb (FineI d))) := by
  refine okv_of t_wreckageref09_Fine ?_
  obtain ⟨stk, cur, nx, live, fl⟩ := m
  dsimp only at hfl
  have hfl' : fl ≤ (stk ++ [cur]).length + 1 := by simp; omega
  obtain ⟨types, texts, funcs⟩ := d
  obtain ⟨v0, v1, v2, rfl, h0, h1, h2⟩ := hx
  dsimp only at h0 h1 h2
  have hwt : WfTypes types := hw.types
  have hC := fun m => (w_wreckageref04_Check types v0 h0 hwt m).eq
  have hl0 := h0.len
  have hl1 := h1.len
  have hl2 := h2.len
  simp only [a_wreckageref09_Fine, go_sem, reduceIte, reduceCtorEq, Nat.reduceAdd, Nat.reduceSub, Nat.reduceEqDiff, Nat.reduceLeDiff, Nat.reduceBEq, Nat.reduceLT, hC]
  by_cases hc : CheckP types
  case neg =>
    simp only [go_sem, reduceIte, reduceCtorEq, Nat.reduceAdd, Nat.reduceSub, Nat.reduceEqDiff, Nat.reduceLeDiff, Nat.reduceBEq, Nat.reduceLT, err_bad hc, show ((8 : Int) != 0) = true from rfl]
    rw [leave_plain rfl rfl, Opt_some]
    exact ⟨⟨_, rfl⟩, congrArg AV.bool (pb_false fun h' => hc h'.1).symm⟩
  simp only [go_sem, reduceIte, reduceCtorEq, Nat.reduceAdd, Nat.reduceSub, Nat.reduceEqDiff, Nat.reduceLeDiff, Nat.reduceBEq, Nat.reduceLT, err_ok hc, show ((0 : Int) != 0) = false from rfl, hl1]
  by_cases a2 : texts.length ≤ 32
  case neg =>
    simp only [go_sem, reduceIte, reduceCtorEq, Nat.reduceAdd, Nat.reduceSub, Nat.reduceEqDiff, Nat.reduceLeDiff, Nat.reduceBEq, Nat.reduceLT, show (texts.length : Int) > 32 by omega]
    rw [leave_plain rfl rfl, Opt_some]
    exact ⟨⟨_, rfl⟩, congrArg AV.bool (pb_false fun h' => a2 h'.2.1).symm⟩
  simp only [go_sem, reduceIte, reduceCtorEq, Nat.reduceAdd, Nat.reduceSub, Nat.reduceEqDiff, Nat.reduceLeDiff, Nat.reduceBEq, Nat.reduceLT, show ¬ (texts.length : Int) > 32 by omega, hl2]
  by_cases a3 : 1 ≤ funcs.length
  case neg =>
    simp only [go_sem, reduceIte, reduceCtorEq, Nat.reduceAdd, Nat.reduceSub, Nat.reduceEqDiff, Nat.reduceLeDiff, Nat.reduceBEq, Nat.reduceLT, show (funcs.length : Int) < 1 by omega]
    rw [leave_plain rfl rfl, Opt_some]
    exact ⟨⟨_, rfl⟩, congrArg AV.bool (pb_false fun h' => a3 h'.2.2.1).symm⟩
  simp only [go_sem, reduceIte, reduceCtorEq, Nat.reduceAdd, Nat.reduceSub, Nat.reduceEqDiff, Nat.reduceLeDiff, Nat.reduceBEq, Nat.reduceLT, show ¬ (funcs.length : Int) < 1 by omega, hl2]
  by_cases a4 : funcs.length ≤ 32
  case neg =>
    simp only [go_sem, reduceIte, reduceCtorEq, Nat.reduceAdd, Nat.reduceSub, Nat.reduceEqDiff, Nat.reduceLeDiff, Nat.reduceBEq, Nat.reduceLT, show (funcs.length : Int) > 32 by omega]
    rw [leave_plain rfl rfl, Opt_some]
    exact ⟨⟨_, rfl⟩, congrArg AV.bool (pb_false fun h' => a4 h'.2.2.2.1).symm⟩
  have hel : (szs (exts 1000000 types)).length = types.length := by
    have := exts_len 1000000 types types.length (Nat.le_refl _)
    rw [List.take_length] at this; simpa [szs] using this
  have hel' : (exts 1000000 types).length = types.length := by simpa [szs] using hel
  have hcl := hc.1
  obtain ⟨y1, y2, ts, kz, hS, ho1, ho2⟩ := w_Sizes types v0 h0 hc.2.1 (by omega) ⟨stk ++ [cur], [⟨nx, [v0, v1, v2]⟩], callNx tab F_wreckageref04_Check [v0] ⟨stk ++ [cur], [⟨nx, [v0, v1, v2]⟩], nx + 1, [] :: live, fl⟩, [] :: live, fl⟩ hfl'
  simp only [go_sem, reduceIte, reduceCtorEq, Nat.reduceAdd, Nat.reduceSub, Nat.reduceEqDiff, Nat.reduceLeDiff, Nat.reduceBEq, Nat.reduceLT, show ¬ (funcs.length : Int) > 32 by omega, hS]
  refine XL_rule (α := Nat) (fun i σ => (i ≤ types.length ∧ ∀ j, j < i → ((exts 1000000 types).getD j (0, 0)).1 ≤ 256) ∧ ∃ nz, heads [1, 3, 5] 1 σ = ⟨tmps 96 [(1, .ptr (stk ++ [cur]).length 0 nx 0), (3, y1), (5, .int .i64 i)], ⟨stk ++ [cur], [⟨nx, [v0, v1, v2]⟩], nz, ts :: live, fl⟩⟩) (fun i => types.length - i) 0 ?_ ?_
  · refine ⟨⟨Nat.zero_le _, fun j h => absurd h (Nat.not_lt_zero _)⟩, ?_⟩
    simp only [go_sem, reduceIte, reduceCtorEq, Nat.reduceAdd, Nat.reduceSub, Nat.reduceEqDiff, Nat.reduceLeDiff, Nat.reduceBEq, Nat.reduceLT]
    exact ⟨_, rfl⟩
  · rintro i σ ⟨⟨hi, hs⟩, nz, hσ⟩
    rw [hσ]
    clear hσ σ
    dsimp only at hi hs ⊢
    by_cases h : i < types.length
    · have hi1 : i < (szs (exts 1000000 types)).length := by rw [hel]; exact h
      have e1 : nth y1 i = .int .i64 ((szs (exts 1000000 types))[i] : Nat) := ho1.nth hi1
      rw [szs_get (by omega)] at e1
      have hat := ho1.at .i64 hi1
      have hsucc := succ_i64 h h0.max
      by_cases hz : ((exts 1000000 types).getD i (0, 0)).1 ≤ 256
      · simp only [go_sem, reduceIte, reduceCtorEq, Nat.reduceAdd, Nat.reduceSub, Nat.reduceEqDiff, Nat.reduceLeDiff, Nat.reduceBEq, Nat.reduceLT, Int.ofNat_lt, h, ho1.len, hel, hat, e1, show ¬ ((((exts 1000000 types).getD i (0, 0)).1 : Nat) : Int) > 256 by omega, hsucc]
        refine ⟨i + 1, by omega, ⟨h, fun j hj => ?_⟩, _, rfl⟩
        rcases Nat.lt_succ_iff_lt_or_eq.1 hj with q | q
        · exact hs j q
        · exact q ▸ hz
      · simp only [go_sem, reduceIte, reduceCtorEq, Nat.reduceAdd, Nat.reduceSub, Nat.reduceEqDiff, Nat.reduceLeDiff, Nat.reduceBEq, Nat.reduceLT, Int.ofNat_lt, h, ho1.len, hel, hat, e1, show ((((exts 1000000 types).getD i (0, 0)).1 : Nat) : Int) > 256 by omega]
        rw [leave_plain rfl rfl, Opt_some]
        exact ⟨⟨_, rfl⟩, congrArg AV.bool (pb_false fun h' => hz (h'.2.2.2.2.1 i h)).symm⟩
    · have : i = types.length := by omega
      subst this
      have hfit : FitsP types := hs
      simp only [go_sem, reduceIte, reduceCtorEq, Nat.reduceAdd, Nat.reduceSub, Nat.reduceEqDiff, Nat.reduceLeDiff, Nat.reduceBEq, Nat.reduceLT, Int.ofNat_lt, h, ho1.len, hel]
      refine XL_rule (α := Nat) (fun i σ => (i ≤ texts.length ∧ ∀ t ∈ texts.take i, t.length ≤ 64) ∧ ∃ nz, heads [1, 6] 1 σ = ⟨tmps 96 [(1, .ptr (stk ++ [cur]).length 0 nx 0), (6, .int .i64 i)], ⟨stk ++ [cur], [⟨nx, [v0, v1, v2]⟩], nz, ts :: live, fl⟩⟩) (fun i => texts.length - i) 0 ?_ ?_
      · refine ⟨⟨Nat.zero_le _, by simp⟩, ?_⟩
        simp only [go_sem, reduceIte, reduceCtorEq, Nat.reduceAdd, Nat.reduceSub, Nat.reduceEqDiff, Nat.reduceLeDiff, Nat.reduceBEq, Nat.reduceLT]
        exact ⟨_, rfl⟩
      · rintro i σ ⟨⟨hi, ht⟩, nz, hσ⟩
        rw [hσ]
        clear hσ σ
        dsimp only at hi ht ⊢
        by_cases h : i < texts.length
        · have e1 : nth v1 i = .str texts[i] := h1.nth h
          have hat := h1.at .i64 h
          have hsucc := succ_i64 h h1.max
          have hl1 := h1.len
          by_cases hf : texts[i].length ≤ 64
          · simp only [go_sem, reduceIte, reduceCtorEq, Nat.reduceAdd, Nat.reduceSub, Nat.reduceEqDiff, Nat.reduceLeDiff, Nat.reduceBEq, Nat.reduceLT, Int.ofNat_lt, h, hl1, hat, e1, show ¬ (texts[i].length : Int) > 64 by omega, hsucc]
            exact ⟨i + 1, by omega, ⟨h, mem_take_succ (P := fun t => t.length ≤ 64) h ht hf⟩, _, rfl⟩
          · simp only [go_sem, reduceIte, reduceCtorEq, Nat.reduceAdd, Nat.reduceSub, Nat.reduceEqDiff, Nat.reduceLeDiff, Nat.reduceBEq, Nat.reduceLT, Int.ofNat_lt, h, hl1, hat, e1, show (texts[i].length : Int) > 64 by omega]
            rw [leave_plain rfl rfl, Opt_some]
            exact ⟨⟨_, rfl⟩, congrArg AV.bool (pb_false fun h' => hf (h'.2.2.2.2.2.1 _ (List.getElem_mem h))).symm⟩
        · have : i = texts.length := by omega
          subst this
          rw [List.take_length] at ht
          simp only [go_sem, reduceIte, reduceCtorEq, Nat.reduceAdd, Nat.reduceSub, Nat.reduceEqDiff, Nat.reduceLeDiff, Nat.reduceBEq, Nat.reduceLT, Int.ofNat_lt, h, h1.len]
          refine XL_rule (α := Nat) (fun i σ => (i ≤ funcs.length ∧ (∀ f ∈ funcs.take i, FuncP types.length f) ∧ ((funcs.map DFunc.name).take i).Nodup) ∧ ∃ nz', heads [1, 7] 1 σ = ⟨tmps 96 [(1, .ptr (stk ++ [cur]).length 0 nx 0), (7, .int .i64 i)], ⟨stk ++ [cur], [⟨nx, [v0, v1, v2]⟩], nz', ts :: live, fl⟩⟩) (fun i => funcs.length - i) 0 ?_ ?_
          · refine ⟨⟨Nat.zero_le _, by simp, by simp⟩, ?_⟩
            simp only [go_sem, reduceIte, reduceCtorEq, Nat.reduceAdd, Nat.reduceSub, Nat.reduceEqDiff, Nat.reduceLeDiff, Nat.reduceBEq, Nat.reduceLT]
            exact ⟨_, rfl⟩
          · rintro i σ ⟨⟨hi, hfs, hnd⟩, nz', hσ⟩
            rw [hσ]
            clear hσ σ
            dsimp only at hi hfs hnd ⊢
            have hml : (funcs.map DFunc.name).length = funcs.length := by simp
            by_cases h : i < funcs.length
            · have hfn : IsFunc funcs[i] (nth v2 i) := h2.nth h
              have hag := hfn.agg.1
              have hat := h2.at .i64 h
              have hsucc := succ_i64 h h2.max
              have hcall := fun m => (w_ref09_function types v0 h0 funcs[i] _ hfn (hw.funcs _ (List.getElem_mem h)) m).eq
              simp only [go_sem, reduceIte, reduceCtorEq, Nat.reduceAdd, Nat.reduceSub, Nat.reduceEqDiff, Nat.reduceLeDiff, Nat.reduceBEq, Nat.reduceLT, Int.ofNat_lt, h, h2.len, hat, hag, hcall]
              by_cases hf : FuncP types.length funcs[i]
              case neg =>
                simp only [go_sem, reduceIte, reduceCtorEq, Nat.reduceAdd, Nat.reduceSub, Nat.reduceEqDiff, Nat.reduceLeDiff, Nat.reduceBEq, Nat.reduceLT, pb_false hf]
                rw [leave_plain rfl rfl, Opt_some]
                exact ⟨⟨_, rfl⟩, congrArg AV.bool (pb_false fun h' => hf (h'.2.2.2.2.2.2.1 _ (List.getElem_mem h))).symm⟩
              simp only [go_sem, reduceIte, reduceCtorEq, Nat.reduceAdd, Nat.reduceSub, Nat.reduceEqDiff, Nat.reduceLeDiff, Nat.reduceBEq, Nat.reduceLT, pb_true hf]
              refine XL_rule (α := Nat) (fun k σ => (k ≤ i ∧ ∀ c ∈ (funcs.map DFunc.name).take k, c ≠ funcs[i].name) ∧ ∃ nz', heads [1, 7, 8] 1 σ = ⟨tmps 96 [(1, .ptr (stk ++ [cur]).length 0 nx 0), (7, .int .i64 i), (8, .int .i64 k)], ⟨stk ++ [cur], [⟨nx, [v0, v1, v2]⟩], nz', ts :: live, fl⟩⟩) (fun k => i - k) 0 ?_ ?_
              · refine ⟨⟨Nat.zero_le _, by simp⟩, ?_⟩
                simp only [go_sem, reduceIte, reduceCtorEq, Nat.reduceAdd, Nat.reduceSub, Nat.reduceEqDiff, Nat.reduceLeDiff, Nat.reduceBEq, Nat.reduceLT]
                exact ⟨_, rfl⟩
              · rintro k σ ⟨⟨hk, hks⟩, nz', hσ⟩
                rw [hσ]
                clear hσ σ
                dsimp only at hk hks ⊢
                by_cases hki : k < i
                · have hkl : k < funcs.length := by omega
                  obtain ⟨x0, x1, x2, x3, e1, _⟩ := h2.nth h
                  obtain ⟨y0, y1, y2, y3, e2, _⟩ := h2.nth hkl
                  have hat2 := h2.at .i64 hkl
                  simp only [go_sem, reduceIte, reduceCtorEq, Nat.reduceAdd, Nat.reduceSub, Nat.reduceEqDiff, Nat.reduceLeDiff, Nat.reduceBEq, Nat.reduceLT, Int.ofNat_lt, hki, hat2, e2, hat, e1, evStr]
                  by_cases hq : funcs[k].name = funcs[i].name
                  · have hq' : (funcs[k].name == funcs[i].name) = true := by simp [hq]
                    simp only [go_sem, reduceIte, reduceCtorEq, Nat.reduceAdd, Nat.reduceSub, Nat.reduceEqDiff, Nat.reduceLeDiff, Nat.reduceBEq, Nat.reduceLT, hq']
                    rw [leave_plain rfl rfl, Opt_some]
                    exact ⟨⟨_, rfl⟩, congrArg AV.bool (pb_false fun h' => not_nodup (l := funcs.map DFunc.name) hki (by rw [hml]; exact h) (by simpa using hq) h'.2.2.2.2.2.2.2).symm⟩
                  · have hq' : (funcs[k].name == funcs[i].name) = false := by simpa using hq
                    simp only [go_sem, reduceIte, reduceCtorEq, Nat.reduceAdd, Nat.reduceSub, Nat.reduceEqDiff, Nat.reduceLeDiff, Nat.reduceBEq, Nat.reduceLT, hq', succ_i64 hkl h2.max]
                    exact ⟨k + 1, by omega, ⟨hki, mem_take_succ (P := fun c => c ≠ funcs[i].name) (by rw [hml]; exact hkl) hks (by simpa using hq)⟩, _, rfl⟩
                · have : k = i := by omega
                  subst this
                  simp only [go_sem, reduceIte, reduceCtorEq, Nat.reduceAdd, Nat.reduceSub, Nat.reduceEqDiff, Nat.reduceLeDiff, Nat.reduceBEq, Nat.reduceLT, Int.ofNat_lt, hki, hsucc]
                  refine ⟨k + 1, by omega, ⟨h, mem_take_succ (P := fun f => FuncP types.length f) h hfs hf, ?_⟩, _, rfl⟩
                  exact nodup_take (by rw [hml]; exact h) hnd (by simpa using hks)
            · have : i = funcs.length := by omega
              subst this
              rw [List.take_length] at hfs
              rw [← hml, List.take_length] at hnd
              simp only [go_sem, reduceIte, reduceCtorEq, Nat.reduceAdd, Nat.reduceSub, Nat.reduceEqDiff, Nat.reduceLeDiff, Nat.reduceBEq, Nat.reduceLT, Int.ofNat_lt, h, h2.len]
              rw [leave_plain rfl rfl, Opt_some]
              exact ⟨⟨_, rfl⟩, by rw [pb_true ⟨hc, a2, a3, a4, hfit, ht, hfs, hnd⟩]⟩

end Go.Proofs.W
