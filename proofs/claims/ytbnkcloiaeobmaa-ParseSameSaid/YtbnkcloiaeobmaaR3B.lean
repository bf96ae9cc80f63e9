/-
  R3B
-/
import Derived.Test.YtbnkcloiaeobmaaR3A
namespace Go.Proofs.W
open Go.Vs
set_option linter.unusedSimpArgs false
set_option maxRecDepth 100000

theorem w_parse_sameType (a b : DTyp) (x y : AV) (hx : IsTyp a x) (hy : IsTyp b y) (m : Mem) : Okv tab F_parse_sameType [x, y] m (.bool (decide (a = b))) := by
  refine okv_of t_parse_sameType ?_
  obtain ⟨stk, cur, nx, live, fl⟩ := m
  obtain ⟨a_kind, a_elem, a_len, a_fields⟩ := a
  obtain ⟨b_kind, b_elem, b_len, b_fields⟩ := b
  obtain ⟨x_fields, rfl, hx_fields⟩ := hx
  obtain ⟨y_fields, rfl, hy_fields⟩ := hy
  dsimp only at hx_fields hy_fields
  simp only [a_parse_sameType, go_sem, reduceIte, reduceCtorEq, Nat.reduceAdd, Nat.reduceSub, Nat.reduceEqDiff, Nat.reduceLeDiff, Nat.reduceBEq, Nat.reduceLT, evStr, DTyp.mk.injEq]
  by_cases h_kind : a_kind = b_kind
  case neg =>
    have e : (a_kind == b_kind) = false := by simp [h_kind]
    simp only [go_sem, reduceIte, reduceCtorEq, Nat.reduceAdd, Nat.reduceSub, Nat.reduceEqDiff, Nat.reduceLeDiff, Nat.reduceBEq, Nat.reduceLT, e]
    rw [leave_plain rfl rfl, Opt_some]
    exact ⟨⟨_, rfl⟩, by simp [h_kind]⟩
  subst h_kind
  simp only [go_sem, reduceIte, reduceCtorEq, Nat.reduceAdd, Nat.reduceSub, Nat.reduceEqDiff, Nat.reduceLeDiff, Nat.reduceBEq, Nat.reduceLT, beq_self_eq_true]
  by_cases h_elem : a_elem = b_elem
  case neg =>
    have e : (a_elem == b_elem) = false := by simp [h_elem]
    simp only [go_sem, reduceIte, reduceCtorEq, Nat.reduceAdd, Nat.reduceSub, Nat.reduceEqDiff, Nat.reduceLeDiff, Nat.reduceBEq, Nat.reduceLT, e]
    rw [leave_plain rfl rfl, Opt_some]
    exact ⟨⟨_, rfl⟩, by simp [h_elem]⟩
  subst h_elem
  simp only [go_sem, reduceIte, reduceCtorEq, Nat.reduceAdd, Nat.reduceSub, Nat.reduceEqDiff, Nat.reduceLeDiff, Nat.reduceBEq, Nat.reduceLT, beq_self_eq_true]
  by_cases h_len : a_len = b_len
  case neg =>
    have e : (a_len == b_len) = false := by simp [h_len]
    simp only [go_sem, reduceIte, reduceCtorEq, Nat.reduceAdd, Nat.reduceSub, Nat.reduceEqDiff, Nat.reduceLeDiff, Nat.reduceBEq, Nat.reduceLT, e]
    rw [leave_plain rfl rfl, Opt_some]
    exact ⟨⟨_, rfl⟩, by simp [h_len]⟩
  subst h_len
  simp only [go_sem, reduceIte, reduceCtorEq, Nat.reduceAdd, Nat.reduceSub, Nat.reduceEqDiff, Nat.reduceLeDiff, Nat.reduceBEq, Nat.reduceLT, beq_self_eq_true]
  obtain ⟨k_fields, c_fields⟩ := Okv.all (w_slices_Equal_api_Field_api_Field _ _ _ _ hx_fields hy_fields)
  simp only [c_fields]
  by_cases h_fields : a_fields = b_fields
  case neg =>
    simp only [go_sem, reduceIte, reduceCtorEq, Nat.reduceAdd, Nat.reduceSub, Nat.reduceEqDiff, Nat.reduceLeDiff, Nat.reduceBEq, Nat.reduceLT, h_fields]
    rw [leave_plain rfl rfl, Opt_some]
    exact ⟨⟨_, rfl⟩, by simp [h_fields]⟩
  subst h_fields
  simp only [go_sem, reduceIte, reduceCtorEq, Nat.reduceAdd, Nat.reduceSub, Nat.reduceEqDiff, Nat.reduceLeDiff, Nat.reduceBEq, Nat.reduceLT, beq_self_eq_true]
  rw [leave_plain rfl rfl, Opt_some]
  exact ⟨⟨_, rfl⟩, by simp⟩

theorem w_parse_sameFunc (a b : DFunc) (x y : AV) (hx : IsFunc a x) (hy : IsFunc b y) (m : Mem) : Okv tab F_parse_sameFunc [x, y] m (.bool (decide (a = b))) := by
  refine okv_of t_parse_sameFunc ?_
  obtain ⟨stk, cur, nx, live, fl⟩ := m
  obtain ⟨a_name, a_params, a_result, a_slots, a_code, a_sizes, a_lives⟩ := a
  obtain ⟨b_name, b_params, b_result, b_slots, b_code, b_sizes, b_lives⟩ := b
  obtain ⟨x_slots, x_code, x_sizes, x_lives, rfl, hx_slots, hx_code, hx_sizes, hx_lives⟩ := hx
  obtain ⟨y_slots, y_code, y_sizes, y_lives, rfl, hy_slots, hy_code, hy_sizes, hy_lives⟩ := hy
  dsimp only at hx_slots hy_slots hx_code hy_code hx_sizes hy_sizes hx_lives hy_lives
  simp only [a_parse_sameFunc, go_sem, reduceIte, reduceCtorEq, Nat.reduceAdd, Nat.reduceSub, Nat.reduceEqDiff, Nat.reduceLeDiff, Nat.reduceBEq, Nat.reduceLT, evStr, DFunc.mk.injEq]
  by_cases h_name : a_name = b_name
  case neg =>
    have e : (a_name == b_name) = false := by simp [h_name]
    simp only [go_sem, reduceIte, reduceCtorEq, Nat.reduceAdd, Nat.reduceSub, Nat.reduceEqDiff, Nat.reduceLeDiff, Nat.reduceBEq, Nat.reduceLT, e]
    rw [leave_plain rfl rfl, Opt_some]
    exact ⟨⟨_, rfl⟩, by simp [h_name]⟩
  subst h_name
  simp only [go_sem, reduceIte, reduceCtorEq, Nat.reduceAdd, Nat.reduceSub, Nat.reduceEqDiff, Nat.reduceLeDiff, Nat.reduceBEq, Nat.reduceLT, beq_self_eq_true]
  by_cases h_params : a_params = b_params
  case neg =>
    have e : (a_params == b_params) = false := by simp [h_params]
    simp only [go_sem, reduceIte, reduceCtorEq, Nat.reduceAdd, Nat.reduceSub, Nat.reduceEqDiff, Nat.reduceLeDiff, Nat.reduceBEq, Nat.reduceLT, e]
    rw [leave_plain rfl rfl, Opt_some]
    exact ⟨⟨_, rfl⟩, by simp [h_params]⟩
  subst h_params
  simp only [go_sem, reduceIte, reduceCtorEq, Nat.reduceAdd, Nat.reduceSub, Nat.reduceEqDiff, Nat.reduceLeDiff, Nat.reduceBEq, Nat.reduceLT, beq_self_eq_true]
  by_cases h_result : a_result = b_result
  case neg =>
    have e : (a_result == b_result) = false := by simp [h_result]
    simp only [go_sem, reduceIte, reduceCtorEq, Nat.reduceAdd, Nat.reduceSub, Nat.reduceEqDiff, Nat.reduceLeDiff, Nat.reduceBEq, Nat.reduceLT, e]
    rw [leave_plain rfl rfl, Opt_some]
    exact ⟨⟨_, rfl⟩, by simp [h_result]⟩
  subst h_result
  simp only [go_sem, reduceIte, reduceCtorEq, Nat.reduceAdd, Nat.reduceSub, Nat.reduceEqDiff, Nat.reduceLeDiff, Nat.reduceBEq, Nat.reduceLT, beq_self_eq_true]
  obtain ⟨k_slots, c_slots⟩ := Okv.all (w_slices_Equal_api_Field_api_Field _ _ _ _ hx_slots hy_slots)
  simp only [c_slots]
  by_cases h_slots : a_slots = b_slots
  case neg =>
    simp only [go_sem, reduceIte, reduceCtorEq, Nat.reduceAdd, Nat.reduceSub, Nat.reduceEqDiff, Nat.reduceLeDiff, Nat.reduceBEq, Nat.reduceLT, h_slots]
    rw [leave_plain rfl rfl, Opt_some]
    exact ⟨⟨_, rfl⟩, by simp [h_slots]⟩
  subst h_slots
  simp only [go_sem, reduceIte, reduceCtorEq, Nat.reduceAdd, Nat.reduceSub, Nat.reduceEqDiff, Nat.reduceLeDiff, Nat.reduceBEq, Nat.reduceLT, beq_self_eq_true]
  obtain ⟨k_code, c_code⟩ := Okv.all (w_slices_Equal_api_Instr_api_Instr _ _ _ _ hx_code hy_code)
  simp only [c_code]
  by_cases h_code : a_code = b_code
  case neg =>
    simp only [go_sem, reduceIte, reduceCtorEq, Nat.reduceAdd, Nat.reduceSub, Nat.reduceEqDiff, Nat.reduceLeDiff, Nat.reduceBEq, Nat.reduceLT, h_code]
    rw [leave_plain rfl rfl, Opt_some]
    exact ⟨⟨_, rfl⟩, by simp [h_code]⟩
  subst h_code
  simp only [go_sem, reduceIte, reduceCtorEq, Nat.reduceAdd, Nat.reduceSub, Nat.reduceEqDiff, Nat.reduceLeDiff, Nat.reduceBEq, Nat.reduceLT, beq_self_eq_true]
  obtain ⟨k_sizes, c_sizes⟩ := Okv.all (w_slices_Equal_api_Run_api_Run _ _ _ _ hx_sizes hy_sizes)
  simp only [c_sizes]
  by_cases h_sizes : a_sizes = b_sizes
  case neg =>
    simp only [go_sem, reduceIte, reduceCtorEq, Nat.reduceAdd, Nat.reduceSub, Nat.reduceEqDiff, Nat.reduceLeDiff, Nat.reduceBEq, Nat.reduceLT, h_sizes]
    rw [leave_plain rfl rfl, Opt_some]
    exact ⟨⟨_, rfl⟩, by simp [h_sizes]⟩
  subst h_sizes
  simp only [go_sem, reduceIte, reduceCtorEq, Nat.reduceAdd, Nat.reduceSub, Nat.reduceEqDiff, Nat.reduceLeDiff, Nat.reduceBEq, Nat.reduceLT, beq_self_eq_true]
  obtain ⟨k_lives, c_lives⟩ := Okv.all (w_slices_Equal_api_Run_api_Run _ _ _ _ hx_lives hy_lives)
  simp only [c_lives]
  by_cases h_lives : a_lives = b_lives
  case neg =>
    simp only [go_sem, reduceIte, reduceCtorEq, Nat.reduceAdd, Nat.reduceSub, Nat.reduceEqDiff, Nat.reduceLeDiff, Nat.reduceBEq, Nat.reduceLT, h_lives]
    rw [leave_plain rfl rfl, Opt_some]
    exact ⟨⟨_, rfl⟩, by simp [h_lives]⟩
  subst h_lives
  simp only [go_sem, reduceIte, reduceCtorEq, Nat.reduceAdd, Nat.reduceSub, Nat.reduceEqDiff, Nat.reduceLeDiff, Nat.reduceBEq, Nat.reduceLT, beq_self_eq_true]
  rw [leave_plain rfl rfl, Opt_some]
  exact ⟨⟨_, rfl⟩, by simp⟩

theorem w_wreckageref09_SameFunc (a b : DFunc) (x y : AV) (hx : IsFunc a x) (hy : IsFunc b y) (m : Mem) : Okv tab F_wreckageref09_SameFunc [x, y] m (.bool (decide (a = b))) := by
  refine okv_of t_wreckageref09_SameFunc ?_
  obtain ⟨stk, cur, nx, live, fl⟩ := m
  obtain ⟨a_name, a_params, a_result, a_slots, a_code, a_sizes, a_lives⟩ := a
  obtain ⟨b_name, b_params, b_result, b_slots, b_code, b_sizes, b_lives⟩ := b
  obtain ⟨x_slots, x_code, x_sizes, x_lives, rfl, hx_slots, hx_code, hx_sizes, hx_lives⟩ := hx
  obtain ⟨y_slots, y_code, y_sizes, y_lives, rfl, hy_slots, hy_code, hy_sizes, hy_lives⟩ := hy
  dsimp only at hx_slots hy_slots hx_code hy_code hx_sizes hy_sizes hx_lives hy_lives
  simp only [a_wreckageref09_SameFunc, go_sem, reduceIte, reduceCtorEq, Nat.reduceAdd, Nat.reduceSub, Nat.reduceEqDiff, Nat.reduceLeDiff, Nat.reduceBEq, Nat.reduceLT, evStr, DFunc.mk.injEq]
  by_cases h_name : a_name = b_name
  case neg =>
    have e : (a_name == b_name) = false := by simp [h_name]
    simp only [go_sem, reduceIte, reduceCtorEq, Nat.reduceAdd, Nat.reduceSub, Nat.reduceEqDiff, Nat.reduceLeDiff, Nat.reduceBEq, Nat.reduceLT, e]
    rw [leave_plain rfl rfl, Opt_some]
    exact ⟨⟨_, rfl⟩, by simp [h_name]⟩
  subst h_name
  simp only [go_sem, reduceIte, reduceCtorEq, Nat.reduceAdd, Nat.reduceSub, Nat.reduceEqDiff, Nat.reduceLeDiff, Nat.reduceBEq, Nat.reduceLT, beq_self_eq_true]
  by_cases h_params : a_params = b_params
  case neg =>
    have e : (a_params == b_params) = false := by simp [h_params]
    simp only [go_sem, reduceIte, reduceCtorEq, Nat.reduceAdd, Nat.reduceSub, Nat.reduceEqDiff, Nat.reduceLeDiff, Nat.reduceBEq, Nat.reduceLT, e]
    rw [leave_plain rfl rfl, Opt_some]
    exact ⟨⟨_, rfl⟩, by simp [h_params]⟩
  subst h_params
  simp only [go_sem, reduceIte, reduceCtorEq, Nat.reduceAdd, Nat.reduceSub, Nat.reduceEqDiff, Nat.reduceLeDiff, Nat.reduceBEq, Nat.reduceLT, beq_self_eq_true]
  by_cases h_result : a_result = b_result
  case neg =>
    have e : (a_result == b_result) = false := by simp [h_result]
    simp only [go_sem, reduceIte, reduceCtorEq, Nat.reduceAdd, Nat.reduceSub, Nat.reduceEqDiff, Nat.reduceLeDiff, Nat.reduceBEq, Nat.reduceLT, e]
    rw [leave_plain rfl rfl, Opt_some]
    exact ⟨⟨_, rfl⟩, by simp [h_result]⟩
  subst h_result
  simp only [go_sem, reduceIte, reduceCtorEq, Nat.reduceAdd, Nat.reduceSub, Nat.reduceEqDiff, Nat.reduceLeDiff, Nat.reduceBEq, Nat.reduceLT, beq_self_eq_true]
  obtain ⟨k_slots, c_slots⟩ := Okv.all (w_wreckageref04_SameFields _ _ _ _ hx_slots hy_slots)
  simp only [c_slots]
  by_cases h_slots : a_slots = b_slots
  case neg =>
    simp only [go_sem, reduceIte, reduceCtorEq, Nat.reduceAdd, Nat.reduceSub, Nat.reduceEqDiff, Nat.reduceLeDiff, Nat.reduceBEq, Nat.reduceLT, h_slots]
    rw [leave_plain rfl rfl, Opt_some]
    exact ⟨⟨_, rfl⟩, by simp [h_slots]⟩
  subst h_slots
  simp only [go_sem, reduceIte, reduceCtorEq, Nat.reduceAdd, Nat.reduceSub, Nat.reduceEqDiff, Nat.reduceLeDiff, Nat.reduceBEq, Nat.reduceLT, beq_self_eq_true]
  obtain ⟨k_code, c_code⟩ := Okv.all (w_wreckageref07_Same _ _ _ _ hx_code hy_code)
  simp only [c_code]
  by_cases h_code : a_code = b_code
  case neg =>
    simp only [go_sem, reduceIte, reduceCtorEq, Nat.reduceAdd, Nat.reduceSub, Nat.reduceEqDiff, Nat.reduceLeDiff, Nat.reduceBEq, Nat.reduceLT, h_code]
    rw [leave_plain rfl rfl, Opt_some]
    exact ⟨⟨_, rfl⟩, by simp [h_code]⟩
  subst h_code
  simp only [go_sem, reduceIte, reduceCtorEq, Nat.reduceAdd, Nat.reduceSub, Nat.reduceEqDiff, Nat.reduceLeDiff, Nat.reduceBEq, Nat.reduceLT, beq_self_eq_true]
  obtain ⟨k_sizes, c_sizes⟩ := Okv.all (w_wreckageref08_Same _ _ _ _ hx_sizes hy_sizes)
  simp only [c_sizes]
  by_cases h_sizes : a_sizes = b_sizes
  case neg =>
    simp only [go_sem, reduceIte, reduceCtorEq, Nat.reduceAdd, Nat.reduceSub, Nat.reduceEqDiff, Nat.reduceLeDiff, Nat.reduceBEq, Nat.reduceLT, h_sizes]
    rw [leave_plain rfl rfl, Opt_some]
    exact ⟨⟨_, rfl⟩, by simp [h_sizes]⟩
  subst h_sizes
  simp only [go_sem, reduceIte, reduceCtorEq, Nat.reduceAdd, Nat.reduceSub, Nat.reduceEqDiff, Nat.reduceLeDiff, Nat.reduceBEq, Nat.reduceLT, beq_self_eq_true]
  obtain ⟨k_lives, c_lives⟩ := Okv.all (w_wreckageref08_Same _ _ _ _ hx_lives hy_lives)
  simp only [c_lives]
  by_cases h_lives : a_lives = b_lives
  case neg =>
    simp only [go_sem, reduceIte, reduceCtorEq, Nat.reduceAdd, Nat.reduceSub, Nat.reduceEqDiff, Nat.reduceLeDiff, Nat.reduceBEq, Nat.reduceLT, h_lives]
    rw [leave_plain rfl rfl, Opt_some]
    exact ⟨⟨_, rfl⟩, by simp [h_lives]⟩
  subst h_lives
  simp only [go_sem, reduceIte, reduceCtorEq, Nat.reduceAdd, Nat.reduceSub, Nat.reduceEqDiff, Nat.reduceLeDiff, Nat.reduceBEq, Nat.reduceLT, beq_self_eq_true]
  rw [leave_plain rfl rfl, Opt_some]
  exact ⟨⟨_, rfl⟩, by simp⟩

theorem w_parse_sameRegion (a b : DRegion) (x y : AV) (hx : IsRegion a x) (hy : IsRegion b y) (m : Mem) : Okv tab F_parse_sameRegion [x, y] m (.bool (decide (a = b))) := by
  refine okv_of t_parse_sameRegion ?_
  obtain ⟨stk, cur, nx, live, fl⟩ := m
  obtain ⟨a_base, a_bytes⟩ := a
  obtain ⟨b_base, b_bytes⟩ := b
  obtain ⟨x_bytes, rfl, hx_bytes⟩ := hx
  obtain ⟨y_bytes, rfl, hy_bytes⟩ := hy
  dsimp only at hx_bytes hy_bytes
  simp only [a_parse_sameRegion, go_sem, reduceIte, reduceCtorEq, Nat.reduceAdd, Nat.reduceSub, Nat.reduceEqDiff, Nat.reduceLeDiff, Nat.reduceBEq, Nat.reduceLT, evStr, DRegion.mk.injEq]
  by_cases h_base : a_base = b_base
  case neg =>
    have e : (a_base == b_base) = false := by simp [h_base]
    simp only [go_sem, reduceIte, reduceCtorEq, Nat.reduceAdd, Nat.reduceSub, Nat.reduceEqDiff, Nat.reduceLeDiff, Nat.reduceBEq, Nat.reduceLT, e]
    rw [leave_plain rfl rfl, Opt_some]
    exact ⟨⟨_, rfl⟩, by simp [h_base]⟩
  subst h_base
  simp only [go_sem, reduceIte, reduceCtorEq, Nat.reduceAdd, Nat.reduceSub, Nat.reduceEqDiff, Nat.reduceLeDiff, Nat.reduceBEq, Nat.reduceLT, beq_self_eq_true]
  obtain ⟨k_bytes, c_bytes⟩ := Okv.all (w_slices_Equal_byte_byte _ _ _ _ hx_bytes hy_bytes)
  simp only [c_bytes]
  by_cases h_bytes : a_bytes = b_bytes
  case neg =>
    simp only [go_sem, reduceIte, reduceCtorEq, Nat.reduceAdd, Nat.reduceSub, Nat.reduceEqDiff, Nat.reduceLeDiff, Nat.reduceBEq, Nat.reduceLT, h_bytes]
    rw [leave_plain rfl rfl, Opt_some]
    exact ⟨⟨_, rfl⟩, by simp [h_bytes]⟩
  subst h_bytes
  simp only [go_sem, reduceIte, reduceCtorEq, Nat.reduceAdd, Nat.reduceSub, Nat.reduceEqDiff, Nat.reduceLeDiff, Nat.reduceBEq, Nat.reduceLT, beq_self_eq_true]
  rw [leave_plain rfl rfl, Opt_some]
  exact ⟨⟨_, rfl⟩, by simp⟩

theorem w_slices_EqualFunc_api_Type_api_Type_api_Type_api_Type (xs ys : List DTyp) (x y : AV) (hx : IsSl IsTyp 4 xs x) (hy : IsSl IsTyp 4 ys y) (m : Mem) : Okv tab F_slices_EqualFunc_api_Type_api_Type_api_Type_api_Type [x, y, .fn (.func F_parse_sameType) [] []] m (.bool (decide (xs = ys))) := by
  refine okv_of t_slices_EqualFunc_api_Type_api_Type_api_Type_api_Type ?_
  obtain ⟨stk, cur, nx, live, fl⟩ := m
  simp only [a_slices_EqualFunc_api_Type_api_Type_api_Type_api_Type, go_sem, reduceIte, reduceCtorEq, Nat.reduceAdd, Nat.reduceSub, Nat.reduceEqDiff, Nat.reduceLeDiff, Nat.reduceBEq, Nat.reduceLT, hx.len, hy.len, natCast_bne]
  by_cases hl : xs.length = ys.length
  · simp only [go_sem, reduceIte, reduceCtorEq, Nat.reduceAdd, Nat.reduceSub, Nat.reduceEqDiff, Nat.reduceLeDiff, Nat.reduceBEq, Nat.reduceLT, hl, hx.len]
    refine XL_rule (α := Nat × Nat) (fun z σ => (z.1 ≤ xs.length ∧ xs.take z.1 = ys.take z.1) ∧ heads [1, 2, 15, 16, 17] 0 σ = ⟨tmps 32 [(1, y), (2, .fn (.func F_parse_sameType) [] []), (15, x), (16, .int .i64 xs.length), (17, .int .i64 z.1)], ⟨stk ++ [cur], [], z.2, [] :: live, fl⟩⟩) (fun z => xs.length - z.1) (0, nx) ?_ ?_
    · refine ⟨⟨Nat.zero_le _, rfl⟩, ?_⟩
      simp only [go_sem, reduceIte, reduceCtorEq, Nat.reduceAdd, Nat.reduceSub, Nat.reduceEqDiff, Nat.reduceLeDiff, Nat.reduceBEq, Nat.reduceLT, hl]
      rfl
    · rintro ⟨i, nz⟩ σ ⟨⟨hi, ht⟩, hσ⟩
      rw [hσ]
      dsimp only at hi ht ⊢
      by_cases h : i < xs.length
      · have h' : i < ys.length := hl ▸ h
        have e1 := hx.nth h
        have e2 := hy.nth h'
        have e1' := e1
        obtain ⟨p_fields, g1, hp_fields⟩ := e1'
        rw [g1] at e1
        have e2' := e2
        obtain ⟨q_fields, g2, hq_fields⟩ := e2'
        rw [g2] at e2
        obtain ⟨k, hk⟩ := Okv.all (w_parse_sameType _ _ _ _ e1 e2)
        simp only [go_sem, reduceIte, reduceCtorEq, Nat.reduceAdd, Nat.reduceSub, Nat.reduceEqDiff, Nat.reduceLeDiff, Nat.reduceBEq, Nat.reduceLT, Int.ofNat_lt, h, h', hx.len, hy.len, hx.at _ h, hy.at _ h', g1, hp_fields.one, g2, hq_fields.one, hk]
        by_cases he : xs[i] = ys[i]
        · simp only [go_sem, reduceIte, reduceCtorEq, Nat.reduceAdd, Nat.reduceSub, Nat.reduceEqDiff, Nat.reduceLeDiff, Nat.reduceBEq, Nat.reduceLT, he, succ_i64 h hx.max]
          exact ⟨(i + 1, _), by dsimp only; omega, ⟨h, take_succ_eq hl ht h he⟩, rfl⟩
        · simp only [go_sem, reduceIte, reduceCtorEq, Nat.reduceAdd, Nat.reduceSub, Nat.reduceEqDiff, Nat.reduceLeDiff, Nat.reduceBEq, Nat.reduceLT, he]
          rw [leave_plain rfl rfl, Opt_some]
          exact ⟨⟨_, rfl⟩, by rw [decide_eq_false (ne_of_get h h' he)]⟩
      · have : i = xs.length := by omega
        subst this
        simp only [go_sem, reduceIte, reduceCtorEq, Nat.reduceAdd, Nat.reduceSub, Nat.reduceEqDiff, Nat.reduceLeDiff, Nat.reduceBEq, Nat.reduceLT, Int.ofNat_lt, h, hx.len]
        rw [leave_plain rfl rfl, Opt_some]
        exact ⟨⟨_, rfl⟩, by rw [decide_eq_true (eq_of_take hl ht)]⟩
  · simp only [go_sem, reduceIte, reduceCtorEq, Nat.reduceAdd, Nat.reduceSub, Nat.reduceEqDiff, Nat.reduceLeDiff, Nat.reduceBEq, Nat.reduceLT, hl]
    rw [leave_plain rfl rfl, Opt_some]
    exact ⟨⟨_, rfl⟩, by rw [decide_eq_false (ne_of_len hl)]⟩

theorem w_slices_EqualFunc_api_Func_api_Func_api_Func_api_Func (xs ys : List DFunc) (x y : AV) (hx : IsSl IsFunc 7 xs x) (hy : IsSl IsFunc 7 ys y) (m : Mem) : Okv tab F_slices_EqualFunc_api_Func_api_Func_api_Func_api_Func [x, y, .fn (.func F_parse_sameFunc) [] []] m (.bool (decide (xs = ys))) := by
  refine okv_of t_slices_EqualFunc_api_Func_api_Func_api_Func_api_Func ?_
  obtain ⟨stk, cur, nx, live, fl⟩ := m
  simp only [a_slices_EqualFunc_api_Func_api_Func_api_Func_api_Func, go_sem, reduceIte, reduceCtorEq, Nat.reduceAdd, Nat.reduceSub, Nat.reduceEqDiff, Nat.reduceLeDiff, Nat.reduceBEq, Nat.reduceLT, hx.len, hy.len, natCast_bne]
  by_cases hl : xs.length = ys.length
  · simp only [go_sem, reduceIte, reduceCtorEq, Nat.reduceAdd, Nat.reduceSub, Nat.reduceEqDiff, Nat.reduceLeDiff, Nat.reduceBEq, Nat.reduceLT, hl, hx.len]
    refine XL_rule (α := Nat × Nat) (fun z σ => (z.1 ≤ xs.length ∧ xs.take z.1 = ys.take z.1) ∧ heads [1, 2, 15, 16, 17] 0 σ = ⟨tmps 32 [(1, y), (2, .fn (.func F_parse_sameFunc) [] []), (15, x), (16, .int .i64 xs.length), (17, .int .i64 z.1)], ⟨stk ++ [cur], [], z.2, [] :: live, fl⟩⟩) (fun z => xs.length - z.1) (0, nx) ?_ ?_
    · refine ⟨⟨Nat.zero_le _, rfl⟩, ?_⟩
      simp only [go_sem, reduceIte, reduceCtorEq, Nat.reduceAdd, Nat.reduceSub, Nat.reduceEqDiff, Nat.reduceLeDiff, Nat.reduceBEq, Nat.reduceLT, hl]
      rfl
    · rintro ⟨i, nz⟩ σ ⟨⟨hi, ht⟩, hσ⟩
      rw [hσ]
      dsimp only at hi ht ⊢
      by_cases h : i < xs.length
      · have h' : i < ys.length := hl ▸ h
        have e1 := hx.nth h
        have e2 := hy.nth h'
        have e1' := e1
        obtain ⟨p_slots, p_code, p_sizes, p_lives, g1, hp_slots, hp_code, hp_sizes, hp_lives⟩ := e1'
        rw [g1] at e1
        have e2' := e2
        obtain ⟨q_slots, q_code, q_sizes, q_lives, g2, hq_slots, hq_code, hq_sizes, hq_lives⟩ := e2'
        rw [g2] at e2
        obtain ⟨k, hk⟩ := Okv.all (w_parse_sameFunc _ _ _ _ e1 e2)
        simp only [go_sem, reduceIte, reduceCtorEq, Nat.reduceAdd, Nat.reduceSub, Nat.reduceEqDiff, Nat.reduceLeDiff, Nat.reduceBEq, Nat.reduceLT, Int.ofNat_lt, h, h', hx.len, hy.len, hx.at _ h, hy.at _ h', g1, hp_slots.one, hp_code.one, hp_sizes.one, hp_lives.one, g2, hq_slots.one, hq_code.one, hq_sizes.one, hq_lives.one, hk]
        by_cases he : xs[i] = ys[i]
        · simp only [go_sem, reduceIte, reduceCtorEq, Nat.reduceAdd, Nat.reduceSub, Nat.reduceEqDiff, Nat.reduceLeDiff, Nat.reduceBEq, Nat.reduceLT, he, succ_i64 h hx.max]
          exact ⟨(i + 1, _), by dsimp only; omega, ⟨h, take_succ_eq hl ht h he⟩, rfl⟩
        · simp only [go_sem, reduceIte, reduceCtorEq, Nat.reduceAdd, Nat.reduceSub, Nat.reduceEqDiff, Nat.reduceLeDiff, Nat.reduceBEq, Nat.reduceLT, he]
          rw [leave_plain rfl rfl, Opt_some]
          exact ⟨⟨_, rfl⟩, by rw [decide_eq_false (ne_of_get h h' he)]⟩
      · have : i = xs.length := by omega
        subst this
        simp only [go_sem, reduceIte, reduceCtorEq, Nat.reduceAdd, Nat.reduceSub, Nat.reduceEqDiff, Nat.reduceLeDiff, Nat.reduceBEq, Nat.reduceLT, Int.ofNat_lt, h, hx.len]
        rw [leave_plain rfl rfl, Opt_some]
        exact ⟨⟨_, rfl⟩, by rw [decide_eq_true (eq_of_take hl ht)]⟩
  · simp only [go_sem, reduceIte, reduceCtorEq, Nat.reduceAdd, Nat.reduceSub, Nat.reduceEqDiff, Nat.reduceLeDiff, Nat.reduceBEq, Nat.reduceLT, hl]
    rw [leave_plain rfl rfl, Opt_some]
    exact ⟨⟨_, rfl⟩, by rw [decide_eq_false (ne_of_len hl)]⟩

theorem w_slices_EqualFunc_api_Region_api_Region_api_Region_api_Region (xs ys : List DRegion) (x y : AV) (hx : IsSl IsRegion 2 xs x) (hy : IsSl IsRegion 2 ys y) (m : Mem) : Okv tab F_slices_EqualFunc_api_Region_api_Region_api_Region_api_Region [x, y, .fn (.func F_parse_sameRegion) [] []] m (.bool (decide (xs = ys))) := by
  refine okv_of t_slices_EqualFunc_api_Region_api_Region_api_Region_api_Region ?_
  obtain ⟨stk, cur, nx, live, fl⟩ := m
  simp only [a_slices_EqualFunc_api_Region_api_Region_api_Region_api_Region, go_sem, reduceIte, reduceCtorEq, Nat.reduceAdd, Nat.reduceSub, Nat.reduceEqDiff, Nat.reduceLeDiff, Nat.reduceBEq, Nat.reduceLT, hx.len, hy.len, natCast_bne]
  by_cases hl : xs.length = ys.length
  · simp only [go_sem, reduceIte, reduceCtorEq, Nat.reduceAdd, Nat.reduceSub, Nat.reduceEqDiff, Nat.reduceLeDiff, Nat.reduceBEq, Nat.reduceLT, hl, hx.len]
    refine XL_rule (α := Nat × Nat) (fun z σ => (z.1 ≤ xs.length ∧ xs.take z.1 = ys.take z.1) ∧ heads [1, 2, 15, 16, 17] 0 σ = ⟨tmps 32 [(1, y), (2, .fn (.func F_parse_sameRegion) [] []), (15, x), (16, .int .i64 xs.length), (17, .int .i64 z.1)], ⟨stk ++ [cur], [], z.2, [] :: live, fl⟩⟩) (fun z => xs.length - z.1) (0, nx) ?_ ?_
    · refine ⟨⟨Nat.zero_le _, rfl⟩, ?_⟩
      simp only [go_sem, reduceIte, reduceCtorEq, Nat.reduceAdd, Nat.reduceSub, Nat.reduceEqDiff, Nat.reduceLeDiff, Nat.reduceBEq, Nat.reduceLT, hl]
      rfl
    · rintro ⟨i, nz⟩ σ ⟨⟨hi, ht⟩, hσ⟩
      rw [hσ]
      dsimp only at hi ht ⊢
      by_cases h : i < xs.length
      · have h' : i < ys.length := hl ▸ h
        have e1 := hx.nth h
        have e2 := hy.nth h'
        have e1' := e1
        obtain ⟨p_bytes, g1, hp_bytes⟩ := e1'
        rw [g1] at e1
        have e2' := e2
        obtain ⟨q_bytes, g2, hq_bytes⟩ := e2'
        rw [g2] at e2
        obtain ⟨k, hk⟩ := Okv.all (w_parse_sameRegion _ _ _ _ e1 e2)
        simp only [go_sem, reduceIte, reduceCtorEq, Nat.reduceAdd, Nat.reduceSub, Nat.reduceEqDiff, Nat.reduceLeDiff, Nat.reduceBEq, Nat.reduceLT, Int.ofNat_lt, h, h', hx.len, hy.len, hx.at _ h, hy.at _ h', g1, hp_bytes.one, g2, hq_bytes.one, hk]
        by_cases he : xs[i] = ys[i]
        · simp only [go_sem, reduceIte, reduceCtorEq, Nat.reduceAdd, Nat.reduceSub, Nat.reduceEqDiff, Nat.reduceLeDiff, Nat.reduceBEq, Nat.reduceLT, he, succ_i64 h hx.max]
          exact ⟨(i + 1, _), by dsimp only; omega, ⟨h, take_succ_eq hl ht h he⟩, rfl⟩
        · simp only [go_sem, reduceIte, reduceCtorEq, Nat.reduceAdd, Nat.reduceSub, Nat.reduceEqDiff, Nat.reduceLeDiff, Nat.reduceBEq, Nat.reduceLT, he]
          rw [leave_plain rfl rfl, Opt_some]
          exact ⟨⟨_, rfl⟩, by rw [decide_eq_false (ne_of_get h h' he)]⟩
      · have : i = xs.length := by omega
        subst this
        simp only [go_sem, reduceIte, reduceCtorEq, Nat.reduceAdd, Nat.reduceSub, Nat.reduceEqDiff, Nat.reduceLeDiff, Nat.reduceBEq, Nat.reduceLT, Int.ofNat_lt, h, hx.len]
        rw [leave_plain rfl rfl, Opt_some]
        exact ⟨⟨_, rfl⟩, by rw [decide_eq_true (eq_of_take hl ht)]⟩
  · simp only [go_sem, reduceIte, reduceCtorEq, Nat.reduceAdd, Nat.reduceSub, Nat.reduceEqDiff, Nat.reduceLeDiff, Nat.reduceBEq, Nat.reduceLT, hl]
    rw [leave_plain rfl rfl, Opt_some]
    exact ⟨⟨_, rfl⟩, by rw [decide_eq_false (ne_of_len hl)]⟩

end Go.Proofs.W
