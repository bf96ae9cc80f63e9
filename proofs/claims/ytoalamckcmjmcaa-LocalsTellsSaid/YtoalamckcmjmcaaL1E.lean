/-
  L1E
-/
import Derived.Test.YtoalamckcmjmcaaL1X
namespace Go.Proofs.L1
open Go.Vs
set_option linter.unusedSimpArgs false
set_option maxRecDepth 100000

theorem leave_low {m0 : Mem} {X : List (List Blk)} {c c' : List Blk} {nx' fl' : Nat} {live' : List Nat} {r : AV} (h1 : r.refs (X ++ [c]).length = false) (h2 : r.toks = []) :
    leave m0 ⟨X ++ [c], c', nx', live', fl'⟩ r = some (r, ⟨X, c, nx', m0.live.filter (fun t => live'.contains t), m0.floor⟩) := by
  unfold leave
  simp only [List.getLast?_append, List.getLast?_singleton, Option.some_or, h1, Bool.false_eq_true, if_false, h2, List.contains_nil, Bool.and_false, List.dropLast_concat, Option.some.injEq, Prod.mk.injEq, true_and]
  have h3 : live'.filter (fun _ => false) = [] := by simp
  rw [h3, List.append_nil]

/-- The frames, one block of them written. -/
def putS (S : List (List Blk)) (l k st : Nat) (cs : List AV) : List (List Blk) := S.modify l fun f => f.set k ⟨st, cs⟩

theorem putS_len (S : List (List Blk)) (l k st : Nat) (cs : List AV) : (putS S l k st cs).length = S.length := by simp [putS]

theorem putS_ne (S : List (List Blk)) (l k st : Nat) (cs : List AV) (l' : Nat) (h : l ≠ l') : (putS S l k st cs).getD l' [] = S.getD l' [] := by
  simp [putS, List.getD_eq_getElem?_getD, List.getElem?_modify, h]

theorem putS_putS (S : List (List Blk)) (l k st : Nat) (cs cs' : List AV) : putS (putS S l k st cs) l k st cs' = putS S l k st cs' := by
  refine List.ext_getElem? fun i => ?_
  simp only [putS, List.getElem?_modify]
  cases S[i]? with
  | none => rfl
  | some f => simp only [Option.map_eq_map, Option.map_some]; split <;> simp

theorem putS_append (S : List (List Blk)) (c : List Blk) (l k st : Nat) (cs : List AV) (h : l < S.length) : putS (S ++ [c]) l k st cs = putS S l k st cs ++ [c] := by
  refine List.ext_getElem? fun i => ?_
  simp only [putS, List.getElem?_modify, List.getElem?_append, List.length_modify]
  by_cases hi : i < S.length
  · simp [hi, List.getElem?_modify]
  · have : ¬ l = i := by omega
    simp [hi, this]

theorem putS_same (S : List (List Blk)) (l k st : Nat) (cs : List AV) (h : (S.getD l [])[k]? = some ⟨st, cs⟩) : putS S l k st cs = S := by
  refine List.ext_getElem? fun i => ?_
  simp only [putS, List.getElem?_modify]
  by_cases hl : l = i
  · subst hl
    rw [List.getD_eq_getElem?_getD] at h
    cases hs : S[l]? with
    | none => rfl
    | some f =>
      rw [hs] at h
      simp only [Option.getD_some] at h
      refine congrArg some ?_
      dsimp only
      rw [if_pos rfl]
      show f.set k ⟨st, cs⟩ = f
      refine List.ext_getElem? fun j => ?_
      rw [List.getElem?_set]
      split
      · rename_i hj
        subst hj
        rw [h]
        split
        · rfl
        · rename_i hlt; rw [List.getElem?_eq_none (by omega)] at h; cases h
      · rfl
  · simp [hl]

theorem putS_get (S : List (List Blk)) (l k st : Nat) (cs : List AV) (b : Blk) (h : (S.getD l [])[k]? = some b) : ((putS S l k st cs).getD l [])[k]? = some ⟨st, cs⟩ := by
  rw [List.getD_eq_getElem?_getD] at h
  cases hs : S[l]? with
  | none => rw [hs] at h; simp at h
  | some f =>
    rw [hs] at h
    simp only [Option.getD_some] at h
    have hk : k < f.length := (List.getElem?_eq_some_iff.1 h).1
    simp [putS, List.getD_eq_getElem?_getD, List.getElem?_modify, hs, hk]

section
variable {A : Type} (fs : Nat) (caps : List AV) (l0 k0 st0 : Nat) (e : A → List AV) (upd : A → Val → Int → A × Int)

/-- What the function that sees each part does. -/
def Sees : Prop := ∀ (S : List (List Blk)) (cur : List Blk) (nx : Nat) (live : List Nat) (fl : Nat) (a : A) (v : Val) (r : Int), (S.getD l0 [])[k0]? = some ⟨st0, e a⟩ → l0 < S.length → fl ≤ l0 →
  ∃ k, CALL tab fs (emb v :: .int .i64 r :: caps) ⟨S, cur, nx, live, fl⟩ = some (.int .i64 (upd a v r).2, ⟨putS S l0 k0 st0 (e (upd a v r).1), cur, k, live, fl⟩)

mutual
def go : A → Val → A × Int
  | a, .mk k i s nl l c => upd (gos (a, 0) l).1 (.mk k i s nl l c) (gos (a, 0) l).2
def gos : A × Int → List Val → A × Int
  | p, [] => p
  | p, v :: r => gos ((go p.1 v).1, if (go p.1 v).2 > p.2 then (go p.1 v).2 else p.2) r
end

theorem skolS (h : Sees fs caps l0 k0 st0 e upd) : ∃ K : List (List Blk) → List Blk → Nat → List Nat → Nat → A → Val → Int → Nat, ∀ (S : List (List Blk)) (cur : List Blk) (nx : Nat) (live : List Nat) (fl : Nat) (a : A) (v : Val) (r : Int), (S.getD l0 [])[k0]? = some ⟨st0, e a⟩ → l0 < S.length → fl ≤ l0 →
    CALL tab fs (emb v :: .int .i64 r :: caps) ⟨S, cur, nx, live, fl⟩ = some (.int .i64 (upd a v r).2, ⟨putS S l0 k0 st0 (e (upd a v r).1), cur, K S cur nx live fl a v r, live, fl⟩) := by
  classical
  unfold Sees at h
  refine ⟨fun S cur nx live fl a v r => if h1 : (S.getD l0 [])[k0]? = some ⟨st0, e a⟩ ∧ l0 < S.length ∧ fl ≤ l0 then (h S cur nx live fl a v r h1.1 h1.2.1 h1.2.2).choose else 0, fun S cur nx live fl a v r a1 a2 a3 => ?_⟩
  dsimp only
  rw [dif_pos ⟨a1, a2, a3⟩]
  exact (h S cur nx live fl a v r a1 a2 a3).choose_spec

theorem gos_take (l : List Val) (i : Nat) (h : i < l.length) (p : A × Int) :
    gos upd p (l.take (i + 1)) = ((go upd (gos upd p (l.take i)).1 l[i]).1, if (go upd (gos upd p (l.take i)).1 l[i]).2 > (gos upd p (l.take i)).2 then (go upd (gos upd p (l.take i)).1 l[i]).2 else (gos upd p (l.take i)).2) := by
  induction l generalizing i p with
  | nil => simp at h
  | cons v r ih =>
    cases i with
    | zero => simp [gos]
    | succ i => simp only [List.take_succ_cons, gos, List.getElem_cons_succ]; exact ih i (by simpa using h) _

variable {lE st1 st2 : Nat}

structure Good (lE st1 st2 : Nat) (S : List (List Blk)) (cur : List Blk) (fl : Nat) (a : A) : Prop where
  top : lE ≤ S.length
  low : l0 < lE
  flo : fl ≤ l0
  acc : (S.getD l0 [])[k0]? = some ⟨st0, e a⟩
  self : ((S ++ [cur]).getD lE [])[2]? = some ⟨st2, [.fn (.func 17) [] [.ptr lE 2 st2 0, .ptr lE 1 st1 0]]⟩
  see : ((S ++ [cur]).getD lE [])[1]? = some ⟨st1, [.fn (.func fs) [] caps]⟩

def Each (lE st1 st2 : Nat) (v : Val) : Prop := ∀ (S : List (List Blk)) (cur : List Blk) (nx : Nat) (live : List Nat) (fl : Nat) (a : A), Good fs caps l0 k0 st0 e lE st1 st2 S cur fl a →
  ∃ k, CALL tab 17 [emb v, .ptr lE 2 st2 0, .ptr lE 1 st1 0] ⟨S, cur, nx, live, fl⟩ = some (.int .i64 (go upd a v).2, ⟨putS S l0 k0 st0 (e (go upd a v).1), cur, k, live, fl⟩)

theorem skolE {l : List Val} (h : ∀ x, (x ∈ l ∧ wt x ≤ 6000) → Each fs caps l0 k0 st0 e upd lE st1 st2 x) : ∃ K : Val → List (List Blk) → List Blk → Nat → List Nat → Nat → A → Nat, ∀ x, (x ∈ l ∧ wt x ≤ 6000) → ∀ (S : List (List Blk)) (cur : List Blk) (nx : Nat) (live : List Nat) (fl : Nat) (a : A), Good fs caps l0 k0 st0 e lE st1 st2 S cur fl a →
    CALL tab 17 [emb x, .ptr lE 2 st2 0, .ptr lE 1 st1 0] ⟨S, cur, nx, live, fl⟩ = some (.int .i64 (go upd a x).2, ⟨putS S l0 k0 st0 (e (go upd a x).1), cur, K x S cur nx live fl a, live, fl⟩) := by
  classical
  unfold Each at h
  refine ⟨fun x S cur nx live fl a => if h1 : (x ∈ l ∧ wt x ≤ 6000) ∧ Good fs caps l0 k0 st0 e lE st1 st2 S cur fl a then (h x h1.1 S cur nx live fl a h1.2).choose else 0, fun x hx S cur nx live fl a hg => ?_⟩
  dsimp only
  rw [dif_pos ⟨hx, hg⟩]
  exact (h x hx S cur nx live fl a hg).choose_spec

theorem emb_one (v : Val) : allOne (emb v).cells = true := by
  cases v
  rw [emb_eq]
  have h : ∀ nl l, (lst nl l).one = true := fun nl l => by unfold lst; split <;> rfl
  simp only [cells_agg, allOne, h]
  rfl

theorem emb_agg (v : Val) : AV.agg (List.take 5 (emb v).cells) = emb v := by cases v; rfl

mutual
theorem w17 (hs : Sees fs caps l0 k0 st0 e upd) : ∀ v, wt v ≤ 6000 → Each fs caps l0 k0 st0 e upd lE st1 st2 v
  | .mk kk ii s nl l c => by
    intro hw S cur nx live fl a hg
    obtain ⟨K, hK⟩ := skolE fs caps l0 k0 st0 e upd (w17s hs l)
    obtain ⟨K', hK'⟩ := skolS fs caps l0 k0 st0 e upd hs
    simp only [wt] at hw
    suffices h : Does tab 17 [emb (.mk kk ii s nl l c), .ptr lE 2 st2 0, .ptr lE 1 st1 0] ⟨S, cur, nx, live, fl⟩ (fun v m' => ∃ k, v = .int .i64 (go upd a (.mk kk ii s nl l c)).2 ∧ m' = ⟨putS S l0 k0 st0 (e (go upd a (.mk kk ii s nl l c)).1), cur, k, live, fl⟩) by
      obtain ⟨x, h1, k, h2, h3⟩ := h; exact ⟨k, by rw [h1, ← h2, ← h3]⟩
    refine does_of t17 ?_
    rw [emb_eq]
    have hl0 : l0 < S.length := by have := hg.low; have := hg.top; omega
    have hne : l0 ≠ lE := by have := hg.low; omega
    have g0 : ∀ a', ((putS (S ++ [cur]) l0 k0 st0 (e a')).getD l0 [])[k0]? = some ⟨st0, e a'⟩ := fun a' => putS_get _ _ _ _ _ ⟨st0, e a⟩ (by
      rw [List.getD_eq_getElem?_getD, List.getElem?_append_left hl0, ← List.getD_eq_getElem?_getD]; exact hg.acc)
    have gl : ∀ a', (putS (S ++ [cur]) l0 k0 st0 (e a')).length = S.length + 1 := fun a' => by rw [putS_len]; simp
    have g1 : ∀ a', (lE == (putS (S ++ [cur]) l0 k0 st0 (e a')).length) = false := fun a' => by rw [gl]; have := hg.top; simp; omega
    have g2 : ∀ a', ((putS (S ++ [cur]) l0 k0 st0 (e a')).getD lE [])[2]? = some ⟨st2, [.fn (.func 17) [] [.ptr lE 2 st2 0, .ptr lE 1 st1 0]]⟩ := fun a' => by rw [putS_ne _ _ _ _ _ _ hne]; exact hg.self
    have g3 : ∀ a', ((putS (S ++ [cur]) l0 k0 st0 (e a')).getD lE [])[1]? = some ⟨st1, [.fn (.func fs) [] caps]⟩ := fun a' => by rw [putS_ne _ _ _ _ _ _ hne]; exact hg.see
    have g1' : (lE == S.length + 1) = false := by have := hg.top; simp; omega
    have gf : ∀ a', fl ≤ (putS (S ++ [cur]) l0 k0 st0 (e a')).length := fun a' => by rw [gl]; have := hg.flo; omega
    have gS : S ++ [cur] = putS (S ++ [cur]) l0 k0 st0 (e a) := (putS_same _ _ _ _ _ (by
      rw [List.getD_eq_getElem?_getD, List.getElem?_append_left hl0, ← List.getD_eq_getElem?_getD]; exact hg.acc)).symm
    have gg : ∀ a' c', Good fs caps l0 k0 st0 e lE st1 st2 (putS (S ++ [cur]) l0 k0 st0 (e a')) c' fl a' := fun a' c' =>
      ⟨by rw [gl]; have := hg.top; omega, hg.low, hg.flo, g0 a', by rw [List.getD_eq_getElem?_getD, List.getElem?_append_left (by rw [gl]; have := hg.top; omega), ← List.getD_eq_getElem?_getD]; exact g2 a',
        by rw [List.getD_eq_getElem?_getD, List.getElem?_append_left (by rw [gl]; have := hg.top; omega), ← List.getD_eq_getElem?_getD]; exact g3 a'⟩
    simp only [a17, X_skip, X_ret, X_exit, X_ops, X_seq, X_block, X_loop, X_cond, Xc_true, Xc_false, Xs_nil, Xs_cons, Xs_guard, Xg_tt, Xg_ff, Xg_tf, Xg_ft, Xg_un, Xv_some, Xo_seq, Xo_seq_ret, Xo_seq_exit, Xo_block, Xo_block_ret, Xo_block_exit, Xo_again, Xo_again_ret, Xo_again_exit, Xo_ret, Xo_end, X_draw, Xd_nil, Xd_guard, Xu_tt, Xu_ff, Xu_tf, Xu_ft, Xu_un, Xd_flt, Xi_true, Xi_false, Xd_step, Xw_0, Xw_1, Xw_2, isS_store, isS_mov, isS_pick, isS_alloc, isS_box, isS_build, isS_lit, isS_load, isS_bin, isS_beq, isS_un, isS_conv, isS_convS, isS_toStr, isS_toBytes, isS_mkfn, isS_faddr, isS_field, isS_iaddr, isS_iaddrA, isS_indexS, isS_indexA, isS_len, isS_lenS, isS_app, isS_mx, isS_mn, isS_slice, isS_sliceA, isS_sliceS, isS_make, isS_extract, isS_call, evOp, evCall, Opd.ev, setDst, List.set_cons_succ, List.set_cons_zero, List.getD_cons_succ, List.getD_cons_zero, cells_agg, cells_bool, cells_int, cells_str, cells_nils, cells_list, cells_arr, cells_ptr, cells_ro, cells_nilptr, cells_fn, cells_nilfn, Mem.bump, AV.one, allOne, List.length_cons, List.length_nil, List.replicate_succ, List.replicate_zero, List.cons_append, List.nil_append, List.append_nil, Nat.reduceAdd, Nat.reduceSub, Nat.reduceEqDiff, Nat.zero_add, Nat.add_zero, beq_self_eq_true, if_true, if_false, ite_true, ite_false, Bool.false_eq_true, Mem.new, enter, Mem.at, Mem.blk, Mem.row, Mem.put, evFaddr, takeV_f1, takeV_t, evStore, splice, List.take_succ_cons, List.take_zero, List.drop_succ_cons, List.drop_zero, List.drop_nil, List.take_nil, List.getElem?_cons_succ, List.getElem?_cons_zero, Option.map_some, Option.bind_some, Option.map_none, Option.bind_none, List.map_cons, List.map_nil, List.head?_cons, Nat.reduceLeDiff, Nat.le_refl, decide_true, decide_false, Bool.and_self, Bool.and_true, Bool.true_and, evBin, evInt, sameKind, evMax, evMin, evUn, heads, clean, List.zipIdx_cons, List.zipIdx_nil, List.contains_cons, List.contains_nil, Bool.or_false, Bool.or_true, Bool.false_or, Bool.true_or, Nat.reduceBEq, evRess, evRes, packRes, leave_plain, Opt_some, tmps, tmpsAt, reduceIte, reduceCtorEq, AV.refs, AV.toks, live_self, lst_len]
    rw [gS]
    refine XL_rule (α := Nat × Nat) (fun x σ => x.1 ≤ l.length ∧ heads [1, 2, 3, 5, 9, 10, 11] 1 σ = ⟨tmps 25 [(1, .ptr lE 2 st2 0), (2, .ptr lE 1 st1 0), (3, .ptr (S.length + 1) 0 nx 0), (5, .int .i64 (gos upd (a, 0) (l.take x.1)).2), (9, lst nl l), (10, .int .i64 l.length), (11, .int .i64 x.1)],
      ⟨putS (S ++ [cur]) l0 k0 st0 (e (gos upd (a, 0) (l.take x.1)).1), [⟨nx, [.int .u8 kk, .int .i64 ii, .str s, lst nl l, .bool c]⟩], x.2, live, fl⟩⟩) (fun x => l.length - x.1) (0, nx + 1) ?_ ?_
    · refine ⟨Nat.zero_le _, ?_⟩
      simp only [X_skip, X_ret, X_exit, X_ops, X_seq, X_block, X_loop, X_cond, Xc_true, Xc_false, Xs_nil, Xs_cons, Xs_guard, Xg_tt, Xg_ff, Xg_tf, Xg_ft, Xg_un, Xv_some, Xo_seq, Xo_seq_ret, Xo_seq_exit, Xo_block, Xo_block_ret, Xo_block_exit, Xo_again, Xo_again_ret, Xo_again_exit, Xo_ret, Xo_end, X_draw, Xd_nil, Xd_guard, Xu_tt, Xu_ff, Xu_tf, Xu_ft, Xu_un, Xd_flt, Xi_true, Xi_false, Xd_step, Xw_0, Xw_1, Xw_2, isS_store, isS_mov, isS_pick, isS_alloc, isS_box, isS_build, isS_lit, isS_load, isS_bin, isS_beq, isS_un, isS_conv, isS_convS, isS_toStr, isS_toBytes, isS_mkfn, isS_faddr, isS_field, isS_iaddr, isS_iaddrA, isS_indexS, isS_indexA, isS_len, isS_lenS, isS_app, isS_mx, isS_mn, isS_slice, isS_sliceA, isS_sliceS, isS_make, isS_extract, isS_call, evOp, evCall, Opd.ev, setDst, List.set_cons_succ, List.set_cons_zero, List.getD_cons_succ, List.getD_cons_zero, cells_agg, cells_bool, cells_int, cells_str, cells_nils, cells_list, cells_arr, cells_ptr, cells_ro, cells_nilptr, cells_fn, cells_nilfn, Mem.bump, AV.one, allOne, List.length_cons, List.length_nil, List.replicate_succ, List.replicate_zero, List.cons_append, List.nil_append, List.append_nil, Nat.reduceAdd, Nat.reduceSub, Nat.reduceEqDiff, Nat.zero_add, Nat.add_zero, beq_self_eq_true, if_true, if_false, ite_true, ite_false, Bool.false_eq_true, Mem.new, enter, Mem.at, Mem.blk, Mem.row, Mem.put, evFaddr, takeV_f1, takeV_t, evStore, splice, List.take_succ_cons, List.take_zero, List.drop_succ_cons, List.drop_zero, List.drop_nil, List.take_nil, List.getElem?_cons_succ, List.getElem?_cons_zero, Option.map_some, Option.bind_some, Option.map_none, Option.bind_none, List.map_cons, List.map_nil, List.head?_cons, Nat.reduceLeDiff, Nat.le_refl, decide_true, decide_false, Bool.and_self, Bool.and_true, Bool.true_and, evBin, evInt, sameKind, evMax, evMin, evUn, heads, clean, List.zipIdx_cons, List.zipIdx_nil, List.contains_cons, List.contains_nil, Bool.or_false, Bool.or_true, Bool.false_or, Bool.true_or, Nat.reduceBEq, evRess, evRes, packRes, leave_plain, Opt_some, tmps, tmpsAt, reduceIte, reduceCtorEq, AV.refs, AV.toks, live_self, gos, gl]
      rfl
    · rintro ⟨i, z⟩ σ ⟨hi, hσ⟩
      rw [hσ]
      dsimp only at hi ⊢
      simp only [X_skip, X_ret, X_exit, X_ops, X_seq, X_block, X_loop, X_cond, Xc_true, Xc_false, Xs_nil, Xs_cons, Xs_guard, Xg_tt, Xg_ff, Xg_tf, Xg_ft, Xg_un, Xv_some, Xo_seq, Xo_seq_ret, Xo_seq_exit, Xo_block, Xo_block_ret, Xo_block_exit, Xo_again, Xo_again_ret, Xo_again_exit, Xo_ret, Xo_end, X_draw, Xd_nil, Xd_guard, Xu_tt, Xu_ff, Xu_tf, Xu_ft, Xu_un, Xd_flt, Xi_true, Xi_false, Xd_step, Xw_0, Xw_1, Xw_2, isS_store, isS_mov, isS_pick, isS_alloc, isS_box, isS_build, isS_lit, isS_load, isS_bin, isS_beq, isS_un, isS_conv, isS_convS, isS_toStr, isS_toBytes, isS_mkfn, isS_faddr, isS_field, isS_iaddr, isS_iaddrA, isS_indexS, isS_indexA, isS_len, isS_lenS, isS_app, isS_mx, isS_mn, isS_slice, isS_sliceA, isS_sliceS, isS_make, isS_extract, isS_call, evOp, evCall, Opd.ev, setDst, List.set_cons_succ, List.set_cons_zero, List.getD_cons_succ, List.getD_cons_zero, cells_agg, cells_bool, cells_int, cells_str, cells_nils, cells_list, cells_arr, cells_ptr, cells_ro, cells_nilptr, cells_fn, cells_nilfn, Mem.bump, AV.one, allOne, List.length_cons, List.length_nil, List.replicate_succ, List.replicate_zero, List.cons_append, List.nil_append, List.append_nil, Nat.reduceAdd, Nat.reduceSub, Nat.reduceEqDiff, Nat.zero_add, Nat.add_zero, beq_self_eq_true, if_true, if_false, ite_true, ite_false, Bool.false_eq_true, Mem.new, enter, Mem.at, Mem.blk, Mem.row, Mem.put, evFaddr, takeV_f1, takeV_t, evStore, splice, List.take_succ_cons, List.take_zero, List.drop_succ_cons, List.drop_zero, List.drop_nil, List.take_nil, List.getElem?_cons_succ, List.getElem?_cons_zero, Option.map_some, Option.bind_some, Option.map_none, Option.bind_none, List.map_cons, List.map_nil, List.head?_cons, Nat.reduceLeDiff, Nat.le_refl, decide_true, decide_false, Bool.and_self, Bool.and_true, Bool.true_and, evBin, evInt, sameKind, evMax, evMin, evUn, heads, clean, List.zipIdx_cons, List.zipIdx_nil, List.contains_cons, List.contains_nil, Bool.or_false, Bool.or_true, Bool.false_or, Bool.true_or, Nat.reduceBEq, evRess, evRes, packRes, leave_plain, Opt_some, tmps, tmpsAt, reduceIte, reduceCtorEq, AV.refs, AV.toks, live_self]
      by_cases h : i < l.length
      · have hb := wt_get l i h
        have hlen := len_le l
        have e2 : IntKind.i64.wrap ((i : Int) + 1) = ((i + 1 : Nat) : Int) := by
          rw [wrap_id _ (by omega)]; omega
        simp only [X_skip, X_ret, X_exit, X_ops, X_seq, X_block, X_loop, X_cond, Xc_true, Xc_false, Xs_nil, Xs_cons, Xs_guard, Xg_tt, Xg_ff, Xg_tf, Xg_ft, Xg_un, Xv_some, Xo_seq, Xo_seq_ret, Xo_seq_exit, Xo_block, Xo_block_ret, Xo_block_exit, Xo_again, Xo_again_ret, Xo_again_exit, Xo_ret, Xo_end, X_draw, Xd_nil, Xd_guard, Xu_tt, Xu_ff, Xu_tf, Xu_ft, Xu_un, Xd_flt, Xi_true, Xi_false, Xd_step, Xw_0, Xw_1, Xw_2, isS_store, isS_mov, isS_pick, isS_alloc, isS_box, isS_build, isS_lit, isS_load, isS_bin, isS_beq, isS_un, isS_conv, isS_convS, isS_toStr, isS_toBytes, isS_mkfn, isS_faddr, isS_field, isS_iaddr, isS_iaddrA, isS_indexS, isS_indexA, isS_len, isS_lenS, isS_app, isS_mx, isS_mn, isS_slice, isS_sliceA, isS_sliceS, isS_make, isS_extract, isS_call, evOp, evCall, Opd.ev, setDst, List.set_cons_succ, List.set_cons_zero, List.getD_cons_succ, List.getD_cons_zero, cells_agg, cells_bool, cells_int, cells_str, cells_nils, cells_list, cells_arr, cells_ptr, cells_ro, cells_nilptr, cells_fn, cells_nilfn, Mem.bump, AV.one, allOne, List.length_cons, List.length_nil, List.replicate_succ, List.replicate_zero, List.cons_append, List.nil_append, List.append_nil, Nat.reduceAdd, Nat.reduceSub, Nat.reduceEqDiff, Nat.zero_add, Nat.add_zero, beq_self_eq_true, if_true, if_false, ite_true, ite_false, Bool.false_eq_true, Mem.new, enter, Mem.at, Mem.blk, Mem.row, Mem.put, evFaddr, takeV_f1, takeV_t, evStore, splice, List.take_succ_cons, List.take_zero, List.drop_succ_cons, List.drop_zero, List.drop_nil, List.take_nil, List.getElem?_cons_succ, List.getElem?_cons_zero, Option.map_some, Option.bind_some, Option.map_none, Option.bind_none, List.map_cons, List.map_nil, List.head?_cons, Nat.reduceLeDiff, Nat.le_refl, decide_true, decide_false, Bool.and_self, Bool.and_true, Bool.true_and, evBin, evInt, sameKind, evMax, evMin, evUn, heads, clean, List.zipIdx_cons, List.zipIdx_nil, List.contains_cons, List.contains_nil, Bool.or_false, Bool.or_true, Bool.false_or, Bool.true_or, Nat.reduceBEq, evRess, evRes, packRes, leave_plain, Opt_some, tmps, tmpsAt, reduceIte, reduceCtorEq, AV.refs, AV.toks, live_self, Int.ofNat_lt, h, lst_at, emb_take]
        simp only [X_skip, X_ret, X_exit, X_ops, X_seq, X_block, X_loop, X_cond, Xc_true, Xc_false, Xs_nil, Xs_cons, Xs_guard, Xg_tt, Xg_ff, Xg_tf, Xg_ft, Xg_un, Xv_some, Xo_seq, Xo_seq_ret, Xo_seq_exit, Xo_block, Xo_block_ret, Xo_block_exit, Xo_again, Xo_again_ret, Xo_again_exit, Xo_ret, Xo_end, X_draw, Xd_nil, Xd_guard, Xu_tt, Xu_ff, Xu_tf, Xu_ft, Xu_un, Xd_flt, Xi_true, Xi_false, Xd_step, Xw_0, Xw_1, Xw_2, isS_store, isS_mov, isS_pick, isS_alloc, isS_box, isS_build, isS_lit, isS_load, isS_bin, isS_beq, isS_un, isS_conv, isS_convS, isS_toStr, isS_toBytes, isS_mkfn, isS_faddr, isS_field, isS_iaddr, isS_iaddrA, isS_indexS, isS_indexA, isS_len, isS_lenS, isS_app, isS_mx, isS_mn, isS_slice, isS_sliceA, isS_sliceS, isS_make, isS_extract, isS_call, evOp, evCall, Opd.ev, setDst, List.set_cons_succ, List.set_cons_zero, List.getD_cons_succ, List.getD_cons_zero, cells_agg, cells_bool, cells_int, cells_str, cells_nils, cells_list, cells_arr, cells_ptr, cells_ro, cells_nilptr, cells_fn, cells_nilfn, Mem.bump, AV.one, allOne, List.length_cons, List.length_nil, List.replicate_succ, List.replicate_zero, List.cons_append, List.nil_append, List.append_nil, Nat.reduceAdd, Nat.reduceSub, Nat.reduceEqDiff, Nat.zero_add, Nat.add_zero, beq_self_eq_true, if_true, if_false, ite_true, ite_false, Bool.false_eq_true, Mem.new, enter, Mem.at, Mem.blk, Mem.row, Mem.put, evFaddr, takeV_f1, takeV_t, evStore, splice, List.take_succ_cons, List.take_zero, List.drop_succ_cons, List.drop_zero, List.drop_nil, List.take_nil, List.getElem?_cons_succ, List.getElem?_cons_zero, Option.map_some, Option.bind_some, Option.map_none, Option.bind_none, List.map_cons, List.map_nil, List.head?_cons, Nat.reduceLeDiff, Nat.le_refl, decide_true, decide_false, Bool.and_self, Bool.and_true, Bool.true_and, evBin, evInt, sameKind, evMax, evMin, evUn, heads, clean, List.zipIdx_cons, List.zipIdx_nil, List.contains_cons, List.contains_nil, Bool.or_false, Bool.or_true, Bool.false_or, Bool.true_or, Nat.reduceBEq, evRess, evRes, packRes, leave_plain, Opt_some, tmps, tmpsAt, reduceIte, reduceCtorEq, AV.refs, AV.toks, live_self, emb_cells_len, emb_one, gf, emb_take, emb_agg, g1, g2]
        rw [hK l[i] ⟨List.getElem_mem h, by omega⟩ _ _ _ _ _ _ (gg _ _), putS_putS]
        simp only [X_skip, X_ret, X_exit, X_ops, X_seq, X_block, X_loop, X_cond, Xc_true, Xc_false, Xs_nil, Xs_cons, Xs_guard, Xg_tt, Xg_ff, Xg_tf, Xg_ft, Xg_un, Xv_some, Xo_seq, Xo_seq_ret, Xo_seq_exit, Xo_block, Xo_block_ret, Xo_block_exit, Xo_again, Xo_again_ret, Xo_again_exit, Xo_ret, Xo_end, X_draw, Xd_nil, Xd_guard, Xu_tt, Xu_ff, Xu_tf, Xu_ft, Xu_un, Xd_flt, Xi_true, Xi_false, Xd_step, Xw_0, Xw_1, Xw_2, isS_store, isS_mov, isS_pick, isS_alloc, isS_box, isS_build, isS_lit, isS_load, isS_bin, isS_beq, isS_un, isS_conv, isS_convS, isS_toStr, isS_toBytes, isS_mkfn, isS_faddr, isS_field, isS_iaddr, isS_iaddrA, isS_indexS, isS_indexA, isS_len, isS_lenS, isS_app, isS_mx, isS_mn, isS_slice, isS_sliceA, isS_sliceS, isS_make, isS_extract, isS_call, evOp, evCall, Opd.ev, setDst, List.set_cons_succ, List.set_cons_zero, List.getD_cons_succ, List.getD_cons_zero, cells_agg, cells_bool, cells_int, cells_str, cells_nils, cells_list, cells_arr, cells_ptr, cells_ro, cells_nilptr, cells_fn, cells_nilfn, Mem.bump, AV.one, allOne, List.length_cons, List.length_nil, List.replicate_succ, List.replicate_zero, List.cons_append, List.nil_append, List.append_nil, Nat.reduceAdd, Nat.reduceSub, Nat.reduceEqDiff, Nat.zero_add, Nat.add_zero, beq_self_eq_true, if_true, if_false, ite_true, ite_false, Bool.false_eq_true, Mem.new, enter, Mem.at, Mem.blk, Mem.row, Mem.put, evFaddr, takeV_f1, takeV_t, evStore, splice, List.take_succ_cons, List.take_zero, List.drop_succ_cons, List.drop_zero, List.drop_nil, List.take_nil, List.getElem?_cons_succ, List.getElem?_cons_zero, Option.map_some, Option.bind_some, Option.map_none, Option.bind_none, List.map_cons, List.map_nil, List.head?_cons, Nat.reduceLeDiff, Nat.le_refl, decide_true, decide_false, Bool.and_self, Bool.and_true, Bool.true_and, evBin, evInt, sameKind, evMax, evMin, evUn, heads, clean, List.zipIdx_cons, List.zipIdx_nil, List.contains_cons, List.contains_nil, Bool.or_false, Bool.or_true, Bool.false_or, Bool.true_or, Nat.reduceBEq, evRess, evRes, packRes, leave_plain, Opt_some, tmps, tmpsAt, reduceIte, reduceCtorEq, AV.refs, AV.toks, live_self, e2]
        exact ⟨(i + 1, _), by dsimp only; omega, h, by dsimp only; rw [gos_take upd l i h]⟩
      · have : i = l.length := by omega
        subst this
        simp only [X_skip, X_ret, X_exit, X_ops, X_seq, X_block, X_loop, X_cond, Xc_true, Xc_false, Xs_nil, Xs_cons, Xs_guard, Xg_tt, Xg_ff, Xg_tf, Xg_ft, Xg_un, Xv_some, Xo_seq, Xo_seq_ret, Xo_seq_exit, Xo_block, Xo_block_ret, Xo_block_exit, Xo_again, Xo_again_ret, Xo_again_exit, Xo_ret, Xo_end, X_draw, Xd_nil, Xd_guard, Xu_tt, Xu_ff, Xu_tf, Xu_ft, Xu_un, Xd_flt, Xi_true, Xi_false, Xd_step, Xw_0, Xw_1, Xw_2, isS_store, isS_mov, isS_pick, isS_alloc, isS_box, isS_build, isS_lit, isS_load, isS_bin, isS_beq, isS_un, isS_conv, isS_convS, isS_toStr, isS_toBytes, isS_mkfn, isS_faddr, isS_field, isS_iaddr, isS_iaddrA, isS_indexS, isS_indexA, isS_len, isS_lenS, isS_app, isS_mx, isS_mn, isS_slice, isS_sliceA, isS_sliceS, isS_make, isS_extract, isS_call, evOp, evCall, Opd.ev, setDst, List.set_cons_succ, List.set_cons_zero, List.getD_cons_succ, List.getD_cons_zero, cells_agg, cells_bool, cells_int, cells_str, cells_nils, cells_list, cells_arr, cells_ptr, cells_ro, cells_nilptr, cells_fn, cells_nilfn, Mem.bump, AV.one, allOne, List.length_cons, List.length_nil, List.replicate_succ, List.replicate_zero, List.cons_append, List.nil_append, List.append_nil, Nat.reduceAdd, Nat.reduceSub, Nat.reduceEqDiff, Nat.zero_add, Nat.add_zero, beq_self_eq_true, if_true, if_false, ite_true, ite_false, Bool.false_eq_true, Mem.new, enter, Mem.at, Mem.blk, Mem.row, Mem.put, evFaddr, takeV_f1, takeV_t, evStore, splice, List.take_succ_cons, List.take_zero, List.drop_succ_cons, List.drop_zero, List.drop_nil, List.take_nil, List.getElem?_cons_succ, List.getElem?_cons_zero, Option.map_some, Option.bind_some, Option.map_none, Option.bind_none, List.map_cons, List.map_nil, List.head?_cons, Nat.reduceLeDiff, Nat.le_refl, decide_true, decide_false, Bool.and_self, Bool.and_true, Bool.true_and, evBin, evInt, sameKind, evMax, evMin, evUn, heads, clean, List.zipIdx_cons, List.zipIdx_nil, List.contains_cons, List.contains_nil, Bool.or_false, Bool.or_true, Bool.false_or, Bool.true_or, Nat.reduceBEq, evRess, evRes, packRes, leave_plain, Opt_some, tmps, tmpsAt, reduceIte, reduceCtorEq, AV.refs, AV.toks, live_self, Int.ofNat_lt, h, List.take_length, g1', g3, gl, ← emb_eq kk ii s nl l c]
        rw [hK' _ _ _ _ _ _ _ _ (g0 _) (by rw [gl]; omega) hg.flo, putS_putS]
        simp only [X_skip, X_ret, X_exit, X_ops, X_seq, X_block, X_loop, X_cond, Xc_true, Xc_false, Xs_nil, Xs_cons, Xs_guard, Xg_tt, Xg_ff, Xg_tf, Xg_ft, Xg_un, Xv_some, Xo_seq, Xo_seq_ret, Xo_seq_exit, Xo_block, Xo_block_ret, Xo_block_exit, Xo_again, Xo_again_ret, Xo_again_exit, Xo_ret, Xo_end, X_draw, Xd_nil, Xd_guard, Xu_tt, Xu_ff, Xu_tf, Xu_ft, Xu_un, Xd_flt, Xi_true, Xi_false, Xd_step, Xw_0, Xw_1, Xw_2, isS_store, isS_mov, isS_pick, isS_alloc, isS_box, isS_build, isS_lit, isS_load, isS_bin, isS_beq, isS_un, isS_conv, isS_convS, isS_toStr, isS_toBytes, isS_mkfn, isS_faddr, isS_field, isS_iaddr, isS_iaddrA, isS_indexS, isS_indexA, isS_len, isS_lenS, isS_app, isS_mx, isS_mn, isS_slice, isS_sliceA, isS_sliceS, isS_make, isS_extract, isS_call, evOp, evCall, Opd.ev, setDst, List.set_cons_succ, List.set_cons_zero, List.getD_cons_succ, List.getD_cons_zero, cells_agg, cells_bool, cells_int, cells_str, cells_nils, cells_list, cells_arr, cells_ptr, cells_ro, cells_nilptr, cells_fn, cells_nilfn, Mem.bump, AV.one, allOne, List.length_cons, List.length_nil, List.replicate_succ, List.replicate_zero, List.cons_append, List.nil_append, List.append_nil, Nat.reduceAdd, Nat.reduceSub, Nat.reduceEqDiff, Nat.zero_add, Nat.add_zero, beq_self_eq_true, if_true, if_false, ite_true, ite_false, Bool.false_eq_true, Mem.new, enter, Mem.at, Mem.blk, Mem.row, Mem.put, evFaddr, takeV_f1, takeV_t, evStore, splice, List.take_succ_cons, List.take_zero, List.drop_succ_cons, List.drop_zero, List.drop_nil, List.take_nil, List.getElem?_cons_succ, List.getElem?_cons_zero, Option.map_some, Option.bind_some, Option.map_none, Option.bind_none, List.map_cons, List.map_nil, List.head?_cons, Nat.reduceLeDiff, Nat.le_refl, decide_true, decide_false, Bool.and_self, Bool.and_true, Bool.true_and, evBin, evInt, sameKind, evMax, evMin, evUn, heads, clean, List.zipIdx_cons, List.zipIdx_nil, List.contains_cons, List.contains_nil, Bool.or_false, Bool.or_true, Bool.false_or, Bool.true_or, Nat.reduceBEq, evRess, evRes, packRes, leave_plain, Opt_some, tmps, tmpsAt, reduceIte, reduceCtorEq, AV.refs, AV.toks, live_self]
        rw [putS_append _ _ _ _ _ _ hl0, leave_low rfl rfl, Opt_some]
        simp only [live_self, go]
        exact ⟨_, by simp, rfl⟩
theorem w17s (hs : Sees fs caps l0 k0 st0 e upd) : ∀ (l : List Val), ∀ x, (x ∈ l ∧ wt x ≤ 6000) → Each fs caps l0 k0 st0 e upd lE st1 st2 x
  | [] => fun x hx => by cases hx.1
  | v :: r => fun x hx => by
    rcases List.mem_cons.1 hx.1 with h | h
    · rw [h]; exact w17 hs v (h ▸ hx.2)
    · exact w17s hs r x ⟨h, hx.2⟩
end
end

theorem putS_last (S : List (List Blk)) (c : List Blk) (k st : Nat) (cs : List AV) : putS (S ++ [c]) S.length k st cs = S ++ [c.set k ⟨st, cs⟩] := by
  refine List.ext_getElem? fun i => ?_
  simp only [putS, List.getElem?_modify, List.getElem?_append, Option.map_eq_map]
  by_cases hi : i < S.length
  · have : ¬ S.length = i := by omega
    simp [hi, this]
  · by_cases h2 : S.length = i
    · subst h2; simp
    · have : ¬ i - S.length = 0 := by omega
      simp [hi, h2]
      have h3 : 1 ≤ i - S.length := by omega
      rw [List.getElem?_eq_none (by simpa using h3), List.getElem?_eq_none (by simpa using h3)]

theorem getD_last (S : List (List Blk)) (c : List Blk) : (S ++ [c]).getD S.length [] = c := by simp [List.getD_eq_getElem?_getD]

theorem putS_def (S : List (List Blk)) (l k st : Nat) (cs : List AV) : (S.modify l fun f => f.set k ⟨st, cs⟩) = putS S l k st cs := rfl

def upd14 (a : Int) (_ : Val) (_ : Int) : Int × Int := (IntKind.i64.wrap (a + 1), 0)
def upd15 (_ : Unit) (v : Val) (r : Int) : Unit × Int :=
  match v with
  | .mk k _ _ _ l _ => ((), if decide ((l.length : Int) > 0) && (k == 4 || k == 7) then IntKind.i64.wrap (r + 1) else r)
def upd16 (a : Bool) (v : Val) (_ : Int) : Bool × Int :=
  match v with
  | .mk _ _ _ _ _ c => (a || c, 0)

theorem s14 (l0 k0 st0 : Nat) : Sees 14 [.ptr l0 k0 st0 0] l0 k0 st0 (fun n => [.int .i64 n]) upd14 := by
  intro S cur nx live fl a v r h1 h2 h3
  obtain ⟨kk, ii, s, nl, l, c⟩ := v
  suffices h : Does tab 14 [emb (.mk kk ii s nl l c), .int .i64 r, .ptr l0 k0 st0 0] ⟨S, cur, nx, live, fl⟩ (fun v m' => ∃ k, v = .int .i64 0 ∧ m' = ⟨putS S l0 k0 st0 [.int .i64 (IntKind.i64.wrap (a + 1))], cur, k, live, fl⟩) by
    obtain ⟨⟨x, y⟩, h1, k, h2, h3⟩ := h; dsimp only at h2 h3; subst h2 h3; exact ⟨k, h1⟩
  refine does_of t14 ?_
  have f1 : (l0 == (S ++ [cur]).length) = false := by simp; omega
  have f2 : ((S ++ [cur]).getD l0 [])[k0]? = some ⟨st0, [.int .i64 a]⟩ := by
    rw [List.getD_eq_getElem?_getD, List.getElem?_append_left h2, ← List.getD_eq_getElem?_getD]; exact h1
  rw [emb_eq]
  simp only [a14, X_skip, X_ret, X_exit, X_ops, X_seq, X_block, X_loop, X_cond, Xc_true, Xc_false, Xs_nil, Xs_cons, Xs_guard, Xg_tt, Xg_ff, Xg_tf, Xg_ft, Xg_un, Xv_some, Xo_seq, Xo_seq_ret, Xo_seq_exit, Xo_block, Xo_block_ret, Xo_block_exit, Xo_again, Xo_again_ret, Xo_again_exit, Xo_ret, Xo_end, X_draw, Xd_nil, Xd_guard, Xu_tt, Xu_ff, Xu_tf, Xu_ft, Xu_un, Xd_flt, Xi_true, Xi_false, Xd_step, Xw_0, Xw_1, Xw_2, isS_store, isS_mov, isS_pick, isS_alloc, isS_box, isS_build, isS_lit, isS_load, isS_bin, isS_beq, isS_un, isS_conv, isS_convS, isS_toStr, isS_toBytes, isS_mkfn, isS_faddr, isS_field, isS_iaddr, isS_iaddrA, isS_indexS, isS_indexA, isS_len, isS_lenS, isS_app, isS_mx, isS_mn, isS_slice, isS_sliceA, isS_sliceS, isS_make, isS_extract, isS_call, evOp, evCall, Opd.ev, setDst, List.set_cons_succ, List.set_cons_zero, List.getD_cons_succ, List.getD_cons_zero, cells_agg, cells_bool, cells_int, cells_str, cells_nils, cells_list, cells_arr, cells_ptr, cells_ro, cells_nilptr, cells_fn, cells_nilfn, Mem.bump, AV.one, allOne, List.length_cons, List.length_nil, List.replicate_succ, List.replicate_zero, List.cons_append, List.nil_append, List.append_nil, Nat.reduceAdd, Nat.reduceSub, Nat.reduceEqDiff, Nat.zero_add, Nat.add_zero, beq_self_eq_true, if_true, if_false, ite_true, ite_false, Bool.false_eq_true, Mem.new, enter, Mem.at, Mem.blk, Mem.row, Mem.put, evFaddr, takeV_f1, takeV_t, evStore, splice, List.take_succ_cons, List.take_zero, List.drop_succ_cons, List.drop_zero, List.drop_nil, List.take_nil, List.getElem?_cons_succ, List.getElem?_cons_zero, Option.map_some, Option.bind_some, Option.map_none, Option.bind_none, List.map_cons, List.map_nil, List.head?_cons, Nat.reduceLeDiff, Nat.le_refl, decide_true, decide_false, Bool.and_self, Bool.and_true, Bool.true_and, evBin, evInt, sameKind, evMax, evMin, evUn, heads, clean, List.zipIdx_cons, List.zipIdx_nil, List.contains_cons, List.contains_nil, Bool.or_false, Bool.or_true, Bool.false_or, Bool.true_or, Nat.reduceBEq, evRess, evRes, packRes, leave_plain, Opt_some, tmps, tmpsAt, reduceIte, reduceCtorEq, AV.refs, AV.toks, live_self, f1, f2, h3, putS_def]
  rw [putS_append _ _ _ _ _ _ h2, leave_low rfl rfl, Opt_some]
  simp only [live_self]
  exact ⟨_, by simp, rfl⟩

theorem s16 (l0 k0 st0 : Nat) : Sees 16 [.ptr l0 k0 st0 0] l0 k0 st0 (fun b => [.bool b]) upd16 := by
  intro S cur nx live fl a v r h1 h2 h3
  obtain ⟨kk, ii, s, nl, l, c⟩ := v
  suffices h : Does tab 16 [emb (.mk kk ii s nl l c), .int .i64 r, .ptr l0 k0 st0 0] ⟨S, cur, nx, live, fl⟩ (fun v m' => ∃ k, v = .int .i64 0 ∧ m' = ⟨putS S l0 k0 st0 [.bool (a || c)], cur, k, live, fl⟩) by
    obtain ⟨⟨x, y⟩, h1, k, h2, h3⟩ := h; dsimp only at h2 h3; subst h2 h3; exact ⟨k, h1⟩
  refine does_of t16 ?_
  have f1 : (l0 == (S ++ [cur]).length) = false := by simp; omega
  have f2 : ((S ++ [cur]).getD l0 [])[k0]? = some ⟨st0, [.bool a]⟩ := by
    rw [List.getD_eq_getElem?_getD, List.getElem?_append_left h2, ← List.getD_eq_getElem?_getD]; exact h1
  rw [emb_eq]
  cases a
  · simp only [a16, X_skip, X_ret, X_exit, X_ops, X_seq, X_block, X_loop, X_cond, Xc_true, Xc_false, Xs_nil, Xs_cons, Xs_guard, Xg_tt, Xg_ff, Xg_tf, Xg_ft, Xg_un, Xv_some, Xo_seq, Xo_seq_ret, Xo_seq_exit, Xo_block, Xo_block_ret, Xo_block_exit, Xo_again, Xo_again_ret, Xo_again_exit, Xo_ret, Xo_end, X_draw, Xd_nil, Xd_guard, Xu_tt, Xu_ff, Xu_tf, Xu_ft, Xu_un, Xd_flt, Xi_true, Xi_false, Xd_step, Xw_0, Xw_1, Xw_2, isS_store, isS_mov, isS_pick, isS_alloc, isS_box, isS_build, isS_lit, isS_load, isS_bin, isS_beq, isS_un, isS_conv, isS_convS, isS_toStr, isS_toBytes, isS_mkfn, isS_faddr, isS_field, isS_iaddr, isS_iaddrA, isS_indexS, isS_indexA, isS_len, isS_lenS, isS_app, isS_mx, isS_mn, isS_slice, isS_sliceA, isS_sliceS, isS_make, isS_extract, isS_call, evOp, evCall, Opd.ev, setDst, List.set_cons_succ, List.set_cons_zero, List.getD_cons_succ, List.getD_cons_zero, cells_agg, cells_bool, cells_int, cells_str, cells_nils, cells_list, cells_arr, cells_ptr, cells_ro, cells_nilptr, cells_fn, cells_nilfn, Mem.bump, AV.one, allOne, List.length_cons, List.length_nil, List.replicate_succ, List.replicate_zero, List.cons_append, List.nil_append, List.append_nil, Nat.reduceAdd, Nat.reduceSub, Nat.reduceEqDiff, Nat.zero_add, Nat.add_zero, beq_self_eq_true, if_true, if_false, ite_true, ite_false, Bool.false_eq_true, Mem.new, enter, Mem.at, Mem.blk, Mem.row, Mem.put, evFaddr, takeV_f1, takeV_t, evStore, splice, List.take_succ_cons, List.take_zero, List.drop_succ_cons, List.drop_zero, List.drop_nil, List.take_nil, List.getElem?_cons_succ, List.getElem?_cons_zero, Option.map_some, Option.bind_some, Option.map_none, Option.bind_none, List.map_cons, List.map_nil, List.head?_cons, Nat.reduceLeDiff, Nat.le_refl, decide_true, decide_false, Bool.and_self, Bool.and_true, Bool.true_and, evBin, evInt, sameKind, evMax, evMin, evUn, heads, clean, List.zipIdx_cons, List.zipIdx_nil, List.contains_cons, List.contains_nil, Bool.or_false, Bool.or_true, Bool.false_or, Bool.true_or, Nat.reduceBEq, evRess, evRes, packRes, leave_plain, Opt_some, tmps, tmpsAt, reduceIte, reduceCtorEq, AV.refs, AV.toks, live_self, f1, f2, h3, putS_def]
    rw [putS_append _ _ _ _ _ _ h2, leave_low rfl rfl, Opt_some]
    simp only [live_self]
    exact ⟨_, by simp, rfl⟩
  · simp only [a16, X_skip, X_ret, X_exit, X_ops, X_seq, X_block, X_loop, X_cond, Xc_true, Xc_false, Xs_nil, Xs_cons, Xs_guard, Xg_tt, Xg_ff, Xg_tf, Xg_ft, Xg_un, Xv_some, Xo_seq, Xo_seq_ret, Xo_seq_exit, Xo_block, Xo_block_ret, Xo_block_exit, Xo_again, Xo_again_ret, Xo_again_exit, Xo_ret, Xo_end, X_draw, Xd_nil, Xd_guard, Xu_tt, Xu_ff, Xu_tf, Xu_ft, Xu_un, Xd_flt, Xi_true, Xi_false, Xd_step, Xw_0, Xw_1, Xw_2, isS_store, isS_mov, isS_pick, isS_alloc, isS_box, isS_build, isS_lit, isS_load, isS_bin, isS_beq, isS_un, isS_conv, isS_convS, isS_toStr, isS_toBytes, isS_mkfn, isS_faddr, isS_field, isS_iaddr, isS_iaddrA, isS_indexS, isS_indexA, isS_len, isS_lenS, isS_app, isS_mx, isS_mn, isS_slice, isS_sliceA, isS_sliceS, isS_make, isS_extract, isS_call, evOp, evCall, Opd.ev, setDst, List.set_cons_succ, List.set_cons_zero, List.getD_cons_succ, List.getD_cons_zero, cells_agg, cells_bool, cells_int, cells_str, cells_nils, cells_list, cells_arr, cells_ptr, cells_ro, cells_nilptr, cells_fn, cells_nilfn, Mem.bump, AV.one, allOne, List.length_cons, List.length_nil, List.replicate_succ, List.replicate_zero, List.cons_append, List.nil_append, List.append_nil, Nat.reduceAdd, Nat.reduceSub, Nat.reduceEqDiff, Nat.zero_add, Nat.add_zero, beq_self_eq_true, if_true, if_false, ite_true, ite_false, Bool.false_eq_true, Mem.new, enter, Mem.at, Mem.blk, Mem.row, Mem.put, evFaddr, takeV_f1, takeV_t, evStore, splice, List.take_succ_cons, List.take_zero, List.drop_succ_cons, List.drop_zero, List.drop_nil, List.take_nil, List.getElem?_cons_succ, List.getElem?_cons_zero, Option.map_some, Option.bind_some, Option.map_none, Option.bind_none, List.map_cons, List.map_nil, List.head?_cons, Nat.reduceLeDiff, Nat.le_refl, decide_true, decide_false, Bool.and_self, Bool.and_true, Bool.true_and, evBin, evInt, sameKind, evMax, evMin, evUn, heads, clean, List.zipIdx_cons, List.zipIdx_nil, List.contains_cons, List.contains_nil, Bool.or_false, Bool.or_true, Bool.false_or, Bool.true_or, Nat.reduceBEq, evRess, evRes, packRes, leave_plain, Opt_some, tmps, tmpsAt, reduceIte, reduceCtorEq, AV.refs, AV.toks, live_self, f1, f2, h3, putS_def]
    rw [putS_append _ _ _ _ _ _ h2, leave_low rfl rfl, Opt_some]
    simp only [live_self]
    exact ⟨_, by simp, rfl⟩

theorem s15 (l0 k0 st0 : Nat) (cs : List AV) : Sees 15 [] l0 k0 st0 (fun _ : Unit => cs) upd15 := by
  intro S cur nx live fl a v r h1 h2 h3
  obtain ⟨kk, ii, s, nl, l, c⟩ := v
  rw [putS_same _ _ _ _ _ h1]
  suffices h : Does tab 15 [emb (.mk kk ii s nl l c), .int .i64 r] ⟨S, cur, nx, live, fl⟩ (fun v m' => ∃ k, v = .int .i64 (upd15 a (.mk kk ii s nl l c) r).2 ∧ m' = ⟨S, cur, k, live, fl⟩) by
    obtain ⟨x, h1, k, h2, h3⟩ := h; exact ⟨k, by rw [h1, ← h2, ← h3]⟩
  refine does_of t15 ?_
  rw [emb_eq]
  simp only [a15, X_skip, X_ret, X_exit, X_ops, X_seq, X_block, X_loop, X_cond, Xc_true, Xc_false, Xs_nil, Xs_cons, Xs_guard, Xg_tt, Xg_ff, Xg_tf, Xg_ft, Xg_un, Xv_some, Xo_seq, Xo_seq_ret, Xo_seq_exit, Xo_block, Xo_block_ret, Xo_block_exit, Xo_again, Xo_again_ret, Xo_again_exit, Xo_ret, Xo_end, X_draw, Xd_nil, Xd_guard, Xu_tt, Xu_ff, Xu_tf, Xu_ft, Xu_un, Xd_flt, Xi_true, Xi_false, Xd_step, Xw_0, Xw_1, Xw_2, isS_store, isS_mov, isS_pick, isS_alloc, isS_box, isS_build, isS_lit, isS_load, isS_bin, isS_beq, isS_un, isS_conv, isS_convS, isS_toStr, isS_toBytes, isS_mkfn, isS_faddr, isS_field, isS_iaddr, isS_iaddrA, isS_indexS, isS_indexA, isS_len, isS_lenS, isS_app, isS_mx, isS_mn, isS_slice, isS_sliceA, isS_sliceS, isS_make, isS_extract, isS_call, evOp, evCall, Opd.ev, setDst, List.set_cons_succ, List.set_cons_zero, List.getD_cons_succ, List.getD_cons_zero, cells_agg, cells_bool, cells_int, cells_str, cells_nils, cells_list, cells_arr, cells_ptr, cells_ro, cells_nilptr, cells_fn, cells_nilfn, Mem.bump, AV.one, allOne, List.length_cons, List.length_nil, List.replicate_succ, List.replicate_zero, List.cons_append, List.nil_append, List.append_nil, Nat.reduceAdd, Nat.reduceSub, Nat.reduceEqDiff, Nat.zero_add, Nat.add_zero, beq_self_eq_true, if_true, if_false, ite_true, ite_false, Bool.false_eq_true, Mem.new, enter, Mem.at, Mem.blk, Mem.row, Mem.put, evFaddr, takeV_f1, takeV_t, evStore, splice, List.take_succ_cons, List.take_zero, List.drop_succ_cons, List.drop_zero, List.drop_nil, List.take_nil, List.getElem?_cons_succ, List.getElem?_cons_zero, Option.map_some, Option.bind_some, Option.map_none, Option.bind_none, List.map_cons, List.map_nil, List.head?_cons, Nat.reduceLeDiff, Nat.le_refl, decide_true, decide_false, Bool.and_self, Bool.and_true, Bool.true_and, evBin, evInt, sameKind, evMax, evMin, evUn, heads, clean, List.zipIdx_cons, List.zipIdx_nil, List.contains_cons, List.contains_nil, Bool.or_false, Bool.or_true, Bool.false_or, Bool.true_or, Nat.reduceBEq, evRess, evRes, packRes, leave_plain, Opt_some, tmps, tmpsAt, reduceIte, reduceCtorEq, AV.refs, AV.toks, live_self, lst_len, upd15]
  cases e1 : decide ((l.length : Int) > 0)
  · simp only [X_skip, X_ret, X_exit, X_ops, X_seq, X_block, X_loop, X_cond, Xc_true, Xc_false, Xs_nil, Xs_cons, Xs_guard, Xg_tt, Xg_ff, Xg_tf, Xg_ft, Xg_un, Xv_some, Xo_seq, Xo_seq_ret, Xo_seq_exit, Xo_block, Xo_block_ret, Xo_block_exit, Xo_again, Xo_again_ret, Xo_again_exit, Xo_ret, Xo_end, X_draw, Xd_nil, Xd_guard, Xu_tt, Xu_ff, Xu_tf, Xu_ft, Xu_un, Xd_flt, Xi_true, Xi_false, Xd_step, Xw_0, Xw_1, Xw_2, isS_store, isS_mov, isS_pick, isS_alloc, isS_box, isS_build, isS_lit, isS_load, isS_bin, isS_beq, isS_un, isS_conv, isS_convS, isS_toStr, isS_toBytes, isS_mkfn, isS_faddr, isS_field, isS_iaddr, isS_iaddrA, isS_indexS, isS_indexA, isS_len, isS_lenS, isS_app, isS_mx, isS_mn, isS_slice, isS_sliceA, isS_sliceS, isS_make, isS_extract, isS_call, evOp, evCall, Opd.ev, setDst, List.set_cons_succ, List.set_cons_zero, List.getD_cons_succ, List.getD_cons_zero, cells_agg, cells_bool, cells_int, cells_str, cells_nils, cells_list, cells_arr, cells_ptr, cells_ro, cells_nilptr, cells_fn, cells_nilfn, Mem.bump, AV.one, allOne, List.length_cons, List.length_nil, List.replicate_succ, List.replicate_zero, List.cons_append, List.nil_append, List.append_nil, Nat.reduceAdd, Nat.reduceSub, Nat.reduceEqDiff, Nat.zero_add, Nat.add_zero, beq_self_eq_true, if_true, if_false, ite_true, ite_false, Bool.false_eq_true, Mem.new, enter, Mem.at, Mem.blk, Mem.row, Mem.put, evFaddr, takeV_f1, takeV_t, evStore, splice, List.take_succ_cons, List.take_zero, List.drop_succ_cons, List.drop_zero, List.drop_nil, List.take_nil, List.getElem?_cons_succ, List.getElem?_cons_zero, Option.map_some, Option.bind_some, Option.map_none, Option.bind_none, List.map_cons, List.map_nil, List.head?_cons, Nat.reduceLeDiff, Nat.le_refl, decide_true, decide_false, Bool.and_self, Bool.and_true, Bool.true_and, evBin, evInt, sameKind, evMax, evMin, evUn, heads, clean, List.zipIdx_cons, List.zipIdx_nil, List.contains_cons, List.contains_nil, Bool.or_false, Bool.or_true, Bool.false_or, Bool.true_or, Nat.reduceBEq, evRess, evRes, packRes, leave_plain, Opt_some, tmps, tmpsAt, reduceIte, reduceCtorEq, AV.refs, AV.toks, live_self]
    rw [leave_low rfl rfl, Opt_some]
    simp only [live_self]
    exact ⟨_, by simp, rfl⟩
  · cases e2 : (kk == 4)
    · cases e3 : (kk == 7)
      · simp only [X_skip, X_ret, X_exit, X_ops, X_seq, X_block, X_loop, X_cond, Xc_true, Xc_false, Xs_nil, Xs_cons, Xs_guard, Xg_tt, Xg_ff, Xg_tf, Xg_ft, Xg_un, Xv_some, Xo_seq, Xo_seq_ret, Xo_seq_exit, Xo_block, Xo_block_ret, Xo_block_exit, Xo_again, Xo_again_ret, Xo_again_exit, Xo_ret, Xo_end, X_draw, Xd_nil, Xd_guard, Xu_tt, Xu_ff, Xu_tf, Xu_ft, Xu_un, Xd_flt, Xi_true, Xi_false, Xd_step, Xw_0, Xw_1, Xw_2, isS_store, isS_mov, isS_pick, isS_alloc, isS_box, isS_build, isS_lit, isS_load, isS_bin, isS_beq, isS_un, isS_conv, isS_convS, isS_toStr, isS_toBytes, isS_mkfn, isS_faddr, isS_field, isS_iaddr, isS_iaddrA, isS_indexS, isS_indexA, isS_len, isS_lenS, isS_app, isS_mx, isS_mn, isS_slice, isS_sliceA, isS_sliceS, isS_make, isS_extract, isS_call, evOp, evCall, Opd.ev, setDst, List.set_cons_succ, List.set_cons_zero, List.getD_cons_succ, List.getD_cons_zero, cells_agg, cells_bool, cells_int, cells_str, cells_nils, cells_list, cells_arr, cells_ptr, cells_ro, cells_nilptr, cells_fn, cells_nilfn, Mem.bump, AV.one, allOne, List.length_cons, List.length_nil, List.replicate_succ, List.replicate_zero, List.cons_append, List.nil_append, List.append_nil, Nat.reduceAdd, Nat.reduceSub, Nat.reduceEqDiff, Nat.zero_add, Nat.add_zero, beq_self_eq_true, if_true, if_false, ite_true, ite_false, Bool.false_eq_true, Mem.new, enter, Mem.at, Mem.blk, Mem.row, Mem.put, evFaddr, takeV_f1, takeV_t, evStore, splice, List.take_succ_cons, List.take_zero, List.drop_succ_cons, List.drop_zero, List.drop_nil, List.take_nil, List.getElem?_cons_succ, List.getElem?_cons_zero, Option.map_some, Option.bind_some, Option.map_none, Option.bind_none, List.map_cons, List.map_nil, List.head?_cons, Nat.reduceLeDiff, Nat.le_refl, decide_true, decide_false, Bool.and_self, Bool.and_true, Bool.true_and, evBin, evInt, sameKind, evMax, evMin, evUn, heads, clean, List.zipIdx_cons, List.zipIdx_nil, List.contains_cons, List.contains_nil, Bool.or_false, Bool.or_true, Bool.false_or, Bool.true_or, Nat.reduceBEq, evRess, evRes, packRes, leave_plain, Opt_some, tmps, tmpsAt, reduceIte, reduceCtorEq, AV.refs, AV.toks, live_self, e2, e3]
        rw [leave_low rfl rfl, Opt_some]
        simp only [live_self]
        exact ⟨_, by simp, rfl⟩
      · simp only [X_skip, X_ret, X_exit, X_ops, X_seq, X_block, X_loop, X_cond, Xc_true, Xc_false, Xs_nil, Xs_cons, Xs_guard, Xg_tt, Xg_ff, Xg_tf, Xg_ft, Xg_un, Xv_some, Xo_seq, Xo_seq_ret, Xo_seq_exit, Xo_block, Xo_block_ret, Xo_block_exit, Xo_again, Xo_again_ret, Xo_again_exit, Xo_ret, Xo_end, X_draw, Xd_nil, Xd_guard, Xu_tt, Xu_ff, Xu_tf, Xu_ft, Xu_un, Xd_flt, Xi_true, Xi_false, Xd_step, Xw_0, Xw_1, Xw_2, isS_store, isS_mov, isS_pick, isS_alloc, isS_box, isS_build, isS_lit, isS_load, isS_bin, isS_beq, isS_un, isS_conv, isS_convS, isS_toStr, isS_toBytes, isS_mkfn, isS_faddr, isS_field, isS_iaddr, isS_iaddrA, isS_indexS, isS_indexA, isS_len, isS_lenS, isS_app, isS_mx, isS_mn, isS_slice, isS_sliceA, isS_sliceS, isS_make, isS_extract, isS_call, evOp, evCall, Opd.ev, setDst, List.set_cons_succ, List.set_cons_zero, List.getD_cons_succ, List.getD_cons_zero, cells_agg, cells_bool, cells_int, cells_str, cells_nils, cells_list, cells_arr, cells_ptr, cells_ro, cells_nilptr, cells_fn, cells_nilfn, Mem.bump, AV.one, allOne, List.length_cons, List.length_nil, List.replicate_succ, List.replicate_zero, List.cons_append, List.nil_append, List.append_nil, Nat.reduceAdd, Nat.reduceSub, Nat.reduceEqDiff, Nat.zero_add, Nat.add_zero, beq_self_eq_true, if_true, if_false, ite_true, ite_false, Bool.false_eq_true, Mem.new, enter, Mem.at, Mem.blk, Mem.row, Mem.put, evFaddr, takeV_f1, takeV_t, evStore, splice, List.take_succ_cons, List.take_zero, List.drop_succ_cons, List.drop_zero, List.drop_nil, List.take_nil, List.getElem?_cons_succ, List.getElem?_cons_zero, Option.map_some, Option.bind_some, Option.map_none, Option.bind_none, List.map_cons, List.map_nil, List.head?_cons, Nat.reduceLeDiff, Nat.le_refl, decide_true, decide_false, Bool.and_self, Bool.and_true, Bool.true_and, evBin, evInt, sameKind, evMax, evMin, evUn, heads, clean, List.zipIdx_cons, List.zipIdx_nil, List.contains_cons, List.contains_nil, Bool.or_false, Bool.or_true, Bool.false_or, Bool.true_or, Nat.reduceBEq, evRess, evRes, packRes, leave_plain, Opt_some, tmps, tmpsAt, reduceIte, reduceCtorEq, AV.refs, AV.toks, live_self, e2, e3]
        rw [leave_low rfl rfl, Opt_some]
        simp only [live_self]
        exact ⟨_, by simp, rfl⟩
    · simp only [X_skip, X_ret, X_exit, X_ops, X_seq, X_block, X_loop, X_cond, Xc_true, Xc_false, Xs_nil, Xs_cons, Xs_guard, Xg_tt, Xg_ff, Xg_tf, Xg_ft, Xg_un, Xv_some, Xo_seq, Xo_seq_ret, Xo_seq_exit, Xo_block, Xo_block_ret, Xo_block_exit, Xo_again, Xo_again_ret, Xo_again_exit, Xo_ret, Xo_end, X_draw, Xd_nil, Xd_guard, Xu_tt, Xu_ff, Xu_tf, Xu_ft, Xu_un, Xd_flt, Xi_true, Xi_false, Xd_step, Xw_0, Xw_1, Xw_2, isS_store, isS_mov, isS_pick, isS_alloc, isS_box, isS_build, isS_lit, isS_load, isS_bin, isS_beq, isS_un, isS_conv, isS_convS, isS_toStr, isS_toBytes, isS_mkfn, isS_faddr, isS_field, isS_iaddr, isS_iaddrA, isS_indexS, isS_indexA, isS_len, isS_lenS, isS_app, isS_mx, isS_mn, isS_slice, isS_sliceA, isS_sliceS, isS_make, isS_extract, isS_call, evOp, evCall, Opd.ev, setDst, List.set_cons_succ, List.set_cons_zero, List.getD_cons_succ, List.getD_cons_zero, cells_agg, cells_bool, cells_int, cells_str, cells_nils, cells_list, cells_arr, cells_ptr, cells_ro, cells_nilptr, cells_fn, cells_nilfn, Mem.bump, AV.one, allOne, List.length_cons, List.length_nil, List.replicate_succ, List.replicate_zero, List.cons_append, List.nil_append, List.append_nil, Nat.reduceAdd, Nat.reduceSub, Nat.reduceEqDiff, Nat.zero_add, Nat.add_zero, beq_self_eq_true, if_true, if_false, ite_true, ite_false, Bool.false_eq_true, Mem.new, enter, Mem.at, Mem.blk, Mem.row, Mem.put, evFaddr, takeV_f1, takeV_t, evStore, splice, List.take_succ_cons, List.take_zero, List.drop_succ_cons, List.drop_zero, List.drop_nil, List.take_nil, List.getElem?_cons_succ, List.getElem?_cons_zero, Option.map_some, Option.bind_some, Option.map_none, Option.bind_none, List.map_cons, List.map_nil, List.head?_cons, Nat.reduceLeDiff, Nat.le_refl, decide_true, decide_false, Bool.and_self, Bool.and_true, Bool.true_and, evBin, evInt, sameKind, evMax, evMin, evUn, heads, clean, List.zipIdx_cons, List.zipIdx_nil, List.contains_cons, List.contains_nil, Bool.or_false, Bool.or_true, Bool.false_or, Bool.true_or, Nat.reduceBEq, evRess, evRes, packRes, leave_plain, Opt_some, tmps, tmpsAt, reduceIte, reduceCtorEq, AV.refs, AV.toks, live_self, e2]
      rw [leave_low rfl rfl, Opt_some]
      simp only [live_self]
      exact ⟨_, by simp, rfl⟩

section
variable {A : Type} {fs : Nat} {caps : List AV} {k0 st0 : Nat} {e : A → List AV} {upd : A → Val → Int → A × Int}
theorem w13 (v : Val) (hw : wt v ≤ 6000) (S : List (List Blk)) (cur : List Blk) (nx : Nat) (live : List Nat) (fl : Nat) (a : A) (hs : Sees fs caps S.length k0 st0 e upd) (hfl : fl ≤ S.length) (hc : cur[k0]? = some ⟨st0, e a⟩) :
    ∃ k, CALL tab 13 [emb v, .fn (.func fs) [] caps] ⟨S, cur, nx, live, fl⟩ = some (.int .i64 (go upd a v).2, ⟨S, cur.set k0 ⟨st0, e (go upd a v).1⟩, k, live, fl⟩) := by
  obtain ⟨kk, ii, s, nl, l, c⟩ := v
  suffices h : Does tab 13 [emb (.mk kk ii s nl l c), .fn (.func fs) [] caps] ⟨S, cur, nx, live, fl⟩ (fun v m' => ∃ k, v = .int .i64 (go upd a (.mk kk ii s nl l c)).2 ∧ m' = ⟨S, cur.set k0 ⟨st0, e (go upd a (.mk kk ii s nl l c)).1⟩, k, live, fl⟩) by
    obtain ⟨x, h1, k, h2, h3⟩ := h; exact ⟨k, by rw [h1, ← h2, ← h3]⟩
  refine does_of t13 ?_
  have f1 : fl ≤ (S ++ [cur]).length := by simp; omega
  have hE := w17 fs caps S.length k0 st0 e upd (lE := (S ++ [cur]).length) (st1 := nx + 1) (st2 := nx + 1 + 1) hs (.mk kk ii s nl l c) hw (S ++ [cur])
    [⟨nx, [.int .u8 kk, .int .i64 ii, .str s, lst nl l, .bool c]⟩, ⟨nx + 1, [.fn (.func fs) [] caps]⟩, ⟨nx + 1 + 1, [.fn (.func 17) [] [.ptr (S ++ [cur]).length 2 (nx + 1 + 1) 0, .ptr (S ++ [cur]).length 1 (nx + 1) 0]]⟩] (nx + 1 + 1 + 1) live fl a
    ⟨Nat.le_refl _, by simp, hfl, by rw [getD_last]; exact hc, by rw [getD_last]; rfl, by rw [getD_last]; rfl⟩
  obtain ⟨k, hk⟩ := hE
  rw [emb_eq] at hk ⊢
  simp only [a13, X_skip, X_ret, X_exit, X_ops, X_seq, X_block, X_loop, X_cond, Xc_true, Xc_false, Xs_nil, Xs_cons, Xs_guard, Xg_tt, Xg_ff, Xg_tf, Xg_ft, Xg_un, Xv_some, Xo_seq, Xo_seq_ret, Xo_seq_exit, Xo_block, Xo_block_ret, Xo_block_exit, Xo_again, Xo_again_ret, Xo_again_exit, Xo_ret, Xo_end, X_draw, Xd_nil, Xd_guard, Xu_tt, Xu_ff, Xu_tf, Xu_ft, Xu_un, Xd_flt, Xi_true, Xi_false, Xd_step, Xw_0, Xw_1, Xw_2, isS_store, isS_mov, isS_pick, isS_alloc, isS_box, isS_build, isS_lit, isS_load, isS_bin, isS_beq, isS_un, isS_conv, isS_convS, isS_toStr, isS_toBytes, isS_mkfn, isS_faddr, isS_field, isS_iaddr, isS_iaddrA, isS_indexS, isS_indexA, isS_len, isS_lenS, isS_app, isS_mx, isS_mn, isS_slice, isS_sliceA, isS_sliceS, isS_make, isS_extract, isS_call, evOp, evCall, Opd.ev, setDst, List.set_cons_succ, List.set_cons_zero, List.getD_cons_succ, List.getD_cons_zero, cells_agg, cells_bool, cells_int, cells_str, cells_nils, cells_list, cells_arr, cells_ptr, cells_ro, cells_nilptr, cells_fn, cells_nilfn, Mem.bump, AV.one, allOne, List.length_cons, List.length_nil, List.replicate_succ, List.replicate_zero, List.cons_append, List.nil_append, List.append_nil, Nat.reduceAdd, Nat.reduceSub, Nat.reduceEqDiff, Nat.zero_add, Nat.add_zero, beq_self_eq_true, if_true, if_false, ite_true, ite_false, Bool.false_eq_true, Mem.new, enter, Mem.at, Mem.blk, Mem.row, Mem.put, evFaddr, takeV_f1, takeV_t, evStore, splice, List.take_succ_cons, List.take_zero, List.drop_succ_cons, List.drop_zero, List.drop_nil, List.take_nil, List.getElem?_cons_succ, List.getElem?_cons_zero, Option.map_some, Option.bind_some, Option.map_none, Option.bind_none, List.map_cons, List.map_nil, List.head?_cons, Nat.reduceLeDiff, Nat.le_refl, decide_true, decide_false, Bool.and_self, Bool.and_true, Bool.true_and, evBin, evInt, sameKind, evMax, evMin, evUn, heads, clean, List.zipIdx_cons, List.zipIdx_nil, List.contains_cons, List.contains_nil, Bool.or_false, Bool.or_true, Bool.false_or, Bool.true_or, Nat.reduceBEq, evRess, evRes, packRes, leave_plain, Opt_some, tmps, tmpsAt, reduceIte, reduceCtorEq, AV.refs, AV.toks, live_self, f1]
  rw [hk]
  simp only [X_skip, X_ret, X_exit, X_ops, X_seq, X_block, X_loop, X_cond, Xc_true, Xc_false, Xs_nil, Xs_cons, Xs_guard, Xg_tt, Xg_ff, Xg_tf, Xg_ft, Xg_un, Xv_some, Xo_seq, Xo_seq_ret, Xo_seq_exit, Xo_block, Xo_block_ret, Xo_block_exit, Xo_again, Xo_again_ret, Xo_again_exit, Xo_ret, Xo_end, X_draw, Xd_nil, Xd_guard, Xu_tt, Xu_ff, Xu_tf, Xu_ft, Xu_un, Xd_flt, Xi_true, Xi_false, Xd_step, Xw_0, Xw_1, Xw_2, isS_store, isS_mov, isS_pick, isS_alloc, isS_box, isS_build, isS_lit, isS_load, isS_bin, isS_beq, isS_un, isS_conv, isS_convS, isS_toStr, isS_toBytes, isS_mkfn, isS_faddr, isS_field, isS_iaddr, isS_iaddrA, isS_indexS, isS_indexA, isS_len, isS_lenS, isS_app, isS_mx, isS_mn, isS_slice, isS_sliceA, isS_sliceS, isS_make, isS_extract, isS_call, evOp, evCall, Opd.ev, setDst, List.set_cons_succ, List.set_cons_zero, List.getD_cons_succ, List.getD_cons_zero, cells_agg, cells_bool, cells_int, cells_str, cells_nils, cells_list, cells_arr, cells_ptr, cells_ro, cells_nilptr, cells_fn, cells_nilfn, Mem.bump, AV.one, allOne, List.length_cons, List.length_nil, List.replicate_succ, List.replicate_zero, List.cons_append, List.nil_append, List.append_nil, Nat.reduceAdd, Nat.reduceSub, Nat.reduceEqDiff, Nat.zero_add, Nat.add_zero, beq_self_eq_true, if_true, if_false, ite_true, ite_false, Bool.false_eq_true, Mem.new, enter, Mem.at, Mem.blk, Mem.row, Mem.put, evFaddr, takeV_f1, takeV_t, evStore, splice, List.take_succ_cons, List.take_zero, List.drop_succ_cons, List.drop_zero, List.drop_nil, List.take_nil, List.getElem?_cons_succ, List.getElem?_cons_zero, Option.map_some, Option.bind_some, Option.map_none, Option.bind_none, List.map_cons, List.map_nil, List.head?_cons, Nat.reduceLeDiff, Nat.le_refl, decide_true, decide_false, Bool.and_self, Bool.and_true, Bool.true_and, evBin, evInt, sameKind, evMax, evMin, evUn, heads, clean, List.zipIdx_cons, List.zipIdx_nil, List.contains_cons, List.contains_nil, Bool.or_false, Bool.or_true, Bool.false_or, Bool.true_or, Nat.reduceBEq, evRess, evRes, packRes, leave_plain, Opt_some, tmps, tmpsAt, reduceIte, reduceCtorEq, AV.refs, AV.toks, live_self, putS_last]
  rw [leave_low rfl rfl, Opt_some]
  simp only [live_self]
  exact ⟨_, by simp, rfl⟩
end

end Go.Proofs.L1
