/-
  R5S8
-/
import Derived.Test.YtbbljkjdjjoapaaR5S6
namespace Go.Proofs.W
open Go.Vs
set_option linter.unusedSimpArgs false
set_option maxRecDepth 100000

theorem set_mid {A : List Nat} {n i v : Nat} (h : A.length = i) (hi : i < n) : (A ++ List.replicate (n - i) 0).set i v = A ++ [v] ++ List.replicate (n - (i + 1)) 0 := by
  rw [List.set_append, if_neg (by omega)]
  rw [show n - i = (n - (i + 1)) + 1 by omega, List.replicate_succ, show i - A.length = 0 by omega]
  simp
theorem getD_app {A B : List Nat} {j : Nat} (h : j < A.length) : (A ++ B).getD j 0 = A.getD j 0 := by
  simp [List.getD_eq_getElem?_getD, List.getElem?_append_left h]

set_option maxHeartbeats 8000000 in
theorem w_kinds_widths (l : List DTyp) (x : AV) (hx : IsSl IsTyp 4 l x) (hv : ValidT l) (hl : l.length ≤ 100) (stk : List (List Blk)) (cur : List Blk) (nx fl : Nat) (live : List (List Nat)) :
    ∃ bs j st k, CALL tab F_kinds_widths [x] ⟨stk, cur, nx, live, fl⟩ = some (.arr stk.length (cur.length + j) st 0 l.length, ⟨stk, cur ++ bs, k, live, fl⟩) ∧ bs[j]? = some ⟨st, ints (rounds l 4)⟩ := by
  suffices h : Does tab F_kinds_widths [x] ⟨stk, cur, nx, live, fl⟩ fun v m' => ∃ bs j st k, v = .arr stk.length (cur.length + j) st 0 l.length ∧ m' = ⟨stk, cur ++ bs, k, live, fl⟩ ∧ bs[j]? = some ⟨st, ints (rounds l 4)⟩ by
    obtain ⟨z, h1, bs, j, st, k, h2, h3, h4⟩ := h
    exact ⟨bs, j, st, k, by rw [h1, ← h2, ← h3], h4⟩
  refine does_of t_kinds_widths ?_ (Nat.le_of_ble_eq_true rfl)
  have hmk : ∀ m : Mem, evMake m 1 8 [.int .i64 0] (.int .i64 l.length) (.int .i64 l.length) = some (.arr m.stk.length m.cur.length m.nx 0 l.length, { m with cur := m.cur ++ [⟨m.nx, ints (List.replicate l.length 0)⟩], nx := m.nx + 1 }) := fun m => by
    unfold evMake
    simp only
    rw [if_pos ⟨trivial, by omega, by omega, by omega, rfl⟩, Int.toNat_natCast, ints_rep]
  simp only [a_kinds_widths, go_sem, reduceIte, reduceCtorEq, Nat.reduceAdd, Nat.reduceSub, Nat.reduceEqDiff, Nat.reduceLeDiff, Nat.reduceBEq, Nat.reduceLT, hx.len, hmk]
  refine XL_rule (α := Nat) (fun r σ => r ≤ 4 ∧ ∃ L k st nz, k < L.length ∧ L[k]? = some ⟨st, ints (rounds l r)⟩ ∧ heads [0, 3, 13, 999999] 1 σ = ⟨tmps 82 [(0, x), (3, .arr (stk ++ [cur]).length k st 0 l.length), (13, .int .i64 r), (999999, .undef)], ⟨stk ++ [cur], L, nz, [] :: live, fl⟩⟩) (fun r => 4 - r) 0 ?_ ?_
  · refine ⟨by omega, [⟨nx, ints (List.replicate l.length 0)⟩], 0, nx, nx + 1, by simp, rfl, ?_⟩
    simp only [go_sem, reduceIte, reduceCtorEq, Nat.reduceAdd, Nat.reduceSub, Nat.reduceEqDiff, Nat.reduceLeDiff, Nat.reduceBEq, Nat.reduceLT]
    rfl
  · rintro r σ ⟨hr, L, kb, st, nz, hkb, hLk, hσ⟩
    rw [hσ]
    clear hσ σ
    dsimp only at hr ⊢
    by_cases h4 : r < 4
    · have h4' : (r : Int) < 4 := by omega
      have hr1 : IntKind.i64.wrap ((r : Int) + 1) = ((r + 1 : Nat) : Int) := by rw [wrap_i64' (by omega) (by omega)]; omega
      simp only [go_sem, reduceIte, reduceCtorEq, Nat.reduceAdd, Nat.reduceSub, Nat.reduceEqDiff, Nat.reduceLeDiff, Nat.reduceBEq, Nat.reduceLT, blk_len1, blk_len2, blk_len3, blk_g11, blk_g21, blk_g31, blk_g22, blk_g32, blk_g33, blk_s11, blk_s21, blk_s22, blk_s33, blk_t11, blk_t21, blk_t22, blk_t32, ints_len, Nat.mul_one, h4', hx.len, hmk]
      have hbel := rounds_le l r
      have hblen := rounds_len l r
      have hrr : rounds l (r + 1) = rnd (rounds l r) l := rfl
      generalize rounds l r = bel at *
      refine XL_rule (α := Nat) (fun i σ => i ≤ l.length ∧ ∃ nz', heads [0, 3, 4, 13, 18, 19, 20] (L.length + 1) σ = ⟨tmps 82 [(0, x), (3, .arr (stk ++ [cur]).length kb st 0 l.length), (4, .arr (stk ++ [cur]).length L.length nz 0 l.length), (13, .int .i64 r), (18, x), (19, .int .i64 l.length), (20, .int .i64 i)], ⟨stk ++ [cur], L ++ [⟨nz, ints (rnd bel (l.take i) ++ List.replicate (l.length - i) 0)⟩], nz', [] :: live, fl⟩⟩) (fun i => l.length - i) 0 ?_ ?_
      · refine ⟨Nat.zero_le _, ?_⟩
        simp only [go_sem, reduceIte, reduceCtorEq, Nat.reduceAdd, Nat.reduceSub, Nat.reduceEqDiff, Nat.reduceLeDiff, Nat.reduceBEq, Nat.reduceLT, blk_len1, blk_len2, blk_len3, blk_g11, blk_g21, blk_g31, blk_g22, blk_g32, blk_g33, blk_s11, blk_s21, blk_s22, blk_s33, blk_t11, blk_t21, blk_t22, blk_t32, ints_len, Nat.mul_one, rnd, Nat.sub_zero]
        exact ⟨_, rfl⟩
      · rintro i σ ⟨hi, nz', hσ⟩
        rw [hσ]
        clear hσ σ
        dsimp only at hi ⊢
        by_cases h : i < l.length
        · have hfine := hv i h
          obtain ⟨v, e1, q1⟩ := hx.nth h
          have hat := hx.at .i64 h
          have hAl := rnd_len bel l i hi
          have hrs := rnd_succ bel l h
          have hle := rnd_le bel l i hi
          have hflen := fine_len hfine
          generalize hout : rnd bel (l.take i) = A at *
          have hmax := hx.max
          generalize ht : l[i] = t at *
          clear ht
          generalize hn : l.length = n at *
          obtain ⟨kind, elem, len, fields⟩ := t
          dsimp only at e1 q1 hflen
          have hgA : ∀ j, j < i → takeV false 1 ((ints (A ++ List.replicate (n - i) 0)).drop j) = some (.int .i64 ((A.getD j 0 : Nat) : Int)) := fun j hj => by
            rw [ints_get (by simp; omega), getD_app (by omega)]
          have hgB : ∀ j, j < n → takeV false 1 ((ints bel).drop j) = some (.int .i64 ((bel.getD j 0 : Nat) : Int)) := fun j hj => ints_get (by omega)
          have hcB := getD_le hbel elem.toNat
          have hcA := getD_le hle elem.toNat
          simp only [go_sem, reduceIte, reduceCtorEq, Nat.reduceAdd, Nat.reduceSub, Nat.reduceEqDiff, Nat.reduceLeDiff, Nat.reduceBEq, Nat.reduceLT, blk_len1, blk_len2, blk_len3, blk_g11, blk_g21, blk_g31, blk_g22, blk_g32, blk_g33, blk_s11, blk_s21, blk_s22, blk_s33, blk_t11, blk_t21, blk_t22, blk_t32, ints_len, Nat.mul_one, Int.ofNat_lt, h, hat, e1, q1.one]
          by_cases k4 : kind = 4
          · subst k4
            have hel := hflen.2.2.1 (.inl rfl)
            have hf := hel.2.2
            have hix := idx_in .i64 (p := elem) (n := n) ⟨hel.1, hel.2.1⟩
            have ew : IntKind.i64.wrap (1 + ((bel.getD elem.toNat 0 : Nat) : Int)) = ((1 + bel.getD elem.toNat 0 : Nat) : Int) := by rw [wrap_i64' (by omega) (by omega)]; omega
            have hV : min 5001 (1 + bel.getD elem.toNat 0) = w1 ⟨4, elem, len, fields⟩ bel A := by unfold w1 contrib fsum; simp [hf]
            simp only [go_sem, reduceIte, reduceCtorEq, Nat.reduceAdd, Nat.reduceSub, Nat.reduceEqDiff, Nat.reduceLeDiff, Nat.reduceBEq, Nat.reduceLT, blk_len1, blk_len2, blk_len3, blk_g11, blk_g21, blk_g31, blk_g22, blk_g32, blk_g33, blk_s11, blk_s21, blk_s22, blk_s33, blk_t11, blk_t21, blk_t22, blk_t32, ints_len, Nat.mul_one, evIaddr_arr, hix, blk_old2 _ _ _ hkb, hLk, hgB _ (show elem.toNat < n by omega), ew, q1.len]
            have hf0 : ((fields.length : Nat) : Int) = 0 := by rw [hf]; rfl
            rw [XL_once]
            simp only [go_sem, reduceIte, reduceCtorEq, Nat.reduceAdd, Nat.reduceSub, Nat.reduceEqDiff, Nat.reduceLeDiff, Nat.reduceBEq, Nat.reduceLT, blk_len1, blk_len2, blk_len3, blk_g11, blk_g21, blk_g31, blk_g22, blk_g32, blk_g33, blk_s11, blk_s21, blk_s22, blk_s33, blk_t11, blk_t21, blk_t22, blk_t32, ints_len, Nat.mul_one, hf0, (by decide : ¬ (0 : Int) < 0)]
            have hsucc := succ_i64 h hmax
            have hix := idx_in .i64 (p := (i : Int)) (n := n) (by omega)
            rw [Int.toNat_natCast] at hix
            have hset := ints_set (ws := A ++ List.replicate (n - i) 0) (j := i) (min 5001 (1 + bel.getD elem.toNat 0)) (by simp; omega)
            rw [set_mid hAl h, hV, ← hrs] at hset
            have hcl : decide (i + 1 ≤ (A ++ List.replicate (n - i) 0).length) = true := by simp; omega
            simp only [go_sem, reduceIte, reduceCtorEq, Nat.reduceAdd, Nat.reduceSub, Nat.reduceEqDiff, Nat.reduceLeDiff, Nat.reduceBEq, Nat.reduceLT, blk_len1, blk_len2, blk_len3, blk_g11, blk_g21, blk_g31, blk_g22, blk_g32, blk_g33, blk_s11, blk_s21, blk_s22, blk_s33, blk_t11, blk_t21, blk_t22, blk_t32, ints_len, Nat.mul_one, evIaddr_arr, hix, min5001, hcl, hset, hV, hsucc]
            exact ⟨i + 1, by omega, h, _, rfl⟩
          have k4' : (kind == 4) = false := by simpa using k4
          by_cases k7 : kind = 7
          · subst k7
            have hel := hflen.2.2.1 (.inr rfl)
            have hf := hel.2.2
            have hix := idx_in .i64 (p := elem) (n := n) ⟨hel.1, hel.2.1⟩
            have ew : IntKind.i64.wrap (1 + IntKind.i64.wrap (16 * ((bel.getD elem.toNat 0 : Nat) : Int))) = ((1 + 16 * bel.getD elem.toNat 0 : Nat) : Int) := by
              rw [wrap_i64' (n := 16 * _) (by omega) (by omega), wrap_i64' (by omega) (by omega)]; omega
            have hV : min 5001 (1 + 16 * bel.getD elem.toNat 0) = w1 ⟨7, elem, len, fields⟩ bel A := by unfold w1 contrib fsum; simp [hf]
            simp only [go_sem, reduceIte, reduceCtorEq, Nat.reduceAdd, Nat.reduceSub, Nat.reduceEqDiff, Nat.reduceLeDiff, Nat.reduceBEq, Nat.reduceLT, blk_len1, blk_len2, blk_len3, blk_g11, blk_g21, blk_g31, blk_g22, blk_g32, blk_g33, blk_s11, blk_s21, blk_s22, blk_s33, blk_t11, blk_t21, blk_t22, blk_t32, ints_len, Nat.mul_one, k4', evIaddr_arr, hix, blk_old2 _ _ _ hkb, hLk, hgB _ (show elem.toNat < n by omega), ew, q1.len]
            have hf0 : ((fields.length : Nat) : Int) = 0 := by rw [hf]; rfl
            rw [XL_once]
            simp only [go_sem, reduceIte, reduceCtorEq, Nat.reduceAdd, Nat.reduceSub, Nat.reduceEqDiff, Nat.reduceLeDiff, Nat.reduceBEq, Nat.reduceLT, blk_len1, blk_len2, blk_len3, blk_g11, blk_g21, blk_g31, blk_g22, blk_g32, blk_g33, blk_s11, blk_s21, blk_s22, blk_s33, blk_t11, blk_t21, blk_t22, blk_t32, ints_len, Nat.mul_one, hf0, (by decide : ¬ (0 : Int) < 0)]
            have hsucc := succ_i64 h hmax
            have hix := idx_in .i64 (p := (i : Int)) (n := n) (by omega)
            rw [Int.toNat_natCast] at hix
            have hset := ints_set (ws := A ++ List.replicate (n - i) 0) (j := i) (min 5001 (1 + 16 * bel.getD elem.toNat 0)) (by simp; omega)
            rw [set_mid hAl h, hV, ← hrs] at hset
            have hcl : decide (i + 1 ≤ (A ++ List.replicate (n - i) 0).length) = true := by simp; omega
            simp only [go_sem, reduceIte, reduceCtorEq, Nat.reduceAdd, Nat.reduceSub, Nat.reduceEqDiff, Nat.reduceLeDiff, Nat.reduceBEq, Nat.reduceLT, blk_len1, blk_len2, blk_len3, blk_g11, blk_g21, blk_g31, blk_g22, blk_g32, blk_g33, blk_s11, blk_s21, blk_s22, blk_s33, blk_t11, blk_t21, blk_t22, blk_t32, ints_len, Nat.mul_one, evIaddr_arr, hix, min5001, hcl, hset, hV, hsucc]
            exact ⟨i + 1, by omega, h, _, rfl⟩
          have k7' : (kind == 7) = false := by simpa using k7
          by_cases k6 : kind = 6
          · subst k6
            have hel := hflen.2.2.2.1 rfl
            have hf := hel.2.2
            have hlen := hflen.2.1 rfl
            have hmul := mul_le_80016 (a := len.toNat) (by omega) hcA
            have hix := idx_in .i64 (p := elem) (n := n) ⟨hel.1, by omega⟩
            have ew : IntKind.i64.wrap (1 + IntKind.i64.wrap (len * ((A.getD elem.toNat 0 : Nat) : Int))) = ((1 + len.toNat * A.getD elem.toNat 0 : Nat) : Int) := by
              have : len * ((A.getD elem.toNat 0 : Nat) : Int) = ((len.toNat * A.getD elem.toNat 0 : Nat) : Int) := by
                rw [Int.natCast_mul, Int.toNat_of_nonneg (by omega)]
              rw [this, wrap_i64' (n := ((len.toNat * A.getD elem.toNat 0 : Nat) : Int)) (by omega) (by omega), wrap_i64' (by omega) (by omega)]; omega
            have hV : min 5001 (1 + len.toNat * A.getD elem.toNat 0) = w1 ⟨6, elem, len, fields⟩ bel A := by unfold w1 contrib fsum; simp [hf]
            simp only [go_sem, reduceIte, reduceCtorEq, Nat.reduceAdd, Nat.reduceSub, Nat.reduceEqDiff, Nat.reduceLeDiff, Nat.reduceBEq, Nat.reduceLT, blk_len1, blk_len2, blk_len3, blk_g11, blk_g21, blk_g31, blk_g22, blk_g32, blk_g33, blk_s11, blk_s21, blk_s22, blk_s33, blk_t11, blk_t21, blk_t22, blk_t32, ints_len, Nat.mul_one, k4', k7', evIaddr_arr, hix, hgA _ (show elem.toNat < i by omega), ew, q1.len]
            have hf0 : ((fields.length : Nat) : Int) = 0 := by rw [hf]; rfl
            rw [XL_once]
            simp only [go_sem, reduceIte, reduceCtorEq, Nat.reduceAdd, Nat.reduceSub, Nat.reduceEqDiff, Nat.reduceLeDiff, Nat.reduceBEq, Nat.reduceLT, blk_len1, blk_len2, blk_len3, blk_g11, blk_g21, blk_g31, blk_g22, blk_g32, blk_g33, blk_s11, blk_s21, blk_s22, blk_s33, blk_t11, blk_t21, blk_t22, blk_t32, ints_len, Nat.mul_one, hf0, (by decide : ¬ (0 : Int) < 0)]
            have hsucc := succ_i64 h hmax
            have hix := idx_in .i64 (p := (i : Int)) (n := n) (by omega)
            rw [Int.toNat_natCast] at hix
            have hset := ints_set (ws := A ++ List.replicate (n - i) 0) (j := i) (min 5001 (1 + len.toNat * A.getD elem.toNat 0)) (by simp; omega)
            rw [set_mid hAl h, hV, ← hrs] at hset
            have hcl : decide (i + 1 ≤ (A ++ List.replicate (n - i) 0).length) = true := by simp; omega
            simp only [go_sem, reduceIte, reduceCtorEq, Nat.reduceAdd, Nat.reduceSub, Nat.reduceEqDiff, Nat.reduceLeDiff, Nat.reduceBEq, Nat.reduceLT, blk_len1, blk_len2, blk_len3, blk_g11, blk_g21, blk_g31, blk_g22, blk_g32, blk_g33, blk_s11, blk_s21, blk_s22, blk_s33, blk_t11, blk_t21, blk_t22, blk_t32, ints_len, Nat.mul_one, evIaddr_arr, hix, min5001, hcl, hset, hV, hsucc]
            exact ⟨i + 1, by omega, h, _, rfl⟩
          have k6' : (kind == 6) = false := by simpa using k6
          simp only [go_sem, reduceIte, reduceCtorEq, Nat.reduceAdd, Nat.reduceSub, Nat.reduceEqDiff, Nat.reduceLeDiff, Nat.reduceBEq, Nat.reduceLT, blk_len1, blk_len2, blk_len3, blk_g11, blk_g21, blk_g31, blk_g22, blk_g32, blk_g33, blk_s11, blk_s21, blk_s22, blk_s33, blk_t11, blk_t21, blk_t22, blk_t32, ints_len, Nat.mul_one, k4', k7', k6', q1.len]
          refine XL_rule (α := Nat) (fun k σ => k ≤ fields.length ∧ ∃ nz'', heads [0, 3, 4, 5, 7, 13, 18, 19, 20, 59, 60, 61] (L.length + 2) σ = ⟨tmps 82 [(0, x), (3, .arr (stk ++ [cur]).length kb st 0 n), (4, .arr (stk ++ [cur]).length L.length nz 0 n), (5, .int .i64 i), (7, .int .i64 ((1 + fsum (fields.take k) A : Nat) : Int)), (13, .int .i64 r), (18, x), (19, .int .i64 n), (20, .int .i64 i), (59, v), (60, .int .i64 fields.length), (61, .int .i64 k)],
            ⟨stk ++ [cur], L ++ [⟨nz, ints (A ++ List.replicate (n - i) 0)⟩] ++ [⟨nz', [.int .u8 kind, .int .i64 elem, .int .i64 len, v]⟩], nz'', [] :: live, fl⟩⟩) (fun k => fields.length - k) 0 ?_ ?_
          · refine ⟨Nat.zero_le _, ?_⟩
            simp only [go_sem, reduceIte, reduceCtorEq, Nat.reduceAdd, Nat.reduceSub, Nat.reduceEqDiff, Nat.reduceLeDiff, Nat.reduceBEq, Nat.reduceLT, blk_len1, blk_len2, blk_len3, blk_g11, blk_g21, blk_g31, blk_g22, blk_g32, blk_g33, blk_s11, blk_s21, blk_s22, blk_s33, blk_t11, blk_t21, blk_t22, blk_t32, ints_len, Nat.mul_one, fsum]
            exact ⟨_, rfl⟩
          · rintro k σ ⟨hk, nz'', hσ⟩
            rw [hσ]
            clear hσ σ
            dsimp only at hk ⊢
            have hfs := fsum_le (fs := fields.take k) hle
            have hfl : (fields.take k).length ≤ 8 := by rw [List.length_take]; omega
            have hfs8 : fsum (fields.take k) A ≤ 40008 := Nat.le_trans hfs (by omega)
            by_cases hkl : k < fields.length
            · have e2 : nth v k = .agg [.str fields[k].name, .int .i64 fields[k].typ] := q1.nth hkl
              have hat2 := q1.at .i64 hkl
              have htk := hflen.2.2.2.2.2 _ (List.getElem_mem hkl)
              have hix := idx_in .i64 (p := fields[k].typ) (n := n) ⟨htk.1, by omega⟩
              have hcA := getD_le hle fields[k].typ.toNat
              have hsu := fsum_succ hkl A
              have ew : IntKind.i64.wrap (((1 + fsum (fields.take k) A : Nat) : Int) + ((A.getD fields[k].typ.toNat 0 : Nat) : Int)) = ((1 + fsum (fields.take (k + 1)) A : Nat) : Int) := by rw [wrap_i64' (by omega) (by omega)]; omega
              simp only [go_sem, reduceIte, reduceCtorEq, Nat.reduceAdd, Nat.reduceSub, Nat.reduceEqDiff, Nat.reduceLeDiff, Nat.reduceBEq, Nat.reduceLT, blk_len1, blk_len2, blk_len3, blk_g11, blk_g21, blk_g31, blk_g22, blk_g32, blk_g33, blk_s11, blk_s21, blk_s22, blk_s33, blk_t11, blk_t21, blk_t22, blk_t32, ints_len, Nat.mul_one, Int.ofNat_lt, hkl, hat2, e2, evIaddr_arr, hix, hgA _ (show fields[k].typ.toNat < i by omega), ew, succ_i64 hkl q1.max]
              exact ⟨k + 1, by omega, hkl, _, rfl⟩
            · have : k = fields.length := by omega
              subst this
              rw [List.take_length] at hfs8 ⊢
              have hV : min 5001 (1 + fsum fields A) = w1 ⟨kind, elem, len, fields⟩ bel A := by unfold w1 contrib; rw [if_neg k4, if_neg k7, if_neg k6]
              simp only [go_sem, reduceIte, reduceCtorEq, Nat.reduceAdd, Nat.reduceSub, Nat.reduceEqDiff, Nat.reduceLeDiff, Nat.reduceBEq, Nat.reduceLT, blk_len1, blk_len2, blk_len3, blk_g11, blk_g21, blk_g31, blk_g22, blk_g32, blk_g33, blk_s11, blk_s21, blk_s22, blk_s33, blk_t11, blk_t21, blk_t22, blk_t32, ints_len, Nat.mul_one, Int.ofNat_lt, hkl]
              have hsucc := succ_i64 h hmax
              have hix := idx_in .i64 (p := (i : Int)) (n := n) (by omega)
              rw [Int.toNat_natCast] at hix
              have hset := ints_set (ws := A ++ List.replicate (n - i) 0) (j := i) (min 5001 (1 + fsum fields A)) (by simp; omega)
              rw [set_mid hAl h, hV, ← hrs] at hset
              have hcl : decide (i + 1 ≤ (A ++ List.replicate (n - i) 0).length) = true := by simp; omega
              simp only [go_sem, reduceIte, reduceCtorEq, Nat.reduceAdd, Nat.reduceSub, Nat.reduceEqDiff, Nat.reduceLeDiff, Nat.reduceBEq, Nat.reduceLT, blk_len1, blk_len2, blk_len3, blk_g11, blk_g21, blk_g31, blk_g22, blk_g32, blk_g33, blk_s11, blk_s21, blk_s22, blk_s33, blk_t11, blk_t21, blk_t22, blk_t32, ints_len, Nat.mul_one, evIaddr_arr, hix, min5001, hcl, hset, hV, hsucc]
              exact ⟨i + 1, by omega, h, _, rfl⟩
        · have : i = l.length := by omega
          subst this
          rw [List.take_length, Nat.sub_self, List.replicate_zero, List.append_nil]
          simp only [go_sem, reduceIte, reduceCtorEq, Nat.reduceAdd, Nat.reduceSub, Nat.reduceEqDiff, Nat.reduceLeDiff, Nat.reduceBEq, Nat.reduceLT, blk_len1, blk_len2, blk_len3, blk_g11, blk_g21, blk_g31, blk_g22, blk_g32, blk_g33, blk_s11, blk_s21, blk_s22, blk_s33, blk_t11, blk_t21, blk_t22, blk_t32, ints_len, Nat.mul_one, Int.ofNat_lt, h, hr1]
          exact ⟨r + 1, by omega, h4, _, L.length, nz, _, by simp, by rw [hrr]; simp, rfl⟩
    · have : r = 4 := by omega
      subst this
      simp only [go_sem, reduceIte, reduceCtorEq, Nat.reduceAdd, Nat.reduceSub, Nat.reduceEqDiff, Nat.reduceLeDiff, Nat.reduceBEq, Nat.reduceLT, (by decide : ¬ (((4 : Nat) : Int) < 4))]
      obtain ⟨bs, hbs, hg⟩ := leave_arr (m0 := ⟨stk, cur, nx, live, fl⟩) (stk := stk) (cur := cur) (c' := L) (nx' := nz) (own := []) (live' := live) (fl' := fl) (k := kb) (st := st) (off := 0) (len := l.length)
      rw [hbs, Opt_some]
      exact ⟨bs, kb, st, nz, by rw [Nat.add_comm], rfl, hg _ hLk⟩

end Go.Proofs.W

namespace Go.Proofs.W
open Go.Vs
set_option linter.unusedSimpArgs false
set_option maxRecDepth 100000

/-- A table is valid. -/
def CheckP (l : List DTyp) : Prop := l.length ≤ 32 ∧ ValidT l ∧ ∀ w ∈ rounds l 4, w ≤ 5000
noncomputable def err04 (l : List DTyp) : Int := if pb (CheckP l) then 0 else 8

theorem err_bad {l : List DTyp} (h : ¬ CheckP l) : err04 l = 8 := by unfold err04; rw [pb_false h]; rfl
theorem err_ok {l : List DTyp} (h : CheckP l) : err04 l = 0 := by unfold err04; rw [pb_true h]; rfl

def WfTypes (l : List DTyp) : Prop := ∀ t ∈ l, WfTyp t
theorem WfTypes.names {l : List DTyp} (h : WfTypes l) {i : Nat} (hi : i < l.length) : NamesOk l[i].fields := fun f hf => ((h _ (List.getElem_mem hi)).fields f hf).name

set_option maxHeartbeats 2000000 in
theorem w_kinds_Check (l : List DTyp) (x : AV) (hx : IsSl IsTyp 4 l x) (hw : WfTypes l) (m : Mem) : Okv tab F_kinds_Check [x] m (.int .i64 (err04 l)) := by
  refine okv_of t_kinds_Check ?_
  obtain ⟨stk, cur, nx, live, fl⟩ := m
  simp only [a_kinds_Check, go_sem, reduceIte, reduceCtorEq, Nat.reduceAdd, Nat.reduceSub, Nat.reduceEqDiff, Nat.reduceLeDiff, Nat.reduceBEq, Nat.reduceLT, hx.len]
  by_cases hl : (l.length : Int) > 32
  · simp only [go_sem, reduceIte, reduceCtorEq, Nat.reduceAdd, Nat.reduceSub, Nat.reduceEqDiff, Nat.reduceLeDiff, Nat.reduceBEq, Nat.reduceLT, hl]
    rw [leave_plain rfl rfl, Opt_some]
    exact ⟨⟨_, rfl⟩, by rw [err_bad fun h' => by have := h'.1; omega]⟩
  simp only [go_sem, reduceIte, reduceCtorEq, Nat.reduceAdd, Nat.reduceSub, Nat.reduceEqDiff, Nat.reduceLeDiff, Nat.reduceBEq, Nat.reduceLT, hl, hx.len]
  refine XL_rule (α := Nat) (fun i σ => (i ≤ l.length ∧ ∀ j (h : j < l.length), j < i → FineT l.length j l[j]) ∧ ∃ nz, heads [0, 10, 11] 0 σ = ⟨tmps 29 [(0, x), (10, .int .i64 l.length), (11, .int .i64 i)], ⟨stk ++ [cur], [], nz, [] :: live, fl⟩⟩) (fun i => l.length - i) 0 ?_ ?_
  · refine ⟨⟨Nat.zero_le _, fun j _ h => absurd h (Nat.not_lt_zero _)⟩, ?_⟩
    simp only [go_sem, reduceIte, reduceCtorEq, Nat.reduceAdd, Nat.reduceSub, Nat.reduceEqDiff, Nat.reduceLeDiff, Nat.reduceBEq, Nat.reduceLT]
    exact ⟨_, rfl⟩
  · rintro i σ ⟨⟨hi, hv⟩, nz, hσ⟩
    rw [hσ]
    clear hσ σ
    dsimp only at hi hv ⊢
    by_cases h : i < l.length
    · have hF := fun m => w_kinds_fine l x hx i h (hw _ (List.getElem_mem h)) m
      by_cases hf : FineT l.length i l[i]
      · rw [pb_true hf] at hF
        have hFe := fun m => (hF m).eq
        simp only [go_sem, reduceIte, reduceCtorEq, Nat.reduceAdd, Nat.reduceSub, Nat.reduceEqDiff, Nat.reduceLeDiff, Nat.reduceBEq, Nat.reduceLT, Int.ofNat_lt, h, hx.len, hFe, succ_i64 h hx.max]
        refine ⟨i + 1, by omega, ⟨h, fun j hj hji => ?_⟩, _, rfl⟩
        rcases Nat.lt_succ_iff_lt_or_eq.1 hji with q | q
        · exact hv j hj q
        · subst q; exact hf
      · rw [pb_false hf] at hF
        have hFe := fun m => (hF m).eq
        simp only [go_sem, reduceIte, reduceCtorEq, Nat.reduceAdd, Nat.reduceSub, Nat.reduceEqDiff, Nat.reduceLeDiff, Nat.reduceBEq, Nat.reduceLT, Int.ofNat_lt, h, hx.len, hFe]
        rw [leave_plain rfl rfl, Opt_some]
        exact ⟨⟨_, rfl⟩, by rw [err_bad fun h' => hf (h'.2.1 i h)]⟩
    · have : i = l.length := by omega
      subst this
      have hval : ValidT l := fun j hj => hv j hj hj
      simp only [go_sem, reduceIte, reduceCtorEq, Nat.reduceAdd, Nat.reduceSub, Nat.reduceEqDiff, Nat.reduceLeDiff, Nat.reduceBEq, Nat.reduceLT, Int.ofNat_lt, h, hx.len]
      obtain ⟨bs, j, st, k, hcall, hbs⟩ := w_kinds_widths l x hx hval (by omega) (stk ++ [cur]) [] nz fl ([] :: live)
      simp only [go_sem, reduceIte, reduceCtorEq, Nat.reduceAdd, Nat.reduceSub, Nat.reduceEqDiff, Nat.reduceLeDiff, Nat.reduceBEq, Nat.reduceLT, hcall, evLen]
      have hwl := rounds_len l 4
      refine XL_rule (α := Nat) (fun i σ => (i ≤ l.length ∧ ∀ w ∈ (rounds l 4).take i, w ≤ 5000) ∧ ∃ nz, heads [20, 21, 22] bs.length σ = ⟨tmps 29 [(20, .arr (stk ++ [cur]).length j st 0 l.length), (21, .int .i64 l.length), (22, .int .i64 i)], ⟨stk ++ [cur], bs, nz, [] :: live, fl⟩⟩) (fun i => l.length - i) 0 ?_ ?_
      · refine ⟨⟨Nat.zero_le _, by simp⟩, ?_⟩
        simp only [go_sem, reduceIte, reduceCtorEq, Nat.reduceAdd, Nat.reduceSub, Nat.reduceEqDiff, Nat.reduceLeDiff, Nat.reduceBEq, Nat.reduceLT, List.take_length]
        exact ⟨_, rfl⟩
      · rintro i σ ⟨⟨hi, hws⟩, nz, hσ⟩
        rw [hσ]
        clear hσ σ
        dsimp only at hi hws ⊢
        by_cases h : i < l.length
        · have hix := idx_in .i64 (p := (i : Int)) (n := l.length) (by omega)
          rw [Int.toNat_natCast] at hix
          have hg := ints_get (ws := rounds l 4) (j := i) (by omega)
          rw [getD_get (by omega)] at hg
          by_cases hw : (rounds l 4)[i] ≤ 5000
          · simp only [go_sem, reduceIte, reduceCtorEq, Nat.reduceAdd, Nat.reduceSub, Nat.reduceEqDiff, Nat.reduceLeDiff, Nat.reduceBEq, Nat.reduceLT, Int.ofNat_lt, h, evIaddr_arr, hix, Nat.mul_one, hbs, hg, show ¬ (((rounds l 4)[i] : Nat) : Int) > 5000 by omega, succ_i64 h hx.max, List.take_length]
            exact ⟨i + 1, by omega, ⟨h, mem_take_succ (P := fun w => w ≤ 5000) (by omega) hws hw⟩, _, rfl⟩
          · simp only [go_sem, reduceIte, reduceCtorEq, Nat.reduceAdd, Nat.reduceSub, Nat.reduceEqDiff, Nat.reduceLeDiff, Nat.reduceBEq, Nat.reduceLT, Int.ofNat_lt, h, evIaddr_arr, hix, Nat.mul_one, hbs, hg, show (((rounds l 4)[i] : Nat) : Int) > 5000 by omega]
            rw [leave_plain rfl rfl, Opt_some]
            exact ⟨⟨_, rfl⟩, by rw [err_bad fun h' => hw (h'.2.2 _ (List.getElem_mem (by omega)))]⟩
        · have : i = l.length := by omega
          subst this
          rw [← hwl, List.take_length] at hws
          simp only [go_sem, reduceIte, reduceCtorEq, Nat.reduceAdd, Nat.reduceSub, Nat.reduceEqDiff, Nat.reduceLeDiff, Nat.reduceBEq, Nat.reduceLT, Int.ofNat_lt, h]
          rw [leave_plain rfl rfl, Opt_some]
          exact ⟨⟨_, rfl⟩, by rw [err_ok ⟨by omega, hval, hws⟩]⟩

set_option maxHeartbeats 2000000 in
theorem w_wreckageref04_Check (l : List DTyp) (x : AV) (hx : IsSl IsTyp 4 l x) (hw : WfTypes l) (m : Mem) : Okv tab F_wreckageref04_Check [x] m (.int .i64 (err04 l)) := by
  refine okv_of t_wreckageref04_Check ?_
  obtain ⟨stk, cur, nx, live, fl⟩ := m
  simp only [a_wreckageref04_Check, go_sem, reduceIte, reduceCtorEq, Nat.reduceAdd, Nat.reduceSub, Nat.reduceEqDiff, Nat.reduceLeDiff, Nat.reduceBEq, Nat.reduceLT, hx.len]
  by_cases hl : (l.length : Int) > 32
  · simp only [go_sem, reduceIte, reduceCtorEq, Nat.reduceAdd, Nat.reduceSub, Nat.reduceEqDiff, Nat.reduceLeDiff, Nat.reduceBEq, Nat.reduceLT, hl]
    rw [leave_plain rfl rfl, Opt_some]
    exact ⟨⟨_, rfl⟩, by rw [err_bad fun h' => by have := h'.1; omega]⟩
  simp only [go_sem, reduceIte, reduceCtorEq, Nat.reduceAdd, Nat.reduceSub, Nat.reduceEqDiff, Nat.reduceLeDiff, Nat.reduceBEq, Nat.reduceLT, hl, hx.len]
  refine XL_rule (α := Nat) (fun i σ => (i ≤ l.length ∧ ∀ j (h : j < l.length), j < i → FineT l.length j l[j]) ∧ ∃ nz, heads [0, 3] 0 σ = ⟨tmps 32 [(0, x), (3, .int .i64 i)], ⟨stk ++ [cur], [], nz, [] :: live, fl⟩⟩) (fun i => l.length - i) 0 ?_ ?_
  · refine ⟨⟨Nat.zero_le _, fun j _ h => absurd h (Nat.not_lt_zero _)⟩, ?_⟩
    simp only [go_sem, reduceIte, reduceCtorEq, Nat.reduceAdd, Nat.reduceSub, Nat.reduceEqDiff, Nat.reduceLeDiff, Nat.reduceBEq, Nat.reduceLT]
    exact ⟨_, rfl⟩
  · rintro i σ ⟨⟨hi, hv⟩, nz, hσ⟩
    rw [hσ]
    clear hσ σ
    dsimp only at hi hv ⊢
    by_cases h : i < l.length
    · have hF := fun m => w_wreckageref04_fine l x hx i h (hw.names h) m
      by_cases hf : FineT l.length i l[i]
      · rw [pb_true hf] at hF
        have hFe := fun m => (hF m).eq
        simp only [go_sem, reduceIte, reduceCtorEq, Nat.reduceAdd, Nat.reduceSub, Nat.reduceEqDiff, Nat.reduceLeDiff, Nat.reduceBEq, Nat.reduceLT, Int.ofNat_lt, h, hx.len, hFe, succ_i64 h hx.max]
        refine ⟨i + 1, by omega, ⟨h, fun j hj hji => ?_⟩, _, rfl⟩
        rcases Nat.lt_succ_iff_lt_or_eq.1 hji with q | q
        · exact hv j hj q
        · subst q; exact hf
      · rw [pb_false hf] at hF
        have hFe := fun m => (hF m).eq
        simp only [go_sem, reduceIte, reduceCtorEq, Nat.reduceAdd, Nat.reduceSub, Nat.reduceEqDiff, Nat.reduceLeDiff, Nat.reduceBEq, Nat.reduceLT, Int.ofNat_lt, h, hx.len, hFe]
        rw [leave_plain rfl rfl, Opt_some]
        exact ⟨⟨_, rfl⟩, by rw [err_bad fun h' => hf (h'.2.1 i h)]⟩
    · have : i = l.length := by omega
      subst this
      have hval : ValidT l := fun j hj => hv j hj hj
      simp only [go_sem, reduceIte, reduceCtorEq, Nat.reduceAdd, Nat.reduceSub, Nat.reduceEqDiff, Nat.reduceLeDiff, Nat.reduceBEq, Nat.reduceLT, Int.ofNat_lt, h, hx.len]
      refine (w_wreckageref04_Widths l x hx hval (by omega) 3 (by omega) _).xv fun y ts n ho => ?_
      simp only [go_sem, reduceIte, reduceCtorEq, Nat.reduceAdd, Nat.reduceSub, Nat.reduceEqDiff, Nat.reduceLeDiff, Nat.reduceBEq, Nat.reduceLT]
      have hwl := rounds_len l 4
      refine XL_rule (α := Nat) (fun i σ => (i ≤ l.length ∧ ∀ w ∈ (rounds l 4).take i, w ≤ 5000) ∧ ∃ nz, heads [0, 4, 5] 0 σ = ⟨tmps 32 [(0, x), (4, y), (5, .int .i64 i)], ⟨stk ++ [cur], [], nz, ts :: live, fl⟩⟩) (fun i => l.length - i) 0 ?_ ?_
      · refine ⟨⟨Nat.zero_le _, by simp⟩, ?_⟩
        simp only [go_sem, reduceIte, reduceCtorEq, Nat.reduceAdd, Nat.reduceSub, Nat.reduceEqDiff, Nat.reduceLeDiff, Nat.reduceBEq, Nat.reduceLT]
        exact ⟨_, rfl⟩
      · rintro i σ ⟨⟨hi, hws⟩, nz, hσ⟩
        rw [hσ]
        clear hσ σ
        dsimp only at hi hws ⊢
        by_cases h : i < l.length
        · have hiw : i < (rounds l (3 + 1)).length := by rw [rounds_len]; exact h
          have e1 : nth y i = .int .i64 ((rounds l (3 + 1))[i] : Nat) := ho.nth hiw
          by_cases hw : (rounds l (3 + 1))[i] ≤ 5000
          · simp only [go_sem, reduceIte, reduceCtorEq, Nat.reduceAdd, Nat.reduceSub, Nat.reduceEqDiff, Nat.reduceLeDiff, Nat.reduceBEq, Nat.reduceLT, Int.ofNat_lt, h, hx.len, ho.at _ hiw, e1, show ¬ (((rounds l (3 + 1))[i] : Nat) : Int) > 5000 by omega, succ_i64 h hx.max]
            exact ⟨i + 1, by omega, ⟨h, mem_take_succ (P := fun w => w ≤ 5000) (by omega) hws hw⟩, _, rfl⟩
          · simp only [go_sem, reduceIte, reduceCtorEq, Nat.reduceAdd, Nat.reduceSub, Nat.reduceEqDiff, Nat.reduceLeDiff, Nat.reduceBEq, Nat.reduceLT, Int.ofNat_lt, h, hx.len, ho.at _ hiw, e1, show (((rounds l (3 + 1))[i] : Nat) : Int) > 5000 by omega]
            rw [leave_plain rfl rfl, Opt_some]
            exact ⟨⟨_, rfl⟩, by rw [err_bad fun h' => hw (h'.2.2 _ (List.getElem_mem hiw))]⟩
        · have : i = l.length := by omega
          subst this
          rw [← hwl, List.take_length] at hws
          simp only [go_sem, reduceIte, reduceCtorEq, Nat.reduceAdd, Nat.reduceSub, Nat.reduceEqDiff, Nat.reduceLeDiff, Nat.reduceBEq, Nat.reduceLT, Int.ofNat_lt, h, hx.len]
          rw [leave_plain rfl rfl, Opt_some]
          exact ⟨⟨_, rfl⟩, by rw [err_ok ⟨by omega, hval, hws⟩]⟩

end Go.Proofs.W

namespace Go.Proofs.W
open Go.Vs
set_option linter.unusedSimpArgs false
set_option maxRecDepth 100000

/-- The least multiple. -/
def up (n a : Nat) : Nat := (n + a - 1) / a * a
theorem up_one (n : Nat) : up n 1 = n := by unfold up; simp
theorem up_eight (n : Nat) : up n 8 = (n + 7) / 8 * 8 := rfl
def is18 (a : Nat) : Prop := a = 1 ∨ a = 8
theorem up_le {n a : Nat} (h : is18 a) : n ≤ up n a ∧ up n a ≤ n + 7 := by
  rcases h with rfl | rfl
  · rw [up_one]; omega
  · rw [up_eight]; omega
theorem is18_max {a b : Nat} (ha : is18 a) (hb : is18 b) : is18 (max a b) := by unfold is18 at *; omega

theorem and_not7 (x : BitVec 64) : (x &&& ~~~(7#64)).toNat = x.toNat / 8 * 8 := by
  apply Nat.eq_of_testBit_eq
  intro i
  rw [BitVec.testBit_toNat, BitVec.getLsbD_and, BitVec.getLsbD_not, show (8 : Nat) = 2 ^ 3 from rfl, Nat.testBit_mul_two_pow, Nat.testBit_div_two_pow, BitVec.testBit_toNat]
  by_cases h3 : 3 ≤ i
  · have : (7#64).getLsbD i = false := by
      rw [← BitVec.testBit_toNat]
      exact Nat.testBit_lt_two_pow (Nat.lt_of_lt_of_le (by decide : (7#64).toNat < 2 ^ 3) (Nat.pow_le_pow_right (by omega) h3))
    by_cases h64 : i < 64
    · rw [this, Nat.sub_add_cancel h3]; simp [h3, h64]
    · have : x.getLsbD i = false := BitVec.getLsbD_of_ge x i (by omega)
      rw [Nat.sub_add_cancel h3, this]; simp
  · have : i = 0 ∨ i = 1 ∨ i = 2 := by omega
    rcases this with rfl | rfl | rfl <;> simp <;> decide

theorem andNot_up {n a : Nat} (h : is18 a) (hn : n ≤ 4194304) : evBits .andNot .i64 (IntKind.i64.wrap (IntKind.i64.wrap ((n : Int) + (a : Int)) - 1)) (IntKind.i64.wrap ((a : Int) - 1)) = some (.int .i64 ((up n a : Nat) : Int)) := by
  have e0 : (a : Int) = 1 ∨ (a : Int) = 8 := by unfold is18 at h; omega
  have e1 : IntKind.i64.wrap ((n : Int) + (a : Int)) = n + a := wrap_i64' (by omega) (by omega)
  have e2 : IntKind.i64.wrap ((n : Int) + a - 1) = n + a - 1 := wrap_i64' (by omega) (by omega)
  have e3 : IntKind.i64.wrap ((a : Int) - 1) = a - 1 := wrap_i64' (by omega) (by omega)
  rw [e1, e2, e3]
  have hx : ∀ y : Nat, y ≤ 5000000 → (BitVec.ofInt 64 (y : Int)).toNat = y := fun y hy => by
    rw [BitVec.toNat_ofInt]; omega
  refine congrArg (fun z => some (AV.int .i64 z)) (?_ : IntKind.i64.wrap ((BitVec.ofInt 64 ((n : Int) + a - 1) &&& ~~~ BitVec.ofInt 64 ((a : Int) - 1)).toNat : Int) = ((up n a : Nat) : Int))
  rcases h with rfl | rfl
  · have : BitVec.ofInt 64 (((1 : Nat) : Int) - 1) = 0#64 := rfl
    rw [this]
    have h2 : (BitVec.ofInt 64 ((n : Int) + ((1 : Nat) : Int) - 1) &&& ~~~ (0#64)) = BitVec.ofInt 64 (n : Int) := by
      rw [show (n : Int) + ((1 : Nat) : Int) - 1 = n by omega, show ~~~(0#64) = BitVec.allOnes 64 from by decide, BitVec.and_allOnes]
    rw [h2, hx n (by omega), up_one, wrap_i64' (by omega) (by omega)]
  · have : BitVec.ofInt 64 (((8 : Nat) : Int) - 1) = 7#64 := rfl
    rw [this, and_not7, show (n : Int) + ((8 : Nat) : Int) - 1 = ((n + 7 : Nat) : Int) by omega, hx _ (by omega), up_eight, wrap_i64' (by omega) (by omega)]

/-- Fields, one behind the other: their offsets, their end, the greatest alignment. -/
def togStep (far : Nat) (out : List (Nat × Nat)) (s : List Nat × Nat × Nat) (f : DField) : List Nat × Nat × Nat :=
  (s.1 ++ [up s.2.1 (out.getD f.typ.toNat (0, 0)).2], min far (up s.2.1 (out.getD f.typ.toNat (0, 0)).2 + (out.getD f.typ.toNat (0, 0)).1), max s.2.2 (out.getD f.typ.toNat (0, 0)).2)
def tog (far : Nat) (out : List (Nat × Nat)) (fs : List DField) : List Nat × Nat × Nat := fs.foldl (togStep far out) ([], 0, 1)
def togEnd (far : Nat) (out : List (Nat × Nat)) (fs : List DField) : Nat × Nat := (min far (up (tog far out fs).2.1 (tog far out fs).2.2), (tog far out fs).2.2)
def ext1 (far : Nat) (out : List (Nat × Nat)) (t : DTyp) : Nat × Nat :=
  if t.kind = 1 then (1, 1) else if t.kind = 3 then (16, 8) else if t.kind = 7 then (24, 8) else if t.kind = 6 then (min far (t.len.toNat * (out.getD t.elem.toNat (0, 0)).1), (out.getD t.elem.toNat (0, 0)).2)
  else if t.kind = 5 then togEnd far out t.fields else (8, 8)
def exts (far : Nat) (l : List DTyp) : List (Nat × Nat) := l.foldl (fun out t => out ++ [ext1 far out t]) []

theorem tog_succ (far : Nat) (out : List (Nat × Nat)) {fs : List DField} {k : Nat} (h : k < fs.length) : tog far out (fs.take (k + 1)) = togStep far out (tog far out (fs.take k)) fs[k] := by
  unfold tog; rw [List.take_succ_eq_append_getElem h, List.foldl_append]; rfl
theorem exts_succ (far : Nat) {l : List DTyp} {i : Nat} (h : i < l.length) : exts far (l.take (i + 1)) = exts far (l.take i) ++ [ext1 far (exts far (l.take i)) l[i]] := by
  unfold exts; rw [List.take_succ_eq_append_getElem h, List.foldl_append]; rfl
theorem exts_len (far : Nat) (l : List DTyp) : ∀ i, i ≤ l.length → (exts far (l.take i)).length = i
  | 0, _ => by simp [exts]
  | i + 1, h => by rw [exts_succ far h, List.length_append, exts_len far l i (by omega)]; rfl

def GoodP (out : List (Nat × Nat)) : Prop := ∀ p ∈ out, p.1 ≤ 1048576 ∧ is18 p.2
theorem GoodP.get {out : List (Nat × Nat)} (h : GoodP out) {j : Nat} (hj : j < out.length) : (out.getD j (0, 0)).1 ≤ 1048576 ∧ is18 (out.getD j (0, 0)).2 := by
  have : out.getD j (0, 0) = out[j] := by simp [List.getD_eq_getElem?_getD, hj]
  rw [this]; exact h _ (List.getElem_mem hj)
theorem tog_good {far : Nat} (hfar : far ≤ 1048576) {out : List (Nat × Nat)} (h : GoodP out) {fs : List DField} (hf : ∀ f ∈ fs, 0 ≤ f.typ ∧ f.typ < out.length) : ∀ k, k ≤ fs.length → (tog far out (fs.take k)).1.length = k ∧ (tog far out (fs.take k)).2.1 ≤ 1048576 ∧ is18 (tog far out (fs.take k)).2.2
  | 0, _ => by simp [tog, is18]
  | k + 1, hk => by
    obtain ⟨h1, h2, h3⟩ := tog_good hfar h hf k (by omega)
    have hfk := hf _ (List.getElem_mem (show k < fs.length by omega))
    have hg := h.get (j := fs[k].typ.toNat) (by omega)
    rw [tog_succ far out (show k < fs.length by omega)]
    exact ⟨by simp [togStep, h1], by simp only [togStep]; omega, is18_max h3 hg.2⟩

theorem ext1_good {far : Nat} (hfar : far ≤ 1048576) {out : List (Nat × Nat)} (h : GoodP out) {n i : Nat} {t : DTyp} (hf : FineT n i t) (hi : out.length = i) : (ext1 far out t).1 ≤ 1048576 ∧ is18 (ext1 far out t).2 := by
  have hl := fine_len hf
  unfold ext1
  split
  · simp [is18]
  · split
    · simp [is18]
    · split
      · simp [is18]
      · split
        · rename_i h6
          have := hl.2.2.2.1 h6
          exact ⟨by simp only; omega, (h.get (by omega)).2⟩
        · split
          · have := tog_good hfar h (fs := t.fields) (by rw [hi]; exact hl.2.2.2.2.2) t.fields.length (Nat.le_refl _)
            rw [List.take_length] at this
            exact ⟨by simp only [togEnd]; omega, this.2.2⟩
          · simp [is18]
theorem exts_good {far : Nat} (hfar : far ≤ 1048576) {l : List DTyp} (hv : ValidT l) : ∀ i, i ≤ l.length → GoodP (exts far (l.take i))
  | 0, _ => by simp [exts, GoodP]
  | i + 1, h => by
    have ih := exts_good hfar hv i (by omega)
    rw [exts_succ far h]
    intro p hp
    rcases List.mem_append.1 hp with hp | hp
    · exact ih p hp
    · simp at hp; subst hp; exact ext1_good hfar ih (hv i (by omega)) (exts_len far l i (by omega))

/-- Cells of pairs of numbers. -/
def prs (ws : List (Nat × Nat)) : List AV := ws.flatMap fun p => [.int .i64 (p.1 : Int), .int .i64 (p.2 : Int)]
theorem prs_len (ws : List (Nat × Nat)) : (prs ws).length = ws.length * 2 := by
  induction ws with
  | nil => rfl
  | cons w r ih => simp only [prs, List.flatMap_cons, List.length_append, List.length_cons, List.length_nil] at ih ⊢; omega
theorem prs_drop : ∀ (ws : List (Nat × Nat)) (j : Nat), j < ws.length → (prs ws).drop (j * 2) = .int .i64 ((ws.getD j (0, 0)).1 : Int) :: .int .i64 ((ws.getD j (0, 0)).2 : Int) :: (prs ws).drop (j * 2 + 2)
  | [], _, h => by simp at h
  | w :: r, 0, _ => rfl
  | w :: r, j + 1, h => by
    have := prs_drop r j (by simpa using h)
    simp only [prs, List.flatMap_cons, show (j + 1) * 2 = j * 2 + 2 by omega, List.cons_append, List.nil_append, List.drop_succ_cons, List.getD_cons_succ] at this ⊢
    exact this
theorem prs_rep (n : Nat) : flatRep [.int .i64 0, .int .i64 0] n = prs (List.replicate n (0, 0)) := by
  induction n with
  | zero => rfl
  | succ n ih => rw [flatRep, ih, List.replicate_succ]; rfl
theorem prs_set : ∀ (ws : List (Nat × Nat)) (j a b : Nat), j < ws.length → (prs ws).take (j * 2) ++ [.int .i64 (a : Int), .int .i64 (b : Int)] ++ (prs ws).drop (j * 2 + 2) = prs (ws.set j (a, b))
  | [], _, _, _, h => by simp at h
  | w :: r, 0, a, b, _ => rfl
  | w :: r, j + 1, a, b, h => by
    have := prs_set r j a b (by simpa using h)
    simp only [prs, List.flatMap_cons, show (j + 1) * 2 = j * 2 + 2 by omega, List.cons_append, List.nil_append, List.drop_succ_cons, List.take_succ_cons, List.set_cons_succ] at this ⊢
    rw [this]
theorem prs_load {ws : List (Nat × Nat)} {j : Nat} (h : j < ws.length) : takeV true 2 ((prs ws).drop (j * 2)) = some (.agg [.int .i64 ((ws.getD j (0, 0)).1 : Int), .int .i64 ((ws.getD j (0, 0)).2 : Int)]) := by
  rw [prs_drop ws j h]; simp [takeV]
theorem shift_prs (l l' k : Nat) (ws : List (Nat × Nat)) : shiftAll l l' k (prs ws) = prs ws := by
  induction ws with
  | nil => rfl
  | cons w r ih => simp only [prs, List.flatMap_cons, List.cons_append, List.nil_append, shiftAll, AV.shift] at ih ⊢; rw [ih]

theorem min2_20 (a : Nat) : (if (a : Int) < (1048576 : Int) then (a : Int) else (1048576 : Int)) = ((min 1048576 a : Nat) : Int) := by split <;> omega
theorem min10_6 (a : Nat) : (if (a : Int) < (1000000 : Int) then (a : Int) else (1000000 : Int)) = ((min 1000000 a : Nat) : Int) := by split <;> omega
theorem max_nat (a b : Nat) : (if (b : Int) > (a : Int) then (b : Int) else (a : Int)) = ((max a b : Nat) : Int) := by split <;> omega

end Go.Proofs.W

namespace Go.Proofs.W
open Go.Vs
set_option linter.unusedSimpArgs false
set_option maxRecDepth 100000

theorem up_far {n a : Nat} (ha : is18 a) (h : n ≤ 1048576) : min 1048576 (up n a) = up n a := by
  rcases ha with rfl | rfl
  · rw [up_one]; omega
  · rw [up_eight]; omega

theorem max_nat' (a b : Nat) : (if a < b then (b : Int) else (a : Int)) = ((max a b : Nat) : Int) := by split <;> omega

theorem leave_lay {m0 : Mem} {stk : List (List Blk)} {cur c' : List Blk} {nx' fl' : Nat} {own : List Nat} {live' : List (List Nat)} {k st off len : Nat} {a b : Int} :
    ∃ bs : List Blk, leave m0 ⟨stk ++ [cur], c', nx', own :: live', fl'⟩ (.tup [.arr (stk ++ [cur]).length k st off len, .agg [.int .i64 a, .int .i64 b]]) = some (.tup [.arr stk.length (k + cur.length) st off len, .agg [.int .i64 a, .int .i64 b]], ⟨stk, cur ++ bs, nx', live', m0.floor⟩) ∧
      ∀ ws, c'[k]? = some ⟨st, ints ws⟩ → bs[k]? = some ⟨st, ints ws⟩ := by
  have e : own.filter (fun _ => false) = [] := by simp
  refine ⟨c'.map fun b => ⟨b.st, shiftAll (stk ++ [cur]).length ((stk ++ [cur]).length - 1) cur.length b.cs⟩, ?_, ?_⟩
  · unfold leave
    simp only [List.getLast?_append, List.getLast?_singleton, Option.some_or, AV.refs, refsAny, beq_self_eq_true, Bool.true_or, if_true, AV.toks, toksAll, List.append_nil, List.contains_nil, e, pushToks, List.dropLast_concat, AV.shift, shiftAll]
    simp
  · intro ws h
    rw [List.getElem?_map, h, Option.map_some, shift_ints]

set_option maxHeartbeats 4000000 in
theorem w_layout_lay (ws W : List (Nat × Nat)) (hg : GoodP ws) (hle : ws.length ≤ W.length) (hW : ∀ j, j < ws.length → W.getD j (0, 0) = ws.getD j (0, 0)) (fields : List DField) (v : AV) (q1 : IsSl IsField 2 fields v) (hf : ∀ f ∈ fields, 0 ≤ f.typ ∧ f.typ < ws.length) (hlen : fields.length ≤ 100)
    (stk : List (List Blk)) (cur : List Blk) (nx fl : Nat) (live : List (List Nat)) (lv kb st : Nat) (hlv : lv ≤ stk.length) (hb : ((stk ++ [cur]).getD lv [])[kb]? = some ⟨st, prs W⟩) :
    ∃ bs j s k, CALL tab F_layout_lay [.arr lv kb st 0 W.length, v] ⟨stk, cur, nx, live, fl⟩ = some (.tup [.arr stk.length (cur.length + j) s 0 fields.length, .agg [.int .i64 ((togEnd 1048576 ws fields).1 : Nat), .int .i64 ((togEnd 1048576 ws fields).2 : Nat)]], ⟨stk, cur ++ bs, k, live, fl⟩) ∧ bs[j]? = some ⟨s, ints (tog 1048576 ws fields).1⟩ := by
  suffices h : Does tab F_layout_lay [.arr lv kb st 0 W.length, v] ⟨stk, cur, nx, live, fl⟩ fun r m' => ∃ bs j s k, r = .tup [.arr stk.length (cur.length + j) s 0 fields.length, .agg [.int .i64 ((togEnd 1048576 ws fields).1 : Nat), .int .i64 ((togEnd 1048576 ws fields).2 : Nat)]] ∧ m' = ⟨stk, cur ++ bs, k, live, fl⟩ ∧ bs[j]? = some ⟨s, ints (tog 1048576 ws fields).1⟩ by
    obtain ⟨z, h1, bs, j, s, k, h2, h3, h4⟩ := h
    exact ⟨bs, j, s, k, by rw [h1, ← h2, ← h3], h4⟩
  refine does_of t_layout_lay ?_ (Nat.le_of_ble_eq_true rfl)
  have hmk : ∀ m : Mem, evMake m 1 8 [.int .i64 0] (.int .i64 fields.length) (.int .i64 fields.length) = some (.arr m.stk.length m.cur.length m.nx 0 fields.length, { m with cur := m.cur ++ [⟨m.nx, ints (List.replicate fields.length 0)⟩], nx := m.nx + 1 }) := fun m => by
    unfold evMake
    simp only
    rw [if_pos ⟨trivial, by omega, by omega, by omega, rfl⟩, Int.toNat_natCast, ints_rep]
  have hne : (lv == (stk ++ [cur]).length) = false := by simp; omega
  simp only [a_layout_lay, go_sem, reduceIte, reduceCtorEq, Nat.reduceAdd, Nat.reduceSub, Nat.reduceEqDiff, Nat.reduceLeDiff, Nat.reduceBEq, Nat.reduceLT, q1.len, hmk, evBuild]
  refine XL_rule (α := Nat) (fun k σ => k ≤ fields.length ∧ ∃ nz, heads [0, 5, 6, 7, 15, 16, 17] 3 σ = ⟨tmps 68 [(0, .arr lv kb st 0 W.length), (5, .ptr (stk ++ [cur]).length 0 nx 0), (6, .arr (stk ++ [cur]).length 1 (nx + 1) 0 fields.length), (7, .ptr (stk ++ [cur]).length 2 (nx + 1 + 1) 0), (15, v), (16, .int .i64 fields.length), (17, .int .i64 k)],
    ⟨stk ++ [cur], [⟨nx, [.int .i64 0, .int .i64 0]⟩, ⟨nx + 1, ints ((tog 1048576 ws (fields.take k)).1 ++ List.replicate (fields.length - k) 0)⟩, ⟨nx + 1 + 1, [.int .i64 ((tog 1048576 ws (fields.take k)).2.1 : Nat), .int .i64 ((tog 1048576 ws (fields.take k)).2.2 : Nat)]⟩], nz, [] :: live, fl⟩⟩) (fun k => fields.length - k) 0 ?_ ?_
  · refine ⟨Nat.zero_le _, ?_⟩
    simp only [go_sem, reduceIte, reduceCtorEq, Nat.reduceAdd, Nat.reduceSub, Nat.reduceEqDiff, Nat.reduceLeDiff, Nat.reduceBEq, Nat.reduceLT, tog, List.take_zero, List.foldl_nil, Nat.sub_zero]
    exact ⟨_, rfl⟩
  · rintro k σ ⟨hk, nz, hσ⟩
    rw [hσ]
    clear hσ σ
    dsimp only at hk ⊢
    obtain ⟨g1, g2, g3⟩ := tog_good (far := 1048576) (Nat.le_refl _) hg hf k hk
    by_cases h : k < fields.length
    · have e2 : nth v k = .agg [.str fields[k].name, .int .i64 fields[k].typ] := q1.nth h
      have hat2 := q1.at .i64 h
      have hfk := hf _ (List.getElem_mem h)
      have hgk := hg.get (j := fields[k].typ.toNat) (by omega)
      have hix := idx_in .i64 (p := fields[k].typ) (n := W.length) ⟨hfk.1, by omega⟩
      have hld := prs_load (ws := W) (j := fields[k].typ.toNat) (by omega)
      rw [hW _ (by omega)] at hld
      have hts := tog_succ 1048576 ws h
      unfold togStep at hts
      generalize tog 1048576 ws (fields.take k) = s at *
      obtain ⟨offs, en, mo⟩ := s
      dsimp only at g1 g2 g3
      generalize ws.getD fields[k].typ.toNat (0, 0) = pr at *
      have hix2 := idx_in .i64 (p := (k : Int)) (n := fields.length) (by omega)
      rw [Int.toNat_natCast] at hix2
      have hsz : offs.length = k := g1
      have hcl : decide (k + 1 ≤ (ints (offs ++ List.replicate (fields.length - k) 0)).length) = true := by rw [ints_len]; simp; omega
      have hset := ints_set (ws := offs ++ List.replicate (fields.length - k) 0) (j := k) (up en pr.2) (by simp; omega)
      rw [set_mid hsz h] at hset
      have hg2 := ints_get (ws := offs ++ [up en pr.2] ++ List.replicate (fields.length - (k + 1)) 0) (j := k) (by simp; omega)
      have hv2 : (offs ++ [up en pr.2] ++ List.replicate (fields.length - (k + 1)) 0).getD k 0 = up en pr.2 := by
        rw [getD_app (by simp; omega)]; simp [List.getD_eq_getElem?_getD, ← hsz]
      rw [hv2] at hg2
      have hup := up_le (n := en) hgk.2
      have ew : IntKind.i64.wrap ((up en pr.2 : Nat) + (pr.1 : Nat)) = ((up en pr.2 + pr.1 : Nat) : Int) := by rw [wrap_i64' (by omega) (by omega)]; omega
      simp only [go_sem, reduceIte, reduceCtorEq, Nat.reduceAdd, Nat.reduceSub, Nat.reduceEqDiff, Nat.reduceLeDiff, Nat.reduceBEq, Nat.reduceLT, Int.ofNat_lt, h, hat2, e2, evIaddr_arr, hix, hne, hb, hld, andNot_up hgk.2 (show en ≤ 4194304 by omega), hix2, Nat.mul_one, hcl, hset, hg2, ew, min2_20, max_nat', evBuild, succ_i64 h q1.max]
      refine ⟨k + 1, by omega, h, nz + 1 + 1, ?_⟩
      rw [hts]
    · have : k = fields.length := by omega
      subst this
      rw [List.take_length, Nat.sub_self, List.replicate_zero, List.append_nil] at *
      have hup := up_le (n := (tog 1048576 ws fields).2.1) g3
      have hfar := up_far g3 g2
      simp only [go_sem, reduceIte, reduceCtorEq, Nat.reduceAdd, Nat.reduceSub, Nat.reduceEqDiff, Nat.reduceLeDiff, Nat.reduceBEq, Nat.reduceLT, Int.ofNat_lt, h, andNot_up g3 (show (tog 1048576 ws fields).2.1 ≤ 4194304 by omega)]
      obtain ⟨bs, hbs, hgb⟩ := leave_lay (m0 := ⟨stk, cur, nx, live, fl⟩) (stk := stk) (cur := cur) (c' := [⟨nx, [.int .i64 ((up (tog 1048576 ws fields).2.1 (tog 1048576 ws fields).2.2 : Nat) : Int), .int .i64 ((tog 1048576 ws fields).2.2 : Nat)]⟩, ⟨nx + 1, ints (tog 1048576 ws fields).1⟩, ⟨nx + 1 + 1, [.int .i64 ((up (tog 1048576 ws fields).2.1 (tog 1048576 ws fields).2.2 : Nat) : Int), .int .i64 ((tog 1048576 ws fields).2.2 : Nat)]⟩]) (nx' := nz) (own := []) (live' := live) (fl' := fl) (k := 1) (st := nx + 1) (off := 0) (len := fields.length) (a := ((up (tog 1048576 ws fields).2.1 (tog 1048576 ws fields).2.2 : Nat) : Int)) (b := ((tog 1048576 ws fields).2.2 : Nat))
      rw [hbs, Opt_some]
      refine ⟨bs, 1, nx + 1, nz, ?_, rfl, hgb _ rfl⟩
      unfold togEnd
      rw [hfar, Nat.add_comm]

end Go.Proofs.W

namespace Go.Proofs.W
open Go.Vs
set_option linter.unusedSimpArgs false
set_option maxRecDepth 100000

theorem pset_mid {A : List (Nat × Nat)} {n i : Nat} {v : Nat × Nat} (h : A.length = i) (hi : i < n) : (A ++ List.replicate (n - i) (0, 0)).set i v = A ++ [v] ++ List.replicate (n - (i + 1)) (0, 0) := by
  rw [List.set_append, if_neg (by omega)]
  rw [show n - i = (n - (i + 1)) + 1 by omega, List.replicate_succ, show i - A.length = 0 by omega]
  simp
theorem pgetD_app {A B : List (Nat × Nat)} {j : Nat} (h : j < A.length) : (A ++ B).getD j (0, 0) = A.getD j (0, 0) := by
  simp [List.getD_eq_getElem?_getD, List.getElem?_append_left h]

theorem leave_arrp {m0 : Mem} {stk : List (List Blk)} {cur c' : List Blk} {nx' fl' : Nat} {own : List Nat} {live' : List (List Nat)} {k st off len : Nat} :
    ∃ bs : List Blk, leave m0 ⟨stk ++ [cur], c', nx', own :: live', fl'⟩ (.arr (stk ++ [cur]).length k st off len) = some (.arr stk.length (k + cur.length) st off len, ⟨stk, cur ++ bs, nx', live', m0.floor⟩) ∧
      ∀ ws, c'[k]? = some ⟨st, prs ws⟩ → bs[k]? = some ⟨st, prs ws⟩ := by
  have e : own.filter (fun _ => false) = [] := by simp
  refine ⟨c'.map fun b => ⟨b.st, shiftAll (stk ++ [cur]).length ((stk ++ [cur]).length - 1) cur.length b.cs⟩, ?_, ?_⟩
  · unfold leave
    simp only [List.getLast?_append, List.getLast?_singleton, Option.some_or, AV.refs, beq_self_eq_true, if_true, AV.toks, List.contains_nil, e, pushToks, List.dropLast_concat, AV.shift]
    simp
  · intro ws h
    rw [List.getElem?_map, h, Option.map_some, shift_prs]

set_option maxHeartbeats 8000000 in
theorem w_layout_extents (l : List DTyp) (x : AV) (hx : IsSl IsTyp 4 l x) (hv : ValidT l) (hl : l.length ≤ 100) (stk : List (List Blk)) (cur : List Blk) (nx fl : Nat) (live : List (List Nat)) :
    ∃ bs j st k, CALL tab F_layout_extents [x] ⟨stk, cur, nx, live, fl⟩ = some (.arr stk.length (cur.length + j) st 0 l.length, ⟨stk, cur ++ bs, k, live, fl⟩) ∧ bs[j]? = some ⟨st, prs (exts 1048576 l)⟩ := by
  suffices h : Does tab F_layout_extents [x] ⟨stk, cur, nx, live, fl⟩ fun v m' => ∃ bs j st k, v = .arr stk.length (cur.length + j) st 0 l.length ∧ m' = ⟨stk, cur ++ bs, k, live, fl⟩ ∧ bs[j]? = some ⟨st, prs (exts 1048576 l)⟩ by
    obtain ⟨z, h1, bs, j, st, k, h2, h3, h4⟩ := h
    exact ⟨bs, j, st, k, by rw [h1, ← h2, ← h3], h4⟩
  refine does_of t_layout_extents ?_ (Nat.le_of_ble_eq_true rfl)
  have hmk : ∀ m : Mem, evMake m 2 16 [.int .i64 0, .int .i64 0] (.int .i64 l.length) (.int .i64 l.length) = some (.arr m.stk.length m.cur.length m.nx 0 l.length, { m with cur := m.cur ++ [⟨m.nx, prs (List.replicate l.length (0, 0))⟩], nx := m.nx + 1 }) := fun m => by
    unfold evMake
    simp only
    rw [if_pos ⟨trivial, by omega, by omega, by omega, rfl⟩, Int.toNat_natCast, prs_rep]
  simp only [a_layout_extents, go_sem, reduceIte, reduceCtorEq, Nat.reduceAdd, Nat.reduceSub, Nat.reduceEqDiff, Nat.reduceLeDiff, Nat.reduceBEq, Nat.reduceLT, hx.len, hmk]
  refine XL_rule (α := Nat) (fun i σ => i ≤ l.length ∧ ∃ nz, heads [3, 10, 11, 12] 1 σ = ⟨tmps 77 [(3, .arr (stk ++ [cur]).length 0 nx 0 l.length), (10, x), (11, .int .i64 l.length), (12, .int .i64 i)],
    ⟨stk ++ [cur], [⟨nx, prs (exts 1048576 (l.take i) ++ List.replicate (l.length - i) (0, 0))⟩], nz, [] :: live, fl⟩⟩) (fun i => l.length - i) 0 ?_ ?_
  · refine ⟨Nat.zero_le _, ?_⟩
    simp only [go_sem, reduceIte, reduceCtorEq, Nat.reduceAdd, Nat.reduceSub, Nat.reduceEqDiff, Nat.reduceLeDiff, Nat.reduceBEq, Nat.reduceLT, exts, List.take_zero, List.foldl_nil, Nat.sub_zero]
    exact ⟨_, rfl⟩
  · rintro i σ ⟨hi, nz, hσ⟩
    rw [hσ]
    clear hσ σ
    dsimp only at hi ⊢
    by_cases h : i < l.length
    · have hfine := hv i h
      obtain ⟨v, e1, q1⟩ := hx.nth h
      have hat := hx.at .i64 h
      have hsucc := succ_i64 h hx.max
      have hAl := exts_len 1048576 l i hi
      have hrs := exts_succ 1048576 h
      have hgood := exts_good (far := 1048576) (Nat.le_refl _) hv i hi
      have hflen := fine_len hfine
      generalize hout : exts 1048576 (l.take i) = A at *
      generalize ht : l[i] = t at *
      clear ht
      generalize hn : l.length = n at *
      obtain ⟨kind, elem, len, fields⟩ := t
      dsimp only at e1 q1 hflen
      have hix2 := idx_in .i64 (p := (i : Int)) (n := n) (by omega)
      rw [Int.toNat_natCast] at hix2
      have hcl : decide (i * 2 + 2 ≤ (prs (A ++ List.replicate (n - i) (0, 0))).length) = true := by rw [prs_len]; simp; omega
      simp only [go_sem, reduceIte, reduceCtorEq, Nat.reduceAdd, Nat.reduceSub, Nat.reduceEqDiff, Nat.reduceLeDiff, Nat.reduceBEq, Nat.reduceLT, Int.ofNat_lt, h, hat, e1, q1.one]
      by_cases k1 : kind = 1
      · subst k1
        have hV : ((1 : Nat), (1 : Nat)) = ext1 1048576 A ⟨1, elem, len, fields⟩ := rfl
        simp only [go_sem, reduceIte, reduceCtorEq, Nat.reduceAdd, Nat.reduceSub, Nat.reduceEqDiff, Nat.reduceLeDiff, Nat.reduceBEq, Nat.reduceLT]
        have hset : (prs (A ++ List.replicate (n - i) (0, 0))).take (i * 2) ++ [.int .i64 1, .int .i64 1] ++ (prs (A ++ List.replicate (n - i) (0, 0))).drop (i * 2 + 2) = prs ((A ++ List.replicate (n - i) (0, 0)).set i (1, 1)) := prs_set (A ++ List.replicate (n - i) (0, 0)) i 1 1 (by simp; omega)
        rw [pset_mid hAl h] at hset
        simp only [go_sem, reduceIte, reduceCtorEq, Nat.reduceAdd, Nat.reduceSub, Nat.reduceEqDiff, Nat.reduceLeDiff, Nat.reduceBEq, Nat.reduceLT, evBuild, evIaddr_arr, hix2, hcl, hset, hsucc]
        refine ⟨i + 1, by omega, h, ?_⟩
        rw [hrs, ← hV]
        exact ⟨_, rfl⟩
      have k1' : (kind == 1) = false := by simpa using k1
      by_cases k2 : kind = 2
      · subst k2
        have hV : ((8 : Nat), (8 : Nat)) = ext1 1048576 A ⟨2, elem, len, fields⟩ := rfl
        simp only [go_sem, reduceIte, reduceCtorEq, Nat.reduceAdd, Nat.reduceSub, Nat.reduceEqDiff, Nat.reduceLeDiff, Nat.reduceBEq, Nat.reduceLT, k1']
        have hset : (prs (A ++ List.replicate (n - i) (0, 0))).take (i * 2) ++ [.int .i64 8, .int .i64 8] ++ (prs (A ++ List.replicate (n - i) (0, 0))).drop (i * 2 + 2) = prs ((A ++ List.replicate (n - i) (0, 0)).set i (8, 8)) := prs_set (A ++ List.replicate (n - i) (0, 0)) i 8 8 (by simp; omega)
        rw [pset_mid hAl h] at hset
        simp only [go_sem, reduceIte, reduceCtorEq, Nat.reduceAdd, Nat.reduceSub, Nat.reduceEqDiff, Nat.reduceLeDiff, Nat.reduceBEq, Nat.reduceLT, evBuild, evIaddr_arr, hix2, hcl, hset, hsucc]
        refine ⟨i + 1, by omega, h, ?_⟩
        rw [hrs, ← hV]
        exact ⟨_, rfl⟩
      have k2' : (kind == 2) = false := by simpa using k2
      by_cases k4 : kind = 4
      · subst k4
        have hV : ((8 : Nat), (8 : Nat)) = ext1 1048576 A ⟨4, elem, len, fields⟩ := rfl
        simp only [go_sem, reduceIte, reduceCtorEq, Nat.reduceAdd, Nat.reduceSub, Nat.reduceEqDiff, Nat.reduceLeDiff, Nat.reduceBEq, Nat.reduceLT, k1', k2']
        have hset : (prs (A ++ List.replicate (n - i) (0, 0))).take (i * 2) ++ [.int .i64 8, .int .i64 8] ++ (prs (A ++ List.replicate (n - i) (0, 0))).drop (i * 2 + 2) = prs ((A ++ List.replicate (n - i) (0, 0)).set i (8, 8)) := prs_set (A ++ List.replicate (n - i) (0, 0)) i 8 8 (by simp; omega)
        rw [pset_mid hAl h] at hset
        simp only [go_sem, reduceIte, reduceCtorEq, Nat.reduceAdd, Nat.reduceSub, Nat.reduceEqDiff, Nat.reduceLeDiff, Nat.reduceBEq, Nat.reduceLT, evBuild, evIaddr_arr, hix2, hcl, hset, hsucc]
        refine ⟨i + 1, by omega, h, ?_⟩
        rw [hrs, ← hV]
        exact ⟨_, rfl⟩
      have k4' : (kind == 4) = false := by simpa using k4
      by_cases k3 : kind = 3
      · subst k3
        have hV : ((16 : Nat), (8 : Nat)) = ext1 1048576 A ⟨3, elem, len, fields⟩ := rfl
        simp only [go_sem, reduceIte, reduceCtorEq, Nat.reduceAdd, Nat.reduceSub, Nat.reduceEqDiff, Nat.reduceLeDiff, Nat.reduceBEq, Nat.reduceLT, k1', k2', k4']
        have hset : (prs (A ++ List.replicate (n - i) (0, 0))).take (i * 2) ++ [.int .i64 16, .int .i64 8] ++ (prs (A ++ List.replicate (n - i) (0, 0))).drop (i * 2 + 2) = prs ((A ++ List.replicate (n - i) (0, 0)).set i (16, 8)) := prs_set (A ++ List.replicate (n - i) (0, 0)) i 16 8 (by simp; omega)
        rw [pset_mid hAl h] at hset
        simp only [go_sem, reduceIte, reduceCtorEq, Nat.reduceAdd, Nat.reduceSub, Nat.reduceEqDiff, Nat.reduceLeDiff, Nat.reduceBEq, Nat.reduceLT, evBuild, evIaddr_arr, hix2, hcl, hset, hsucc]
        refine ⟨i + 1, by omega, h, ?_⟩
        rw [hrs, ← hV]
        exact ⟨_, rfl⟩
      have k3' : (kind == 3) = false := by simpa using k3
      by_cases k7 : kind = 7
      · subst k7
        have hV : ((24 : Nat), (8 : Nat)) = ext1 1048576 A ⟨7, elem, len, fields⟩ := rfl
        simp only [go_sem, reduceIte, reduceCtorEq, Nat.reduceAdd, Nat.reduceSub, Nat.reduceEqDiff, Nat.reduceLeDiff, Nat.reduceBEq, Nat.reduceLT, k1', k2', k4', k3']
        have hset : (prs (A ++ List.replicate (n - i) (0, 0))).take (i * 2) ++ [.int .i64 24, .int .i64 8] ++ (prs (A ++ List.replicate (n - i) (0, 0))).drop (i * 2 + 2) = prs ((A ++ List.replicate (n - i) (0, 0)).set i (24, 8)) := prs_set (A ++ List.replicate (n - i) (0, 0)) i 24 8 (by simp; omega)
        rw [pset_mid hAl h] at hset
        simp only [go_sem, reduceIte, reduceCtorEq, Nat.reduceAdd, Nat.reduceSub, Nat.reduceEqDiff, Nat.reduceLeDiff, Nat.reduceBEq, Nat.reduceLT, evBuild, evIaddr_arr, hix2, hcl, hset, hsucc]
        refine ⟨i + 1, by omega, h, ?_⟩
        rw [hrs, ← hV]
        exact ⟨_, rfl⟩
      have k7' : (kind == 7) = false := by simpa using k7
      by_cases k6 : kind = 6
      · subst k6
        have hel := hflen.2.2.2.1 rfl
        have hle := hflen.2.1 rfl
        have hge := hgood.get (j := elem.toNat) (by omega)
        have hix := idx_in .i64 (p := elem) (n := n) ⟨hel.1, by omega⟩
        have hld := prs_load (ws := A ++ List.replicate (n - i) (0, 0)) (j := elem.toNat) (by simp; omega)
        rw [pgetD_app (by omega)] at hld
        have hV : (min 1048576 (len.toNat * (A.getD elem.toNat (0, 0)).1), (A.getD elem.toNat (0, 0)).2) = ext1 1048576 A ⟨6, elem, len, fields⟩ := rfl
        generalize A.getD elem.toNat (0, 0) = pr at *
        have hmul : len.toNat * pr.1 ≤ 16 * 1048576 := Nat.mul_le_mul (by omega) hge.1
        have ew : IntKind.i64.wrap (len * (pr.1 : Int)) = ((len.toNat * pr.1 : Nat) : Int) := by
          have : len * (pr.1 : Int) = ((len.toNat * pr.1 : Nat) : Int) := by rw [Int.natCast_mul, Int.toNat_of_nonneg (by omega)]
          rw [this, wrap_i64' (by omega) (by omega)]
        simp only [go_sem, reduceIte, reduceCtorEq, Nat.reduceAdd, Nat.reduceSub, Nat.reduceEqDiff, Nat.reduceLeDiff, Nat.reduceBEq, Nat.reduceLT, k1', k2', k4', k3', k7', evIaddr_arr, hix, hld, ew, min2_20, evBuild]
        have hset := prs_set (A ++ List.replicate (n - i) (0, 0)) i (min 1048576 (len.toNat * pr.1)) (pr.2) (by simp; omega)
        rw [pset_mid hAl h] at hset
        simp only [go_sem, reduceIte, reduceCtorEq, Nat.reduceAdd, Nat.reduceSub, Nat.reduceEqDiff, Nat.reduceLeDiff, Nat.reduceBEq, Nat.reduceLT, evBuild, evIaddr_arr, hix2, hcl, hset, hsucc]
        refine ⟨i + 1, by omega, h, ?_⟩
        rw [hrs, ← hV]
        exact ⟨_, rfl⟩
      have k6' : (kind == 6) = false := by simpa using k6
      have k5 : kind = 5 := by
        rcases hfine with ⟨h1, _⟩ | ⟨h1, _⟩ | ⟨h1, _⟩ | ⟨h1, _⟩ <;> dsimp only at h1 <;> omega
      subst k5
      have hV : togEnd 1048576 A fields = ext1 1048576 A ⟨5, elem, len, fields⟩ := rfl
      obtain ⟨bs, j, s, k, hcall, _⟩ := w_layout_lay A (A ++ List.replicate (n - i) (0, 0)) hgood (by simp) (fun j hj => pgetD_app hj) fields v q1 (by rw [hAl]; exact hflen.2.2.2.2.2) (by omega) (stk ++ [cur])
        [⟨nx, prs (A ++ List.replicate (n - i) (0, 0))⟩, ⟨nz, [.int .u8 5, .int .i64 elem, .int .i64 len, v]⟩] (nz + 1) fl ([] :: live) (stk ++ [cur]).length 0 nx (Nat.le_refl _) (by simp)
      have hlW : List.length (A ++ List.replicate (n - i) ((0 : Nat), (0 : Nat))) = n := by simp; omega
      rw [hlW] at hcall
      simp only [go_sem, reduceIte, reduceCtorEq, Nat.reduceAdd, Nat.reduceSub, Nat.reduceEqDiff, Nat.reduceLeDiff, Nat.reduceBEq, Nat.reduceLT, k1', k2', k4', k3', k7', k6', hcall]
      generalize togEnd 1048576 A fields = pr at *
      have hset := prs_set (A ++ List.replicate (n - i) (0, 0)) i (pr.1) (pr.2) (by simp; omega)
      rw [pset_mid hAl h] at hset
      simp only [go_sem, reduceIte, reduceCtorEq, Nat.reduceAdd, Nat.reduceSub, Nat.reduceEqDiff, Nat.reduceLeDiff, Nat.reduceBEq, Nat.reduceLT, evBuild, evIaddr_arr, hix2, hcl, hset, hsucc]
      refine ⟨i + 1, by omega, h, ?_⟩
      rw [hrs, ← hV]
      exact ⟨_, rfl⟩
    · have : i = l.length := by omega
      subst this
      rw [List.take_length, Nat.sub_self, List.replicate_zero, List.append_nil]
      simp only [go_sem, reduceIte, reduceCtorEq, Nat.reduceAdd, Nat.reduceSub, Nat.reduceEqDiff, Nat.reduceLeDiff, Nat.reduceBEq, Nat.reduceLT, Int.ofNat_lt, h]
      obtain ⟨bs, hbs, hgb⟩ := leave_arrp (m0 := ⟨stk, cur, nx, live, fl⟩) (stk := stk) (cur := cur) (c' := [⟨nx, prs (exts 1048576 l)⟩]) (nx' := nz) (own := []) (live' := live) (fl' := fl) (k := 0) (st := nx) (off := 0) (len := l.length)
      rw [hbs, Opt_some]
      exact ⟨bs, 0, nx, nz, by rw [Nat.add_comm], rfl, hgb _ rfl⟩

end Go.Proofs.W

namespace Go.Proofs.W
open Go.Vs
set_option linter.unusedSimpArgs false
set_option maxRecDepth 100000

theorem call_nx {tab : Nat → Option AFunc} {f : Nat} {args : List AV} {m m' : Mem} {r : AV} (h : CALL tab f args m = some (r, m')) (hf : m.floor ≤ m.stk.length + 1) : m.nx ≤ m'.nx := by
  obtain ⟨n, h⟩ := CALL_iff.1 h
  exact (callN_above n _ _ _ _ _ h hf).nx

/-- Two lists of the running frame, with tokens of their own. -/
structure Own2 {α β : Type} (R1 : α → AV → Prop) (s1 : Nat) (y1 : AV) (a : List α) (R2 : β → AV → Prop) (s2 : Nat) (y2 : AV) (b : List β) (e : List Nat) (nx : Nat) : Prop where
  l : Own R1 s1 y1 a e
  r : Own R2 s2 y2 b e
  dj : ∀ t ∈ y1.toks, t ∉ y2.toks
  bl : ∀ t ∈ y1.toks, t < nx
  br : ∀ t ∈ y2.toks, t < nx

section
variable {α β : Type} {R1 : α → AV → Prop} {s1 : Nat} {y1 : AV} {a : List α} {R2 : β → AV → Prop} {s2 : Nat} {y2 : AV} {b : List β} {e : List Nat} {nx : Nat}

theorem Own2.symm (h : Own2 R1 s1 y1 a R2 s2 y2 b e nx) : Own2 R2 s2 y2 b R1 s1 y1 a e nx := ⟨h.r, h.l, fun t h1 h2 => h.dj t h2 h1, h.br, h.bl⟩
theorem Own2.nil (e : List Nat) (nx : Nat) : Own2 R1 s1 .nils [] R2 s2 .nils [] e nx := ⟨.nil e, .nil e, fun t h => by simp [AV.toks] at h, fun t h => by simp [AV.toks] at h, fun t h => by simp [AV.toks] at h⟩
theorem Own2.mono {e' : List Nat} {nx' : Nat} (h : Own2 R1 s1 y1 a R2 s2 y2 b e nx) (k : ∀ t ∈ e, t ∈ e') (hn : nx ≤ nx') : Own2 R1 s1 y1 a R2 s2 y2 b e' nx' :=
  ⟨h.l.mono k, h.r.mono k, h.dj, fun t ht => Nat.lt_of_lt_of_le (h.bl t ht) hn, fun t ht => Nat.lt_of_lt_of_le (h.br t ht) hn⟩

theorem own_other {α : Type} {R : α → AV → Prop} {s : Nat} {y : AV} {xs : List α} {e : List Nat} {t : Nat} (h : Own R s y xs e) (ht : t ∉ y.toks) : Own R s y xs (e.erase t) := by
  rcases h with h | ⟨tk, ys, h1, h2, h3 | ⟨u, h3, h4⟩⟩
  · exact .inl h
  · exact .inr ⟨tk, ys, h1, h2, .inl h3⟩
  · refine .inr ⟨tk, ys, h1, h2, .inr ⟨u, (List.mem_erase_of_ne ?_).2 h3, h4⟩⟩
    rintro rfl
    exact ht (by rw [h1, h4]; simp [AV.toks])

theorem Own2.app {cs : List α} {z : AV} {zs : List AV} {bytes : Nat} (h : Own2 R1 s1 y1 a R2 s2 y2 b e nx) (hz : ∀ m : Mem, m.elems s1 z = some zs) (hc : All2 R1 cs zs) (hl : (a.length + cs.length) * bytes ≤ 140737488355328)
    (stk : List (List Blk)) (cur : List Blk) (rest : List (List Nat)) (fl : Nat) :
    ∃ y' n e', evApp ⟨stk, cur, nx, e :: rest, fl⟩ s1 bytes y1 z = some (y', ⟨stk, cur, n, e' :: rest, fl⟩) ∧ Own2 R1 s1 y' (a ++ cs) R2 s2 y2 b e' n := by
  have new : ∀ ys (e' : List Nat), All2 R1 (a ++ cs) ys → Own R2 s2 y2 b e' → nx ∈ e' → Own2 R1 s1 (.list s1 (.id nx) ys) (a ++ cs) R2 s2 y2 b e' (nx + 1) := fun ys e' q ho hn =>
    ⟨.inr ⟨_, ys, rfl, q, .inr ⟨nx, hn, rfl⟩⟩, ho, fun t ht h2 => by
      simp only [AV.toks, List.mem_singleton] at ht
      subst ht
      exact Nat.lt_irrefl _ (h.br _ h2), fun t ht => by
      simp only [AV.toks, List.mem_singleton] at ht
      omega, fun t ht => Nat.lt_succ_of_lt (h.br t ht)⟩
  rcases Own.app (m := ⟨stk, cur, nx, e :: rest, fl⟩) (h.l.mono fun t h => by simp only [List.flatten_cons, List.mem_append]; exact .inl h) (hz _) hc hl with ⟨hcs, q⟩ | ⟨ys, q, eq⟩ | ⟨t, ys, q0, hy, _, q, eq⟩
  · subst hcs; rw [List.append_nil]; exact ⟨_, _, _, q, h⟩
  · exact ⟨_, _, nx :: e, eq, new ys _ q (h.r.mono fun t h => List.mem_cons_of_mem _ h) List.mem_cons_self⟩
  · have ht : t ∈ e := by
      rcases h.l with ⟨h1, _⟩ | ⟨tk, ys', e1, _, e2 | ⟨t', e3, e2⟩⟩
      · rw [h1] at hy; cases hy
      · rw [e1, e2] at hy; cases hy
      · rw [e1, e2] at hy; injection hy with _ hy _; injection hy with hy; exact hy ▸ e3
    have hd : dropTok t (e :: rest) = e.erase t :: rest := by
      simp only [dropTok]; rw [if_pos (by simpa using ht)]
    rw [show (Mem.live ⟨stk, cur, nx, e :: rest, fl⟩) = e :: rest from rfl, hd] at eq
    refine ⟨_, _, nx :: e.erase t, eq, new ys _ q ((own_other h.r (h.dj t (by rw [hy]; simp [AV.toks]))).mono fun t h => List.mem_cons_of_mem _ h) List.mem_cons_self⟩

variable {tab : Nat → Option AFunc} {ρ : List AV} {k : Kont} {l : List AOper} {d : Option Nat}
theorem Own2.xv1 {cs : List α} {z : AV} {zs : List AV} {bytes fl : Nat} {stk : List (List Blk)} {cur : List Blk} {rest : List (List Nat)} (h : Own2 R1 s1 y1 a R2 s2 y2 b e nx) (hz : ∀ m : Mem, m.elems s1 z = some zs) (hc : All2 R1 cs zs) (hl : (a.length + cs.length) * bytes ≤ 140737488355328)
    (q : ∀ y' n e', Own2 R1 s1 y' (a ++ cs) R2 s2 y2 b e' n → Xs tab l (setDst ρ d y') ⟨stk, cur, n, e' :: rest, fl⟩ k) : Xv tab (evApp ⟨stk, cur, nx, e :: rest, fl⟩ s1 bytes y1 z) d l ρ k := by
  obtain ⟨y', n, e', h1, h2⟩ := h.app hz hc hl stk cur rest fl
  rw [h1, Xv_some]; exact q y' n e' h2
theorem Own2.xv2 {cs : List β} {z : AV} {zs : List AV} {bytes fl : Nat} {stk : List (List Blk)} {cur : List Blk} {rest : List (List Nat)} (h : Own2 R1 s1 y1 a R2 s2 y2 b e nx) (hz : ∀ m : Mem, m.elems s2 z = some zs) (hc : All2 R2 cs zs) (hl : (b.length + cs.length) * bytes ≤ 140737488355328)
    (q : ∀ y' n e', Own2 R1 s1 y1 a R2 s2 y' (b ++ cs) e' n → Xs tab l (setDst ρ d y') ⟨stk, cur, n, e' :: rest, fl⟩ k) : Xv tab (evApp ⟨stk, cur, nx, e :: rest, fl⟩ s2 bytes y2 z) d l ρ k := by
  obtain ⟨y', n, e', h1, h2⟩ := h.symm.app hz hc hl stk cur rest fl
  rw [h1, Xv_some]; exact q y' n e' h2.symm
end

theorem w_up {n a : Nat} (ha : is18 a) (hn : n ≤ 4194304) (m : Mem) : Okv tab F_wreckageref05_up [.int .i64 n, .int .i64 a] m (.int .i64 (up n a : Nat)) := by
  refine okv_of t_wreckageref05_up ?_
  obtain ⟨stk, cur, nx, live, fl⟩ := m
  have e1 : IntKind.i64.wrap ((n : Int) + (a : Int)) = ((n + a : Nat) : Int) := by unfold is18 at ha; rw [wrap_i64' (by omega) (by omega)]; omega
  have e2 : IntKind.i64.wrap (((n + a : Nat) : Int) - 1) = ((n + a - 1 : Nat) : Int) := by unfold is18 at ha; rw [wrap_i64' (by omega) (by omega)]; omega
  have e3 : IntKind.i64.wrap (((n + a - 1 : Nat) : Int).tdiv (a : Int)) = (((n + a - 1) / a : Nat) : Int) := by
    rw [tdiv_nat]
    have : (n + a - 1) / a ≤ n + a - 1 := Nat.div_le_self _ _
    unfold is18 at ha
    generalize (n + a - 1) / a = q at *
    rw [wrap_i64' (by omega) (by omega)]
  have e4 : IntKind.i64.wrap ((((n + a - 1) / a : Nat) : Int) * (a : Int)) = ((up n a : Nat) : Int) := by
    rw [← Int.natCast_mul]
    have := up_le (n := n) ha
    show IntKind.i64.wrap ((up n a : Nat) : Int) = _
    rw [wrap_i64' (by omega) (by omega)]
  have e0 : ¬ ((a : Int) = 0) := by unfold is18 at ha; omega
  simp only [a_wreckageref05_up, go_sem, reduceIte, reduceCtorEq, Nat.reduceAdd, Nat.reduceSub, Nat.reduceEqDiff, Nat.reduceLeDiff, Nat.reduceBEq, Nat.reduceLT, e1, e2, e0, e3, e4]
  rw [leave_plain rfl rfl, Opt_some]
  exact ⟨⟨_, rfl⟩, rfl⟩

def szs (ws : List (Nat × Nat)) : List Nat := ws.map Prod.fst
def als (ws : List (Nat × Nat)) : List Nat := ws.map Prod.snd
theorem szs_get {ws : List (Nat × Nat)} {j : Nat} (h : j < ws.length) : (szs ws)[j]'(by simpa [szs] using h) = (ws.getD j (0, 0)).1 := by simp [szs, List.getD_eq_getElem?_getD, h]
theorem als_get {ws : List (Nat × Nat)} {j : Nat} (h : j < ws.length) : (als ws)[j]'(by simpa [als] using h) = (ws.getD j (0, 0)).2 := by simp [als, List.getD_eq_getElem?_getD, h]

set_option maxHeartbeats 4000000 in
theorem w_together (ws : List (Nat × Nat)) (hg : GoodP ws) (y1 y2 : AV) (h1 : IsSl IsN 1 (szs ws) y1) (h2 : IsSl IsN 1 (als ws) y2) (fields : List DField) (v : AV) (q1 : IsSl IsField 2 fields v) (hf : ∀ f ∈ fields, 0 ≤ f.typ ∧ f.typ < ws.length) (hlen : fields.length ≤ 100) (m : Mem) :
    ∃ y ts k, CALL tab F_wreckageref05_together [y1, y2, v] m = some (.tup [y, .int .i64 ((togEnd 1000000 ws fields).1 : Nat), .int .i64 ((togEnd 1000000 ws fields).2 : Nat)], { m with nx := k, live := pushToks ts m.live }) ∧ Own IsN 1 y (tog 1000000 ws fields).1 ts := by
  suffices h : Does tab F_wreckageref05_together [y1, y2, v] m fun r m' => ∃ y ts k, r = .tup [y, .int .i64 ((togEnd 1000000 ws fields).1 : Nat), .int .i64 ((togEnd 1000000 ws fields).2 : Nat)] ∧ m' = { m with nx := k, live := pushToks ts m.live } ∧ Own IsN 1 y (tog 1000000 ws fields).1 ts by
    obtain ⟨z, e1, y, ts, k, e2, e3, e4⟩ := h
    exact ⟨y, ts, k, by rw [e1, ← e2, ← e3], e4⟩
  refine does_of t_wreckageref05_together ?_ (Nat.le_of_ble_eq_true rfl)
  obtain ⟨stk, cur, nx, live, fl⟩ := m
  simp only [a_wreckageref05_together, go_sem, reduceIte, reduceCtorEq, Nat.reduceAdd, Nat.reduceSub, Nat.reduceEqDiff, Nat.reduceLeDiff, Nat.reduceBEq, Nat.reduceLT]
  refine XL_rule (α := Nat) (fun k σ => k ≤ fields.length ∧ ∃ nz y e, Own IsN 1 y (tog 1000000 ws (fields.take k)).1 e ∧ heads [0, 1, 2, 9, 10, 11, 12] 0 σ = ⟨tmps 55 [(0, y1), (1, y2), (2, v), (9, y), (10, .int .i64 ((tog 1000000 ws (fields.take k)).2.1 : Nat)), (11, .int .i64 ((tog 1000000 ws (fields.take k)).2.2 : Nat)), (12, .int .i64 k)], ⟨stk ++ [cur], [], nz, e :: live, fl⟩⟩) (fun k => fields.length - k) 0 ?_ ?_
  · refine ⟨Nat.zero_le _, nx, .nils, [], .nil _, ?_⟩
    simp only [go_sem, reduceIte, reduceCtorEq, Nat.reduceAdd, Nat.reduceSub, Nat.reduceEqDiff, Nat.reduceLeDiff, Nat.reduceBEq, Nat.reduceLT, tog, List.take_zero, List.foldl_nil]
    rfl
  · rintro k σ ⟨hk, nz, y, e, ho, hσ⟩
    rw [hσ]
    clear hσ σ
    dsimp only at hk ⊢
    obtain ⟨g1, g2, g3⟩ := tog_good (far := 1000000) (by omega) hg hf k hk
    by_cases h : k < fields.length
    · have e2 : nth v k = .agg [.str fields[k].name, .int .i64 fields[k].typ] := q1.nth h
      have hat2 := q1.at .i64 h
      have hfk := hf _ (List.getElem_mem h)
      have hj : fields[k].typ.toNat < ws.length := by omega
      have hgk := hg.get hj
      have ht1 : fields[k].typ.toNat < (szs ws).length := by simpa [szs] using hj
      have ht2 : fields[k].typ.toNat < (als ws).length := by simpa [als] using hj
      have s1 : nth y1 fields[k].typ.toNat = .int .i64 ((szs ws)[fields[k].typ.toNat] : Nat) := h1.nth ht1
      have s2 : nth y2 fields[k].typ.toNat = .int .i64 ((als ws)[fields[k].typ.toNat] : Nat) := h2.nth ht2
      have a1 := h1.at .i64 ht1
      have a2 := h2.at .i64 ht2
      rw [Int.toNat_of_nonneg hfk.1] at a1 a2
      rw [szs_get hj] at s1
      rw [als_get hj] at s2
      have hts := tog_succ 1000000 ws h
      unfold togStep at hts
      generalize tog 1000000 ws (fields.take k) = s at *
      obtain ⟨offs, en, mo⟩ := s
      dsimp only at g1 g2 g3 ho
      generalize ws.getD fields[k].typ.toNat (0, 0) = pr at *
      have hup := up_le (n := en) hgk.2
      have ew : IntKind.i64.wrap ((up en pr.2 : Nat) + (pr.1 : Nat)) = ((up en pr.2 + pr.1 : Nat) : Int) := by rw [wrap_i64' (by omega) (by omega)]; omega
      simp only [go_sem, reduceIte, reduceCtorEq, Nat.reduceAdd, Nat.reduceSub, Nat.reduceEqDiff, Nat.reduceLeDiff, Nat.reduceBEq, Nat.reduceLT, Int.ofNat_lt, h, q1.len, hat2, e2, a2, s2, (w_up hgk.2 (show en ≤ 4194304 by omega) _).eq]
      refine ho.xv (elems_list · _ _ _) (all2_one (R := IsN) (x := up en pr.2) rfl) (by simp; omega) fun y' n' e' ho' => ?_
      simp only [go_sem, reduceIte, reduceCtorEq, Nat.reduceAdd, Nat.reduceSub, Nat.reduceEqDiff, Nat.reduceLeDiff, Nat.reduceBEq, Nat.reduceLT, a1, s1, a2, s2, ew, min10_6, max_nat, succ_i64 h q1.max]
      refine ⟨k + 1, by omega, h, n', y', e', ?_, ?_⟩
      · rw [hts]; exact ho'
      · rw [hts]
    · have : k = fields.length := by omega
      subst this
      rw [List.take_length] at *
      have hup := up_le (n := (tog 1000000 ws fields).2.1) g3
      simp only [go_sem, reduceIte, reduceCtorEq, Nat.reduceAdd, Nat.reduceSub, Nat.reduceEqDiff, Nat.reduceLeDiff, Nat.reduceBEq, Nat.reduceLT, Int.ofNat_lt, h, q1.len, (w_up g3 (show (tog 1000000 ws fields).2.1 ≤ 4194304 by omega) _).eq, min10_6]
      rw [leave_val (by simp only [AV.refs, refsAny, ho.refs]; rfl), Opt_some]
      refine ⟨y, _, _, rfl, rfl, ?_⟩
      simp only [AV.toks, toksAll, List.append_nil]
      exact ho.filter

end Go.Proofs.W

namespace Go.Proofs.W
open Go.Vs
set_option linter.unusedSimpArgs false
set_option maxRecDepth 100000

set_option maxHeartbeats 8000000 in
theorem w_Sizes (l : List DTyp) (x : AV) (hx : IsSl IsTyp 4 l x) (hv : ValidT l) (hl : l.length ≤ 100) (m : Mem) (hf : m.floor ≤ m.stk.length + 1) :
    ∃ y1 y2 ts k, CALL tab F_wreckageref05_Sizes [x] m = some (.tup [y1, y2], { m with nx := k, live := pushToks ts m.live }) ∧ Own IsN 1 y1 (szs (exts 1000000 l)) ts ∧ Own IsN 1 y2 (als (exts 1000000 l)) ts := by
  suffices h : Does tab F_wreckageref05_Sizes [x] m fun r m' => ∃ y1 y2 ts k, r = .tup [y1, y2] ∧ m' = { m with nx := k, live := pushToks ts m.live } ∧ Own IsN 1 y1 (szs (exts 1000000 l)) ts ∧ Own IsN 1 y2 (als (exts 1000000 l)) ts by
    obtain ⟨z, e1, y1, y2, ts, k, e2, e3, e4⟩ := h
    exact ⟨y1, y2, ts, k, by rw [e1, ← e2, ← e3], e4⟩
  refine does_of t_wreckageref05_Sizes ?_ (Nat.le_of_ble_eq_true rfl)
  obtain ⟨stk, cur, nx, live, fl⟩ := m
  dsimp only at hf
  simp only [a_wreckageref05_Sizes, go_sem, reduceIte, reduceCtorEq, Nat.reduceAdd, Nat.reduceSub, Nat.reduceEqDiff, Nat.reduceLeDiff, Nat.reduceBEq, Nat.reduceLT]
  refine XL_rule (α := Nat) (fun i σ => i ≤ l.length ∧ ∃ nz y1 y2 e, Own2 IsN 1 y1 (szs (exts 1000000 (l.take i))) IsN 1 y2 (als (exts 1000000 (l.take i))) e nz ∧ heads [0, 4, 5, 6] 0 σ = ⟨tmps 75 [(0, x), (4, y1), (5, y2), (6, .int .i64 i)], ⟨stk ++ [cur], [], nz, e :: live, fl⟩⟩) (fun i => l.length - i) 0 ?_ ?_
  · refine ⟨Nat.zero_le _, nx, .nils, .nils, [], .nil _ _, ?_⟩
    simp only [go_sem, reduceIte, reduceCtorEq, Nat.reduceAdd, Nat.reduceSub, Nat.reduceEqDiff, Nat.reduceLeDiff, Nat.reduceBEq, Nat.reduceLT]
    rfl
  · rintro i σ ⟨hi, nz, y1, y2, e, hO, hσ⟩
    rw [hσ]
    clear hσ σ
    dsimp only at hi ⊢
    by_cases h : i < l.length
    · have hfine := hv i h
      obtain ⟨v, e1, q1⟩ := hx.nth h
      have hat := hx.at .i64 h
      have hsucc := succ_i64 h hx.max
      have hAl := exts_len 1000000 l i hi
      have hrs := exts_succ 1000000 h
      have hgood := exts_good (far := 1000000) (by omega) hv i hi
      have hflen := fine_len hfine
      have hlx := hx.len
      generalize hout : exts 1000000 (l.take i) = A at *
      generalize ht : l[i] = t at *
      clear ht
      obtain ⟨kind, elem, len, fields⟩ := t
      dsimp only at e1 q1 hflen
      simp only [go_sem, reduceIte, reduceCtorEq, Nat.reduceAdd, Nat.reduceSub, Nat.reduceEqDiff, Nat.reduceLeDiff, Nat.reduceBEq, Nat.reduceLT, Int.ofNat_lt, h, hlx, hat, e1]
      by_cases k1 : kind = 1
      · subst k1
        have hV : ((1 : Nat), (1 : Nat)) = ext1 1000000 A ⟨1, elem, len, fields⟩ := rfl
        simp only [go_sem, reduceIte, reduceCtorEq, Nat.reduceAdd, Nat.reduceSub, Nat.reduceEqDiff, Nat.reduceLeDiff, Nat.reduceBEq, Nat.reduceLT]
        refine hO.xv1 (elems_list · _ _ _) (all2_one (R := IsN) (x := 1) rfl) (by simp [szs]; omega) fun y1' n1 e1' hO1 => ?_
        simp only [go_sem, reduceIte, reduceCtorEq, Nat.reduceAdd, Nat.reduceSub, Nat.reduceEqDiff, Nat.reduceLeDiff, Nat.reduceBEq, Nat.reduceLT]
        refine hO1.xv2 (elems_list · _ _ _) (all2_one (R := IsN) (x := 1) rfl) (by simp [als]; omega) fun y2' n2 e2' hO2 => ?_
        simp only [go_sem, reduceIte, reduceCtorEq, Nat.reduceAdd, Nat.reduceSub, Nat.reduceEqDiff, Nat.reduceLeDiff, Nat.reduceBEq, Nat.reduceLT, hsucc]
        refine ⟨i + 1, by omega, h, n2, y1', y2', e2', ?_, rfl⟩
        rw [hrs, ← hV]
        simpa [szs, als] using hO2
      have k1' : (kind == 1) = false := by simpa using k1
      by_cases k3 : kind = 3
      · subst k3
        have hV : ((16 : Nat), (8 : Nat)) = ext1 1000000 A ⟨3, elem, len, fields⟩ := rfl
        simp only [go_sem, reduceIte, reduceCtorEq, Nat.reduceAdd, Nat.reduceSub, Nat.reduceEqDiff, Nat.reduceLeDiff, Nat.reduceBEq, Nat.reduceLT, k1']
        refine hO.xv1 (elems_list · _ _ _) (all2_one (R := IsN) (x := 16) rfl) (by simp [szs]; omega) fun y1' n1 e1' hO1 => ?_
        simp only [go_sem, reduceIte, reduceCtorEq, Nat.reduceAdd, Nat.reduceSub, Nat.reduceEqDiff, Nat.reduceLeDiff, Nat.reduceBEq, Nat.reduceLT]
        refine hO1.xv2 (elems_list · _ _ _) (all2_one (R := IsN) (x := 8) rfl) (by simp [als]; omega) fun y2' n2 e2' hO2 => ?_
        simp only [go_sem, reduceIte, reduceCtorEq, Nat.reduceAdd, Nat.reduceSub, Nat.reduceEqDiff, Nat.reduceLeDiff, Nat.reduceBEq, Nat.reduceLT, hsucc]
        refine ⟨i + 1, by omega, h, n2, y1', y2', e2', ?_, rfl⟩
        rw [hrs, ← hV]
        simpa [szs, als] using hO2
      have k3' : (kind == 3) = false := by simpa using k3
      by_cases k7 : kind = 7
      · subst k7
        have hV : ((24 : Nat), (8 : Nat)) = ext1 1000000 A ⟨7, elem, len, fields⟩ := rfl
        simp only [go_sem, reduceIte, reduceCtorEq, Nat.reduceAdd, Nat.reduceSub, Nat.reduceEqDiff, Nat.reduceLeDiff, Nat.reduceBEq, Nat.reduceLT, k1', k3']
        refine hO.xv1 (elems_list · _ _ _) (all2_one (R := IsN) (x := 24) rfl) (by simp [szs]; omega) fun y1' n1 e1' hO1 => ?_
        simp only [go_sem, reduceIte, reduceCtorEq, Nat.reduceAdd, Nat.reduceSub, Nat.reduceEqDiff, Nat.reduceLeDiff, Nat.reduceBEq, Nat.reduceLT]
        refine hO1.xv2 (elems_list · _ _ _) (all2_one (R := IsN) (x := 8) rfl) (by simp [als]; omega) fun y2' n2 e2' hO2 => ?_
        simp only [go_sem, reduceIte, reduceCtorEq, Nat.reduceAdd, Nat.reduceSub, Nat.reduceEqDiff, Nat.reduceLeDiff, Nat.reduceBEq, Nat.reduceLT, hsucc]
        refine ⟨i + 1, by omega, h, n2, y1', y2', e2', ?_, rfl⟩
        rw [hrs, ← hV]
        simpa [szs, als] using hO2
      have k7' : (kind == 7) = false := by simpa using k7
      by_cases k6 : kind = 6
      · subst k6
        have hel := hflen.2.2.2.1 rfl
        have hle := hflen.2.1 rfl
        have hj : elem.toNat < A.length := by omega
        have hge := hgood.get hj
        have hV : (min 1000000 (len.toNat * (A.getD elem.toNat (0, 0)).1), (A.getD elem.toNat (0, 0)).2) = ext1 1000000 A ⟨6, elem, len, fields⟩ := rfl
        have ht1 : elem.toNat < (szs A).length := by simpa [szs] using hj
        have ht2 : elem.toNat < (als A).length := by simpa [als] using hj
        have s1 : nth y1 elem.toNat = .int .i64 ((szs A)[elem.toNat] : Nat) := hO.l.nth ht1
        have s2 : nth y2 elem.toNat = .int .i64 ((als A)[elem.toNat] : Nat) := hO.r.nth ht2
        have a1 := hO.l.at .i64 ht1
        have a2 := hO.r.at .i64 ht2
        rw [Int.toNat_of_nonneg hel.1] at a1 a2
        rw [szs_get hj] at s1
        rw [als_get hj] at s2
        generalize A.getD elem.toNat (0, 0) = pr at *
        have hmul : len.toNat * pr.1 ≤ 16 * 1048576 := Nat.mul_le_mul (by omega) hge.1
        have ew : IntKind.i64.wrap (len * (pr.1 : Int)) = ((len.toNat * pr.1 : Nat) : Int) := by
          have : len * (pr.1 : Int) = ((len.toNat * pr.1 : Nat) : Int) := by rw [Int.natCast_mul, Int.toNat_of_nonneg (by omega)]
          rw [this, wrap_i64' (by omega) (by omega)]
        simp only [go_sem, reduceIte, reduceCtorEq, Nat.reduceAdd, Nat.reduceSub, Nat.reduceEqDiff, Nat.reduceLeDiff, Nat.reduceBEq, Nat.reduceLT, k1', k3', k7', hat, e1, a1, s1, a2, s2, ew, min10_6]
        refine hO.xv1 (elems_list · _ _ _) (all2_one (R := IsN) (x := min 1000000 (len.toNat * pr.1)) rfl) (by simp [szs]; omega) fun y1' n1 e1' hO1 => ?_
        simp only [go_sem, reduceIte, reduceCtorEq, Nat.reduceAdd, Nat.reduceSub, Nat.reduceEqDiff, Nat.reduceLeDiff, Nat.reduceBEq, Nat.reduceLT]
        refine hO1.xv2 (elems_list · _ _ _) (all2_one (R := IsN) (x := pr.2) rfl) (by simp [als]; omega) fun y2' n2 e2' hO2 => ?_
        simp only [go_sem, reduceIte, reduceCtorEq, Nat.reduceAdd, Nat.reduceSub, Nat.reduceEqDiff, Nat.reduceLeDiff, Nat.reduceBEq, Nat.reduceLT, hsucc]
        refine ⟨i + 1, by omega, h, n2, y1', y2', e2', ?_, rfl⟩
        rw [hrs, ← hV]
        simpa [szs, als] using hO2
      have k6' : (kind == 6) = false := by simpa using k6
      by_cases k5 : kind = 5
      · subst k5
        have hV : togEnd 1000000 A fields = ext1 1000000 A ⟨5, elem, len, fields⟩ := rfl
        obtain ⟨yt, ts, kk, hcall, _⟩ := w_together A hgood y1 y2 (hO.l.sl (by simp [szs]; omega)) (hO.r.sl (by simp [als]; omega)) fields v q1 (by rw [hAl]; exact hflen.2.2.2.2.2) (by omega) ⟨stk ++ [cur], [], nz, e :: live, fl⟩
        have hnx := call_nx hcall (by simp; omega)
        simp only [go_sem, reduceIte, reduceCtorEq, Nat.reduceAdd, Nat.reduceSub, Nat.reduceEqDiff, Nat.reduceLeDiff, Nat.reduceBEq, Nat.reduceLT, k1', k3', k7', k6', hat, e1, hcall]
        have hO := hO.mono (e' := ts ++ e) (fun t ht => List.mem_append_right _ ht) hnx
        generalize togEnd 1000000 A fields = pr at *
        refine hO.xv1 (elems_list · _ _ _) (all2_one (R := IsN) (x := pr.1) rfl) (by simp [szs]; omega) fun y1' n1 e1' hO1 => ?_
        simp only [go_sem, reduceIte, reduceCtorEq, Nat.reduceAdd, Nat.reduceSub, Nat.reduceEqDiff, Nat.reduceLeDiff, Nat.reduceBEq, Nat.reduceLT]
        refine hO1.xv2 (elems_list · _ _ _) (all2_one (R := IsN) (x := pr.2) rfl) (by simp [als]; omega) fun y2' n2 e2' hO2 => ?_
        simp only [go_sem, reduceIte, reduceCtorEq, Nat.reduceAdd, Nat.reduceSub, Nat.reduceEqDiff, Nat.reduceLeDiff, Nat.reduceBEq, Nat.reduceLT, hsucc]
        refine ⟨i + 1, by omega, h, n2, y1', y2', e2', ?_, rfl⟩
        rw [hrs, ← hV]
        simpa [szs, als] using hO2
      have k5' : (kind == 5) = false := by simpa using k5
      have hV : ((8 : Nat), (8 : Nat)) = ext1 1000000 A ⟨kind, elem, len, fields⟩ := by unfold ext1; simp only [k1, k3, k7, k6, k5, if_false]
      simp only [go_sem, reduceIte, reduceCtorEq, Nat.reduceAdd, Nat.reduceSub, Nat.reduceEqDiff, Nat.reduceLeDiff, Nat.reduceBEq, Nat.reduceLT, k1', k3', k7', k6', k5']
      refine hO.xv1 (elems_list · _ _ _) (all2_one (R := IsN) (x := 8) rfl) (by simp [szs]; omega) fun y1' n1 e1' hO1 => ?_
      simp only [go_sem, reduceIte, reduceCtorEq, Nat.reduceAdd, Nat.reduceSub, Nat.reduceEqDiff, Nat.reduceLeDiff, Nat.reduceBEq, Nat.reduceLT]
      refine hO1.xv2 (elems_list · _ _ _) (all2_one (R := IsN) (x := 8) rfl) (by simp [als]; omega) fun y2' n2 e2' hO2 => ?_
      simp only [go_sem, reduceIte, reduceCtorEq, Nat.reduceAdd, Nat.reduceSub, Nat.reduceEqDiff, Nat.reduceLeDiff, Nat.reduceBEq, Nat.reduceLT, hsucc]
      refine ⟨i + 1, by omega, h, n2, y1', y2', e2', ?_, rfl⟩
      rw [hrs, ← hV]
      simpa [szs, als] using hO2
    · have : i = l.length := by omega
      subst this
      rw [List.take_length] at hO
      simp only [go_sem, reduceIte, reduceCtorEq, Nat.reduceAdd, Nat.reduceSub, Nat.reduceEqDiff, Nat.reduceLeDiff, Nat.reduceBEq, Nat.reduceLT, Int.ofNat_lt, h, hx.len]
      rw [leave_val (by simp only [AV.refs, refsAny, hO.l.refs, hO.r.refs]; rfl), Opt_some]
      refine ⟨y1, y2, _, _, rfl, rfl, hO.l.filter.mono ?_, hO.r.filter.mono ?_⟩
      · intro t ht
        simp only [List.mem_filter, AV.toks, toksAll, List.append_nil, List.contains_iff_mem, List.mem_append] at ht ⊢
        exact ⟨ht.1, .inl ht.2⟩
      · intro t ht
        simp only [List.mem_filter, AV.toks, toksAll, List.append_nil, List.contains_iff_mem, List.mem_append] at ht ⊢
        exact ⟨ht.1, .inr ht.2⟩

end Go.Proofs.W

namespace Go.Proofs.W
open Go.Vs
set_option linter.unusedSimpArgs false
set_option maxRecDepth 100000

def agree (a b : Nat) : Prop := a = b ∨ (256 < a ∧ 256 < b)
def AgL (A B : List (Nat × Nat)) : Prop := A.length = B.length ∧ ∀ j, agree (A.getD j (0, 0)).1 (B.getD j (0, 0)).1 ∧ (A.getD j (0, 0)).2 = (B.getD j (0, 0)).2

theorem agree_min {f1 f2 x y : Nat} (h1 : 256 < f1) (h2 : 256 < f2) (h : agree x y) : agree (min f1 x) (min f2 y) := by unfold agree at *; omega
theorem agree_up {x y a : Nat} (ha : is18 a) (h : agree x y) : agree (up x a) (up y a) := by
  rcases h with rfl | ⟨h1, h2⟩
  · exact .inl rfl
  · have := up_le (n := x) ha; have := up_le (n := y) ha; exact .inr (by omega)
theorem agree_add {a b c d : Nat} (h : agree a b) (k : agree c d) : agree (a + c) (b + d) := by unfold agree at *; omega

theorem tog_agree {f1 f2 : Nat} (h1 : 256 < f1) (h1' : f1 ≤ 1048576) (h2 : 256 < f2) {A B : List (Nat × Nat)} (hg : GoodP A) (h : AgL A B) {fs : List DField} (hf : ∀ f ∈ fs, 0 ≤ f.typ ∧ f.typ < A.length) : ∀ k, k ≤ fs.length →
    agree (tog f1 A (fs.take k)).2.1 (tog f2 B (fs.take k)).2.1 ∧ (tog f1 A (fs.take k)).2.2 = (tog f2 B (fs.take k)).2.2
  | 0, _ => by simp [tog, agree]
  | k + 1, hk => by
    obtain ⟨e1, e2⟩ := tog_agree h1 h1' h2 hg h hf k (by omega)
    obtain ⟨_, _, g3⟩ := tog_good h1' hg hf k (by omega)
    have hfk := hf _ (List.getElem_mem (show k < fs.length by omega))
    have hgk := hg.get (j := fs[k].typ.toNat) (by omega)
    have hj := h.2 fs[k].typ.toNat
    rw [tog_succ f1 A (show k < fs.length by omega), tog_succ f2 B (show k < fs.length by omega)]
    simp only [togStep]
    rw [← hj.2]
    exact ⟨agree_min h1 h2 (agree_add (agree_up hgk.2 e1) hj.1), by rw [e2]⟩

theorem ext1_agree {f1 f2 : Nat} (h1 : 256 < f1) (h1' : f1 ≤ 1048576) (h2 : 256 < f2) {A B : List (Nat × Nat)} (hg : GoodP A) (h : AgL A B) {n i : Nat} {t : DTyp} (hf : FineT n i t) (hi : A.length = i) :
    agree (ext1 f1 A t).1 (ext1 f2 B t).1 ∧ (ext1 f1 A t).2 = (ext1 f2 B t).2 := by
  have hl := fine_len hf
  unfold ext1
  split
  · simp [agree]
  · split
    · simp [agree]
    · split
      · simp [agree]
      · split
        · rename_i h6
          have hj := h.2 t.elem.toNat
          refine ⟨agree_min h1 h2 ?_, hj.2⟩
          have hlen := (hl.2.1 h6).1
          rcases hj.1 with e | ⟨e, e'⟩
          · rw [e]; exact .inl rfl
          · have m1 := Nat.mul_le_mul (show 1 ≤ t.len.toNat by omega) (Nat.le_refl (A.getD t.elem.toNat (0, 0)).1)
            have m2 := Nat.mul_le_mul (show 1 ≤ t.len.toNat by omega) (Nat.le_refl (B.getD t.elem.toNat (0, 0)).1)
            exact .inr (by omega)
        · split
          · have hfs : ∀ f ∈ t.fields, 0 ≤ f.typ ∧ f.typ < A.length := by rw [hi]; exact hl.2.2.2.2.2
            have := tog_agree h1 h1' h2 hg h hfs t.fields.length (Nat.le_refl _)
            have hgd := tog_good h1' hg hfs t.fields.length (Nat.le_refl _)
            rw [List.take_length] at this hgd
            simp only [togEnd]
            rw [← this.2]
            exact ⟨agree_min h1 h2 (agree_up hgd.2.2 this.1), rfl⟩
          · simp [agree]

theorem exts_agree {f1 f2 : Nat} (h1 : 256 < f1) (h1' : f1 ≤ 1048576) (h2 : 256 < f2) {l : List DTyp} (hv : ValidT l) : ∀ i, i ≤ l.length → AgL (exts f1 (l.take i)) (exts f2 (l.take i))
  | 0, _ => by simp [exts, AgL, agree]
  | i + 1, hi => by
    have ih := exts_agree h1 h1' h2 hv i (by omega)
    have la := exts_len f1 l i (by omega)
    have lb := exts_len f2 l i (by omega)
    have he := ext1_agree h1 h1' h2 (exts_good h1' hv i (by omega)) ih (hv i (by omega)) la
    rw [exts_succ f1 (show i < l.length by omega), exts_succ f2 (show i < l.length by omega)]
    refine ⟨by simp [la, lb], fun j => ?_⟩
    by_cases hj : j < i
    · rw [pgetD_app (by omega), pgetD_app (by omega)]; exact ih.2 j
    · by_cases hj2 : j = i
      · subst hj2
        simp only [List.getD_eq_getElem?_getD]
        rw [List.getElem?_append_right (by omega), List.getElem?_append_right (by omega), la, lb]
        simpa using he
      · simp only [List.getD_eq_getElem?_getD]
        rw [List.getElem?_eq_none (by simp; omega), List.getElem?_eq_none (by simp; omega)]
        simp [agree]

/-- No type is too large. -/
def FitsP (l : List DTyp) : Prop := ∀ i, i < l.length → ((exts 1000000 l).getD i (0, 0)).1 ≤ 256
theorem fits_iff {l : List DTyp} (hv : ValidT l) (i : Nat) : ((exts 1048576 l).getD i (0, 0)).1 ≤ 256 ↔ ((exts 1000000 l).getD i (0, 0)).1 ≤ 256 := by
  have := (exts_agree (f1 := 1048576) (f2 := 1000000) (by omega) (Nat.le_refl _) (by omega) hv l.length (Nat.le_refl _)).2 i
  rw [List.take_length] at this
  unfold agree at this; omega

theorem leave_asked {m0 : Mem} {stk : List (List Blk)} {cur c' : List Blk} {nx' fl' : Nat} {own : List Nat} {live' : List (List Nat)} {k st off len : Nat} {a : Int} :
    ∃ bs : List Blk, leave m0 ⟨stk ++ [cur], c', nx', own :: live', fl'⟩ (.tup [.arr (stk ++ [cur]).length k st off len, .int .i64 a]) = some (.tup [.arr stk.length (k + cur.length) st off len, .int .i64 a], ⟨stk, cur ++ bs, nx', live', m0.floor⟩) ∧
      ∀ ws, c'[k]? = some ⟨st, prs ws⟩ → bs[k]? = some ⟨st, prs ws⟩ := by
  have e : own.filter (fun _ => false) = [] := by simp
  refine ⟨c'.map fun b => ⟨b.st, shiftAll (stk ++ [cur]).length ((stk ++ [cur]).length - 1) cur.length b.cs⟩, ?_, ?_⟩
  · unfold leave
    simp only [List.getLast?_append, List.getLast?_singleton, Option.some_or, AV.refs, refsAny, beq_self_eq_true, Bool.true_or, if_true, AV.toks, toksAll, List.append_nil, List.contains_nil, e, pushToks, List.dropLast_concat, AV.shift, shiftAll]
    simp
  · intro ws h
    rw [List.getElem?_map, h, Option.map_some, shift_prs]

theorem prs_l1 {ws : List (Nat × Nat)} {j : Nat} (h : j < ws.length) : takeV false 1 ((prs ws).drop (j * 2)) = some (.int .i64 ((ws.getD j (0, 0)).1 : Int)) := by rw [prs_drop ws j h, takeV_f1]
theorem prs_l2 {ws : List (Nat × Nat)} {j : Nat} (h : j < ws.length) : takeV false 1 ((prs ws).drop (j * 2 + 1)) = some (.int .i64 ((ws.getD j (0, 0)).2 : Int)) := by
  rw [← List.drop_drop, prs_drop ws j h]; simp [takeV]

set_option maxHeartbeats 4000000 in
theorem w_asked_ok (l : List DTyp) (x : AV) (hx : IsSl IsTyp 4 l x) (hw : WfTypes l) (hc : CheckP l) (i : Nat) (hi : i < l.length) (hs : ((exts 1048576 l).getD i (0, 0)).1 ≤ 256) (stk : List (List Blk)) (cur : List Blk) (nx fl : Nat) (live : List (List Nat)) :
    ∃ bs j st k, CALL tab F_layout_asked [x, .int .i64 i] ⟨stk, cur, nx, live, fl⟩ = some (.tup [.arr stk.length (cur.length + j) st 0 l.length, .int .i64 0], ⟨stk, cur ++ bs, k, live, fl⟩) ∧ bs[j]? = some ⟨st, prs (exts 1048576 l)⟩ := by
  suffices h : Does tab F_layout_asked [x, .int .i64 i] ⟨stk, cur, nx, live, fl⟩ fun v m' => ∃ bs j st k, v = .tup [.arr stk.length (cur.length + j) st 0 l.length, .int .i64 0] ∧ m' = ⟨stk, cur ++ bs, k, live, fl⟩ ∧ bs[j]? = some ⟨st, prs (exts 1048576 l)⟩ by
    obtain ⟨z, h1, bs, j, st, k, h2, h3, h4⟩ := h
    exact ⟨bs, j, st, k, by rw [h1, ← h2, ← h3], h4⟩
  refine does_of t_layout_asked ?_ (Nat.le_of_ble_eq_true rfl)
  have hC := w_kinds_Check l x hx hw
  rw [err_ok hc] at hC
  have hl := hc.1
  simp only [a_layout_asked, go_sem, reduceIte, reduceCtorEq, Nat.reduceAdd, Nat.reduceSub, Nat.reduceEqDiff, Nat.reduceLeDiff, Nat.reduceBEq, Nat.reduceLT, (hC _).eq, show ((0 : Int) != 0) = false from rfl, hx.len, show ¬ ((i : Int) < 0) by omega, show ¬ ((i : Int) ≥ l.length) by omega]
  obtain ⟨bs, j, st, k, hcall, hbs⟩ := w_layout_extents l x hx hc.2.1 (by omega) (stk ++ [cur]) [] (callNx tab F_kinds_Check [x] ⟨stk ++ [cur], [], nx, [] :: live, fl⟩) fl ([] :: live)
  have hel : (exts 1048576 l).length = l.length := by have := exts_len 1048576 l l.length (Nat.le_refl _); rwa [List.take_length] at this
  have hix := idx_in .i64 (p := (i : Int)) (n := l.length) (by omega)
  rw [Int.toNat_natCast] at hix
  simp only [go_sem, reduceIte, reduceCtorEq, Nat.reduceAdd, Nat.reduceSub, Nat.reduceEqDiff, Nat.reduceLeDiff, Nat.reduceBEq, Nat.reduceLT, hcall, evIaddr_arr, hix, hbs, prs_l1 (ws := exts 1048576 l) (j := i) (by omega), show ¬ ((((exts 1048576 l).getD i (0, 0)).1 : Nat) : Int) > 256 by omega]
  obtain ⟨bs', hbs', hg⟩ := leave_asked (m0 := ⟨stk, cur, nx, live, fl⟩) (stk := stk) (cur := cur) (c' := bs) (nx' := k) (own := []) (live' := live) (fl' := fl) (k := j) (st := st) (off := 0) (len := l.length) (a := 0)
  rw [hbs', Opt_some]
  exact ⟨bs', j, st, k, by rw [Nat.add_comm], rfl, hg _ hbs⟩

set_option maxHeartbeats 4000000 in
theorem w_asked_big (l : List DTyp) (x : AV) (hx : IsSl IsTyp 4 l x) (hw : WfTypes l) (hc : CheckP l) (i : Nat) (hi : i < l.length) (hs : ¬ ((exts 1048576 l).getD i (0, 0)).1 ≤ 256) (m : Mem) :
    Okv tab F_layout_asked [x, .int .i64 i] m (.tup [.nils, .int .i64 16]) := by
  refine okv_of t_layout_asked ?_
  obtain ⟨stk, cur, nx, live, fl⟩ := m
  have hC := w_kinds_Check l x hx hw
  rw [err_ok hc] at hC
  have hl := hc.1
  simp only [a_layout_asked, go_sem, reduceIte, reduceCtorEq, Nat.reduceAdd, Nat.reduceSub, Nat.reduceEqDiff, Nat.reduceLeDiff, Nat.reduceBEq, Nat.reduceLT, (hC _).eq, show ((0 : Int) != 0) = false from rfl, hx.len, show ¬ ((i : Int) < 0) by omega, show ¬ ((i : Int) ≥ l.length) by omega]
  obtain ⟨bs, j, st, k, hcall, hbs⟩ := w_layout_extents l x hx hc.2.1 (by omega) (stk ++ [cur]) [] (callNx tab F_kinds_Check [x] ⟨stk ++ [cur], [], nx, [] :: live, fl⟩) fl ([] :: live)
  have hel : (exts 1048576 l).length = l.length := by have := exts_len 1048576 l l.length (Nat.le_refl _); rwa [List.take_length] at this
  have hix := idx_in .i64 (p := (i : Int)) (n := l.length) (by omega)
  rw [Int.toNat_natCast] at hix
  simp only [go_sem, reduceIte, reduceCtorEq, Nat.reduceAdd, Nat.reduceSub, Nat.reduceEqDiff, Nat.reduceLeDiff, Nat.reduceBEq, Nat.reduceLT, hcall, evIaddr_arr, hix, hbs, prs_l1 (ws := exts 1048576 l) (j := i) (by omega), show ((((exts 1048576 l).getD i (0, 0)).1 : Nat) : Int) > 256 by omega]
  rw [leave_plain rfl rfl, Opt_some]
  exact ⟨⟨_, rfl⟩, rfl⟩

/-- The error of a type's size. -/
def sizeErr (l : List DTyp) (i : Nat) : Int := if ((exts 1048576 l).getD i (0, 0)).1 ≤ 256 then 0 else 16
set_option maxHeartbeats 4000000 in
theorem w_layout_Size (l : List DTyp) (x : AV) (hx : IsSl IsTyp 4 l x) (hw : WfTypes l) (hc : CheckP l) (i : Nat) (hi : i < l.length) (m : Mem) :
    ∃ a b, Okv tab F_layout_Size [x, .int .i64 i] m (.tup [a, b, .int .i64 (sizeErr l i)]) := by
  obtain ⟨stk, cur, nx, live, fl⟩ := m
  by_cases hs : ((exts 1048576 l).getD i (0, 0)).1 ≤ 256
  · refine ⟨.int .i64 (((exts 1048576 l).getD i (0, 0)).1 : Nat), .int .i64 (((exts 1048576 l).getD i (0, 0)).2 : Nat), ?_⟩
    refine okv_of t_layout_Size ?_
    obtain ⟨bs, j, st, k, hcall, hbs⟩ := w_asked_ok l x hx hw hc i hi hs (stk ++ [cur]) [] nx fl ([] :: live)
    have hel : (exts 1048576 l).length = l.length := by have := exts_len 1048576 l l.length (Nat.le_refl _); rwa [List.take_length] at this
    have hix := idx_in .i64 (p := (i : Int)) (n := l.length) (by omega)
    rw [Int.toNat_natCast] at hix
    simp only [a_layout_Size, go_sem, reduceIte, reduceCtorEq, Nat.reduceAdd, Nat.reduceSub, Nat.reduceEqDiff, Nat.reduceLeDiff, Nat.reduceBEq, Nat.reduceLT, hcall, show ((0 : Int) != 0) = false from rfl, evIaddr_arr, hix, hbs, prs_l1 (ws := exts 1048576 l) (j := i) (by omega), prs_l2 (ws := exts 1048576 l) (j := i) (by omega)]
    rw [leave_plain rfl rfl, Opt_some]
    exact ⟨⟨_, rfl⟩, by unfold sizeErr; rw [if_pos hs]⟩
  · refine ⟨.int .i64 0, .int .i64 0, ?_⟩
    refine okv_of t_layout_Size ?_
    simp only [a_layout_Size, go_sem, reduceIte, reduceCtorEq, Nat.reduceAdd, Nat.reduceSub, Nat.reduceEqDiff, Nat.reduceLeDiff, Nat.reduceBEq, Nat.reduceLT, (w_asked_big l x hx hw hc i hi hs _).eq, show ((16 : Int) != 0) = true from rfl]
    rw [leave_plain rfl rfl, Opt_some]
    exact ⟨⟨_, rfl⟩, by unfold sizeErr; rw [if_neg hs]⟩

end Go.Proofs.W
