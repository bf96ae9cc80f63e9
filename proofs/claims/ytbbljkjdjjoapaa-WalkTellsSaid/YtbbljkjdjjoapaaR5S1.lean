/-
  R5S1
-/
import Derived.Test.YtbbljkjdjjoapaaR5Code
import Derived.Test.YtbbljkjdjjoapaaVb
import Derived.Test.YtbbljkjdjjoapaaDt
import Derived.Test.YtbbljkjdjjoapaaVr
namespace Go.Proofs.W
open Go.Vs
set_option linter.unusedSimpArgs false
set_option maxRecDepth 100000

/-- A number in bytes of 7 bits. -/
def minimal (n : Nat) : List UInt8 := if h : n < 128 then [UInt8.ofNat n] else UInt8.ofNat (n % 128 + 128) :: minimal (n / 128)
  termination_by n
  decreasing_by omega

theorem minimal_lt {n : Nat} (h : n < 128) : minimal n = [UInt8.ofNat n] := by rw [minimal, dif_pos h]
theorem minimal_ge {n : Nat} (h : ¬ n < 128) : minimal n = UInt8.ofNat (n % 128 + 128) :: minimal (n / 128) := by rw [minimal, dif_neg h]

theorem minimal_len : ∀ (k n : Nat), n < 128 ^ (k + 1) → (minimal n).length ≤ k + 1
  | 0, n, h => by rw [minimal_lt (by omega)]; simp
  | k + 1, n, h => by
    by_cases h1 : n < 128
    · rw [minimal_lt h1]; simp
    · rw [minimal_ge h1]
      have := minimal_len k (n / 128) (by rw [Nat.div_lt_iff_lt_mul (by omega)]; rw [Nat.pow_succ] at h; exact h)
      simp only [List.length_cons]; omega
theorem minimal_ten {n : Nat} (h : n < 18446744073709551616) : (minimal n).length ≤ 10 := minimal_len 9 n (by omega)

theorem isByte_u8 {a : Nat} (h : a < 256) : IsByte (UInt8.ofNat a) (.int .u8 (a : Int)) := by
  have : (UInt8.ofNat a).toNat = a := by simp; omega
  unfold IsByte; rw [this]

theorem mem_take_succ {α : Type} {l : List α} {i : Nat} (h : i < l.length) {P : α → Prop} (h1 : ∀ x ∈ l.take i, P x) (h2 : P l[i]) : ∀ x ∈ l.take (i + 1), P x := by
  intro x hx
  rw [List.take_succ_eq_append_getElem h] at hx
  rcases List.mem_append.1 hx with hx | hx
  · exact h1 x hx
  · simp at hx; rw [hx]; exact h2

theorem all2_one {α : Type} {R : α → AV → Prop} {x : α} {y : AV} (h : R x y) : All2 R [x] [y] := ⟨h, trivial⟩

theorem wrap_u8_mod {n : Nat} : IntKind.u8.wrap (n : Int) = ((n % 256 : Nat) : Int) := by
  unfold IntKind.wrap
  simp [IntKind.signed, IntKind.bits]

theorem tdiv_nat (a b : Nat) : ((a : Int).tdiv (b : Int)) = ((a / b : Nat) : Int) := rfl
theorem tmod_nat (a b : Nat) : ((a : Int).tmod (b : Int)) = ((a % b : Nat) : Int) := rfl

/-- How many times 128 goes. -/
theorem w_wreckageref02_Minimal (n : Nat) (hn : n < 18446744073709551616) (m : Mem) : Okl IsByte 1 tab F_wreckageref02_Minimal [.int .u64 n] m (minimal n) := by
  refine okl_of t_wreckageref02_Minimal ?_
  obtain ⟨stk, cur, nx, live, fl⟩ := m
  simp only [a_wreckageref02_Minimal, go_sem, reduceIte, reduceCtorEq, Nat.reduceAdd, Nat.reduceSub, Nat.reduceEqDiff, Nat.reduceLeDiff, Nat.reduceBEq, Nat.reduceLT]
  refine XL_rule (α := Nat × List UInt8 × AV × List Nat × Nat) (fun z σ => (z.1 < 18446744073709551616 ∧ z.2.1 ++ minimal z.1 = minimal n ∧ Own IsByte 1 z.2.2.1 z.2.1 z.2.2.2.1) ∧ heads [0, 3] 0 σ = ⟨tmps 20 [(0, .int .u64 z.1), (3, z.2.2.1)], ⟨stk ++ [cur], [], z.2.2.2.2, z.2.2.2.1 :: live, fl⟩⟩) (fun z => z.1) (n, [], .nils, [], nx) ?_ ?_
  · refine ⟨⟨hn, rfl, .nil _⟩, ?_⟩
    simp only [go_sem, reduceIte, reduceCtorEq, Nat.reduceAdd, Nat.reduceSub, Nat.reduceEqDiff, Nat.reduceLeDiff, Nat.reduceBEq, Nat.reduceLT]
  · rintro ⟨a, b, y, e, nx⟩ σ ⟨⟨ha, hb, ho⟩, hσ⟩
    rw [hσ]
    dsimp only at ha hb ho ⊢
    have hl := minimal_ten hn
    rw [← hb, List.length_append] at hl
    by_cases h : a < 128
    · have h' : ¬ ((a : Int) ≥ 128) := by omega
      rw [minimal_lt h] at hb hl
      simp only [go_sem, reduceIte, reduceCtorEq, Nat.reduceAdd, Nat.reduceSub, Nat.reduceEqDiff, Nat.reduceLeDiff, Nat.reduceBEq, Nat.reduceLT, h', wrap_u8_mod, allLen]
      refine ho.xv (elems_list · _ _ _) (all2_one (isByte_u8 (Nat.mod_lt _ (by omega)))) (by simp; omega) fun y' n' e' ho' => ?_
      simp only [go_sem, reduceIte, reduceCtorEq, Nat.reduceAdd, Nat.reduceSub, Nat.reduceEqDiff, Nat.reduceLeDiff, Nat.reduceBEq, Nat.reduceLT]
      rw [show UInt8.ofNat (a % 256) = UInt8.ofNat a by rw [Nat.mod_eq_of_lt (by omega)], hb] at ho'
      exact fin_own ho'
    · have h' : (a : Int) ≥ 128 := by omega
      rw [minimal_ge h] at hb hl
      have e1 : IntKind.u8.wrap (IntKind.u8.wrap (((a : Int).tmod 128)) + 128) = ((a % 128 + 128 : Nat) : Int) := by
        have : IntKind.u8.wrap ((a : Int).tmod 128) = ((a % 128 : Nat) : Int) := by
          rw [show ((a : Int).tmod 128) = ((a % 128 : Nat) : Int) from rfl, wrap_u8 (by omega) (by omega)]
        rw [this, wrap_u8 (by omega) (by omega)]
        omega
      have e2 : IntKind.u64.wrap ((a : Int).tdiv 128) = ((a / 128 : Nat) : Int) := by
        rw [show ((a : Int).tdiv 128) = ((a / 128 : Nat) : Int) from rfl, wrap_u64 (by omega) (by omega)]
      simp only [go_sem, reduceIte, reduceCtorEq, Nat.reduceAdd, Nat.reduceSub, Nat.reduceEqDiff, Nat.reduceLeDiff, Nat.reduceBEq, Nat.reduceLT, h', e1, allLen, (by decide : ¬ ((128 : Int) = 0))]
      refine ho.xv (elems_list · _ _ _) (all2_one (isByte_u8 (by omega))) (by simp; omega) fun y' n' e' ho' => ?_
      simp only [go_sem, reduceIte, reduceCtorEq, Nat.reduceAdd, Nat.reduceSub, Nat.reduceEqDiff, Nat.reduceLeDiff, Nat.reduceBEq, Nat.reduceLT, e2, (by decide : ¬ ((128 : Int) = 0))]
      exact ⟨(a / 128, _, y', e', n'), by dsimp only; omega, ⟨by dsimp only; omega, by dsimp only; rw [List.append_assoc]; exact hb, ho'⟩, rfl⟩

/-- A signed number as an unsigned one. -/
def zigzag (n : Int) : Nat := if 0 ≤ n then (2 * n).toNat else (-2 * n - 1).toNat
theorem zigzag_lt {n : Int} (h : in64 n) : zigzag n < 18446744073709551616 := by unfold in64 at h; unfold zigzag; split <;> omega

theorem wrap_u64_neg {n : Int} (h1 : -18446744073709551616 ≤ n) (h2 : n < 0) : IntKind.u64.wrap n = n + 18446744073709551616 := by
  unfold IntKind.wrap
  simp [IntKind.signed, IntKind.bits]
  omega

theorem w_wreckageref02_Double (n : Int) (hn : in64 n) (m : Mem) : Okv tab F_wreckageref02_Double [.int .i64 n] m (.int .u64 (zigzag n)) := by
  refine okv_of t_wreckageref02_Double ?_
  obtain ⟨stk, cur, nx, live, fl⟩ := m
  simp only [a_wreckageref02_Double, go_sem, reduceIte, reduceCtorEq, Nat.reduceAdd, Nat.reduceSub, Nat.reduceEqDiff, Nat.reduceLeDiff, Nat.reduceBEq, Nat.reduceLT]
  unfold in64 at hn
  by_cases h : n ≥ 0
  · have e1 : IntKind.u64.wrap n = n := wrap_u64 (by omega) (by omega)
    have e2 : IntKind.u64.wrap (n * 2) = ((zigzag n : Nat) : Int) := by rw [wrap_u64 (by omega) (by omega)]; unfold zigzag; rw [if_pos h]; omega
    simp only [go_sem, reduceIte, reduceCtorEq, Nat.reduceAdd, Nat.reduceSub, Nat.reduceEqDiff, Nat.reduceLeDiff, Nat.reduceBEq, Nat.reduceLT, h, e1, e2]
    rw [leave_plain rfl rfl, Opt_some]
    exact ⟨⟨_, rfl⟩, rfl⟩
  · have e1 : IntKind.i64.wrap (n + 1) = n + 1 := wrap_i64' (by omega) (by omega)
    have e2 : IntKind.i64.wrap (0 - (n + 1)) = -1 - n := by rw [wrap_i64' (by omega) (by omega)]; omega
    have e3 : IntKind.u64.wrap (-1 - n) = -1 - n := wrap_u64 (by omega) (by omega)
    have e4 : IntKind.u64.wrap ((-1 - n) * 2) = -2 - 2 * n := by rw [wrap_u64 (by omega) (by omega)]; omega
    have e5 : IntKind.u64.wrap (-2 - 2 * n + 1) = ((zigzag n : Nat) : Int) := by rw [wrap_u64 (by omega) (by omega)]; unfold zigzag; rw [if_neg h]; omega
    simp only [go_sem, reduceIte, reduceCtorEq, Nat.reduceAdd, Nat.reduceSub, Nat.reduceEqDiff, Nat.reduceLeDiff, Nat.reduceBEq, Nat.reduceLT, h, e1, e2, e3, e4, e5]
    rw [leave_plain rfl rfl, Opt_some]
    exact ⟨⟨_, rfl⟩, rfl⟩

theorem w_wreckageref09_number (n : Nat) (hn : n < 9223372036854775808) (m : Mem) : Okl IsByte 1 tab F_wreckageref09_number [.int .i64 n] m (minimal n) := by
  refine okl_of t_wreckageref09_number ?_
  obtain ⟨stk, cur, nx, live, fl⟩ := m
  have e : IntKind.u64.wrap (n : Int) = n := wrap_u64 (by omega) (by omega)
  simp only [a_wreckageref09_number, go_sem, reduceIte, reduceCtorEq, Nat.reduceAdd, Nat.reduceSub, Nat.reduceEqDiff, Nat.reduceLeDiff, Nat.reduceBEq, Nat.reduceLT, e]
  refine (w_wreckageref02_Minimal n (by omega) _).xv fun y ts k ho => ?_
  simp only [go_sem, reduceIte, reduceCtorEq, Nat.reduceAdd, Nat.reduceSub, Nat.reduceEqDiff, Nat.reduceLeDiff, Nat.reduceBEq, Nat.reduceLT, pushToks_cons]
  exact fin_own ho

/-- A text with its length ahead. -/
def said (s : List UInt8) : List UInt8 := minimal s.length ++ s

theorem w_wreckageref02_Said (s : List UInt8) (hs : s.length ≤ 1000000) (m : Mem) : Okl IsByte 1 tab F_wreckageref02_Said [.str s] m (said s) := by
  refine okl_of t_wreckageref02_Said ?_
  obtain ⟨stk, cur, nx, live, fl⟩ := m
  have e : IntKind.u64.wrap (s.length : Int) = s.length := wrap_u64 (by omega) (by omega)
  simp only [a_wreckageref02_Said, go_sem, reduceIte, reduceCtorEq, Nat.reduceAdd, Nat.reduceSub, Nat.reduceEqDiff, Nat.reduceLeDiff, Nat.reduceBEq, Nat.reduceLT, e]
  have hl := minimal_ten (n := s.length) (by omega)
  refine (w_wreckageref02_Minimal s.length (by omega) _).xv fun y ts k ho => ?_
  simp only [go_sem, reduceIte, reduceCtorEq, Nat.reduceAdd, Nat.reduceSub, Nat.reduceEqDiff, Nat.reduceLeDiff, Nat.reduceBEq, Nat.reduceLT, pushToks_cons]
  refine ho.xv (elems_str · _) (all2_ofBytes s) (by omega) fun y' n' e' ho' => ?_
  simp only [go_sem, reduceIte, reduceCtorEq, Nat.reduceAdd, Nat.reduceSub, Nat.reduceEqDiff, Nat.reduceLeDiff, Nat.reduceBEq, Nat.reduceLT]
  exact fin_own ho'

theorem or_128' : ∀ c : Fin 256, IntKind.u8.wrap ((BitVec.ofInt 8 (c.val : Int) ||| BitVec.ofInt 8 128).toNat : Int) = ((c.val % 128 + 128 : Nat) : Int) := by decide +kernel
theorem or_128 {c : Nat} (h : c < 256) : evBits .or .u8 (c : Int) 128 = some (.int .u8 ((c % 128 + 128 : Nat) : Int)) := by
  have := or_128' ⟨c, h⟩
  exact congrArg (fun x => some (AV.int .u8 x)) this

/-- The closure that appends a byte to its captured list. -/
theorem w_wire_Vary_1 (b : Nat) (hb : b < 256) (y : AV) (l : List UInt8) (hl : l.length ≤ 100) (stk : List (List Blk)) (st nx fl : Nat) (e : List Nat) (rest : List (List Nat)) (hf : fl ≤ stk.length) (ho : Own IsByte 1 y l e) :
    ∃ y' n e', CALL tab F_wire_Vary_1 [.int .u8 b, .ptr stk.length 0 st 0] ⟨stk, [⟨st, [y]⟩], nx, e :: rest, fl⟩ = some (.tup [], ⟨stk, [⟨st, [y']⟩], n, e' :: rest, fl⟩) ∧ Own IsByte 1 y' (l ++ [UInt8.ofNat b]) e' := by
  suffices h : Does tab F_wire_Vary_1 [.int .u8 b, .ptr stk.length 0 st 0] ⟨stk, [⟨st, [y]⟩], nx, e :: rest, fl⟩ fun v m' => ∃ y' n e', v = .tup [] ∧ m' = ⟨stk, [⟨st, [y']⟩], n, e' :: rest, fl⟩ ∧ Own IsByte 1 y' (l ++ [UInt8.ofNat b]) e' by
    obtain ⟨x, h1, y', n, e', h2, h3, h4⟩ := h
    exact ⟨y', n, e', by rw [h1, ← h2, ← h3], h4⟩
  refine does_of t_wire_Vary_1 ?_ (Nat.le_of_ble_eq_true rfl)
  have hne : ∀ z : List Blk, (stk.length == (stk ++ [z]).length) = false := fun z => by simp
  have hg : ∀ z : List Blk, (stk ++ [z]).getD stk.length [] = z := fun z => by simp
  simp only [a_wire_Vary_1, go_sem, reduceIte, reduceCtorEq, Nat.reduceAdd, Nat.reduceSub, Nat.reduceEqDiff, Nat.reduceLeDiff, Nat.reduceBEq, Nat.reduceLT, hne, hg, allLen]
  refine (ho.wr rest).enter.xv (elems_list · _ _ _) (all2_one (isByte_u8 hb)) (by simp; omega) fun y' n' live' hw => ?_
  have ho' : ∃ e, Own IsByte 1 y' (l ++ [UInt8.ofNat b]) e := let ⟨_, _, _, h⟩ := hw; ⟨_, h⟩
  obtain ⟨e0, ho'⟩ := ho'
  obtain ⟨e1, live1, hs, hw1⟩ := hw.sink
  obtain ⟨e2, rfl, ho2⟩ := hw1.own
  have hml : ∀ z : List Blk, (stk ++ [z]).length - stk.length = 0 + 1 := fun z => by simp
  have hmod : ∀ z f, (stk ++ [z]).modify stk.length f = stk ++ [f z] := fun z f => by
    rw [List.modify_eq_take_cons_drop (by simp)]; simp
  simp only [go_sem, reduceIte, reduceCtorEq, Nat.reduceAdd, Nat.reduceSub, Nat.reduceEqDiff, Nat.reduceLeDiff, Nat.reduceBEq, Nat.reduceLT, hne, hg, ho'.cells, ho'.one, hf, hml, hs, hmod]
  rw [leave_gen rfl rfl, Opt_some]
  exact ⟨y', n', e2, rfl, rfl, ho2⟩

theorem w_wire_Vary (n : Nat) (hn : n < 18446744073709551616) (stk : List (List Blk)) (cur : List Blk) (nx fl : Nat) (live : List (List Nat)) (hf : fl ≤ stk.length + 1) : Okl IsByte 1 tab F_wire_Vary [.int .u64 n] ⟨stk, cur, nx, live, fl⟩ (minimal n) := by
  refine okl_of t_wire_Vary ?_
  simp only [a_wire_Vary, go_sem, reduceIte, reduceCtorEq, Nat.reduceAdd, Nat.reduceSub, Nat.reduceEqDiff, Nat.reduceLeDiff, Nat.reduceBEq, Nat.reduceLT]
  refine XL_rule (α := Nat × List UInt8 × AV × List Nat × Nat) (fun z σ => (z.1 < 18446744073709551616 ∧ z.2.1 ++ minimal z.1 = minimal n ∧ Own IsByte 1 z.2.2.1 z.2.1 z.2.2.2.1) ∧ heads [0, 3, 4] 1 σ = ⟨tmps 20 [(0, .int .u64 z.1), (3, .ptr (stk ++ [cur]).length 0 nx 0), (4, .fn (.func F_wire_Vary_1) [] [.ptr (stk ++ [cur]).length 0 nx 0])], ⟨stk ++ [cur], [⟨nx, [z.2.2.1]⟩], z.2.2.2.2, z.2.2.2.1 :: live, fl⟩⟩) (fun z => z.1) (n, [], .nils, [], nx + 1) ?_ ?_
  · refine ⟨⟨hn, rfl, .nil _⟩, ?_⟩
    simp only [go_sem, reduceIte, reduceCtorEq, Nat.reduceAdd, Nat.reduceSub, Nat.reduceEqDiff, Nat.reduceLeDiff, Nat.reduceBEq, Nat.reduceLT]
  · rintro ⟨a, b, y, e, nz⟩ σ ⟨⟨ha, hb, ho⟩, hσ⟩
    rw [hσ]
    dsimp only at ha hb ho ⊢
    have hl := minimal_ten hn
    rw [← hb, List.length_append] at hl
    have hf' : fl ≤ (stk ++ [cur]).length := by simp; omega
    by_cases h : a < 128
    · have h' : ¬ ((a : Int) ≥ 128) := by omega
      rw [minimal_lt h] at hb hl
      obtain ⟨y', n', e', hc, ho'⟩ := w_wire_Vary_1 (a % 256) (by omega) y b (by omega) (stk ++ [cur]) nx nz fl e live hf' ho
      simp only [go_sem, reduceIte, reduceCtorEq, Nat.reduceAdd, Nat.reduceSub, Nat.reduceEqDiff, Nat.reduceLeDiff, Nat.reduceBEq, Nat.reduceLT, h', wrap_u8_mod, hc]
      rw [show UInt8.ofNat (a % 256) = UInt8.ofNat a by rw [Nat.mod_eq_of_lt (by omega)], hb] at ho'
      exact fin_own ho'
    · have h' : (a : Int) ≥ 128 := by omega
      rw [minimal_ge h] at hb hl
      have e1 : evBits .or .u8 ((a % 256 : Nat) : Int) 128 = some (.int .u8 ((a % 128 + 128 : Nat) : Int)) := by
        rw [or_128 (by omega), show a % 256 % 128 = a % 128 by omega]
      have e2 : (a : Int).fdiv (2 ^ min (Int.toNat 7) 64) = ((a / 128 : Nat) : Int) := by
        rw [Int.fdiv_eq_ediv_of_nonneg _ (by decide)]; simp
      obtain ⟨y', n', e', hc, ho'⟩ := w_wire_Vary_1 (a % 128 + 128) (by omega) y b (by omega) (stk ++ [cur]) nx nz fl e live hf' ho
      simp only [go_sem, reduceIte, reduceCtorEq, Nat.reduceAdd, Nat.reduceSub, Nat.reduceEqDiff, Nat.reduceLeDiff, Nat.reduceBEq, Nat.reduceLT, h', wrap_u8_mod, e1, hc, evShift, IntKind.bits, (by decide : ¬ ((7 : Int) < 0)), e2]
      exact ⟨(a / 128, _, y', e', n'), by dsimp only; omega, ⟨by dsimp only; omega, by dsimp only; rw [List.append_assoc]; exact hb, ho'⟩, rfl⟩

theorem xor_ones (x : BitVec 64) : (x ^^^ BitVec.ofInt 64 (-1)) = ~~~x := by
  have : BitVec.ofInt 64 (-1) = BitVec.allOnes 64 := by decide
  rw [this, BitVec.xor_allOnes]

theorem w_wire_Signed (n : Int) (hn : in64 n) (stk : List (List Blk)) (cur : List Blk) (nx fl : Nat) (live : List (List Nat)) (hf : fl ≤ stk.length + 1) : Okl IsByte 1 tab F_wire_Signed [.int .i64 n] ⟨stk, cur, nx, live, fl⟩ (minimal (zigzag n)) := by
  refine okl_of t_wire_Signed ?_
  have hz := zigzag_lt hn
  unfold in64 at hn
  have key : evBits .xor .u64 (IntKind.u64.wrap (IntKind.u64.wrap n * 2 ^ min (Int.toNat 1) 64)) (IntKind.u64.wrap (n.fdiv (2 ^ min (Int.toNat 63) 64))) = some (.int .u64 ((zigzag n : Nat) : Int)) := by
    refine congrArg (fun x => some (AV.int .u64 x)) (?_ : IntKind.u64.wrap ((BitVec.ofInt 64 (IntKind.u64.wrap (IntKind.u64.wrap n * 2 ^ min (Int.toNat 1) 64)) ^^^ BitVec.ofInt 64 (IntKind.u64.wrap (n.fdiv (2 ^ min (Int.toNat 63) 64)))).toNat : Int) = ((zigzag n : Nat) : Int))
    rw [show min (Int.toNat 1) 64 = 1 from rfl, show min (Int.toNat 63) 64 = 63 from rfl, Int.fdiv_eq_ediv_of_nonneg _ (by decide)]
    by_cases h : 0 ≤ n
    · have e1 : IntKind.u64.wrap n = n := wrap_u64 (by omega) (by omega)
      have e2 : n / 2 ^ 63 = 0 := Int.ediv_eq_zero_of_lt h (by omega)
      have e3 : IntKind.u64.wrap (n * 2 ^ 1) = n * 2 := wrap_u64 (by omega) (by omega)
      rw [e1, e2, e3]
      have e4 : BitVec.ofInt 64 (IntKind.u64.wrap 0) = 0#64 := rfl
      rw [e4, BitVec.xor_zero, BitVec.toNat_ofInt]
      unfold zigzag; rw [if_pos h]
      rw [wrap_u64 (by omega) (by omega)]; omega
    · have e1 : IntKind.u64.wrap n = n + 18446744073709551616 := wrap_u64_neg (by omega) (by omega)
      have e2 : n / 2 ^ 63 = -1 := by omega
      have e3 : IntKind.u64.wrap ((n + 18446744073709551616) * 2 ^ 1) = n * 2 + 18446744073709551616 := by
        unfold IntKind.wrap
        simp [IntKind.signed, IntKind.bits]
        omega
      rw [e1, e2, e3]
      have e4 : BitVec.ofInt 64 (IntKind.u64.wrap (-1)) = BitVec.ofInt 64 (-1) := rfl
      rw [e4, xor_ones, BitVec.toNat_not, BitVec.toNat_ofInt]
      unfold zigzag; rw [if_neg h]
      rw [wrap_u64 (by omega) (by omega)]; omega
  simp only [a_wire_Signed, go_sem, reduceIte, reduceCtorEq, Nat.reduceAdd, Nat.reduceSub, Nat.reduceEqDiff, Nat.reduceLeDiff, Nat.reduceBEq, Nat.reduceLT, evShift, (by decide : ¬ ((1 : Int) < 0)), (by decide : ¬ ((63 : Int) < 0)), IntKind.bits, key]
  have hf' : fl ≤ (stk ++ [cur]).length + 1 := by simp; omega
  refine (w_wire_Vary _ hz _ _ _ _ _ hf').xv fun y ts k ho => ?_
  simp only [go_sem, reduceIte, reduceCtorEq, Nat.reduceAdd, Nat.reduceSub, Nat.reduceEqDiff, Nat.reduceLeDiff, Nat.reduceBEq, Nat.reduceLT]
  exact fin_own ho
end Go.Proofs.W

namespace Go.Proofs.W
open Go.Vs
set_option linter.unusedSimpArgs false
set_option maxRecDepth 100000

def letter (c : Nat) : Bool := (decide (97 ≤ c) && decide (c ≤ 122)) || (decide (65 ≤ c) && decide (c ≤ 90))
def alnum (c : Nat) : Bool := letter c || (decide (48 ≤ c) && decide (c ≤ 57))
/-- A name. -/
def named (s : List UInt8) : Bool := decide (1 ≤ s.length) && decide (s.length ≤ 16) && letter (s.headD 0).toNat && s.all fun c => alnum c.toNat

theorem named_bad {s : List UInt8} {i : Nat} (h : i < s.length) (hc : alnum s[i].toNat = false) : named s = false := by
  have : (s.all fun c => alnum c.toNat) = false := by
    rw [Bool.eq_false_iff]; intro ha; rw [List.all_eq_true] at ha; rw [ha _ (List.getElem_mem h)] at hc; cases hc
  simp [named, this]
theorem headD_get {s : List UInt8} (h : 0 < s.length) : s.headD 0 = s[0] := by
  cases s with
  | nil => simp at h
  | cons a r => rfl
theorem named_ok {s : List UInt8} (h1 : 0 < s.length) (h2 : s.length ≤ 16) (h3 : letter s[0].toNat = true) (h4 : ∀ c ∈ s, alnum c.toNat = true) : named s = true := by
  have : (s.all fun c => alnum c.toNat) = true := List.all_eq_true.2 h4
  have h5 : 1 ≤ s.length := h1
  unfold named
  rw [this, headD_get h1, h3, decide_eq_true h2, decide_eq_true h5]; rfl

theorem w_wreckageref04_Letter (c : Nat) (m : Mem) : Okv tab F_wreckageref04_Letter [.int .u8 c] m (.bool (letter c)) := by
  refine okv_of t_wreckageref04_Letter ?_
  obtain ⟨stk, cur, nx, live, fl⟩ := m
  simp only [a_wreckageref04_Letter, go_sem, reduceIte, reduceCtorEq, Nat.reduceAdd, Nat.reduceSub, Nat.reduceEqDiff, Nat.reduceLeDiff, Nat.reduceBEq, Nat.reduceLT]
  repeat' ((first | refine Xc_by (fun hq => ?_) (fun hq => ?_) | refine Xgt_by (fun hq => ?_) (fun hq => ?_) | refine Xgf_by (fun hq => ?_) (fun hq => ?_) | refine Xut_by (fun hq => ?_) (fun hq => ?_) | refine Xuf_by (fun hq => ?_) (fun hq => ?_)) <;> simp only [go_sem, reduceIte, reduceCtorEq, Nat.reduceAdd, Nat.reduceSub, Nat.reduceEqDiff, Nat.reduceLeDiff, Nat.reduceBEq, Nat.reduceLT, hq])
  all_goals
    rw [leave_plain rfl rfl, Opt_some]
    refine ⟨⟨_, rfl⟩, ?_⟩
    simp only [decide_eq_true_eq, decide_eq_false_iff_not] at *
    unfold letter
    congr 1
    grind

theorem w_wreckageref04_Named (s : List UInt8) (hs : s.length ≤ 9223372036854775807) (m : Mem) : Okv tab F_wreckageref04_Named [.str s] m (.bool (named s)) := by
  refine okv_of t_wreckageref04_Named ?_
  obtain ⟨stk, cur, nx, live, fl⟩ := m
  have hL : ∃ K : Nat → Mem → Nat, ∀ (c : Nat) m, CALL tab F_wreckageref04_Letter [.int .u8 c] m = some (.bool (letter c), m.bump (K c m)) :=
    ⟨fun c m => (w_wreckageref04_Letter c m).choose, fun c m => (w_wreckageref04_Letter c m).choose_spec⟩
  obtain ⟨K, hK⟩ := hL
  simp only [a_wreckageref04_Named, go_sem, reduceIte, reduceCtorEq, Nat.reduceAdd, Nat.reduceSub, Nat.reduceEqDiff, Nat.reduceLeDiff, Nat.reduceBEq, Nat.reduceLT]
  by_cases h0 : s.length < 1
  · have h0' : (s.length : Int) < 1 := by omega
    simp only [go_sem, reduceIte, reduceCtorEq, Nat.reduceAdd, Nat.reduceSub, Nat.reduceEqDiff, Nat.reduceLeDiff, Nat.reduceBEq, Nat.reduceLT, h0']
    rw [leave_plain rfl rfl, Opt_some]
    exact ⟨⟨_, rfl⟩, by simp [named, show ¬ 1 ≤ s.length by omega]⟩
  have h0' : ¬ (s.length : Int) < 1 := by omega
  by_cases h1 : s.length > 16
  · have h1' : (s.length : Int) > 16 := by omega
    simp only [go_sem, reduceIte, reduceCtorEq, Nat.reduceAdd, Nat.reduceSub, Nat.reduceEqDiff, Nat.reduceLeDiff, Nat.reduceBEq, Nat.reduceLT, h0', h1']
    rw [leave_plain rfl rfl, Opt_some]
    exact ⟨⟨_, rfl⟩, by simp [named, show ¬ s.length ≤ 16 by omega]⟩
  have h1' : ¬ (s.length : Int) > 16 := by omega
  have hi0 : idx (.int .i64 0) s.length = some 0 := idx_int .i64 0 _ (by omega)
  have hg0 : s[0]? = some s[0] := List.getElem?_eq_getElem (by omega)
  cases h2 : letter s[0].toNat
  · simp only [go_sem, reduceIte, reduceCtorEq, Nat.reduceAdd, Nat.reduceSub, Nat.reduceEqDiff, Nat.reduceLeDiff, Nat.reduceBEq, Nat.reduceLT, h0', h1', hi0, hg0, hK, h2]
    rw [leave_plain rfl rfl, Opt_some]
    exact ⟨⟨_, rfl⟩, by simp only [named, headD_get (show 0 < s.length by omega), h2]; simp⟩
  · simp only [go_sem, reduceIte, reduceCtorEq, Nat.reduceAdd, Nat.reduceSub, Nat.reduceEqDiff, Nat.reduceLeDiff, Nat.reduceBEq, Nat.reduceLT, h0', h1', hi0, hg0, hK, h2]
    refine XL_rule (α := Nat) (fun i σ => (i ≤ s.length ∧ ∀ c ∈ s.take i, alnum c.toNat = true) ∧ ∃ nz, heads [0, 3] 0 σ = ⟨tmps 41 [(0, .str s), (3, .int .i64 i)], ⟨stk ++ [cur], [], nz, [] :: live, fl⟩⟩) (fun i => s.length - i) 0 ?_ ?_
    · refine ⟨⟨Nat.zero_le _, by simp⟩, ?_⟩
      simp only [go_sem, reduceIte, reduceCtorEq, Nat.reduceAdd, Nat.reduceSub, Nat.reduceEqDiff, Nat.reduceLeDiff, Nat.reduceBEq, Nat.reduceLT]
      exact ⟨_, rfl⟩
    · rintro i σ ⟨⟨hi, ht⟩, nz, hσ⟩
      rw [hσ]
      clear hσ σ
      dsimp only at hi ht ⊢
      by_cases h : i < s.length
      · have hg : s[i]? = some s[i] := List.getElem?_eq_getElem h
        cases hc : alnum s[i].toNat
        · have hc' := hc
          simp only [alnum, Bool.or_eq_false_iff] at hc'
          simp only [go_sem, reduceIte, reduceCtorEq, Nat.reduceAdd, Nat.reduceSub, Nat.reduceEqDiff, Nat.reduceLeDiff, Nat.reduceBEq, Nat.reduceLT, Int.ofNat_lt, h, idx_int, hg, hK, hc'.1]
          have hidx := idx_int .i64 i _ h
          repeat' ((first | refine Xc_by (fun hq => ?_) (fun hq => ?_) | refine Xgt_by (fun hq => ?_) (fun hq => ?_) | refine Xgf_by (fun hq => ?_) (fun hq => ?_) | refine Xut_by (fun hq => ?_) (fun hq => ?_) | refine Xuf_by (fun hq => ?_) (fun hq => ?_)) <;> simp only [go_sem, reduceIte, reduceCtorEq, Nat.reduceAdd, Nat.reduceSub, Nat.reduceEqDiff, Nat.reduceLeDiff, Nat.reduceBEq, Nat.reduceLT, hq, hidx, hg])
          all_goals first
            | (rw [leave_plain rfl rfl, Opt_some]; exact ⟨⟨_, rfl⟩, by rw [named_bad h hc]⟩)
            | (exfalso; simp only [decide_eq_true_eq, decide_eq_false_iff_not, Bool.and_eq_false_iff] at *; omega)
        · have hn := mem_take_succ (P := fun c : UInt8 => alnum c.toNat = true) h ht hc
          have hc' := hc
          simp only [alnum] at hc'
          cases hl : letter s[i].toNat
          · rw [hl] at hc'
            simp only [Bool.false_or, Bool.and_eq_true, decide_eq_true_eq] at hc'
            simp only [go_sem, reduceIte, reduceCtorEq, Nat.reduceAdd, Nat.reduceSub, Nat.reduceEqDiff, Nat.reduceLeDiff, Nat.reduceBEq, Nat.reduceLT, Int.ofNat_lt, h, idx_int, hg, hK, hl, show ¬ (s[i].toNat : Int) < 48 by omega, show ¬ (s[i].toNat : Int) > 57 by omega, succ_i64 h hs]
            exact ⟨i + 1, by omega, ⟨h, hn⟩, _, rfl⟩
          · simp only [go_sem, reduceIte, reduceCtorEq, Nat.reduceAdd, Nat.reduceSub, Nat.reduceEqDiff, Nat.reduceLeDiff, Nat.reduceBEq, Nat.reduceLT, Int.ofNat_lt, h, idx_int, hg, hK, hl, succ_i64 h hs]
            exact ⟨i + 1, by omega, ⟨h, hn⟩, _, rfl⟩
      · have : i = s.length := by omega
        subst this
        rw [List.take_length] at ht
        simp only [go_sem, reduceIte, reduceCtorEq, Nat.reduceAdd, Nat.reduceSub, Nat.reduceEqDiff, Nat.reduceLeDiff, Nat.reduceBEq, Nat.reduceLT, Int.ofNat_lt, h]
        rw [leave_plain rfl rfl, Opt_some]
        exact ⟨⟨_, rfl⟩, by rw [named_ok (by omega) (by omega) h2 ht]⟩

theorem kinds_byte' : ∀ c : Fin 256, ((decide (IntKind.u8.wrap ((BitVec.ofInt 8 (c.val : Int) ||| BitVec.ofInt 8 32).toNat : Int) < 97) || decide (IntKind.u8.wrap ((BitVec.ofInt 8 (c.val : Int) ||| BitVec.ofInt 8 32).toNat : Int) > 122) || (IntKind.u8.wrap ((BitVec.ofInt 8 (c.val : Int) &&& BitVec.ofInt 8 64).toNat : Int) == 0)) && (decide ((c.val : Int) < 48) || decide ((c.val : Int) > 57))) = !(alnum c.val) := by decide +kernel

/-- What kinds.Named asks of a byte. -/
theorem kinds_byte {c : Nat} (hc : c < 256) : ∃ a b : Int, evBits .or .u8 (c : Int) 32 = some (.int .u8 a) ∧ evBits .and .u8 (c : Int) 64 = some (.int .u8 b) ∧
    ((decide (a < 97) || decide (a > 122) || (b == 0)) && (decide ((c : Int) < 48) || decide ((c : Int) > 57))) = !(alnum c) := ⟨_, _, rfl, rfl, kinds_byte' ⟨c, hc⟩⟩

theorem alnum_letter {c : Nat} (h : alnum c = true) : letter c = decide (57 < c) := by
  unfold alnum letter at *
  grind

set_option maxHeartbeats 1000000 in
theorem w_kinds_Named (s : List UInt8) (m : Mem) : Okv tab F_kinds_Named [.str s] m (.bool (named s)) := by
  refine okv_of t_kinds_Named ?_
  obtain ⟨stk, cur, nx, live, fl⟩ := m
  simp only [a_kinds_Named, go_sem, reduceIte, reduceCtorEq, Nat.reduceAdd, Nat.reduceSub, Nat.reduceEqDiff, Nat.reduceLeDiff, Nat.reduceBEq, Nat.reduceLT]
  by_cases h0 : (s.length : Int) = 0
  · have h0' : ((s.length : Int) == 0) = true := by simp [h0]
    simp only [go_sem, reduceIte, reduceCtorEq, Nat.reduceAdd, Nat.reduceSub, Nat.reduceEqDiff, Nat.reduceLeDiff, Nat.reduceBEq, Nat.reduceLT, h0']
    rw [leave_plain rfl rfl, Opt_some]
    exact ⟨⟨_, rfl⟩, by simp [named, show ¬ 1 ≤ s.length by omega]⟩
  have h0' : ((s.length : Int) == 0) = false := by simpa using h0
  by_cases h1 : s.length > 16
  · have h1' : (s.length : Int) > 16 := by omega
    simp only [go_sem, reduceIte, reduceCtorEq, Nat.reduceAdd, Nat.reduceSub, Nat.reduceEqDiff, Nat.reduceLeDiff, Nat.reduceBEq, Nat.reduceLT, h0', h1']
    rw [leave_plain rfl rfl, Opt_some]
    exact ⟨⟨_, rfl⟩, by simp [named, show ¬ s.length ≤ 16 by omega]⟩
  have h1' : ¬ (s.length : Int) > 16 := by omega
  have hp : 0 < s.length := by omega
  have hi0 : idx (.int .i64 0) s.length = some 0 := idx_int .i64 0 _ (by omega)
  have hg0 : s[0]? = some s[0] := List.getElem?_eq_getElem (by omega)
  by_cases h2 : (s[0].toNat : Int) ≤ 57
  · simp only [go_sem, reduceIte, reduceCtorEq, Nat.reduceAdd, Nat.reduceSub, Nat.reduceEqDiff, Nat.reduceLeDiff, Nat.reduceBEq, Nat.reduceLT, h0', h1', hi0, hg0, h2]
    rw [leave_plain rfl rfl, Opt_some]
    refine ⟨⟨_, rfl⟩, ?_⟩
    cases ha : alnum s[0].toNat
    · rw [named_bad hp ha]
    · have := alnum_letter ha
      rw [decide_eq_false (by omega)] at this
      simp only [named, headD_get hp, this]; simp
  · simp only [go_sem, reduceIte, reduceCtorEq, Nat.reduceAdd, Nat.reduceSub, Nat.reduceEqDiff, Nat.reduceLeDiff, Nat.reduceBEq, Nat.reduceLT, h0', h1', hi0, hg0, h2, show s.length ≤ 140737488355328 by omega]
    have hs : IsSl IsByte 1 s (.list 1 (.id nx) (ofBytes s)) := .mk (all2_ofBytes s) (by omega)
    simp only [go_sem, reduceIte, reduceCtorEq, Nat.reduceAdd, Nat.reduceSub, Nat.reduceEqDiff, Nat.reduceLeDiff, Nat.reduceBEq, Nat.reduceLT, hs.len]
    refine XL_rule (α := Nat) (fun i σ => (i ≤ s.length ∧ ∀ c ∈ s.take i, alnum c.toNat = true) ∧ ∃ nz, heads [19, 20, 21] 0 σ = ⟨tmps 47 [(19, .list 1 (.id nx) (ofBytes s)), (20, .int .i64 s.length), (21, .int .i64 i)], ⟨stk ++ [cur], [], nz, [nx] :: live, fl⟩⟩) (fun i => s.length - i) 0 ?_ ?_
    · refine ⟨⟨Nat.zero_le _, by simp⟩, ?_⟩
      simp only [go_sem, reduceIte, reduceCtorEq, Nat.reduceAdd, Nat.reduceSub, Nat.reduceEqDiff, Nat.reduceLeDiff, Nat.reduceBEq, Nat.reduceLT]
      exact ⟨_, rfl⟩
    · rintro i σ ⟨⟨hi, ht⟩, nz, hσ⟩
      rw [hσ]
      clear hσ σ
      dsimp only at hi ht ⊢
      by_cases h : i < s.length
      · have e1 : nth (.list 1 (.id nx) (ofBytes s)) i = .int .u8 s[i].toNat := hs.nth h
        obtain ⟨a, b, q1, q2, q3⟩ := kinds_byte (UInt8.toNat_lt s[i])
        simp only [go_sem, reduceIte, reduceCtorEq, Nat.reduceAdd, Nat.reduceSub, Nat.reduceEqDiff, Nat.reduceLeDiff, Nat.reduceBEq, Nat.reduceLT, Int.ofNat_lt, h, hs.at _ h, e1, q1]
        cases hc : alnum s[i].toNat
        · rw [hc] at q3
          have hat := hs.at .i64 h
          repeat' ((first | refine Xc_by (fun hq => ?_) (fun hq => ?_) | refine Xgt_by (fun hq => ?_) (fun hq => ?_) | refine Xgf_by (fun hq => ?_) (fun hq => ?_) | refine Xut_by (fun hq => ?_) (fun hq => ?_) | refine Xuf_by (fun hq => ?_) (fun hq => ?_)) <;> simp only [go_sem, reduceIte, reduceCtorEq, Nat.reduceAdd, Nat.reduceSub, Nat.reduceEqDiff, Nat.reduceLeDiff, Nat.reduceBEq, Nat.reduceLT, hq, q1, q2, hat, e1])
          all_goals first
            | (rw [leave_plain rfl rfl, Opt_some]; exact ⟨⟨_, rfl⟩, by rw [named_bad (by assumption) hc]⟩)
            | (exfalso; simp_all; done)
        · have hn := mem_take_succ (P := fun c : UInt8 => alnum c.toNat = true) h ht hc
          have hsucc := succ_i64 h hs.max
          rw [hc] at q3
          have hat := hs.at .i64 h
          repeat' ((first | refine Xc_by (fun hq => ?_) (fun hq => ?_) | refine Xgt_by (fun hq => ?_) (fun hq => ?_) | refine Xgf_by (fun hq => ?_) (fun hq => ?_) | refine Xut_by (fun hq => ?_) (fun hq => ?_) | refine Xuf_by (fun hq => ?_) (fun hq => ?_)) <;> simp only [go_sem, reduceIte, reduceCtorEq, Nat.reduceAdd, Nat.reduceSub, Nat.reduceEqDiff, Nat.reduceLeDiff, Nat.reduceBEq, Nat.reduceLT, hq, q1, q2, hat, e1, hsucc])
          all_goals first
            | exact ⟨i + 1, by omega, ⟨by assumption, hn⟩, _, rfl⟩
            | (exfalso; simp_all; done)
      · have : i = s.length := by omega
        subst this
        rw [List.take_length] at ht
        simp only [go_sem, reduceIte, reduceCtorEq, Nat.reduceAdd, Nat.reduceSub, Nat.reduceEqDiff, Nat.reduceLeDiff, Nat.reduceBEq, Nat.reduceLT, Int.ofNat_lt, h]
        rw [leave_plain rfl rfl, Opt_some]
        refine ⟨⟨_, rfl⟩, ?_⟩
        have := alnum_letter (ht s[0] (List.getElem_mem hp))
        rw [decide_eq_true (by omega)] at this
        rw [named_ok hp (by omega) this ht]

end Go.Proofs.W

namespace Go.Proofs.W
open Go.Vs
set_option linter.unusedSimpArgs false
set_option maxRecDepth 100000

theorem w_kinds_zero_1 (n : Int) (m : Mem) : Okv tab F_kinds_zero_1 [.int .i64 n] m (.bool (n != 0)) := by
  refine okv_of t_kinds_zero_1 ?_
  obtain ⟨stk, cur, nx, live, fl⟩ := m
  simp only [a_kinds_zero_1, go_sem, reduceIte, reduceCtorEq, Nat.reduceAdd, Nat.reduceSub, Nat.reduceEqDiff, Nat.reduceLeDiff, Nat.reduceBEq, Nat.reduceLT]
  rw [leave_plain rfl rfl, Opt_some]
  exact ⟨⟨_, rfl⟩, rfl⟩

theorem w_IndexFunc_int (xs : List Int) (x : AV) (hx : IsSl (IsK .i64) 1 xs x) (m : Mem) :
    Ok tab F_slices_IndexFunc_int_int [x, .fn (.func F_kinds_zero_1) [] []] m (fun r => ∃ n : Int, r = .int .i64 n ∧ decide (n ≥ 0) = xs.any (· != 0)) := by
  refine ok_of t_slices_IndexFunc_int_int ?_
  obtain ⟨stk, cur, nx, live, fl⟩ := m
  simp only [a_slices_IndexFunc_int_int, go_sem, reduceIte, reduceCtorEq, Nat.reduceAdd, Nat.reduceSub, Nat.reduceEqDiff, Nat.reduceLeDiff, Nat.reduceBEq, Nat.reduceLT, hx.len]
  refine XL_rule (α := Nat) (fun i σ => (i ≤ xs.length ∧ ∀ c ∈ xs.take i, (c != 0) = false) ∧ ∃ nz, heads [0, 1, 7, 8] 0 σ = ⟨tmps 19 [(0, x), (1, .fn (.func F_kinds_zero_1) [] []), (7, .int .i64 xs.length), (8, .int .i64 i)], ⟨stk ++ [cur], [], nz, [] :: live, fl⟩⟩) (fun i => xs.length - i) 0 ?_ ?_
  · refine ⟨⟨Nat.zero_le _, by simp⟩, ?_⟩
    simp only [go_sem, reduceIte, reduceCtorEq, Nat.reduceAdd, Nat.reduceSub, Nat.reduceEqDiff, Nat.reduceLeDiff, Nat.reduceBEq, Nat.reduceLT]
    exact ⟨_, rfl⟩
  · rintro i σ ⟨⟨hi, ht⟩, nz, hσ⟩
    rw [hσ]
    clear hσ σ
    dsimp only at hi ht ⊢
    by_cases h : i < xs.length
    · have e1 : nth x i = .int .i64 xs[i] := hx.nth h
      simp only [go_sem, reduceIte, reduceCtorEq, Nat.reduceAdd, Nat.reduceSub, Nat.reduceEqDiff, Nat.reduceLeDiff, Nat.reduceBEq, Nat.reduceLT, Int.ofNat_lt, h, hx.at _ h, e1, (w_kinds_zero_1 _ _).eq]
      cases hc : (xs[i] != 0)
      · simp only [go_sem, reduceIte, reduceCtorEq, Nat.reduceAdd, Nat.reduceSub, Nat.reduceEqDiff, Nat.reduceLeDiff, Nat.reduceBEq, Nat.reduceLT, hc, succ_i64 h hx.max]
        exact ⟨i + 1, by omega, ⟨h, mem_take_succ (P := fun c => (c != 0) = false) h ht hc⟩, _, rfl⟩
      · simp only [go_sem, reduceIte, reduceCtorEq, Nat.reduceAdd, Nat.reduceSub, Nat.reduceEqDiff, Nat.reduceLeDiff, Nat.reduceBEq, Nat.reduceLT, hc]
        rw [leave_plain rfl rfl, Opt_some]
        refine ⟨⟨_, rfl⟩, _, rfl, ?_⟩
        rw [List.any_eq_true.2 ⟨_, List.getElem_mem h, hc⟩]
        simp
    · have : i = xs.length := by omega
      subst this
      rw [List.take_length] at ht
      simp only [go_sem, reduceIte, reduceCtorEq, Nat.reduceAdd, Nat.reduceSub, Nat.reduceEqDiff, Nat.reduceLeDiff, Nat.reduceBEq, Nat.reduceLT, Int.ofNat_lt, h]
      rw [leave_plain rfl rfl, Opt_some]
      refine ⟨⟨_, rfl⟩, _, rfl, ?_⟩
      rw [List.any_eq_false.2 fun c hc => by rw [ht c hc]; simp]
      rfl

theorem w_ContainsFunc_int (xs : List Int) (x : AV) (hx : IsSl (IsK .i64) 1 xs x) (m : Mem) :
    Okv tab F_slices_ContainsFunc_int_int [x, .fn (.func F_kinds_zero_1) [] []] m (.bool (xs.any (· != 0))) := by
  refine okv_of t_slices_ContainsFunc_int_int ?_
  obtain ⟨stk, cur, nx, live, fl⟩ := m
  simp only [a_slices_ContainsFunc_int_int, go_sem, reduceIte, reduceCtorEq, Nat.reduceAdd, Nat.reduceSub, Nat.reduceEqDiff, Nat.reduceLeDiff, Nat.reduceBEq, Nat.reduceLT]
  obtain ⟨r, k, h1, n, rfl, h2⟩ := w_IndexFunc_int xs x hx ⟨stk ++ [cur], [], nx, [] :: live, fl⟩
  simp only [go_sem, reduceIte, reduceCtorEq, Nat.reduceAdd, Nat.reduceSub, Nat.reduceEqDiff, Nat.reduceLeDiff, Nat.reduceBEq, Nat.reduceLT, h1, h2]
  rw [leave_plain rfl rfl, Opt_some]
  exact ⟨⟨_, rfl⟩, rfl⟩

theorem w_kinds_zero (xs : List Int) (x : AV) (hx : IsSl (IsK .i64) 1 xs x) (m : Mem) : Okv tab F_kinds_zero [x] m (.bool (!xs.any (· != 0))) := by
  refine okv_of t_kinds_zero ?_
  obtain ⟨stk, cur, nx, live, fl⟩ := m
  simp only [a_kinds_zero, go_sem, reduceIte, reduceCtorEq, Nat.reduceAdd, Nat.reduceSub, Nat.reduceEqDiff, Nat.reduceLeDiff, Nat.reduceBEq, Nat.reduceLT, (w_ContainsFunc_int xs x hx _).eq]
  rw [leave_plain rfl rfl, Opt_some]
  exact ⟨⟨_, rfl⟩, rfl⟩

theorem w_zero1 (a : Int) (m : Mem) : Okv tab F_kinds_zero [.list 1 .full [.int .i64 a]] m (.bool (pb (a = 0))) := by
  have hh : IsSl (IsK .i64) 1 [a] (.list 1 .full [.int .i64 a]) := .mk (ys := [.int .i64 a]) ⟨rfl, trivial⟩ (by simp)
  have := w_kinds_zero [a] _ hh m
  have e : (!([a] : List Int).any (· != 0)) = pb (a = 0) := pb_eq (by simp)
  rw [e] at this; exact this
theorem w_zero2 (a b : Int) (m : Mem) : Okv tab F_kinds_zero [.list 1 .full [.int .i64 a, .int .i64 b]] m (.bool (pb (a = 0 ∧ b = 0))) := by
  have hh : IsSl (IsK .i64) 1 [a, b] (.list 1 .full [.int .i64 a, .int .i64 b]) := .mk (ys := [.int .i64 a, .int .i64 b]) ⟨rfl, rfl, trivial⟩ (by simp)
  have := w_kinds_zero [a, b] _ hh m
  have e : (!([a, b] : List Int).any (· != 0)) = pb (a = 0 ∧ b = 0) := pb_eq (by simp)
  rw [e] at this; exact this
theorem w_zero3 (a b c : Int) (m : Mem) : Okv tab F_kinds_zero [.list 1 .full [.int .i64 a, .int .i64 b, .int .i64 c]] m (.bool (pb (a = 0 ∧ b = 0 ∧ c = 0))) := by
  have hh : IsSl (IsK .i64) 1 [a, b, c] (.list 1 .full [.int .i64 a, .int .i64 b, .int .i64 c]) := .mk (ys := [.int .i64 a, .int .i64 b, .int .i64 c]) ⟨rfl, rfl, rfl, trivial⟩ (by simp)
  have := w_kinds_zero [a, b, c] _ hh m
  have e : (!([a, b, c] : List Int).any (· != 0)) = pb (a = 0 ∧ b = 0 ∧ c = 0) := pb_eq (by simp)
  rw [e] at this; exact this

theorem w_kinds_fine_1 (a b : Int) (m : Mem) : Okv tab F_kinds_fine_1 [.int .i64 a, .int .i64 b] m (.bool (pb (0 ≤ a ∧ a < b))) := by
  refine okv_of t_kinds_fine_1 ?_
  obtain ⟨stk, cur, nx, live, fl⟩ := m
  simp only [a_kinds_fine_1, go_sem, reduceIte, reduceCtorEq, Nat.reduceAdd, Nat.reduceSub, Nat.reduceEqDiff, Nat.reduceLeDiff, Nat.reduceBEq, Nat.reduceLT]
  repeat' ((first | refine Xc_by (fun hq => ?_) (fun hq => ?_) | refine Xgt_by (fun hq => ?_) (fun hq => ?_) | refine Xgf_by (fun hq => ?_) (fun hq => ?_) | refine Xut_by (fun hq => ?_) (fun hq => ?_) | refine Xuf_by (fun hq => ?_) (fun hq => ?_)) <;> simp only [go_sem, reduceIte, reduceCtorEq, Nat.reduceAdd, Nat.reduceSub, Nat.reduceEqDiff, Nat.reduceLeDiff, Nat.reduceBEq, Nat.reduceLT, hq])
  all_goals
    rw [leave_plain rfl rfl, Opt_some]
    refine ⟨⟨_, rfl⟩, ?_⟩
    refine congrArg AV.bool (pb_eq ?_)
    grind

/-- Fields with names that are different. -/
def FieldsP (l : List DField) (most : Int) : Prop := (l.length : Int) ≤ most ∧ (∀ f ∈ l, named f.name = true) ∧ (l.map DField.name).Nodup

theorem nodup_take {α : Type} {l : List α} {i : Nat} (h : i < l.length) (h1 : (l.take i).Nodup) (h2 : ∀ x ∈ l.take i, x ≠ l[i]) : (l.take (i + 1)).Nodup := by
  rw [List.take_succ_eq_append_getElem h, List.nodup_append]
  refine ⟨h1, by simp, fun a ha b hb => ?_⟩
  simp at hb; rw [hb]; exact h2 a ha

theorem not_nodup {α : Type} {l : List α} {i k : Nat} (hk : k < i) (h : i < l.length) (he : l[k] = l[i]) : ¬ l.Nodup := fun hn => by
  have := (List.nodup_iff_pairwise_ne.1 hn)
  rw [List.pairwise_iff_getElem] at this
  exact this k i (by omega) h hk he

set_option maxHeartbeats 1000000 in
theorem w_wreckageref04_Fields (xs : List DField) (most : Int) (x : AV) (hx : IsSl IsField 2 xs x) (hm : ∀ f ∈ xs, f.name.length ≤ 9223372036854775807) (m : Mem) : Okv tab F_wreckageref04_Fields [x, .int .i64 most] m (.bool (pb (FieldsP xs most))) := by
  refine okv_of t_wreckageref04_Fields ?_
  obtain ⟨stk, cur, nx, live, fl⟩ := m
  simp only [a_wreckageref04_Fields, go_sem, reduceIte, reduceCtorEq, Nat.reduceAdd, Nat.reduceSub, Nat.reduceEqDiff, Nat.reduceLeDiff, Nat.reduceBEq, Nat.reduceLT, hx.len]
  by_cases hb : (xs.length : Int) > most
  · simp only [go_sem, reduceIte, reduceCtorEq, Nat.reduceAdd, Nat.reduceSub, Nat.reduceEqDiff, Nat.reduceLeDiff, Nat.reduceBEq, Nat.reduceLT, hb]
    rw [leave_plain rfl rfl, Opt_some]
    exact ⟨⟨_, rfl⟩, by rw [pb_false fun h => by have := h.1; omega]⟩
  simp only [go_sem, reduceIte, reduceCtorEq, Nat.reduceAdd, Nat.reduceSub, Nat.reduceEqDiff, Nat.reduceLeDiff, Nat.reduceBEq, Nat.reduceLT, hb]
  have hml : (xs.map DField.name).length = xs.length := by simp
  refine XL_rule (α := Nat) (fun i σ => (i ≤ xs.length ∧ (∀ c ∈ xs.take i, named c.name = true) ∧ ((xs.map DField.name).take i).Nodup) ∧ ∃ nz, heads [0, 5] 0 σ = ⟨tmps 40 [(0, x), (5, .int .i64 i)], ⟨stk ++ [cur], [], nz, [] :: live, fl⟩⟩) (fun i => xs.length - i) 0 ?_ ?_
  · refine ⟨⟨Nat.zero_le _, by simp, by simp⟩, ?_⟩
    simp only [go_sem, reduceIte, reduceCtorEq, Nat.reduceAdd, Nat.reduceSub, Nat.reduceEqDiff, Nat.reduceLeDiff, Nat.reduceBEq, Nat.reduceLT]
    exact ⟨_, rfl⟩
  · rintro i σ ⟨⟨hi, ht, hd⟩, nz, hσ⟩
    rw [hσ]
    clear hσ σ
    dsimp only at hi ht hd ⊢
    by_cases h : i < xs.length
    · have e1 : nth x i = .agg [.str xs[i].name, .int .i64 xs[i].typ] := hx.nth h
      simp only [go_sem, reduceIte, reduceCtorEq, Nat.reduceAdd, Nat.reduceSub, Nat.reduceEqDiff, Nat.reduceLeDiff, Nat.reduceBEq, Nat.reduceLT, Int.ofNat_lt, h, hx.len, hx.at _ h, e1, (w_wreckageref04_Named _ (hm _ (List.getElem_mem h)) _).eq]
      cases hc : named xs[i].name
      · simp only [go_sem, reduceIte, reduceCtorEq, Nat.reduceAdd, Nat.reduceSub, Nat.reduceEqDiff, Nat.reduceLeDiff, Nat.reduceBEq, Nat.reduceLT]
        rw [leave_plain rfl rfl, Opt_some]
        exact ⟨⟨_, rfl⟩, by rw [pb_false fun h' => by have := h'.2.1 _ (List.getElem_mem h); rw [hc] at this; cases this]⟩
      · simp only [go_sem, reduceIte, reduceCtorEq, Nat.reduceAdd, Nat.reduceSub, Nat.reduceEqDiff, Nat.reduceLeDiff, Nat.reduceBEq, Nat.reduceLT]
        refine XL_rule (α := Nat) (fun k σ => (k ≤ i ∧ ∀ c ∈ (xs.map DField.name).take k, c ≠ xs[i].name) ∧ ∃ nz, heads [0, 5, 6] 0 σ = ⟨tmps 40 [(0, x), (5, .int .i64 i), (6, .int .i64 k)], ⟨stk ++ [cur], [], nz, [] :: live, fl⟩⟩) (fun k => i - k) 0 ?_ ?_
        · refine ⟨⟨Nat.zero_le _, by simp⟩, ?_⟩
          simp only [go_sem, reduceIte, reduceCtorEq, Nat.reduceAdd, Nat.reduceSub, Nat.reduceEqDiff, Nat.reduceLeDiff, Nat.reduceBEq, Nat.reduceLT]
          exact ⟨_, rfl⟩
        · rintro k σ ⟨⟨hk, hks⟩, nz, hσ⟩
          rw [hσ]
          clear hσ σ
          dsimp only at hk hks ⊢
          by_cases hki : k < i
          · have hkl : k < xs.length := by omega
            have e2 : nth x k = .agg [.str xs[k].name, .int .i64 xs[k].typ] := hx.nth hkl
            simp only [go_sem, reduceIte, reduceCtorEq, Nat.reduceAdd, Nat.reduceSub, Nat.reduceEqDiff, Nat.reduceLeDiff, Nat.reduceBEq, Nat.reduceLT, Int.ofNat_lt, hki, hx.len, hx.at _ hkl, e2, hx.at _ h, e1, evStr]
            by_cases hq : xs[k].name = xs[i].name
            · have hq' : (xs[k].name == xs[i].name) = true := by simp [hq]
              simp only [go_sem, reduceIte, reduceCtorEq, Nat.reduceAdd, Nat.reduceSub, Nat.reduceEqDiff, Nat.reduceLeDiff, Nat.reduceBEq, Nat.reduceLT, hq']
              rw [leave_plain rfl rfl, Opt_some]
              exact ⟨⟨_, rfl⟩, by rw [pb_false fun h' => not_nodup hki (by rw [hml]; exact h) (by simpa using hq) h'.2.2]⟩
            · have hq' : (xs[k].name == xs[i].name) = false := by simpa using hq
              simp only [go_sem, reduceIte, reduceCtorEq, Nat.reduceAdd, Nat.reduceSub, Nat.reduceEqDiff, Nat.reduceLeDiff, Nat.reduceBEq, Nat.reduceLT, hq', succ_i64 hkl hx.max]
              exact ⟨k + 1, by omega, ⟨hki, mem_take_succ (P := fun c => c ≠ xs[i].name) (by rw [hml]; exact hkl) hks (by simpa using hq)⟩, _, rfl⟩
          · have : k = i := by omega
            subst this
            simp only [go_sem, reduceIte, reduceCtorEq, Nat.reduceAdd, Nat.reduceSub, Nat.reduceEqDiff, Nat.reduceLeDiff, Nat.reduceBEq, Nat.reduceLT, Int.ofNat_lt, hki, hx.len, succ_i64 h hx.max]
            refine ⟨k + 1, by omega, ⟨h, mem_take_succ (P := fun c => named c.name = true) h ht hc, ?_⟩, _, rfl⟩
            exact nodup_take (by rw [hml]; exact h) hd (by simpa using hks)
    · have : i = xs.length := by omega
      subst this
      rw [List.take_length] at ht
      rw [← hml, List.take_length] at hd
      simp only [go_sem, reduceIte, reduceCtorEq, Nat.reduceAdd, Nat.reduceSub, Nat.reduceEqDiff, Nat.reduceLeDiff, Nat.reduceBEq, Nat.reduceLT, Int.ofNat_lt, h, hx.len]
      rw [leave_plain rfl rfl, Opt_some]
      exact ⟨⟨_, rfl⟩, by rw [pb_true ⟨by omega, ht, hd⟩]⟩

end Go.Proofs.W

namespace Go.Proofs.W
open Go.Vs
set_option linter.unusedSimpArgs false
set_option maxRecDepth 100000

def StructP (i : Nat) (t : DTyp) : Prop := (∀ f ∈ t.fields, 0 ≤ f.typ ∧ f.typ < i) ∧ t.elem = 0 ∧ t.len = 0 ∧ 0 < t.fields.length ∧ FieldsP t.fields 8
/-- The type at i of n types is valid. -/
def FineT (n i : Nat) (t : DTyp) : Prop :=
  ((t.kind = 1 ∨ t.kind = 2 ∨ t.kind = 3) ∧ t.elem = 0 ∧ t.len = 0 ∧ t.fields.length = 0) ∨ ((t.kind = 4 ∨ t.kind = 7) ∧ 0 ≤ t.elem ∧ t.elem < n ∧ t.len = 0 ∧ t.fields.length = 0) ∨
  (t.kind = 6 ∧ 0 ≤ t.elem ∧ t.elem < i ∧ 1 ≤ t.len ∧ t.len ≤ 16 ∧ t.fields.length = 0) ∨ (t.kind = 5 ∧ StructP i t)

theorem fine_struct {n i : Nat} {t : DTyp} (h : t.kind = 5) : FineT n i t ↔ StructP i t := by
  unfold FineT; rw [h]; simp

theorem b51 : ((5 : Int) == 1) = false := rfl
theorem b52 : ((5 : Int) == 2) = false := rfl
theorem b53 : ((5 : Int) == 3) = false := rfl
theorem b54 : ((5 : Int) == 4) = false := rfl
theorem b56 : ((5 : Int) == 6) = false := rfl
theorem b57 : ((5 : Int) == 7) = false := rfl

def NamesOk (l : List DField) : Prop := ∀ f ∈ l, f.name.length ≤ 9223372036854775807

set_option maxHeartbeats 4000000 in
theorem w_wreckageref04_fine (xs : List DTyp) (x : AV) (hx : IsSl IsTyp 4 xs x) (i : Nat) (hi : i < xs.length) (hn : NamesOk xs[i].fields) (m : Mem) :
    Okv tab F_wreckageref04_fine [x, .int .i64 i] m (.bool (pb (FineT xs.length i xs[i]))) := by
  refine okv_of t_wreckageref04_fine ?_
  obtain ⟨stk, cur, nx, live, fl⟩ := m
  obtain ⟨v, e1, q1⟩ := hx.nth hi
  have hlen := hx.len
  have hat := hx.at .i64 hi
  have hm := hx.max
  generalize ht : xs[i] = t at *
  clear ht
  generalize hxn : xs.length = n at *
  obtain ⟨kind, elem, len, fields⟩ := t
  dsimp only at e1 q1 hn
  simp only [a_wreckageref04_fine, go_sem, reduceIte, reduceCtorEq, Nat.reduceAdd, Nat.reduceSub, Nat.reduceEqDiff, Nat.reduceLeDiff, Nat.reduceBEq, Nat.reduceLT, hat, e1, q1.one]
  by_cases hk : kind = 5
  · subst hk
    simp only [go_sem, reduceIte, reduceCtorEq, Nat.reduceAdd, Nat.reduceSub, Nat.reduceEqDiff, Nat.reduceLeDiff, Nat.reduceBEq, Nat.reduceLT, b51, b52, b53, b54, b56, b57]
    refine XL_rule (α := Nat) (fun k σ => (k ≤ fields.length ∧ ∀ f ∈ fields.take k, 0 ≤ f.typ ∧ f.typ < i) ∧ ∃ nz, heads [1, 5, 6] 1 σ = ⟨tmps 127 [(1, .int .i64 i), (5, .ptr (stk ++ [cur]).length 0 nx 0), (6, .int .i64 k)], ⟨stk ++ [cur], [⟨nx, [.int .u8 5, .int .i64 elem, .int .i64 len, v]⟩], nz, [] :: live, fl⟩⟩) (fun k => fields.length - k) 0 ?_ ?_
    · refine ⟨⟨Nat.zero_le _, by simp⟩, ?_⟩
      simp only [go_sem, reduceIte, reduceCtorEq, Nat.reduceAdd, Nat.reduceSub, Nat.reduceEqDiff, Nat.reduceLeDiff, Nat.reduceBEq, Nat.reduceLT]
      exact ⟨_, rfl⟩
    · rintro k σ ⟨⟨hk, hks⟩, nz, hσ⟩
      rw [hσ]
      clear hσ σ
      dsimp only at hk hks ⊢
      by_cases h : k < fields.length
      · have e2 : nth v k = .agg [.str fields[k].name, .int .i64 fields[k].typ] := q1.nth h
        have hat2 := q1.at .i64 h
        have hlen2 := q1.len
        have hsucc := succ_i64 h q1.max
        simp only [go_sem, reduceIte, reduceCtorEq, Nat.reduceAdd, Nat.reduceSub, Nat.reduceEqDiff, Nat.reduceLeDiff, Nat.reduceBEq, Nat.reduceLT, Int.ofNat_lt, h, hlen2, hat2, e2]
        by_cases hf : 0 ≤ fields[k].typ ∧ fields[k].typ < i
        · have hkn := mem_take_succ (P := fun f => 0 ≤ f.typ ∧ f.typ < i) h hks hf
          simp only [go_sem, reduceIte, reduceCtorEq, Nat.reduceAdd, Nat.reduceSub, Nat.reduceEqDiff, Nat.reduceLeDiff, Nat.reduceBEq, Nat.reduceLT, show ¬ fields[k].typ < 0 by omega, show ¬ fields[k].typ ≥ i by omega, hat2, e2, hsucc]
          exact ⟨k + 1, by omega, ⟨h, hkn⟩, _, rfl⟩
        · repeat' ((first | refine Xc_by (fun hq => ?_) (fun hq => ?_) | refine Xgt_by (fun hq => ?_) (fun hq => ?_) | refine Xgf_by (fun hq => ?_) (fun hq => ?_) | refine Xut_by (fun hq => ?_) (fun hq => ?_) | refine Xuf_by (fun hq => ?_) (fun hq => ?_)) <;> simp only [go_sem, reduceIte, reduceCtorEq, Nat.reduceAdd, Nat.reduceSub, Nat.reduceEqDiff, Nat.reduceLeDiff, Nat.reduceBEq, Nat.reduceLT, hq, hat2, e2])
          all_goals first
            | (rw [leave_plain rfl rfl, Opt_some]; exact ⟨⟨_, rfl⟩, by rw [pb_false fun h' => hf (((fine_struct rfl).1 h').1 _ (List.getElem_mem h))]⟩)
            | (exfalso; simp only [decide_eq_true_eq, decide_eq_false_iff_not] at *; omega)
      · have : k = fields.length := by omega
        subst this
        rw [List.take_length] at hks
        have hF : ∀ m, CALL tab F_wreckageref04_Fields [v, .int .i64 8] m = _ := fun m => (w_wreckageref04_Fields fields 8 v q1 hn m).eq
        simp only [go_sem, reduceIte, reduceCtorEq, Nat.reduceAdd, Nat.reduceSub, Nat.reduceEqDiff, Nat.reduceLeDiff, Nat.reduceBEq, Nat.reduceLT, Int.ofNat_lt, h, q1.len]
        repeat' ((first | refine Xc_by (fun hq => ?_) (fun hq => ?_) | refine Xgt_by (fun hq => ?_) (fun hq => ?_) | refine Xgf_by (fun hq => ?_) (fun hq => ?_) | refine Xut_by (fun hq => ?_) (fun hq => ?_) | refine Xuf_by (fun hq => ?_) (fun hq => ?_)) <;> simp only [go_sem, reduceIte, reduceCtorEq, Nat.reduceAdd, Nat.reduceSub, Nat.reduceEqDiff, Nat.reduceLeDiff, Nat.reduceBEq, Nat.reduceLT, hq, q1.len, hF])
        all_goals
          rw [leave_plain rfl rfl, Opt_some]
          refine ⟨⟨_, rfl⟩, congrArg AV.bool (pb_eq ?_)⟩
          rw [fine_struct rfl]
          unfold StructP
          simp only [decide_eq_true_eq, decide_eq_false_iff_not, beq_iff_eq, beq_eq_false_iff_ne, pb_iff, pb_niff] at *
          grind
  · have hk5 : (kind == 5) = false := by simpa using hk
    repeat' ((first | refine Xc_by (fun hq => ?_) (fun hq => ?_) | refine Xgt_by (fun hq => ?_) (fun hq => ?_) | refine Xgf_by (fun hq => ?_) (fun hq => ?_) | refine Xut_by (fun hq => ?_) (fun hq => ?_) | refine Xuf_by (fun hq => ?_) (fun hq => ?_)) <;> simp only [go_sem, reduceIte, reduceCtorEq, Nat.reduceAdd, Nat.reduceSub, Nat.reduceEqDiff, Nat.reduceLeDiff, Nat.reduceBEq, Nat.reduceLT, hq, hlen, q1.len, hk5])
    all_goals
      rw [leave_plain rfl rfl, Opt_some]
      refine ⟨⟨_, rfl⟩, congrArg AV.bool (pb_eq ?_)⟩
      unfold FineT
      clear hat hlen e1 q1 hn
      simp only [decide_eq_true_eq, decide_eq_false_iff_not, beq_iff_eq, beq_eq_false_iff_ne] at *
      grind

end Go.Proofs.W

namespace Go.Proofs.W
open Go.Vs
set_option linter.unusedSimpArgs false
set_option maxRecDepth 100000

def ents (ns : List (List UInt8)) : List AV := ns.map fun s => .tup [.str s, .bool true]
theorem mapGet_names (s : List UInt8) : ∀ ns, mapGet true (.bool false) (.str s) (ents ns) = some (.bool (pb (s ∈ ns)))
  | [] => by rw [pb_false (by simp)]; rfl
  | n :: r => by
    have ih := mapGet_names s r
    simp only [ents, List.map_cons, mapGet, keyEq] at ih ⊢
    by_cases h : s = n
    · subst h; rw [pb_true List.mem_cons_self]; simp
    · have : (s == n) = false := by simpa using h
      rw [this]; simp only [ih]
      congr 2
      exact pb_eq (by rw [pb_iff]; simp [h])
theorem mapPut_names (s : List UInt8) : ∀ ns, s ∉ ns → mapPut true (.str s) (.bool true) (ents ns) = some (ents (ns ++ [s]))
  | [], _ => rfl
  | n :: r, h => by
    have ih := mapPut_names s r (fun h' => h (List.mem_cons_of_mem _ h'))
    have hne : (s == n) = false := by simp only [beq_eq_false_iff_ne]; intro e; exact h (e ▸ List.mem_cons_self)
    simp only [ents, List.map_cons, List.cons_append, mapPut, keyEq, hne] at ih ⊢
    rw [ih]; rfl

theorem take_succ_map {α β : Type} (f : α → β) {l : List α} {i : Nat} (h : i < l.length) : (l.map f).take (i + 1) = (l.map f).take i ++ [f l[i]] := by
  rw [List.take_succ_eq_append_getElem (by simpa using h)]; simp

set_option maxHeartbeats 4000000 in
theorem w_kinds_fine (xs : List DTyp) (x : AV) (hx : IsSl IsTyp 4 xs x) (i : Nat) (hi : i < xs.length) (hw : WfTyp xs[i]) (m : Mem) :
    Okv tab F_kinds_fine [x, .int .i64 i] m (.bool (pb (FineT xs.length i xs[i]))) := by
  refine okv_of t_kinds_fine ?_
  obtain ⟨stk, cur, nx, live, fl⟩ := m
  obtain ⟨v, e1, q1⟩ := hx.nth hi
  have hlen := hx.len
  have hat := hx.at .i64 hi
  have hm := hx.max
  generalize ht : xs[i] = t at *
  clear ht
  generalize hxn : xs.length = n at *
  obtain ⟨kind, elem, len, fields⟩ := t
  dsimp only at e1 q1
  have hlm := q1.max
  have ew : (0 ≤ IntKind.i64.wrap (len - 1) ∧ IntKind.i64.wrap (len - 1) < 16) ↔ (1 ≤ len ∧ len ≤ 16) := by
    have := hw.len
    unfold in64 at this
    dsimp only at this
    by_cases hh : len = -9223372036854775808
    · subst hh; decide
    · rw [wrap_i64' (by omega) (by omega)]; omega
  have hW : ∀ a b m, CALL tab F_kinds_fine_1 [.int .i64 a, .int .i64 b] m = _ := fun a b m => (w_kinds_fine_1 a b m).eq
  have hz1 : ∀ a m, CALL tab F_kinds_zero [.list 1 .full [.int .i64 a]] m = _ := fun a m => (w_zero1 a m).eq
  have hz2 : ∀ a b m, CALL tab F_kinds_zero [.list 1 .full [.int .i64 a, .int .i64 b]] m = _ := fun a b m => (w_zero2 a b m).eq
  have hz3 : ∀ a b c m, CALL tab F_kinds_zero [.list 1 .full [.int .i64 a, .int .i64 b, .int .i64 c]] m = _ := fun a b c m => (w_zero3 a b c m).eq
  simp only [a_kinds_fine, go_sem, reduceIte, reduceCtorEq, Nat.reduceAdd, Nat.reduceSub, Nat.reduceEqDiff, Nat.reduceLeDiff, Nat.reduceBEq, Nat.reduceLT, hat, e1, q1.one]
  by_cases hk : kind = 5
  · subst hk
    have hlen2 := q1.len
    simp only [go_sem, reduceIte, reduceCtorEq, Nat.reduceAdd, Nat.reduceSub, Nat.reduceEqDiff, Nat.reduceLeDiff, Nat.reduceBEq, Nat.reduceLT, b51, b52, b53, b54, b56, b57, hlen2]
    refine XL_rule (α := Nat) (fun k σ => (k ≤ fields.length ∧ (∀ f ∈ fields.take k, 0 ≤ f.typ ∧ f.typ < i) ∧ (∀ f ∈ fields.take k, named f.name = true) ∧ ((fields.map DField.name).take k).Nodup) ∧ ∃ nz, heads [1, 5, 6, 7, 72, 73, 74] 2 σ = ⟨tmps 118 [(1, .int .i64 i), (5, .ptr (stk ++ [cur]).length 0 nx 0), (6, .fn (.func F_kinds_fine_1) [] []), (7, .mapR (stk ++ [cur]).length 1 (nx + 1)), (72, v), (73, .int .i64 fields.length), (74, .int .i64 k)],
      ⟨stk ++ [cur], [⟨nx, [.int .u8 5, .int .i64 elem, .int .i64 len, v]⟩, ⟨nx + 1, [.tup (ents ((fields.map DField.name).take k))]⟩], nz, [] :: live, fl⟩⟩) (fun k => fields.length - k) 0 ?_ ?_
    · refine ⟨⟨Nat.zero_le _, by simp, by simp, by simp⟩, ?_⟩
      simp only [go_sem, reduceIte, reduceCtorEq, Nat.reduceAdd, Nat.reduceSub, Nat.reduceEqDiff, Nat.reduceLeDiff, Nat.reduceBEq, Nat.reduceLT]
      exact ⟨_, rfl⟩
    · rintro k σ ⟨⟨hk, hks, hkn, hkd⟩, nz, hσ⟩
      rw [hσ]
      clear hσ σ
      dsimp only at hk hks hkn hkd ⊢
      have hml : (fields.map DField.name).length = fields.length := by simp
      by_cases h : k < fields.length
      · have e2 : nth v k = .agg [.str fields[k].name, .int .i64 fields[k].typ] := q1.nth h
        have hat2 := q1.at .i64 h
        have hsucc := succ_i64 h q1.max
        have hN : ∀ m, CALL tab F_kinds_Named [.str fields[k].name] m = _ := fun m => (w_kinds_Named fields[k].name m).eq
        simp only [go_sem, reduceIte, reduceCtorEq, Nat.reduceAdd, Nat.reduceSub, Nat.reduceEqDiff, Nat.reduceLeDiff, Nat.reduceBEq, Nat.reduceLT, Int.ofNat_lt, h, hat2, e2, hN]
        by_cases hc : named fields[k].name = true
        case neg =>
          have hc' : named fields[k].name = false := by simpa using hc
          simp only [go_sem, reduceIte, reduceCtorEq, Nat.reduceAdd, Nat.reduceSub, Nat.reduceEqDiff, Nat.reduceLeDiff, Nat.reduceBEq, Nat.reduceLT, hc']
          rw [leave_plain rfl rfl, Opt_some]
          refine ⟨⟨_, rfl⟩, congrArg AV.bool (pb_false fun h' => ?_).symm⟩
          exact hc ((((fine_struct rfl).1 h').2.2.2.2).2.1 _ (List.getElem_mem h))
        simp only [go_sem, reduceIte, reduceCtorEq, Nat.reduceAdd, Nat.reduceSub, Nat.reduceEqDiff, Nat.reduceLeDiff, Nat.reduceBEq, Nat.reduceLT, hc, mapGet_names]
        by_cases hs : fields[k].name ∈ (fields.map DField.name).take k
        · simp only [go_sem, reduceIte, reduceCtorEq, Nat.reduceAdd, Nat.reduceSub, Nat.reduceEqDiff, Nat.reduceLeDiff, Nat.reduceBEq, Nat.reduceLT, pb_true hs]
          rw [leave_plain rfl rfl, Opt_some]
          refine ⟨⟨_, rfl⟩, congrArg AV.bool (pb_false fun h' => ?_).symm⟩
          have hnd := (((fine_struct rfl).1 h').2.2.2.2).2.2
          obtain ⟨j, hj, he⟩ := List.mem_take_iff_getElem.1 hs
          refine not_nodup (l := fields.map DField.name) (i := k) (k := j) (by omega) (by rw [hml]; exact h) ?_ hnd
          rw [he]; simp
        simp only [go_sem, reduceIte, reduceCtorEq, Nat.reduceAdd, Nat.reduceSub, Nat.reduceEqDiff, Nat.reduceLeDiff, Nat.reduceBEq, Nat.reduceLT, pb_false hs, hW]
        by_cases hf : 0 ≤ fields[k].typ ∧ fields[k].typ < i
        case neg =>
          simp only [go_sem, reduceIte, reduceCtorEq, Nat.reduceAdd, Nat.reduceSub, Nat.reduceEqDiff, Nat.reduceLeDiff, Nat.reduceBEq, Nat.reduceLT, pb_false hf]
          rw [leave_plain rfl rfl, Opt_some]
          exact ⟨⟨_, rfl⟩, by rw [pb_false fun h' => hf (((fine_struct rfl).1 h').1 _ (List.getElem_mem h))]⟩
        simp only [go_sem, reduceIte, reduceCtorEq, Nat.reduceAdd, Nat.reduceSub, Nat.reduceEqDiff, Nat.reduceLeDiff, Nat.reduceBEq, Nat.reduceLT, pb_true hf, mapPut_names _ _ hs, hsucc, List.length_append]
        have htk := take_succ_map DField.name h
        rw [← htk]
        refine ⟨k + 1, by omega, ⟨h, mem_take_succ (P := fun f => 0 ≤ f.typ ∧ f.typ < i) h hks hf, mem_take_succ (P := fun f => named f.name = true) h hkn hc, ?_⟩, _, rfl⟩
        exact nodup_take (by rw [hml]; exact h) hkd (fun y hy e => hs (by rw [List.getElem_map] at e; exact e ▸ hy))
      · have : k = fields.length := by omega
        subst this
        rw [List.take_length] at hks hkn
        rw [← hml, List.take_length] at hkd
        simp only [go_sem, reduceIte, reduceCtorEq, Nat.reduceAdd, Nat.reduceSub, Nat.reduceEqDiff, Nat.reduceLeDiff, Nat.reduceBEq, Nat.reduceLT, Int.ofNat_lt, h, q1.len, hz2]
        repeat' ((first | refine Xc_by (fun hq => ?_) (fun hq => ?_) | refine Xgt_by (fun hq => ?_) (fun hq => ?_) | refine Xgf_by (fun hq => ?_) (fun hq => ?_) | refine Xut_by (fun hq => ?_) (fun hq => ?_) | refine Xuf_by (fun hq => ?_) (fun hq => ?_)) <;> simp only [go_sem, reduceIte, reduceCtorEq, Nat.reduceAdd, Nat.reduceSub, Nat.reduceEqDiff, Nat.reduceLeDiff, Nat.reduceBEq, Nat.reduceLT, hq, q1.len])
        all_goals
          rw [leave_plain rfl rfl, Opt_some]
          refine ⟨⟨_, rfl⟩, congrArg AV.bool (pb_eq ?_)⟩
          rw [fine_struct rfl]
          unfold StructP FieldsP
          clear hz1 hz2 hz3 hW ew
          simp only [decide_eq_true_eq, decide_eq_false_iff_not, beq_iff_eq, beq_eq_false_iff_ne, pb_iff, pb_niff] at *
          grind
  · have hk5 : (kind == 5) = false := by simpa using hk
    repeat' ((first | refine Xc_by (fun hq => ?_) (fun hq => ?_) | refine Xgt_by (fun hq => ?_) (fun hq => ?_) | refine Xgf_by (fun hq => ?_) (fun hq => ?_) | refine Xut_by (fun hq => ?_) (fun hq => ?_) | refine Xuf_by (fun hq => ?_) (fun hq => ?_)) <;> simp only [go_sem, reduceIte, reduceCtorEq, Nat.reduceAdd, Nat.reduceSub, Nat.reduceEqDiff, Nat.reduceLeDiff, Nat.reduceBEq, Nat.reduceLT, hq, hlen, q1.len, hk5, hW, hz1, hz2, hz3])
    all_goals
      rw [leave_plain rfl rfl, Opt_some]
      refine ⟨⟨_, rfl⟩, congrArg AV.bool (pb_eq ?_)⟩
      unfold FineT
      clear hat hlen e1 q1 hz1 hz2 hz3 hW
      simp only [decide_eq_true_eq, decide_eq_false_iff_not, beq_iff_eq, beq_eq_false_iff_ne, pb_iff, pb_niff] at *
      grind

end Go.Proofs.W
