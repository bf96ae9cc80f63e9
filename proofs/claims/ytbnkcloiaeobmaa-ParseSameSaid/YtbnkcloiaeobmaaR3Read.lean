/-
  R3Read.lean: readings (printed by program).
-/
import Derived.Test.YtbnkcloiaeobmaaVr
import Derived.Test.YtbnkcloiaeobmaaDt
import Derived.Test.YtbnkcloiaeobmaaProg
import Derived.KernelRfl
namespace Go.Proofs.W
open Go.Vs
set_option maxRecDepth 100000
set_option linter.unusedVariables false
set_option linter.unusedSimpArgs false
theorem rd5 (n : Nat) (xs : List AV) (h : Typed Try.prog n 5 xs) : ∃ d y, xs = [y] ∧ IsK .u8 d y := by
  cases n with
  | zero => exact absurd h typed_zero
  | succ n => obtain ⟨i, rfl, _⟩ := typed_int h Try.underlying5; exact ⟨i, _, rfl, rfl⟩
theorem rd3 (n : Nat) (xs : List AV) (h : Typed Try.prog n 3 xs) : ∃ d y, xs = [y] ∧ IsK .i64 d y := by
  cases n with
  | zero => exact absurd h typed_zero
  | succ n => obtain ⟨i, rfl, _⟩ := typed_int h Try.underlying3; exact ⟨i, _, rfl, rfl⟩
theorem rd9 (n : Nat) (xs : List AV) (h : Typed Try.prog n 9 xs) : ∃ d y, xs = [y] ∧ IsStr d y := by
  cases n with
  | zero => exact absurd h typed_zero
  | succ n => obtain ⟨i, rfl, _⟩ := typed_str h Try.underlying9; exact ⟨i, _, rfl, rfl⟩
theorem cells69 : Try.prog.cellsOf 69 = 2 := by kernel_rfl
theorem rd69 (n : Nat) (xs : List AV) (h : Typed Try.prog n 69 xs) : ∃ d, IsField d (.agg xs) := by
  cases n with
  | zero => exact absurd h typed_zero
  | succ n =>
    have hl := typed_len h (by kernel_rfl) cells69
    match xs, hl with
    | [c0, c1], _ =>
      have k0 := rd9 n _ (typed_field h (i := 0) (ft := 9) (off := 0) (c := 1) (by kernel_rfl) (by kernel_rfl))
      simp only [List.drop_succ_cons, List.drop_zero, List.take_succ_cons, List.take_zero] at k0
      obtain ⟨d0, y0, e0, p0⟩ := k0
      injection e0 with e0 _
      subst e0
      cases p0
      have k1 := rd3 n _ (typed_field h (i := 1) (ft := 3) (off := 1) (c := 1) (by kernel_rfl) (by kernel_rfl))
      simp only [List.drop_succ_cons, List.drop_zero, List.take_succ_cons, List.take_zero] at k1
      obtain ⟨d1, y1, e1, p1⟩ := k1
      injection e1 with e1 _
      subst e1
      cases p1
      exact ⟨⟨d0, d1⟩, rfl⟩
theorem cells44_69 : Try.prog.cellsOf 69 = 2 := by kernel_rfl
theorem rd44 (n : Nat) (xs : List AV) (h : Typed Try.prog n 44 xs) : ∃ d y, xs = [y] ∧ IsSl IsField 2 d y := by
  cases n with
  | zero => exact absurd h typed_zero
  | succ n => exact typed_slice h Try.underlying44 cells44_69 (fun y h1 h2 => by
      obtain ⟨cs, rfl⟩ := elem_agg h1 (by kernel_rfl)
      exact rd69 n cs h2)
theorem cells46 : Try.prog.cellsOf 46 = 4 := by kernel_rfl
theorem rd46 (n : Nat) (xs : List AV) (h : Typed Try.prog n 46 xs) : ∃ d, IsTyp d (.agg xs) := by
  cases n with
  | zero => exact absurd h typed_zero
  | succ n =>
    have hl := typed_len h (by kernel_rfl) cells46
    match xs, hl with
    | [c0, c1, c2, c3], _ =>
      have k0 := rd5 n _ (typed_field h (i := 0) (ft := 5) (off := 0) (c := 1) (by kernel_rfl) (by kernel_rfl))
      simp only [List.drop_succ_cons, List.drop_zero, List.take_succ_cons, List.take_zero] at k0
      obtain ⟨d0, y0, e0, p0⟩ := k0
      injection e0 with e0 _
      subst e0
      cases p0
      have k1 := rd3 n _ (typed_field h (i := 1) (ft := 3) (off := 1) (c := 1) (by kernel_rfl) (by kernel_rfl))
      simp only [List.drop_succ_cons, List.drop_zero, List.take_succ_cons, List.take_zero] at k1
      obtain ⟨d1, y1, e1, p1⟩ := k1
      injection e1 with e1 _
      subst e1
      cases p1
      have k2 := rd3 n _ (typed_field h (i := 2) (ft := 3) (off := 2) (c := 1) (by kernel_rfl) (by kernel_rfl))
      simp only [List.drop_succ_cons, List.drop_zero, List.take_succ_cons, List.take_zero] at k2
      obtain ⟨d2, y2, e2, p2⟩ := k2
      injection e2 with e2 _
      subst e2
      cases p2
      have k3 := rd44 n _ (typed_field h (i := 3) (ft := 44) (off := 3) (c := 1) (by kernel_rfl) (by kernel_rfl))
      simp only [List.drop_succ_cons, List.drop_zero, List.take_succ_cons, List.take_zero] at k3
      obtain ⟨d3, y3, e3, p3⟩ := k3
      injection e3 with e3 _
      subst e3
      exact ⟨⟨d0, d1, d2, d3⟩, ⟨_, rfl, p3⟩⟩
theorem cells22_46 : Try.prog.cellsOf 46 = 4 := by kernel_rfl
theorem rd22 (n : Nat) (xs : List AV) (h : Typed Try.prog n 22 xs) : ∃ d y, xs = [y] ∧ IsSl IsTyp 4 d y := by
  cases n with
  | zero => exact absurd h typed_zero
  | succ n => exact typed_slice h Try.underlying22 cells22_46 (fun y h1 h2 => by
      obtain ⟨cs, rfl⟩ := elem_agg h1 (by kernel_rfl)
      exact rd46 n cs h2)
theorem cells23_9 : Try.prog.cellsOf 9 = 1 := by kernel_rfl
theorem rd23 (n : Nat) (xs : List AV) (h : Typed Try.prog n 23 xs) : ∃ d y, xs = [y] ∧ IsSl IsStr 1 d y := by
  cases n with
  | zero => exact absurd h typed_zero
  | succ n => exact typed_slice h Try.underlying23 cells23_9 (fun y h1 h2 => by
      have hc := elem_one h1 (by kernel_rfl)
      rw [hc] at h2
      obtain ⟨d, z, e, hd⟩ := rd9 n _ h2
      injection e with e _
      subst e
      exact ⟨d, hd⟩)
theorem cells73 : Try.prog.cellsOf 73 = 4 := by kernel_rfl
theorem rd73 (n : Nat) (xs : List AV) (h : Typed Try.prog n 73 xs) : ∃ d, IsInstr d (.agg xs) := by
  cases n with
  | zero => exact absurd h typed_zero
  | succ n =>
    have hl := typed_len h (by kernel_rfl) cells73
    match xs, hl with
    | [c0, c1, c2, c3], _ =>
      have k0 := rd5 n _ (typed_field h (i := 0) (ft := 5) (off := 0) (c := 1) (by kernel_rfl) (by kernel_rfl))
      simp only [List.drop_succ_cons, List.drop_zero, List.take_succ_cons, List.take_zero] at k0
      obtain ⟨d0, y0, e0, p0⟩ := k0
      injection e0 with e0 _
      subst e0
      cases p0
      have k1 := rd3 n _ (typed_field h (i := 1) (ft := 3) (off := 1) (c := 1) (by kernel_rfl) (by kernel_rfl))
      simp only [List.drop_succ_cons, List.drop_zero, List.take_succ_cons, List.take_zero] at k1
      obtain ⟨d1, y1, e1, p1⟩ := k1
      injection e1 with e1 _
      subst e1
      cases p1
      have k2 := rd3 n _ (typed_field h (i := 2) (ft := 3) (off := 2) (c := 1) (by kernel_rfl) (by kernel_rfl))
      simp only [List.drop_succ_cons, List.drop_zero, List.take_succ_cons, List.take_zero] at k2
      obtain ⟨d2, y2, e2, p2⟩ := k2
      injection e2 with e2 _
      subst e2
      cases p2
      have k3 := rd3 n _ (typed_field h (i := 3) (ft := 3) (off := 3) (c := 1) (by kernel_rfl) (by kernel_rfl))
      simp only [List.drop_succ_cons, List.drop_zero, List.take_succ_cons, List.take_zero] at k3
      obtain ⟨d3, y3, e3, p3⟩ := k3
      injection e3 with e3 _
      subst e3
      cases p3
      exact ⟨⟨d0, d1, d2, d3⟩, rfl⟩
theorem cells50_73 : Try.prog.cellsOf 73 = 4 := by kernel_rfl
theorem rd50 (n : Nat) (xs : List AV) (h : Typed Try.prog n 50 xs) : ∃ d y, xs = [y] ∧ IsSl IsInstr 4 d y := by
  cases n with
  | zero => exact absurd h typed_zero
  | succ n => exact typed_slice h Try.underlying50 cells50_73 (fun y h1 h2 => by
      obtain ⟨cs, rfl⟩ := elem_agg h1 (by kernel_rfl)
      exact rd73 n cs h2)
theorem rd29 (n : Nat) (xs : List AV) (h : Typed Try.prog n 29 xs) : ∃ d y, xs = [y] ∧ IsK .u64 d y := by
  cases n with
  | zero => exact absurd h typed_zero
  | succ n => obtain ⟨i, rfl, _⟩ := typed_int h Try.underlying29; exact ⟨i, _, rfl, rfl⟩
theorem cells76 : Try.prog.cellsOf 76 = 2 := by kernel_rfl
theorem rd76 (n : Nat) (xs : List AV) (h : Typed Try.prog n 76 xs) : ∃ d, IsRun d (.agg xs) := by
  cases n with
  | zero => exact absurd h typed_zero
  | succ n =>
    have hl := typed_len h (by kernel_rfl) cells76
    match xs, hl with
    | [c0, c1], _ =>
      have k0 := rd3 n _ (typed_field h (i := 0) (ft := 3) (off := 0) (c := 1) (by kernel_rfl) (by kernel_rfl))
      simp only [List.drop_succ_cons, List.drop_zero, List.take_succ_cons, List.take_zero] at k0
      obtain ⟨d0, y0, e0, p0⟩ := k0
      injection e0 with e0 _
      subst e0
      cases p0
      have k1 := rd29 n _ (typed_field h (i := 1) (ft := 29) (off := 1) (c := 1) (by kernel_rfl) (by kernel_rfl))
      simp only [List.drop_succ_cons, List.drop_zero, List.take_succ_cons, List.take_zero] at k1
      obtain ⟨d1, y1, e1, p1⟩ := k1
      injection e1 with e1 _
      subst e1
      cases p1
      exact ⟨⟨d0, d1⟩, rfl⟩
theorem cells51_76 : Try.prog.cellsOf 76 = 2 := by kernel_rfl
theorem rd51 (n : Nat) (xs : List AV) (h : Typed Try.prog n 51 xs) : ∃ d y, xs = [y] ∧ IsSl IsRun 2 d y := by
  cases n with
  | zero => exact absurd h typed_zero
  | succ n => exact typed_slice h Try.underlying51 cells51_76 (fun y h1 h2 => by
      obtain ⟨cs, rfl⟩ := elem_agg h1 (by kernel_rfl)
      exact rd76 n cs h2)
theorem cells53 : Try.prog.cellsOf 53 = 7 := by kernel_rfl
theorem rd53 (n : Nat) (xs : List AV) (h : Typed Try.prog n 53 xs) : ∃ d, IsFunc d (.agg xs) := by
  cases n with
  | zero => exact absurd h typed_zero
  | succ n =>
    have hl := typed_len h (by kernel_rfl) cells53
    match xs, hl with
    | [c0, c1, c2, c3, c4, c5, c6], _ =>
      have k0 := rd9 n _ (typed_field h (i := 0) (ft := 9) (off := 0) (c := 1) (by kernel_rfl) (by kernel_rfl))
      simp only [List.drop_succ_cons, List.drop_zero, List.take_succ_cons, List.take_zero] at k0
      obtain ⟨d0, y0, e0, p0⟩ := k0
      injection e0 with e0 _
      subst e0
      cases p0
      have k1 := rd3 n _ (typed_field h (i := 1) (ft := 3) (off := 1) (c := 1) (by kernel_rfl) (by kernel_rfl))
      simp only [List.drop_succ_cons, List.drop_zero, List.take_succ_cons, List.take_zero] at k1
      obtain ⟨d1, y1, e1, p1⟩ := k1
      injection e1 with e1 _
      subst e1
      cases p1
      have k2 := rd3 n _ (typed_field h (i := 2) (ft := 3) (off := 2) (c := 1) (by kernel_rfl) (by kernel_rfl))
      simp only [List.drop_succ_cons, List.drop_zero, List.take_succ_cons, List.take_zero] at k2
      obtain ⟨d2, y2, e2, p2⟩ := k2
      injection e2 with e2 _
      subst e2
      cases p2
      have k3 := rd44 n _ (typed_field h (i := 3) (ft := 44) (off := 3) (c := 1) (by kernel_rfl) (by kernel_rfl))
      simp only [List.drop_succ_cons, List.drop_zero, List.take_succ_cons, List.take_zero] at k3
      obtain ⟨d3, y3, e3, p3⟩ := k3
      injection e3 with e3 _
      subst e3
      have k4 := rd50 n _ (typed_field h (i := 4) (ft := 50) (off := 4) (c := 1) (by kernel_rfl) (by kernel_rfl))
      simp only [List.drop_succ_cons, List.drop_zero, List.take_succ_cons, List.take_zero] at k4
      obtain ⟨d4, y4, e4, p4⟩ := k4
      injection e4 with e4 _
      subst e4
      have k5 := rd51 n _ (typed_field h (i := 5) (ft := 51) (off := 5) (c := 1) (by kernel_rfl) (by kernel_rfl))
      simp only [List.drop_succ_cons, List.drop_zero, List.take_succ_cons, List.take_zero] at k5
      obtain ⟨d5, y5, e5, p5⟩ := k5
      injection e5 with e5 _
      subst e5
      have k6 := rd51 n _ (typed_field h (i := 6) (ft := 51) (off := 6) (c := 1) (by kernel_rfl) (by kernel_rfl))
      simp only [List.drop_succ_cons, List.drop_zero, List.take_succ_cons, List.take_zero] at k6
      obtain ⟨d6, y6, e6, p6⟩ := k6
      injection e6 with e6 _
      subst e6
      exact ⟨⟨d0, d1, d2, d3, d4, d5, d6⟩, ⟨_, _, _, _, rfl, p3, p4, p5, p6⟩⟩
theorem cells24_53 : Try.prog.cellsOf 53 = 7 := by kernel_rfl
theorem rd24 (n : Nat) (xs : List AV) (h : Typed Try.prog n 24 xs) : ∃ d y, xs = [y] ∧ IsSl IsFunc 7 d y := by
  cases n with
  | zero => exact absurd h typed_zero
  | succ n => exact typed_slice h Try.underlying24 cells24_53 (fun y h1 h2 => by
      obtain ⟨cs, rfl⟩ := elem_agg h1 (by kernel_rfl)
      exact rd53 n cs h2)
theorem cells26 : Try.prog.cellsOf 26 = 3 := by kernel_rfl
theorem rd26 (n : Nat) (xs : List AV) (h : Typed Try.prog n 26 xs) : ∃ d, IsImage d (.agg xs) := by
  cases n with
  | zero => exact absurd h typed_zero
  | succ n =>
    have hl := typed_len h (by kernel_rfl) cells26
    match xs, hl with
    | [c0, c1, c2], _ =>
      have k0 := rd22 n _ (typed_field h (i := 0) (ft := 22) (off := 0) (c := 1) (by kernel_rfl) (by kernel_rfl))
      simp only [List.drop_succ_cons, List.drop_zero, List.take_succ_cons, List.take_zero] at k0
      obtain ⟨d0, y0, e0, p0⟩ := k0
      injection e0 with e0 _
      subst e0
      have k1 := rd23 n _ (typed_field h (i := 1) (ft := 23) (off := 1) (c := 1) (by kernel_rfl) (by kernel_rfl))
      simp only [List.drop_succ_cons, List.drop_zero, List.take_succ_cons, List.take_zero] at k1
      obtain ⟨d1, y1, e1, p1⟩ := k1
      injection e1 with e1 _
      subst e1
      have k2 := rd24 n _ (typed_field h (i := 2) (ft := 24) (off := 2) (c := 1) (by kernel_rfl) (by kernel_rfl))
      simp only [List.drop_succ_cons, List.drop_zero, List.take_succ_cons, List.take_zero] at k2
      obtain ⟨d2, y2, e2, p2⟩ := k2
      injection e2 with e2 _
      subst e2
      exact ⟨⟨d0, d1, d2⟩, ⟨_, _, _, rfl, p0, p1, p2⟩⟩
theorem cells28 : Try.prog.cellsOf 28 = 3 := by kernel_rfl
theorem rd28 (n : Nat) (xs : List AV) (h : Typed Try.prog n 28 xs) : ∃ d, IsEnded d (.agg xs) := by
  cases n with
  | zero => exact absurd h typed_zero
  | succ n =>
    have hl := typed_len h (by kernel_rfl) cells28
    match xs, hl with
    | [c0, c1, c2], _ =>
      have k0 := rd5 n _ (typed_field h (i := 0) (ft := 5) (off := 0) (c := 1) (by kernel_rfl) (by kernel_rfl))
      simp only [List.drop_succ_cons, List.drop_zero, List.take_succ_cons, List.take_zero] at k0
      obtain ⟨d0, y0, e0, p0⟩ := k0
      injection e0 with e0 _
      subst e0
      cases p0
      have k1 := rd3 n _ (typed_field h (i := 1) (ft := 3) (off := 1) (c := 1) (by kernel_rfl) (by kernel_rfl))
      simp only [List.drop_succ_cons, List.drop_zero, List.take_succ_cons, List.take_zero] at k1
      obtain ⟨d1, y1, e1, p1⟩ := k1
      injection e1 with e1 _
      subst e1
      cases p1
      have k2 := rd3 n _ (typed_field h (i := 2) (ft := 3) (off := 2) (c := 1) (by kernel_rfl) (by kernel_rfl))
      simp only [List.drop_succ_cons, List.drop_zero, List.take_succ_cons, List.take_zero] at k2
      obtain ⟨d2, y2, e2, p2⟩ := k2
      injection e2 with e2 _
      subst e2
      cases p2
      exact ⟨⟨d0, d1, d2⟩, rfl⟩
theorem rdb30 (n : Nat) (y : AV) (h1 : IsElem Try.prog 5 y) (h : Typed Try.prog n 5 y.cells) : ∃ d, IsByte d y := by
  have hc := elem_one h1 (by kernel_rfl)
  cases n with
  | zero => exact absurd h typed_zero
  | succ n =>
    obtain ⟨i, hi, hw⟩ := typed_int h Try.underlying5
    rw [hc] at hi
    injection hi with hi _
    subst hi
    obtain ⟨h0, h1⟩ : 0 ≤ i ∧ i < 256 := by simp [Lit.wf, IntKind.min, IntKind.max, IntKind.signed, IntKind.bits] at hw; omega
    exact ⟨UInt8.ofNat i.toNat, by unfold IsByte; simp; omega⟩
theorem cells30_5 : Try.prog.cellsOf 5 = 1 := by kernel_rfl
theorem rd30 (n : Nat) (xs : List AV) (h : Typed Try.prog n 30 xs) : ∃ d y, xs = [y] ∧ IsSl IsByte 1 d y := by
  cases n with
  | zero => exact absurd h typed_zero
  | succ n => exact typed_slice h Try.underlying30 cells30_5 (fun y h1 h2 => rdb30 n y h1 h2)
theorem cells32 : Try.prog.cellsOf 32 = 2 := by kernel_rfl
theorem rd32 (n : Nat) (xs : List AV) (h : Typed Try.prog n 32 xs) : ∃ d, IsRegion d (.agg xs) := by
  cases n with
  | zero => exact absurd h typed_zero
  | succ n =>
    have hl := typed_len h (by kernel_rfl) cells32
    match xs, hl with
    | [c0, c1], _ =>
      have k0 := rd29 n _ (typed_field h (i := 0) (ft := 29) (off := 0) (c := 1) (by kernel_rfl) (by kernel_rfl))
      simp only [List.drop_succ_cons, List.drop_zero, List.take_succ_cons, List.take_zero] at k0
      obtain ⟨d0, y0, e0, p0⟩ := k0
      injection e0 with e0 _
      subst e0
      cases p0
      have k1 := rd30 n _ (typed_field h (i := 1) (ft := 30) (off := 1) (c := 1) (by kernel_rfl) (by kernel_rfl))
      simp only [List.drop_succ_cons, List.drop_zero, List.take_succ_cons, List.take_zero] at k1
      obtain ⟨d1, y1, e1, p1⟩ := k1
      injection e1 with e1 _
      subst e1
      exact ⟨⟨d0, d1⟩, ⟨_, rfl, p1⟩⟩
theorem cells33_32 : Try.prog.cellsOf 32 = 2 := by kernel_rfl
theorem rd33 (n : Nat) (xs : List AV) (h : Typed Try.prog n 33 xs) : ∃ d y, xs = [y] ∧ IsSl IsRegion 2 d y := by
  cases n with
  | zero => exact absurd h typed_zero
  | succ n => exact typed_slice h Try.underlying33 cells33_32 (fun y h1 h2 => by
      obtain ⟨cs, rfl⟩ := elem_agg h1 (by kernel_rfl)
      exact rd32 n cs h2)
theorem rd2 (n : Nat) (xs : List AV) (h : Typed Try.prog n 2 xs) : ∃ d y, xs = [y] ∧ IsK .i64 d y := by
  cases n with
  | zero => exact absurd h typed_zero
  | succ n => obtain ⟨i, rfl, _⟩ := typed_int h Try.underlying2; exact ⟨i, _, rfl, rfl⟩
theorem cells59 : Try.prog.cellsOf 59 = 6 := by kernel_rfl
theorem rd59 (n : Nat) (xs : List AV) (h : Typed Try.prog n 59 xs) : ∃ d, IsRoutine d (.agg xs) := by
  cases n with
  | zero => exact absurd h typed_zero
  | succ n =>
    have hl := typed_len h (by kernel_rfl) cells59
    match xs, hl with
    | [c0, c1, c2, c3, c4, c5], _ =>
      have k0 := rd5 n _ (typed_field h (i := 0) (ft := 5) (off := 0) (c := 1) (by kernel_rfl) (by kernel_rfl))
      simp only [List.drop_succ_cons, List.drop_zero, List.take_succ_cons, List.take_zero] at k0
      obtain ⟨d0, y0, e0, p0⟩ := k0
      injection e0 with e0 _
      subst e0
      cases p0
      have k1 := rd29 n _ (typed_field h (i := 1) (ft := 29) (off := 1) (c := 1) (by kernel_rfl) (by kernel_rfl))
      simp only [List.drop_succ_cons, List.drop_zero, List.take_succ_cons, List.take_zero] at k1
      obtain ⟨d1, y1, e1, p1⟩ := k1
      injection e1 with e1 _
      subst e1
      cases p1
      have k2 := rd29 n _ (typed_field h (i := 2) (ft := 29) (off := 2) (c := 1) (by kernel_rfl) (by kernel_rfl))
      simp only [List.drop_succ_cons, List.drop_zero, List.take_succ_cons, List.take_zero] at k2
      obtain ⟨d2, y2, e2, p2⟩ := k2
      injection e2 with e2 _
      subst e2
      cases p2
      have k3 := rd29 n _ (typed_field h (i := 3) (ft := 29) (off := 3) (c := 1) (by kernel_rfl) (by kernel_rfl))
      simp only [List.drop_succ_cons, List.drop_zero, List.take_succ_cons, List.take_zero] at k3
      obtain ⟨d3, y3, e3, p3⟩ := k3
      injection e3 with e3 _
      subst e3
      cases p3
      have k4 := rd29 n _ (typed_field h (i := 4) (ft := 29) (off := 4) (c := 1) (by kernel_rfl) (by kernel_rfl))
      simp only [List.drop_succ_cons, List.drop_zero, List.take_succ_cons, List.take_zero] at k4
      obtain ⟨d4, y4, e4, p4⟩ := k4
      injection e4 with e4 _
      subst e4
      cases p4
      have k5 := rd2 n _ (typed_field h (i := 5) (ft := 2) (off := 5) (c := 1) (by kernel_rfl) (by kernel_rfl))
      simp only [List.drop_succ_cons, List.drop_zero, List.take_succ_cons, List.take_zero] at k5
      obtain ⟨d5, y5, e5, p5⟩ := k5
      injection e5 with e5 _
      subst e5
      cases p5
      exact ⟨⟨d0, d1, d2, d3, d4, d5⟩, rfl⟩
theorem cells34_59 : Try.prog.cellsOf 59 = 6 := by kernel_rfl
theorem rd34 (n : Nat) (xs : List AV) (h : Typed Try.prog n 34 xs) : ∃ d y, xs = [y] ∧ IsSl IsRoutine 6 d y := by
  cases n with
  | zero => exact absurd h typed_zero
  | succ n => exact typed_slice h Try.underlying34 cells34_59 (fun y h1 h2 => by
      obtain ⟨cs, rfl⟩ := elem_agg h1 (by kernel_rfl)
      exact rd59 n cs h2)
theorem cells61_29 : Try.prog.cellsOf 29 = 1 := by kernel_rfl
theorem rd61 (n : Nat) (xs : List AV) (h : Typed Try.prog n 61 xs) : ∃ d y, xs = [y] ∧ IsSl (IsK .u64) 1 d y := by
  cases n with
  | zero => exact absurd h typed_zero
  | succ n => exact typed_slice h Try.underlying61 cells61_29 (fun y h1 h2 => by
      have hc := elem_one h1 (by kernel_rfl)
      rw [hc] at h2
      obtain ⟨d, z, e, hd⟩ := rd29 n _ h2
      injection e with e _
      subst e
      exact ⟨d, hd⟩)
theorem cells35_61 : Try.prog.cellsOf 61 = 1 := by kernel_rfl
theorem rd35 (n : Nat) (xs : List AV) (h : Typed Try.prog n 35 xs) : ∃ d y, xs = [y] ∧ IsSl (IsSl (IsK .u64) 1) 1 d y := by
  cases n with
  | zero => exact absurd h typed_zero
  | succ n => exact typed_slice h Try.underlying35 cells35_61 (fun y h1 h2 => by
      have hc := elem_one h1 (by kernel_rfl)
      rw [hc] at h2
      obtain ⟨d, z, e, hd⟩ := rd61 n _ h2
      injection e with e _
      subst e
      exact ⟨d, hd⟩)
theorem cells37 : Try.prog.cellsOf 37 = 12 := by kernel_rfl
theorem rd37 (n : Nat) (xs : List AV) (h : Typed Try.prog n 37 xs) : ∃ d, IsDump d (.agg xs) := by
  cases n with
  | zero => exact absurd h typed_zero
  | succ n =>
    have hl := typed_len h (by kernel_rfl) cells37
    match xs, hl with
    | [c0, c1, c2, c3, c4, c5, c6, c7, c8, c9, c10, c11], _ =>
      have k0 := rd26 n _ (typed_field h (i := 0) (ft := 26) (off := 0) (c := 3) (by kernel_rfl) (by kernel_rfl))
      simp only [List.drop_succ_cons, List.drop_zero, List.take_succ_cons, List.take_zero] at k0
      obtain ⟨d0, hh0⟩ := k0
      obtain ⟨u0_0, u0_1, u0_2, e0, p0_0, p0_1, p0_2⟩ := hh0
      simp only [IsImage, AV.agg.injEq, List.cons.injEq, and_true] at e0
      obtain ⟨rfl, rfl, rfl⟩ := e0
      have k1 := rd28 n _ (typed_field h (i := 1) (ft := 28) (off := 3) (c := 3) (by kernel_rfl) (by kernel_rfl))
      simp only [List.drop_succ_cons, List.drop_zero, List.take_succ_cons, List.take_zero] at k1
      obtain ⟨d1, hh1⟩ := k1
      have e1 := hh1
      simp only [IsEnded, AV.agg.injEq, List.cons.injEq, and_true] at e1
      obtain ⟨rfl, rfl, rfl⟩ := e1
      have k2 := rd32 n _ (typed_field h (i := 2) (ft := 32) (off := 6) (c := 2) (by kernel_rfl) (by kernel_rfl))
      simp only [List.drop_succ_cons, List.drop_zero, List.take_succ_cons, List.take_zero] at k2
      obtain ⟨d2, hh2⟩ := k2
      obtain ⟨u2_0, e2, p2_0⟩ := hh2
      simp only [IsRegion, AV.agg.injEq, List.cons.injEq, and_true] at e2
      obtain ⟨rfl, rfl⟩ := e2
      have k3 := rd33 n _ (typed_field h (i := 3) (ft := 33) (off := 8) (c := 1) (by kernel_rfl) (by kernel_rfl))
      simp only [List.drop_succ_cons, List.drop_zero, List.take_succ_cons, List.take_zero] at k3
      obtain ⟨d3, y3, e3, p3⟩ := k3
      injection e3 with e3 _
      subst e3
      have k4 := rd34 n _ (typed_field h (i := 4) (ft := 34) (off := 9) (c := 1) (by kernel_rfl) (by kernel_rfl))
      simp only [List.drop_succ_cons, List.drop_zero, List.take_succ_cons, List.take_zero] at k4
      obtain ⟨d4, y4, e4, p4⟩ := k4
      injection e4 with e4 _
      subst e4
      have k5 := rd35 n _ (typed_field h (i := 5) (ft := 35) (off := 10) (c := 1) (by kernel_rfl) (by kernel_rfl))
      simp only [List.drop_succ_cons, List.drop_zero, List.take_succ_cons, List.take_zero] at k5
      obtain ⟨d5, y5, e5, p5⟩ := k5
      injection e5 with e5 _
      subst e5
      have k6 := rd35 n _ (typed_field h (i := 6) (ft := 35) (off := 11) (c := 1) (by kernel_rfl) (by kernel_rfl))
      simp only [List.drop_succ_cons, List.drop_zero, List.take_succ_cons, List.take_zero] at k6
      obtain ⟨d6, y6, e6, p6⟩ := k6
      injection e6 with e6 _
      subst e6
      exact ⟨⟨d0, d1, d2, d3, d4, d5, d6⟩, ⟨_, _, _, _, _, _, _, _, rfl, p0_0, p0_1, p0_2, p2_0, p3, p4, p5, p6⟩⟩
theorem arg37 (y : AV) (h : ArgT Try.prog 37 y) : ∃ d, IsDump d y := by
  obtain ⟨h1, n, h2⟩ := h
  obtain ⟨cs, rfl⟩ := elem_agg h1 (by kernel_rfl)
  exact rd37 n cs h2
theorem types_plain : plainAll Try.prog [61, 35, 2, 59, 34, 33, 30, 32, 28, 29, 76, 51, 73, 50, 53, 24, 23, 9, 69, 44, 3, 5, 46, 22, 26, 37] = true := by kernel_rfl
end Go.Proofs.W
