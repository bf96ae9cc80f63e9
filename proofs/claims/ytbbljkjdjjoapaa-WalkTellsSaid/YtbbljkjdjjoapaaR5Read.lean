/-
  R5Read.lean: readings (printed by program).
-/
import Derived.Test.YtbbljkjdjjoapaaVr
import Derived.Test.YtbbljkjdjjoapaaDt
import Derived.Test.YtbbljkjdjjoapaaProg
import Derived.KernelRfl
namespace Go.Proofs.W
open Go.Vs
set_option maxRecDepth 100000
set_option linter.unusedVariables false
set_option linter.unusedSimpArgs false
theorem rd5 (n : Nat) (xs : List AV) (h : Typed Try.prog n 5 xs) : ∃ d y, xs = [y] ∧ IsK .u8 d y ∧ inU8 d := by
  cases n with
  | zero => exact absurd h typed_zero
  | succ n => obtain ⟨i, rfl, hw⟩ := typed_int h Try.underlying5; exact ⟨i, _, rfl, rfl, inU8_wf hw⟩
theorem rd3 (n : Nat) (xs : List AV) (h : Typed Try.prog n 3 xs) : ∃ d y, xs = [y] ∧ IsK .i64 d y ∧ in64 d := by
  cases n with
  | zero => exact absurd h typed_zero
  | succ n => obtain ⟨i, rfl, hw⟩ := typed_int h Try.underlying3; exact ⟨i, _, rfl, rfl, in64_wf hw⟩
theorem rd9 (n : Nat) (xs : List AV) (h : Typed Try.prog n 9 xs) : ∃ d y, xs = [y] ∧ IsStr d y ∧ strOk d := by
  cases n with
  | zero => exact absurd h typed_zero
  | succ n => obtain ⟨i, rfl, hw⟩ := typed_str h Try.underlying9; exact ⟨i, _, rfl, rfl, hw⟩
theorem cells53 : Try.prog.cellsOf 53 = 2 := by kernel_rfl
theorem rd53 (n : Nat) (xs : List AV) (h : Typed Try.prog n 53 xs) : ∃ d, IsField d (.agg xs) ∧ WfField d := by
  cases n with
  | zero => exact absurd h typed_zero
  | succ n =>
    have hl := typed_len h (by kernel_rfl) cells53
    match xs, hl with
    | [c0, c1], _ =>
      have k0 := rd9 n _ (typed_field h (i := 0) (ft := 9) (off := 0) (c := 1) (by kernel_rfl) (by kernel_rfl))
      simp only [List.drop_succ_cons, List.drop_zero, List.take_succ_cons, List.take_zero] at k0
      obtain ⟨d0, y0, e0, p0, w0⟩ := k0
      injection e0 with e0 _
      subst e0
      cases p0
      have k1 := rd3 n _ (typed_field h (i := 1) (ft := 3) (off := 1) (c := 1) (by kernel_rfl) (by kernel_rfl))
      simp only [List.drop_succ_cons, List.drop_zero, List.take_succ_cons, List.take_zero] at k1
      obtain ⟨d1, y1, e1, p1, w1⟩ := k1
      injection e1 with e1 _
      subst e1
      cases p1
      exact ⟨⟨d0, d1⟩, rfl, ⟨w0, w1⟩⟩
theorem cells47_53 : Try.prog.cellsOf 53 = 2 := by kernel_rfl
theorem rd47 (n : Nat) (xs : List AV) (h : Typed Try.prog n 47 xs) : ∃ d y, xs = [y] ∧ IsSl IsField 2 d y ∧ ∀ x ∈ d, WfField x := by
  cases n with
  | zero => exact absurd h typed_zero
  | succ n =>
    obtain ⟨d, y, h1, h2⟩ := typed_slice (R := fun d y => IsField d y ∧ WfField d) h Try.underlying47 cells47_53 (fun y h1 h2 => by
      obtain ⟨cs, rfl⟩ := elem_agg h1 (by kernel_rfl)
      exact rd53 n cs h2)
    exact ⟨d, y, h1, isl_split h2⟩
theorem cells59 : Try.prog.cellsOf 59 = 4 := by kernel_rfl
theorem rd59 (n : Nat) (xs : List AV) (h : Typed Try.prog n 59 xs) : ∃ d, IsTyp d (.agg xs) ∧ WfTyp d := by
  cases n with
  | zero => exact absurd h typed_zero
  | succ n =>
    have hl := typed_len h (by kernel_rfl) cells59
    match xs, hl with
    | [c0, c1, c2, c3], _ =>
      have k0 := rd5 n _ (typed_field h (i := 0) (ft := 5) (off := 0) (c := 1) (by kernel_rfl) (by kernel_rfl))
      simp only [List.drop_succ_cons, List.drop_zero, List.take_succ_cons, List.take_zero] at k0
      obtain ⟨d0, y0, e0, p0, w0⟩ := k0
      injection e0 with e0 _
      subst e0
      cases p0
      have k1 := rd3 n _ (typed_field h (i := 1) (ft := 3) (off := 1) (c := 1) (by kernel_rfl) (by kernel_rfl))
      simp only [List.drop_succ_cons, List.drop_zero, List.take_succ_cons, List.take_zero] at k1
      obtain ⟨d1, y1, e1, p1, w1⟩ := k1
      injection e1 with e1 _
      subst e1
      cases p1
      have k2 := rd3 n _ (typed_field h (i := 2) (ft := 3) (off := 2) (c := 1) (by kernel_rfl) (by kernel_rfl))
      simp only [List.drop_succ_cons, List.drop_zero, List.take_succ_cons, List.take_zero] at k2
      obtain ⟨d2, y2, e2, p2, w2⟩ := k2
      injection e2 with e2 _
      subst e2
      cases p2
      have k3 := rd47 n _ (typed_field h (i := 3) (ft := 47) (off := 3) (c := 1) (by kernel_rfl) (by kernel_rfl))
      simp only [List.drop_succ_cons, List.drop_zero, List.take_succ_cons, List.take_zero] at k3
      obtain ⟨d3, y3, e3, p3, w3⟩ := k3
      injection e3 with e3 _
      subst e3
      exact ⟨⟨d0, d1, d2, d3⟩, ⟨_, rfl, p3⟩, ⟨w0, w1, w2, w3⟩⟩
theorem cells22_59 : Try.prog.cellsOf 59 = 4 := by kernel_rfl
theorem rd22 (n : Nat) (xs : List AV) (h : Typed Try.prog n 22 xs) : ∃ d y, xs = [y] ∧ IsSl IsTyp 4 d y ∧ ∀ x ∈ d, WfTyp x := by
  cases n with
  | zero => exact absurd h typed_zero
  | succ n =>
    obtain ⟨d, y, h1, h2⟩ := typed_slice (R := fun d y => IsTyp d y ∧ WfTyp d) h Try.underlying22 cells22_59 (fun y h1 h2 => by
      obtain ⟨cs, rfl⟩ := elem_agg h1 (by kernel_rfl)
      exact rd59 n cs h2)
    exact ⟨d, y, h1, isl_split h2⟩
theorem cells23_9 : Try.prog.cellsOf 9 = 1 := by kernel_rfl
theorem rd23 (n : Nat) (xs : List AV) (h : Typed Try.prog n 23 xs) : ∃ d y, xs = [y] ∧ IsSl IsStr 1 d y ∧ ∀ x ∈ d, strOk x := by
  cases n with
  | zero => exact absurd h typed_zero
  | succ n =>
    obtain ⟨d, y, h1, h2⟩ := typed_slice (R := fun d y => IsStr d y ∧ strOk d) h Try.underlying23 cells23_9 (fun y h1 h2 => by
      have hc := elem_one h1 (by kernel_rfl)
      rw [hc] at h2
      obtain ⟨d, z, e, hd⟩ := rd9 n _ h2
      injection e with e _
      subst e
      exact ⟨d, hd⟩)
    exact ⟨d, y, h1, isl_split h2⟩
theorem cells94 : Try.prog.cellsOf 94 = 4 := by kernel_rfl
theorem rd94 (n : Nat) (xs : List AV) (h : Typed Try.prog n 94 xs) : ∃ d, IsInstr d (.agg xs) ∧ WfInstr d := by
  cases n with
  | zero => exact absurd h typed_zero
  | succ n =>
    have hl := typed_len h (by kernel_rfl) cells94
    match xs, hl with
    | [c0, c1, c2, c3], _ =>
      have k0 := rd5 n _ (typed_field h (i := 0) (ft := 5) (off := 0) (c := 1) (by kernel_rfl) (by kernel_rfl))
      simp only [List.drop_succ_cons, List.drop_zero, List.take_succ_cons, List.take_zero] at k0
      obtain ⟨d0, y0, e0, p0, w0⟩ := k0
      injection e0 with e0 _
      subst e0
      cases p0
      have k1 := rd3 n _ (typed_field h (i := 1) (ft := 3) (off := 1) (c := 1) (by kernel_rfl) (by kernel_rfl))
      simp only [List.drop_succ_cons, List.drop_zero, List.take_succ_cons, List.take_zero] at k1
      obtain ⟨d1, y1, e1, p1, w1⟩ := k1
      injection e1 with e1 _
      subst e1
      cases p1
      have k2 := rd3 n _ (typed_field h (i := 2) (ft := 3) (off := 2) (c := 1) (by kernel_rfl) (by kernel_rfl))
      simp only [List.drop_succ_cons, List.drop_zero, List.take_succ_cons, List.take_zero] at k2
      obtain ⟨d2, y2, e2, p2, w2⟩ := k2
      injection e2 with e2 _
      subst e2
      cases p2
      have k3 := rd3 n _ (typed_field h (i := 3) (ft := 3) (off := 3) (c := 1) (by kernel_rfl) (by kernel_rfl))
      simp only [List.drop_succ_cons, List.drop_zero, List.take_succ_cons, List.take_zero] at k3
      obtain ⟨d3, y3, e3, p3, w3⟩ := k3
      injection e3 with e3 _
      subst e3
      cases p3
      exact ⟨⟨d0, d1, d2, d3⟩, rfl, ⟨w0, w1, w2, w3⟩⟩
theorem cells48_94 : Try.prog.cellsOf 94 = 4 := by kernel_rfl
theorem rd48 (n : Nat) (xs : List AV) (h : Typed Try.prog n 48 xs) : ∃ d y, xs = [y] ∧ IsSl IsInstr 4 d y ∧ ∀ x ∈ d, WfInstr x := by
  cases n with
  | zero => exact absurd h typed_zero
  | succ n =>
    obtain ⟨d, y, h1, h2⟩ := typed_slice (R := fun d y => IsInstr d y ∧ WfInstr d) h Try.underlying48 cells48_94 (fun y h1 h2 => by
      obtain ⟨cs, rfl⟩ := elem_agg h1 (by kernel_rfl)
      exact rd94 n cs h2)
    exact ⟨d, y, h1, isl_split h2⟩
theorem rd27 (n : Nat) (xs : List AV) (h : Typed Try.prog n 27 xs) : ∃ d y, xs = [y] ∧ IsK .u64 d y ∧ inU64 d := by
  cases n with
  | zero => exact absurd h typed_zero
  | succ n => obtain ⟨i, rfl, hw⟩ := typed_int h Try.underlying27; exact ⟨i, _, rfl, rfl, inU64_wf hw⟩
theorem cells69 : Try.prog.cellsOf 69 = 2 := by kernel_rfl
theorem rd69 (n : Nat) (xs : List AV) (h : Typed Try.prog n 69 xs) : ∃ d, IsRun d (.agg xs) ∧ WfRun d := by
  cases n with
  | zero => exact absurd h typed_zero
  | succ n =>
    have hl := typed_len h (by kernel_rfl) cells69
    match xs, hl with
    | [c0, c1], _ =>
      have k0 := rd3 n _ (typed_field h (i := 0) (ft := 3) (off := 0) (c := 1) (by kernel_rfl) (by kernel_rfl))
      simp only [List.drop_succ_cons, List.drop_zero, List.take_succ_cons, List.take_zero] at k0
      obtain ⟨d0, y0, e0, p0, w0⟩ := k0
      injection e0 with e0 _
      subst e0
      cases p0
      have k1 := rd27 n _ (typed_field h (i := 1) (ft := 27) (off := 1) (c := 1) (by kernel_rfl) (by kernel_rfl))
      simp only [List.drop_succ_cons, List.drop_zero, List.take_succ_cons, List.take_zero] at k1
      obtain ⟨d1, y1, e1, p1, w1⟩ := k1
      injection e1 with e1 _
      subst e1
      cases p1
      exact ⟨⟨d0, d1⟩, rfl, ⟨w0, w1⟩⟩
theorem cells49_69 : Try.prog.cellsOf 69 = 2 := by kernel_rfl
theorem rd49 (n : Nat) (xs : List AV) (h : Typed Try.prog n 49 xs) : ∃ d y, xs = [y] ∧ IsSl IsRun 2 d y ∧ ∀ x ∈ d, WfRun x := by
  cases n with
  | zero => exact absurd h typed_zero
  | succ n =>
    obtain ⟨d, y, h1, h2⟩ := typed_slice (R := fun d y => IsRun d y ∧ WfRun d) h Try.underlying49 cells49_69 (fun y h1 h2 => by
      obtain ⟨cs, rfl⟩ := elem_agg h1 (by kernel_rfl)
      exact rd69 n cs h2)
    exact ⟨d, y, h1, isl_split h2⟩
theorem cells51 : Try.prog.cellsOf 51 = 7 := by kernel_rfl
theorem rd51 (n : Nat) (xs : List AV) (h : Typed Try.prog n 51 xs) : ∃ d, IsFunc d (.agg xs) ∧ WfFunc d := by
  cases n with
  | zero => exact absurd h typed_zero
  | succ n =>
    have hl := typed_len h (by kernel_rfl) cells51
    match xs, hl with
    | [c0, c1, c2, c3, c4, c5, c6], _ =>
      have k0 := rd9 n _ (typed_field h (i := 0) (ft := 9) (off := 0) (c := 1) (by kernel_rfl) (by kernel_rfl))
      simp only [List.drop_succ_cons, List.drop_zero, List.take_succ_cons, List.take_zero] at k0
      obtain ⟨d0, y0, e0, p0, w0⟩ := k0
      injection e0 with e0 _
      subst e0
      cases p0
      have k1 := rd3 n _ (typed_field h (i := 1) (ft := 3) (off := 1) (c := 1) (by kernel_rfl) (by kernel_rfl))
      simp only [List.drop_succ_cons, List.drop_zero, List.take_succ_cons, List.take_zero] at k1
      obtain ⟨d1, y1, e1, p1, w1⟩ := k1
      injection e1 with e1 _
      subst e1
      cases p1
      have k2 := rd3 n _ (typed_field h (i := 2) (ft := 3) (off := 2) (c := 1) (by kernel_rfl) (by kernel_rfl))
      simp only [List.drop_succ_cons, List.drop_zero, List.take_succ_cons, List.take_zero] at k2
      obtain ⟨d2, y2, e2, p2, w2⟩ := k2
      injection e2 with e2 _
      subst e2
      cases p2
      have k3 := rd47 n _ (typed_field h (i := 3) (ft := 47) (off := 3) (c := 1) (by kernel_rfl) (by kernel_rfl))
      simp only [List.drop_succ_cons, List.drop_zero, List.take_succ_cons, List.take_zero] at k3
      obtain ⟨d3, y3, e3, p3, w3⟩ := k3
      injection e3 with e3 _
      subst e3
      have k4 := rd48 n _ (typed_field h (i := 4) (ft := 48) (off := 4) (c := 1) (by kernel_rfl) (by kernel_rfl))
      simp only [List.drop_succ_cons, List.drop_zero, List.take_succ_cons, List.take_zero] at k4
      obtain ⟨d4, y4, e4, p4, w4⟩ := k4
      injection e4 with e4 _
      subst e4
      have k5 := rd49 n _ (typed_field h (i := 5) (ft := 49) (off := 5) (c := 1) (by kernel_rfl) (by kernel_rfl))
      simp only [List.drop_succ_cons, List.drop_zero, List.take_succ_cons, List.take_zero] at k5
      obtain ⟨d5, y5, e5, p5, w5⟩ := k5
      injection e5 with e5 _
      subst e5
      have k6 := rd49 n _ (typed_field h (i := 6) (ft := 49) (off := 6) (c := 1) (by kernel_rfl) (by kernel_rfl))
      simp only [List.drop_succ_cons, List.drop_zero, List.take_succ_cons, List.take_zero] at k6
      obtain ⟨d6, y6, e6, p6, w6⟩ := k6
      injection e6 with e6 _
      subst e6
      exact ⟨⟨d0, d1, d2, d3, d4, d5, d6⟩, ⟨_, _, _, _, rfl, p3, p4, p5, p6⟩, ⟨w0, w1, w2, w3, w4, w5, w6⟩⟩
theorem cells24_51 : Try.prog.cellsOf 51 = 7 := by kernel_rfl
theorem rd24 (n : Nat) (xs : List AV) (h : Typed Try.prog n 24 xs) : ∃ d y, xs = [y] ∧ IsSl IsFunc 7 d y ∧ ∀ x ∈ d, WfFunc x := by
  cases n with
  | zero => exact absurd h typed_zero
  | succ n =>
    obtain ⟨d, y, h1, h2⟩ := typed_slice (R := fun d y => IsFunc d y ∧ WfFunc d) h Try.underlying24 cells24_51 (fun y h1 h2 => by
      obtain ⟨cs, rfl⟩ := elem_agg h1 (by kernel_rfl)
      exact rd51 n cs h2)
    exact ⟨d, y, h1, isl_split h2⟩
theorem cells26 : Try.prog.cellsOf 26 = 3 := by kernel_rfl
theorem rd26 (n : Nat) (xs : List AV) (h : Typed Try.prog n 26 xs) : ∃ d, IsImage d (.agg xs) ∧ WfImage d := by
  cases n with
  | zero => exact absurd h typed_zero
  | succ n =>
    have hl := typed_len h (by kernel_rfl) cells26
    match xs, hl with
    | [c0, c1, c2], _ =>
      have k0 := rd22 n _ (typed_field h (i := 0) (ft := 22) (off := 0) (c := 1) (by kernel_rfl) (by kernel_rfl))
      simp only [List.drop_succ_cons, List.drop_zero, List.take_succ_cons, List.take_zero] at k0
      obtain ⟨d0, y0, e0, p0, w0⟩ := k0
      injection e0 with e0 _
      subst e0
      have k1 := rd23 n _ (typed_field h (i := 1) (ft := 23) (off := 1) (c := 1) (by kernel_rfl) (by kernel_rfl))
      simp only [List.drop_succ_cons, List.drop_zero, List.take_succ_cons, List.take_zero] at k1
      obtain ⟨d1, y1, e1, p1, w1⟩ := k1
      injection e1 with e1 _
      subst e1
      have k2 := rd24 n _ (typed_field h (i := 2) (ft := 24) (off := 2) (c := 1) (by kernel_rfl) (by kernel_rfl))
      simp only [List.drop_succ_cons, List.drop_zero, List.take_succ_cons, List.take_zero] at k2
      obtain ⟨d2, y2, e2, p2, w2⟩ := k2
      injection e2 with e2 _
      subst e2
      exact ⟨⟨d0, d1, d2⟩, ⟨_, _, _, rfl, p0, p1, p2⟩, ⟨w0, w1, w2⟩⟩
theorem arg26 (y : AV) (h : ArgT Try.prog 26 y) : ∃ d, IsImage d y ∧ WfImage d := by
  obtain ⟨h1, n, h2⟩ := h
  obtain ⟨cs, rfl⟩ := elem_agg h1 (by kernel_rfl)
  exact rd26 n cs h2
theorem cells30 : Try.prog.cellsOf 30 = 8 := by kernel_rfl
theorem rd30 (n : Nat) (xs : List AV) (h : Typed Try.prog n 30 xs) : ∃ d, IsFrame d (.agg xs) ∧ WfFrame d := by
  cases n with
  | zero => exact absurd h typed_zero
  | succ n =>
    have hl := typed_len h (by kernel_rfl) cells30
    match xs, hl with
    | [c0, c1, c2, c3, c4, c5, c6, c7], _ =>
      have k0 := rd27 n _ (typed_field h (i := 0) (ft := 27) (off := 0) (c := 1) (by kernel_rfl) (by kernel_rfl))
      simp only [List.drop_succ_cons, List.drop_zero, List.take_succ_cons, List.take_zero] at k0
      obtain ⟨d0, y0, e0, p0, w0⟩ := k0
      injection e0 with e0 _
      subst e0
      cases p0
      have k1 := rd3 n _ (typed_field h (i := 1) (ft := 3) (off := 1) (c := 1) (by kernel_rfl) (by kernel_rfl))
      simp only [List.drop_succ_cons, List.drop_zero, List.take_succ_cons, List.take_zero] at k1
      obtain ⟨d1, y1, e1, p1, w1⟩ := k1
      injection e1 with e1 _
      subst e1
      cases p1
      have k2 := rd3 n _ (typed_field h (i := 2) (ft := 3) (off := 2) (c := 1) (by kernel_rfl) (by kernel_rfl))
      simp only [List.drop_succ_cons, List.drop_zero, List.take_succ_cons, List.take_zero] at k2
      obtain ⟨d2, y2, e2, p2, w2⟩ := k2
      injection e2 with e2 _
      subst e2
      cases p2
      have k3 := rd27 n _ (typed_field h (i := 3) (ft := 27) (off := 3) (c := 1) (by kernel_rfl) (by kernel_rfl))
      simp only [List.drop_succ_cons, List.drop_zero, List.take_succ_cons, List.take_zero] at k3
      obtain ⟨d3, y3, e3, p3, w3⟩ := k3
      injection e3 with e3 _
      subst e3
      cases p3
      have k4 := rd3 n _ (typed_field h (i := 4) (ft := 3) (off := 4) (c := 1) (by kernel_rfl) (by kernel_rfl))
      simp only [List.drop_succ_cons, List.drop_zero, List.take_succ_cons, List.take_zero] at k4
      obtain ⟨d4, y4, e4, p4, w4⟩ := k4
      injection e4 with e4 _
      subst e4
      cases p4
      have k5 := rd27 n _ (typed_field h (i := 5) (ft := 27) (off := 5) (c := 1) (by kernel_rfl) (by kernel_rfl))
      simp only [List.drop_succ_cons, List.drop_zero, List.take_succ_cons, List.take_zero] at k5
      obtain ⟨d5, y5, e5, p5, w5⟩ := k5
      injection e5 with e5 _
      subst e5
      cases p5
      have k6 := rd27 n _ (typed_field h (i := 6) (ft := 27) (off := 6) (c := 1) (by kernel_rfl) (by kernel_rfl))
      simp only [List.drop_succ_cons, List.drop_zero, List.take_succ_cons, List.take_zero] at k6
      obtain ⟨d6, y6, e6, p6, w6⟩ := k6
      injection e6 with e6 _
      subst e6
      cases p6
      have k7 := rd27 n _ (typed_field h (i := 7) (ft := 27) (off := 7) (c := 1) (by kernel_rfl) (by kernel_rfl))
      simp only [List.drop_succ_cons, List.drop_zero, List.take_succ_cons, List.take_zero] at k7
      obtain ⟨d7, y7, e7, p7, w7⟩ := k7
      injection e7 with e7 _
      subst e7
      cases p7
      exact ⟨⟨d0, d1, d2, d3, d4, d5, d6, d7⟩, rfl, ⟨w0, w1, w2, w3, w4, w5, w6, w7⟩⟩
theorem cells28_30 : Try.prog.cellsOf 30 = 8 := by kernel_rfl
theorem rd28 (n : Nat) (xs : List AV) (h : Typed Try.prog n 28 xs) : ∃ d y, xs = [y] ∧ IsSl IsFrame 8 d y ∧ ∀ x ∈ d, WfFrame x := by
  cases n with
  | zero => exact absurd h typed_zero
  | succ n =>
    obtain ⟨d, y, h1, h2⟩ := typed_slice (R := fun d y => IsFrame d y ∧ WfFrame d) h Try.underlying28 cells28_30 (fun y h1 h2 => by
      obtain ⟨cs, rfl⟩ := elem_agg h1 (by kernel_rfl)
      exact rd30 n cs h2)
    exact ⟨d, y, h1, isl_split h2⟩
theorem arg30 (y : AV) (h : ArgT Try.prog 30 y) : ∃ d, IsFrame d y ∧ WfFrame d := by
  obtain ⟨h1, n, h2⟩ := h
  obtain ⟨cs, rfl⟩ := elem_agg h1 (by kernel_rfl)
  exact rd30 n cs h2
theorem types_plain : plainAll Try.prog [30, 28, 27, 69, 49, 94, 48, 51, 24, 23, 9, 53, 47, 3, 5, 59, 22, 26] = true := by kernel_rfl
end Go.Proofs.W
