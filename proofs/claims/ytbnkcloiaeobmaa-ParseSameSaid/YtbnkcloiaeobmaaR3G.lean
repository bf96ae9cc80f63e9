/-
  R3G
-/
import Derived.Test.YtbnkcloiaeobmaaR3F
namespace Go.Proofs.W
open Go.Vs
set_option linter.unusedSimpArgs false
set_option maxRecDepth 100000

theorem w_wreckageref28_Great (h : DRegion) (l : List DRegion) (r : List DRoutine) (x y z : AV) (hx : IsRegion h x) (hy : IsSl IsRegion 2 l y) (hz : IsSl IsRoutine 6 r z) (m : Mem) :
    Okv tab F_wreckageref28_Great [x, y, z] m (.bool (decide (20 < r.length) || decide (20 < l.length) || greatL 20 20000 40000 ((h :: l).map DRegion.bytes))) := by
  refine okv_of t_wreckageref28_Great ?_
  obtain ⟨stk, cur, nx, live, fl⟩ := m
  obtain ⟨hb, hbs⟩ := h
  obtain ⟨v, rfl, hv⟩ := hx
  dsimp only at hv
  simp only [a_wreckageref28_Great, go_sem, reduceIte, reduceCtorEq, Nat.reduceAdd, Nat.reduceSub, Nat.reduceEqDiff, Nat.reduceLeDiff, Nat.reduceBEq, Nat.reduceLT, hz.len]
  by_cases c1 : (r.length : Int) > 20
  · simp only [go_sem, reduceIte, reduceCtorEq, Nat.reduceAdd, Nat.reduceSub, Nat.reduceEqDiff, Nat.reduceLeDiff, Nat.reduceBEq, Nat.reduceLT, c1]
    rw [leave_plain rfl rfl, Opt_some]
    exact ⟨⟨_, rfl⟩, by simp [show 20 < r.length by omega]⟩
  simp only [go_sem, reduceIte, reduceCtorEq, Nat.reduceAdd, Nat.reduceSub, Nat.reduceEqDiff, Nat.reduceLeDiff, Nat.reduceBEq, Nat.reduceLT, c1, hy.len]
  by_cases c2 : (l.length : Int) > 20
  · simp only [go_sem, reduceIte, reduceCtorEq, Nat.reduceAdd, Nat.reduceSub, Nat.reduceEqDiff, Nat.reduceLeDiff, Nat.reduceBEq, Nat.reduceLT, c2]
    rw [leave_plain rfl rfl, Opt_some]
    exact ⟨⟨_, rfl⟩, by simp [show 20 < l.length by omega]⟩
  have e1 : decide (20 < r.length) = false := by simp; omega
  have e2 : decide (20 < l.length) = false := by simp; omega
  have hR : IsRegion ⟨hb, hbs⟩ (.agg [.int .u64 hb, v]) := ⟨v, rfl, hv⟩
  obtain ⟨ys, hel, hall⟩ := hy.elems_any
  have happ : IsSl IsRegion 2 (⟨hb, hbs⟩ :: l) (.list 2 .full (.agg [.int .u64 hb, v] :: ys)) := .mk ⟨hR, hall⟩ (by simp; omega)
  have happ' : ∀ t, IsSl IsRegion 2 (⟨hb, hbs⟩ :: l) (.list 2 t (.agg [.int .u64 hb, v] :: ys)) := fun t => .mk ⟨hR, hall⟩ (by simp; omega)
  have hyl := hall.len
  obtain ⟨K, hK⟩ := Okv.all (w_wreckageref26_Great _ _ happ)
  simp only [go_sem, reduceIte, reduceCtorEq, Nat.reduceAdd, Nat.reduceSub, Nat.reduceEqDiff, Nat.reduceLeDiff, Nat.reduceBEq, Nat.reduceLT, c2, allLen, evApp, hel, hv.one]
  cases ys with
  | nil =>
    simp only [go_sem, reduceIte, reduceCtorEq, Nat.reduceAdd, Nat.reduceSub, Nat.reduceEqDiff, Nat.reduceLeDiff, Nat.reduceBEq, Nat.reduceLT, hK]
    rw [leave_plain rfl rfl, Opt_some]
    exact ⟨⟨_, rfl⟩, by rw [e1, e2]; rfl⟩
  | cons y0 yr =>
    have hc : (1 + (yr.length + 1)) * 32 ≤ 140737488355328 := by simp at hyl; omega
    simp only [go_sem, reduceIte, reduceCtorEq, Nat.reduceAdd, Nat.reduceSub, Nat.reduceEqDiff, Nat.reduceLeDiff, Nat.reduceBEq, Nat.reduceLT, hc]
    obtain ⟨K, hK⟩ := Okv.all (w_wreckageref26_Great _ _ (happ' (.id (nx + 1))))
    simp only [go_sem, reduceIte, reduceCtorEq, Nat.reduceAdd, Nat.reduceSub, Nat.reduceEqDiff, Nat.reduceLeDiff, Nat.reduceBEq, Nat.reduceLT, hK]
    rw [leave_plain rfl rfl, Opt_some]
    exact ⟨⟨_, rfl⟩, by rw [e1, e2]; rfl⟩

/-- A dump is large. -/
def large (d : DDump) : Bool := decide (20 < d.routines.length) || decide (20 < d.stacks.length) || greatL 20 20000 40000 ((d.heap :: d.stacks).map DRegion.bytes) || greatL 20 420 1000 d.defers || greatL 20 420 1000 d.panics || great09 d.image

theorem w_wreckageref28_Large (d : DDump) (x : AV) (hx : IsDump d x) (m : Mem) : Okv tab F_wreckageref28_Large [x] m (.bool (large d)) := by
  refine okv_of t_wreckageref28_Large ?_
  obtain ⟨stk, cur, nx, live, fl⟩ := m
  obtain ⟨⟨ty, te, fu⟩, ⟨oc, fa, st⟩, ⟨hb, hbs⟩, sk, ro, de, pa⟩ := d
  obtain ⟨v0, v1, v2, v3, v4, v5, v6, v7, rfl, h0, h1, h2, h3, h4, h5, h6, h7⟩ := hx
  dsimp only at h0 h1 h2 h3 h4 h5 h6 h7
  obtain ⟨K1, hK1⟩ := Okv.all (w_wreckageref28_Great ⟨hb, hbs⟩ sk ro _ _ _ ⟨v3, rfl, h3⟩ h4 h5)
  obtain ⟨K2, hK2⟩ := Okv.all (w_wreckageref27_Great _ _ h6)
  obtain ⟨K3, hK3⟩ := Okv.all (w_wreckageref27_Great _ _ h7)
  obtain ⟨K4, hK4⟩ := Okv.all (w_wreckageref09_Great ⟨ty, te, fu⟩ _ ⟨v0, v1, v2, rfl, h0, h1, h2⟩)
  have e : large ⟨⟨ty, te, fu⟩, ⟨oc, fa, st⟩, ⟨hb, hbs⟩, sk, ro, de, pa⟩ = ((decide (20 < ro.length) || decide (20 < sk.length) || greatL 20 20000 40000 ((⟨hb, hbs⟩ :: sk).map DRegion.bytes)) || greatL 20 420 1000 de || greatL 20 420 1000 pa || great09 ⟨ty, te, fu⟩) := rfl
  rw [e]
  generalize hg1 : (decide (20 < ro.length) || decide (20 < sk.length) || greatL 20 20000 40000 ((⟨hb, hbs⟩ :: sk).map DRegion.bytes)) = g1 at hK1 ⊢
  generalize greatL 20 420 1000 de = g2 at hK2 ⊢
  generalize greatL 20 420 1000 pa = g3 at hK3 ⊢
  generalize great09 ⟨ty, te, fu⟩ = g4 at hK4 ⊢
  simp only [a_wreckageref28_Large, go_sem, reduceIte, reduceCtorEq, Nat.reduceAdd, Nat.reduceSub, Nat.reduceEqDiff, Nat.reduceLeDiff, Nat.reduceBEq, Nat.reduceLT, hK1]
  cases g1
  case true =>
    simp only [go_sem, reduceIte, reduceCtorEq, Nat.reduceAdd, Nat.reduceSub, Nat.reduceEqDiff, Nat.reduceLeDiff, Nat.reduceBEq, Nat.reduceLT]
    rw [leave_plain rfl rfl, Opt_some]
    exact ⟨⟨_, rfl⟩, rfl⟩
  simp only [go_sem, reduceIte, reduceCtorEq, Nat.reduceAdd, Nat.reduceSub, Nat.reduceEqDiff, Nat.reduceLeDiff, Nat.reduceBEq, Nat.reduceLT, hK2]
  cases g2
  case true =>
    simp only [go_sem, reduceIte, reduceCtorEq, Nat.reduceAdd, Nat.reduceSub, Nat.reduceEqDiff, Nat.reduceLeDiff, Nat.reduceBEq, Nat.reduceLT]
    rw [leave_plain rfl rfl, Opt_some]
    exact ⟨⟨_, rfl⟩, rfl⟩
  simp only [go_sem, reduceIte, reduceCtorEq, Nat.reduceAdd, Nat.reduceSub, Nat.reduceEqDiff, Nat.reduceLeDiff, Nat.reduceBEq, Nat.reduceLT, hK3]
  cases g3
  case true =>
    simp only [go_sem, reduceIte, reduceCtorEq, Nat.reduceAdd, Nat.reduceSub, Nat.reduceEqDiff, Nat.reduceLeDiff, Nat.reduceBEq, Nat.reduceLT]
    rw [leave_plain rfl rfl, Opt_some]
    exact ⟨⟨_, rfl⟩, rfl⟩
  simp only [go_sem, reduceIte, reduceCtorEq, Nat.reduceAdd, Nat.reduceSub, Nat.reduceEqDiff, Nat.reduceLeDiff, Nat.reduceBEq, Nat.reduceLT, hK4]
  rw [leave_plain rfl rfl, Opt_some]
  exact ⟨⟨_, rfl⟩, rfl⟩

set_option maxHeartbeats 2000000 in
theorem w_parse_Same (a b : DDump) (x y : AV) (hx : IsDump a x) (hy : IsDump b y) (m : Mem) : Okv tab F_parse_Same [x, y] m (.bool (decide (a = b))) := by
  refine okv_of t_parse_Same ?_
  obtain ⟨stk, cur, nx, live, fl⟩ := m
  obtain ⟨⟨tya, tea, fua⟩, ⟨oca, faa, sta⟩, ⟨hba, hbsa⟩, ska, roa, dea, paa⟩ := a
  obtain ⟨x0, x1, x2, x3, x4, x5, x6, x7, rfl, hx0, hx1, hx2, hx3, hx4, hx5, hx6, hx7⟩ := hx
  dsimp only at hx0 hx1 hx2 hx3 hx4 hx5 hx6 hx7
  obtain ⟨⟨tyb, teb, fub⟩, ⟨ocb, fab, stb⟩, ⟨hbb, hbsb⟩, skb, rob, deb, pab⟩ := b
  obtain ⟨y0, y1, y2, y3, y4, y5, y6, y7, rfl, hy0, hy1, hy2, hy3, hy4, hy5, hy6, hy7⟩ := hy
  dsimp only at hy0 hy1 hy2 hy3 hy4 hy5 hy6 hy7
  simp only [a_parse_Same, go_sem, reduceIte, reduceCtorEq, Nat.reduceAdd, Nat.reduceSub, Nat.reduceEqDiff, Nat.reduceLeDiff, Nat.reduceBEq, Nat.reduceLT, DDump.mk.injEq, DImage.mk.injEq, DEnded.mk.injEq, DRegion.mk.injEq]
  obtain ⟨K0, hK0⟩ := Okv.all (w_slices_EqualFunc_api_Type_api_Type_api_Type_api_Type _ _ _ _ hx0 hy0)
  simp only [go_sem, reduceIte, reduceCtorEq, Nat.reduceAdd, Nat.reduceSub, Nat.reduceEqDiff, Nat.reduceLeDiff, Nat.reduceBEq, Nat.reduceLT, hK0]
  by_cases c0 : tya = tyb
  case neg =>
    simp only [go_sem, reduceIte, reduceCtorEq, Nat.reduceAdd, Nat.reduceSub, Nat.reduceEqDiff, Nat.reduceLeDiff, Nat.reduceBEq, Nat.reduceLT, c0]
    rw [leave_plain rfl rfl, Opt_some]
    exact ⟨⟨_, rfl⟩, by simp [c0]⟩
  subst c0
  simp only [go_sem, reduceIte, reduceCtorEq, Nat.reduceAdd, Nat.reduceSub, Nat.reduceEqDiff, Nat.reduceLeDiff, Nat.reduceBEq, Nat.reduceLT]
  obtain ⟨K1, hK1⟩ := Okv.all (w_slices_Equal_string_string _ _ _ _ hx1 hy1)
  simp only [go_sem, reduceIte, reduceCtorEq, Nat.reduceAdd, Nat.reduceSub, Nat.reduceEqDiff, Nat.reduceLeDiff, Nat.reduceBEq, Nat.reduceLT, hK1]
  by_cases c1 : tea = teb
  case neg =>
    simp only [go_sem, reduceIte, reduceCtorEq, Nat.reduceAdd, Nat.reduceSub, Nat.reduceEqDiff, Nat.reduceLeDiff, Nat.reduceBEq, Nat.reduceLT, c1]
    rw [leave_plain rfl rfl, Opt_some]
    exact ⟨⟨_, rfl⟩, by simp [c1]⟩
  subst c1
  simp only [go_sem, reduceIte, reduceCtorEq, Nat.reduceAdd, Nat.reduceSub, Nat.reduceEqDiff, Nat.reduceLeDiff, Nat.reduceBEq, Nat.reduceLT]
  obtain ⟨K2, hK2⟩ := Okv.all (w_slices_EqualFunc_api_Func_api_Func_api_Func_api_Func _ _ _ _ hx2 hy2)
  simp only [go_sem, reduceIte, reduceCtorEq, Nat.reduceAdd, Nat.reduceSub, Nat.reduceEqDiff, Nat.reduceLeDiff, Nat.reduceBEq, Nat.reduceLT, hK2]
  by_cases c2 : fua = fub
  case neg =>
    simp only [go_sem, reduceIte, reduceCtorEq, Nat.reduceAdd, Nat.reduceSub, Nat.reduceEqDiff, Nat.reduceLeDiff, Nat.reduceBEq, Nat.reduceLT, c2]
    rw [leave_plain rfl rfl, Opt_some]
    exact ⟨⟨_, rfl⟩, by simp [c2]⟩
  subst c2
  simp only [go_sem, reduceIte, reduceCtorEq, Nat.reduceAdd, Nat.reduceSub, Nat.reduceEqDiff, Nat.reduceLeDiff, Nat.reduceBEq, Nat.reduceLT]
  have q := eq_DEnded ⟨oca, faa, sta⟩ ⟨ocb, fab, stb⟩
  dsimp only at q
  simp only [go_sem, reduceIte, reduceCtorEq, Nat.reduceAdd, Nat.reduceSub, Nat.reduceEqDiff, Nat.reduceLeDiff, Nat.reduceBEq, Nat.reduceLT, q]
  by_cases c3 : (⟨oca, faa, sta⟩ : DEnded) = ⟨ocb, fab, stb⟩
  case neg =>
    simp only [go_sem, reduceIte, reduceCtorEq, Nat.reduceAdd, Nat.reduceSub, Nat.reduceEqDiff, Nat.reduceLeDiff, Nat.reduceBEq, Nat.reduceLT, c3]
    rw [leave_plain rfl rfl, Opt_some]
    exact ⟨⟨_, rfl⟩, by simp only [DEnded.mk.injEq] at c3; simp [c3]⟩
  obtain ⟨rfl, rfl, rfl⟩ := (DEnded.mk.injEq ..).mp c3
  simp only [go_sem, reduceIte, reduceCtorEq, Nat.reduceAdd, Nat.reduceSub, Nat.reduceEqDiff, Nat.reduceLeDiff, Nat.reduceBEq, Nat.reduceLT]
  obtain ⟨K4, hK4⟩ := Okv.all (w_parse_sameRegion ⟨hba, hbsa⟩ ⟨hbb, hbsb⟩ _ _ ⟨_, rfl, hx3⟩ ⟨_, rfl, hy3⟩)
  simp only [go_sem, reduceIte, reduceCtorEq, Nat.reduceAdd, Nat.reduceSub, Nat.reduceEqDiff, Nat.reduceLeDiff, Nat.reduceBEq, Nat.reduceLT, hK4]
  by_cases c4 : (⟨hba, hbsa⟩ : DRegion) = ⟨hbb, hbsb⟩
  case neg =>
    simp only [go_sem, reduceIte, reduceCtorEq, Nat.reduceAdd, Nat.reduceSub, Nat.reduceEqDiff, Nat.reduceLeDiff, Nat.reduceBEq, Nat.reduceLT, c4]
    rw [leave_plain rfl rfl, Opt_some]
    exact ⟨⟨_, rfl⟩, by simp only [DRegion.mk.injEq] at c4; simp [c4]⟩
  obtain ⟨rfl, rfl⟩ := (DRegion.mk.injEq ..).mp c4
  simp only [go_sem, reduceIte, reduceCtorEq, Nat.reduceAdd, Nat.reduceSub, Nat.reduceEqDiff, Nat.reduceLeDiff, Nat.reduceBEq, Nat.reduceLT]
  obtain ⟨K5, hK5⟩ := Okv.all (w_slices_EqualFunc_api_Region_api_Region_api_Region_api_Region _ _ _ _ hx4 hy4)
  simp only [go_sem, reduceIte, reduceCtorEq, Nat.reduceAdd, Nat.reduceSub, Nat.reduceEqDiff, Nat.reduceLeDiff, Nat.reduceBEq, Nat.reduceLT, hK5]
  by_cases c5 : ska = skb
  case neg =>
    simp only [go_sem, reduceIte, reduceCtorEq, Nat.reduceAdd, Nat.reduceSub, Nat.reduceEqDiff, Nat.reduceLeDiff, Nat.reduceBEq, Nat.reduceLT, c5]
    rw [leave_plain rfl rfl, Opt_some]
    exact ⟨⟨_, rfl⟩, by simp [c5]⟩
  subst c5
  simp only [go_sem, reduceIte, reduceCtorEq, Nat.reduceAdd, Nat.reduceSub, Nat.reduceEqDiff, Nat.reduceLeDiff, Nat.reduceBEq, Nat.reduceLT]
  obtain ⟨K6, hK6⟩ := Okv.all (w_slices_Equal_api_Routine_api_Routine _ _ _ _ hx5 hy5)
  simp only [go_sem, reduceIte, reduceCtorEq, Nat.reduceAdd, Nat.reduceSub, Nat.reduceEqDiff, Nat.reduceLeDiff, Nat.reduceBEq, Nat.reduceLT, hK6]
  by_cases c6 : roa = rob
  case neg =>
    simp only [go_sem, reduceIte, reduceCtorEq, Nat.reduceAdd, Nat.reduceSub, Nat.reduceEqDiff, Nat.reduceLeDiff, Nat.reduceBEq, Nat.reduceLT, c6]
    rw [leave_plain rfl rfl, Opt_some]
    exact ⟨⟨_, rfl⟩, by simp [c6]⟩
  subst c6
  simp only [go_sem, reduceIte, reduceCtorEq, Nat.reduceAdd, Nat.reduceSub, Nat.reduceEqDiff, Nat.reduceLeDiff, Nat.reduceBEq, Nat.reduceLT]
  obtain ⟨K7, hK7⟩ := Okv.all (w_slices_EqualFunc_uint64_uint64_uint64_uint64 _ _ _ _ hx6 hy6)
  simp only [go_sem, reduceIte, reduceCtorEq, Nat.reduceAdd, Nat.reduceSub, Nat.reduceEqDiff, Nat.reduceLeDiff, Nat.reduceBEq, Nat.reduceLT, hK7]
  by_cases c7 : dea = deb
  case neg =>
    simp only [go_sem, reduceIte, reduceCtorEq, Nat.reduceAdd, Nat.reduceSub, Nat.reduceEqDiff, Nat.reduceLeDiff, Nat.reduceBEq, Nat.reduceLT, c7]
    rw [leave_plain rfl rfl, Opt_some]
    exact ⟨⟨_, rfl⟩, by simp [c7]⟩
  subst c7
  simp only [go_sem, reduceIte, reduceCtorEq, Nat.reduceAdd, Nat.reduceSub, Nat.reduceEqDiff, Nat.reduceLeDiff, Nat.reduceBEq, Nat.reduceLT]
  obtain ⟨K8, hK8⟩ := Okv.all (w_slices_EqualFunc_uint64_uint64_uint64_uint64 _ _ _ _ hx7 hy7)
  simp only [go_sem, reduceIte, reduceCtorEq, Nat.reduceAdd, Nat.reduceSub, Nat.reduceEqDiff, Nat.reduceLeDiff, Nat.reduceBEq, Nat.reduceLT, hK8]
  by_cases c8 : paa = pab
  case neg =>
    simp only [go_sem, reduceIte, reduceCtorEq, Nat.reduceAdd, Nat.reduceSub, Nat.reduceEqDiff, Nat.reduceLeDiff, Nat.reduceBEq, Nat.reduceLT, c8]
    rw [leave_plain rfl rfl, Opt_some]
    exact ⟨⟨_, rfl⟩, by simp [c8]⟩
  subst c8
  simp only [go_sem, reduceIte, reduceCtorEq, Nat.reduceAdd, Nat.reduceSub, Nat.reduceEqDiff, Nat.reduceLeDiff, Nat.reduceBEq, Nat.reduceLT]
  rw [leave_plain rfl rfl, Opt_some]
  exact ⟨⟨_, rfl⟩, by simp⟩

set_option maxHeartbeats 2000000 in
theorem w_wreckageref28_Same (a b : DDump) (x y : AV) (hx : IsDump a x) (hy : IsDump b y) (m : Mem) : Okv tab F_wreckageref28_Same [x, y] m (.bool (decide (a = b))) := by
  refine okv_of t_wreckageref28_Same ?_
  obtain ⟨stk, cur, nx, live, fl⟩ := m
  obtain ⟨⟨tya, tea, fua⟩, ⟨oca, faa, sta⟩, ⟨hba, hbsa⟩, ska, roa, dea, paa⟩ := a
  obtain ⟨x0, x1, x2, x3, x4, x5, x6, x7, rfl, hx0, hx1, hx2, hx3, hx4, hx5, hx6, hx7⟩ := hx
  dsimp only at hx0 hx1 hx2 hx3 hx4 hx5 hx6 hx7
  obtain ⟨⟨tyb, teb, fub⟩, ⟨ocb, fab, stb⟩, ⟨hbb, hbsb⟩, skb, rob, deb, pab⟩ := b
  obtain ⟨y0, y1, y2, y3, y4, y5, y6, y7, rfl, hy0, hy1, hy2, hy3, hy4, hy5, hy6, hy7⟩ := hy
  dsimp only at hy0 hy1 hy2 hy3 hy4 hy5 hy6 hy7
  simp only [a_wreckageref28_Same, go_sem, reduceIte, reduceCtorEq, Nat.reduceAdd, Nat.reduceSub, Nat.reduceEqDiff, Nat.reduceLeDiff, Nat.reduceBEq, Nat.reduceLT, DDump.mk.injEq, DImage.mk.injEq, DEnded.mk.injEq, DRegion.mk.injEq]
  obtain ⟨K0, hK0⟩ := Okv.all (w_wreckageref09_Same ⟨tya, tea, fua⟩ ⟨tyb, teb, fub⟩ _ _ ⟨_, _, _, rfl, hx0, hx1, hx2⟩ ⟨_, _, _, rfl, hy0, hy1, hy2⟩)
  simp only [go_sem, reduceIte, reduceCtorEq, Nat.reduceAdd, Nat.reduceSub, Nat.reduceEqDiff, Nat.reduceLeDiff, Nat.reduceBEq, Nat.reduceLT, hK0]
  by_cases c0 : (⟨tya, tea, fua⟩ : DImage) = ⟨tyb, teb, fub⟩
  case neg =>
    simp only [go_sem, reduceIte, reduceCtorEq, Nat.reduceAdd, Nat.reduceSub, Nat.reduceEqDiff, Nat.reduceLeDiff, Nat.reduceBEq, Nat.reduceLT, c0]
    rw [leave_plain rfl rfl, Opt_some]
    exact ⟨⟨_, rfl⟩, by simp only [DImage.mk.injEq] at c0; simp [c0]⟩
  obtain ⟨rfl, rfl, rfl⟩ := (DImage.mk.injEq ..).mp c0
  simp only [go_sem, reduceIte, reduceCtorEq, Nat.reduceAdd, Nat.reduceSub, Nat.reduceEqDiff, Nat.reduceLeDiff, Nat.reduceBEq, Nat.reduceLT]
  have q := eq_DEnded ⟨oca, faa, sta⟩ ⟨ocb, fab, stb⟩
  dsimp only at q
  simp only [go_sem, reduceIte, reduceCtorEq, Nat.reduceAdd, Nat.reduceSub, Nat.reduceEqDiff, Nat.reduceLeDiff, Nat.reduceBEq, Nat.reduceLT, q]
  by_cases c1 : (⟨oca, faa, sta⟩ : DEnded) = ⟨ocb, fab, stb⟩
  case neg =>
    simp only [go_sem, reduceIte, reduceCtorEq, Nat.reduceAdd, Nat.reduceSub, Nat.reduceEqDiff, Nat.reduceLeDiff, Nat.reduceBEq, Nat.reduceLT, c1]
    rw [leave_plain rfl rfl, Opt_some]
    exact ⟨⟨_, rfl⟩, by simp only [DEnded.mk.injEq] at c1; simp [c1]⟩
  obtain ⟨rfl, rfl, rfl⟩ := (DEnded.mk.injEq ..).mp c1
  simp only [go_sem, reduceIte, reduceCtorEq, Nat.reduceAdd, Nat.reduceSub, Nat.reduceEqDiff, Nat.reduceLeDiff, Nat.reduceBEq, Nat.reduceLT]
  obtain ⟨K2, hK2⟩ := Okv.all (w_wreckageref26_SameRegion ⟨hba, hbsa⟩ ⟨hbb, hbsb⟩ _ _ ⟨_, rfl, hx3⟩ ⟨_, rfl, hy3⟩)
  simp only [go_sem, reduceIte, reduceCtorEq, Nat.reduceAdd, Nat.reduceSub, Nat.reduceEqDiff, Nat.reduceLeDiff, Nat.reduceBEq, Nat.reduceLT, hK2]
  by_cases c2 : (⟨hba, hbsa⟩ : DRegion) = ⟨hbb, hbsb⟩
  case neg =>
    simp only [go_sem, reduceIte, reduceCtorEq, Nat.reduceAdd, Nat.reduceSub, Nat.reduceEqDiff, Nat.reduceLeDiff, Nat.reduceBEq, Nat.reduceLT, c2]
    rw [leave_plain rfl rfl, Opt_some]
    exact ⟨⟨_, rfl⟩, by simp only [DRegion.mk.injEq] at c2; simp [c2]⟩
  obtain ⟨rfl, rfl⟩ := (DRegion.mk.injEq ..).mp c2
  simp only [go_sem, reduceIte, reduceCtorEq, Nat.reduceAdd, Nat.reduceSub, Nat.reduceEqDiff, Nat.reduceLeDiff, Nat.reduceBEq, Nat.reduceLT]
  obtain ⟨K3, hK3⟩ := Okv.all (w_wreckageref26_SameRegions _ _ _ _ hx4 hy4)
  simp only [go_sem, reduceIte, reduceCtorEq, Nat.reduceAdd, Nat.reduceSub, Nat.reduceEqDiff, Nat.reduceLeDiff, Nat.reduceBEq, Nat.reduceLT, hK3]
  by_cases c3 : ska = skb
  case neg =>
    simp only [go_sem, reduceIte, reduceCtorEq, Nat.reduceAdd, Nat.reduceSub, Nat.reduceEqDiff, Nat.reduceLeDiff, Nat.reduceBEq, Nat.reduceLT, c3]
    rw [leave_plain rfl rfl, Opt_some]
    exact ⟨⟨_, rfl⟩, by simp [c3]⟩
  subst c3
  simp only [go_sem, reduceIte, reduceCtorEq, Nat.reduceAdd, Nat.reduceSub, Nat.reduceEqDiff, Nat.reduceLeDiff, Nat.reduceBEq, Nat.reduceLT]
  obtain ⟨K4, hK4⟩ := Okv.all (w_wreckageref27_SameHeads _ _ _ _ hx5 hy5)
  simp only [go_sem, reduceIte, reduceCtorEq, Nat.reduceAdd, Nat.reduceSub, Nat.reduceEqDiff, Nat.reduceLeDiff, Nat.reduceBEq, Nat.reduceLT, hK4]
  by_cases c4 : roa = rob
  case neg =>
    simp only [go_sem, reduceIte, reduceCtorEq, Nat.reduceAdd, Nat.reduceSub, Nat.reduceEqDiff, Nat.reduceLeDiff, Nat.reduceBEq, Nat.reduceLT, c4]
    rw [leave_plain rfl rfl, Opt_some]
    exact ⟨⟨_, rfl⟩, by simp [c4]⟩
  subst c4
  simp only [go_sem, reduceIte, reduceCtorEq, Nat.reduceAdd, Nat.reduceSub, Nat.reduceEqDiff, Nat.reduceLeDiff, Nat.reduceBEq, Nat.reduceLT]
  obtain ⟨K5, hK5⟩ := Okv.all (w_wreckageref27_SameChains _ _ _ _ hx6 hy6)
  simp only [go_sem, reduceIte, reduceCtorEq, Nat.reduceAdd, Nat.reduceSub, Nat.reduceEqDiff, Nat.reduceLeDiff, Nat.reduceBEq, Nat.reduceLT, hK5]
  by_cases c5 : dea = deb
  case neg =>
    simp only [go_sem, reduceIte, reduceCtorEq, Nat.reduceAdd, Nat.reduceSub, Nat.reduceEqDiff, Nat.reduceLeDiff, Nat.reduceBEq, Nat.reduceLT, c5]
    rw [leave_plain rfl rfl, Opt_some]
    exact ⟨⟨_, rfl⟩, by simp [c5]⟩
  subst c5
  simp only [go_sem, reduceIte, reduceCtorEq, Nat.reduceAdd, Nat.reduceSub, Nat.reduceEqDiff, Nat.reduceLeDiff, Nat.reduceBEq, Nat.reduceLT]
  obtain ⟨K6, hK6⟩ := Okv.all (w_wreckageref27_SameChains _ _ _ _ hx7 hy7)
  simp only [go_sem, reduceIte, reduceCtorEq, Nat.reduceAdd, Nat.reduceSub, Nat.reduceEqDiff, Nat.reduceLeDiff, Nat.reduceBEq, Nat.reduceLT, hK6]
  by_cases c6 : paa = pab
  case neg =>
    simp only [go_sem, reduceIte, reduceCtorEq, Nat.reduceAdd, Nat.reduceSub, Nat.reduceEqDiff, Nat.reduceLeDiff, Nat.reduceBEq, Nat.reduceLT, c6]
    rw [leave_plain rfl rfl, Opt_some]
    exact ⟨⟨_, rfl⟩, by simp [c6]⟩
  subst c6
  simp only [go_sem, reduceIte, reduceCtorEq, Nat.reduceAdd, Nat.reduceSub, Nat.reduceEqDiff, Nat.reduceLeDiff, Nat.reduceBEq, Nat.reduceLT]
  rw [leave_plain rfl rfl, Opt_some]
  exact ⟨⟨_, rfl⟩, by simp⟩


theorem w_wreckagelaw29_ParseSame (a b : DDump) (x y : AV) (hx : IsDump a x) (hy : IsDump b y) (m : Mem) : Okv tab F_wreckagelaw29_ParseSame [x, y] m (.bool true) := by
  refine okv_of t_wreckagelaw29_ParseSame ?_
  obtain ⟨stk, cur, nx, live, fl⟩ := m
  have hx' := hx
  have hy' := hy
  obtain ⟨v0, v1, v2, v3, v4, v5, v6, v7, rfl, h0, h1, h2, h3, h4, h5, h6, h7⟩ := hx'
  obtain ⟨w0, w1, w2, w3, w4, w5, w6, w7, rfl, g0, g1, g2, g3, g4, g5, g6, g7⟩ := hy'
  clear h0 h1 h2 h3 h4 h5 h6 h7 g0 g1 g2 g3 g4 g5 g6 g7
  obtain ⟨K1, hK1⟩ := Okv.all (w_wreckageref28_Large _ _ hx)
  obtain ⟨K2, hK2⟩ := Okv.all (w_wreckageref28_Large _ _ hy)
  obtain ⟨K3, hK3⟩ := Okv.all (w_parse_Same _ _ _ _ hx hy)
  obtain ⟨K4, hK4⟩ := Okv.all (w_wreckageref28_Same _ _ _ _ hx hy)
  obtain ⟨K5, hK5⟩ := Okv.all (w_parse_Same _ _ _ _ hx hx)
  obtain ⟨K6, hK6⟩ := Okv.all (w_parse_Same _ _ _ _ hy hx)
  have hba : decide (b = a) = decide (a = b) := decide_eq_decide.2 eq_comm
  rw [hba] at hK6
  have haa : decide (a = a) = true := decide_eq_true rfl
  rw [haa] at hK5
  generalize decide (a = b) = q at hK3 hK4 hK6
  generalize large a = p1 at hK1
  generalize large b = p2 at hK2
  clear hx hy
  simp only [a_wreckagelaw29_ParseSame, go_sem, reduceIte, reduceCtorEq, Nat.reduceAdd, Nat.reduceSub, Nat.reduceEqDiff, Nat.reduceLeDiff, Nat.reduceBEq, Nat.reduceLT, hK1]
  cases p1
  case true =>
    simp only [go_sem, reduceIte, reduceCtorEq, Nat.reduceAdd, Nat.reduceSub, Nat.reduceEqDiff, Nat.reduceLeDiff, Nat.reduceBEq, Nat.reduceLT]
    rw [leave_plain rfl rfl, Opt_some]
    exact ⟨⟨_, rfl⟩, rfl⟩
  simp only [go_sem, reduceIte, reduceCtorEq, Nat.reduceAdd, Nat.reduceSub, Nat.reduceEqDiff, Nat.reduceLeDiff, Nat.reduceBEq, Nat.reduceLT, hK2]
  cases p2
  case true =>
    simp only [go_sem, reduceIte, reduceCtorEq, Nat.reduceAdd, Nat.reduceSub, Nat.reduceEqDiff, Nat.reduceLeDiff, Nat.reduceBEq, Nat.reduceLT]
    rw [leave_plain rfl rfl, Opt_some]
    exact ⟨⟨_, rfl⟩, rfl⟩
  simp only [go_sem, reduceIte, reduceCtorEq, Nat.reduceAdd, Nat.reduceSub, Nat.reduceEqDiff, Nat.reduceLeDiff, Nat.reduceBEq, Nat.reduceLT, hK3, hK4, hK5, hK6]
  rw [leave_plain rfl rfl, Opt_some]
  exact ⟨⟨_, rfl⟩, rfl⟩

end Go.Proofs.W
