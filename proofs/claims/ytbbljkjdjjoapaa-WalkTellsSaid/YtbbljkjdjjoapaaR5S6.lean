/-
  R5S6
-/
import Derived.Test.YtbbljkjdjjoapaaR5S1
namespace Go.Proofs.W
open Go.Vs
set_option linter.unusedSimpArgs false
set_option maxRecDepth 100000

def IsN (n : Nat) (y : AV) : Prop := y = .int .i64 (n : Int)

/-- Every type of a table is valid. -/
def ValidT (l : List DTyp) : Prop := ∀ i (h : i < l.length), FineT l.length i l[i]

def contrib (t : DTyp) (below out : List Nat) : Nat :=
  if t.kind = 4 then below.getD t.elem.toNat 0 else if t.kind = 7 then 16 * below.getD t.elem.toNat 0 else if t.kind = 6 then t.len.toNat * out.getD t.elem.toNat 0 else 0
def fsum (fs : List DField) (out : List Nat) : Nat := (fs.map fun f => out.getD f.typ.toNat 0).sum
def w1 (t : DTyp) (below out : List Nat) : Nat := min 5001 (1 + contrib t below out + fsum t.fields out)
/-- A round. -/
def rnd (below : List Nat) (l : List DTyp) : List Nat := l.foldl (fun out t => out ++ [w1 t below out]) []
def rounds (l : List DTyp) : Nat → List Nat
  | 0 => List.replicate l.length 0
  | r + 1 => rnd (rounds l r) l

theorem rnd_succ (b : List Nat) (l : List DTyp) {i : Nat} (h : i < l.length) : rnd b (l.take (i + 1)) = rnd b (l.take i) ++ [w1 l[i] b (rnd b (l.take i))] := by
  unfold rnd
  rw [List.take_succ_eq_append_getElem h, List.foldl_append]; rfl
theorem rnd_len (b : List Nat) (l : List DTyp) : ∀ i, i ≤ l.length → (rnd b (l.take i)).length = i
  | 0, _ => by simp [rnd]
  | i + 1, h => by rw [rnd_succ b l h, List.length_append, rnd_len b l i (by omega)]; rfl
theorem rnd_le (b : List Nat) (l : List DTyp) : ∀ i, i ≤ l.length → ∀ x ∈ rnd b (l.take i), x ≤ 5001
  | 0, _ => by simp [rnd]
  | i + 1, h => by
    rw [rnd_succ b l h]
    intro x hx
    rcases List.mem_append.1 hx with hx | hx
    · exact rnd_le b l i (by omega) x hx
    · simp at hx; subst hx; unfold w1; omega
theorem rounds_len (l : List DTyp) : ∀ r, (rounds l r).length = l.length
  | 0 => by simp [rounds]
  | r + 1 => by have := rnd_len (rounds l r) l l.length (Nat.le_refl _); rw [List.take_length] at this; exact this
theorem rounds_le (l : List DTyp) : ∀ r, ∀ x ∈ rounds l r, x ≤ 5001
  | 0, x, h => by simp [rounds] at h; omega
  | r + 1, x, h => by have := rnd_le (rounds l r) l l.length (Nat.le_refl _) x; rw [List.take_length] at this; exact this h
theorem getD_le {l : List Nat} {c : Nat} (h : ∀ x ∈ l, x ≤ c) (i : Nat) : l.getD i 0 ≤ c := by
  rw [List.getD_eq_getElem?_getD]
  cases hq : l[i]? with
  | none => simp
  | some x => simp only [Option.getD_some]; exact h x (List.mem_of_getElem? hq)
theorem getD_get {l : List Nat} {i : Nat} (h : i < l.length) : l.getD i 0 = l[i] := by simp [List.getD_eq_getElem?_getD, h]
theorem fsum_succ {fs : List DField} {k : Nat} (h : k < fs.length) (out : List Nat) : fsum (fs.take (k + 1)) out = fsum (fs.take k) out + out.getD fs[k].typ.toNat 0 := by
  unfold fsum
  rw [List.take_succ_eq_append_getElem h, List.map_append, List.sum_append]; simp
theorem fsum_le {fs : List DField} {out : List Nat} {c : Nat} (h : ∀ x ∈ out, x ≤ c) : fsum fs out ≤ c * fs.length := by
  unfold fsum
  induction fs with
  | nil => simp
  | cons f r ih =>
    have := getD_le h f.typ.toNat
    simp only [List.map_cons, List.sum_cons, List.length_cons, Nat.mul_add, Nat.mul_one]; omega

/-- The parts of a type. -/
def parts (t : DTyp) : List Int := (if t.kind = 6 then [t.elem] else []) ++ t.fields.map DField.typ

set_option maxHeartbeats 1000000 in
theorem w_wreckageref04_Parts (t : DTyp) (x : AV) (hx : IsTyp t x) (hl : t.fields.length ≤ 100) (m : Mem) : Okl (IsK .i64) 1 tab F_wreckageref04_Parts [x] m (parts t) := by
  refine okl_of t_wreckageref04_Parts ?_
  obtain ⟨stk, cur, nx, live, fl⟩ := m
  obtain ⟨kind, elem, len, fields⟩ := t
  obtain ⟨v, rfl, q1⟩ := hx
  dsimp only at q1 hl
  unfold parts
  dsimp only
  simp only [a_wreckageref04_Parts, go_sem, reduceIte, reduceCtorEq, Nat.reduceAdd, Nat.reduceSub, Nat.reduceEqDiff, Nat.reduceLeDiff, Nat.reduceBEq, Nat.reduceLT]
  by_cases hk : kind = 6
  · have hk' : (kind == 6) = true := by simpa using hk
    rw [if_pos hk]
    simp only [go_sem, reduceIte, reduceCtorEq, Nat.reduceAdd, Nat.reduceSub, Nat.reduceEqDiff, Nat.reduceLeDiff, Nat.reduceBEq, Nat.reduceLT, hk']
    refine (Own.nil (R := IsK .i64) (s := 1) []).xv (elems_list · _ _ _) (all2_one (R := IsK .i64) (x := elem) rfl) (by simp) fun y' n' e' ho' => ?_
    simp only [go_sem, reduceIte, reduceCtorEq, Nat.reduceAdd, Nat.reduceSub, Nat.reduceEqDiff, Nat.reduceLeDiff, Nat.reduceBEq, Nat.reduceLT]
    rw [List.nil_append] at ho'
    refine XL_rule (α := Nat) (fun k σ => k ≤ fields.length ∧ ∃ nz y e, Own (IsK .i64) 1 y ([elem] ++ (fields.map DField.typ).take k) e ∧ heads [1, 3, 4] 1 σ = ⟨tmps 30 [(1, .ptr (stk ++ [cur]).length 0 nx 0), (3, y), (4, .int .i64 k)], ⟨stk ++ [cur], [⟨nx, [.int .u8 kind, .int .i64 elem, .int .i64 len, v]⟩], nz, e :: live, fl⟩⟩) (fun k => fields.length - k) 0 ?_ ?_
    · refine ⟨Nat.zero_le _, n', y', e', by simpa using ho', ?_⟩
      simp only [go_sem, reduceIte, reduceCtorEq, Nat.reduceAdd, Nat.reduceSub, Nat.reduceEqDiff, Nat.reduceLeDiff, Nat.reduceBEq, Nat.reduceLT]
      rfl
    · rintro k σ ⟨hk, nz, y, e, ho, hσ⟩
      rw [hσ]
      clear hσ σ
      dsimp only at hk ⊢
      by_cases h : k < fields.length
      · have e2 : nth v k = .agg [.str fields[k].name, .int .i64 fields[k].typ] := q1.nth h
        have hat2 := q1.at .i64 h
        simp only [go_sem, reduceIte, reduceCtorEq, Nat.reduceAdd, Nat.reduceSub, Nat.reduceEqDiff, Nat.reduceLeDiff, Nat.reduceBEq, Nat.reduceLT, Int.ofNat_lt, h, q1.len, hat2, e2]
        refine ho.xv (elems_list · _ _ _) (all2_one (R := IsK .i64) (x := fields[k].typ) rfl) (by simp; omega) fun y' n' e' ho' => ?_
        simp only [go_sem, reduceIte, reduceCtorEq, Nat.reduceAdd, Nat.reduceSub, Nat.reduceEqDiff, Nat.reduceLeDiff, Nat.reduceBEq, Nat.reduceLT, succ_i64 h q1.max]
        rw [List.append_assoc, ← take_succ_map DField.typ h] at ho'
        exact ⟨k + 1, by omega, h, _, y', e', ho', rfl⟩
      · have : k = fields.length := by omega
        subst this
        rw [show (fields.map DField.typ).take fields.length = fields.map DField.typ by rw [show fields.length = (fields.map DField.typ).length by simp, List.take_length]] at ho
        simp only [go_sem, reduceIte, reduceCtorEq, Nat.reduceAdd, Nat.reduceSub, Nat.reduceEqDiff, Nat.reduceLeDiff, Nat.reduceBEq, Nat.reduceLT, Int.ofNat_lt, h, q1.len]
        exact fin_own ho
  · have hk' : (kind == 6) = false := by simpa using hk
    rw [if_neg hk]
    simp only [go_sem, reduceIte, reduceCtorEq, Nat.reduceAdd, Nat.reduceSub, Nat.reduceEqDiff, Nat.reduceLeDiff, Nat.reduceBEq, Nat.reduceLT, hk']
    refine XL_rule (α := Nat) (fun k σ => k ≤ fields.length ∧ ∃ nz y e, Own (IsK .i64) 1 y ([] ++ (fields.map DField.typ).take k) e ∧ heads [1, 3, 4] 1 σ = ⟨tmps 30 [(1, .ptr (stk ++ [cur]).length 0 nx 0), (3, y), (4, .int .i64 k)], ⟨stk ++ [cur], [⟨nx, [.int .u8 kind, .int .i64 elem, .int .i64 len, v]⟩], nz, e :: live, fl⟩⟩) (fun k => fields.length - k) 0 ?_ ?_
    · refine ⟨Nat.zero_le _, nx + 1, .nils, [], by simpa using Own.nil (R := IsK .i64) (s := 1) [], ?_⟩
      simp only [go_sem, reduceIte, reduceCtorEq, Nat.reduceAdd, Nat.reduceSub, Nat.reduceEqDiff, Nat.reduceLeDiff, Nat.reduceBEq, Nat.reduceLT]
      rfl
    · rintro k σ ⟨hk, nz, y, e, ho, hσ⟩
      rw [hσ]
      clear hσ σ
      dsimp only at hk ⊢
      by_cases h : k < fields.length
      · have e2 : nth v k = .agg [.str fields[k].name, .int .i64 fields[k].typ] := q1.nth h
        have hat2 := q1.at .i64 h
        simp only [go_sem, reduceIte, reduceCtorEq, Nat.reduceAdd, Nat.reduceSub, Nat.reduceEqDiff, Nat.reduceLeDiff, Nat.reduceBEq, Nat.reduceLT, Int.ofNat_lt, h, q1.len, hat2, e2]
        refine ho.xv (elems_list · _ _ _) (all2_one (R := IsK .i64) (x := fields[k].typ) rfl) (by simp; omega) fun y' n' e' ho' => ?_
        simp only [go_sem, reduceIte, reduceCtorEq, Nat.reduceAdd, Nat.reduceSub, Nat.reduceEqDiff, Nat.reduceLeDiff, Nat.reduceBEq, Nat.reduceLT, succ_i64 h q1.max]
        rw [List.append_assoc, ← take_succ_map DField.typ h] at ho'
        exact ⟨k + 1, by omega, h, _, y', e', ho', rfl⟩
      · have : k = fields.length := by omega
        subst this
        rw [show (fields.map DField.typ).take fields.length = fields.map DField.typ by rw [show fields.length = (fields.map DField.typ).length by simp, List.take_length]] at ho
        simp only [go_sem, reduceIte, reduceCtorEq, Nat.reduceAdd, Nat.reduceSub, Nat.reduceEqDiff, Nat.reduceLeDiff, Nat.reduceBEq, Nat.reduceLT, Int.ofNat_lt, h, q1.len]
        exact fin_own ho

end Go.Proofs.W

namespace Go.Proofs.W
open Go.Vs
set_option linter.unusedSimpArgs false
set_option maxRecDepth 100000

theorem parts_ok {n i : Nat} {t : DTyp} (h : FineT n i t) : ∀ p ∈ parts t, 0 ≤ p ∧ p < i := by
  intro p hp
  unfold parts at hp
  rcases h with ⟨h1, _, _, h4⟩ | ⟨h1, _, _, _, h4⟩ | ⟨h1, h2, h3, _, _, h4⟩ | ⟨h1, h2⟩
  · have : t.fields = [] := List.eq_nil_of_length_eq_zero h4
    rw [this, if_neg (by omega)] at hp; simp at hp
  · have : t.fields = [] := List.eq_nil_of_length_eq_zero h4
    rw [this, if_neg (by omega)] at hp; simp at hp
  · have : t.fields = [] := List.eq_nil_of_length_eq_zero h4
    rw [this, if_pos h1] at hp; simp at hp; subst hp; exact ⟨h2, h3⟩
  · rw [if_neg (by omega)] at hp
    simp only [List.nil_append, List.mem_map] at hp
    obtain ⟨f, hf, rfl⟩ := hp
    exact h2.1 f hf

def partBy (t : DTyp) : Nat := if t.kind = 6 then t.len.toNat else 1
def psum (t : DTyp) (out : List Nat) (k : Nat) : Nat := (((parts t).take k).map fun p => partBy t * out.getD p.toNat 0).sum
theorem psum_succ {t : DTyp} {k : Nat} (h : k < (parts t).length) (out : List Nat) : psum t out (k + 1) = psum t out k + partBy t * out.getD (parts t)[k].toNat 0 := by
  unfold psum
  rw [List.take_succ_eq_append_getElem h, List.map_append, List.sum_append]; simp
theorem psum_all {n i : Nat} {t : DTyp} (h : FineT n i t) (out : List Nat) : psum t out (parts t).length = (if t.kind = 6 then t.len.toNat * out.getD t.elem.toNat 0 else 0) + fsum t.fields out := by
  unfold psum
  rw [List.take_length]
  unfold parts partBy fsum
  by_cases h6 : t.kind = 6
  · have hf : t.fields = [] := by
      rcases h with ⟨h1, _, _, h4⟩ | ⟨h1, _, _, _, h4⟩ | ⟨h1, h2, h3, _, _, h4⟩ | ⟨h1, h2⟩ <;> first | omega | exact List.eq_nil_of_length_eq_zero h4
    simp [h6, hf]
  · simp [h6, List.map_map, Function.comp_def]
theorem fine_len {n i : Nat} {t : DTyp} (h : FineT n i t) : t.fields.length ≤ 8 ∧ (t.kind = 6 → 1 ≤ t.len ∧ t.len ≤ 16) ∧ ((t.kind = 4 ∨ t.kind = 7) → 0 ≤ t.elem ∧ t.elem < n ∧ t.fields = []) ∧ (t.kind = 6 → 0 ≤ t.elem ∧ t.elem < i ∧ t.fields = []) ∧ (t.kind ≠ 5 → t.fields = []) ∧ (∀ f ∈ t.fields, 0 ≤ f.typ ∧ f.typ < i) := by
  rcases h with ⟨h1, h2, h3, h4⟩ | ⟨h1, h2, h3, h5, h4⟩ | ⟨h1, h2, h3, h5, h6, h4⟩ | ⟨h1, h2⟩
  · have hf : t.fields = [] := List.eq_nil_of_length_eq_zero h4
    rw [hf]; refine ⟨by simp, by omega, by omega, by omega, by simp, by simp⟩
  · have hf : t.fields = [] := List.eq_nil_of_length_eq_zero h4
    rw [hf]; refine ⟨by simp, by omega, fun _ => ⟨h2, h3, rfl⟩, by omega, by simp, by simp⟩
  · have hf : t.fields = [] := List.eq_nil_of_length_eq_zero h4
    rw [hf]; refine ⟨by simp, fun _ => ⟨h5, h6⟩, by omega, fun _ => ⟨h2, h3, rfl⟩, by simp, by simp⟩
  · exact ⟨by have := h2.2.2.2.2.1; omega, by omega, by omega, by omega, fun h => absurd h1 h, h2.1⟩
theorem partBy_le {n i : Nat} {t : DTyp} (h : FineT n i t) : partBy t ≤ 16 := by
  have := (fine_len h).2.1
  unfold partBy; split
  · rename_i h6; have := this h6; omega
  · omega
theorem min5001 (a : Nat) : (if (5001 : Int) < (a : Int) then (5001 : Int) else (a : Int)) = ((min 5001 a : Nat) : Int) := by split <;> omega
theorem toNat_lt {p : Int} {i : Nat} (h : 0 ≤ p ∧ p < i) : p.toNat < i := by omega
theorem mul_le_80016 {a b : Nat} (ha : a ≤ 16) (hb : b ≤ 5001) : a * b ≤ 80016 := Nat.le_trans (Nat.mul_le_mul ha hb) (by decide)

set_option maxHeartbeats 4000000 in
theorem w_wreckageref04_Widths (l : List DTyp) (x : AV) (hx : IsSl IsTyp 4 l x) (hv : ValidT l) (hl : l.length ≤ 100) : ∀ (d : Nat), d ≤ 3 → ∀ m, Okl IsN 1 tab F_wreckageref04_Widths [x, .int .i64 (d : Nat)] m (rounds l (d + 1))
  | 0, _ => fun m => by
    refine okl_of t_wreckageref04_Widths ?_
    obtain ⟨stk, cur, nx, live, fl⟩ := m
    rw [show rounds l (0 + 1) = rnd (rounds l 0) l from rfl]
    simp only [a_wreckageref04_Widths, go_sem, reduceIte, reduceCtorEq, Nat.reduceAdd, Nat.reduceSub, Nat.reduceEqDiff, Nat.reduceLeDiff, Nat.reduceBEq, Nat.reduceLT, (by decide : ¬ ((0 : Nat) : Int) > 0)]
    refine XL_rule (α := Nat) (fun i σ => i ≤ l.length ∧ ∃ nz y e, Own IsN 1 y (rnd (rounds l 0) (l.take i)) e ∧ heads [0, 1, 5, 6, 7] 0 σ = ⟨tmps 106 [(0, x), (1, .int .i64 (0 : Nat)), (5, .nils), (6, y), (7, .int .i64 i)], ⟨stk ++ [cur], [], nz, e :: live, fl⟩⟩) (fun i => l.length - i) 0 ?_ ?_
    · refine ⟨Nat.zero_le _, nx, .nils, [], by simpa [rnd] using Own.nil _, ?_⟩
      simp only [go_sem, reduceIte, reduceCtorEq, Nat.reduceAdd, Nat.reduceSub, Nat.reduceEqDiff, Nat.reduceLeDiff, Nat.reduceBEq, Nat.reduceLT]
      rfl
    · rintro i σ ⟨hi, nz, y, e, ho, hσ⟩
      rw [hσ]
      clear hσ σ
      dsimp only at hi ⊢
      by_cases h : i < l.length
      · have hfine := hv i h
        obtain ⟨v, e1, q1⟩ := hx.nth h
        have hty : IsTyp l[i] (nth x i) := hx.nth h
        have hat := hx.at .i64 h
        have hol := rnd_len (rounds l 0) l i hi
        have hsucc := rnd_succ (rounds l 0) l h
        have hle := rnd_le (rounds l 0) l i hi
        have hflen := fine_len hfine
        have hpok := parts_ok hfine
        generalize hout : rnd (rounds l 0) (l.take i) = out at *
        have hty' := w_wreckageref04_Parts l[i] (nth x i) hty (by omega)
        have hag := hty.agg.1
        simp only [go_sem, reduceIte, reduceCtorEq, Nat.reduceAdd, Nat.reduceSub, Nat.reduceEqDiff, Nat.reduceLeDiff, Nat.reduceBEq, Nat.reduceLT, Int.ofNat_lt, h, hx.len, hat, hag]
        refine (hty' _).xv fun yp ts np hp => ?_
        simp only [go_sem, reduceIte, reduceCtorEq, Nat.reduceAdd, Nat.reduceSub, Nat.reduceEqDiff, Nat.reduceLeDiff, Nat.reduceBEq, Nat.reduceLT]
        refine XL_rule (α := Nat) (fun k σ => k ≤ (parts l[i]).length ∧ ∃ nz, heads [0, 1, 5, 6, 7, 8, 9, 10] 0 σ = ⟨tmps 106 [(0, x), (1, .int .i64 (0 : Nat)), (5, .nils), (6, y), (7, .int .i64 i), (8, .int .i64 (min 5001 (1 + psum l[i] out k) : Nat)), (9, yp), (10, .int .i64 k)], ⟨stk ++ [cur], [], nz, (ts ++ e) :: live, fl⟩⟩) (fun k => (parts l[i]).length - k) 0 ?_ ?_
        · refine ⟨Nat.zero_le _, ?_⟩
          simp only [go_sem, reduceIte, reduceCtorEq, Nat.reduceAdd, Nat.reduceSub, Nat.reduceEqDiff, Nat.reduceLeDiff, Nat.reduceBEq, Nat.reduceLT, psum]
          exact ⟨_, rfl⟩
        · rintro k σ ⟨hk, nz, hσ⟩
          rw [hσ]
          clear hσ σ
          dsimp only at hk ⊢
          have hplen : (parts l[i]).length ≤ 9 := by unfold parts; rw [List.length_append, List.length_map]; split <;> simp <;> omega
          by_cases hkl : k < (parts l[i]).length
          · have hpk := hpok _ (List.getElem_mem hkl)
            have e2 : nth yp k = .int .i64 (parts l[i])[k] := hp.nth hkl
            have e2' : nth yp k = .int .i64 ((parts l[i])[k].toNat : Nat) := by rw [e2]; congr 1; omega
            have hoi : (parts l[i])[k].toNat < out.length := by omega
            have e3 : nth y (parts l[i])[k].toNat = .int .i64 (out[(parts l[i])[k].toNat] : Nat) := ho.nth hoi
            have hb := partBy_le hfine
            have hc := getD_le hle (parts l[i])[k].toNat
            have hmul := mul_le_80016 hb hc
            rw [getD_get hoi] at hc hmul
            have hps := psum_succ hkl out
            rw [getD_get hoi] at hps
            have ew : IntKind.i64.wrap ((min 5001 (1 + psum l[i] out k) : Nat) + IntKind.i64.wrap ((partBy l[i] : Nat) * (out[(parts l[i])[k].toNat] : Nat))) = ((min 5001 (1 + psum l[i] out k) + partBy l[i] * out[(parts l[i])[k].toNat] : Nat) : Int) := by
              have : IntKind.i64.wrap ((partBy l[i] : Nat) * (out[(parts l[i])[k].toNat] : Nat)) = ((partBy l[i] * out[(parts l[i])[k].toNat] : Nat) : Int) := by
                rw [← Int.natCast_mul, wrap_i64' (by omega) (by omega)]
              rw [this, wrap_i64' (by omega) (by omega)]; omega
            have hmin : min 5001 (min 5001 (1 + psum l[i] out k) + partBy l[i] * out[(parts l[i])[k].toNat]) = min 5001 (1 + psum l[i] out (k + 1)) := by rw [hps]; omega
            have hsk : IntKind.i64.wrap ((k : Int) + 1) = ((k + 1 : Nat) : Int) := by rw [wrap_i64' (by omega) (by omega)]; omega
            by_cases h6 : l[i].kind = 6
            · have h6' : (l[i].kind == 6) = true := by simpa using h6
              have hl6 : l[i].len = ((partBy l[i] : Nat) : Int) := by have := hflen.2.1 h6; unfold partBy; rw [if_pos h6]; omega
              simp only [go_sem, reduceIte, reduceCtorEq, Nat.reduceAdd, Nat.reduceSub, Nat.reduceEqDiff, Nat.reduceLeDiff, Nat.reduceBEq, Nat.reduceLT, Int.ofNat_lt, hkl, hp.len, hat, e1, h6', hp.at _ hkl, e2', ho.at _ hoi, e3, hl6, ew, min5001, hmin, hsk]
              exact ⟨k + 1, by omega, hkl, _, rfl⟩
            · have h6' : (l[i].kind == 6) = false := by simpa using h6
              have hl6 : (1 : Int) = ((partBy l[i] : Nat) : Int) := by unfold partBy; rw [if_neg h6]; first | done | rfl
              have ew2 := ew
              rw [← hl6] at ew2
              simp only [go_sem, reduceIte, reduceCtorEq, Nat.reduceAdd, Nat.reduceSub, Nat.reduceEqDiff, Nat.reduceLeDiff, Nat.reduceBEq, Nat.reduceLT, Int.ofNat_lt, hkl, hp.len, hat, e1, h6', hp.at _ hkl, e2', ho.at _ hoi, e3, ew2, min5001, hmin, hsk]
              exact ⟨k + 1, by omega, hkl, _, rfl⟩
          · have : k = (parts l[i]).length := by omega
            subst this
            have hps := psum_all hfine out
            generalize psum l[i] out (parts l[i]).length = ps at *
            have hfs := fsum_le (fs := l[i].fields) hle
            have hps5 : ps ≤ 200000 := by
              rw [hps]
              have := Nat.mul_le_mul (Nat.le_refl 5001) hflen.1
              split
              · rename_i h6
                have h16 := hflen.2.1 h6
                have := mul_le_80016 (a := l[i].len.toNat) (by omega) (getD_le hle l[i].elem.toNat)
                omega
              · omega
            have hsuc := succ_i64 h hx.max
            simp only [go_sem, reduceIte, reduceCtorEq, Nat.reduceAdd, Nat.reduceSub, Nat.reduceEqDiff, Nat.reduceLeDiff, Nat.reduceBEq, Nat.reduceLT, Int.ofNat_lt, hkl, hp.len]
            have hw : min 5001 (1 + ps) = w1 l[i] (rounds l 0) out := by
              unfold w1 contrib
              have hz : ∀ j, (rounds l 0).getD j 0 = 0 := fun j => by
                simp only [rounds, List.getD_eq_getElem?_getD, List.getElem?_replicate]; split <;> rfl
              rw [hps, hz]
              by_cases h4 : l[i].kind = 4
              · simp [h4]
              · by_cases h7 : l[i].kind = 7
                · simp [h7]
                · simp only [h4, h7, if_false]; omega
            rw [hw] at *
            simp only [go_sem, reduceIte, reduceCtorEq, Nat.reduceAdd, Nat.reduceSub, Nat.reduceEqDiff, Nat.reduceLeDiff, Nat.reduceBEq, Nat.reduceLT, (by decide : ¬ ((0 : Nat) : Int) > 0)]
            refine (ho.push ts).xv (elems_list · _ _ _) (all2_one (R := IsN) (x := w1 l[i] (rounds l 0) out) rfl) (by simp; omega) fun y' n' e' ho' => ?_
            simp only [go_sem, reduceIte, reduceCtorEq, Nat.reduceAdd, Nat.reduceSub, Nat.reduceEqDiff, Nat.reduceLeDiff, Nat.reduceBEq, Nat.reduceLT, hsuc]
            rw [← hsucc] at ho'
            exact ⟨i + 1, by omega, h, _, _, _, ho', rfl⟩
      · have : i = l.length := by omega
        subst this
        rw [List.take_length] at ho
        simp only [go_sem, reduceIte, reduceCtorEq, Nat.reduceAdd, Nat.reduceSub, Nat.reduceEqDiff, Nat.reduceLeDiff, Nat.reduceBEq, Nat.reduceLT, Int.ofNat_lt, h, hx.len]
        exact fin_own ho
  | d + 1, hd => fun m => by
    have ih := w_wreckageref04_Widths l x hx hv hl d (by omega)
    refine okl_of t_wreckageref04_Widths ?_
    obtain ⟨stk, cur, nx, live, fl⟩ := m
    rw [show rounds l (d + 1 + 1) = rnd (rounds l (d + 1)) l from rfl]
    have hd0 : (((d + 1 : Nat) : Int) > 0) = True := by first | (simp; done) | (simp; omega)
    have hsub : IntKind.i64.wrap (((d + 1 : Nat) : Int) - 1) = ((d : Nat) : Int) := by rw [wrap_i64' (by omega) (by omega)]; omega
    simp only [a_wreckageref04_Widths, go_sem, reduceIte, reduceCtorEq, Nat.reduceAdd, Nat.reduceSub, Nat.reduceEqDiff, Nat.reduceLeDiff, Nat.reduceBEq, Nat.reduceLT, hd0, hsub]
    refine (ih _).xv fun B tb nb hB => ?_
    simp only [go_sem, reduceIte, reduceCtorEq, Nat.reduceAdd, Nat.reduceSub, Nat.reduceEqDiff, Nat.reduceLeDiff, Nat.reduceBEq, Nat.reduceLT]
    refine XL_rule (α := Nat) (fun i σ => i ≤ l.length ∧ ∃ nz y e, Own IsN 1 y (rnd (rounds l (d + 1)) (l.take i)) e ∧ heads [0, 1, 5, 6, 7] 0 σ = ⟨tmps 106 [(0, x), (1, .int .i64 ((d + 1) : Nat)), (5, B), (6, y), (7, .int .i64 i)], ⟨stk ++ [cur], [], nz, e :: live, fl⟩⟩) (fun i => l.length - i) 0 ?_ ?_
    · refine ⟨Nat.zero_le _, nb, .nils, tb, by simpa [rnd] using Own.nil _, ?_⟩
      simp only [go_sem, reduceIte, reduceCtorEq, Nat.reduceAdd, Nat.reduceSub, Nat.reduceEqDiff, Nat.reduceLeDiff, Nat.reduceBEq, Nat.reduceLT]
      rfl
    · rintro i σ ⟨hi, nz, y, e, ho, hσ⟩
      rw [hσ]
      clear hσ σ
      dsimp only at hi ⊢
      by_cases h : i < l.length
      · have hfine := hv i h
        obtain ⟨v, e1, q1⟩ := hx.nth h
        have hty : IsTyp l[i] (nth x i) := hx.nth h
        have hat := hx.at .i64 h
        have hol := rnd_len (rounds l (d + 1)) l i hi
        have hsucc := rnd_succ (rounds l (d + 1)) l h
        have hle := rnd_le (rounds l (d + 1)) l i hi
        have hflen := fine_len hfine
        have hpok := parts_ok hfine
        generalize hout : rnd (rounds l (d + 1)) (l.take i) = out at *
        have hty' := w_wreckageref04_Parts l[i] (nth x i) hty (by omega)
        have hag := hty.agg.1
        simp only [go_sem, reduceIte, reduceCtorEq, Nat.reduceAdd, Nat.reduceSub, Nat.reduceEqDiff, Nat.reduceLeDiff, Nat.reduceBEq, Nat.reduceLT, Int.ofNat_lt, h, hx.len, hat, hag]
        refine (hty' _).xv fun yp ts np hp => ?_
        simp only [go_sem, reduceIte, reduceCtorEq, Nat.reduceAdd, Nat.reduceSub, Nat.reduceEqDiff, Nat.reduceLeDiff, Nat.reduceBEq, Nat.reduceLT]
        refine XL_rule (α := Nat) (fun k σ => k ≤ (parts l[i]).length ∧ ∃ nz, heads [0, 1, 5, 6, 7, 8, 9, 10] 0 σ = ⟨tmps 106 [(0, x), (1, .int .i64 ((d + 1) : Nat)), (5, B), (6, y), (7, .int .i64 i), (8, .int .i64 (min 5001 (1 + psum l[i] out k) : Nat)), (9, yp), (10, .int .i64 k)], ⟨stk ++ [cur], [], nz, (ts ++ e) :: live, fl⟩⟩) (fun k => (parts l[i]).length - k) 0 ?_ ?_
        · refine ⟨Nat.zero_le _, ?_⟩
          simp only [go_sem, reduceIte, reduceCtorEq, Nat.reduceAdd, Nat.reduceSub, Nat.reduceEqDiff, Nat.reduceLeDiff, Nat.reduceBEq, Nat.reduceLT, psum]
          exact ⟨_, rfl⟩
        · rintro k σ ⟨hk, nz, hσ⟩
          rw [hσ]
          clear hσ σ
          dsimp only at hk ⊢
          have hplen : (parts l[i]).length ≤ 9 := by unfold parts; rw [List.length_append, List.length_map]; split <;> simp <;> omega
          by_cases hkl : k < (parts l[i]).length
          · have hpk := hpok _ (List.getElem_mem hkl)
            have e2 : nth yp k = .int .i64 (parts l[i])[k] := hp.nth hkl
            have e2' : nth yp k = .int .i64 ((parts l[i])[k].toNat : Nat) := by rw [e2]; congr 1; omega
            have hoi : (parts l[i])[k].toNat < out.length := by omega
            have e3 : nth y (parts l[i])[k].toNat = .int .i64 (out[(parts l[i])[k].toNat] : Nat) := ho.nth hoi
            have hb := partBy_le hfine
            have hc := getD_le hle (parts l[i])[k].toNat
            have hmul := mul_le_80016 hb hc
            rw [getD_get hoi] at hc hmul
            have hps := psum_succ hkl out
            rw [getD_get hoi] at hps
            have ew : IntKind.i64.wrap ((min 5001 (1 + psum l[i] out k) : Nat) + IntKind.i64.wrap ((partBy l[i] : Nat) * (out[(parts l[i])[k].toNat] : Nat))) = ((min 5001 (1 + psum l[i] out k) + partBy l[i] * out[(parts l[i])[k].toNat] : Nat) : Int) := by
              have : IntKind.i64.wrap ((partBy l[i] : Nat) * (out[(parts l[i])[k].toNat] : Nat)) = ((partBy l[i] * out[(parts l[i])[k].toNat] : Nat) : Int) := by
                rw [← Int.natCast_mul, wrap_i64' (by omega) (by omega)]
              rw [this, wrap_i64' (by omega) (by omega)]; omega
            have hmin : min 5001 (min 5001 (1 + psum l[i] out k) + partBy l[i] * out[(parts l[i])[k].toNat]) = min 5001 (1 + psum l[i] out (k + 1)) := by rw [hps]; omega
            have hsk : IntKind.i64.wrap ((k : Int) + 1) = ((k + 1 : Nat) : Int) := by rw [wrap_i64' (by omega) (by omega)]; omega
            by_cases h6 : l[i].kind = 6
            · have h6' : (l[i].kind == 6) = true := by simpa using h6
              have hl6 : l[i].len = ((partBy l[i] : Nat) : Int) := by have := hflen.2.1 h6; unfold partBy; rw [if_pos h6]; omega
              simp only [go_sem, reduceIte, reduceCtorEq, Nat.reduceAdd, Nat.reduceSub, Nat.reduceEqDiff, Nat.reduceLeDiff, Nat.reduceBEq, Nat.reduceLT, Int.ofNat_lt, hkl, hp.len, hat, e1, h6', hp.at _ hkl, e2', ho.at _ hoi, e3, hl6, ew, min5001, hmin, hsk]
              exact ⟨k + 1, by omega, hkl, _, rfl⟩
            · have h6' : (l[i].kind == 6) = false := by simpa using h6
              have hl6 : (1 : Int) = ((partBy l[i] : Nat) : Int) := by unfold partBy; rw [if_neg h6]; first | done | rfl
              have ew2 := ew
              rw [← hl6] at ew2
              simp only [go_sem, reduceIte, reduceCtorEq, Nat.reduceAdd, Nat.reduceSub, Nat.reduceEqDiff, Nat.reduceLeDiff, Nat.reduceBEq, Nat.reduceLT, Int.ofNat_lt, hkl, hp.len, hat, e1, h6', hp.at _ hkl, e2', ho.at _ hoi, e3, ew2, min5001, hmin, hsk]
              exact ⟨k + 1, by omega, hkl, _, rfl⟩
          · have : k = (parts l[i]).length := by omega
            subst this
            have hps := psum_all hfine out
            generalize psum l[i] out (parts l[i]).length = ps at *
            have hfs := fsum_le (fs := l[i].fields) hle
            have hps5 : ps ≤ 200000 := by
              rw [hps]
              have := Nat.mul_le_mul (Nat.le_refl 5001) hflen.1
              split
              · rename_i h6
                have h16 := hflen.2.1 h6
                have := mul_le_80016 (a := l[i].len.toNat) (by omega) (getD_le hle l[i].elem.toNat)
                omega
              · omega
            have hsuc := succ_i64 h hx.max
            simp only [go_sem, reduceIte, reduceCtorEq, Nat.reduceAdd, Nat.reduceSub, Nat.reduceEqDiff, Nat.reduceLeDiff, Nat.reduceBEq, Nat.reduceLT, Int.ofNat_lt, hkl, hp.len]
            have hd0 : (((d + 1 : Nat) : Int) > 0) = True := by first | (simp; done) | (simp; omega)
            have hbel := rounds_le l (d + 1)
            have hblen := rounds_len l (d + 1)
            generalize rounds l (d + 1) = bel at *
            have hbs : IsSl IsN 1 bel B := hB.sl (by omega)
            have hcb := getD_le hbel l[i].elem.toNat
            by_cases h4 : l[i].kind = 4
            · have h4' : (l[i].kind == 4) = true := by simpa using h4
              have h7' : (l[i].kind == 7) = false := by rw [h4]; rfl
              have hel := hflen.2.2.1 (.inl h4)
              have hbi : l[i].elem.toNat < bel.length := by omega
              have e4 : nth B l[i].elem.toNat = .int .i64 (bel[l[i].elem.toNat] : Nat) := hbs.nth hbi
              have hat4 := hbs.at .i64 hbi
              rw [Int.toNat_of_nonneg hel.1] at hat4
              rw [getD_get hbi] at hcb
              have ew : IntKind.i64.wrap ((min 5001 (1 + ps) : Nat) + (bel[l[i].elem.toNat] : Nat)) = ((min 5001 (1 + ps) + bel[l[i].elem.toNat] : Nat) : Int) := by
                rw [wrap_i64' (by omega) (by omega)]; omega
              have hw : min 5001 (min 5001 (1 + ps) + bel[l[i].elem.toNat]) = w1 l[i] bel out := by
                unfold w1 contrib
                rw [if_pos h4, getD_get hbi, hps, if_neg (by omega)]; omega
              simp only [go_sem, reduceIte, reduceCtorEq, Nat.reduceAdd, Nat.reduceSub, Nat.reduceEqDiff, Nat.reduceLeDiff, Nat.reduceBEq, Nat.reduceLT, hd0, hat, e1, h4', h7', hat4, e4, ew, min5001]
              refine (ho.push ts).xv (elems_list · _ _ _) (all2_one (R := IsN) (x := min 5001 (min 5001 (1 + ps) + bel[l[i].elem.toNat])) rfl) (by simp; omega) fun y' n' e' ho' => ?_
              simp only [go_sem, reduceIte, reduceCtorEq, Nat.reduceAdd, Nat.reduceSub, Nat.reduceEqDiff, Nat.reduceLeDiff, Nat.reduceBEq, Nat.reduceLT, hsuc]
              rw [hw, ← hsucc] at ho'
              exact ⟨i + 1, by omega, h, _, _, _, ho', rfl⟩
            · have h4' : (l[i].kind == 4) = false := by simpa using h4
              by_cases h7 : l[i].kind = 7
              · have h7' : (l[i].kind == 7) = true := by simpa using h7
                have hel := hflen.2.2.1 (.inr h7)
                have hbi : l[i].elem.toNat < bel.length := by omega
                have e4 : nth B l[i].elem.toNat = .int .i64 (bel[l[i].elem.toNat] : Nat) := hbs.nth hbi
                have hat4 := hbs.at .i64 hbi
                rw [Int.toNat_of_nonneg hel.1] at hat4
                rw [getD_get hbi] at hcb
                have ew : IntKind.i64.wrap ((min 5001 (1 + ps) : Nat) + IntKind.i64.wrap (16 * (bel[l[i].elem.toNat] : Nat))) = ((min 5001 (1 + ps) + 16 * bel[l[i].elem.toNat] : Nat) : Int) := by
                  rw [wrap_i64' (n := 16 * (bel[l[i].elem.toNat] : Nat)) (by omega) (by omega), wrap_i64' (by omega) (by omega)]; omega
                have hw : min 5001 (min 5001 (1 + ps) + 16 * bel[l[i].elem.toNat]) = w1 l[i] bel out := by
                  unfold w1 contrib
                  rw [if_neg h4, if_pos h7, getD_get hbi, hps, if_neg (by omega)]; omega
                simp only [go_sem, reduceIte, reduceCtorEq, Nat.reduceAdd, Nat.reduceSub, Nat.reduceEqDiff, Nat.reduceLeDiff, Nat.reduceBEq, Nat.reduceLT, hd0, hat, e1, h4', h7', hat4, e4, ew, min5001]
                refine (ho.push ts).xv (elems_list · _ _ _) (all2_one (R := IsN) (x := min 5001 (min 5001 (1 + ps) + 16 * bel[l[i].elem.toNat])) rfl) (by simp; omega) fun y' n' e' ho' => ?_
                simp only [go_sem, reduceIte, reduceCtorEq, Nat.reduceAdd, Nat.reduceSub, Nat.reduceEqDiff, Nat.reduceLeDiff, Nat.reduceBEq, Nat.reduceLT, hsuc]
                rw [hw, ← hsucc] at ho'
                exact ⟨i + 1, by omega, h, _, _, _, ho', rfl⟩
              · have h7' : (l[i].kind == 7) = false := by simpa using h7
                have hw : min 5001 (1 + ps) = w1 l[i] bel out := by
                  unfold w1 contrib
                  rw [if_neg h4, if_neg h7, hps]; omega
                simp only [go_sem, reduceIte, reduceCtorEq, Nat.reduceAdd, Nat.reduceSub, Nat.reduceEqDiff, Nat.reduceLeDiff, Nat.reduceBEq, Nat.reduceLT, hd0, hat, e1, h4', h7']
                refine (ho.push ts).xv (elems_list · _ _ _) (all2_one (R := IsN) (x := min 5001 (1 + ps)) rfl) (by simp; omega) fun y' n' e' ho' => ?_
                simp only [go_sem, reduceIte, reduceCtorEq, Nat.reduceAdd, Nat.reduceSub, Nat.reduceEqDiff, Nat.reduceLeDiff, Nat.reduceBEq, Nat.reduceLT, hsuc]
                rw [hw, ← hsucc] at ho'
                exact ⟨i + 1, by omega, h, _, _, _, ho', rfl⟩
      · have : i = l.length := by omega
        subst this
        rw [List.take_length] at ho
        simp only [go_sem, reduceIte, reduceCtorEq, Nat.reduceAdd, Nat.reduceSub, Nat.reduceEqDiff, Nat.reduceLeDiff, Nat.reduceBEq, Nat.reduceLT, Int.ofNat_lt, h, hx.len]
        exact fin_own ho

end Go.Proofs.W
