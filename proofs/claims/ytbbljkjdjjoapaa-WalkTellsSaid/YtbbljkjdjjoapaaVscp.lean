/-
  Vscp: the builtin copy onto a slice over a block.
-/
import Derived.Test.YtbbljkjdjjoapaaVsk
namespace Go.Vs
open Go.RowKit

section
variable {P : Program} {g : G} {w : World} {ρ : List AV} {a : Act} {m m' : Mem} {o : Oper} {r : AV}

/-- The cells that a source of a copy holds. -/
theorem src_cells (I : Inv g w m) {s : Nat} (h0 : 0 < s) {y : AV} {v : Value} {ys : List AV} (hns : ∀ b, y ≠ .str b) (hy : m.elems s y = some ys) (h : Rep g w y v) :
    ∃ base cap us, v = .slice base ys.length cap ∧ Reps g w (ys.flatMap AV.cells) us ∧ us.length = ys.length * s ∧ (∀ (i : Nat) (x : AV), ys[i]? = some x → x.cells.length = s) ∧
      (base = none → ys = []) ∧ ∀ ad, base = some ad → ∀ (j : Nat) (u : Value), us[j]? = some u → w.cell? (ad.add j) = some u := by
  unfold Mem.elems at hy
  split at hy
  · rename_i l k st off len
    split at hy
    · rename_i cs hblk
      split at hy
      · rename_i hcond
        simp only [Bool.and_eq_true, decide_eq_true_eq] at hcond
        injection hy with hy; subst hy
        obtain ⟨q1, q2, q3⟩ := chunk_cells h0 len (cs.drop off) (by simp; omega) hcond.2
        rw [q1, q3]
        rcases arr_sound I h hblk with ⟨rfl, b, cap, hv⟩ | ⟨b, oo, cap, us, hv, hcap, hreps, hcell⟩
        · exact ⟨some b, cap, [], hv, by simpa using Reps.nil g w, by simp, q2, fun e => (by cases e), fun ad _ j u hj => by simp at hj⟩
        · refine ⟨_, cap, us.take (len * s), hv, hreps.take (len * s), ?_, q2, fun e => (by cases e), fun ad had j u hj => ?_⟩
          · rw [List.length_take, hreps.1, List.length_drop]; omega
          · injection had with had; subst had
            rw [List.getElem?_take] at hj
            split at hj
            · rw [add_plain]; exact hcell j u hj
            · cases hj
      · cases hy
    · cases hy
  rename_i hna
  clear hna
  unfold elemsOf at hy
  split at hy
  · injection hy with hy; subst hy
    rw [h.inv_nils]
    exact ⟨none, 0, [], rfl, Reps.nil g w, by simp, fun i x hx => by simp at hx, fun _ => rfl, fun ad e => by cases e⟩
  · rename_i s' tk xs
    split at hy
    · rename_i hs
      have hs' : s' = s := eq_of_beq hs
      subst hs'
      injection hy with hy; subst hy
      rcases h.inv_list with ⟨b, oo, cap, hv, hsz, hcap, htk, f, hc, hr⟩ | ⟨rfl, b, cap, hv, _⟩
      · obtain ⟨us, k1, k2, k3⟩ := cells_of_list h0 hsz hc hr
        refine ⟨_, cap, us, hv, k1, k2, hsz, fun e => (by cases e), fun ad had j u hj => ?_⟩
        injection had with had; subst had
        rw [add_plain]; exact (k3 j u hj).1
      · exact ⟨some b, cap, [], hv, Reps.nil g w, by simp, fun i x hx => by simp at hx, fun e => (by cases e), fun ad _ j u hj => by simp at hj⟩
    · cases hy
  · exact absurd rfl (hns _)
  · cases hy

/-- Cells of elements that all have s. -/
theorem flat_len {s : Nat} : ∀ (zs : List AV), (∀ (i : Nat) (x : AV), zs[i]? = some x → x.cells.length = s) → (zs.flatMap AV.cells).length = zs.length * s
  | [], _ => by simp
  | z :: zs, h => by
    rw [List.flatMap_cons, List.length_append, h 0 z rfl, flat_len zs (fun i x hx => h (i + 1) x (by simpa using hx)), List.length_cons, Nat.add_mul]
    omega

theorem flat_take {s : Nat} : ∀ (n : Nat) (zs : List AV), (∀ (i : Nat) (x : AV), zs[i]? = some x → x.cells.length = s) → (zs.take n).flatMap AV.cells = (zs.flatMap AV.cells).take (n * s)
  | 0, zs, _ => by simp
  | n + 1, [], _ => by simp
  | n + 1, z :: zs, h => by
    have h1 := h 0 z rfl
    rw [List.take_succ_cons, List.flatMap_cons, List.flatMap_cons, flat_take n zs (fun i x hx => h (i + 1) x (by simpa using hx)), Nat.add_mul, Nat.one_mul, Nat.add_comm (n * s) s, ← h1, List.take_length_add_append]

theorem run_copyS (w : World) (dT sT ty elem : TypeId) {ti : TypeInfo} (d : Option Addr) (dLen dCap sLen sCap : Nat) (sa : Option Addr) (cs : List Value) (w' : World)
    (hu : P.underlying dT = some (.slice elem)) (hi : P.info? elem = some ti)
    (hf : (Builtin.firstCells ti.size (Nat.min sLen dLen) (.slice sa sLen sCap)).run P w = .ok cs.toArray w)
    (hst : ∀ ad, d = some ad → (storeCells ad cs).run P w = .ok () w') (hn : d = none → w' = w) :
    (Builtin.copy_ #[dT, sT] ty #[.slice d dLen dCap, .slice sa sLen sCap]).run P w = .ok (goInt (Nat.min sLen dLen)) w' := by
  cases d with
  | none =>
    rw [hn rfl]
    simp [Builtin.copy_, run_underlying hu, Builtin.lenOf, sizeOf, typeInfo, hi, hf]
  | some ad =>
    simp [Builtin.copy_, run_underlying hu, Builtin.lenOf, sizeOf, typeInfo, hi, hf, hst ad rfl]

theorem copy_sound (hR : Reps g w ρ a.tmps.toList) (I : Inv g w m) {c : Call} {t tx e : TypeId} {x y : Operand} {x' y' : Opd} {ti : TypeInfo} (hop : o.op = .call c) (hc : c.callee = .builtin .copy) (hA : c.argTypes.toList = [t, tx]) (ha : c.args.toList = [x, y]) (hx : compOpd x = some x') (hy : compOpd y = some y')
    (ht : P.underlying t = some (.slice e)) (hi : P.info? e = some ti) (h0 : 0 < ti.size) (he : evCopy m ti.size (x'.ev ρ) (y'.ev ρ) = some (r, m')) : Yields P a o g w r m' := by
  have h1 := opd_sound hR hx
  have h2 := opd_sound hR hy
  have hargs : c.args = #[x, y] := by apply Array.ext'; simpa using ha
  have hargT : c.argTypes = #[t, tx] := by apply Array.ext'; simpa using hA
  have run : ∀ v w', (Builtin.copy_ #[t, tx] o.type #[a.eval x, a.eval y]).run P w = .ok v w' → (execOp a.eval o).run P w = .ok (.value v) w' := by
    intro v w' hv
    simp [execOp, hop, resolve, hc, hargs, hargT, invoke, builtin, hv]
  unfold evCopy at he
  split at he
  · cases he
  · rename_i _ l k st off len hd hns
    split at he
    · rename_i ys cs hys hb
      split at he
      · rename_i hcond
        simp only [Bool.and_eq_true, decide_eq_true_eq] at hcond
        obtain ⟨⟨c1, c2⟩, _⟩ := hcond
        obtain ⟨base, cap, us, hv, k1, k2, k3, k4, k5⟩ := src_cells I h0 (fun b hb => hns b hb) hys h2
        rw [hd] at h1
        have hmin : Nat.min ys.length len ≤ ys.length := Nat.min_le_left _ _
        have hmin2 : Nat.min ys.length len ≤ len := Nat.min_le_right _ _
        have hmul : Nat.min ys.length len * ti.size ≤ ys.length * ti.size := Nat.mul_le_mul_right _ hmin
        have hmul2 : Nat.min ys.length len * ti.size ≤ len * ti.size := Nat.mul_le_mul_right _ hmin2
        have hul : (us.take (len * ti.size)).length = Nat.min ys.length len * ti.size := by
          rw [List.length_take, k2]
          by_cases hle : ys.length ≤ len
          · have h1 : Nat.min ys.length len = ys.length := Nat.min_eq_left hle
            have := Nat.mul_le_mul_right ti.size hle
            rw [h1]; omega
          · have h1 : Nat.min ys.length len = len := Nat.min_eq_right (by omega)
            have := Nat.mul_le_mul_right ti.size (show len ≤ ys.length by omega)
            rw [h1]; omega
        have hfc : (Builtin.firstCells ti.size (Nat.min ys.length len) (.slice base ys.length cap)).run P w = .ok (us.take (len * ti.size)).toArray w := by
          cases base with
          | none =>
            have : us = [] := by
              have := k4 rfl
              subst this
              exact List.eq_nil_of_length_eq_zero (by simpa using k2)
            subst this
            simpa using run_firstCells_none (P := P) (w := w) ti.size (Nat.min ys.length len) ys.length cap
          | some sa =>
            refine run_firstCells_some (P := P) w ti.size _ sa ys.length cap _ hul (fun j v hj => ?_)
            rw [List.getElem?_take] at hj
            split at hj
            · exact k5 sa rfl j v hj
            · cases hj
        split at he
        · rename_i hn
          simp only [Option.some.injEq, Prod.mk.injEq] at he
          obtain ⟨rfl, rfl⟩ := he
          obtain ⟨d, dcap, hdv⟩ : ∃ d dcap, a.eval x = .slice d len dcap := by
            rcases h1.inv_arr with ⟨b, oo, en, dcap, _, hv, _⟩ | ⟨rfl, ad, dcap, hv⟩
            · exact ⟨_, _, hv⟩
            · exact ⟨_, _, hv⟩
          refine .pure I (v := .int .i64 0) (run _ _ ?_) (.int _ _)
          rw [hdv, hv]
          have hn' : Nat.min ys.length len = 0 := hn
          have hnil : us.take (len * ti.size) = [] := List.eq_nil_of_length_eq_zero (by rw [hul, hn']; simp)
          have := run_copyS (P := P) w t tx o.type e d len dcap ys.length cap base _ w ht hi hfc (fun ad _ => by rw [hnil]; simp [storeCells]) (fun _ => rfl)
          rw [hn'] at this
          exact this
        · rename_i hn
          simp only [Option.some.injEq, Prod.mk.injEq] at he
          obtain ⟨rfl, rfl⟩ := he
          have hn' : ¬ Nat.min ys.length len = 0 := hn
          rcases h1.inv_arr with ⟨b, oo, en, dcap, hb1, hdv, hcap⟩ | ⟨rfl, ad, dcap, hdv⟩
          rotate_left
          · exact absurd (by simp) hn
          have hsub : ∀ (i : Nat) (x : AV), (ys.take len)[i]? = some x → x.cells.length = ti.size := fun i x hx => by
            rw [List.getElem?_take] at hx
            split at hx
            · exact k3 i x hx
            · cases hx
          have hreps : Reps g w ((ys.take len).flatMap AV.cells) (us.take (len * ti.size)) := by rw [flat_take len ys k3]; exact k1.take _
          have hnl : ((ys.take len).flatMap AV.cells).length = Nat.min ys.length len * ti.size := by rw [← hreps.1, hul]
          have hpos : 0 < Nat.min ys.length len * ti.size := Nat.mul_pos (by omega) h0
          obtain ⟨b2, o2, e2, q1, q2, q3, q4⟩ := I.store (off := off) (new := (ys.take len).flatMap AV.cells) hb hb1 (by omega) (by omega) hreps
          rw [hb1] at q1
          obtain ⟨rfl, rfl, rfl⟩ : b = b2 ∧ oo = o2 ∧ en = e2 := by simpa using q1
          refine ⟨g, _, .int .i64 ((min ys.length len : Nat) : Int), .inl (run _ _ ?_), q3, q4, .int _ _⟩
          rw [hdv, hv]
          have hst := run_storeCells_cells (P := P) b (oo + off) (us.take (len * ti.size)) 0 w (fun j hj => by simpa using (q2 (oo + off + j) (by omega) (by omega)).2.2)
            (fun j hj => by simpa using (q2 (oo + off + j) (by omega) (by omega)).2.1) (hreps.one c2)
          simp only [Nat.add_zero] at hst
          exact run_copyS (P := P) w t tx o.type e (some ⟨b, oo + off, none⟩) len dcap ys.length cap base _ _ ht hi hfc (fun ad had => by injection had with had; subst had; exact hst) (fun e => by cases e)
      · cases he
    · cases he
  · cases he

end
end Go.Vs
