/-
  Vsr: code, calls: THE THEOREM: what the evaluator says of a call, the call does.
-/
import Derived.Test.YtbnkcloiaeobmaaVsq
namespace Go.Vs
open Go.RowKit

section
variable {P : Program} {O : Oracle} {ops : Array Oper} {al : List AOper} {m0 : Mem} {S : Nat → St} {Q : Exit → Act → World → Prop}

theorem mid_all {X : Nat → Bool} {g : G} {w : World} {a : Act} (D : Dr P O ops al m0 S) (M : Mid ops S X g w a) (hX : ∀ i, i < ops.size → X i = true) : Inv g w (S ops.size).m ∧ Reps g w (S ops.size).ρ a.tmps.toList := by
  have cut : ∀ p, Cut ops.size X p ops.size := fun p i hi _ => ⟨fun _ => hi, fun _ => hX i hi⟩
  refine ⟨M.mem _ (Nat.le_refl _) (cut _), by simp [M.len, D.reg_len ops.size (Nat.le_refl _)], fun t c v h1 h2 => ?_⟩
  obtain ⟨v', h3, h4⟩ := M.reg t ops.size c (Nat.le_refl _) (cut _) h1
  have h2' : a.tmps[t]? = some v := by simpa using h2
  rw [h3] at h2'
  injection h2' with h2'
  rw [← h2']; exact h4

/-- Something is ready as long as something is left. -/
theorem ready_some (D : Dr P O ops al m0 S) (listed : Array Bool) (hsz : listed.size = ops.size) : ∀ j, j < ops.size → listed.getD j false = false → ∃ i, i ∈ Region.ready .any ops listed := by
  intro j
  induction j using Nat.strongRecOn with
  | _ j ih =>
    intro hj hl
    by_cases hall : ∀ i, i < j → listed.getD i false = true
    · refine ⟨j, ?_⟩
      unfold Region.ready
      rw [List.mem_filter]
      refine ⟨List.mem_range.2 hj, ?_⟩
      have hoj : ops[j]? = some ops[j] := Array.getElem?_eq_getElem hj
      have h1 : listed.getD j true = false := by
        have : j < listed.size := by omega
        rw [Array.getD_eq_getD_getElem?, Array.getElem?_eq_getElem this] at hl ⊢
        exact hl
      simp only [h1, Bool.not_false, Bool.true_and, hoj, Option.map_some, Option.getD_some]
      rw [Array.all_eq_true_iff_forall_mem]
      intro e he
      cases hb : Region.binds .any e with
      | false => rfl
      | true => simp [hall e.on (D.edge hoj he hb)]
    · have : ∃ i, i < j ∧ listed.getD i false = false := by
        refine Classical.byContradiction fun hne => hall fun i hi => ?_
        cases h : listed.getD i false with
        | true => rfl
        | false => exact absurd ⟨i, hi, h⟩ hne
      obtain ⟨i, hi, hli⟩ := this
      exact ih i hi (by omega) hli

theorem count_false_pos {l : List Bool} (h : l.count false = 0) : ∀ i, i < l.length → l.getD i false = true := by
  intro i hi
  rw [List.getD_eq_getElem?_getD, List.getElem?_eq_getElem hi, Option.getD_some]
  cases hq : l[i] with
  | true => rfl
  | false =>
    have : false ∈ l := by rw [← hq]; exact List.getElem_mem hi
    rw [List.count_eq_zero] at h
    exact absurd this h

theorem draw_any (D : Dr P O ops al m0 S) (g0 : G) (w0 : World) (d0 : List Deferred) (hQ : ∀ g a w, Ext g0 w0 g w → Inv g w (S ops.size).m → Reps g w (S ops.size).ρ a.tmps.toList → a.defers = d0 → Q .normal a w) :
    ∀ (fuel : Nat) (listed : Array Bool) (g : G) (w : World) (a : Act), listed.size = ops.size → listed.toList.count false = fuel → Closed ops (fun i => listed.getD i false) → Ext g0 w0 g w → Mid ops S (fun i => listed.getD i false) g w a → a.defers = d0 →
      wpAny P .any ops Q fuel listed a w
  | 0, listed, g, w, a, hsz, hcnt, hX, hx, M, hd => by
    have hall : ∀ i, i < ops.size → listed.getD i false = true := by
      intro i hi
      have := count_false_pos hcnt i (by simp; omega)
      rw [List.getD_eq_getElem?_getD] at this
      rw [Array.getD_eq_getD_getElem?]
      simpa using this
    obtain ⟨h1, h2⟩ := mid_all D M hall
    refine ⟨?_, hQ g a w hx h1 h2 hd⟩
    unfold Region.ready
    rw [List.filter_eq_nil_iff]
    intro i hi
    have hlt : i < ops.size := List.mem_range.1 hi
    have hl := hall i hlt
    have : listed.getD i true = true := by
      have hh : i < listed.size := by omega
      rw [Array.getD_eq_getD_getElem?, Array.getElem?_eq_getElem hh] at hl ⊢
      exact hl
    simp [this]
  | fuel + 1, listed, g, w, a, hsz, hcnt, hX, hx, M, hd => by
    refine ⟨fun hnil => ?_, fun j hj => ?_⟩
    · exfalso
      have : ∃ j, j < ops.size ∧ listed.getD j false = false := by
        refine Classical.byContradiction fun hne => ?_
        have : listed.toList.count false = 0 := by
          rw [List.count_eq_zero]
          intro hm
          obtain ⟨i, hi⟩ := List.getElem?_of_mem hm
          have hlt : i < listed.size := by simpa using (List.getElem?_eq_some_iff.1 hi).1
          refine hne ⟨i, by omega, ?_⟩
          rw [Array.getD_eq_getD_getElem?]
          have : listed[i]? = some false := by simpa using hi
          rw [this]; rfl
        omega
      obtain ⟨j, hj, hl⟩ := this
      obtain ⟨i, hi⟩ := ready_some D listed hsz j hj hl
      rw [hnil] at hi; cases hi
    · unfold Region.ready at hj
      rw [List.mem_filter] at hj
      obtain ⟨h1, h2⟩ := hj
      have hjlt : j < ops.size := List.mem_range.1 h1
      have hoj : ops[j]? = some ops[j] := Array.getElem?_eq_getElem hjlt
      simp only [hoj, Option.map_some, Option.getD_some, Bool.and_eq_true, Bool.not_eq_true'] at h2
      obtain ⟨h3, h4⟩ := h2
      have hjl : j < listed.size := by omega
      have hXj : listed.getD j false = false := by
        rw [Array.getD_eq_getD_getElem?, Array.getElem?_eq_getElem hjl] at h3 ⊢
        exact h3
      have hset : (fun i => (listed.setIfInBounds j true).getD i false) = fun i => listed.getD i false || i == j := by
        funext i
        rw [Array.getD_eq_getD_getElem?, Array.getD_eq_getD_getElem?]
        by_cases hij : i = j
        · subst hij
          rw [Array.getElem?_setIfInBounds_self_of_lt hjl]
          simp
        · rw [Array.getElem?_setIfInBounds_ne (fun h => hij h.symm)]
          simp [hij]
      have hX' : Closed ops fun i => listed.getD i false || i == j := by
        intro k o hk hXk e he hb
        simp only [Bool.or_eq_true, beq_iff_eq] at hXk ⊢
        left
        rcases hXk with hXk | rfl
        · exact hX k o hk hXk e he hb
        · rw [hk] at hoj
          injection hoj with hoj
          subst hoj
          rw [Array.all_eq_true_iff_forall_mem] at h4
          have := h4 e he
          rw [hb] at this
          simpa using this
      refine M.next D hoj hXj hX hX' _ fun g' a' w' hx' M' hd' => ?_
      refine draw_any D g0 w0 d0 hQ fuel (listed.setIfInBounds j true) g' w' a' (by simpa using hsz) ?_ (by rw [hset]; exact hX') (hx.trans hx') (by rw [hset]; exact M') (hd'.trans hd)
      rw [Array.toList_setIfInBounds]
      have hget : listed.toList[j]'(by simpa using hjl) = false := by
        rw [Array.getD_eq_getD_getElem?, Array.getElem?_eq_getElem hjl] at hXj
        simpa using hXj
      have := List.count_set (a := true) (b := false) (l := listed.toList) (i := j) (by simpa using hjl)
      rw [this, hget, hcnt]
      simp

theorem draw_wp {id : Nat} (hM : P.follows .mixedOrders = true) (hO : OracleOk P O) (hA : OracleAbove O) (hd : drawOk ops (masks ops.toList []) = true) (hc : compOpers P ops (fltOf ops (masks ops.toList [])) 0 ops.toList = some al) (hr : readsOk ops ops.toList al = true)
    {σ σ' : St} (hf : σ.m.floor ≤ σ.m.stk.length) (he : evDraw O σ.m al ⟨σ.ρ, { σ.m with floor := max σ.m.floor (σ.m.stk.length + 1) }⟩ = some σ') {g : G} {w : World} {a : Act} (hR : Reps g w σ.ρ a.tmps.toList) (I : Inv g w σ.m)
    (hK : Goes g w a σ'.ρ σ'.m (Q .normal)) : (Code.region id ops true).wp P Q a w := by
  obtain ⟨S, h0, h1, h2⟩ := draw_trace he
  obtain ⟨hlen, _⟩ := compOpers_get hc
  have hn : al.length = ops.size := by rw [hlen]; simp
  have D : Dr P O ops al σ.m S := ⟨hO, hA, hd, hc, hr, h2, by rw [h0]; simp only; rw [Nat.max_eq_right (by omega)], hf⟩
  refine wp_region_any hM ?_
  have hrep : (fun i => (Array.replicate ops.size false).getD i false) = fun _ => false := by
    funext i
    rw [Array.getD_eq_getD_getElem?, Array.getElem?_replicate]
    split <;> rfl
  have hcut0 : ∀ p k, k ≤ ops.size → Cut ops.size (fun _ => false) p k → ∀ i, i < k → p i = false := by
    intro p k hk h i hi
    cases hp : p i with
    | false => rfl
    | true => have := (h i (by omega) hp).2 hi; cases this
  refine draw_any D g w a.defers (fun g' a' w' hx hI hR' hd' => ?_) ops.size _ g _ a (by simp) ?_ (by rw [hrep]; intro j o _ h; cases h) (Ext.drew g w) ?_ rfl
  · rw [← hn, h1] at hI hR'
    exact hK g' a' w' hx hI hR' hd'
  · simp [List.count_replicate]
  · rw [hrep]
    refine ⟨fun k hk hcut => ?_, fun t k x hk hcut hx => ?_, by rw [h0]; simpa using hR.1⟩
    · have := D.mem_const 0 k (Nat.zero_le _) hk (fun i _ hi => hcut0 _ k hk hcut i hi)
      rw [this, D.h0]
      exact inv_floor _ I.drew
    · have := D.reg_const t 0 k (Nat.zero_le _) hk (fun i _ hi => hcut0 _ k hk hcut i hi)
      rw [this, h0] at hx
      obtain ⟨v, h3, h4⟩ := hR.get hx
      exact ⟨v, by simpa using h3, h4.drew⟩

theorem evDraw_above (hA : OracleAbove O) {m1 : Mem} : ∀ {l : List AOper} {σ σ' : St}, m1.floor ≤ m1.stk.length → σ.m.stk.length = m1.stk.length → σ.m.floor = m1.stk.length + 1 → evDraw O m1 l σ = some σ' →
    σ'.m.stk.length = m1.stk.length ∧ (∀ l k st cs, l < m1.floor → σ.m.blk l k st = some cs → σ'.m.blk l k st = some cs)
  | [], σ, σ', _, h1, _, h => by simp [evDraw] at h; subst h; exact ⟨h1, fun _ _ _ _ _ h => h⟩
  | o :: r, σ, σ', hf, h1, h2, h => by
    simp only [evDraw] at h
    split at h
    · split at h
      · rename_i q hq
        exact evDraw_above hA (σ := ⟨q.ρ, σ.m⟩) hf h1 h2 h
      · cases h
    · split at h
      · split at h
        · rename_i q hq
          have k := evOper_above hA (σ := ⟨σ.ρ, { σ.m with floor := m1.floor }⟩) (by simp only; omega) (fun _ => by simp only; omega) hq
          obtain ⟨a1, a2⟩ := evDraw_above hA (σ := ⟨q.ρ, { q.m with floor := σ.m.floor }⟩) hf (by simp only; rw [k.len]; exact h1) (by simp only; exact h2) h
          exact ⟨a1, fun l i st cs hl hb => a2 l i st cs hl (k.blk l i st cs hl hb)⟩
        · cases h
      · split at h
        · rename_i q hq
          have k := evOper_above hA (by rw [h1, h2]; omega) (fun hh => by simp_all) hq
          obtain ⟨a1, a2⟩ := evDraw_above hA (σ := q) hf (k.len.trans h1) (k.floor.trans h2) h
          exact ⟨a1, fun l i st cs hl hb => a2 l i st cs hl (k.blk l i st cs (by rw [h2]; omega) hb)⟩
        · cases h

end
end Go.Vs
