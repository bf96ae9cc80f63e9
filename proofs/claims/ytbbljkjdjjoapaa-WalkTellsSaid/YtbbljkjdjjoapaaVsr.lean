/-
  Vsr: code, calls: THE THEOREM: what the evaluator says of a call, the call does.
-/
import Derived.Test.YtbbljkjdjjoapaaVsqa
import Derived.Test.YtbbljkjdjjoapaaVsqb
namespace Go.Vs
open Go.RowKit

section
variable {P : Program} {O : Oracle} {ops : Array Oper} {al : List AOper} {m0 : Mem} {S : Nat → St} {W : Nat → Watch} {Q : Exit → Act → World → Prop}

theorem mid_all {rs0 : Nat → Bool} {X : Nat → Bool} {g : G} {w : World} {a : Act} (D : Dr P O ops al m0 S W) (M : Mid ops al S rs0 m0.stk.length X g w a) (hX : ∀ i, i < ops.size → X i = true) :
    Inv g w (S ops.size).m ∧ Reps g w (S ops.size).ρ a.tmps.toList ∧ g.rs = rs0 := by
  have cut : ∀ p, Cut ops.size X p ops.size := fun p i hi _ => ⟨fun _ => hi, fun _ => hX i hi⟩
  have nx : Nxt al ops.size X ops.size := ⟨Nat.le_refl _, cut _, .inl rfl⟩
  refine ⟨M.mem _ nx, ⟨by simp [M.len, D.reg_len ops.size (Nat.le_refl _)], fun t c v h1 h2 => ?_⟩, ?_⟩
  · obtain ⟨v', h3, h4⟩ := M.reg t ops.size c (Nat.le_refl _) (cut _) h1
    have h2' : a.tmps[t]? = some v := by simpa using h2
    rw [h3] at h2'
    injection h2' with h2'
    rw [← h2']; exact h4
  · funext st
    have := M.rsv _ nx st
    have h2 : (∃ i, Pend al S X ops.size i ∧ st = (S i).m.nx) ↔ False := by
      refine ⟨fun ⟨i, ⟨h1, _, _, h4⟩, _⟩ => ?_, False.elim⟩
      rw [hX i h1] at h4; cases h4
    rw [h2, or_false] at this
    cases h : g.rs st with
    | true => exact (this.1 h).symm
    | false => cases h' : rs0 st with
      | false => rfl
      | true => rw [this.2 h'] at h; cases h

/-- Something is ready as long as something is left. -/
theorem ready_some (D : Dr P O ops al m0 S W) (listed : Array Bool) (hsz : listed.size = ops.size) : ∀ j, j < ops.size → listed.getD j false = false → ∃ i, i ∈ Region.ready .any ops listed := by
  intro j
  induction j using Nat.strongRecOn with
  | _ j ih =>
    intro hj hl
    by_cases hall : ∀ i, i < j → listed.getD i false = true
    · refine ⟨j, ?_⟩
      unfold Region.ready
      rw [List.mem_filter]
      refine ⟨List.mem_range.2 hj, ?_⟩
      have hoj : ops[j]? = some ops[j] := Array.getElem?_eq_getElem hj
      have h1 : listed.getD j true = false := by
        have : j < listed.size := by omega
        rw [Array.getD_eq_getD_getElem?, Array.getElem?_eq_getElem this] at hl ⊢
        exact hl
      simp only [h1, Bool.not_false, Bool.true_and, hoj, Option.map_some, Option.getD_some]
      rw [Array.all_eq_true_iff_forall_mem]
      intro e he
      cases hb : Region.binds .any e with
      | false => rfl
      | true => simp [hall e.on (D.edge hoj he hb)]
    · have : ∃ i, i < j ∧ listed.getD i false = false := by
        refine Classical.byContradiction fun hne => hall fun i hi => ?_
        cases h : listed.getD i false with
        | true => rfl
        | false => exact absurd ⟨i, hi, h⟩ hne
      obtain ⟨i, hi, hli⟩ := this
      exact ih i hi (by omega) hli

theorem count_false_pos {l : List Bool} (h : l.count false = 0) : ∀ i, i < l.length → l.getD i false = true := by
  intro i hi
  rw [List.getD_eq_getElem?_getD, List.getElem?_eq_getElem hi, Option.getD_some]
  cases hq : l[i] with
  | true => rfl
  | false =>
    have : false ∈ l := by rw [← hq]; exact List.getElem_mem hi
    rw [List.count_eq_zero] at h
    exact absurd this h

theorem draw_any (D : Dr P O ops al m0 S W) (g0 : G) (w0 : World) (d0 : List Deferred) (hrs0 : ∀ st, g0.rs st = true → st < (S 0).m.nx) (hQ : ∀ g a w, Ext g0 w0 g w → Inv g w (S ops.size).m → Reps g w (S ops.size).ρ a.tmps.toList → a.defers = d0 → Q .normal a w) :
    ∀ (fuel : Nat) (listed : Array Bool) (g : G) (w : World) (a : Act), listed.size = ops.size → listed.toList.count false = fuel → Closed ops (fun i => listed.getD i false) → ExtW g0 w0 g w → Mid ops al S g0.rs m0.stk.length (fun i => listed.getD i false) g w a → a.defers = d0 →
      wpAny P .any ops Q fuel listed a w
  | 0, listed, g, w, a, hsz, hcnt, hX, hx, M, hd => by
    have hall : ∀ i, i < ops.size → listed.getD i false = true := by
      intro i hi
      have := count_false_pos hcnt i (by simp; omega)
      rw [List.getD_eq_getElem?_getD] at this
      rw [Array.getD_eq_getD_getElem?]
      simpa using this
    obtain ⟨h1, h2, h3⟩ := mid_all D M hall
    refine ⟨?_, hQ g a w ⟨hx, h3⟩ h1 h2 hd⟩
    unfold Region.ready
    rw [List.filter_eq_nil_iff]
    intro i hi
    have hlt : i < ops.size := List.mem_range.1 hi
    have hl := hall i hlt
    have : listed.getD i true = true := by
      have hh : i < listed.size := by omega
      rw [Array.getD_eq_getD_getElem?, Array.getElem?_eq_getElem hh] at hl ⊢
      exact hl
    simp [this]
  | fuel + 1, listed, g, w, a, hsz, hcnt, hX, hx, M, hd => by
    refine ⟨fun hnil => ?_, fun j hj => ?_⟩
    · exfalso
      have : ∃ j, j < ops.size ∧ listed.getD j false = false := by
        refine Classical.byContradiction fun hne => ?_
        have : listed.toList.count false = 0 := by
          rw [List.count_eq_zero]
          intro hm
          obtain ⟨i, hi⟩ := List.getElem?_of_mem hm
          have hlt : i < listed.size := by simpa using (List.getElem?_eq_some_iff.1 hi).1
          refine hne ⟨i, by omega, ?_⟩
          rw [Array.getD_eq_getD_getElem?]
          have : listed[i]? = some false := by simpa using hi
          rw [this]; rfl
        omega
      obtain ⟨j, hj, hl⟩ := this
      obtain ⟨i, hi⟩ := ready_some D listed hsz j hj hl
      rw [hnil] at hi; cases hi
    · unfold Region.ready at hj
      rw [List.mem_filter] at hj
      obtain ⟨h1, h2⟩ := hj
      have hjlt : j < ops.size := List.mem_range.1 h1
      have hoj : ops[j]? = some ops[j] := Array.getElem?_eq_getElem hjlt
      simp only [hoj, Option.map_some, Option.getD_some, Bool.and_eq_true, Bool.not_eq_true'] at h2
      obtain ⟨h3, h4⟩ := h2
      have hjl : j < listed.size := by omega
      have hXj : listed.getD j false = false := by
        rw [Array.getD_eq_getD_getElem?, Array.getElem?_eq_getElem hjl] at h3 ⊢
        exact h3
      have hset : (fun i => (listed.setIfInBounds j true).getD i false) = fun i => listed.getD i false || i == j := by
        funext i
        rw [Array.getD_eq_getD_getElem?, Array.getD_eq_getD_getElem?]
        by_cases hij : i = j
        · subst hij
          rw [Array.getElem?_setIfInBounds_self_of_lt hjl]
          simp
        · rw [Array.getElem?_setIfInBounds_ne (fun h => hij h.symm)]
          simp [hij]
      have hX' : Closed ops fun i => listed.getD i false || i == j := by
        intro k o hk hXk e he hb
        simp only [Bool.or_eq_true, beq_iff_eq] at hXk ⊢
        left
        rcases hXk with hXk | rfl
        · exact hX k o hk hXk e he hb
        · rw [hk] at hoj
          injection hoj with hoj
          subst hoj
          rw [Array.all_eq_true_iff_forall_mem] at h4
          have := h4 e he
          rw [hb] at this
          simpa using this
      refine M.next D hrs0 hoj hXj hX hX' _ fun g' a' w' hx' M' hd' => ?_
      refine draw_any D g0 w0 d0 hrs0 hQ fuel (listed.setIfInBounds j true) g' w' a' (by simpa using hsz) ?_ (by rw [hset]; exact hX') (hx.trans hx') (by rw [hset]; exact M') (hd'.trans hd)
      rw [Array.toList_setIfInBounds]
      have hget : listed.toList[j]'(by simpa using hjl) = false := by
        rw [Array.getD_eq_getD_getElem?, Array.getElem?_eq_getElem hjl] at hXj
        simpa using hXj
      have := List.count_set (a := true) (b := false) (l := listed.toList) (i := j) (by simpa using hjl)
      rw [this, hget, hcnt]
      simp

theorem draw_wp0  (hO : OracleOk P O) (hA : OracleAbove O) (hc : compDraw P ops = some al)
    {σ σ' : St} (hf : σ.m.floor ≤ σ.m.stk.length) (he : evDraw O σ.m [] al ⟨σ.ρ, { σ.m with floor := max σ.m.floor (σ.m.stk.length + 1) }⟩ = some σ') {g : G} {w : World} {a : Act} (hR : Reps g w σ.ρ a.tmps.toList) (I : Inv g w σ.m)
    (hK : Goes g w a σ'.ρ σ'.m (Q .normal)) : wpAny P .any ops Q ops.size (Array.replicate ops.size false) a { w with drawn := w.drawn + 1 } := by
  obtain ⟨S, W, h0, _, h1, h2⟩ := draw_trace he
  obtain ⟨hd, hn, hop⟩ := compDraw_ops hc
  have D : Dr P O ops al σ.m S W := ⟨hO, hA, hd, hop, h2, by rw [h0]; simp only; rw [Nat.max_eq_right (by omega)], hf⟩
  have hrep : (fun i => (Array.replicate ops.size false).getD i false) = fun _ => false := by
    funext i
    rw [Array.getD_eq_getD_getElem?, Array.getElem?_replicate]
    split <;> rfl
  have hcut0 : ∀ p k, k ≤ ops.size → Cut ops.size (fun _ => false) p k → ∀ i, i < k → p i = false := by
    intro p k hk h i hi
    cases hp : p i with
    | false => rfl
    | true => have := (h i (by omega) hp).2 hi; cases this
  have hnx : (S 0).m.nx = σ.m.nx := by rw [D.h0]
  obtain ⟨k, hk⟩ := D.nxt (X := fun _ => false) (fun j o _ h => by cases h)
  have I0 : Inv g w.drew (S 0).m := by rw [D.h0]; exact inv_floor _ I.drew
  obtain ⟨g1, e1, e2, e3⟩ := D.reserve 0 k (Nat.zero_le _) hk.1 (fun i _ hi => hcut0 _ k hk.1 hk.2.1 i hi) I0
  have hx1 : ExtW g w g1 w.drew := (Ext.drew g w).toExtW.trans e1
  refine draw_any D g w a.defers (fun st h => by rw [hnx]; exact (I.rsv st h).2) (fun g' a' w' hx hI hR' hd' => ?_) ops.size _ g1 _ a (by simp) ?_ (by rw [hrep]; intro j o _ h; cases h) hx1 ?_ rfl
  · rw [← hn, h1] at hI hR'
    exact hK g' a' w' hx hI hR' hd'
  · simp [List.count_replicate]
  · rw [hrep]
    refine ⟨fun q hq => ?_, fun q hq st => ?_, fun q hq i hp => ?_, fun t k x hk hcut hx => ?_, by rw [h0]; simpa using hR.1⟩
    · rw [hq.uniq hk]; exact e2
    · rw [hq.uniq hk, e3 st]
      constructor
      · rintro (h | ⟨i, _, b1, b2, b3, b4⟩)
        · exact .inl h
        · exact .inr ⟨i, ⟨b1, b2, b3, rfl⟩, b4⟩
      · rintro (h | ⟨i, ⟨b1, b2, b3, _⟩, b4⟩)
        · exact .inl h
        · exact .inr ⟨i, Nat.zero_le _, b1, b2, b3, b4⟩
    · rw [hq.uniq hk] at hp ⊢
      obtain ⟨b1, b2, b3, _⟩ := hp
      have hg2 := D.grew (i + 1) k (by omega) hk.1 (fun q _ a2 => hcut0 _ k hk.1 hk.2.1 q a2)
      exact hg2.blk (D.made_blk (by have := hk.1; omega) b2 b3)
    · have := D.reg_const t 0 k (Nat.zero_le _) hk (fun i _ hi => hcut0 _ k hk hcut i hi)
      rw [this, h0] at hx
      obtain ⟨v, h3, h4⟩ := hR.get hx
      exact ⟨v, by simpa using h3, h4.monoW hx1⟩

theorem draw_wp {id : Nat} (hM : P.follows .mixedOrders = true) (hO : OracleOk P O) (hA : OracleAbove O) (hc : compDraw P (permOps ops) = some al)
    {σ σ' : St} (hf : σ.m.floor ≤ σ.m.stk.length) (he : evDraw O σ.m [] al ⟨σ.ρ, { σ.m with floor := max σ.m.floor (σ.m.stk.length + 1) }⟩ = some σ') {g : G} {w : World} {a : Act} (hR : Reps g w σ.ρ a.tmps.toList) (I : Inv g w σ.m)
    (hK : Goes g w a σ'.ρ σ'.m (Q .normal)) : (Code.region id ops true).wp P Q a w := by
  refine wp_region_any hM ?_
  have hp := permOf_ops ops
  have hfalse : ∀ n i, (Array.replicate n false).getD i false = false := by
    intro n i
    rw [Array.getD_eq_getD_getElem?, Array.getElem?_replicate]
    split <;> rfl
  have h0 := draw_wp0 (Q := Q) hO hA hc hf he hR I hK
  rw [hp.size] at h0
  exact hp.wpAny ops.size _ _ a _ (by simp) (by simp) (fun i _ => by rw [hfalse, hfalse]) h0

theorem evDraw_above (hA : OracleAbove O) {m1 : Mem} : ∀ {l : List AOper} {ws : Watch} {σ σ' : St}, m1.floor ≤ m1.stk.length → σ.m.stk.length = m1.stk.length → σ.m.floor = m1.stk.length + 1 → evDraw O m1 ws l σ = some σ' →
    σ'.m.stk.length = m1.stk.length ∧ (∀ l k st cs, l < m1.floor → σ.m.blk l k st = some cs → σ'.m.blk l k st = some cs) ∧ σ.m.nx ≤ σ'.m.nx
  | [], ws, σ, σ', _, h1, _, h => by simp [evDraw] at h; subst h; exact ⟨h1, fun _ _ _ _ _ h => h, Nat.le_refl _⟩
  | o :: r, ws, σ, σ', hf, h1, h2, h => by
    simp only [evDraw] at h
    split at h
    · split at h
      · rename_i q hq
        exact evDraw_above hA (σ := ⟨q.ρ, σ.m⟩) hf h1 h2 h
      · cases h
    · split at h
      · split at h
        · split at h
          · rename_i q hq
            have k := evOper_above hA (σ := ⟨σ.ρ, { σ.m with floor := m1.floor }⟩) (by simp only; omega) (fun _ => by simp only; omega) hq
            obtain ⟨a1, a2, a3⟩ := evDraw_above hA (σ := ⟨q.ρ, { q.m with floor := σ.m.floor }⟩) hf (by simp only; rw [k.len]; exact h1) (by simp only; exact h2) h
            exact ⟨a1, fun l i st cs hl hb => a2 l i st cs hl (k.blk l i st cs hl hb), Nat.le_trans k.nx a3⟩
          · cases h
        · cases h
      · split at h
        · rename_i q hq
          have k := evOper_above hA (by rw [h1, h2]; omega) (fun hh => by simp_all) hq
          obtain ⟨a1, a2, a3⟩ := evDraw_above hA (σ := q) hf (k.len.trans h1) (k.floor.trans h2) h
          exact ⟨a1, fun l i st cs hl hb => a2 l i st cs hl (k.blk l i st cs (by rw [h2]; omega) hb), Nat.le_trans k.nx a3⟩
        · cases h

end
end Go.Vs
