/-
  Vsqa: a region that draws its order: the induction over what is still to come.
-/
import Derived.Test.YtbbljkjdjjoapaaVsq
namespace Go.Vs
open Go.RowKit

section
variable {P : Program} {O : Oracle} {ops : Array Oper} {al : List AOper} {m0 : Mem} {S : Nat → St} {W : Nat → Watch} {Q : Exit → Act → World → Prop}

/-- Still to be made. -/
def Pend (al : List AOper) (S : Nat → St) (X : Nat → Bool) (k i : Nat) : Prop := i < k ∧ isA al i = true ∧ (S (i + 1)).m.nx ≠ (S i).m.nx ∧ X i = false

/-- What holds while some of a region's operations have been carried out. -/
structure Mid (ops : Array Oper) (al : List AOper) (S : Nat → St) (rs0 : Nat → Bool) (L : Nat) (X : Nat → Bool) (g : G) (w : World) (a : Act) : Prop where
  mem : ∀ k, Nxt al ops.size X k → Inv g w (S k).m
  rsv : ∀ k, Nxt al ops.size X k → ∀ st, g.rs st = true ↔ (rs0 st = true ∨ ∃ i, Pend al S X k i ∧ st = (S i).m.nx)
  cont : ∀ k, Nxt al ops.size X k → ∀ i, Pend al S X k i → (S k).m.blk L (S i).m.cur.length (S i).m.nx = some (content S i)
  reg : ∀ t k x, k ≤ ops.size → Cut ops.size X (wr ops t) k → (S k).ρ[t]? = some x → ∃ v, a.tmps[t]? = some v ∧ Rep g w x v
  len : a.tmps.size = (S 0).ρ.length

/-- There is a next one. -/
theorem Dr.nxt (D : Dr P O ops al m0 S W) {X : Nat → Bool} (hX : Closed ops X) : ∃ k, Nxt al ops.size X k := by
  have least : ∀ n, n ≤ ops.size → ∃ k, k ≤ n ∧ (∀ i, i < k → isB al i = true → X i = true) ∧ (k = n ∨ (isB al k = true ∧ X k = false)) := by
    intro n
    induction n with
    | zero => exact fun _ => ⟨0, Nat.le_refl _, fun i hi => by omega, .inl rfl⟩
    | succ n ih =>
      intro hn
      obtain ⟨k, h1, h2, h3⟩ := ih (by omega)
      rcases h3 with rfl | h3
      · by_cases hb : isB al k = true ∧ X k = false
        · exact ⟨k, by omega, h2, .inr hb⟩
        · refine ⟨k + 1, Nat.le_refl _, fun i hi hB => ?_, .inl rfl⟩
          by_cases hik : i = k
          · subst hik
            cases hx : X i with
            | true => rfl
            | false => exact absurd ⟨hB, hx⟩ hb
          · exact h2 i (by omega) hB
      · exact ⟨k, by omega, h2, .inr h3⟩
  obtain ⟨k, h1, h2, h3⟩ := least ops.size (Nat.le_refl _)
  refine ⟨k, h1, fun i hi hB => ⟨fun hXi => ?_, fun hlt => h2 i hlt hB⟩, h3.imp id (fun h => h.1)⟩
  rcases Nat.lt_or_ge i k with hlt | hge
  · exact hlt
  · exfalso
    rcases h3 with rfl | ⟨hBk, hXk⟩
    · omega
    · have hne : k ≠ i := fun e => by subst e; rw [hXk] at hXi; cases hXi
      have hkn : k < ops.size := by omega
      obtain ⟨ok, ak, p1, p2, _⟩ := D.at_ hkn
      obtain ⟨oi, ai, q1, q2, _⟩ := D.at_ hi
      unfold isB at hBk hB
      rw [opAt_of p2] at hBk
      rw [opAt_of q2] at hB
      have hord : ordered (masks ops.toList []) k i = true := by
        cases ho : ordered (masks ops.toList []) k i with
        | true => rfl
        | false =>
          have := (D.pair p1 q1 p2 q2 hne ho).2.1
          rw [hBk, hB] at this; cases this
      have := closed_ordered hX (i := k) (j := i) (by omega) (.inl hord) hXi
      rw [hXk] at this; cases this

/-- The next operation. -/
theorem Mid.next (D : Dr P O ops al m0 S W) {rs0 : Nat → Bool} (hrs0 : ∀ st, rs0 st = true → st < (S 0).m.nx) {X : Nat → Bool} {g : G} {w : World} {a : Act} (M : Mid ops al S rs0 m0.stk.length X g w a) {j : Nat} {o : Oper} (ho : ops[j]? = some o) (hXj : X j = false) (hX : Closed ops X)
    (hX' : Closed ops fun i => X i || i == j) (K : Act → World → Prop) (hK : ∀ g' a' w', ExtW g w g' w' → Mid ops al S rs0 m0.stk.length (fun i => X i || i == j) g' w' a' → a'.defers = a.defers → K a' w') : wpOp P ops Q j K a w := by
  have hjlt : j < ops.size := (Array.getElem?_eq_some_iff.1 ho).1
  obtain ⟨ao, ha, hisop, hreads⟩ := D.hop j o ho
  obtain ⟨b, r, hw, hρ, hfalse, htrue⟩ := D.step ha
  obtain ⟨op0, hop, hevop, hkop⟩ := hisop.op
  have hdst := hisop.dst
  have hguard := hisop.guard
  -- what is ordered against j
  have hord : ∀ i, i < ops.size → i ≠ j → ordered (masks ops.toList []) i j = true → (X i = true ↔ i < j) := by
    intro i hi hne h
    constructor
    · intro hXi
      rcases Nat.lt_or_ge i j with hlt | hge
      · exact hlt
      · have := closed_ordered hX (i := j) (j := i) (by omega) (.inr h) hXi
        rw [hXj] at this; cases this
    · intro hlt
      have := closed_ordered hX' (i := i) (j := j) hlt (.inl h) (by simp)
      simp only [Bool.or_eq_true, beq_iff_eq] at this
      exact this.resolve_right hne
  have hpair : ∀ i oi ai, ops[i]? = some oi → al[i]? = some ai → i ≠ j → (clash ops oi o = true ∨ (mvB ai.op = true ∧ mvB ao.op = true)) → ordered (masks ops.toList []) i j = true := by
    intro i oi ai h1 h2 hne h
    cases hoo : ordered (masks ops.toList []) i j with
    | true => rfl
    | false =>
      obtain ⟨q1, q2, _⟩ := D.pair h1 ho h2 ha hne hoo
      rcases h with h | ⟨h, h'⟩
      · rw [h] at q1; cases q1
      · rw [h, h'] at q2; cases q2
  -- the registers that it looks at
  have hlook : ∀ t ∈ looksAt ops o, Cut ops.size X (wr ops t) j := by
    intro t ht i hi hwr
    obtain ⟨oi, ai, h1, h2, _⟩ := D.at_ hi
    simp only [wr, h1, beq_iff_eq] at hwr
    by_cases hne : i = j
    · subst hne
      constructor
      · intro h; rw [hXj] at h; cases h
      · intro h; omega
    · refine hord i hi hne (hpair i oi ai h1 h2 hne (.inl ?_))
      unfold clash
      rw [hwr]
      simp [ht]
  have hmask : Reps g w (mask (looksAt ops o) (S j).ρ) a.tmps.toList := by
    refine ⟨by simp [mask_length, D.reg_len j (by omega), M.len], fun t c v h1 h2 => ?_⟩
    rw [mask_get] at h1
    simp only [Option.map_eq_some_iff] at h1
    obtain ⟨x, hx, h1⟩ := h1
    by_cases ht : t ∈ looksAt ops o
    · have hcon : (looksAt ops o).contains t = true := by simpa using ht
      rw [if_pos hcon] at h1
      subst h1
      obtain ⟨v', h3, h4⟩ := M.reg t j x (by omega) (hlook t ht) hx
      have h2' : a.tmps[t]? = some v := by simpa using h2
      rw [h3] at h2'
      injection h2' with h2'
      rw [← h2']; exact h4
    · have hcon : ¬ (looksAt ops o).contains t = true := by simpa using ht
      rw [if_neg hcon] at h1
      subst h1
      exact .undef v
  have hwant : wanted (mask (looksAt ops o) (S j).ρ) ao.guard = some b := by
    rw [← hw]
    unfold compGuard at hguard
    split at hguard
    · injection hguard with hguard; rw [← hguard]; rfl
    · rename_i q want hgd
      split at hguard
      · rename_i d hd
        injection hguard with hguard
        rw [← hguard]
        have hmem : d ∈ looksAt ops o := by
          unfold looksAt
          rw [hgd]
          simp [hd]
        simp only [wanted, mask_getD hmem]
      · cases hguard
  have hcomp : ∃ ao0, compOper P ops o = some ao0 ∧ ao0.guard = ao.guard := by
    refine ⟨⟨o.dst, op0, ao.guard, false⟩, ?_, rfl⟩
    unfold compOper
    rw [hop, hguard]
  have hRw : Region.wanted o (yielded ops a.tmps) = b := by
    obtain ⟨ao0, h1, h2⟩ := hcomp
    exact wanted_sound h1 hmask (by rw [h2]; exact hwant)
  have hcongr : ∀ mm : Mem, evOp O (mask (looksAt ops o) (S j).ρ) mm op0 = evOp O (S j).ρ mm ao.op := by
    intro mm
    rw [← hevop]
    refine evOp_congr fun y hy => ?_
    cases y with
    | c v => rfl
    | t i => exact mask_getD (readsIn_mem hreads i hy) _
  -- the registers behind it
  have after : ∀ g' w' v, ExtW g w g' w' → Rep g' w' r v → (∀ k, Nxt al ops.size (fun i => X i || i == j) k → Inv g' w' (S k).m) →
      (∀ k, Nxt al ops.size (fun i => X i || i == j) k → ∀ st, g'.rs st = true ↔ (rs0 st = true ∨ ∃ i, Pend al S (fun i => X i || i == j) k i ∧ st = (S i).m.nx)) →
      (∀ k, Nxt al ops.size (fun i => X i || i == j) k → ∀ i, Pend al S (fun i => X i || i == j) k i → (S k).m.blk m0.stk.length (S i).m.cur.length (S i).m.nx = some (content S i)) →
      Mid ops al S rs0 m0.stk.length (fun i => X i || i == j) g' w' (a.put o.dst v) := by
    intro g' w' v hx hr hmem hrsv hcont
    refine ⟨hmem, hrsv, hcont, fun t k x hk hcut hx' => ?_, by cases o.dst <;> simp [Act.put, M.len]⟩
    by_cases hd : o.dst = some t
    · have hwrj : wr ops t j = true := by simp [wr, ho, hd]
      have hjk : j < k := (hcut j hjlt hwrj).1 (by simp)
      have hconst := D.reg_const t (j + 1) k (by omega) hk (fun i h1 h2 => by
        cases hwi : wr ops t i with
        | false => rfl
        | true =>
          exfalso
          obtain ⟨oi, ai, p1, p2, _⟩ := D.at_ (i := i) (by omega)
          have hXi := (hcut i (by omega) hwi).2 h2
          simp only [Bool.or_eq_true, beq_iff_eq] at hXi
          have hXi' : X i = true := hXi.resolve_right (by omega)
          have hcl : clash ops oi o = true := by
            simp only [wr, p1, beq_iff_eq] at hwi
            unfold clash
            rw [hwi, hd]
            simp
          have := (hord i (by omega) (by omega) (hpair i oi ai p1 p2 (by omega) (.inl hcl))).1 hXi'
          omega)
      rw [hconst, hρ, setDst_get, hdst] at hx'
      have hlt : t < (S j).ρ.length := by
        rcases Nat.lt_or_ge t (S j).ρ.length with h | h
        · exact h
        · rw [if_neg (by omega), List.getElem?_eq_none h] at hx'; cases hx'
      rw [if_pos ⟨hd, hlt⟩] at hx'
      injection hx' with hx'
      subst hx'
      refine ⟨v, ?_, hr⟩
      rw [hd]
      simp only [Act.put]
      have : t < a.tmps.size := by rw [M.len, ← D.reg_len j (by omega)]; exact hlt
      simp [this]
    · have hcut' : Cut ops.size X (wr ops t) k := by
        intro i hi hwi
        have hne : i ≠ j := by
          intro h; subst h
          simp only [wr, ho, beq_iff_eq] at hwi
          exact hd hwi
        have := hcut i hi hwi
        have h2 : (i == j) = false := by simp [hne]
        simp only [h2, Bool.or_false] at this
        exact this
      obtain ⟨v0, h1, h2⟩ := M.reg t k x hk hcut' hx'
      refine ⟨v0, ?_, h2.monoW hx⟩
      cases hdd : o.dst with
      | none => exact h1
      | some d =>
        simp only [Act.put]
        have hne : d ≠ t := fun h => hd (by rw [hdd, h])
        rw [Array.getElem?_setIfInBounds_ne hne]
        exact h1
  -- where memory stands
  obtain ⟨k, hk⟩ := D.nxt hX
  obtain ⟨k', hk'⟩ := D.nxt hX'
  have I := M.mem k hk
  have hklen := D.lens k hk.1
  -- what makes a block ahead of its time
  have early : ∀ i, i < ops.size → isA al i = true → X i = true → i < k := by
    intro i hi hA hXi
    rcases Nat.lt_or_ge i k with hlt | hge
    · exact hlt
    · exfalso
      rcases hk.2.2 with e | hB
      · omega
      · have hne : i ≠ k := fun e => by rw [e] at hA; rw [A_not_B hA] at hB; cases hB
        have hkn : k < ops.size := by omega
        obtain ⟨oi, ai, p1, p2, _⟩ := D.at_ hi
        obtain ⟨ok, ak, q1, q2, _⟩ := D.at_ hkn
        have hXk : X k = false := by
          cases hx : X k with
          | false => rfl
          | true => have := (hk.2.1 k hkn hB).1 hx; omega
        cases hoo : ordered (masks ops.toList []) i k with
        | true =>
          have := closed_ordered hX (i := k) (j := i) (by omega) (.inr hoo) hXi
          rw [hXk] at this; cases this
        | false =>
          have := (D.pair p1 q1 p2 q2 hne hoo).2.2.1
          unfold isA at hA
          unfold isB at hB
          rw [opAt_of p2] at hA
          rw [opAt_of q2] at hB
          rw [hA, hB] at this
          simp at this
          omega
  unfold wpOp
  rw [ho]
  simp only
  rw [hRw]
  cases hB : isB al j with
  | true =>
    -- it changes memory: it is the next one
    have hmvj : mvB ao.op = true := by unfold isB at hB; rw [opAt_of ha] at hB; exact hB
    have hkj : k = j := by
      rcases Nat.lt_trichotomy k j with hlt | rfl | hgt
      · exfalso
        have hkn : k < ops.size := by omega
        have hBk : isB al k = true := hk.2.2.elim (fun e => by omega) id
        obtain ⟨ok, ak, q1, q2, _⟩ := D.at_ hkn
        have hmk : mvB ak.op = true := by unfold isB at hBk; rw [opAt_of q2] at hBk; exact hBk
        have hXk := (hord k hkn (by omega) (hpair k ok ak q1 q2 (by omega) (.inr ⟨hmk, hmvj⟩))).2 hlt
        have := (hk.2.1 k hkn hBk).1 hXk
        omega
      · rfl
      · exfalso
        have := (hk.2.1 j hjlt hB).2 hgt
        rw [hXj] at this; cases this
    subst hkj
    have hjk' : k < k' := (hk'.2.1 k hjlt hB).1 (by simp)
    have hnoB : ∀ i, k + 1 ≤ i → i < k' → isB al i = false := by
      intro i h1 h2
      cases hBi : isB al i with
      | false => rfl
      | true =>
        exfalso
        have hXi := (hk'.2.1 i (by have := hk'.1; omega) hBi).2 h2
        simp only [Bool.or_eq_true, beq_iff_eq] at hXi
        have := (hk.2.1 i (by have := hk'.1; omega) hBi).1 (hXi.resolve_right (by omega))
        omega
    -- the rest, from memory behind it
    have fin : ∀ g' w' v, ExtW g w g' w' → g'.rs = g.rs → Inv g' w' (S (k + 1)).m → Rep g' w' r v →
        (∀ i, Pend al S X k i → (S (k + 1)).m.blk m0.stk.length (S i).m.cur.length (S i).m.nx = some (content S i)) →
        ∃ g'', ExtW g w g'' w' ∧ Mid ops al S rs0 m0.stk.length (fun i => X i || i == k) g'' w' (a.put o.dst v) := by
      intro g' w' v hx hrs hI hr hc
      obtain ⟨g'', e1, e2, e3⟩ := D.reserve (k + 1) k' (by omega) hk'.1 hnoB hI
      have hgrew := D.grew (k + 1) k' (by omega) hk'.1 hnoB
      refine ⟨g'', hx.trans e1, after g'' w' v (hx.trans e1) (hr.monoW e1) (fun q hq => ?_) (fun q hq st => ?_) (fun q hq i hp => ?_)⟩
      · rw [hq.uniq hk']; exact e2
      · rw [hq.uniq hk', e3 st, hrs, M.rsv k hk st]
        constructor
        · rintro ((h | ⟨i, ⟨h1, h2, h3, h4⟩, h5⟩) | ⟨i, h1, h2, h3, h4, h5⟩)
          · exact .inl h
          · exact .inr ⟨i, ⟨by omega, h2, h3, by simp only [h4, Bool.false_or, beq_eq_false_iff_ne]; omega⟩, h5⟩
          · refine .inr ⟨i, ⟨h2, h3, h4, ?_⟩, h5⟩
            simp only [Bool.or_eq_false_iff, beq_eq_false_iff_ne]
            refine ⟨?_, by omega⟩
            cases hxi : X i with
            | false => rfl
            | true => have := early i (by have := hk'.1; omega) h3 hxi; omega
        · rintro (h | ⟨i, ⟨h1, h2, h3, h4⟩, h5⟩)
          · exact .inl (.inl h)
          · simp only [Bool.or_eq_false_iff, beq_eq_false_iff_ne] at h4
            rcases Nat.lt_or_ge i k with hlt | hge
            · exact .inl (.inr ⟨i, ⟨hlt, h2, h3, h4.1⟩, h5⟩)
            · exact .inr ⟨i, by omega, h1, h2, h3, h5⟩
      · rw [hq.uniq hk'] at hp ⊢
        obtain ⟨h1, h2, h3, h4⟩ := hp
        simp only [Bool.or_eq_false_iff, beq_eq_false_iff_ne] at h4
        rcases Nat.lt_or_ge i k with hlt | hge
        · exact hgrew.blk (hc i ⟨hlt, h2, h3, h4.1⟩)
        · have hin : i < ops.size := by have := hk'.1; omega
          have hg2 := D.grew (i + 1) k' (by omega) hk'.1 (fun q a1 a2 => hnoB q (by omega) a2)
          exact hg2.blk (D.made_blk hin h2 h3)
    cases b with
    | false =>
      obtain ⟨hr, hm⟩ := hfalse rfl
      simp only [Bool.false_eq_true, if_false]
      obtain ⟨g'', e1, e2⟩ := fin g w Go.undef (Ext.refl g w).toExtW rfl (by rw [hm]; exact I) (by rw [hr]; exact rep_undef g w) (fun i hp => by rw [hm]; exact M.cont k hk i hp)
      exact hK g'' _ w e1 e2 (put_defers _ _)
    | true =>
      simp only [if_true]
      left
      rcases htrue rfl with ⟨hf, _, _⟩ | ⟨hf, hs, hcl, m', h1, hm⟩ | ⟨hf, hs, h1⟩
      · exfalso
        obtain ⟨g1, n1, y1, h | h, _⟩ := hisop.flt hf <;> rw [h] at hmvj <;> cases hmvj
      · have h1' := h1
        rw [← hcongr] at h1
        -- what is still to be made is not stored to
        have hcs : ∀ i, Pend al S X k i → (S (k + 1)).m.blk m0.stk.length (S i).m.cur.length (S i).m.nx = some (content S i) := by
          intro i hp
          have hb := M.cont k hk i hp
          rw [hm]
          obtain ⟨n', ad, x, hop'⟩ := clear_store hs hcl
          have hop2 : op0 = .store n' ad x := by
            rcases hkop with h | ⟨_, _, _, _, h⟩
            · rw [h, hop']
            · rw [hop'] at h; cases h
          obtain ⟨t', x', z', _, hx', _⟩ := compOp0_store (compOp_of (by rw [← hop2]; exact hop) (fun e he => by cases he))
          have hrep := opd_sound hmask hx'
          have hae' : ad.ev (mask (looksAt ops o) (S k).ρ) = ad.ev (S k).ρ := by
            cases ad with
            | c c => rfl
            | t q => exact mask_getD (readsIn_mem hreads q (by rw [hop']; simp [AOp.reads])) _
          rw [hop'] at h1'
          simp only [evOp, evStore] at h1'
          split at h1'
          · rename_i l2 k2 st2 off2 hae
            split at h1'
            · rename_i cs2 hb2
              split at h1'
              · simp only [Option.some.injEq, Prod.mk.injEq] at h1'
                obtain ⟨_, rfl⟩ := h1'
                rw [putS_eq]
                refine blk_put_other (m := { (S k).m with floor := m0.floor }) (fun e => ?_) hb
                obtain ⟨rfl, rfl⟩ := e
                have hst := (blk_stamp (m := (S k).m) hb2 hb).1
                have hres := (M.rsv k hk ((S i).m.nx)).2 (.inr ⟨i, hp, rfl⟩)
                have hnone := (I.rsv _ hres).1
                rw [hae', hae] at hrep
                obtain ⟨b1, o1, e1, hbt, _⟩ := hrep.inv_ptr
                rw [hst, hnone] at hbt; cases hbt
              · cases h1'
            · cases h1'
          · cases h1'
        refine op_wp D.hO hop (by simp only; have := D.hf; have := hklen.1; omega) h1 hmask (inv_floor _ I) fun g' w' v hx hI hr => ?_
        obtain ⟨g'', e1, e2⟩ := fin g' w' v hx.toExtW hx.rs (by rw [hm]; exact inv_floor _ hI) hr hcs
        exact hK g'' _ w' e1 e2 (put_defers _ _)
      · rw [← hcongr] at h1
        have hab := evOp_above (ρ := mask (looksAt ops o) (S k).ρ) D.hA (by rw [hklen.1, hklen.2]; omega) (fun h => by
          exfalso
          rcases hkop with e | ⟨_, _, _, e, _⟩
          · rw [e, hs] at h; cases h
          · rw [e] at h; cases h) h1
        refine op_wp D.hO hop (by omega) h1 hmask I fun g' w' v hx hI hr => ?_
        obtain ⟨g'', e1, e2⟩ := fin g' w' v hx.toExtW hx.rs hI hr (fun i hp => hab.blk _ _ _ _ (by rw [hklen.2]; omega) (M.cont k hk i hp))
        exact hK g'' _ w' e1 e2 (put_defers _ _)
  | false =>
    have hkk : Nxt al ops.size (fun i => X i || i == j) k := by
      refine ⟨hk.1, fun i hi hBi => ?_, hk.2.2⟩
      have hne : (i == j) = false := by
        simp only [beq_eq_false_iff_ne]
        intro e
        rw [e, hB] at hBi; cases hBi
      simp only [hne, Bool.or_false]
      exact hk.2.1 i hi hBi
    have hmv : mvB ao.op = false := by unfold isB at hB; rw [opAt_of ha] at hB; exact hB
    -- where nothing is made
    have same : ∀ g' w' v, Ext g w g' w' → Inv g' w' (S k).m → Rep g' w' r v → (isA al j = false ∨ (S (j + 1)).m.nx = (S j).m.nx) → Mid ops al S rs0 m0.stk.length (fun i => X i || i == j) g' w' (a.put o.dst v) := by
      intro g' w' v hx hI hr hno
      have hp : ∀ i, Pend al S (fun i => X i || i == j) k i ↔ Pend al S X k i := by
        intro i
        constructor
        · rintro ⟨h1, h2, h3, h4⟩
          simp only [Bool.or_eq_false_iff] at h4
          exact ⟨h1, h2, h3, h4.1⟩
        · rintro ⟨h1, h2, h3, h4⟩
          refine ⟨h1, h2, h3, ?_⟩
          simp only [Bool.or_eq_false_iff, beq_eq_false_iff_ne]
          refine ⟨h4, fun e => ?_⟩
          subst e
          rcases hno with h | h
          · rw [h] at h2; cases h2
          · exact h3 h
      refine after g' w' v hx.toExtW hr (fun q hq => ?_) (fun q hq st => ?_) (fun q hq i hpi => ?_)
      · rw [hq.uniq hkk]; exact hI
      · rw [hq.uniq hkk, hx.rs, M.rsv k hk st]
        simp only [hp]
      · rw [hq.uniq hkk] at hpi ⊢
        exact M.cont k hk i ((hp i).1 hpi)
    cases hA : isA al j with
    | true =>
      have hkA : kindA ao.op = true := by unfold isA at hA; rw [opAt_of ha] at hA; exact hA
      have hjk : j < k := by
        rcases Nat.lt_or_ge j k with h | h
        · exact h
        · exfalso
          have hne : k ≠ j := by
            intro e
            rcases hk.2.2 with e2 | e2
            · omega
            · rw [e, hB] at e2; cases e2
          have hkn : k < ops.size := by omega
          have hBk : isB al k = true := hk.2.2.elim (fun e => by omega) id
          have hXk : X k = false := by
            cases hx : X k with
            | false => rfl
            | true => have := (hk.2.1 k hkn hBk).1 hx; omega
          obtain ⟨ok, ak, q1, q2, _⟩ := D.at_ hkn
          cases hoo : ordered (masks ops.toList []) k j with
          | true =>
            have := (hord k hkn hne hoo).2 (by omega)
            rw [hXk] at this; cases this
          | false =>
            have := (D.pair ho q1 ha q2 (fun e => hne e.symm) (by rw [ordered_comm]; exact hoo)).2.2.1
            unfold isB at hBk
            rw [opAt_of q2] at hBk
            rw [hkA, hBk] at this
            simp at this
            omega
      cases b with
      | false =>
        obtain ⟨hr, hm⟩ := hfalse rfl
        simp only [Bool.false_eq_true, if_false]
        exact hK g _ w (Ext.refl g w).toExtW (same g w Go.undef (Ext.refl g w) I (by rw [hr]; exact rep_undef g w) (.inr (by rw [hm]))) (put_defers _ _)
      | true =>
        simp only [if_true]
        left
        rcases htrue rfl with ⟨hf, _, _⟩ | ⟨hf, hs, _⟩ | ⟨hf, hs, h1⟩
        · exfalso
          obtain ⟨g1, n1, y1, h | h, _⟩ := hisop.flt hf <;> rw [h] at hkA <;> cases hkA
        · exfalso
          cases hop' : ao.op <;> rw [hop'] at hs hkA <;> first | (cases hs; done) | (cases hkA; done)
        · have hop0 : op0 = ao.op := by
            rcases hkop with h | ⟨_, _, _, _, h⟩
            · exact h
            · rw [h] at hkA; cases hkA
          obtain ⟨cs, hcs⟩ := kindA_mem hkA h1
          have hmade : (S (j + 1)).m.nx ≠ (S j).m.nx := by rw [hcs]; simp
          have hm := D.made hjlt hB hmade
          have hpend : Pend al S X k j := ⟨hjk, hA, hmade, hXj⟩
          rw [← hcongr] at h1
          have hin : ∀ bl ∈ (S k).m.all, bl.st = (S j).m.nx → bl.cs = content S j := by
            intro bl hbl hst
            have := nodup_inj I.nd hbl (mem_all_of_blk (M.cont k hk j hpend)) hst
            rw [this]
          obtain ⟨g', w', v, hrun, hx, hI, hr, hrs⟩ := late_sound hop (by rw [hop0]; exact hkA) h1 hm hmask I hin ((M.rsv k hk _).2 (.inr ⟨j, hpend, rfl⟩))
          unfold Oper.wp
          rw [hrun, Oper.upon_value]
          have hne : ∀ i, i < ops.size → isA al i = true → (S (i + 1)).m.nx ≠ (S i).m.nx → i ≠ j → (S i).m.nx ≠ (S j).m.nx := by
            intro i hi hAi hmi hij
            have b1 := D.nx_succ hi
            have b2 := D.nx_succ hjlt
            rcases Nat.lt_or_ge i j with hlt | hge
            · have := D.nx_mono (i + 1) j (by omega) (by omega); omega
            · have := D.nx_mono (j + 1) i (by omega) (by omega); omega
          refine hK g' _ w' hx (after g' w' v hx hr (fun q hq => ?_) (fun q hq st => ?_) (fun q hq i hpi => ?_)) (put_defers _ _)
          · rw [hq.uniq hkk]; exact hI
          · rw [hq.uniq hkk, hrs]
            simp only [Bool.and_eq_true, bne_iff_ne]
            rw [M.rsv k hk st]
            constructor
            · rintro ⟨h | ⟨i, ⟨a1, a2, a3, a4⟩, a5⟩, hn⟩
              · exact .inl h
              · refine .inr ⟨i, ⟨a1, a2, a3, ?_⟩, a5⟩
                simp only [Bool.or_eq_false_iff, beq_eq_false_iff_ne]
                exact ⟨a4, fun e => hn (by rw [a5, e])⟩
            · rintro (h | ⟨i, ⟨a1, a2, a3, a4⟩, a5⟩)
              · refine ⟨.inl h, fun e => ?_⟩
                have := hrs0 st h
                have := D.nx_mono 0 j (Nat.zero_le _) (by omega)
                omega
              · simp only [Bool.or_eq_false_iff, beq_eq_false_iff_ne] at a4
                refine ⟨.inr ⟨i, ⟨a1, a2, a3, a4.1⟩, a5⟩, fun e => ?_⟩
                exact hne i (by have := hk.1; omega) a2 a3 a4.2 (by rw [← a5, e])
          · rw [hq.uniq hkk] at hpi ⊢
            obtain ⟨a1, a2, a3, a4⟩ := hpi
            simp only [Bool.or_eq_false_iff] at a4
            exact M.cont k hk i ⟨a1, a2, a3, a4.1⟩
    | false =>
      have hkA : kindA ao.op = false := by unfold isA at hA; rw [opAt_of ha] at hA; exact hA
      have hkind := kind_rest hmv hkA
      cases b with
      | false =>
        obtain ⟨hr, hm⟩ := hfalse rfl
        simp only [Bool.false_eq_true, if_false]
        exact hK g _ w (Ext.refl g w).toExtW (same g w Go.undef (Ext.refl g w) I (by rw [hr]; exact rep_undef g w) (.inl hA)) (put_defers _ _)
      | true =>
        simp only [if_true]
        left
        have hw0 := hw
        have hev : evOp O (S j).ρ (S k).m ao.op = some (r, (S k).m) := by
          rcases htrue rfl with ⟨hf, ⟨m', h1⟩, _⟩ | ⟨hf, hs, _⟩ | ⟨hf, hs, h1⟩
          · obtain ⟨g1, n1, y1, hld, hw⟩ := hisop.flt hf
            refine D.float hjlt ha hf hw0 hk.1 hld hw (fun p ap hp hap hs => ?_) h1
            have hpn : p < ops.size := by have := hk.1; omega
            have hBp : isB al p = true := by
              unfold isB
              rw [opAt_of hap]
              exact store_mvB hs
            have hXp := (hk.2.1 p hpn hBp).2 hp
            obtain ⟨h2, h3⟩ := D.flt_before hpn hjlt hap ha hs hf
            refine ⟨h2, ?_⟩
            rcases h3 with h3 | h3
            · have := closed_ordered hX (i := j) (j := p) h2 (.inr h3) hXp
              rw [hXj] at this; cases this
            · exact h3
          · exfalso
            rw [store_mvB hs] at hmv; cases hmv
          · by_cases hk0 : ao.op.kind = 0
            · exact (evOp_pure hk0 h1).2 _
            · have hk1 : ao.op.kind = 1 := by omega
              obtain ⟨hmm, hev0⟩ := evOp_load hkind h1
              have hall : ∀ i, i < ops.size → isB al i = true → ordered (masks ops.toList []) i j = true := by
                intro i hi hBi
                obtain ⟨oi, ai, p1, p2, _⟩ := D.at_ hi
                have hne : i ≠ j := fun e => by rw [e, hB] at hBi; cases hBi
                cases hoo : ordered (masks ops.toList []) i j with
                | true => rfl
                | false =>
                  have := (D.pair p1 ho p2 ha hne hoo).2.2.2
                  unfold isB at hBi
                  rw [opAt_of p2] at hBi
                  rw [hBi, hk1, hf] at this
                  simp at this
              have hjk : j ≤ k := by
                rcases Nat.lt_or_ge k j with h | h
                · exfalso
                  have hkn : k < ops.size := by omega
                  have hBk : isB al k = true := hk.2.2.elim (fun e => by omega) id
                  have hXk := (hord k hkn (by omega) (hall k hkn hBk)).2 h
                  have := (hk.2.1 k hkn hBk).1 hXk
                  omega
                · exact h
              have hgrew := D.grew j k hjk hk.1 (fun i a1 a2 => by
                cases hBi : isB al i with
                | false => rfl
                | true =>
                  exfalso
                  have hin : i < ops.size := by have := hk.1; omega
                  have hXi := (hk.2.1 i hin hBi).2 a2
                  have hne : i ≠ j := fun e => by rw [e, hB] at hBi; cases hBi
                  have := (hord i hin hne (hall i hin hBi)).1 hXi
                  omega)
              exact hev0 _ (fun l q st cs h => hgrew.blk h)
        rw [← hcongr] at hev
        refine op_wp D.hO hop (by omega) hev hmask I fun g' w' v hx hI hr => ?_
        exact hK g' _ w' hx.toExtW (same g' w' v hx hI hr (.inl hA)) (put_defers _ _)

end
end Go.Vs
