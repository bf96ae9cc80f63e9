/-
  Vsq: a region that draws its order: memory while it is walked through.
-/
import Derived.Test.YtbbljkjdjjoapaaVsp
namespace Go.Vs
open Go.RowKit

theorem blk_put_same {m : Mem} {l k st : Nat} {cs new : List AV} (h : m.blk l k st = some cs) : (m.put l k st new).blk l k st = some new := by
  have h1 := blk_row h
  unfold Mem.row at h1
  unfold Mem.put
  split
  · rename_i hl
    rw [if_pos hl] at h1
    have hk : k < m.cur.length := (List.getElem?_eq_some_iff.1 h1).1
    unfold Mem.blk Mem.row
    simp only [hl, if_true, List.getElem?_set_self hk, beq_self_eq_true]
  · rename_i hl
    rw [if_neg hl] at h1
    unfold Mem.blk Mem.row
    simp only [List.length_modify, hl, if_false, Bool.false_eq_true]
    rw [List.getD_eq_getElem?_getD, List.getElem?_modify]
    simp only [if_true]
    rw [List.getD_eq_getElem?_getD] at h1
    cases hm : m.stk[l]? with
    | none => rw [hm] at h1; simp at h1
    | some f =>
      rw [hm] at h1
      have hk : k < f.length := (List.getElem?_eq_some_iff.1 h1).1
      simp [List.getElem?_set_self hk]

theorem blk_put_other {m : Mem} {l k st l2 k2 st2 : Nat} {cs new : List AV} (hne : ¬ (l = l2 ∧ k = k2)) (h : m.blk l2 k2 st2 = some cs) : (m.put l k st new).blk l2 k2 st2 = some cs := by
  refine blk_of_row h fun x hx => ?_
  unfold Mem.row at hx
  unfold Mem.put
  split
  · rename_i hl
    have hl' : l = m.stk.length := eq_of_beq hl
    unfold Mem.row
    simp only
    split at hx
    · rename_i hl2
      have hl2' : l2 = m.stk.length := eq_of_beq hl2
      rw [if_pos hl2, List.getElem?_set_ne (fun e => hne ⟨by omega, e⟩)]
      exact hx
    · rename_i hl2
      rw [if_neg hl2]; exact hx
  · rename_i hl
    unfold Mem.row
    simp only [List.length_modify]
    split at hx
    · rename_i hl2; rw [if_pos hl2]; exact hx
    · rename_i hl2
      rw [if_neg hl2]
      rw [List.getD_eq_getElem?_getD] at hx ⊢
      rw [List.getElem?_modify]
      by_cases hll : l = l2
      · subst hll
        simp only [if_true]
        cases hm : m.stk[l]? with
        | none => rw [hm] at hx; simp at hx
        | some f =>
          rw [hm] at hx
          have hx' : f[k2]? = some x := by simpa using hx
          show ((f.set k ⟨st, new⟩))[k2]? = some x
          rw [List.getElem?_set_ne (fun e => hne ⟨rfl, e⟩)]
          exact hx'
      · simp only [hll, if_false]
        cases hm : m.stk[l2]? with
        | none => rw [hm] at hx; exact hx
        | some f => rw [hm] at hx; exact hx

theorem blk_floor (m : Mem) (f l k st : Nat) : ({ m with floor := f } : Mem).blk l k st = m.blk l k st := rfl

theorem blk_level {m : Mem} {l k st : Nat} {cs : List AV} (h : m.blk l k st = some cs) : l ≤ m.stk.length := by
  rcases Nat.lt_or_ge m.stk.length l with hlt | hle
  · exfalso
    have := blk_row h
    unfold Mem.row at this
    have hnone : m.stk[l]? = none := List.getElem?_eq_none (by omega)
    rw [if_neg (by simp; omega), List.getD_eq_getElem?_getD, hnone] at this
    simp at this
  · exact hle

theorem blk_stamp {m : Mem} {l k st st' : Nat} {cs cs' : List AV} (h : m.blk l k st = some cs) (h' : m.blk l k st' = some cs') : st = st' ∧ cs = cs' := by
  have h1 := blk_row h
  have h2 := blk_row h'
  rw [h1] at h2
  injection h2 with h2
  injection h2 with h2 h3
  exact ⟨h2, h3⟩

/-- What a load takes hangs on its own cells alone. -/
theorem takeV_range {g : Bool} {n off : Nat} {cs cs' : List AV} (hw : g = true ∨ n = 1) (hl : cs'.length = cs.length) (h : ∀ q, off ≤ q → q < off + n → cs'[q]? = cs[q]?) : takeV g n (cs'.drop off) = takeV g n (cs.drop off) := by
  unfold takeV
  rw [List.length_drop, List.length_drop, hl]
  split
  · cases g with
    | true =>
      simp only [Option.some.injEq, AV.agg.injEq]
      apply List.ext_getElem?
      intro q
      rw [List.getElem?_take, List.getElem?_take, List.getElem?_drop, List.getElem?_drop]
      split
      · exact h _ (by omega) (by omega)
      · rfl
    | false =>
      have hn : n = 1 := by rcases hw with h | h; · cases h
                            · exact h
      subst hn
      simp only
      rw [List.head?_drop, List.head?_drop]
      exact h off (Nat.le_refl _) (by omega)
  · rfl

section
variable {P : Program} {O : Oracle} {ops : Array Oper} {al : List AOper} {m0 : Mem} {S : Nat → St} {W : Nat → Watch} {Q : Exit → Act → World → Prop}

/-- Of those with p the ones before k have been carried out, and no others. -/
def Cut (n : Nat) (X : Nat → Bool) (p : Nat → Bool) (k : Nat) : Prop := ∀ i, i < n → p i = true → (X i = true ↔ i < k)

/-- The next of those that change memory. -/
def Nxt (al : List AOper) (n : Nat) (X : Nat → Bool) (k : Nat) : Prop := k ≤ n ∧ Cut n X (isB al) k ∧ (k = n ∨ isB al k = true)

theorem Nxt.uniq {n k k' : Nat} {X : Nat → Bool} (h : Nxt al n X k) (h' : Nxt al n X k') : k = k' := by
  have key : ∀ {k k' : Nat}, Nxt al n X k → Nxt al n X k' → k < k' → False := by
    intro k k' h h' hlt
    have hkn : k < n := by have := h'.1; omega
    have hB : isB al k = true := by rcases h.2.2 with e | e; · omega
                                    · exact e
    have h1 := (h'.2.1 k hkn hB).2 hlt
    have h2 := (h.2.1 k hkn hB).1 h1
    omega
  rcases Nat.lt_trichotomy k k' with e | e | e
  · exact (key h h' e).elim
  · exact e
  · exact (key h' h e).elim

theorem ordered_comm (b : List Nat) (i j : Nat) : ordered b i j = ordered b j i := by unfold ordered; rw [Nat.max_comm, Nat.min_comm]

theorem Dr.pair (D : Dr P O ops al m0 S W) {i j : Nat} {x y : Oper} {ai aj : AOper} (hi : ops[i]? = some x) (hj : ops[j]? = some y) (hai : al[i]? = some ai) (haj : al[j]? = some aj) (hne : i ≠ j) (ho : ordered (masks ops.toList []) i j = false) :
    clash ops x y = false ∧ (mvB ai.op && mvB aj.op) = false ∧ (kindA ai.op && mvB aj.op && decide (j < i)) = false ∧ (mvB ai.op && decide (aj.op.kind = 1) && !aj.flt) = false := by
  have hd := D.hd
  unfold drawOk at hd
  rw [List.all_eq_true] at hd
  have hilt : i < ops.size := (Array.getElem?_eq_some_iff.1 hi).1
  have hjlt : j < ops.size := (Array.getElem?_eq_some_iff.1 hj).1
  have h1 := hd i (List.mem_range.2 hilt)
  rw [Bool.and_eq_true, List.all_eq_true] at h1
  have h2 := h1.2 j (List.mem_range.2 hjlt)
  rw [Bool.and_eq_true] at h2
  have h3 := h2.1
  unfold pairOk at h3
  simp only [hi, hj, ho, opAt_of hai, opAt_of haj, haj, Option.map_some, Option.getD_some, Bool.or_false, Bool.or_eq_true, beq_iff_eq, Bool.and_eq_true, Bool.not_eq_true'] at h3
  rcases h3 with h3 | ⟨⟨⟨h3, h4⟩, h5⟩, h6⟩
  · exact absurd h3 hne
  · exact ⟨h3, h4, h5, h6⟩

theorem Dr.edge (D : Dr P O ops al m0 S W) {j : Nat} {o : Oper} (hj : ops[j]? = some o) {e : Edge} (he : e ∈ o.after) (hb : Region.binds .any e = true) : e.on < j := by
  have hd := D.hd
  unfold drawOk at hd
  rw [List.all_eq_true] at hd
  have hjlt : j < ops.size := (Array.getElem?_eq_some_iff.1 hj).1
  have h1 := hd j (List.mem_range.2 hjlt)
  rw [Bool.and_eq_true] at h1
  have h2 := h1.1
  unfold edgesOk at h2
  rw [hj] at h2
  simp only [List.all_eq_true] at h2
  have := h2 e (by simpa using he)
  rw [hb] at this
  simpa using this

theorem Dr.flt_before (D : Dr P O ops al m0 S W) {i j : Nat} {ai aj : AOper} (hi : i < ops.size) (hj : j < ops.size) (hai : al[i]? = some ai) (haj : al[j]? = some aj) (hs : ai.op.isStore = true) (hf : aj.flt = true) :
    j < i ∧ (ordered (masks ops.toList []) i j = true ∨ ∃ g n y, aj.op = .ext (.wload g n y)) := by
  have hd := D.hd
  unfold drawOk at hd
  rw [List.all_eq_true] at hd
  have h1 := hd i (List.mem_range.2 hi)
  rw [Bool.and_eq_true, List.all_eq_true] at h1
  have h2 := h1.2 j (List.mem_range.2 hj)
  rw [Bool.and_eq_true] at h2
  have h3 := h2.2
  unfold fltOk at h3
  simp only [opAt_of hai, opAt_of haj, haj, hs, hf, Option.map_some, Option.getD_some, Bool.and_self, Bool.not_true, Bool.false_or, Bool.and_eq_true, decide_eq_true_eq, Bool.or_eq_true] at h3
  refine ⟨h3.1, ?_⟩
  rcases h3.2 with h | h
  · exact .inl h
  · right
    split at h
    · rename_i g n y e; exact ⟨g, n, y, e⟩
    · cases h

theorem inv_floor {g : G} {w : World} {m : Mem} (f : Nat) (I : Inv g w m) : Inv g w { m with floor := f } := ⟨I.blk, I.nd, I.stlt, I.tklt, I.live, I.ownb, I.hbase, I.lnd, I.rsv, I.mpk⟩

/-- Set aside from a to b. -/
theorem Dr.reserve (D : Dr P O ops al m0 S W) {g : G} {w : World} (a : Nat) : ∀ b, a ≤ b → b ≤ ops.size → (∀ i, a ≤ i → i < b → isB al i = false) → Inv g w (S a).m →
    ∃ g', ExtW g w g' w ∧ Inv g' w (S b).m ∧ ∀ st, g'.rs st = true ↔ (g.rs st = true ∨ ∃ i, a ≤ i ∧ i < b ∧ isA al i = true ∧ (S (i + 1)).m.nx ≠ (S i).m.nx ∧ st = (S i).m.nx)
  | 0, h, _, _, I => by
    have : a = 0 := by omega
    subst this
    exact ⟨g, (Ext.refl g w).toExtW, I, fun st => ⟨.inl, fun h => h.elim id fun ⟨i, h1, h2, _⟩ => by omega⟩⟩
  | b + 1, h, hb, hE, I => by
    by_cases hab : a = b + 1
    · subst hab
      exact ⟨g, (Ext.refl g w).toExtW, I, fun st => ⟨.inl, fun h => h.elim id fun ⟨i, h1, h2, _⟩ => by omega⟩⟩
    · obtain ⟨g1, k1, k2, k3⟩ := D.reserve a b (by omega) (by omega) (fun i h1 h2 => hE i h1 (by omega)) I
      rcases D.quiet (by omega) (hE b (by omega) (by omega)) with hm | ⟨hA, cs, hm⟩
      · refine ⟨g1, k1, by rw [hm]; exact k2, fun st => (k3 st).trans ⟨fun h => ?_, fun h => ?_⟩⟩
        · rcases h with h | ⟨i, h1, h2, h3⟩
          · exact .inl h
          · exact .inr ⟨i, h1, by omega, h3⟩
        · rcases h with h | ⟨i, h1, h2, h3, h4, h5⟩
          · exact .inl h
          · right
            refine ⟨i, h1, ?_, h3, h4, h5⟩
            rcases Nat.lt_or_ge i b with hlt | hge
            · exact hlt
            · have : i = b := by omega
              subst this
              rw [hm] at h4
              exact absurd rfl h4
      · obtain ⟨e1, e2⟩ := k2.reserve cs
        refine ⟨_, k1.trans e1, by rw [hm]; exact e2, fun st => ?_⟩
        simp only [Bool.or_eq_true, beq_iff_eq]
        rw [k3 st]
        constructor
        · rintro ((h | ⟨i, h1, h2, h3⟩) | h)
          · exact .inl h
          · exact .inr ⟨i, h1, by omega, h3⟩
          · exact .inr ⟨b, by omega, by omega, hA, by rw [hm]; simp, h⟩
        · rintro (h | ⟨i, h1, h2, h3, h4, h5⟩)
          · exact .inl (.inl h)
          · rcases Nat.lt_or_ge i b with hlt | hge
            · exact .inl (.inr ⟨i, h1, hlt, h3, h4, h5⟩)
            · have : i = b := by omega
              subst this
              exact .inr h5

/-- What a block that is made holds. -/
def content (S : Nat → St) (i : Nat) : List AV := match (S (i + 1)).m.cur.getLast? with | some b => b.cs | none => []

theorem Dr.made (D : Dr P O ops al m0 S W) {i : Nat} (hi : i < ops.size) (hB : isB al i = false) (hm : (S (i + 1)).m.nx ≠ (S i).m.nx) :
    (S (i + 1)).m = { (S i).m with cur := (S i).m.cur ++ [⟨(S i).m.nx, content S i⟩], nx := (S i).m.nx + 1 } := by
  rcases D.quiet hi hB with h | ⟨_, cs, h⟩
  · rw [h] at hm; exact absurd rfl hm
  · have : content S i = cs := by unfold content; rw [h]; simp
    rw [this]; exact h

theorem A_not_B {i : Nat} (h : isA al i = true) : isB al i = false := by
  unfold isA at h
  unfold isB mvB
  rw [h]; simp

theorem new_blk (m : Mem) (cs : List AV) : ({ m with cur := m.cur ++ [⟨m.nx, cs⟩], nx := m.nx + 1 } : Mem).blk m.stk.length m.cur.length m.nx = some cs := by
  unfold Mem.blk Mem.row
  simp

theorem Dr.made_blk (D : Dr P O ops al m0 S W) {i : Nat} (hi : i < ops.size) (hA : isA al i = true) (hm : (S (i + 1)).m.nx ≠ (S i).m.nx) : (S (i + 1)).m.blk m0.stk.length (S i).m.cur.length (S i).m.nx = some (content S i) := by
  rw [D.made hi (A_not_B hA) hm, ← (D.lens i (by omega)).1]
  exact new_blk _ _

/-- A place that is watched is not stored to. -/
theorem Dr.watched (D : Dr P O ops al m0 S W) {j : Nat} (x : Nat × Nat × Nat × Nat × List AV) (hx : x ∈ W (j + 1)) : ∀ p, j < p → p ≤ ops.size → x ∈ W p
  | 0, h, _ => by omega
  | p + 1, h, hp => by
    by_cases hj : j = p
    · subst hj; exact hx
    · have ih := D.watched x hx p (by omega) (by omega)
      obtain ⟨o, ao, _, ha, _⟩ := D.at_ (i := p) (by omega)
      rw [(D.hs p ao ha).2]
      unfold nextW
      split
      · unfold watchG
        split
        · unfold watch
          split
          · split
            · exact List.mem_cons_of_mem _ ih
            · exact ih
          · exact ih
        · exact ih
      · exact ih

theorem Dr.range (D : Dr P O ops al m0 S W) {j : Nat} {l kk st off n : Nat} {cs0 : List AV} (hb : m0.blk l kk st = some cs0) (k : Nat)
    (hst : ∀ p ap, p < k → al[p]? = some ap → ap.op.isStore = true → j < p ∧ (l, kk, off, n, (cs0.drop off).take n) ∈ W (j + 1)) :
    ∀ p, p ≤ k → p ≤ ops.size → ∃ cs, (S p).m.blk l kk st = some cs ∧ cs.length = cs0.length ∧ ∀ q, off ≤ q → q < off + n → cs[q]? = cs0[q]?
  | 0, _, _ => ⟨cs0, by rw [D.h0]; exact hb, rfl, fun _ _ _ => rfl⟩
  | p + 1, hpk, hp => by
    obtain ⟨cs, h1, h2, h3⟩ := D.range hb k hst p (by omega) (by omega)
    obtain ⟨k1, k2⟩ := D.lens p (by omega)
    have hlev : l ≤ m0.stk.length := blk_level hb
    cases hB : isB al p with
    | false =>
      have hg := D.grew p (p + 1) (by omega) hp (fun i a b => by have : i = p := by omega
                                                                 subst this; exact hB)
      exact ⟨cs, hg.blk h1, h2, h3⟩
    | true =>
      obtain ⟨o, ao, _, ha, _⟩ := D.at_ (i := p) (by omega)
      obtain ⟨b, r, _, _, hfalse, htrue⟩ := D.step ha
      cases b with
      | false => exact ⟨cs, by rw [(hfalse rfl).2]; exact h1, h2, h3⟩
      | true =>
        rcases htrue rfl with ⟨_, _, h⟩ | ⟨_, hs, hcl, m', he, hm⟩ | ⟨_, hns, he⟩
        · exact ⟨cs, by rw [h]; exact h1, h2, h3⟩
        · obtain ⟨hjp, hin⟩ := hst p ao (by omega) ha hs
          have hw := D.watched _ hin p hjp (by omega)
          obtain ⟨n', ad, x, hop⟩ := clear_store hs hcl
          rw [hop] at he hcl
          simp only [evOp, evStore] at he
          split at he
          · rename_i l2 k2' st2 off2 hae
            split at he
            · rename_i cs2 hb2
              split at he
              · rename_i hc
                simp only [Bool.and_eq_true, beq_iff_eq, decide_eq_true_eq] at hc
                simp only [Option.some.injEq, Prod.mk.injEq] at he
                obtain ⟨_, rfl⟩ := he
                rw [hm, putS_eq]
                simp only [clear, hae, List.all_eq_true] at hcl
                have hcl := hcl _ hw
                simp only [Bool.or_eq_true, Bool.and_eq_true, bne_iff_ne, ne_eq, decide_eq_true_eq] at hcl
                have hb2' : (S p).m.blk l2 k2' st2 = some cs2 := hb2
                by_cases hsame : l2 = l ∧ k2' = kk
                · obtain ⟨rfl, rfl⟩ := hsame
                  obtain ⟨rfl, rfl⟩ := blk_stamp h1 hb2'
                  refine ⟨splice cs off2 (x.ev (S p).ρ).cells, ?_, ?_, fun q a1 a2 => ?_⟩
                  · exact blk_put_same (m := { (S p).m with floor := m0.floor }) h1
                  · rw [splice_length _ _ _ (by omega)]; exact h2
                  · rw [splice_get _ _ _ (by omega)]
                    rcases hcl with hcl | ⟨e1, e2⟩
                    · rw [if_neg (by omega)]
                      exact h3 q a1 a2
                    · have e2 := same_eq e2
                      split
                      · rename_i hq
                        rw [e2, List.getElem?_take, List.getElem?_drop, if_pos (by omega), show off + (q - off2) = q by omega]
                      · exact h3 q a1 a2
                · exact ⟨cs, blk_put_other (m := { (S p).m with floor := m0.floor }) hsame h1, h2, h3⟩
              · cases he
            · cases he
          · cases he
        · have := evOp_above D.hA (by rw [k1, k2]; omega) (fun h => by rw [hns] at h; cases h) he
          exact ⟨cs, this.blk l kk st cs (by rw [k2]; omega) h1, h2, h3⟩

/-- A load that floats, at a later memory. -/
theorem Dr.float (D : Dr P O ops al m0 S W) {j k : Nat} {ao : AOper} (hj : j < ops.size) (ha : al[j]? = some ao) (hf : ao.flt = true) (hwt : wanted (S j).ρ ao.guard = some true) (hk : k ≤ ops.size) {g : Bool} {n : Nat} {y : Opd} (hop : ao.op = .load g n y ∨ ao.op = .ext (.wload g n y)) (hw : g = true ∨ n = 1)
    (hst : ∀ p ap, p < k → al[p]? = some ap → ap.op.isStore = true → j < p ∧ ∃ g n y, ao.op = .ext (.wload g n y)) {r : AV} {m' : Mem} (he : evOp O (S j).ρ m0 ao.op = some (r, m')) : evOp O (S j).ρ (S k).m ao.op = some (r, (S k).m) := by
  have hev : ∀ m : Mem, evOp O (S j).ρ m ao.op = (m.at (y.ev (S j).ρ)).bind fun cs => (takeV g n cs).map fun v => (v, m) := by
    intro m
    rcases hop with h | h <;> rw [h] <;> rfl
  rw [hev] at he ⊢
  simp only [Option.bind_eq_some_iff, Option.map_eq_some_iff, Prod.mk.injEq] at he ⊢
  obtain ⟨cs, h1, v, h2, rfl, rfl⟩ := he
  unfold Mem.at at h1 ⊢
  split at h1
  · rename_i l kk st off hae
    simp only [Option.map_eq_some_iff] at h1
    obtain ⟨cs0, h3, rfl⟩ := h1
    obtain ⟨cs1, k1, k2, k3⟩ := D.range (j := j) (off := off) (n := n) h3 k (fun p ap hp hap hs => by
      obtain ⟨a1, g', n', y', a2⟩ := hst p ap hp hap hs
      refine ⟨a1, ?_⟩
      have hop' : ao.op = .ext (.wload g n y) := by
        rcases hop with h | h
        · rw [h] at a2; cases a2
        · exact h
      rw [(D.hs j ao ha).2]
      simp only [nextW, hf, if_true, watchG, hwt, watch, hop', hae, Mem.at, h3, Option.map_some, Option.getD_some]
      exact List.mem_cons_self) k (Nat.le_refl _) hk
    exact ⟨cs1.drop off, by simp only [k1, Option.map_some], v, by rw [takeV_range hw k2 k3]; exact h2, rfl, trivial⟩
  · injection h1 with h1
    subst h1
    exact ⟨_, rfl, v, h2, rfl, trivial⟩
  · cases h1

end
end Go.Vs
