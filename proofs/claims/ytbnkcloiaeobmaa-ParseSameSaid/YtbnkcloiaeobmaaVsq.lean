/-
  Vsq: a region that draws its order: the induction over what is still to come.
-/
import Derived.Test.YtbnkcloiaeobmaaVsp
namespace Go.Vs
open Go.RowKit

section
variable {P : Program} {O : Oracle} {ops : Array Oper} {al : List AOper} {m0 : Mem} {S : Nat → St} {Q : Exit → Act → World → Prop}

/-- Of those with p the ones before k have been carried out, and no others. -/
def Cut (n : Nat) (X : Nat → Bool) (p : Nat → Bool) (k : Nat) : Prop := ∀ i, i < n → p i = true → (X i = true ↔ i < k)

/-- What holds while some of a region's operations have been carried out. -/
structure Mid (ops : Array Oper) (S : Nat → St) (X : Nat → Bool) (g : G) (w : World) (a : Act) : Prop where
  mem : ∀ k, k ≤ ops.size → Cut ops.size X (isE ops) k → Inv g w (S k).m
  reg : ∀ t k x, k ≤ ops.size → Cut ops.size X (wr ops t) k → (S k).ρ[t]? = some x → ∃ v, a.tmps[t]? = some v ∧ Rep g w x v
  len : a.tmps.size = (S 0).ρ.length

theorem Dr.pair (D : Dr P O ops al m0 S) {i j : Nat} {x y : Oper} (hi : ops[i]? = some x) (hj : ops[j]? = some y) (hne : i ≠ j) (h : clash ops x y = true ∨ (movesMem x.op = true ∧ movesMem y.op = true)) :
    ordered (masks ops.toList []) i j = true ∨ ordered (masks ops.toList []) j i = true := by
  have hd := D.hd
  unfold drawOk at hd
  rw [List.all_eq_true] at hd
  have hilt : i < ops.size := (Array.getElem?_eq_some_iff.1 hi).1
  have hjlt : j < ops.size := (Array.getElem?_eq_some_iff.1 hj).1
  have h1 := hd i (List.mem_range.2 hilt)
  rw [Bool.and_eq_true, List.all_eq_true] at h1
  have h2 := h1.2 j (List.mem_range.2 hjlt)
  rw [Bool.and_eq_true] at h2
  have h3 := h2.1
  unfold pairOk at h3
  simp only [hi, hj, Bool.or_eq_true, beq_iff_eq, Bool.and_eq_true, Bool.not_eq_true'] at h3
  rcases h3 with (h3 | h3) | ⟨h3, h4⟩
  · exact absurd h3 hne
  · exact .inl h3
  · rcases h with h | ⟨ha, hb⟩
    · rw [h] at h3; cases h3
    · rw [ha, hb] at h4; cases h4

theorem Dr.edge (D : Dr P O ops al m0 S) {j : Nat} {o : Oper} (hj : ops[j]? = some o) {e : Edge} (he : e ∈ o.after) (hb : Region.binds .any e = true) : e.on < j := by
  have hd := D.hd
  unfold drawOk at hd
  rw [List.all_eq_true] at hd
  have hjlt : j < ops.size := (Array.getElem?_eq_some_iff.1 hj).1
  have h1 := hd j (List.mem_range.2 hjlt)
  rw [Bool.and_eq_true] at h1
  have h2 := h1.1
  unfold edgesOk at h2
  rw [hj] at h2
  simp only [List.all_eq_true] at h2
  have := h2 e (by simpa using he)
  rw [hb] at this
  simpa using this

theorem Dr.flt_before (D : Dr P O ops al m0 S) {i j : Nat} {x : Oper} (hi : ops[i]? = some x) (hj : j < ops.size) (hs : isStore x.op = true) (hf : fltOf ops (masks ops.toList []) j = true) : j < i ∧ ordered (masks ops.toList []) i j = true := by
  have hd := D.hd
  unfold drawOk at hd
  rw [List.all_eq_true] at hd
  have hilt : i < ops.size := (Array.getElem?_eq_some_iff.1 hi).1
  have h1 := hd i (List.mem_range.2 hilt)
  rw [Bool.and_eq_true, List.all_eq_true] at h1
  have h2 := h1.2 j (List.mem_range.2 hj)
  rw [Bool.and_eq_true] at h2
  have h3 := h2.2
  unfold fltOk at h3
  simp only [hi, hs, hf, Bool.and_self, Bool.not_true, Bool.false_or, Bool.and_eq_true, decide_eq_true_eq] at h3
  exact h3

/-- A load that does not float is ordered against all that moves memory. -/
theorem flt_false {B : List Nat} {i j : Nat} {x y : Oper} (hi : ops[i]? = some x) (hj : ops[j]? = some y) (hl : isLoad y.op = true) (hf : fltOf ops B j = false) (hne : i ≠ j) (hm : movesMem x.op = true) : ordered B i j = true := by
  unfold fltOf at hf
  rw [hj] at hf
  simp only [hl, Bool.true_and] at hf
  rw [List.any_eq_false] at hf
  have := hf i (List.mem_range.2 (Array.getElem?_eq_some_iff.1 hi).1)
  simp only [hi, hm, Bool.and_true, Bool.and_eq_true, bne_iff_ne, ne_eq, Bool.not_eq_true', not_and, Bool.not_eq_false] at this
  exact this hne

theorem flt_load {B : List Nat} {j : Nat} {y : Oper} (hj : ops[j]? = some y) (hf : fltOf ops B j = true) : isLoad y.op = true := by
  unfold fltOf at hf
  rw [hj] at hf
  simp only [Bool.and_eq_true] at hf
  exact hf.1

theorem load_quiet {op : Op} (h : isLoad op = true) : movesMem op = false := by cases op <;> simp [isLoad] at h <;> rfl
theorem store_moves {op : Op} (h : isStore op = true) : movesMem op = true := by cases op <;> simp [isStore] at h <;> rfl

theorem inv_floor {g : G} {w : World} {m : Mem} (f : Nat) (I : Inv g w m) : Inv g w { m with floor := f } := ⟨I.blk, I.nd, I.stlt, I.tklt, I.live, I.ownb, I.hbase, I.lnd⟩

/-- The next operation. -/
theorem Mid.next (D : Dr P O ops al m0 S) {X : Nat → Bool} {g : G} {w : World} {a : Act} (M : Mid ops S X g w a) {j : Nat} {o : Oper} (ho : ops[j]? = some o) (hXj : X j = false) (hX : Closed ops X)
    (hX' : Closed ops fun i => X i || i == j) (K : Act → World → Prop) (hK : ∀ g' a' w', Ext g w g' w' → Mid ops S (fun i => X i || i == j) g' w' a' → a'.defers = a.defers → K a' w') : wpOp P ops Q j K a w := by
  have hjlt : j < ops.size := (Array.getElem?_eq_some_iff.1 ho).1
  obtain ⟨ao, _, hcomp, hst, hreads, hstore, hkind, hkind0⟩ := D.get ho
  obtain ⟨b, r, hw, hρ, hfalse, htrue⟩ := D.step ho hcomp hst
  obtain ⟨hdst, _, hop, hguard⟩ := compOper_parts hcomp
  -- what is ordered against j
  have hord : ∀ i x, ops[i]? = some x → i ≠ j → (ordered (masks ops.toList []) i j = true ∨ ordered (masks ops.toList []) j i = true) → (X i = true ↔ i < j) := by
    intro i x hi hne h
    constructor
    · intro hXi
      rcases Nat.lt_or_ge i j with hlt | hge
      · exact hlt
      · have := closed_ordered hX (i := j) (j := i) (by omega) (by rcases h with h | h; · exact .inr h
                                                                   · exact .inl h) hXi
        rw [hXj] at this; cases this
    · intro hlt
      have := closed_ordered hX' (i := i) (j := j) hlt h (by simp)
      simp only [Bool.or_eq_true, beq_iff_eq] at this
      exact this.resolve_right hne
  have hclash : ∀ i x, ops[i]? = some x → (clash ops x o = true) → Cut ops.size X (fun k => k == i) j ∨ i = j := by
    intro i x hi hcl
    by_cases hne : i = j
    · exact .inr hne
    · left
      intro k hk hki
      have : k = i := by simpa using hki
      subst this
      exact hord k x hi hne (D.pair hi ho hne (.inl hcl))
  -- the registers that it looks at
  have hlook : ∀ t ∈ looksAt ops o, Cut ops.size X (wr ops t) j := by
    intro t ht i hi hwr
    have hoi : ops[i]? = some ops[i] := Array.getElem?_eq_getElem hi
    simp only [wr, hoi, beq_iff_eq] at hwr
    by_cases hne : i = j
    · subst hne
      constructor
      · intro h; rw [hXj] at h; cases h
      · intro h; omega
    · refine hord i _ hoi hne (D.pair hoi ho hne (.inl ?_))
      unfold clash
      rw [hwr]
      have : (looksAt ops o).contains t = true := by simpa using ht
      simp [ht]
  have hmask : Reps g w (mask (looksAt ops o) (S j).ρ) a.tmps.toList := by
    refine ⟨by simp [mask_length, D.reg_len j (by omega), M.len], fun t c v h1 h2 => ?_⟩
    rw [mask_get] at h1
    simp only [Option.map_eq_some_iff] at h1
    obtain ⟨x, hx, h1⟩ := h1
    by_cases ht : t ∈ looksAt ops o
    · have hcon : (looksAt ops o).contains t = true := by simpa using ht
      rw [if_pos hcon] at h1
      subst h1
      obtain ⟨v', h3, h4⟩ := M.reg t j x (by omega) (hlook t ht) hx
      have h2' : a.tmps[t]? = some v := by simpa using h2
      rw [h3] at h2'
      injection h2' with h2'
      rw [← h2']; exact h4
    · have hcon : ¬ (looksAt ops o).contains t = true := by simpa using ht
      rw [if_neg hcon] at h1
      subst h1
      exact .undef v
  have hwant : wanted (mask (looksAt ops o) (S j).ρ) ao.guard = some b := by
    rw [← hw]
    unfold compGuard at hguard
    split at hguard
    · injection hguard with hguard; rw [← hguard]; rfl
    · rename_i q want hgd
      split at hguard
      · rename_i d hd
        injection hguard with hguard
        rw [← hguard]
        have hmem : d ∈ looksAt ops o := by
          unfold looksAt
          rw [hgd]
          simp [hd]
        simp only [wanted, mask_getD hmem]
      · cases hguard
  have hRw : Region.wanted o (yielded ops a.tmps) = b := wanted_sound hcomp hmask hwant
  have hcongr : ∀ mm : Mem, evOp O (mask (looksAt ops o) (S j).ρ) mm ao.op = evOp O (S j).ρ mm ao.op := by
    intro mm
    refine evOp_congr fun y hy => ?_
    cases y with
    | c v => rfl
    | t i => exact mask_getD (readsIn_mem hreads i hy) _
  -- the state behind it
  have after : ∀ g' w' v (Mk : Mem), Ext g w g' w' → Rep g' w' r v → (∀ k, k ≤ ops.size → Cut ops.size (fun i => X i || i == j) (isE ops) k → Inv g' w' (S k).m) → Mid ops S (fun i => X i || i == j) g' w' (a.put o.dst v) := by
    intro g' w' v _ hx hr hmem
    refine ⟨hmem, fun t k x hk hcut hx' => ?_, by cases o.dst <;> simp [Act.put, M.len]⟩
    by_cases hd : o.dst = some t
    · have hwrj : wr ops t j = true := by simp [wr, ho, hd]
      have hjk : j < k := (hcut j hjlt hwrj).1 (by simp)
      have hconst := D.reg_const t (j + 1) k (by omega) hk (fun i h1 h2 => by
        cases hwi : wr ops t i with
        | false => rfl
        | true =>
          exfalso
          have hoi : ops[i]? = some ops[i] := Array.getElem?_eq_getElem (by omega)
          have hXi := (hcut i (by omega) hwi).2 h2
          simp only [Bool.or_eq_true, beq_iff_eq] at hXi
          have hXi' : X i = true := hXi.resolve_right (by omega)
          have hcl : clash ops ops[i] o = true := by
            simp only [wr, hoi, beq_iff_eq] at hwi
            unfold clash
            rw [hwi, hd]
            simp
          have := (hord i _ hoi (by omega) (D.pair hoi ho (by omega) (.inl hcl))).1 hXi'
          omega)
      rw [hconst, hρ, setDst_get, hdst] at hx'
      have hlt : t < (S j).ρ.length := by
        rcases Nat.lt_or_ge t (S j).ρ.length with h | h
        · exact h
        · rw [if_neg (by omega), List.getElem?_eq_none h] at hx'; cases hx'
      rw [if_pos ⟨hd, hlt⟩] at hx'
      injection hx' with hx'
      subst hx'
      refine ⟨v, ?_, hr⟩
      rw [hd]
      simp only [Act.put]
      have : t < a.tmps.size := by rw [M.len, ← D.reg_len j (by omega)]; exact hlt
      simp [this]
    · have hcut' : Cut ops.size X (wr ops t) k := by
        intro i hi hwi
        have hne : i ≠ j := by
          intro h; subst h
          simp only [wr, ho, beq_iff_eq] at hwi
          exact hd hwi
        have := hcut i hi hwi
        have h2 : (i == j) = false := by simp [hne]
        simp only [h2, Bool.or_false] at this
        exact this
      obtain ⟨v0, h1, h2⟩ := M.reg t k x hk hcut' hx'
      refine ⟨v0, ?_, h2.mono hx⟩
      cases hdd : o.dst with
      | none => exact h1
      | some d =>
        simp only [Act.put]
        have hne : d ≠ t := fun h => hd (by rw [hdd, h])
        rw [Array.getElem?_setIfInBounds_ne hne]
        exact h1
  -- memory where j moves none
  have quiet : isE ops j = false → ∀ g' w', (∀ k, k ≤ ops.size → Cut ops.size X (isE ops) k → Inv g' w' (S k).m) → ∀ k, k ≤ ops.size → Cut ops.size (fun i => X i || i == j) (isE ops) k → Inv g' w' (S k).m := by
    intro hE g' w' h k hk hcut
    refine h k hk fun i hi hei => ?_
    have hne : i ≠ j := by intro hh; subst hh; rw [hE] at hei; cases hei
    have := hcut i hi hei
    have h2 : (i == j) = false := by simp [hne]
    simp only [h2, Bool.or_false] at this
    exact this
  -- memory where j moves it
  have cutE : isE ops j = true → Cut ops.size X (isE ops) j := by
    intro hE i hi hei
    have hoi : ops[i]? = some ops[i] := Array.getElem?_eq_getElem hi
    by_cases hne : i = j
    · subst hne
      constructor
      · intro h; rw [hXj] at h; cases h
      · intro h; omega
    · simp only [isE, hoi] at hei
      simp only [isE, ho] at hE
      exact hord i _ hoi hne (D.pair hoi ho hne (.inr ⟨hei, hE⟩))
  have moved : isE ops j = true → ∀ g' w', Inv g' w' (S (j + 1)).m → ∀ k, k ≤ ops.size → Cut ops.size (fun i => X i || i == j) (isE ops) k → Inv g' w' (S k).m := by
    intro hE g' w' h k hk hcut
    have hjk : j < k := (hcut j hjlt hE).1 (by simp)
    have hconst := D.mem_const (j + 1) k (by omega) hk (fun i h1 h2 => by
      cases hei : isE ops i with
      | false => rfl
      | true =>
        exfalso
        have hXi := (hcut i (by omega) hei).2 h2
        simp only [Bool.or_eq_true, beq_iff_eq] at hXi
        have hXi' : X i = true := hXi.resolve_right (by omega)
        have := (cutE hE i (by omega) hei).1 hXi'
        omega)
    rw [hconst]; exact h
  -- the memory as it is, where j moves none
  have here : ∃ k, k ≤ ops.size ∧ Cut ops.size X (isE ops) k := by
    -- the least place behind all that moves memory and has been carried out
    have : ∀ n, n ≤ ops.size → ∃ k, k ≤ n ∧ ∀ i, i < n → isE ops i = true → (X i = true ↔ i < k) := by
      intro n
      induction n with
      | zero => exact fun _ => ⟨0, Nat.le_refl _, fun i hi => by omega⟩
      | succ n ih =>
        intro hn
        obtain ⟨k, hk, h⟩ := ih (by omega)
        cases hen : isE ops n with
        | false => exact ⟨k, by omega, fun i hi hei => by
            rcases Nat.lt_or_ge i n with hlt | hge
            · exact h i hlt hei
            · have : i = n := by omega
              subst this; rw [hen] at hei; cases hei⟩
        | true =>
          cases hXn : X n with
          | false => exact ⟨k, by omega, fun i hi hei => by
              rcases Nat.lt_or_ge i n with hlt | hge
              · exact h i hlt hei
              · have : i = n := by omega
                subst this
                constructor
                · intro hh; rw [hXn] at hh; cases hh
                · intro hh; omega⟩
          | true =>
            refine ⟨n + 1, Nat.le_refl _, fun i hi hei => ⟨fun _ => hi, fun _ => ?_⟩⟩
            rcases Nat.lt_or_ge i n with hlt | hge
            · have hoi : ops[i]? = some ops[i] := Array.getElem?_eq_getElem (by omega)
              have hon : ops[n]? = some ops[n] := Array.getElem?_eq_getElem (by omega)
              simp only [isE, hoi] at hei
              simp only [isE, hon] at hen
              exact closed_ordered hX hlt (D.pair hoi hon (by omega) (.inr ⟨hei, hen⟩)) hXn
            · have : i = n := by omega
              subst this; exact hXn
    obtain ⟨k, hk, h⟩ := this ops.size (Nat.le_refl _)
    exact ⟨k, hk, h⟩
  unfold wpOp
  rw [ho]
  simp only
  rw [hRw]
  cases b with
  | false =>
    obtain ⟨hr, hm⟩ := hfalse rfl
    simp only [Bool.false_eq_true, if_false]
    refine hK g _ w (Ext.refl g w) (after g w Go.undef (S j).m (Ext.refl g w) (by rw [hr]; exact rep_undef g w) ?_) (put_defers _ _)
    cases hE : isE ops j with
    | false => exact quiet hE g w M.mem
    | true => exact moved hE g w (by rw [hm]; exact M.mem j (by omega) (cutE hE))
  | true =>
    simp only [if_true]
    left
    obtain ⟨k1, k2⟩ := D.lens j (by omega)
    rcases htrue rfl with ⟨hf, ⟨m', h1⟩, hm⟩ | ⟨hf, hs, m', h1, hm⟩ | ⟨hf, hs, h1⟩
    · -- it floats
      have hload := flt_load ho hf
      have hE : isE ops j = false := by simp only [isE, ho]; exact load_quiet hload
      have hk' : ao.op.kind ≤ 1 := by rcases hkind with h | h; · rw [load_quiet hload] at h; cases h
                                      · exact h
      obtain ⟨k, hk, hcut⟩ := here
      have hnost : ∀ i, i < k → isSt ops i = false := by
        intro i hi
        cases hst' : isSt ops i with
        | false => rfl
        | true =>
          exfalso
          have hoi : ops[i]? = some ops[i] := Array.getElem?_eq_getElem (by omega)
          simp only [isSt, hoi] at hst'
          obtain ⟨hji, hord'⟩ := D.flt_before hoi hjlt hst' hf
          have hei : isE ops i = true := by simp only [isE, hoi]; exact store_moves hst'
          have hXi := (hcut i (by omega) hei).2 hi
          have := closed_ordered hX hji (.inr hord') hXi
          rw [hXj] at this; cases this
      have hev := (evOp_load hk' h1).2 (S k).m (D.mem_above k hk hnost)
      rw [← hcongr] at hev
      refine op_wp D.hO hop (by have := D.lens k hk; omega) hev hmask (M.mem k hk hcut) fun g' w' v hx hI hr => ?_
      refine hK g' _ w' hx (after g' w' v (S k).m hx hr (quiet hE g' w' fun k' hk' hcut' => ?_)) (put_defers _ _)
      have hsame : (S k').m = (S k).m := by
        rcases Nat.le_total k k' with hle | hle
        · refine D.mem_const k k' hle hk' fun i a1 a2 => ?_
          cases hei : isE ops i with
          | false => rfl
          | true => have := (hcut' i (by omega) hei).2 a2; have := (hcut i (by omega) hei).1 this; omega
        · refine (D.mem_const k' k hle hk fun i a1 a2 => ?_).symm
          cases hei : isE ops i with
          | false => rfl
          | true => have := (hcut i (by omega) hei).2 a2; have := (hcut' i (by omega) hei).1 this; omega
      rw [hsame]; exact hI
    · -- a store
      have hE : isE ops j = true := by simp only [isE, ho]; exact store_moves (by rw [← hstore]; exact hs)
      rw [← hcongr] at h1
      refine op_wp D.hO hop (by simp only; have := D.hf; omega) h1 hmask (inv_floor _ (M.mem j (by omega) (cutE hE))) fun g' w' v hx hI hr => ?_
      exact hK g' _ w' hx (after g' w' v (S j).m hx hr (moved hE g' w' (by rw [hm]; exact inv_floor _ hI))) (put_defers _ _)
    · cases hE : isE ops j with
      | true =>
        rw [← hcongr] at h1
        refine op_wp D.hO hop (by omega) h1 hmask (M.mem j (by omega) (cutE hE)) fun g' w' v hx hI hr => ?_
        exact hK g' _ w' hx (after g' w' v (S j).m hx hr (moved hE g' w' hI)) (put_defers _ _)
      | false =>
        have hmv : movesMem o.op = false := by simpa only [isE, ho] using hE
        have hk' : ao.op.kind ≤ 1 := by rcases hkind with h | h; · rw [hmv] at h; cases h
                                        · exact h
        obtain ⟨hmm, hev0⟩ := evOp_load hk' h1
        -- at the memory as it is
        have main : ∀ k, k ≤ ops.size → Cut ops.size X (isE ops) k → evOp O (S j).ρ (S k).m ao.op = some (r, (S k).m) → o.wp P a w K Q := by
          intro k hk hcut hev
          rw [← hcongr] at hev
          refine op_wp D.hO hop (by have := D.lens k hk; omega) hev hmask (M.mem k hk hcut) fun g' w' v hx hI hr => ?_
          refine hK g' _ w' hx (after g' w' v (S k).m hx hr (quiet hE g' w' fun k' hk' hcut' => ?_)) (put_defers _ _)
          have hsame : (S k').m = (S k).m := by
            rcases Nat.le_total k k' with hle | hle
            · refine D.mem_const k k' hle hk' fun i a1 a2 => ?_
              cases hei : isE ops i with
              | false => rfl
              | true => have := (hcut' i (by omega) hei).2 a2; have := (hcut i (by omega) hei).1 this; omega
            · refine (D.mem_const k' k hle hk fun i a1 a2 => ?_).symm
              cases hei : isE ops i with
              | false => rfl
              | true => have := (hcut i (by omega) hei).2 a2; have := (hcut' i (by omega) hei).1 this; omega
          rw [hsame]; exact hI
        rcases hkind0 with h | h | h
        · rw [hmv] at h; cases h
        · -- a load in its place
          have hcut : Cut ops.size X (isE ops) j := by
            intro i hi hei
            have hoi : ops[i]? = some ops[i] := Array.getElem?_eq_getElem hi
            have hne : i ≠ j := by intro hh; subst hh; rw [hE] at hei; cases hei
            simp only [isE, hoi] at hei
            exact hord i _ hoi hne (.inl (flt_false hoi ho h hf hne hei))
          refine main j (by omega) hcut ?_
          rw [h1, hmm]
        · obtain ⟨k, hk, hcut⟩ := here
          exact main k hk hcut ((evOp_pure h h1).2 _)

end
end Go.Vs
