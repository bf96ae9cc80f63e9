/-
  Vsqb: a region that draws its order, its operations numbered anew.
-/
import Derived.Test.YtbbljkjdjjoapaaVsqa
namespace Go.Vs
open Go.RowKit

section
variable {P : Program} {Q : Exit → Act → World → Prop}

/-- The same operations, numbered anew. -/
structure PermOf (ops ops' : Array Oper) (pos : Nat → Nat) : Prop where
  size : ops'.size = ops.size
  lt : ∀ i, i < ops.size → pos i < ops.size
  out : ∀ i, ¬ i < ops.size → pos i = i
  inj : ∀ i j, i < ops.size → j < ops.size → pos i = pos j → i = j
  onto : ∀ p, p < ops.size → ∃ i, i < ops.size ∧ pos i = p
  get : ∀ i o, ops[i]? = some o → ops'[pos i]? = some (movedTo pos o)

theorem PermOf.get_none {ops ops' : Array Oper} {pos : Nat → Nat} (h : PermOf ops ops' pos) {i : Nat} (hi : ops[i]? = none) : ops'[pos i]? = none := by
  have : ¬ i < ops.size := by simpa using hi
  rw [h.out i this]
  rw [Array.getElem?_eq_none_iff, h.size]; omega

theorem PermOf.yielded {ops ops' : Array Oper} {pos : Nat → Nat} (h : PermOf ops ops' pos) (tmps : Array Value) (g : Nat) : yielded ops' tmps (pos g) = yielded ops tmps g := by
  unfold Go.yielded
  cases hg : ops[g]? with
  | none => rw [h.get_none hg]
  | some o => rw [h.get g o hg]; rfl

theorem PermOf.wanted {ops ops' : Array Oper} {pos : Nat → Nat} (h : PermOf ops ops' pos) (tmps : Array Value) (o : Oper) : Region.wanted (movedTo pos o) (Go.yielded ops' tmps) = Region.wanted o (Go.yielded ops tmps) := by
  unfold Region.wanted movedTo
  cases hg : o.guard with
  | none => rfl
  | some g =>
    obtain ⟨j, w⟩ := g
    simp only [Option.map_some, h.yielded]

theorem PermOf.wpOp {ops ops' : Array Oper} {pos : Nat → Nat} (h : PermOf ops ops' pos) {i : Nat} {K : Act → World → Prop} {a : Act} {w : World} (hh : wpOp P ops' Q (pos i) K a w) : wpOp P ops Q i K a w := by
  unfold Go.wpOp at hh ⊢
  cases hi : ops[i]? with
  | none =>
    rw [h.get_none hi] at hh
    exact hh
  | some o =>
    rw [h.get i o hi] at hh
    simp only at hh ⊢
    rw [h.wanted] at hh
    exact hh

theorem ready_mem {ops : Array Oper} {listed : Array Bool} {i : Nat} : i ∈ Region.ready .any ops listed ↔
    i < ops.size ∧ listed.getD i true = false ∧ ∃ o, ops[i]? = some o ∧ ∀ e ∈ o.after, Region.binds .any e = true → listed.getD e.on false = true := by
  unfold Region.ready
  rw [List.mem_filter, List.mem_range]
  constructor
  · rintro ⟨h1, h2⟩
    simp only [Bool.and_eq_true, Bool.not_eq_true'] at h2
    refine ⟨h1, h2.1, ops[i], Array.getElem?_eq_getElem h1, fun e he hb => ?_⟩
    have h3 := h2.2
    rw [Array.getElem?_eq_getElem h1, Option.map_some, Option.getD_some, Array.all_eq_true_iff_forall_mem] at h3
    have := h3 e he
    rw [hb] at this
    simpa using this
  · rintro ⟨h1, h2, o, h3, h4⟩
    refine ⟨h1, ?_⟩
    simp only [Bool.and_eq_true, Bool.not_eq_true']
    refine ⟨h2, ?_⟩
    rw [h3, Option.map_some, Option.getD_some, Array.all_eq_true_iff_forall_mem]
    intro e he
    cases hb : Region.binds .any e with
    | false => rfl
    | true => simp [h4 e he hb]

theorem PermOf.ready {ops ops' : Array Oper} {pos : Nat → Nat} (h : PermOf ops ops' pos) {listed listed' : Array Bool} (hs : listed.size = ops.size) (hs' : listed'.size = ops.size) (hl : ∀ i, i < ops.size → listed.getD i false = listed'.getD (pos i) false) {i : Nat} (hi : i < ops.size) :
    i ∈ Region.ready .any ops listed → pos i ∈ Region.ready .any ops' listed' := by
  rw [ready_mem, ready_mem]
  have key : ∀ e, listed.getD e false = listed'.getD (pos e) false := by
    intro e
    by_cases he : e < ops.size
    · exact hl e he
    · rw [h.out e he, Array.getD_eq_getD_getElem?, Array.getD_eq_getD_getElem?, Array.getElem?_eq_none (by omega), Array.getElem?_eq_none (by omega)]
  rintro ⟨h1, h2, o, h3, h4⟩
  refine ⟨by rw [h.size]; exact h.lt i h1, ?_, _, h.get i o h3, fun e he hb => ?_⟩
  · have h5 := hl i h1
    have h6 := h.lt i h1
    rw [Array.getD_eq_getD_getElem?, Array.getElem?_eq_getElem (by omega)] at h2
    rw [Array.getD_eq_getD_getElem?, Array.getD_eq_getD_getElem?, Array.getElem?_eq_getElem (by omega), Array.getElem?_eq_getElem (by omega)] at h5
    rw [Array.getD_eq_getD_getElem?, Array.getElem?_eq_getElem (by omega)]
    simp only [Option.getD_some] at h2 h5 ⊢
    rw [← h5]; exact h2
  · simp only [movedTo, Array.mem_map] at he
    obtain ⟨e0, he0, rfl⟩ := he
    have hb0 : Region.binds .any e0 = true := hb
    rw [← key]
    exact h4 e0 he0 hb0

theorem PermOf.ready_nil {ops ops' : Array Oper} {pos : Nat → Nat} (h : PermOf ops ops' pos) {listed listed' : Array Bool} (hs : listed.size = ops.size) (hs' : listed'.size = ops.size) (hl : ∀ i, i < ops.size → listed.getD i false = listed'.getD (pos i) false) :
    Region.ready .any ops listed = [] → Region.ready .any ops' listed' = [] := by
  intro hn
  rw [List.eq_nil_iff_forall_not_mem] at hn ⊢
  intro p hp
  rw [ready_mem] at hp
  obtain ⟨h1, h2, o', h3, h4⟩ := hp
  rw [h.size] at h1
  obtain ⟨i, hi, rfl⟩ := h.onto p h1
  have key : ∀ e, listed.getD e false = listed'.getD (pos e) false := by
    intro e
    by_cases he : e < ops.size
    · exact hl e he
    · rw [h.out e he, Array.getD_eq_getD_getElem?, Array.getD_eq_getD_getElem?, Array.getElem?_eq_none (by omega), Array.getElem?_eq_none (by omega)]
  refine hn i (ready_mem.2 ⟨hi, ?_, ops[i], Array.getElem?_eq_getElem hi, fun e he hb => ?_⟩)
  · have h5 := hl i hi
    rw [Array.getD_eq_getD_getElem?, Array.getElem?_eq_getElem (by omega)] at h2
    rw [Array.getD_eq_getD_getElem?, Array.getD_eq_getD_getElem?, Array.getElem?_eq_getElem (by omega), Array.getElem?_eq_getElem (by omega)] at h5
    rw [Array.getD_eq_getD_getElem?, Array.getElem?_eq_getElem (by omega)]
    simp only [Option.getD_some] at h2 h5 ⊢
    rw [h5]; exact h2
  · rw [h.get i _ (Array.getElem?_eq_getElem hi)] at h3
    injection h3 with h3
    have := h4 { e with on := pos e.on } (by rw [← h3]; simp only [movedTo, Array.mem_map]; exact ⟨e, he, rfl⟩) hb
    rw [key]; exact this

theorem PermOf.wpAny {ops ops' : Array Oper} {pos : Nat → Nat} (h : PermOf ops ops' pos) : ∀ (fuel : Nat) (listed listed' : Array Bool) (a : Act) (w : World), listed.size = ops.size → listed'.size = ops.size → (∀ i, i < ops.size → listed.getD i false = listed'.getD (pos i) false) →
    Go.wpAny P .any ops' Q fuel listed' a w → Go.wpAny P .any ops Q fuel listed a w
  | 0, listed, listed', a, w, hs, hs', hl, hh => by
    refine ⟨?_, hh.2⟩
    rw [List.eq_nil_iff_forall_not_mem]
    intro i hi
    have hlt := (ready_mem.1 hi).1
    have := h.ready hs hs' hl hlt hi
    rw [hh.1] at this; cases this
  | fuel + 1, listed, listed', a, w, hs, hs', hl, hh => by
    refine ⟨fun hn => hh.1 (h.ready_nil hs hs' hl hn), fun i hi => ?_⟩
    have hlt := (ready_mem.1 hi).1
    refine h.wpOp (wpOp_mono (fun a' w' hk => ?_) (hh.2 (pos i) (h.ready hs hs' hl hlt hi)))
    refine h.wpAny fuel _ _ a' w' (by simpa using hs) (by simpa using hs') (fun j hj => ?_) hk
    rw [Array.getD_eq_getD_getElem?, Array.getD_eq_getD_getElem?]
    by_cases hij : i = j
    · subst hij
      have := h.lt i hlt
      rw [Array.getElem?_setIfInBounds_self_of_lt (by omega), Array.getElem?_setIfInBounds_self_of_lt (by omega)]
    · rw [Array.getElem?_setIfInBounds_ne hij, Array.getElem?_setIfInBounds_ne (fun e => hij (h.inj i j hlt hj e))]
      have := hl j hj
      rw [Array.getD_eq_getD_getElem?, Array.getD_eq_getD_getElem?] at this
      exact this

theorem ordOf_perm (ops : Array Oper) : (ordOf ops).Perm (List.range ops.size) := List.filter_append_perm _ _

theorem permOf_ops (ops : Array Oper) : PermOf ops (permOps ops) (posOf ops) := by
  have hp := ordOf_perm ops
  have hlen : (ordOf ops).length = ops.size := by rw [hp.length_eq]; simp
  have hnd : (ordOf ops).Nodup := hp.nodup_iff.2 List.nodup_range
  have hmem : ∀ i, i ∈ ordOf ops ↔ i < ops.size := fun i => by rw [hp.mem_iff, List.mem_range]
  have hmap : ((ordOf ops).filterMap fun i => (ops[i]?).map (movedTo (posOf ops))) = (ordOf ops).map fun i => movedTo (posOf ops) (ops.getD i default) := by
    have : ∀ l : List Nat, (∀ i ∈ l, i < ops.size) → (l.filterMap fun i => (ops[i]?).map (movedTo (posOf ops))) = l.map fun i => movedTo (posOf ops) (ops.getD i default) := by
      intro l
      induction l with
      | nil => intro _; rfl
      | cons i r ih =>
        intro h
        have hi := h i List.mem_cons_self
        rw [List.filterMap_cons, Array.getElem?_eq_getElem hi]
        simp only [Option.map_some, List.map_cons]
        rw [ih fun j hj => h j (List.mem_cons_of_mem _ hj)]
        congr 2
        rw [Array.getD_eq_getD_getElem?, Array.getElem?_eq_getElem hi]; rfl
    exact this _ fun i hi => (hmem i).1 hi
  have hpos : ∀ i, i < ops.size → (ordOf ops)[posOf ops i]? = some i := by
    intro i hi
    have : i ∈ ordOf ops := (hmem i).2 hi
    unfold posOf
    rw [if_pos hi, List.getElem?_eq_getElem (List.idxOf_lt_length_of_mem this), List.getElem_idxOf (List.idxOf_lt_length_of_mem this)]
  have hlt : ∀ i, i < ops.size → posOf ops i < ops.size := by
    intro i hi
    have := (List.getElem?_eq_some_iff.1 (hpos i hi)).1
    omega
  refine ⟨by unfold permOps; rw [hmap]; simp [hlen], hlt, fun i hi => by unfold posOf; rw [if_neg hi], fun i j hi hj e => ?_, fun p hp' => ?_, fun i o ho => ?_⟩
  · have h1 := hpos i hi
    rw [e, hpos j hj] at h1
    injection h1 with h1
    exact h1.symm
  · have hp2 : p < (ordOf ops).length := by omega
    refine ⟨(ordOf ops)[p], (hmem _).1 (List.getElem_mem hp2), ?_⟩
    have hi : (ordOf ops)[p] < ops.size := (hmem _).1 (List.getElem_mem hp2)
    unfold posOf
    rw [if_pos hi]
    exact hnd.idxOf_getElem p hp2
  · have hi : i < ops.size := (Array.getElem?_eq_some_iff.1 ho).1
    unfold permOps
    rw [hmap]
    rw [List.getElem?_toArray, List.getElem?_map, hpos i hi, Option.map_some]
    congr 2
    rw [Array.getD_eq_getD_getElem?, ho]; rfl

end
end Go.Vs
