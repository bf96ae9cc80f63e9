/-
  Vsd: how the invariant is kept: by a new row, by a store, by an append in place, by leaving blocks out.
-/
import Derived.Test.YtbbljkjdjjoapaaVsc
namespace Go.Vs
open Go.RowKit

/-- What x owns is as it was. -/
def Kept (g : G) (w : World) (g' : G) (w' : World) (x : Bool × Nat) : Prop :=
  ∀ b j, g.own b j = some x → g'.own b j = some x ∧ w'.frozen? ⟨b, j, none⟩ = w.frozen? ⟨b, j, none⟩ ∧ w'.cell? ⟨b, j, none⟩ = w.cell? ⟨b, j, none⟩ ∧ ∀ es c, w.heap[b]? = some (.map es c) → w'.heap[b]? = some (.map es c)

theorem Held.mono {g g' : G} {w w' : World} {x : Bool × Nat} {b p e : Nat} (k : Kept g w g' w' x) (h : Held g w x b p e) : Held g' w' x b p e := by
  intro j h1 h2
  obtain ⟨a1, a2, a3⟩ := h j h1 h2
  obtain ⟨b1, b2, b3, _⟩ := k b j a1
  exact ⟨b1, b2.trans a2, by rw [b3]; exact a3⟩

theorem BlkOk.monoW {g g' : G} {w w' : World} {bl : Blk} (e : ExtW g w g' w') (k : Kept g w g' w' (false, bl.st)) (h : BlkOk g w bl) : BlkOk g' w' bl := by
  rcases h with h | ⟨b, ps, es, clock, h1, h2, h3, h4, h5⟩
  rotate_left
  · exact .inr ⟨b, ps, es, clock, e.mp _ _ h1, fun j => (k b j (h2 j)).1, h3, (k b 0 (h2 0)).2.2.2 _ _ h4, h5⟩
  obtain ⟨b, o, en, h1, h2, h3, vs, h4, h5⟩ := h
  refine .inl ⟨b, o, en, e.bt _ _ h1, h2, h3.mono k, vs, h4.monoW e, fun j v hj => ?_⟩
  have hlt : j < vs.length := (List.getElem?_eq_some_iff.1 hj).1
  rw [h4.1] at hlt
  rw [(k b (o + j) (h3 (o + j) (by omega) (by omega)).1).2.2.1]
  exact h5 j v hj

theorem BlkOk.mono {g g' : G} {w w' : World} {bl : Blk} (e : Ext g w g' w') (k : Kept g w g' w' (false, bl.st)) (h : BlkOk g w bl) : BlkOk g' w' bl := h.monoW e.toExtW k

theorem own_lt {g : G} {w : World} {m : Mem} (I : Inv g w m) {b o : Nat} {x : Bool × Nat} (h : g.own b o = some x) : b < w.heap.size := (I.ownb b o x h).2

/-- A new row: nothing that was there turns. -/
theorem ExtW.alloc {g g' : G} {w : World} {m : Mem} (I : Inv g w m) (ob : Obj) (hbt : ∀ st x, g.bt st = some x → g'.bt st = some x) (htk : ∀ t x, g.tk t = some x → g'.tk t = some x)
    (hown : ∀ b o, b ≠ w.heap.size → g'.own b o = g.own b o) (hb : g'.base = g.base) (hmp : ∀ st b, g.mp st = some b → g'.mp st = some b := by exact fun _ _ h => h) : ExtW g w g' (w.alloc ob) := by
  refine ⟨hbt, htk, fun b o v h1 h2 => ?_, hb, hmp, (Below.refl _ _).alloc I.hbase _⟩
  have hlt : b < w.heap.size := World.block_lt_of_cell? _ _ h1
  refine ⟨?_, by rw [hown b o (by omega)]; exact h2⟩
  rw [World.cell?_alloc_lt _ _ _ hlt]
  exact h1

theorem Kept.alloc {g g' : G} {w : World} {m : Mem} (I : Inv g w m) (ob : Obj) (hown : ∀ b o, b ≠ w.heap.size → g'.own b o = g.own b o) (x : Bool × Nat) : Kept g w g' (w.alloc ob) x := by
  intro b j h
  have hlt : b < w.heap.size := own_lt I h
  refine ⟨by rw [hown b j (by omega)]; exact h, World.frozen?_alloc_old _ _ _ (by simp; omega), World.cell?_alloc_lt _ _ _ hlt, fun es c he => ?_⟩
  show (w.heap.push ob)[b]? = _
  rw [Array.getElem?_push_lt hlt, ← Array.getElem?_eq_getElem hlt]; exact he

theorem Ext.drew (g : G) (w : World) : Ext g w g w.drew := ⟨⟨fun _ _ h => h, fun _ _ h => h, fun _ _ _ h1 h2 => ⟨h1, h2⟩, rfl, fun _ _ h => h, (Below.refl _ _).drew⟩, rfl⟩

theorem Rep.drew {g : G} {w : World} {x : AV} {v : Value} (h : Rep g w x v) : Rep g w.drew x v := h.mono (Ext.drew g w)

theorem Inv.drew {g : G} {w : World} {m : Mem} (I : Inv g w m) : Inv g w.drew m :=
  ⟨fun bl hb hr => (I.blk bl hb hr).mono (Ext.drew g w) (fun b j h => ⟨h, rfl, rfl, fun _ _ h => h⟩), I.nd, I.stlt, I.tklt,
    fun t ht => let ⟨b, p, e, h1, h2⟩ := I.live t ht; ⟨b, p, e, h1, h2.mono (fun b j h => ⟨h, rfl, rfl, fun _ _ h => h⟩)⟩, I.ownb, I.hbase, I.lnd, I.rsv, I.mpk⟩

/-- What is left out does no harm. -/
theorem Inv.sub {g : G} {w : World} {m m' : Mem} (I : Inv g w m) (h1 : ∀ bl ∈ m'.all, bl ∈ m.all) (h2 : (m'.all.map (·.st)).Nodup) (h3 : m.nx ≤ m'.nx) (h4 : m'.live.flatten.Sublist m.live.flatten) : Inv g w m' :=
  ⟨fun bl hb => I.blk bl (h1 bl hb), h2, fun st x h => Nat.lt_of_lt_of_le (I.stlt st x h) h3, fun t x h => Nat.lt_of_lt_of_le (I.tklt t x h) h3, fun t ht => I.live t (h4.subset ht), I.ownb, I.hbase, I.lnd.sublist h4, fun st h => ⟨(I.rsv st h).1, Nat.lt_of_lt_of_le (I.rsv st h).2 h3⟩, fun st b h => ⟨(I.mpk st b h).1, Nat.lt_of_lt_of_le (I.mpk st b h).2.1 h3, (I.mpk st b h).2.2⟩⟩

theorem Inv.st_lt {g : G} {w : World} {m : Mem} (I : Inv g w m) {bl : Blk} (h : bl ∈ m.all) : bl.st < m.nx := by
  cases hr : g.rs bl.st with
  | true => exact (I.rsv _ hr).2
  | false =>
    rcases I.blk bl h hr with ⟨b, o, e, h1, _⟩ | ⟨b, ps, es, clock, h1, _⟩
    · exact I.stlt _ _ h1
    · exact (I.mpk _ _ h1).2.1

theorem Inv.live_lt {g : G} {w : World} {m : Mem} (I : Inv g w m) {t : Nat} (h : t ∈ m.live.flatten) : t < m.nx := by
  obtain ⟨b, o, e, h1, _⟩ := I.live t h
  exact I.tklt _ _ h1

theorem heap_new (w : World) (ob : Obj) : (w.alloc ob).heap[w.heap.size]? = some ob := by
  show (w.heap.push ob)[w.heap.size]? = some ob
  simp

theorem cell_newF (w : World) (us : List Value) (t : TypeId) (fz : Nat × Nat) (j : Nat) : (w.alloc (.cells us.toArray t fz)).cell? ⟨w.heap.size, j, none⟩ = us[j]? := by
  unfold World.cell?
  rw [heap_new]
  simp

theorem frozen_newF (w : World) (us : List Value) (t : TypeId) (fz : Nat × Nat) (j : Nat) (h : ¬ (fz.1 ≤ j ∧ j < fz.2)) : (w.alloc (.cells us.toArray t fz)).frozen? ⟨w.heap.size, j, none⟩ = false := by
  unfold World.frozen?
  rw [heap_new]
  obtain ⟨lo, hi⟩ := fz
  simp only [Bool.and_eq_false_iff, decide_eq_false_iff_not]
  simp only at h
  omega

theorem cell_new (w : World) (us : List Value) (t : TypeId) (j : Nat) : (w.alloc (.cells us.toArray t)).cell? ⟨w.heap.size, j, none⟩ = us[j]? := by
  unfold World.cell?
  rw [heap_new]
  simp

theorem frozen_new (w : World) (us : List Value) (t : TypeId) (j : Nat) : (w.alloc (.cells us.toArray t)).frozen? ⟨w.heap.size, j, none⟩ = false := by
  unfold World.frozen?
  rw [heap_new]
  simp

/-- A new row whose cells nobody writes. -/
theorem Inv.alloc_sealed {g : G} {w : World} {m : Mem} (I : Inv g w m) (ob : Obj) : Ext g w g (w.alloc ob) ∧ Inv g (w.alloc ob) m := by
  have e : Ext g w g (w.alloc ob) := ⟨ExtW.alloc I ob (fun _ _ h => h) (fun _ _ h => h) (fun _ _ _ => rfl) rfl, rfl⟩
  have k : ∀ x, Kept g w g (w.alloc ob) x := fun x => Kept.alloc I ob (fun _ _ _ => rfl) x
  exact ⟨e, fun bl hb hr => (I.blk bl hb hr).mono e (k _), I.nd, I.stlt, I.tklt, fun t ht => let ⟨b, p, en, h1, h2⟩ := I.live t ht; ⟨b, p, en, h1, h2.mono (k _)⟩,
    fun b o x h => ⟨(I.ownb b o x h).1, by have := (I.ownb b o x h).2; simp; omega⟩, by have := I.hbase; simp; omega, I.lnd, I.rsv, I.mpk⟩

/-- A row of no owner reads as what lies in it. -/
theorem own_new {g : G} {w : World} {m : Mem} (I : Inv g w m) (o : Nat) : g.own w.heap.size o = none := by
  cases h : g.own w.heap.size o with
  | none => rfl
  | some x => exact absurd (own_lt I h) (by omega)

/-- A new block of the abstract memory. -/
theorem Inv.alloc_blk {g : G} {w : World} {m : Mem} (I : Inv g w m) (cs : List AV) (us : List Value) (t : TypeId) (h : Reps g w cs us) :
    ∃ g', Ext g w g' (w.alloc (.cells us.toArray t)) ∧ Inv g' (w.alloc (.cells us.toArray t)) { m with cur := m.cur ++ [⟨m.nx, cs⟩], nx := m.nx + 1 } ∧ g'.bt m.nx = some (w.heap.size, 0, us.length) := by
  let g' : G := { g with bt := fun st => if st = m.nx then some (w.heap.size, 0, us.length) else g.bt st, own := fun b o => if b = w.heap.size ∧ o < us.length then some (false, m.nx) else g.own b o }
  have hne : ∀ st x, g.bt st = some x → st ≠ m.nx := fun st x h => by have := I.stlt st x h; omega
  have hbt : ∀ st x, g.bt st = some x → g'.bt st = some x := fun st x h => by simp [g', hne st x h, h]
  have hown : ∀ b o, b ≠ w.heap.size → g'.own b o = g.own b o := fun b o h => by simp [g', h]
  have e : Ext g w g' (w.alloc (.cells us.toArray t)) := ⟨ExtW.alloc I _ hbt (fun _ _ h => h) hown rfl, rfl⟩
  have k : ∀ x, Kept g w g' (w.alloc (.cells us.toArray t)) x := fun x => Kept.alloc I _ hown x
  have hb : g'.bt m.nx = some (w.heap.size, 0, us.length) := by simp [g']
  refine ⟨g', e, ⟨fun bl hb' hr => ?_, ?_, ?_, ?_, ?_, ?_, ?_, I.lnd, fun st hr => ?_, fun st b h => ?_⟩, hb⟩
  · simp only [Mem.all, List.mem_append, List.mem_singleton] at hb'
    rcases hb' with hb' | hb' | rfl
    · exact (I.blk bl (by simp [Mem.all, hb']) hr).mono e (k _)
    · exact (I.blk bl (by simp [Mem.all, hb']) hr).mono e (k _)
    · refine .inl ⟨w.heap.size, 0, us.length, hb, by simp [h.1], fun j _ hj => ⟨?_, frozen_new w us t j, ?_⟩, us, h.mono e, fun j v hv => by rw [Nat.zero_add, cell_new]; exact hv⟩
      · simp [g', hj]
      · rw [cell_new, List.getElem?_eq_getElem hj]; rfl
  · have := I.nd
    simp only [Mem.all, List.map_append, List.map_cons, List.map_nil] at this ⊢
    rw [← List.append_assoc, List.nodup_append]
    refine ⟨this, by simp, fun a ha b hb' => ?_⟩
    simp only [List.mem_singleton] at hb'
    subst hb'
    rw [← List.map_append] at ha
    obtain ⟨bl, hbl, rfl⟩ := List.mem_map.1 ha
    have := I.st_lt (bl := bl) hbl
    omega
  · intro st x hx
    simp only [g'] at hx
    split at hx
    · simp; omega
    · have := I.stlt st x hx; simp; omega
  · intro t x hx
    have := I.tklt t x hx
    simp; omega
  · intro t ht
    obtain ⟨b, p, en, h1, h2⟩ := I.live t ht
    exact ⟨b, p, en, h1, h2.mono (k _)⟩
  · intro b o x hx
    simp only [g'] at hx
    split at hx
    · rename_i hc; exact ⟨by rw [hc.1]; exact I.hbase, by rw [hc.1]; simp⟩
    · have := I.ownb b o x hx; exact ⟨this.1, by simp; omega⟩
  · have := I.hbase; simp; exact Nat.le_succ_of_le this
  · have hr : g.rs st = true := hr
    have h1 := I.rsv st hr
    have hne' : st ≠ m.nx := by omega
    exact ⟨by simp [g', hne', h1.1], by simp; omega⟩
  · have h1 := I.mpk st b h
    have hne' : st ≠ m.nx := by omega
    exact ⟨by simp [g', hne', h1.1], by simp; omega, h1.2.2⟩

/-- A block that is still to be made. -/
theorem Inv.reserve {g : G} {w : World} {m : Mem} (I : Inv g w m) (cs : List AV) :
    ExtW g w { g with rs := fun st => g.rs st || st == m.nx } w ∧ Inv { g with rs := fun st => g.rs st || st == m.nx } w { m with cur := m.cur ++ [⟨m.nx, cs⟩], nx := m.nx + 1 } := by
  have e : ExtW g w { g with rs := fun st => g.rs st || st == m.nx } w := ⟨fun _ _ h => h, fun _ _ h => h, fun _ _ _ h1 h2 => ⟨h1, h2⟩, rfl, fun _ _ h => h, Below.refl _ _⟩
  refine ⟨e, ⟨fun bl hb hr => ?_, ?_, fun st x h => Nat.lt_succ_of_lt (I.stlt st x h), fun t x h => Nat.lt_succ_of_lt (I.tklt t x h), fun t ht => ?_, I.ownb, I.hbase, I.lnd, fun st hr => ?_, fun st b h => ⟨(I.mpk st b h).1, Nat.lt_succ_of_lt (I.mpk st b h).2.1, by have h2 := I.mpk st b h; have hne : st ≠ m.nx := (by omega); simp [hne, h2.2.2]⟩⟩⟩
  · simp only [Bool.or_eq_false_iff, beq_eq_false_iff_ne] at hr
    simp only [Mem.all, List.mem_append, List.mem_singleton] at hb
    have hin : bl ∈ m.all := by
      rcases hb with hb | hb | rfl
      · simp [Mem.all, hb]
      · simp [Mem.all, hb]
      · exact absurd rfl hr.2
    exact (I.blk bl hin hr.1).monoW e (fun b j h => ⟨h, rfl, rfl, fun _ _ h => h⟩)
  · have := I.nd
    simp only [Mem.all, List.map_append, List.map_cons, List.map_nil] at this ⊢
    rw [← List.append_assoc, List.nodup_append]
    refine ⟨this, by simp, fun a ha b hb' => ?_⟩
    simp only [List.mem_singleton] at hb'
    subst hb'
    rw [← List.map_append] at ha
    obtain ⟨bl, hbl, rfl⟩ := List.mem_map.1 ha
    have := I.st_lt (bl := bl) hbl
    omega
  · obtain ⟨b, p, e', h1, h2⟩ := I.live t ht
    exact ⟨b, p, e', h1, h2.mono (fun b j h => ⟨h, rfl, rfl, fun _ _ h => h⟩)⟩
  · simp only [Bool.or_eq_true, beq_iff_eq] at hr
    rcases hr with hr | rfl
    · exact ⟨(I.rsv st hr).1, Nat.lt_succ_of_lt (I.rsv st hr).2⟩
    · refine ⟨?_, Nat.lt_succ_self _⟩
      cases h : g.bt m.nx with
      | none => rfl
      | some x => exact absurd (I.stlt _ _ h) (Nat.lt_irrefl _)

/-- It is made. -/
theorem Inv.alloc_late {g : G} {w : World} {m : Mem} (I : Inv g w m) {st : Nat} (cs : List AV) (us : List Value) (t : TypeId) (hin : ∀ bl ∈ m.all, bl.st = st → bl.cs = cs) (hrs : g.rs st = true) (h : Reps g w cs us) :
    ∃ g', ExtW g w g' (w.alloc (.cells us.toArray t)) ∧ Inv g' (w.alloc (.cells us.toArray t)) m ∧ g'.bt st = some (w.heap.size, 0, us.length) ∧ g'.rs = fun s => g.rs s && s != st := by
  let g' : G := { g with bt := fun s => if s = st then some (w.heap.size, 0, us.length) else g.bt s, own := fun b o => if b = w.heap.size ∧ o < us.length then some (false, st) else g.own b o, rs := fun s => g.rs s && s != st }
  have hno := (I.rsv st hrs).1
  have hlt := (I.rsv st hrs).2
  have hne : ∀ s x, g.bt s = some x → s ≠ st := fun s x h e => by rw [e, hno] at h; cases h
  have hbt : ∀ s x, g.bt s = some x → g'.bt s = some x := fun s x h => by simp [g', hne s x h, h]
  have hown : ∀ b o, b ≠ w.heap.size → g'.own b o = g.own b o := fun b o h => by simp [g', h]
  have e : ExtW g w g' (w.alloc (.cells us.toArray t)) := ExtW.alloc I _ hbt (fun _ _ h => h) hown rfl
  have k : ∀ x, Kept g w g' (w.alloc (.cells us.toArray t)) x := fun x => Kept.alloc I _ hown x
  have hb : g'.bt st = some (w.heap.size, 0, us.length) := by simp [g']
  refine ⟨g', e, ⟨fun bl hb' hr => ?_, I.nd, ?_, ?_, ?_, ?_, ?_, I.lnd, fun s hr => ?_, fun s b h => ?_⟩, hb, rfl⟩
  · by_cases hs : bl.st = st
    · refine .inl ⟨w.heap.size, 0, us.length, by rw [hs]; exact hb, by rw [hin bl hb' hs]; simp [h.1], fun j _ hj => ⟨?_, frozen_new w us t j, ?_⟩, us, by rw [hin bl hb' hs]; exact h.monoW e, fun j v hv => by rw [Nat.zero_add, cell_new]; exact hv⟩
      · simp [g', hj, hs]
      · rw [cell_new, List.getElem?_eq_getElem hj]; rfl
    · have hr' : g.rs bl.st = false := by
        have hr : (g.rs bl.st && bl.st != st) = false := hr
        cases hg : g.rs bl.st with
        | false => rfl
        | true => rw [hg] at hr; simp [hs] at hr
      exact (I.blk bl hb' hr').monoW e (k _)
  · intro s x hx
    simp only [g'] at hx
    split at hx
    · rename_i hs; rw [hs]; exact hlt
    · exact I.stlt s x hx
  · exact fun t x hx => I.tklt t x hx
  · intro t ht
    obtain ⟨b, p, en, h1, h2⟩ := I.live t ht
    exact ⟨b, p, en, h1, h2.mono (k _)⟩
  · intro b o x hx
    simp only [g'] at hx
    split at hx
    · rename_i hc; exact ⟨by rw [hc.1]; exact I.hbase, by rw [hc.1]; simp⟩
    · have := I.ownb b o x hx; exact ⟨this.1, by simp; omega⟩
  · have := I.hbase; simp; exact Nat.le_succ_of_le this
  · have hr : (g.rs s && s != st) = true := hr
    simp only [Bool.and_eq_true, bne_iff_ne] at hr
    exact ⟨by simp [g', hr.2, (I.rsv s hr.1).1], (I.rsv s hr.1).2⟩
  · have h1 := I.mpk s b h
    have hne' : s ≠ st := fun e => by rw [e, hrs] at h1; cases h1.2.2
    exact ⟨by simp [g', hne', h1.1], h1.2.1, by simp [g', h1.2.2]⟩

/-- A new row: its first cells are settled, a new token stands for the rest. -/
theorem Inv.alloc_tok {g : G} {w : World} {m : Mem} (I : Inv g w m) (us : List Value) (n : Nat) (t : TypeId) (fz : Nat × Nat) (hfz : ∀ j, j < us.length → ¬ (fz.1 ≤ j ∧ j < fz.2)) (live : List (List Nat)) (hl : live.flatten.Sublist m.live.flatten) :
    ∃ g', Ext g w g' (w.alloc (.cells us.toArray t fz)) ∧ Inv g' (w.alloc (.cells us.toArray t fz)) { m with nx := m.nx + 1, live := addTok m.nx live } ∧ g'.tk m.nx = some (w.heap.size, n, us.length) ∧
      ∀ j, j < n → g'.own w.heap.size j = none := by
  let g' : G := { g with tk := fun st => if st = m.nx then some (w.heap.size, n, us.length) else g.tk st, own := fun b o => if b = w.heap.size ∧ n ≤ o ∧ o < us.length then some (true, m.nx) else g.own b o }
  have hne : ∀ st x, g.tk st = some x → st ≠ m.nx := fun st x h => by have := I.tklt st x h; omega
  have htk : ∀ st x, g.tk st = some x → g'.tk st = some x := fun st x h => by simp [g', hne st x h, h]
  have hown : ∀ b o, b ≠ w.heap.size → g'.own b o = g.own b o := fun b o h => by simp [g', h]
  have e : Ext g w g' (w.alloc (.cells us.toArray t fz)) := ⟨ExtW.alloc I _ (fun _ _ h => h) htk hown rfl, rfl⟩
  have k : ∀ x, Kept g w g' (w.alloc (.cells us.toArray t fz)) x := fun x => Kept.alloc I _ hown x
  refine ⟨g', e, ⟨fun bl hb' hr => (I.blk bl hb' hr).mono e (k _), I.nd, ?_, ?_, ?_, ?_, ?_, by rw [addTok_flat]; exact List.nodup_cons.2 ⟨fun h => Nat.lt_irrefl _ (I.live_lt (hl.subset h)), I.lnd.sublist hl⟩, fun st hr => ⟨(I.rsv st hr).1, Nat.lt_succ_of_lt (I.rsv st hr).2⟩, fun st b h => ⟨(I.mpk st b h).1, Nat.lt_succ_of_lt (I.mpk st b h).2.1, (I.mpk st b h).2.2⟩⟩, by simp [g'], ?_⟩
  · intro st x hx
    have := I.stlt st x hx
    simp; omega
  · intro t x hx
    simp only [g'] at hx
    split at hx
    · simp; omega
    · have := I.tklt t x hx; simp; omega
  · intro t' ht
    rw [addTok_flat] at ht
    rcases List.mem_cons.1 ht with rfl | ht
    · refine ⟨w.heap.size, n, us.length, by simp [g'], fun j h1 h2 => ⟨by simp [g', h1, h2], frozen_newF w us t fz j (hfz j h2), ?_⟩⟩
      rw [cell_newF, List.getElem?_eq_getElem h2]; rfl
    · obtain ⟨b, p, en, h1, h2⟩ := I.live t' (hl.subset ht)
      exact ⟨b, p, en, htk _ _ h1, h2.mono (k _)⟩
  · intro b o x hx
    simp only [g'] at hx
    split at hx
    · rename_i hc; exact ⟨by rw [hc.1]; exact I.hbase, by rw [hc.1]; simp⟩
    · have := I.ownb b o x hx; exact ⟨this.1, by simp; omega⟩
  · have := I.hbase; simp; exact Nat.le_succ_of_le this
  · intro j hj
    have : ¬ (n ≤ j ∧ j < us.length) := by omega
    simp only [g', true_and, this, if_false]
    exact own_new I j

theorem below_setCells {B : Nat} {a : World} (b : Nat) (hb : B ≤ b) : ∀ (vs : List Value) (o : Nat) (w : World), Below B a w → Below B a (w.setCells b o vs)
  | [], _, _, h => h
  | v :: r, o, w, h => below_setCells b hb r (o + 1) _ (h.setCell (p := ⟨b, o, none⟩) hb v)

theorem size_setCells (b : Nat) : ∀ (vs : List Value) (o : Nat) (w : World), (w.setCells b o vs).heap.size = w.heap.size
  | [], _, _ => rfl
  | v :: r, o, w => by rw [World.setCells, size_setCells b r]; simp [World.setCell]

theorem map_setCells (b : Nat) : ∀ (vs : List Value) (o : Nat) (w : World) {b' : Nat} {es : Array MapEntry} {c : Nat}, w.heap[b']? = some (.map es c) → (w.setCells b o vs).heap[b']? = some (.map es c)
  | [], _, _, _, _, _, h => h
  | v :: r, o, w, b', es, c, h => by
    rw [World.setCells]
    refine map_setCells b r (o + 1) _ ?_
    unfold World.setCell
    simp only [Array.getElem?_modify]
    split
    · rename_i hb; subst hb; simp [h]
    · exact h

theorem cell_out {w : World} {b o : Nat} {vs : List Value} {b' o' : Nat} (h : b' = b → o' < o ∨ o + vs.length ≤ o') : (w.setCells b o vs).cell? ⟨b', o', none⟩ = w.cell? ⟨b', o', none⟩ :=
  World.cell?_setCells_out b vs o w ⟨b', o', none⟩ (fun h1 _ => h h1)

/-- Cells that x owns are written: whatever is not x's is as it was. -/
theorem ExtW.stored {g g' : G} {w : World} {m : Mem} (I : Inv g w m) (x : Bool × Nat) (b o : Nat) (vs : List Value) (h : Held g w x b o (o + vs.length)) (hv : 0 < vs.length)
    (hbt : ∀ st y, g.bt st = some y → g'.bt st = some y) (htk : ∀ t y, g.tk t = some y → g'.tk t = some y)
    (hown : ∀ b' j, g.own b' j = none → g'.own b' j = none) (hb : g'.base = g.base) (hmp : ∀ st b, g.mp st = some b → g'.mp st = some b := by exact fun _ _ h => h) : ExtW g w g' (w.setCells b o vs) := by
  refine ⟨hbt, htk, fun b' j v h1 h2 => ⟨?_, hown _ _ h2⟩, hb, hmp, below_setCells b (I.ownb b o x (h o (Nat.le_refl _) (by omega)).1).1 vs o w (Below.refl _ _)⟩
  rw [cell_out (fun hbb => ?_)]
  · exact h1
  · subst hbb
    rcases Nat.lt_or_ge j o with hj | hj
    · exact .inl hj
    · rcases Nat.lt_or_ge j (o + vs.length) with hk | hk
      · have := (h j hj hk).1; rw [h2] at this; simp at this
      · exact .inr hk

theorem Kept.stored {g g' : G} {w : World} (x y : Bool × Nat) (b o : Nat) (vs : List Value) (h : Held g w x b o (o + vs.length)) (hxy : y ≠ x)
    (hown : ∀ b' j, g.own b' j = some y → g'.own b' j = some y) : Kept g w g' (w.setCells b o vs) y := by
  intro b' j hj
  refine ⟨hown _ _ hj, World.frozen?_setCells b vs o w _, cell_out (fun hbb => ?_), fun es c he => map_setCells b vs o w he⟩
  subst hbb
  rcases Nat.lt_or_ge j o with h1 | h1
  · exact .inl h1
  · rcases Nat.lt_or_ge j (o + vs.length) with hk | hk
    · have := (h j h1 hk).1; rw [hj] at this; exact absurd (Option.some.inj this) hxy
    · exact .inr hk

end Go.Vs
