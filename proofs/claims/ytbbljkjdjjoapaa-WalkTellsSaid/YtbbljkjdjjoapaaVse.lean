/-
  Vse: blocks looked up and written; the invariant behind a store and behind an append in place.
-/
import Derived.Test.YtbbljkjdjjoapaaVsd
namespace Go.Vs
open Go.RowKit

theorem blk_row {m : Mem} {l k st : Nat} {cs : List AV} (h : m.blk l k st = some cs) : (m.row l)[k]? = some ⟨st, cs⟩ := by
  unfold Mem.blk at h
  split at h
  · rename_i b hb
    split at h
    · rename_i hs
      rw [hb]
      have := eq_of_beq hs
      cases b
      simp at this h
      rw [this, h]
    · cases h
  · cases h

theorem mem_all_of_blk {m : Mem} {l k st : Nat} {cs : List AV} (h : m.blk l k st = some cs) : (⟨st, cs⟩ : Blk) ∈ m.all := by
  have h1 := List.mem_of_getElem? (blk_row h)
  unfold Mem.row at h1
  simp only [Mem.all, List.mem_append]
  split at h1
  · exact .inr h1
  · left
    rw [List.getD_eq_getElem?_getD] at h1
    cases hq : m.stk[l]? with
    | none => rw [hq] at h1; simp at h1
    | some fr => rw [hq] at h1; exact List.mem_flatten.2 ⟨fr, List.mem_of_getElem? hq, h1⟩

theorem set_sts {fr : List Blk} {k st : Nat} {cs cs' : List AV} (h : fr[k]? = some ⟨st, cs⟩) : (fr.set k ⟨st, cs'⟩).map (·.st) = fr.map (·.st) := by
  apply List.ext_getElem?
  intro i
  simp only [List.getElem?_map, List.getElem?_set]
  by_cases hk : k = i
  · subst hk
    simp only [if_true]
    split
    · rw [h]; rfl
    · rename_i hlt
      rw [List.getElem?_eq_none (by omega)]
  · simp [hk]

theorem put_sts {m : Mem} {l k st : Nat} {cs : List AV} (cs' : List AV) (h : m.blk l k st = some cs) : (m.put l k st cs').all.map (·.st) = m.all.map (·.st) := by
  have h1 := blk_row h
  unfold Mem.row at h1
  unfold Mem.put Mem.all
  split
  · rename_i hl
    rw [if_pos hl] at h1
    simp only [List.map_append, set_sts h1]
  · rename_i hl
    rw [if_neg hl] at h1
    simp only [List.map_append]
    congr 1
    rw [List.map_flatten, List.map_flatten]
    congr 1
    apply List.ext_getElem?
    intro i
    simp only [List.getElem?_map, List.getElem?_modify]
    by_cases hi : l = i
    · subst hi
      simp only [if_true]
      cases hq : m.stk[l]? with
      | none => rfl
      | some fr =>
        have : fr[k]? = some ⟨st, cs⟩ := by rw [List.getD_eq_getElem?_getD, hq] at h1; exact h1
        simp [set_sts this]
    · simp [hi]

theorem put_mem {m : Mem} {l k st : Nat} {cs' : List AV} {bl : Blk} (h : bl ∈ (m.put l k st cs').all) : bl ∈ m.all ∨ bl = ⟨st, cs'⟩ := by
  unfold Mem.put Mem.all at h
  unfold Mem.all
  split at h
  · simp only [List.mem_append] at h ⊢
    rcases h with h | h
    · exact .inl (.inl h)
    · rcases List.mem_or_eq_of_mem_set h with h | h
      · exact .inl (.inr h)
      · exact .inr h
  · simp only [List.mem_append] at h ⊢
    rcases h with h | h
    · obtain ⟨fr, hfr, hb⟩ := List.mem_flatten.1 h
      obtain ⟨i, hi⟩ := List.getElem?_of_mem hfr
      rw [List.getElem?_modify] at hi
      cases hq : m.stk[i]? with
      | none => rw [hq] at hi; simp at hi
      | some f0 =>
        rw [hq] at hi
        simp only [Option.map_eq_map, Option.map_some, Option.some.injEq] at hi
        split at hi
        · rw [← hi] at hb
          rcases List.mem_or_eq_of_mem_set hb with hb | hb
          · exact .inl (.inl (List.mem_flatten.2 ⟨f0, List.mem_of_getElem? hq, hb⟩))
          · exact .inr hb
        · rw [← hi] at hb
          exact .inl (.inl (List.mem_flatten.2 ⟨f0, List.mem_of_getElem? hq, hb⟩))
    · exact .inl (.inr h)

theorem nodup_inj {l : List Blk} (h : (l.map (·.st)).Nodup) {x y : Blk} (hx : x ∈ l) (hy : y ∈ l) (e : x.st = y.st) : x = y := by
  induction l with
  | nil => cases hx
  | cons a r ih =>
    simp only [List.map_cons, List.nodup_cons] at h
    rcases List.mem_cons.1 hx with h1 | h1 <;> rcases List.mem_cons.1 hy with h2 | h2
    · rw [h1, h2]
    · exact absurd (List.mem_map.2 ⟨y, h2, by rw [← e, h1]⟩) h.1
    · exact absurd (List.mem_map.2 ⟨x, h1, by rw [e, h2]⟩) h.1
    · exact ih h.2 h1 h2

/-- Behind a put: a block that is no other one's than the written. -/
theorem put_cases {g : G} {w : World} {m : Mem} (I : Inv g w m) {l k st : Nat} {cs : List AV} (cs' : List AV) (h : m.blk l k st = some cs) {bl : Blk} (hb : bl ∈ (m.put l k st cs').all) :
    bl = ⟨st, cs'⟩ ∨ (bl ∈ m.all ∧ bl.st ≠ st) := by
  rcases put_mem hb with h1 | h1
  · by_cases hs : bl.st = st
    · left
      have hnd : ((m.put l k st cs').all.map (·.st)).Nodup := by rw [put_sts cs' h]; exact I.nd
      refine nodup_inj hnd hb ?_ hs
      have hr := blk_row h
      unfold Mem.put Mem.all
      unfold Mem.row at hr
      split
      · rename_i hl
        rw [if_pos hl] at hr
        have hk : k < m.cur.length := (List.getElem?_eq_some_iff.1 hr).1
        simp only [List.mem_append]
        exact .inr (List.mem_set hk _)
      · rename_i hl
        rw [if_neg hl, List.getD_eq_getElem?_getD] at hr
        cases hq : m.stk[l]? with
        | none => rw [hq] at hr; simp at hr
        | some fr =>
          rw [hq] at hr
          have hk : k < fr.length := (List.getElem?_eq_some_iff.1 hr).1
          simp only [List.mem_append]
          left
          refine List.mem_flatten.2 ⟨fr.set k ⟨st, cs'⟩, ?_, List.mem_set hk _⟩
          apply List.mem_of_getElem? (i := l)
          rw [List.getElem?_modify, hq]
          simp
    · exact .inr ⟨h1, hs⟩
  · exact .inl h1

theorem put_nx (m : Mem) (l k st : Nat) (cs : List AV) : (m.put l k st cs).nx = m.nx := by unfold Mem.put; split <;> rfl
theorem put_live (m : Mem) (l k st : Nat) (cs : List AV) : (m.put l k st cs).live = m.live := by unfold Mem.put; split <;> rfl

theorem splice_length (cs : List AV) (off : Nat) (new : List AV) (h : off + new.length ≤ cs.length) : (splice cs off new).length = cs.length := by
  simp [splice]; omega

theorem splice_get (cs : List AV) (off : Nat) (new : List AV) (h : off + new.length ≤ cs.length) (j : Nat) : (splice cs off new)[j]? = if off ≤ j ∧ j < off + new.length then new[j - off]? else cs[j]? := by
  unfold splice
  have ht : (cs.take off).length = off := by simp; omega
  by_cases h1 : j < off
  · rw [List.append_assoc, List.getElem?_append_left (by omega), List.getElem?_take, if_pos h1, if_neg (by omega)]
  · rw [List.append_assoc, List.getElem?_append_right (by omega), ht]
    by_cases h2 : j < off + new.length
    · rw [List.getElem?_append_left (by omega), if_pos (by omega)]
    · rw [List.getElem?_append_right (by omega), List.getElem?_drop, if_neg (by omega)]
      congr 1; omega

/-- The same for the values behind. -/
theorem Reps.splice {g : G} {w : World} {cs new : List AV} {vs us : List Value} (h : Reps g w cs vs) (k : Reps g w new us) {off : Nat} (hl : off + new.length ≤ cs.length) :
    Reps g w (splice cs off new) (vs.take off ++ us ++ vs.drop (off + us.length)) := by
  unfold Vs.splice
  have := (h.take off).append k |>.append (h.drop (off + new.length))
  rw [k.1]
  exact this

/-- A store. -/
theorem Inv.store {g : G} {w : World} {m : Mem} (I : Inv g w m) {l k st off : Nat} {cs new : List AV} {us : List Value} (hb : m.blk l k st = some cs) {x0 : Nat × Nat × Nat} (hbt : g.bt st = some x0) (hl : off + new.length ≤ cs.length) (hn : 0 < new.length) (hu : Reps g w new us) :
    ∃ b o e, g.bt st = some (b, o, e) ∧ Held g w (false, st) b (o + off) (o + off + us.length) ∧ Ext g w g (w.setCells b (o + off) us) ∧ Inv g (w.setCells b (o + off) us) (m.put l k st (splice cs off new)) := by
  have hm := mem_all_of_blk hb
  obtain ⟨b, o, e, h1, h2, h3, vs, h4, h5⟩ := I.cells hm hbt
  simp only at h1 h2 h3 h4 h5
  have hus : us.length = new.length := hu.1
  have hheld : Held g w (false, st) b (o + off) (o + off + us.length) := fun j a1 a2 => h3 j (by omega) (by omega)
  have ext : Ext g w g (w.setCells b (o + off) us) := ⟨ExtW.stored I (false, st) b (o + off) us hheld (by omega) (fun _ _ h => h) (fun _ _ h => h) (fun _ _ h => h) rfl, rfl⟩
  have kept : ∀ y, y ≠ (false, st) → Kept g w g (w.setCells b (o + off) us) y := fun y hy => Kept.stored (false, st) y b (o + off) us hheld hy (fun _ _ h => h)
  refine ⟨b, o, e, h1, hheld, ext, ⟨fun bl hbl hr => ?_, ?_, ?_, ?_, ?_, ?_, ?_, ?_, ?_, ?_⟩⟩
  · rcases put_cases I _ hb hbl with rfl | ⟨hbl, hne⟩
    · refine .inl ⟨b, o, e, h1, by simp only [splice_length cs off new hl]; exact h2, fun j a1 a2 => ?_, vs.take off ++ us ++ vs.drop (off + us.length), (h4.splice hu hl).mono ext, fun j v hv => ?_⟩
      · obtain ⟨c1, c2, c3⟩ := h3 j a1 a2
        refine ⟨c1, by rw [World.frozen?_setCells]; exact c2, ?_⟩
        by_cases hj : o + off ≤ j ∧ j < o + off + us.length
        · have := World.cell?_setCells_in b us (o + off) w (fun i hi => (hheld (o + off + i) (by omega) (by omega)).2.2) (j - (o + off)) (by omega)
          rw [show o + off + (j - (o + off)) = j by omega] at this
          rw [this]; rfl
        · rw [cell_out (fun _ => by omega)]; exact c3
      · have hvl : vs.length = cs.length := h4.1
        have htl : (vs.take off).length = off := by simp; omega
        by_cases hj : off ≤ j ∧ j < off + us.length
        · rw [List.append_assoc, List.getElem?_append_right (by omega), htl, List.getElem?_append_left (by omega)] at hv
          have := World.cell?_setCells_in b us (o + off) w (fun i hi => (hheld (o + off + i) (by omega) (by omega)).2.2) (j - off) (by omega)
          rw [show o + off + (j - off) = o + j by omega] at this
          rw [this]
          rw [List.getElem?_eq_getElem (by omega)] at hv
          exact hv
        · rw [cell_out (fun _ => by omega)]
          apply h5
          by_cases h6 : j < off
          · rw [List.append_assoc, List.getElem?_append_left (by omega), List.getElem?_take, if_pos h6] at hv; exact hv
          · rw [List.append_assoc, List.getElem?_append_right (by omega), htl, List.getElem?_append_right (by omega), List.getElem?_drop] at hv
            rw [show off + us.length + (j - off - us.length) = j by omega] at hv; exact hv
    · exact (I.blk bl hbl hr).mono ext (kept _ (fun h => hne (by injection h)))
  · rw [put_sts _ hb]; exact I.nd
  · rw [put_nx]; exact I.stlt
  · rw [put_nx]; exact I.tklt
  · rw [put_live]
    intro t ht
    obtain ⟨b', p, en, a1, a2⟩ := I.live t ht
    exact ⟨b', p, en, a1, a2.mono (kept _ (fun h => by injection h with h _; cases h))⟩
  · intro b' o' x hx
    have := I.ownb b' o' x hx
    exact ⟨this.1, by rw [size_setCells]; exact this.2⟩
  · rw [size_setCells]; exact I.hbase
  · rw [put_live]; exact I.lnd
  · rw [put_nx]; exact I.rsv
  · rw [put_nx]; exact I.mpk

/-- An append in place: a token's first places are filled, and settled. -/
theorem Inv.fill {g : G} {w : World} {m : Mem} (I : Inv g w m) {t b p e : Nat} {us : List Value} (ht : t ∈ m.live.flatten) (hg : g.tk t = some (b, p, e)) (hl : p + us.length ≤ e) (hn : 0 < us.length) :
    ∃ g', Held g w (true, t) b p e ∧ Ext g w g' (w.setCells b p us) ∧ Inv g' (w.setCells b p us) { m with nx := m.nx + 1, live := addTok m.nx (dropTok t m.live) } ∧ g'.tk m.nx = some (b, p + us.length, e) ∧
      ∀ j, p ≤ j → j < p + us.length → g'.own b j = none := by
  obtain ⟨b1, p1, e1, a1, a2⟩ := I.live t ht
  rw [hg] at a1
  obtain ⟨rfl, rfl, rfl⟩ : b = b1 ∧ p = p1 ∧ e = e1 := by simpa using a1
  let g' : G := { g with tk := fun st => if st = m.nx then some (b, p + us.length, e) else g.tk st, own := fun b' o => if b' = b ∧ p ≤ o ∧ o < e then (if o < p + us.length then none else some (true, m.nx)) else g.own b' o }
  have hne : ∀ st x, g.tk st = some x → st ≠ m.nx := fun st x h => by have := I.tklt st x h; omega
  have htk : ∀ st x, g.tk st = some x → g'.tk st = some x := fun st x h => by simp [g', hne st x h, h]
  have hheld : Held g w (true, t) b p (p + us.length) := fun j c1 c2 => a2 j c1 (by omega)
  have hnone : ∀ b' j, g.own b' j = none → g'.own b' j = none := by
    intro b' j hj
    simp only [g']
    split
    · rename_i hc
      have := (a2 j hc.2.1 hc.2.2).1
      rw [← hc.1, hj] at this; cases this
    · exact hj
  have hother : ∀ y, y ≠ (true, t) → ∀ b' j, g.own b' j = some y → g'.own b' j = some y := by
    intro y hy b' j hj
    simp only [g']
    split
    · rename_i hc
      have := (a2 j hc.2.1 hc.2.2).1
      rw [← hc.1, hj] at this; exact absurd (Option.some.inj this) hy
    · exact hj
  have ext : Ext g w g' (w.setCells b p us) := ⟨ExtW.stored I (true, t) b p us hheld hn (fun _ _ h => h) htk hnone rfl, rfl⟩
  have kept : ∀ y, y ≠ (true, t) → Kept g w g' (w.setCells b p us) y := fun y hy => Kept.stored (true, t) y b p us hheld hy (hother y hy)
  refine ⟨g', a2, ext, ⟨fun bl hbl hr => (I.blk bl hbl hr).mono ext (kept _ (fun h => by injection h with h _; cases h)), I.nd, ?_, ?_, ?_, ?_, ?_, by rw [addTok_flat]; exact List.nodup_cons.2 ⟨fun h => Nat.lt_irrefl _ (I.live_lt ((dropTok_sub t _).subset h)), I.lnd.sublist (dropTok_sub t _)⟩, fun st hr => ⟨(I.rsv st hr).1, Nat.lt_succ_of_lt (I.rsv st hr).2⟩, fun st b h => ⟨(I.mpk st b h).1, Nat.lt_succ_of_lt (I.mpk st b h).2.1, (I.mpk st b h).2.2⟩⟩, by simp [g'], ?_⟩
  · intro st x hx; have := I.stlt st x hx; simp; omega
  · intro t' x hx
    simp only [g'] at hx
    split at hx
    · simp; omega
    · have := I.tklt t' x hx; simp; omega
  · intro t' ht'
    rw [addTok_flat] at ht'
    rcases List.mem_cons.1 ht' with rfl | ht'
    · refine ⟨b, p + us.length, e, by simp [g'], fun j c1 c2 => ?_⟩
      obtain ⟨d1, d2, d3⟩ := a2 j (by omega) c2
      refine ⟨?_, by rw [World.frozen?_setCells]; exact d2, by rw [cell_out (fun _ => by omega)]; exact d3⟩
      simp only [g']
      rw [if_pos ⟨trivial, by omega, c2⟩, if_neg (by omega)]
    · obtain ⟨h1, h2⟩ := dropTok_ne I.lnd ht'
      have h2 := h2 ht
      obtain ⟨b2, p2, e2, c1, c2⟩ := I.live t' h1
      exact ⟨b2, p2, e2, htk _ _ c1, c2.mono (kept _ (fun h => by injection h with _ h; simp [h] at h2))⟩
  · intro b' o' x hx
    rw [size_setCells]
    simp only [g'] at hx
    split at hx
    · rename_i hc
      rw [hc.1]
      exact I.ownb b o' _ (a2 o' hc.2.1 hc.2.2).1
    · exact I.ownb b' o' x hx
  · rw [size_setCells]; exact I.hbase
  · intro j c1 c2
    simp only [g']
    rw [if_pos ⟨trivial, c1, by omega⟩, if_pos c2]

end Go.Vs
