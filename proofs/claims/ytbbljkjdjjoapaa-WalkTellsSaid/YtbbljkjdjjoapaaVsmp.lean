/-
  Vsmp: maps that a call makes: made, read, written.
-/
import Derived.Test.YtbbljkjdjjoapaaVsg
import Derived.MapKept
import Derived.Carry
namespace Go.Vs
open Go.RowKit

section
variable {P : Program} {g : G} {w : World} {ρ : List AV} {a : Act} {m m' : Mem} {o : Oper} {r : AV}

theorem Rep.inv_mapR {l k st : Nat} {v : Value} (h : Rep g w (.mapR l k st) v) : ∃ b, g.mp st = some b ∧ v = .map (some b) := by
  cases h with | mapR _ _ _ b h => exact ⟨b, h, rfl⟩

/-- A new map. -/
theorem Inv.alloc_map (I : Inv g w m) : ∃ g', Ext g w g' (w.alloc (.map #[] 0)) ∧ Inv g' (w.alloc (.map #[] 0)) { m with cur := m.cur ++ [⟨m.nx, [.tup []]⟩], nx := m.nx + 1 } ∧ g'.mp m.nx = some w.heap.size := by
  let g' : G := { g with mp := fun st => if st = m.nx then some w.heap.size else g.mp st, own := fun b o => if b = w.heap.size then some (false, m.nx) else g.own b o }
  have hmp : ∀ st x, g.mp st = some x → g'.mp st = some x := fun st x h => by
    have := (I.mpk st x h).2.1
    have hne : st ≠ m.nx := by omega
    simp [g', hne, h]
  have hown : ∀ b o, b ≠ w.heap.size → g'.own b o = g.own b o := fun b o h => by simp [g', h]
  have e : Ext g w g' (w.alloc (.map #[] 0)) := ⟨ExtW.alloc I _ (fun _ _ h => h) (fun _ _ h => h) hown rfl hmp, rfl⟩
  have k : ∀ x, Kept g w g' (w.alloc (.map #[] 0)) x := fun x => Kept.alloc I _ hown x
  have hb : g'.mp m.nx = some w.heap.size := by simp [g']
  refine ⟨g', e, ⟨fun bl hb' hr => ?_, ?_, ?_, ?_, ?_, ?_, ?_, I.lnd, fun st hr => ?_, fun st b h => ?_⟩, hb⟩
  · simp only [Mem.all, List.mem_append, List.mem_singleton] at hb'
    rcases hb' with hb' | hb' | rfl
    · exact (I.blk bl (by simp [Mem.all, hb']) hr).mono e (k _)
    · exact (I.blk bl (by simp [Mem.all, hb']) hr).mono e (k _)
    · exact .inr ⟨w.heap.size, [], #[], 0, hb, fun j => by simp [g'], rfl, heap_new w _, by simpa using EntsOk.nil⟩
  · have := I.nd
    simp only [Mem.all, List.map_append, List.map_cons, List.map_nil] at this ⊢
    rw [← List.append_assoc, List.nodup_append]
    refine ⟨this, by simp, fun a ha b hb' => ?_⟩
    simp only [List.mem_singleton] at hb'
    subst hb'
    rw [← List.map_append] at ha
    obtain ⟨bl, hbl, rfl⟩ := List.mem_map.1 ha
    have := I.st_lt (bl := bl) hbl
    omega
  · intro st x hx
    have := I.stlt st x hx; simp; omega
  · intro t x hx
    have := I.tklt t x hx
    simp; omega
  · intro t ht
    obtain ⟨b, p, en, h1, h2⟩ := I.live t ht
    exact ⟨b, p, en, h1, h2.mono (k _)⟩
  · intro b o x hx
    simp only [g'] at hx
    split at hx
    · rename_i hc; exact ⟨by rw [hc]; exact I.hbase, by rw [hc]; simp⟩
    · have := I.ownb b o x hx; exact ⟨this.1, by simp; omega⟩
  · have := I.hbase; simp; exact Nat.le_succ_of_le this
  · have h1 := I.rsv st hr
    exact ⟨h1.1, by simp; omega⟩
  · by_cases hs : st = m.nx
    · subst hs
      refine ⟨?_, by simp, ?_⟩
      · cases h : g.bt m.nx with
        | none => simp [g', h]
        | some x => exact absurd (I.stlt _ _ h) (Nat.lt_irrefl _)
      · cases h : g.rs m.nx with
        | false => simp [g', h]
        | true => exact absurd (I.rsv _ h).2 (Nat.lt_irrefl _)
    · simp only [g', hs, if_false] at h
      have h1 := I.mpk st b h
      exact ⟨h1.1, by simp; omega, h1.2.2⟩

theorem mkmap_sound (I : Inv g w m) {t : TypeId} (hop : o.op = .makeMap t none) : Yields P a o g w (.mapR m.stk.length m.cur.length m.nx) { m with cur := m.cur ++ [⟨m.nx, [.tup []]⟩], nx := m.nx + 1 } := by
  obtain ⟨g', e, I', hb⟩ := I.alloc_map
  refine ⟨g', _, _, .inl ?_, e, I', .mapR _ _ _ _ hb⟩
  simp [execOp, hop, run_makeMap, Result.andThen]

/-- A block of the heap that holds a map is written. -/
def setMap (w : World) (b : Nat) (ob : Obj) : World := { w with heap := w.heap.setIfInBounds b ob }

theorem setMap_other (w : World) (b : Nat) (ob : Obj) {b' : Nat} (h : b' ≠ b) : (setMap w b ob).heap[b']? = w.heap[b']? := by
  unfold setMap
  simp only [Array.getElem?_setIfInBounds]
  rw [if_neg (fun e => h e.symm)]

theorem cell_other (w : World) (b : Nat) (ob : Obj) {b' : Nat} (h : b' ≠ b) (j : Nat) : (setMap w b ob).cell? ⟨b', j, none⟩ = w.cell? ⟨b', j, none⟩ := by
  unfold World.cell?
  rw [setMap_other w b ob h]
theorem frozen_other (w : World) (b : Nat) (ob : Obj) {b' : Nat} (h : b' ≠ b) (j : Nat) : (setMap w b ob).frozen? ⟨b', j, none⟩ = w.frozen? ⟨b', j, none⟩ := by
  unfold World.frozen?
  rw [setMap_other w b ob h]

theorem Inv.put_map (I : Inv g w m) {l k st b : Nat} {ps ps' : List AV} {es' : Array MapEntry} {c' : Nat} (hb : m.blk l k st = some [.tup ps]) (hm : g.mp st = some b) (hps : EntsOk ps' es'.toList) :
    Ext g w g (setMap w b (.map es' c')) ∧ Inv g (setMap w b (.map es' c')) (m.put l k st [.tup ps']) := by
  have hin := mem_all_of_blk hb
  obtain ⟨b0, ps0, es, clock, h1, h2, h3, h4, h5⟩ := I.map hin hm
  simp only at h1 h2 h3
  rw [hm] at h1
  injection h1 with h1; subst h1
  have hlt : b < w.heap.size := (Array.getElem?_eq_some_iff.1 h4).1
  have hnc : ∀ j, w.cell? ⟨b, j, none⟩ = none := fun j => by unfold World.cell?; simp [h4]
  have hbase : g.base ≤ b := (I.ownb b 0 _ (h2 0)).1
  have ext : Ext g w g (setMap w b (.map es' c')) := by
    refine ⟨⟨fun _ _ h => h, fun _ _ h => h, fun b' j v e1 e2 => ⟨?_, e2⟩, rfl, fun _ _ h => h, ?_⟩, rfl⟩
    · have hne : b' ≠ b := fun e => by rw [e, hnc] at e1; cases e1
      rw [cell_other _ _ _ hne]; exact e1
    · exact ⟨rfl, rfl, rfl, by simp [setMap], fun q hq => setMap_other _ _ _ (by omega)⟩
  have kept : ∀ y, y ≠ (false, st) → Kept g w g (setMap w b (.map es' c')) y := by
    intro y hy b' j hj
    have hne : b' ≠ b := fun e => by rw [e, h2 j] at hj; exact hy (Option.some.inj hj).symm
    exact ⟨hj, frozen_other _ _ _ hne j, cell_other _ _ _ hne j, fun es c he => by rw [setMap_other _ _ _ hne]; exact he⟩
  refine ⟨ext, ⟨fun bl hbl hr => ?_, ?_, ?_, ?_, ?_, ?_, ?_, ?_, ?_, ?_⟩⟩
  · rcases put_cases I _ hb hbl with rfl | ⟨hbl, hne⟩
    · refine .inr ⟨b, ps', es', c', hm, h2, rfl, ?_, hps⟩
      simp [setMap, hlt]
    · exact (I.blk bl hbl hr).mono ext (kept _ (fun h => hne (by injection h)))
  · rw [put_sts _ hb]; exact I.nd
  · rw [put_nx]; exact I.stlt
  · rw [put_nx]; exact I.tklt
  · rw [put_live]
    intro t ht
    obtain ⟨b', p, en, a1, a2⟩ := I.live t ht
    exact ⟨b', p, en, a1, a2.mono (kept _ (fun h => by injection h with h _; cases h))⟩
  · intro b' o' x hx
    have := I.ownb b' o' x hx
    exact ⟨this.1, by simp [setMap]; exact this.2⟩
  · simp [setMap]; exact I.hbase
  · rw [put_live]; exact I.lnd
  · rw [put_nx]; exact I.rsv
  · rw [put_nx]; exact I.mpk

/-! ### keys -/
theorem bytes_beq (s s' : ByteArray) : (s == s') = (s.data.toList == s'.data.toList) := by
  have h : (s == s') = (s.data == s'.data) := rfl
  rw [h]
  cases hq : (s.data == s'.data) with
  | true => have := beq_iff_eq.1 hq; rw [this]; simp
  | false =>
    have hne : s.data ≠ s'.data := fun e => by rw [e] at hq; simp at hq
    have : s.data.toList ≠ s'.data.toList := fun e => hne (by simpa using e)
    simp [hne]

theorem keyEq_sound {kk : Bool} {kt : TypeId} (hk : keyKindT P kt = some kk) : ∃ d, P.underlying kt = some d ∧ ∀ {x y : AV} {u v : Value} {t : Bool}, PRep x u → PRep y v → keyEq kk x y = some t → Instr.sameNow d u v = some t := by
  unfold keyKindT at hk
  split at hk
  · rename_i hd
    injection hk with hk; subst hk
    refine ⟨_, hd, fun {x y u v t} h1 h2 he => ?_⟩
    cases h1 <;> cases h2 <;> simp only [keyEq] at he <;> first | (cases he; done) | skip
    rename_i l s h l' s' h'
    subst h; subst h'
    injection he with he; subst he
    simp only [Instr.sameNow, Option.some.injEq]
    exact bytes_beq s s'
  · rename_i q hd
    injection hk with hk; subst hk
    refine ⟨_, hd, fun {x y u v t} h1 h2 he => ?_⟩
    cases h1 <;> cases h2 <;> simp only [keyEq] at he <;> first | (cases he; done) | skip
    split at he
    · rename_i hs
      injection he with he; subst he
      simp [Instr.sameNow, sameKind_eq hs]
    · cases he
  · cases hk

theorem findNow_get {kk : Bool} {d : TypeDesc} (hs : ∀ {x y : AV} {u v : Value} {t : Bool}, PRep x u → PRep y v → keyEq kk x y = some t → Instr.sameNow d u v = some t) {z k r : AV} {kv : Value} (hk : PRep k kv) :
    ∀ {ps : List AV} {es : List MapEntry} (i : Nat), EntsOk ps es → mapGet kk z k ps = some r → (Instr.findNow d kv es i = some none ∧ r = z) ∨ ∃ j v, Instr.findNow d kv es i = some (some (j, v)) ∧ PRep r v
  | _, _, i, .nil, h => by
    simp only [mapGet, Option.some.injEq] at h
    exact .inl ⟨rfl, h.symm⟩
  | _, _, i, .cons (k := k') (v := v') (e := e) h1 h2 h3, h => by
    simp only [mapGet] at h
    split at h
    · rename_i he
      injection h with h; subst h
      exact .inr ⟨i, e.val, by simp [Instr.findNow, hs hk h1 he], h2⟩
    · rename_i he
      have := findNow_get hs hk (i + 1) h3 h
      simpa [Instr.findNow, hs hk h1 he] using this
    · cases h

theorem findNow_put {kk : Bool} {d : TypeDesc} (hs : ∀ {x y : AV} {u v : Value} {t : Bool}, PRep x u → PRep y v → keyEq kk x y = some t → Instr.sameNow d u v = some t) {k v : AV} {kv vv : Value} (hk : PRep k kv) (hv : PRep v vv) :
    ∀ {ps ps' : List AV} {es : List MapEntry} (i : Nat), EntsOk ps es → mapPut kk k v ps = some ps' →
      (Instr.findNow d kv es i = some none ∧ ∀ born, EntsOk ps' (es ++ [⟨kv, vv, born⟩])) ∨
      ∃ j e, Instr.findNow d kv es i = some (some (i + j, e.val)) ∧ es[j]? = some e ∧ (∃ k', PRep k' e.key ∧ keyEq kk k k' = some true) ∧ EntsOk ps' (es.modify j fun e => { e with key := kv, val := vv })
  | _, _, _, i, .nil, h => by
    simp only [mapPut, Option.some.injEq] at h
    subst h
    exact .inl ⟨rfl, fun born => .cons hk hv .nil⟩
  | _, _, _, i, .cons (k := k') (v := v') (e := e) h1 h2 h3, h => by
    simp only [mapPut] at h
    split at h
    · rename_i he
      injection h with h; subst h
      exact .inr ⟨0, e, by simp [Instr.findNow, hs hk h1 he], rfl, ⟨k', h1, he⟩, by simpa using EntsOk.cons hk hv h3⟩
    · rename_i he
      simp only [Option.map_eq_some_iff] at h
      obtain ⟨l, hl, rfl⟩ := h
      rcases findNow_put hs hk hv (i + 1) h3 hl with ⟨a1, a2⟩ | ⟨j, e', a1, a2, a3, a4⟩
      · exact .inl ⟨by simp [Instr.findNow, hs hk h1 he, a1], fun born => .cons h1 h2 (a2 born)⟩
      · exact .inr ⟨j + 1, e', by simp [Instr.findNow, hs hk h1 he, a1]; omega, by simpa using a2, a3, by simpa using EntsOk.cons h1 h2 a4⟩
    · cases h

theorem isKey_plain {kk : Bool} {k : AV} (h : isKey kk k = true) : isPlain k = true := by
  cases k <;> cases kk <;> simp [isKey] at h <;> rfl

theorem key_check {kk : Bool} {kt : TypeId} (hk : keyKindT P kt = some kk) (em : Bool) (n : Nat) (v : Value) (w : World) : (Instr.checkKey em (n + 1) kt v).run P w = .ok () w := by
  unfold keyKindT at hk
  split at hk
  · rename_i hd; simp [Instr.checkKey, run_underlying hd]
  · rename_i hd; simp [Instr.checkKey, run_underlying hd]
  · cases hk

theorem zero_plain {t : TypeId} {z : AV} (h : plainZero P t = some z) (w : World) : ∃ v, (zeroValue t).run P w = .ok v w ∧ PRep z v := by
  unfold plainZero at h
  split at h
  · rename_i z' hz
    split at h
    · rename_i hp
      injection h with h; subst h
      obtain ⟨v, h1, h2⟩ := zero_of hz w
      exact ⟨v, h1, (avOf_sound (g := ⟨fun _ => none, fun _ => none, fun _ _ => none, 0, fun _ => false, fun _ => none⟩) (w := w) h2).plain hp⟩
    · cases h
  · cases h

theorem mget_sound (hR : Reps g w ρ a.tmps.toList) (I : Inv g w m) {t kt et : TypeId} {x k : Operand} {x' k' : Opd} {kk : Bool} {z : AV} {ps : List AV} (hop : o.op = .lookup t x k false) (ht : P.underlying t = some (.map kt et)) (hk : keyKindT P kt = some kk) (hz : plainZero P et = some z)
    (hx : compOpd x = some x') (hkx : compOpd k = some k') (hps : m.ents (x'.ev ρ) = some ps) (hky : isKey kk (k'.ev ρ) = true) (hg : mapGet kk z (k'.ev ρ) ps = some r) : Yields P a o g w r m := by
  have h1 := opd_sound hR hx
  have h2 := (opd_sound hR hkx).plain (isKey_plain hky)
  unfold Mem.ents at hps
  split at hps
  · rename_i l i st hxe
    split at hps
    · rename_i ps0 hb
      injection hps with hps; subst hps
      rw [hxe] at h1
      obtain ⟨b, hmp, hv⟩ := h1.inv_mapR
      obtain ⟨b0, ps1, es, clock, e1, e2, e3, e4, e5⟩ := I.map (mem_all_of_blk hb) hmp
      simp only at e1 e3
      rw [hmp] at e1
      injection e1 with e1; subst e1
      injection e3 with e3 _; injection e3 with e3; subst e3
      obtain ⟨d, hd, hs⟩ := keyEq_sound hk
      obtain ⟨zv, hzv, hzr⟩ := zero_plain hz w
      rcases findNow_get hs h2 0 e5 hg with ⟨f1, rfl⟩ | ⟨j, v, f1, f2⟩
      · refine .pure I (v := zv) ?_ hzr.rep
        simp [execOp, hop, hv, Instr.lookup, run_underlying ht, MapKept.run_getObj_map e4, key_check hk, Instr.findKey, run_underlying hd, f1, hzv, Result.andThen]
      · refine .pure I (v := v) ?_ f2.rep
        simp [execOp, hop, hv, Instr.lookup, run_underlying ht, MapKept.run_getObj_map e4, key_check hk, Instr.findKey, run_underlying hd, f1, Result.andThen]
    · cases hps
  · cases hps

theorem sameBits_key {kk : Bool} {x y : AV} {u v : Value} (h1 : PRep x u) (h2 : PRep y v) (h : keyEq kk x y = some true) (n : Nat) : Instr.sameBits n v u = true := by
  cases h1 <;> cases h2 <;> cases kk <;> simp only [keyEq] at h <;> first | (cases h; done) | skip
  · split at h
    · rename_i hs
      injection h with h
      have := sameKind_eq hs
      have h' := beq_iff_eq.1 h
      subst this; subst h'
      cases n <;> simp [Instr.sameBits]
    · cases h
  · rename_i l s h1 l' s' h2
    injection h with h
    have h' := beq_iff_eq.1 h
    have : s = s' := by cases s; cases s'; simp at h1 h2; subst h1; subst h2; simpa using h'
    subst this
    have hb : (s == s) = true := by rw [bytes_beq]; simp
    cases n <;> simp [Instr.sameBits, hb]

theorem mput_sound (hR : Reps g w ρ a.tmps.toList) (I : Inv g w m) {t kt et : TypeId} {x k v : Operand} {x' k' v' : Opd} {kk : Bool} (hop : o.op = .mapUpdate t x k v) (ht : P.underlying t = some (.map kt et)) (hk : keyKindT P kt = some kk)
    (hx : compOpd x = some x') (hkx : compOpd k = some k') (hvx : compOpd v = some v') (he : evMput m kk (x'.ev ρ) (k'.ev ρ) (v'.ev ρ) = some (r, m')) : Yields P a o g w r m' := by
  unfold evMput at he
  split at he
  · rename_i l i st hxe
    split at he
    · rename_i ps hps
      split at he
      · rename_i hc
        simp only [Bool.and_eq_true] at hc
        obtain ⟨⟨c1, c2⟩, c3⟩ := hc
        simp only [Option.map_eq_some_iff, Prod.mk.injEq] at he
        obtain ⟨ps', hput, rfl, rfl⟩ := he
        have h1 := opd_sound hR hx
        have h2 := (opd_sound hR hkx).plain (isKey_plain c1)
        have h3 := (opd_sound hR hvx).plain c2
        simp only [Mem.ents] at hps
        split at hps
        · rename_i ps0 hb
          injection hps with hps; subst hps
          rw [hxe] at h1
          obtain ⟨b, hmp, hv⟩ := h1.inv_mapR
          obtain ⟨b0, ps1, es, clock, e1, e2, e3, e4, e5⟩ := I.map (mem_all_of_blk hb) hmp
          simp only at e1 e3
          rw [hmp] at e1
          injection e1 with e1; subst e1
          injection e3 with e3 _; injection e3 with e3; subst e3
          obtain ⟨d, hd, hs⟩ := keyEq_sound hk
          rcases findNow_put hs h2 h3 0 e5 hput with ⟨f1, f2⟩ | ⟨j, e, f1, f2, ⟨k0, f3, f4⟩, f5⟩
          · obtain ⟨k1, k2⟩ := I.put_map (ps' := ps') (es' := es.push ⟨a.eval k, a.eval v, clock⟩) (c' := clock + 1) hb hmp (by simpa using f2 clock)
            refine ⟨g, _, Go.undef, .inr ⟨?_, rfl⟩, k1, k2, rep_undef _ _⟩
            simp [execOp, hop, hv, Instr.mapUpdate, run_underlying ht, MapKept.run_getObj_map e4, key_check hk, Instr.findKey, run_underlying hd, f1, MapKept.run_setObj_map _ e4, setMap, Result.andThen]
          · obtain ⟨k1, k2⟩ := I.put_map (ps' := ps') (es' := es.modify j fun e => { e with key := a.eval k, val := a.eval v }) (c' := clock) hb hmp (by simpa using f5)
            refine ⟨g, _, Go.undef, .inr ⟨?_, rfl⟩, k1, k2, rep_undef _ _⟩
            have hge : es[j]? = some e := by simpa using f2
            have hst : (Instr.keyThatStays e.key (a.eval k)).run P w = .ok (a.eval k) w := by
              simp [Instr.keyThatStays, sameBits_key h2 f3 f4]
            simp only [Nat.zero_add] at f1
            simp [execOp, hop, hv, Instr.mapUpdate, run_underlying ht, MapKept.run_getObj_map e4, key_check hk, Instr.findKey, run_underlying hd, f1, hge, hst, MapKept.run_setObj_map _ e4, setMap, Result.andThen]
        · cases hps
      · cases he
    · cases he
  · cases he

end
end Go.Vs
