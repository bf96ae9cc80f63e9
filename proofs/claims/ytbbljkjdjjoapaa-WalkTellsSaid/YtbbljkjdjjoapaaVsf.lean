/-
  Vsf: each operation that is no call: what the evaluator says of it, it does.
-/
import Derived.Test.YtbbljkjdjjoapaaVse
import Derived.Great.FillDense
namespace Go.Vs
open Go.RowKit

theorem avCell_sound {g : G} {w : World} {v : Value} {x : AV} (h : avCell v = some x) : Rep g w x v := by
  unfold avCell at h
  split at h <;> simp at h <;> subst h
  · exact .bool _
  · exact .int _ _
  · exact .str _ _ rfl
  · exact .nilptr
  · exact .nils
  · exact .nilfn

theorem avCells_sound {g : G} {w : World} : ∀ {vs : List Value} {xs : List AV}, avCells vs = some xs → Reps g w xs vs
  | [], xs, h => by simp [avCells] at h; subst h; exact Reps.nil g w
  | v :: r, xs, h => by
    simp only [avCells] at h
    split at h
    · rename_i a l h1 h2
      simp at h; subst h
      exact Reps.cons (avCell_sound h1) (avCells_sound h2)
    · cases h

theorem avOf_sound {g : G} {w : World} {v : Value} {x : AV} (h : avOf v = some x) : Rep g w x v := by
  unfold avOf at h
  split at h
  · rename_i cs
    cases hq : avCells cs.toList with
    | none => rw [hq] at h; cases h
    | some l => rw [hq] at h; simp at h; subst h; exact (avCells_sound hq).agg
  · rename_i vs
    split at h
    · rename_i h0
      simp at h; subst h
      have : vs = #[] := Array.eq_empty_of_size_eq_zero h0
      subst this
      exact rep_undef g w
    · cases h
  · exact avCell_sound h

theorem getD_sound {g : G} {w : World} {ρ : List AV} {tmps : Array Value} (hR : Reps g w ρ tmps.toList) (i : Nat) : Rep g w (ρ.getD i (.tup [])) (tmps.getD i Go.undef) := by
  rw [List.getD_eq_getElem?_getD, Array.getD_eq_getD_getElem?]
  have hl : tmps.size = ρ.length := by simpa using hR.1
  cases h1 : ρ[i]? with
  | some x =>
    obtain ⟨v, h2, h3⟩ := hR.get h1
    rw [show tmps[i]? = some v by simpa using h2]
    exact h3
  | none =>
    have : ρ.length ≤ i := by simpa using h1
    rw [Array.getElem?_eq_none (by omega)]
    exact rep_undef g w

theorem opd_sound {g : G} {w : World} {ρ : List AV} {a : Act} (hR : Reps g w ρ a.tmps.toList) {x : Operand} {y : Opd} (h : compOpd x = some y) : Rep g w (y.ev ρ) (a.eval x) := by
  cases x with
  | tmp t => simp [compOpd] at h; subst h; exact getD_sound hR t
  | const v =>
    simp only [compOpd, Option.map_eq_some_iff] at h
    obtain ⟨z, h1, rfl⟩ := h
    exact avOf_sound h1
  | func f => simp [compOpd] at h; subst h; exact .fn _ _ _ _ _ rfl rfl (fun j c v h => by simp at h) (fun j c v h => by simp at h)
  | global n => simp [compOpd] at h

theorem opds_sound {g : G} {w : World} {ρ : List AV} {a : Act} (hR : Reps g w ρ a.tmps.toList) : ∀ {xs : List Operand} {ys : List Opd}, compOpds xs = some ys → Reps g w (ys.map fun p => p.ev ρ) (xs.map a.eval)
  | [], ys, h => by simp [compOpds] at h; subst h; exact Reps.nil g w
  | x :: r, ys, h => by
    simp only [compOpds] at h
    split at h
    · rename_i y l h1 h2
      simp at h; subst h
      exact Reps.cons (opd_sound hR h1) (opds_sound hR h2)
    · cases h

theorem Rep.inv_bool {g : G} {w : World} {b : Bool} {v : Value} (h : Rep g w (.bool b) v) : v = .bool b := by cases h; rfl
theorem Rep.inv_int {g : G} {w : World} {k : IntKind} {n : Int} {v : Value} (h : Rep g w (.int k n) v) : v = .int k n := by cases h; rfl
theorem Rep.inv_str {g : G} {w : World} {l : List UInt8} {v : Value} (h : Rep g w (.str l) v) : ∃ s, v = .string s ∧ s.data.toList = l := by
  cases h with | str _ s h => exact ⟨s, rfl, h⟩
theorem Rep.inv_nils {g : G} {w : World} {v : Value} (h : Rep g w .nils v) : v = .slice none 0 0 := by cases h; rfl
theorem Rep.inv_ptr {g : G} {w : World} {l k st off : Nat} {v : Value} (h : Rep g w (.ptr l k st off) v) : ∃ b o e, g.bt st = some (b, o, e) ∧ v = .pointer (some ⟨b, o + off, none⟩) := by
  cases h with | ptr _ _ _ _ b o e hb => exact ⟨b, o, e, hb, rfl⟩
theorem Rep.inv_arr {g : G} {w : World} {l k st off len : Nat} {v : Value} (h : Rep g w (.arr l k st off len) v) :
    (∃ b o e cap, g.bt st = some (b, o, e) ∧ v = .slice (some ⟨b, o + off, none⟩) len cap ∧ len ≤ cap) ∨ (len = 0 ∧ ∃ a cap, v = .slice (some a) 0 cap) := by
  cases h with
  | arr _ _ _ _ _ b o e cap hb hcap => exact .inl ⟨b, o, e, cap, hb, rfl, hcap⟩
  | arr0 _ _ _ _ a cap => exact .inr ⟨rfl, a, cap, rfl⟩
theorem Rep.inv_ro {g : G} {w : World} {cs : List AV} {v : Value} (h : Rep g w (.ro cs) v) : ∃ b o, v = .pointer (some ⟨b, o, none⟩) ∧ ∃ f : Nat → Value,
    (∀ (j : Nat) (c : AV), cs[j]? = some c → w.cell? ⟨b, o + j, none⟩ = some (f j) ∧ g.own b (o + j) = none) ∧ ∀ (j : Nat) (c : AV), cs[j]? = some c → Rep g w c (f j) := by
  cases h with | ro _ b o f hc hr => exact ⟨b, o, rfl, f, hc, hr⟩
/-- A list: its elements lie somewhere, settled; or it is empty. -/
theorem Rep.inv_list {g : G} {w : World} {s : Nat} {tk : Tok} {xs : List AV} {v : Value} (h : Rep g w (.list s tk xs) v) :
    (∃ b o cap, v = .slice (some ⟨b, o, none⟩) xs.length cap ∧ (∀ (i : Nat) (x : AV), xs[i]? = some x → x.cells.length = s) ∧ xs.length ≤ cap ∧ TokAt g tk b (o + xs.length * s) (o + cap * s) ∧
      ∃ f : Nat → Nat → Value, (∀ (i j : Nat) (x c : AV), xs[i]? = some x → x.cells[j]? = some c → w.cell? ⟨b, o + (i * s + j), none⟩ = some (f i j) ∧ g.own b (o + (i * s + j)) = none ∧ (f i j).oneCell' = true) ∧
        ∀ (i j : Nat) (x c : AV), xs[i]? = some x → x.cells[j]? = some c → Rep g w c (f i j)) ∨
    (xs = [] ∧ ∃ a cap, v = .slice (some a) 0 cap ∧ (tk = .none ∨ tk = .full ∧ cap = 0)) := by
  cases h with
  | list _ _ _ b o cap f hs hcap htk hc hr => exact .inl ⟨b, o, cap, rfl, hs, hcap, htk, f, hc, hr⟩
  | empty _ _ a cap h => exact .inr ⟨rfl, a, cap, rfl, h⟩

/-- What an operation must do. -/
def Yields (P : Program) (a : Act) (o : Oper) (g : G) (w : World) (r : AV) (m' : Mem) : Prop :=
  ∃ g' w' v, ((execOp a.eval o).run P w = .ok (.value v) w' ∨ ((execOp a.eval o).run P w = .ok .skip w' ∧ v = Go.undef)) ∧ Ext g w g' w' ∧ Inv g' w' m' ∧ Rep g' w' r v

theorem Yields.pure {P : Program} {a : Act} {o : Oper} {g : G} {w : World} {r : AV} {m : Mem} {v : Value} (I : Inv g w m) (h : (execOp a.eval o).run P w = .ok (.value v) w) (k : Rep g w r v) : Yields P a o g w r m :=
  ⟨g, w, v, .inl h, Ext.refl g w, I, k⟩

section
variable {P : Program} {g : G} {w : World} {ρ : List AV} {a : Act} {m m' : Mem} {o : Oper} {r : AV}

theorem size_of {t : TypeId} {n : Nat} (h : sizeOfT P t = some n) (w : World) : (sizeOf t).run P w = .ok n w := by
  simp only [sizeOfT, Option.map_eq_some_iff] at h
  obtain ⟨i, h1, h2⟩ := h
  simp [sizeOf, typeInfo, h1, h2]

theorem isAgg_of {t : TypeId} {b : Bool} (h : aggT P t = some b) (w : World) : (isAgg t).run P w = .ok b w := by
  unfold aggT at h
  unfold isAgg
  cases hu : P.underlying t with
  | none => rw [hu] at h; cases h
  | some d =>
    rw [hu] at h
    rw [Sem.run_bind, run_underlying hu w]
    cases d <;> simp at h <;> subst h <;> rfl

theorem zero_of {t : TypeId} {x : AV} (h : zeroT P t = some x) (w : World) : ∃ v, (zeroValue t).run P w = .ok v w ∧ avOf v = some x := by
  simp only [zeroT, Option.bind_eq_some_iff] at h
  obtain ⟨v, ⟨i, h1, h2⟩, h3⟩ := h
  exact ⟨v, by simp [zeroValue, typeInfo, h1, h2], h3⟩

/-- A new block. -/
theorem new_sound (I : Inv g w m) (cs : List AV) (us : List Value) (t : TypeId) (h : Reps g w cs us) :
    ∃ g', Ext g w g' (w.alloc (.cells us.toArray t)) ∧ Inv g' (w.alloc (.cells us.toArray t)) (m.new cs).2 ∧ Rep g' (w.alloc (.cells us.toArray t)) (m.new cs).1 (.pointer (some ⟨w.heap.size, 0, none⟩)) := by
  obtain ⟨g', h1, h2, h3⟩ := I.alloc_blk cs us t h
  exact ⟨g', h1, h2, .ptr _ _ _ 0 _ 0 _ h3⟩

theorem alloc_sound (I : Inv g w m) {e : TypeId} {z : AV} (hop : o.op = .alloc e) (hz : zeroT P e = some z) (hz0 : 0 < z.cells.length) : Yields P a o g w (m.new z.cells).1 (m.new z.cells).2 := by
  obtain ⟨v, h1, h2⟩ := zero_of hz w
  have h3 := (avOf_sound (g := g) (w := w) h2).cells hz0
  obtain ⟨g', k1, k2, k3⟩ := new_sound I z.cells v.cells.toList e h3
  refine ⟨g', _, _, .inl ?_, k1, k2, k3⟩
  simp [execOp, hop, Instr.alloc, h1, newVar, newRow]

theorem box_sound (hR : Reps g w ρ a.tmps.toList) (I : Inv g w m) {e : TypeId} {x : Operand} {y : Opd} {n : Nat} (hop : o.op = .box e x) (hx : compOpd x = some y) (hn : (y.ev ρ).cells.length = n) (h0 : 0 < n) :
    Yields P a o g w (m.new (y.ev ρ).cells).1 (m.new (y.ev ρ).cells).2 := by
  have h3 := (opd_sound hR hx).cells (by omega)
  obtain ⟨g', k1, k2, k3⟩ := new_sound I (y.ev ρ).cells (a.eval x).cells.toList e h3
  refine ⟨g', _, _, .inl ?_, k1, k2, k3⟩
  simp [execOp, hop, Instr.box, newVar, newRow]

/-- The cells from an address on. -/
theorem at_sound (I : Inv g w m) {x : AV} {v : Value} {cs : List AV} (h : Rep g w x v) (hc : m.at x = some cs) :
    ∃ b o us, v = .pointer (some ⟨b, o, none⟩) ∧ Reps g w cs us ∧ ∀ (j : Nat) (u : Value), us[j]? = some u → w.cell? ⟨b, o + j, none⟩ = some u := by
  cases h with
  | ptr l k st off b o e hb =>
    simp only [Mem.at, Option.map_eq_some_iff] at hc
    obtain ⟨cs0, h1, rfl⟩ := hc
    obtain ⟨b1, o1, e1, a1, a2, a3, vs, a4, a5⟩ := I.cells (mem_all_of_blk h1) hb
    rw [hb] at a1
    obtain ⟨rfl, rfl, rfl⟩ : b = b1 ∧ o = o1 ∧ e = e1 := by simpa using a1
    exact ⟨b, o + off, vs.drop off, rfl, a4.drop off, fun j u hj => by rw [List.getElem?_drop] at hj; rw [Nat.add_assoc]; exact a5 _ _ hj⟩
  | ro cs' b o f hc' hr =>
    simp only [Mem.at, Option.some.injEq] at hc
    subst hc
    refine ⟨b, o, (List.range cs'.length).map f, rfl, ⟨by simp, fun j c v h1 h2 => ?_⟩, fun j u hj => ?_⟩
    · have hj : j < cs'.length := (List.getElem?_eq_some_iff.1 h1).1
      simp [List.getElem?_range hj] at h2
      subst h2
      exact hr j c h1
    · have hj' : j < cs'.length := by
        have := (List.getElem?_eq_some_iff.1 hj).1
        simpa using this
      simp [List.getElem?_range hj'] at hj
      subst hj
      exact (hc' j cs'[j] (List.getElem?_eq_getElem hj')).1
  | _ => simp [Mem.at] at hc

/-- The cells of a slice over a block. -/
theorem arr_sound (I : Inv g w m) {l k st off len : Nat} {v : Value} {cs : List AV} (h : Rep g w (.arr l k st off len) v) (hc : m.blk l k st = some cs) :
    (len = 0 ∧ ∃ a cap, v = .slice (some a) 0 cap) ∨
    ∃ b o cap us, v = .slice (some ⟨b, o, none⟩) len cap ∧ len ≤ cap ∧ Reps g w (cs.drop off) us ∧ ∀ (j : Nat) (u : Value), us[j]? = some u → w.cell? ⟨b, o + j, none⟩ = some u := by
  rcases h.inv_arr with ⟨b, o, e, cap, hb, hv, hcap⟩ | h
  · obtain ⟨b1, o1, e1, a1, a2, a3, vs, a4, a5⟩ := I.cells (mem_all_of_blk hc) hb
    rw [hb] at a1
    obtain ⟨rfl, rfl, rfl⟩ : b = b1 ∧ o = o1 ∧ e = e1 := by simpa using a1
    exact .inr ⟨b, o + off, cap, vs.drop off, hv, hcap, a4.drop off, fun j u hj => by rw [List.getElem?_drop] at hj; rw [Nat.add_assoc]; exact a5 _ _ hj⟩
  · exact .inl h

theorem takeV_agg {n : Nat} {cs : List AV} {v : AV} (h : takeV true n cs = some v) : v = .agg (cs.take n) ∧ n ≤ cs.length := by
  unfold takeV at h
  split at h
  · simp at h; exact ⟨h.symm, by assumption⟩
  · cases h
theorem takeV_one {n : Nat} {cs : List AV} {v : AV} (h : takeV false n cs = some v) : cs[0]? = some v ∧ n ≤ cs.length := by
  unfold takeV at h
  split at h
  · simp at h; exact ⟨by cases cs <;> simp_all, by assumption⟩
  · cases h

theorem loadVar_sound (I : Inv g w m) {t : TypeId} {b : Bool} {n : Nat} {x : AV} {v : Value} {cs : List AV} {y : AV} (hx : Rep g w x v) (hb : aggT P t = some b) (hn : sizeOfT P t = some n) (hc : m.at x = some cs) (ht : takeV b n cs = some y) :
    ∃ u, (Instr.loadAt t v).run P w = .ok u w ∧ Rep g w y u := by
  obtain ⟨bb, oo, us, rfl, h1, h2⟩ := at_sound I hx hc
  cases b with
  | true =>
    obtain ⟨rfl, hle⟩ := takeV_agg ht
    have hul : us.length = cs.length := h1.1
    have hl : (loadCells ⟨bb, oo, none⟩ n).run P w = .ok (us.take n).toArray w := by
      have := run_loadCells_list (P := P) w ⟨bb, oo, none⟩ (us.take n) (fun j v hj => by
        rw [Addr.add_mid]
        rw [List.getElem?_take] at hj
        split at hj
        · exact h2 j v hj
        · cases hj)
      rw [List.length_take, Nat.min_eq_left (by omega)] at this
      exact this
    exact ⟨_, by simp [Instr.loadAt, Instr.sureAddr, loadVar, isAgg_of hb w, size_of hn w, hl], (h1.take n).agg⟩
  | false =>
    obtain ⟨h0, hle⟩ := takeV_one ht
    obtain ⟨u, h3, h4⟩ := h1.get h0
    have := h2 0 u h3
    exact ⟨u, by simp [Instr.loadAt, Instr.sureAddr, loadVar, isAgg_of hb w]; simp at this; rw [this], h4⟩

theorem load_sound (hR : Reps g w ρ a.tmps.toList) (I : Inv g w m) {t : TypeId} {x : Operand} {y : Opd} {b : Bool} {n : Nat} {cs : List AV} (hop : o.op = .load t x) (hx : compOpd x = some y) (hb : aggT P t = some b) (hn : sizeOfT P t = some n)
    (hc : m.at (y.ev ρ) = some cs) (ht : takeV b n cs = some r) : Yields P a o g w r m := by
  obtain ⟨u, h1, h2⟩ := loadVar_sound I (opd_sound hR hx) hb hn hc ht
  exact .pure I (by simp [execOp, hop, h1]) h2

theorem Inv.putS {g : G} {w : World} {m : Mem} {l k st : Nat} {cs : List AV} (I : Inv g w (m.put l k st cs)) (ts : List Nat) : Inv g w (m.putS l k st cs ts) := by
  rw [putS_eq]
  split
  · have : { m.put l k st cs with live := m.live } = m.put l k st cs := by unfold Mem.put; split <;> rfl
    rw [this]; exact I
  · have hl : (m.put l k st cs).live = m.live := by unfold Mem.put; split <;> rfl
    have h := sink_ok (j := m.stk.length - l) (ts := ts) (hl ▸ I.lnd)
    exact ⟨I.blk, I.nd, I.stlt, I.tklt, fun t ht => I.live t (hl ▸ h.1 t ht), I.ownb, I.hbase, h.2, I.rsv, I.mpk⟩

theorem store_sound (hR : Reps g w ρ a.tmps.toList) (I : Inv g w m) {t : TypeId} {x z : Operand} {y u : Opd} {n : Nat} (hop : o.op = .store t x z) (hx : compOpd x = some y) (hz : compOpd z = some u) (hn : sizeOfT P t = some n)
    (he : evStore m n (y.ev ρ) (u.ev ρ) = some (r, m')) (h0 : 0 < n) : Yields P a o g w r m' := by
  unfold evStore at he
  split at he
  · rename_i l k st off hy
    split at he
    · rename_i cs hb
      split at he
      · rename_i hc
        simp only [Bool.and_eq_true, beq_iff_eq, decide_eq_true_eq] at hc
        obtain ⟨⟨⟨c1, c2⟩, c3⟩, c4⟩ := hc
        simp only [Option.some.injEq, Prod.mk.injEq] at he
        obtain ⟨rfl, rfl⟩ := he
        have hxr := opd_sound hR hx
        have hzr := (opd_sound hR hz).cells (by omega)
        rw [hy] at hxr
        obtain ⟨b1, o1, e1, hb1, heq⟩ := hxr.inv_ptr
        · obtain ⟨b2, o2, e2, k1, k2, k3, k4⟩ := I.store (off := off) (new := (u.ev ρ).cells) hb hb1 (by omega) (by omega) hzr
          rw [hb1] at k1
          obtain ⟨rfl, rfl, rfl⟩ : b1 = b2 ∧ o1 = o2 ∧ e1 = e2 := by simpa using k1
          refine ⟨g, _, Go.undef, .inr ⟨?_, rfl⟩, k3, k4.putS _, rep_undef _ _⟩
          have hsz : (a.eval z).cells.size = n := by have := hzr.1; simp at this; omega
          have hst := run_storeCells_cells (P := P) b1 (o1 + off) (a.eval z).cells.toList 0 w (fun j hj => by simpa using (k2 (o1 + off + j) (by omega) (by simpa using hj)).2.2)
            (fun j hj => by simpa using (k2 (o1 + off + j) (by omega) (by simpa using hj)).2.1) (hzr.one c2)
          simp only [Nat.add_zero] at hst
          simp only [execOp, hop, heq, Instr.storeAt, Instr.sureAddr, storeVar, Sem.run_bind, Sem.run_pure, Result.andThen_ok, size_of hn w, hsz]
          simp [hst]
      · cases he
    · cases he
  · cases he

end
end Go.Vs
