/-
  Vsi: strings cut, arrays cut, make, conversions between bytes and strings, literals, append.
-/
import Derived.Test.YtbbljkjdjjoapaaVsh
import Derived.Laws.AppendOwn
namespace Go.Vs
open Go.RowKit

section
variable {P : Program} {g : G} {w : World} {ρ : List AV} {a : Act} {m m' : Mem} {o : Oper} {r : AV}

theorem compOpt_none : compOpt none = some none := rfl

theorem sliceS_sound (hR : Reps g w ρ a.tmps.toList) (I : Inv g w m) {t : TypeId} {x : Operand} {x' : Opd} {lo hi : Option Operand} {lo' hi' : Option Opd} (hop : o.op = .slice t x lo hi none) (hx : compOpd x = some x')
    (hlo : compOpt lo = some lo') (hhi : compOpt hi = some hi') (ht : P.underlying t = some .string) (he : evSliceS (x'.ev ρ) (lo'.map fun p => p.ev ρ) (hi'.map fun p => p.ev ρ) = some r) : Yields P a o g w r m := by
  have h1 := opd_sound hR hx
  unfold evSliceS at he
  split at he
  · rename_i l e1
    rw [e1] at h1
    obtain ⟨s, hv, rfl⟩ := h1.inv_str
    have hs : s.data.toList.length = s.size := by simp
    rw [hs] at he
    simp only [Option.bind_eq_some_iff, Option.map_eq_some_iff] at he
    obtain ⟨h, hb1, l, hb2, rfl⟩ := he
    have hb := bounds_sound (P := P) (mx := none) (mx' := none) hR hlo hhi rfl false s.size s.size (Nat.le_refl _) (mm := s.size) ⟨rfl, hb1⟩ hb2
    have hh : h ≤ s.size := by rcases bound_of hb1 with ⟨_, rfl⟩ | ⟨_, _, _, _, _, _, hle⟩ <;> omega
    refine .pure I (v := .string (s.extract l h)) ?_ (.str _ _ ?_)
    · simp only [Option.map_none] at hb
      simp [execOp, hop, hv, Instr.sliceAt, Instr.slice, run_underlying ht, hb]
    · simp [ByteArray.data_extract, List.extract_eq_take_drop, List.drop_take]
  · cases he

theorem sliceA_sound (hR : Reps g w ρ a.tmps.toList) (I : Inv g w m) {t e : TypeId} {n s : Nat} {x : Operand} {x' : Opd} {lo hi : Option Operand} {lo' hi' : Option Opd} (hop : o.op = .slice t x lo hi none) (hx : compOpd x = some x')
    (hlo : compOpt lo = some lo') (hhi : compOpt hi = some hi') (ht : P.underlying t = some (.array n e)) (hn : sizeOfT P e = some s) (he : evSliceA n s (x'.ev ρ) (lo'.map fun p => p.ev ρ) (hi'.map fun p => p.ev ρ) = some r) : Yields P a o g w r m := by
  have h1 := opd_sound hR hx
  unfold evSliceA at he
  split at he
  · rename_i l0 k0 st off e1
    rw [e1] at h1
    obtain ⟨b, oo, e', hbt, hv⟩ := h1.inv_ptr
    simp only [Option.bind_eq_some_iff, Option.map_eq_some_iff] at he
    obtain ⟨h, hb1, l, hb2, rfl⟩ := he
    have hh : h ≤ n := by rcases bound_of hb1 with ⟨_, rfl⟩ | ⟨_, _, _, _, _, _, hle⟩ <;> omega
    have hl : l ≤ h := by rcases bound_of hb2 with ⟨_, rfl⟩ | ⟨_, _, _, _, _, _, hle⟩ <;> omega
    have hb := bounds_sound (P := P) (mx := none) (mx' := none) hR hlo hhi rfl false n n (Nat.le_refl _) (mm := n) ⟨rfl, hb1⟩ hb2
    simp only [Option.map_none] at hb
    refine .pure I (v := .slice (some (if n = l then ⟨b, oo + off, none⟩ else (⟨b, oo + off, none⟩ : Addr).add (l * s))) (h - l) (n - l)) ?_ ?_
    · simp [execOp, hop, hv, Instr.sliceAt, Instr.sureAddr, run_underlying ht, hb, size_of hn w]
    · by_cases hnl : n = l
      · have : h - l = 0 := by omega
        rw [this]; exact .arr0 _ _ _ _ _ _
      · rw [if_neg hnl, add_plain, Nat.add_assoc]
        exact .arr _ _ _ _ _ _ _ _ _ hbt (by omega)
  · cases he

theorem flatRep_sound {z : List AV} {us : List Value} (h : Reps g w z us) : ∀ n, Reps g w (flatRep z n) (List.replicate n us).flatten
  | 0 => by simpa [flatRep] using Reps.nil g w
  | n + 1 => by
    rw [List.replicate_succ, List.flatten_cons]
    exact h.append (flatRep_sound h n)

theorem flatten_get {s : Nat} (hs : 0 < s) (us : List Value) (hl : us.length = s) : ∀ (n j : Nat), j < n * s → (List.replicate n us).flatten[j]? = us[j % s]?
  | 0, j, h => by simp at h
  | n + 1, j, h => by
    rw [List.replicate_succ, List.flatten_cons]
    by_cases hj : j < s
    · rw [List.getElem?_append_left (by omega), Nat.mod_eq_of_lt hj]
    · rw [List.getElem?_append_right (by omega), hl, flatten_get hs us hl n (j - s) (by rw [Nat.add_mul] at h; omega)]
      congr 1
      have := Nat.sub_add_cancel (Nat.le_of_not_lt hj)
      conv => rhs; rw [← this, Nat.add_mod_right]

theorem rangeZ {s : Nat} (hs : 0 < s) (z : Array Value) (hl : z.size = s) (n : Nat) : ((Array.range (n * s)).map (fun i => z[i % z.size]!)) = ((List.replicate n z.toList).flatten).toArray := by
  apply Array.ext'
  simp only [Array.toList_map, Array.toList_range, List.toList_toArray]
  apply List.ext_getElem?
  intro j
  rw [List.getElem?_map]
  by_cases hj : j < n * s
  · rw [List.getElem?_range hj, flatten_get hs z.toList (by simpa using hl) n j hj]
    simp only [Option.map_some, hl]
    have : j % s < z.size := by rw [hl]; exact Nat.mod_lt _ hs
    rw [getElem!_pos z (j % s) this]
    simp [this]
  · have h1 : (List.replicate n z.toList).flatten.length = n * s := by simp [hl]
    rw [List.getElem?_eq_none (by simpa using hj), List.getElem?_eq_none (by rw [h1]; omega)]
    rfl

theorem make_sound (hR : Reps g w ρ a.tmps.toList) (I : Inv g w m) {t e : TypeId} {x y : Operand} {x' y' : Opd} {ti : TypeInfo} {z : AV} (hop : o.op = .makeSlice t x y) (hx : compOpd x = some x') (hy : compOpd y = some y')
    (ht : P.underlying t = some (.slice e)) (hi : P.info? e = some ti) (hz : zeroT P e = some z) (h0 : 0 < ti.size) (hzs : (ti.zero.map fun z => z.cells.size) = some ti.size)
    (he : evMake m ti.size ti.bytes z.cells (x'.ev ρ) (y'.ev ρ) = some (r, m')) : Yields P a o g w r m' := by
  have h1 := opd_sound hR hx
  have h2 := opd_sound hR hy
  unfold evMake at he
  split at he
  · rename_i k n k' n' e1 e2
    split at he
    · rename_i hc
      obtain ⟨rfl, c1, c2, c3, c4⟩ := hc
      injection he with he
      injection he with he1 he2
      subst he1; subst he2
      rw [e1] at h1; rw [e2] at h2
      have hv1 := h1.inv_int
      have hv2 := h2.inv_int
      obtain ⟨zv, hzv, hav⟩ := zero_of hz w
      have hzi : ti.zero = some zv := by
        simp only [zeroT, hi, Option.bind_some, Option.bind_eq_some_iff] at hz
        obtain ⟨v, h3, h4⟩ := hz
        have : (zeroValue e).run P w = .ok v w := by simp [zeroValue, typeInfo, hi, h3]
        rw [this] at hzv
        injection hzv with hzv
        rw [← hzv]; exact h3
      have hsz : zv.cells.size = ti.size := by rw [hzi] at hzs; simpa using hzs
      have hzr := (avOf_sound (g := g) (w := w) hav).cells (by omega)
      have hrun := run_make (P := P) w t e ti zv ht hi hzi k k' n n c1 (Int.le_refl _) c2 c3
      have hcells : madeCells zv.cells (n.toNat * ti.size) = ((List.replicate n.toNat zv.cells.toList).flatten).toArray := by
        unfold madeCells
        exact rangeZ h0 zv.cells hsz n.toNat
      rw [hcells] at hrun
      obtain ⟨g', k1, k2, k3⟩ := I.alloc_blk (flatRep z.cells n.toNat) _ e (flatRep_sound hzr n.toNat)
      refine ⟨g', _, .slice (some ⟨w.heap.size, 0, none⟩) n.toNat n.toNat, .inl ?_, k1, k2, ?_⟩
      · simp only [execOp, hop, hv1, hv2, Sem.run_bind, hrun, Result.andThen_ok]
        rfl
      · exact .arr _ _ _ 0 _ _ 0 _ _ k3 (Nat.le_refl _)
    · cases he
  · cases he

theorem bytes_reps : ∀ (l : List UInt8), Reps g w (ofBytes l) (l.map fun b => Value.int .u8 b.toNat)
  | [] => Reps.nil g w
  | b :: r => Reps.cons (.int _ _) (bytes_reps r)

theorem toBytes_sound (hR : Reps g w ρ a.tmps.toList) (I : Inv g w m) {s d e : TypeId} {x : Operand} {x' : Opd} {l : List UInt8} (hop : o.op = .convert s d x) (hx : compOpd x = some x') (hs : P.underlying s = some .string) (hd : P.underlying d = some (.slice e))
    (hu : isU8 P e = true) (he : x'.ev ρ = .str l) : Yields P a o g w (.list 1 (.id m.nx) (ofBytes l)) { m with nx := m.nx + 1, live := addTok m.nx m.live } := by
  have h1 := opd_sound hR hx
  rw [he] at h1
  obtain ⟨b, hv, rfl⟩ := h1.inv_str
  have hsz : b.data.toList.length = b.size := by simp
  let cap := grownCap w b.size 0 e
  have hcap : b.size ≤ cap := grownCap_ge w b.size 0 e
  let us : List Value := (b.data.toList.map fun c => Value.int .u8 c.toNat) ++ List.replicate (cap - b.size) (.int .u8 0)
  have hul : us.length = cap := by simp [us]; omega
  have hne : ∀ j, j < us.length → ¬ ((cap, cap + 1).1 ≤ j ∧ j < (cap, cap + 1).2) := fun j hj => by simp only; omega
  obtain ⟨g', k1, k2, k3, k4⟩ := I.drew.alloc_tok us b.size e (cap, cap + 1) hne m.live (List.Sublist.refl _)
  have kx := (Ext.drew g w).trans k1
  have hrun : (Conv.stringToBytes e b).run P w = .ok (.slice (some ⟨w.heap.size, 0, none⟩) b.size cap) (w.drew.alloc (.cells us.toArray e (cap, cap + 1))) := by
    have harr : (b.data.map (fun c => Value.int .u8 c.toNat)) ++ Array.replicate (cap - b.size) (Value.int .u8 0) = us.toArray := by
      apply Array.ext'
      simp [us]
    have hsize : us.length = cap := hul
    simp only [Conv.stringToBytes, Sem.run_bind, run_choose, Question.forced, Bool.false_eq_true, if_false, Result.andThen_ok, newRow, run_newObj, Sem.run_pure, markStringish, run_shape]
    have hc : (Question.appendCap b.size 0 e).cut (w.tape w.drawn (.appendCap b.size 0 e)) = cap := rfl
    rw [hc, harr]
    have hsh : ({ w with drawn := w.drawn + 1, heap := w.heap.push (Obj.cells us.toArray e) } : World).shape? w.heap.size = some (e, cap) := by
      simp [World.shape?, hsize]
    simp only [hsh, run_freeze, Sem.run_bind, Result.andThen_ok, Sem.run_pure]
    congr 1
    simp only [World.freeze, World.alloc, World.drew]
    simp
    apply Array.ext_getElem?
    intro i
    rw [Array.getElem?_modify, Array.getElem?_push, Array.getElem?_push]
    by_cases hi : i = w.heap.size
    · subst hi; simp
    · have : ¬ w.heap.size = i := fun h => hi h.symm
      simp [hi, this]
  refine ⟨g', _, .slice (some ⟨w.heap.size, 0, none⟩) b.size cap, .inl ?_, kx, k2, ?_⟩
  · simp [execOp, hop, hv, convert, run_underlying hs, run_underlying hd, run_underlying (isU8_of hu), hrun]
  · have hlen : (ofBytes b.data.toList).length = b.size := by simp [ofBytes]
    have get : ∀ (i j : Nat) (x c : AV), (ofBytes b.data.toList)[i]? = some x → x.cells[j]? = some c → j = 0 ∧ i < b.size ∧ ∃ y : UInt8, b.data.toList[i]? = some y ∧ c = .int .u8 y.toNat ∧ x = c := by
      intro i j x c h1 h2
      have hi : i < b.size := by rw [← hlen]; exact (List.getElem?_eq_some_iff.1 h1).1
      simp only [ofBytes, List.getElem?_map, Option.map_eq_some_iff] at h1
      obtain ⟨y, h3, rfl⟩ := h1
      cases j with
      | zero => simp [AV.cells] at h2; exact ⟨rfl, hi, y, h3, h2.symm, h2⟩
      | succ j => simp [AV.cells] at h2
    have := Rep.list (g := g') (w := w.drew.alloc (.cells us.toArray e (cap, cap + 1))) 1 (.id m.nx) (ofBytes b.data.toList) w.heap.size 0 cap (fun i _ => (us.getD i (.int .u8 0)))
      (fun i x hx => by simp only [ofBytes, List.getElem?_map, Option.map_eq_some_iff] at hx; obtain ⟨y, _, rfl⟩ := hx; rfl) (by omega) (by simp only [TokAt, hlen, Nat.zero_add, Nat.mul_one]; rw [k3, hul]; rfl)
      (fun i j x c h1 h2 => by
        obtain ⟨rfl, hi, y, h3, rfl, rfl⟩ := get i j x c h1 h2
        refine ⟨?_, ?_, ?_⟩
        · have := cell_newF w.drew us e (cap, cap + 1) (0 + (i * 1 + 0))
          rw [show (w.drew).heap.size = w.heap.size from rfl] at this
          rw [this]
          simp only [Nat.mul_one, Nat.add_zero, Nat.zero_add, List.getD_eq_getElem?_getD]
          rw [List.getElem?_eq_getElem (by omega)]; rfl
        · have := k4 i hi
          simpa using this
        · have : us.getD i (.int .u8 0) = .int .u8 y.toNat := by
            rw [List.getD_eq_getElem?_getD]
            simp only [us]
            rw [List.getElem?_append_left (by simp; omega), List.getElem?_map, h3]; rfl
          rw [this]; rfl)
      (fun i j x c h1 h2 => by
        obtain ⟨rfl, hi, y, h3, rfl, rfl⟩ := get i j x c h1 h2
        have : us.getD i (.int .u8 0) = .int .u8 y.toNat := by
          rw [List.getD_eq_getElem?_getD]
          simp only [us]
          rw [List.getElem?_append_left (by simp; omega), List.getElem?_map, h3]; rfl
        rw [this]; exact .int _ _)
    rw [hlen] at this
    exact this

end
end Go.Vs
