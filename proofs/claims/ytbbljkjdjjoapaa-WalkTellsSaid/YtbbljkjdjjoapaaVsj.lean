/-
  Vsj: bytes to a string; struct and slice literals; append.
-/
import Derived.Test.YtbbljkjdjjoapaaVsi
namespace Go.Vs
open Go.RowKit

section
variable {P : Program} {g : G} {w : World} {ρ : List AV} {a : Act} {m m' : Mem} {o : Oper} {r : AV}

theorem bytesOf_get : ∀ {xs : List AV} {l : List UInt8}, bytesOf xs = some l → ∃ ns : List Int, xs = ns.map (fun n => AV.int .u8 n) ∧ l = ns.map (fun n => UInt8.ofNat n.toNat)
  | [], l, h => by simp [bytesOf] at h; exact ⟨[], rfl, h⟩
  | x :: r, l, h => by
    simp only [bytesOf] at h
    split at h
    · rename_i b l' h1 h2
      injection h with h
      obtain ⟨ns, h3, h4⟩ := bytesOf_get h2
      unfold byteOf at h1
      split at h1
      · rename_i n
        injection h1 with h1
        exact ⟨n :: ns, by simp [h3], by rw [← h, ← h1, h4]; rfl⟩
      · cases h1
    · cases h

theorem push_data (ns : List Int) : ∀ s : ByteArray, (ns.foldl (fun r n => r.push (UInt8.ofNat n.toNat)) s).data.toList = s.data.toList ++ ns.map (fun n => UInt8.ofNat n.toNat) := by
  induction ns with
  | nil => intro s; simp
  | cons n ns ih => intro s; rw [List.foldl_cons, ih]; simp [ByteArray.push]

theorem toStr_sound (hR : Reps g w ρ a.tmps.toList) (I : Inv g w m) {s d e : TypeId} {x : Operand} {x' : Opd} (hop : o.op = .convert s d x) (hx : compOpd x = some x') (hs : P.underlying s = some (.slice e)) (hd : P.underlying d = some .string)
    (hu : isU8 P e = true) (he : evToStr m (x'.ev ρ) = some r) : Yields P a o g w r m := by
  have h1 := opd_sound hR hx
  have run : ∀ b n c st, a.eval x = .slice b n c → (Conv.bytesToString (.slice b n c)).run P w = .ok (.string st) w → (execOp a.eval o).run P w = .ok (.value (.string st)) w := by
    intro b n c st hv hr
    cases b <;> simp [execOp, hop, hv, convert, run_underlying hs, run_underlying hd, run_underlying (isU8_of hu), hr]
  unfold evToStr at he
  split at he
  · rename_i e1
    injection he with he; subst he
    rw [e1] at h1
    exact .pure I (run _ _ _ .empty h1.inv_nils rfl) (.str _ _ rfl)
  · rename_i tk xs e1
    simp only [Option.map_eq_some_iff] at he
    obtain ⟨l, hl, rfl⟩ := he
    obtain ⟨ns, rfl, rfl⟩ := bytesOf_get hl
    rw [e1] at h1
    rcases h1.inv_list with ⟨b, oo, cap, hv, hsz, hcap, htk, f, hc, hr⟩ | ⟨hnil, b, cap, hv, _⟩
    · have hload : (loadCells ⟨b, oo, none⟩ (ns.map (fun n => AV.int .u8 n)).length).run P w = .ok (ns.map (Value.int .u8)).toArray w := by
        have := run_loadCells_list (P := P) w ⟨b, oo, none⟩ (ns.map (Value.int .u8)) (fun j v hj => by
          rw [List.getElem?_map, Option.map_eq_some_iff] at hj
          obtain ⟨n, hn, rfl⟩ := hj
          have hx0 : (ns.map (fun n => AV.int .u8 n))[j]? = some (.int .u8 n) := by rw [List.getElem?_map, hn]; rfl
          have h2 := (hc j 0 _ _ hx0 rfl).1
          have h3 := (hr j 0 _ _ hx0 rfl).inv_int
          rw [add_plain]
          rw [h3] at h2
          simpa using h2)
        simpa using this
      have := run_bytesToString (P := P) w ⟨b, oo, none⟩ (ns.map (fun n => AV.int .u8 n)).length cap ns hload
      refine .pure I (run _ _ _ _ hv this) (.str _ _ ?_)
      rw [push_data]; rfl
    · have : ns = [] := by simpa using hnil
      subst this
      refine .pure I (run (some b) 0 cap .empty hv ?_) (.str _ _ rfl)
      exact run_bytesToString (P := P) w b 0 cap [] rfl
  · rename_i l k st off len e1
    split at he
    · rename_i cs hblk
      split at he
      · rename_i hle
        simp only [decide_eq_true_eq] at hle
        simp only [Option.map_eq_some_iff] at he
        obtain ⟨bs, hl, rfl⟩ := he
        obtain ⟨ns, hns, rfl⟩ := bytesOf_get hl
        have hlen : ns.length = len := by
          have := congrArg List.length hns
          simp only [List.length_take, List.length_drop, List.length_map] at this
          omega
        rw [e1] at h1
        rcases arr_sound I h1 hblk with ⟨rfl, b, cap, hv⟩ | ⟨b, oo, cap, us, hv, hcap, hreps, hcell⟩
        · have : ns = [] := List.eq_nil_of_length_eq_zero hlen
          subst this
          refine .pure I (run (some b) 0 cap .empty hv ?_) (.str _ _ rfl)
          exact run_bytesToString (P := P) w b 0 cap [] rfl
        · have hload : (loadCells ⟨b, oo, none⟩ len).run P w = .ok (ns.map (Value.int .u8)).toArray w := by
            have := run_loadCells_list (P := P) w ⟨b, oo, none⟩ (ns.map (Value.int .u8)) (fun j v hj => by
              rw [List.getElem?_map, Option.map_eq_some_iff] at hj
              obtain ⟨n, hn, rfl⟩ := hj
              have hjl : j < len := by rw [← hlen]; exact (List.getElem?_eq_some_iff.1 hn).1
              have hx0 : (cs.drop off)[j]? = some (.int .u8 n) := by
                have : ((cs.drop off).take len)[j]? = some (.int .u8 n) := by rw [hns, List.getElem?_map, hn]; rfl
                rw [List.getElem?_take, if_pos hjl] at this
                exact this
              obtain ⟨u, hu1, hu2⟩ := hreps.get hx0
              rw [add_plain, hcell j u hu1, hu2.inv_int])
            rw [List.length_map, hlen] at this
            exact this
          have := run_bytesToString (P := P) w ⟨b, oo, none⟩ len cap ns hload
          refine .pure I (run _ _ _ _ hv this) (.str _ _ ?_)
          rw [push_data]; rfl
      · cases he
    · cases he
  · cases he

theorem set_splice (cells : Array Value) (v : Array Value) (off : Nat) (h : off + v.size ≤ cells.size) :
    (v.zipIdx.foldl (fun cs (x : Value × Nat) => cs.setIfInBounds (off + x.2) x.1) cells).toList = cells.toList.take off ++ v.toList ++ cells.toList.drop (off + v.toList.length) := by
  rw [← Array.foldl_toList, Array.toList_zipIdx]
  obtain ⟨h1, h2⟩ := Great.foldl_set off v.toList 0 cells
  apply List.ext_getElem?
  intro k
  rw [Array.getElem?_toList, h2 k]
  simp only [Nat.add_zero, Array.length_toList]
  have ht : (cells.toList.take off).length = off := by simp; omega
  by_cases hk : off ≤ k ∧ k < off + v.size
  · rw [if_pos ⟨hk.1, hk.2, by omega⟩, List.append_assoc, List.getElem?_append_right (by omega), ht, List.getElem?_append_left (by simp; omega)]
  · rw [if_neg (by omega)]
    by_cases hlt : k < off
    · rw [List.append_assoc, List.getElem?_append_left (by omega), List.getElem?_take, if_pos hlt]; simp
    · rw [List.append_assoc, List.getElem?_append_right (by omega), ht, List.getElem?_append_right (by simp; omega), List.getElem?_drop]
      simp only [Array.length_toList]
      rw [show off + v.size + (k - off - v.size) = k by omega]; simp

theorem fill_sound (hR : Reps g w ρ a.tmps.toList) {place : Nat → Option (Nat × Nat)} : ∀ {l : List (Nat × Operand)} {ps : List (Nat × Nat × Opd)} {z : List AV} {zs : Array Value} {cs : List AV},
    compParts P place l = some ps → Reps g w z zs.toList → evBuild z ρ ps = some cs → ∃ vs : Array Value, Instr.fill place zs (l.map fun p => (p.1, a.eval p.2)) = some vs ∧ Reps g w cs vs.toList
  | [], ps, z, zs, cs, h1, h2, h3 => by
    simp [compParts] at h1; subst h1
    simp [evBuild] at h3; subst h3
    exact ⟨zs, rfl, h2⟩
  | (i, x) :: l, ps, z, zs, cs, h1, h2, h3 => by
    simp only [compParts] at h1
    split at h1
    · rename_i off n y ps' e1 e2 e3
      split at h1
      · rename_i hn
        injection h1 with h1; subst h1
        simp only [evBuild] at h3
        split at h3
        · rename_i hc
          simp only [Bool.and_eq_true, beq_iff_eq, decide_eq_true_eq] at hc
          have hx := (opd_sound hR e2).cells (by omega)
          have hsz : (a.eval x).cells.size = n := by have := hx.1; simp at this; omega
          have hzl : zs.size = z.length := by simpa using h2.1
          have hbase := h2.splice (new := (y.ev ρ).cells) hx (off := off) (by omega)
          have hss := set_splice zs (a.eval x).cells off (by omega)
          obtain ⟨vs, k1, k2⟩ := fill_sound hR (zs := ((a.eval x).cells.zipIdx.foldl (fun cs (x : Value × Nat) => cs.setIfInBounds (off + x.2) x.1) zs)) e3 (by rw [hss]; exact hbase) h3
          refine ⟨vs, ?_, k2⟩
          rw [← k1]
          simp only [List.map_cons, Instr.fill, e1, hsz]
          rw [if_neg (by simp; omega)]
        · cases h3
      · cases h1
    · cases h1

theorem run_mapM_places (P : Program) (w : World) : ∀ (l : List Field), l.all (fun f => (P.info? f.type).isSome) = true →
    (l.mapM fun f => (do pure (f.offset, ← sizeOf f.type) : Sem (Nat × Nat))).run P w = .ok (l.map fun f => (f.offset, (sizeOfT P f.type).getD 0)) w
  | [], _ => rfl
  | f :: l, h => by
    simp only [List.all_cons, Bool.and_eq_true] at h
    obtain ⟨ti, hi⟩ := Option.isSome_iff_exists.1 h.1
    have ih := run_mapM_places P w l h.2
    have hs : sizeOfT P f.type = some ti.size := by simp [sizeOfT, hi]
    simp only [List.mapM_cons, Sem.run_bind, size_of hs w, Result.andThen_ok, Sem.run_pure, ih, List.map_cons, hs, Option.getD_some]

theorem buildStruct_sound (hR : Reps g w ρ a.tmps.toList) (I : Inv g w m) {t : TypeId} {ps : Array (Nat × Operand)} {z : AV} {fs : Array Field} {l : List (Nat × Nat × Opd)} {cs : List AV} (hop : o.op = .build t ps) (hz : zeroT P t = some z) (ht : P.underlying t = some (.struct fs))
    (hall : fs.toList.all (fun f => (P.info? f.type).isSome) = true) (hl : compParts P (fieldPlaceT P fs) ps.toList = some l) (he : evBuild z.cells ρ l = some cs) : Yields P a o g w (.agg cs) m := by
  obtain ⟨zv, h1, h2⟩ := zero_of hz w
  have h3 : Reps g w z.cells zv.cells.toList := by
    by_cases h0 : 0 < z.cells.length
    · exact (avOf_sound h2).cells h0
    · have hnil : z.cells = [] := List.eq_nil_of_length_eq_zero (by omega)
      have hr := avOf_sound (g := g) (w := w) h2
      cases z with
      | agg zs =>
        obtain ⟨us, rfl, hu⟩ := Reps.of_agg hr
        simpa [Value.cells, AV.cells] using hu
      | undef => simp [avOf] at h2; split at h2 <;> first | (simp at h2; done) | (split at h2 <;> simp at h2) | (simp [avCell] at h2; split at h2 <;> simp at h2)
      | _ => simp [AV.cells] at hnil
  have hm := run_mapM_places P w fs.toList hall
  have hplace : (fun i => (fs.map fun f => (f.offset, (sizeOfT P f.type).getD 0))[i]?) = fieldPlaceT P fs := by
    funext i
    unfold fieldPlaceT
    cases hf : fs[i]? with
    | none => simp [hf]
    | some f =>
      have hmem : f ∈ fs.toList := by simpa using Array.mem_of_getElem? hf
      have := List.all_eq_true.1 hall f hmem
      obtain ⟨ti, hi⟩ := Option.isSome_iff_exists.1 this
      simp [hf, hi, sizeOfT]
  obtain ⟨vs, k1, k2⟩ := fill_sound (P := P) hR hl h3 he
  refine .pure I (v := .agg vs) ?_ (by simpa using k2.agg)
  have hm2 : (fs.mapM fun f => (do pure (f.offset, ← sizeOf f.type) : Sem (Nat × Nat))).run P w = .ok (fs.map fun f => (f.offset, (sizeOfT P f.type).getD 0)) w := by
    rw [Array.mapM_eq_mapM_toList]
    simp only [Functor.map, Sem.run_bind', hm, Result.andThen_ok]
    simp
    apply Array.ext'
    simp
  have hparts : (ps.map fun (i, x) => (i, a.eval x)).toList = ps.toList.map fun p => (p.1, a.eval p.2) := by simp
  simp only [execOp, hop, Instr.build, Sem.run_bind, h1, Result.andThen_ok, run_underlying ht, hm2, hparts, hplace, k1, Sem.run_pure]

theorem buildArray_sound (hR : Reps g w ρ a.tmps.toList) (I : Inv g w m) {t e : TypeId} {ps : Array (Nat × Operand)} {z : AV} {n len : Nat} {l : List (Nat × Nat × Opd)} {cs : List AV} (hop : o.op = .build t ps) (hz : zeroT P t = some z) (ht : P.underlying t = some (.array len e))
    (hn : sizeOfT P e = some n) (hl : compParts P (fun i => some (i * n, n)) ps.toList = some l) (he : evBuild z.cells ρ l = some cs) (h0 : 0 < z.cells.length) : Yields P a o g w (.agg cs) m := by
  obtain ⟨zv, h1, h2⟩ := zero_of hz w
  have h3 := (avOf_sound (g := g) (w := w) h2).cells h0
  obtain ⟨vs, k1, k2⟩ := fill_sound (P := P) hR hl h3 he
  refine .pure I (v := .agg vs) ?_ (by simpa using k2.agg)
  have hparts : (ps.map fun (i, x) => (i, a.eval x)).toList = ps.toList.map fun p => (p.1, a.eval p.2) := by simp
  simp only [execOp, hop, Instr.build, Sem.run_bind, h1, Result.andThen_ok, run_underlying ht, size_of hn w, hparts, k1, Sem.run_pure]

theorem litParts_sound : ∀ {n : Nat} {l : List (Nat × Operand)} {xs : List Operand}, litParts n l = some xs → l.map (fun p => (p.1, a.eval p.2)) = (((xs.map a.eval).zipIdx n).map fun x => (x.2, x.1)) ∧ xs.length = l.length
  | n, [], xs, h => by simp [litParts] at h; subst h; exact ⟨rfl, rfl⟩
  | n, (i, x) :: l, xs, h => by
    simp only [litParts] at h
    split at h
    · rename_i hi
      subst hi
      simp only [Option.map_eq_some_iff] at h
      obtain ⟨ys, h1, rfl⟩ := h
      obtain ⟨h2, h3⟩ := litParts_sound h1
      exact ⟨by simp [h2, List.zipIdx_cons], by simp [h3]⟩
    · cases h

theorem allLen_get {s : Nat} : ∀ {xs : List AV}, allLen s xs = true → ∀ (i : Nat) (x : AV), xs[i]? = some x → x.cells.length = s
  | [], _, i, x, hx => by simp at hx
  | y :: r, h, i, x, hx => by
    simp only [allLen, Bool.and_eq_true, beq_iff_eq] at h
    cases i with
    | zero => simp at hx; rw [← hx]; exact h.1.1
    | succ i => exact allLen_get h.2 i x (by simpa using hx)

theorem allLen_one {s : Nat} : ∀ {xs : List AV}, allLen s xs = true → ∀ (i : Nat) (x : AV), xs[i]? = some x → allOne x.cells = true
  | [], _, i, x, hx => by simp at hx
  | y :: r, h, i, x, hx => by
    simp only [allLen, Bool.and_eq_true, beq_iff_eq] at h
    cases i with
    | zero => simp at hx; rw [← hx]; exact h.1.2
    | succ i => exact allLen_one h.2 i x (by simpa using hx)

/-- Cell number i s + j of rows of s cells each. -/
theorem flatAV_get {s : Nat} (hs : 0 < s) : ∀ (xs : List AV), (∀ (i : Nat) (x : AV), xs[i]? = some x → x.cells.length = s) → ∀ k, (xs.flatMap AV.cells)[k]? = (xs[k / s]?).bind fun x => x.cells[k % s]?
  | [], _, k => by simp
  | x :: xs, h, k => by
    have hx : x.cells.length = s := h 0 x rfl
    rw [List.flatMap_cons]
    by_cases hk : k < s
    · rw [List.getElem?_append_left (by omega), Nat.div_eq_of_lt hk, Nat.mod_eq_of_lt hk]
      simp
    · have h1 : k / s = (k - s) / s + 1 := by
        have := Nat.sub_add_cancel (Nat.le_of_not_lt hk)
        conv => lhs; rw [← this]
        rw [Nat.add_div_right _ hs]
      have h2 : k % s = (k - s) % s := by
        have := Nat.sub_add_cancel (Nat.le_of_not_lt hk)
        conv => lhs; rw [← this]
        rw [Nat.add_mod_right]
      rw [List.getElem?_append_right (by omega), hx, flatAV_get hs xs (fun i y hy => h (i + 1) y (by simpa using hy)) (k - s), h1, h2, List.getElem?_cons_succ]

theorem flatAV_length {s : Nat} : ∀ (xs : List AV), (∀ (i : Nat) (x : AV), xs[i]? = some x → x.cells.length = s) → (xs.flatMap AV.cells).length = xs.length * s
  | [], _ => by simp
  | x :: xs, h => by
    rw [List.flatMap_cons, List.length_append, flatAV_length xs (fun i y hy => h (i + 1) y (by simpa using hy)), h 0 x rfl]
    simp [Nat.add_mul, Nat.add_comm]

theorem mulAdd_div {i j s : Nat} (hj : j < s) : (i * s + j) / s = i ∧ (i * s + j) % s = j := by
  have hs : 0 < s := by omega
  exact ⟨by rw [Nat.add_comm, Nat.add_mul_div_right _ _ hs, Nat.div_eq_of_lt hj]; omega, by rw [Nat.add_comm, Nat.add_mul_mod_self_right, Nat.mod_eq_of_lt hj]⟩

/-- Cells laid side by side, settled. -/
theorem Rep.rowsC {s : Nat} (hs : 0 < s) {xs : List AV} {us : List Value} (hx : ∀ (i : Nat) (x : AV), xs[i]? = some x → x.cells.length = s) (h : Reps g w (xs.flatMap AV.cells) us) (b oo cap : Nat) (tk : Tok) (hcap : xs.length ≤ cap)
    (htk : TokAt g tk b (oo + xs.length * s) (oo + cap * s)) (hcell : ∀ (j : Nat) (u : Value), us[j]? = some u → w.cell? ⟨b, oo + j, none⟩ = some u ∧ g.own b (oo + j) = none ∧ u.oneCell' = true) :
    Rep g w (.list s tk xs) (.slice (some ⟨b, oo, none⟩) xs.length cap) := by
  have key : ∀ (i j : Nat) (x c : AV), xs[i]? = some x → x.cells[j]? = some c → ∃ u, us[i * s + j]? = some u ∧ Rep g w c u := by
    intro i j x c h1 h2
    have hj : j < s := by rw [← hx i x h1]; exact (List.getElem?_eq_some_iff.1 h2).1
    refine h.get ?_
    rw [flatAV_get hs xs hx, (mulAdd_div hj).1, (mulAdd_div hj).2, h1]
    exact h2
  refine .list s tk xs b oo cap (fun i j => (us[i * s + j]?).getD Go.undef) hx hcap htk (fun i j x c h1 h2 => ?_) (fun i j x c h1 h2 => ?_)
  · obtain ⟨u, h3, h4⟩ := key i j x c h1 h2
    rw [h3]
    exact hcell _ _ h3
  · obtain ⟨u, h3, h4⟩ := key i j x c h1 h2
    rw [h3]
    exact h4

/-- The cells of a list that lies somewhere. -/
theorem cells_of_list {s : Nat} (hs : 0 < s) {xs : List AV} {b oo : Nat} {f : Nat → Nat → Value} (hsz : ∀ (i : Nat) (x : AV), xs[i]? = some x → x.cells.length = s)
    (hc : ∀ (i j : Nat) (x c : AV), xs[i]? = some x → x.cells[j]? = some c → w.cell? ⟨b, oo + (i * s + j), none⟩ = some (f i j) ∧ g.own b (oo + (i * s + j)) = none ∧ (f i j).oneCell' = true)
    (hr : ∀ (i j : Nat) (x c : AV), xs[i]? = some x → x.cells[j]? = some c → Rep g w c (f i j)) :
    ∃ us : List Value, Reps g w (xs.flatMap AV.cells) us ∧ us.length = xs.length * s ∧ ∀ (j : Nat) (u : Value), us[j]? = some u → w.cell? ⟨b, oo + j, none⟩ = some u ∧ g.own b (oo + j) = none ∧ u.oneCell' = true := by
  have hlen := flatAV_length xs hsz
  have get : ∀ k c, (xs.flatMap AV.cells)[k]? = some c → ∃ x, xs[k / s]? = some x ∧ x.cells[k % s]? = some c ∧ k / s * s + k % s = k := by
    intro k c h
    rw [flatAV_get hs xs hsz, Option.bind_eq_some_iff] at h
    obtain ⟨x, h1, h2⟩ := h
    refine ⟨x, h1, h2, ?_⟩
    have := Nat.div_add_mod k s
    rw [Nat.mul_comm] at this; exact this
  refine ⟨(List.range (xs.length * s)).map fun k => f (k / s) (k % s), ⟨by simp [hlen], fun k c v h1 h2 => ?_⟩, by simp, fun k u hu => ?_⟩
  · have hk : k < xs.length * s := by rw [← hlen]; exact (List.getElem?_eq_some_iff.1 h1).1
    rw [List.getElem?_map, List.getElem?_range hk] at h2
    simp only [Option.map_some, Option.some.injEq] at h2
    obtain ⟨x, h3, h4, h5⟩ := get k c h1
    rw [← h2]; exact hr _ _ _ _ h3 h4
  · have hk : k < xs.length * s := by have := (List.getElem?_eq_some_iff.1 hu).1; simpa using this
    rw [List.getElem?_map, List.getElem?_range hk] at hu
    simp only [Option.map_some, Option.some.injEq] at hu
    obtain ⟨x, h3, h4, h5⟩ := get k _ (List.getElem?_eq_getElem (by rw [hlen]; exact hk))
    have := hc _ _ _ _ h3 h4
    rw [h5] at this
    rw [← hu]; exact this

theorem flat_length {s : Nat} : ∀ (vs : List Value), (∀ v ∈ vs, v.cells.size = s) → (vs.flatMap fun v => v.cells.toList).length = vs.length * s
  | [], _ => by simp
  | v :: vs, h => by
    rw [List.flatMap_cons, List.length_append, flat_length vs (fun u hu => h u (List.mem_cons_of_mem _ hu))]
    have := h v List.mem_cons_self
    simp [this, Nat.add_mul, Nat.add_comm]

theorem lit_sound (hR : Reps g w ρ a.tmps.toList) (I : Inv g w m) {t e : TypeId} {len : Nat} {ps : Array (Nat × Operand)} {ti : TypeInfo} {xs : List Operand} {l : List Opd} (hop : o.op = .buildSlice t len ps) (ht : P.underlying t = some (.slice e)) (hi : P.info? e = some ti)
    (h0 : 0 < ti.size) (hlen : ps.size = len) (hcap : len * ti.size ≤ 16777216) (hzs : (ti.zero.map fun z => z.cells.size) = some ti.size) (hp : litParts 0 ps.toList = some xs) (hl : compOpds xs = some l) (hall : allLen ti.size (l.map fun p => p.ev ρ) = true) :
    Yields P a o g w (.list ti.size .full (l.map fun p => p.ev ρ)) m := by
  have h1 := opds_sound hR hl
  obtain ⟨h2, h3⟩ := litParts_sound (a := a) hp
  have hlx : xs.length = len := by rw [h3, ← hlen]; simp
  have hxs := allLen_get hall
  have size : ∀ v ∈ xs.map a.eval, v.cells.size = ti.size := by
    intro v hv
    obtain ⟨i, hi'⟩ := List.getElem?_of_mem hv
    have hil : i < (l.map fun p => p.ev ρ).length := by rw [← h1.1]; exact (List.getElem?_eq_some_iff.1 hi').1
    have hx0 := hxs i _ (List.getElem?_eq_getElem hil)
    have := ((h1.2 i _ v (List.getElem?_eq_getElem hil) hi').cells (by omega)).1
    rw [hx0] at this
    simpa using this
  cases hz : ti.zero with
  | none => simp [hz] at hzs
  | some zv =>
    have hsz : zv.cells.size = ti.size := by rw [hz] at hzs; simpa using hzs
    let flat := (xs.map a.eval).flatMap fun v => v.cells.toList
    have hflat : flat.length = len * ti.size := by
      have := flat_length (s := ti.size) (xs.map a.eval) size
      simp only [List.length_map, hlx] at this
      exact this
    have hparts : (ps.map fun (i, x) => (i, a.eval x)).toList = ((xs.map a.eval).zipIdx 0).map fun x => (x.2, x.1) := by rw [← h2]; simp
    obtain ⟨e1, I1⟩ := I.alloc_sealed (.cells flat.toArray e)
    refine ⟨g, _, .slice (some ⟨w.heap.size, 0, none⟩) len len, .inl ?_, e1, I1, ?_⟩
    · have hzero : ∀ zz : Array Value, (zz = if len * ti.size = 0 then #[] else zv.cells) → Instr.fill (fun i => some (i * ti.size, ti.size)) ((Array.range (len * ti.size)).map (fun i => zz[i % zz.size]!)) (((xs.map a.eval).zipIdx 0).map fun x => (x.2, x.1)) = some flat.toArray :=
        fun zz _ => Great.fill_whole h0 (xs.map a.eval) _ size (by simp [hlx])
      have hbig : ¬ (len * ti.size > 2 ^ 24) := by omega
      have hz2 : (zeroValue e).run P w = .ok zv w := by simp [zeroValue, typeInfo, hi, hz]
      have hs2 : (sizeOf e).run P w = .ok ti.size w := by simp [sizeOf, typeInfo, hi]
      by_cases hz0 : len * ti.size = 0
      · simp only [execOp, hop, Instr.buildSlice, Sem.run_bind, run_underlying ht, Result.andThen_ok, hs2, if_neg hbig, if_pos hz0, hparts, Sem.run_pure]
        rw [hzero #[] (by rw [if_pos hz0])]
        simp [newRow]
      · simp only [execOp, hop, Instr.buildSlice, Sem.run_bind, run_underlying ht, Result.andThen_ok, hs2, if_neg hbig, if_neg hz0, hparts, Sem.run_pure, hz2]
        rw [hzero zv.cells (by rw [if_neg hz0])]
        simp [newRow]
    · have hlen := flatAV_length _ hxs
      have hrep : Reps g w ((l.map fun p => p.ev ρ).flatMap AV.cells) flat := by
        have : ∀ (ys : List AV) (vs : List Value), Reps g w ys vs → (∀ (i : Nat) (x : AV), ys[i]? = some x → x.cells.length = ti.size) → Reps g w (ys.flatMap AV.cells) (vs.flatMap fun v => v.cells.toList) := by
          intro ys
          induction ys with
          | nil => intro vs h _; have : vs = [] := List.eq_nil_of_length_eq_zero h.1; subst this; exact Reps.nil g w
          | cons y ys ih =>
            intro vs h hh
            obtain ⟨v, r, rfl, h4, h5⟩ := h.head
            rw [List.flatMap_cons, List.flatMap_cons]
            exact (h4.cells (by rw [hh 0 y rfl]; exact h0)).append (ih r h5 (fun i x hx => hh (i + 1) x (by simpa using hx)))
        exact this _ _ h1 hxs
      have hone : ∀ u ∈ flat, u.oneCell' = true := by
        refine hrep.one ?_
        have := allLen_one hall
        generalize (l.map fun p => p.ev ρ) = ys at this
        induction ys with
        | nil => rfl
        | cons y ys ih =>
          rw [List.flatMap_cons]
          have h1 := this 0 y rfl
          have h2 := ih (fun i x hx => this (i + 1) x (by simpa using hx))
          have happ : ∀ p q : List AV, allOne p = true → allOne q = true → allOne (p ++ q) = true := by
            intro p q hp hq
            induction p with
            | nil => exact hq
            | cons c p ihp => simp only [allOne, Bool.and_eq_true, List.cons_append] at hp ⊢; exact ⟨hp.1, ihp hp.2⟩
          exact happ _ _ h1 h2
      have hll : (l.map fun p => p.ev ρ).length = len := by rw [← h1.1]; simp [hlx]
      have := Rep.rowsC (g := g) (w := w.alloc (.cells flat.toArray e)) h0 hxs (hrep.mono e1) w.heap.size 0 len .full (by omega) (by simp only [TokAt]; rw [hll]) (fun j u hj => by
        rw [Nat.zero_add]
        exact ⟨by rw [cell_new]; exact hj, own_new I j, hone u (List.mem_of_getElem? hj)⟩)
      rw [hll] at this
      exact this

end
end Go.Vs
