/-
  Vsk: append.
-/
import Derived.Test.YtbbljkjdjjoapaaVsj
namespace Go.Vs
open Go.RowKit

section
variable {P : Program} {g : G} {w : World} {ρ : List AV} {a : Act} {m m' : Mem} {o : Oper} {r : AV}

theorem one_cells {c : AV} (h : c.one = true) : c.cells = [c] := by cases c <;> simp [AV.one] at h <;> rfl

theorem allOne_take : ∀ (n : Nat) (cs : List AV), allOne cs = true → allOne (cs.take n) = true ∧ allOne (cs.drop n) = true
  | 0, cs, h => ⟨rfl, h⟩
  | n + 1, [], _ => ⟨rfl, rfl⟩
  | n + 1, c :: r, h => by
    simp only [allOne, Bool.and_eq_true] at h
    obtain ⟨h1, h2⟩ := allOne_take n r h.2
    exact ⟨by simp [allOne, h.1, h1], h2⟩

theorem chunk_cells {s : Nat} (h0 : 0 < s) : ∀ (n : Nat) (cs : List AV), n * s ≤ cs.length → allOne (cs.take (n * s)) = true →
    (chunk s n cs).length = n ∧ (∀ (i : Nat) (x : AV), (chunk s n cs)[i]? = some x → x.cells.length = s) ∧ (chunk s n cs).flatMap AV.cells = cs.take (n * s)
  | 0, cs, _, _ => by simp [chunk]
  | n + 1, cs, hl, ho => by
    rw [Nat.add_mul, Nat.one_mul] at hl ho
    have hd : (cs.take (n * s + s)).drop s = (cs.drop s).take (n * s) := by rw [List.drop_take]; congr 1; omega
    have ho2 := (allOne_take s _ ho).2
    rw [hd] at ho2
    obtain ⟨h1, h2, h3⟩ := chunk_cells h0 n (cs.drop s) (by simp; omega) ho2
    have hc : (if (s == 1) = true then cs.headD .undef else .agg (cs.take s)).cells = cs.take s := by
      by_cases hs : s = 1
      · subst hs
        cases cs with
        | nil => simp at hl
        | cons c r =>
          have : c.one = true := by
            have := (allOne_take 1 _ ho).1
            rw [List.take_take, show min 1 (n * 1 + 1) = 1 by omega] at this
            simpa [allOne] using this
          simp [one_cells this]
      · simp [hs, AV.cells]
    refine ⟨by simp [chunk, h1], fun i x hx => ?_, ?_⟩
    · cases i with
      | zero =>
        simp only [chunk, List.getElem?_cons_zero, Option.some.injEq] at hx
        subst hx
        rw [hc, List.length_take]; omega
      | succ i => exact h2 i x (by simpa [chunk] using hx)
    · rw [chunk, List.flatMap_cons, hc, h3, Nat.add_mul, Nat.one_mul, Nat.add_comm (n * s) s, List.take_add]

/-- What is appended. -/
theorem src_sound (I : Inv g w m) {s : Nat} (h0 : 0 < s) {tx : TypeId} (hk : (∃ e', P.underlying tx = some (.slice e')) ∨ P.underlying tx = some .string) {y : AV} {v : Value} {ys : List AV} (hy : m.elems s y = some ys) (h : Rep g w y v) :
    ∃ news, Src P s tx v ys.length news w ∧ Reps g w (ys.flatMap AV.cells) news ∧ (∀ (i : Nat) (x : AV), ys[i]? = some x → x.cells.length = s) := by
  unfold Mem.elems at hy
  split at hy
  · rename_i l k st off len
    split at hy
    · rename_i cs hblk
      split at hy
      · rename_i hcond
        simp only [Bool.and_eq_true, decide_eq_true_eq] at hcond
        injection hy with hy; subst hy
        obtain ⟨q1, q2, q3⟩ := chunk_cells h0 len (cs.drop off) (by simp; omega) hcond.2
        rw [q1, q3]
        rcases arr_sound I h hblk with ⟨rfl, b, cap, hv⟩ | ⟨b, oo, cap, us, hv, hcap, hreps, hcell⟩
        · rw [hv]
          refine ⟨[], ⟨hk, fun _ => rfl, ?_, ?_, by simp, fun _ h => by cases h⟩, by simpa using Reps.nil g w, q2⟩
          · exact run_firstCells_some w s 0 b 0 cap [] (by simp) (fun j u hj => by simp at hj)
          · exact run_firstCells_some w.drew s 0 b 0 cap [] (by simp) (fun j u hj => by simp at hj)
        · rw [hv]
          have hul : us.length = cs.length - off := by rw [hreps.1, List.length_drop]
          have hlen : (us.take (len * s)).length = len * s := by rw [List.length_take]; omega
          have hget : ∀ (j : Nat) (u : Value), (us.take (len * s))[j]? = some u → w.cell? ((⟨b, oo, none⟩ : Addr).add j) = some u := fun j u hj => by
            rw [List.getElem?_take] at hj
            split at hj
            · rw [add_plain]; exact hcell j u hj
            · cases hj
          exact ⟨us.take (len * s), ⟨hk, fun _ => rfl, run_firstCells_some w s len _ _ _ _ hlen hget, run_firstCells_some w.drew s len _ _ _ _ hlen (fun j u hj => by simpa using hget j u hj), hlen,
            (hreps.take (len * s)).one hcond.2⟩, hreps.take (len * s), q2⟩
      · cases hy
    · cases hy
  rename_i hna
  clear hna
  unfold elemsOf at hy
  split at hy
  · injection hy with hy; subst hy
    rw [h.inv_nils]
    exact ⟨[], ⟨hk, fun _ => rfl, run_firstCells_none w s 0 0 0, run_firstCells_none w.drew s 0 0 0, by simp, fun _ h => by cases h⟩, Reps.nil g w, fun i x hx => by simp at hx⟩
  · rename_i s' tk xs
    split at hy
    · rename_i hs
      have hs' : s' = s := eq_of_beq hs
      subst hs'
      injection hy with hy; subst hy
      rcases h.inv_list with ⟨b, oo, cap, hv, hsz, hcap, htk, f, hc, hr⟩ | ⟨rfl, b, cap, hv, _⟩
      · obtain ⟨us, k1, k2, k3⟩ := cells_of_list h0 hsz hc hr
        rw [hv]
        refine ⟨us, ⟨hk, fun _ => rfl, ?_, ?_, k2, fun u hu => ?_⟩, k1, hsz⟩
        · exact run_firstCells_some w s' xs.length _ _ _ us k2 (fun j u hj => by rw [add_plain]; exact (k3 j u hj).1)
        · exact run_firstCells_some w.drew s' xs.length _ _ _ us k2 (fun j u hj => by rw [add_plain]; exact (k3 j u hj).1)
        · obtain ⟨j, hj⟩ := List.getElem?_of_mem hu
          exact (k3 j u hj).2.2
      · rw [hv]
        refine ⟨[], ⟨hk, fun _ => rfl, ?_, ?_, by simp, fun _ h => by cases h⟩, Reps.nil g w, fun i x hx => by simp at hx⟩
        · exact run_firstCells_some w s' 0 b 0 cap [] (by simp) (fun j u hj => by simp at hj)
        · exact run_firstCells_some w.drew s' 0 b 0 cap [] (by simp) (fun j u hj => by simp at hj)
    · cases hy
  · rename_i l
    split at hy
    · rename_i hs
      have hs' : s = 1 := eq_of_beq hs
      subst hs'
      injection hy with hy; subst hy
      obtain ⟨b, hv, rfl⟩ := h.inv_str
      rw [hv]
      have hlen : (ofBytes b.data.toList).length = b.size := by simp [ofBytes]
      have hcells : (ofBytes b.data.toList).flatMap AV.cells = ofBytes b.data.toList := by
        unfold ofBytes
        rw [List.flatMap_map]
        simp [AV.cells, List.flatMap_singleton']
        induction b.data.toList with
        | nil => rfl
        | cons c r ih => simp [ih]
      refine ⟨byteCells b, ⟨hk, fun _ => by rw [hlen]; rfl, by rw [hlen]; exact firstCells_string b w, by rw [hlen]; exact firstCells_string b w.drew, by rw [hlen, byteCells_length, Nat.mul_one], fun u hu => ?_⟩, ?_, fun i x hx => ?_⟩
      · obtain ⟨_, _, rfl⟩ := List.mem_map.1 hu
        rfl
      · rw [hcells]
        exact bytes_reps _
      · simp only [ofBytes, List.getElem?_map, Option.map_eq_some_iff] at hx
        obtain ⟨y, _, rfl⟩ := hx; rfl
    · cases hy
  · cases hy

/-- Nothing is appended. -/
theorem run_append_zero (t tx ty e : TypeId) (i : TypeInfo) (ht : P.underlying t = some (.slice e)) (hi : P.info? e = some i) (base : Option Addr) (sLen sCap : Nat) (x : Value) (hs : Src P i.size tx x 0 [] w) (hle : sLen ≤ sCap) :
    (Builtin.append_ #[t, tx] ty #[.slice base sLen sCap, x]).run P w = .ok (.slice base sLen sCap) w := by
  rcases hs.kind with ⟨e', hk⟩ | hk <;> cases base <;> simp [Builtin.append_, run_underlying ht, run_underlying hk, sizeOf, typeInfo, hi, hs.len, hle, hs.cells, storeCells]

theorem Reps.live_grow {g' : G} (I : Inv g w m) (olds news : List Value) (z : Value) (e : TypeId) (s n cap : Nat) (hs : 0 < s) (hz : z.cells.size = s) (hn : (olds ++ news).length = n * s) (hcap : n ≤ cap) (live : List (List Nat)) (hl : live.flatten.Sublist m.live.flatten)
    (xs : List AV) (hx : ∀ (i : Nat) (x : AV), xs[i]? = some x → x.cells.length = s) (hxl : xs.length = n) (hrep : Reps g w (xs.flatMap AV.cells) (olds ++ news)) (hone : ∀ u ∈ olds ++ news, u.oneCell' = true) (hg : g' = g) :
    ∃ g1, Ext g w g1 (w.drew.alloc (.cells ((olds ++ news).toArray ++ Builtin.zeroCells z.cells (cap - n)) e)) ∧
      Inv g1 (w.drew.alloc (.cells ((olds ++ news).toArray ++ Builtin.zeroCells z.cells (cap - n)) e)) { m with nx := m.nx + 1, live := addTok m.nx live } ∧
      Rep g1 (w.drew.alloc (.cells ((olds ++ news).toArray ++ Builtin.zeroCells z.cells (cap - n)) e)) (.list s (.id m.nx) xs) (.slice (some ⟨w.heap.size, 0, none⟩) n cap) := by
  have harr : (olds ++ news).toArray ++ Builtin.zeroCells z.cells (cap - n) = ((olds ++ news) ++ (Builtin.zeroCells z.cells (cap - n)).toList).toArray := by
    apply Array.ext'; simp
  rw [harr]
  have hlen : ((olds ++ news) ++ (Builtin.zeroCells z.cells (cap - n)).toList).length = cap * s := by
    rw [List.length_append, hn, Array.length_toList, size_zeroCells, hz, ← Nat.add_mul, show n + (cap - n) = cap by omega]
  obtain ⟨g1, k1, k2, k3, k4⟩ := I.drew.alloc_tok ((olds ++ news) ++ (Builtin.zeroCells z.cells (cap - n)).toList) (n * s) e (0, 0) (fun j _ => by simp) live hl
  have kx := (Ext.drew g w).trans k1
  refine ⟨g1, kx, k2, ?_⟩
  have := Rep.rowsC (g := g1) (w := w.drew.alloc (.cells ((olds ++ news) ++ (Builtin.zeroCells z.cells (cap - n)).toList).toArray e)) hs hx (hrep.mono kx) w.heap.size 0 cap (.id m.nx) (by omega)
    (by simp only [TokAt, Nat.zero_add, hxl]; rw [← hlen]; exact k3) (fun j u hj => by
      have hjl : j < n * s := by rw [← hn]; exact (List.getElem?_eq_some_iff.1 hj).1
      refine ⟨?_, ?_, hone u (List.mem_of_getElem? hj)⟩
      · have := cell_new w.drew ((olds ++ news) ++ (Builtin.zeroCells z.cells (cap - n)).toList) e (0 + j)
        rw [show (w.drew).heap.size = w.heap.size from rfl] at this
        rw [this, Nat.zero_add, List.getElem?_append_left (by rw [hn]; exact hjl)]
        exact hj
      · have := k4 j hjl
        rw [Nat.zero_add]; exact this)
  rw [hxl] at this
  exact this

theorem app_sound (hR : Reps g w ρ a.tmps.toList) (I : Inv g w m) {c : Call} {t tx e : TypeId} {ti : TypeInfo} {x y : Operand} {x' y' : Opd} (hop : o.op = .call c) (hc : c.callee = .builtin .append) (hA : c.argTypes.toList = [t, tx]) (ha : c.args.toList = [x, y]) (hx : compOpd x = some x') (hy : compOpd y = some y')
    (ht : P.underlying t = some (.slice e)) (hk : (∃ e', P.underlying tx = some (.slice e')) ∨ P.underlying tx = some .string) (hi : P.info? e = some ti) (h0 : 0 < ti.size) (hb0 : 0 < ti.bytes) (hz : (ti.zero.map fun z => z.cells.size) = some ti.size)
    (he : evApp m ti.size ti.bytes (x'.ev ρ) (y'.ev ρ) = some (r, m')) : Yields P a o g w r m' := by
  have h1 := opd_sound hR hx
  have h2 := opd_sound hR hy
  have hargs : c.args = #[x, y] := by apply Array.ext'; simpa using ha
  have hargT : c.argTypes = #[t, tx] := by apply Array.ext'; simpa using hA
  have run : ∀ v w', (Builtin.append_ #[t, tx] o.type #[a.eval x, a.eval y]).run P w = .ok v w' → (execOp a.eval o).run P w = .ok (.value v) w' := by
    intro v w' hv
    simp [execOp, hop, resolve, hc, hargs, hargT, invoke, builtin, hv]
  obtain ⟨zv, hzv, hzs⟩ : ∃ z, ti.zero = some z ∧ z.cells.size = ti.size := by
    cases hq : ti.zero with
    | none => simp [hq] at hz
    | some z => rw [hq] at hz; exact ⟨z, rfl, by simpa using hz⟩
  unfold evApp at he
  split at he
  · cases he
  · -- nothing is appended
    rename_i hel
    obtain ⟨news, hs, hn1, hn2⟩ := src_sound I h0 hk hel h2
    have hnews : news = [] := List.eq_nil_of_length_eq_zero (by have := hs.newsLen; simpa using this)
    subst hnews
    split at he
    · rename_i e1
      injection he with he
      injection he with e2 e3
      subst e2; subst e3
      rw [e1] at h1
      refine .pure I (v := .slice none 0 0) (run _ _ ?_) .nils
      rw [h1.inv_nils]
      exact run_append_zero t tx o.type e ti ht hi none 0 0 _ hs (Nat.le_refl _)
    · rename_i s' tk xs e1
      split at he
      · rename_i hss
        have hs' : s' = ti.size := eq_of_beq hss
        injection he with he
        injection he with e2 e3
        subst e2; subst e3
        rw [e1, hs'] at h1
        rcases h1.inv_list with ⟨b, oo, cap, hv, hsz, hcap, htk, f, hcc, hr⟩ | ⟨rfl, b, cap, hv, htk⟩
        · rw [hv] at h1
          refine .pure I (run _ _ ?_) h1
          rw [hv]
          exact run_append_zero t tx o.type e ti ht hi _ _ _ _ hs hcap
        · rw [hv] at h1
          refine .pure I (run _ _ ?_) h1
          rw [hv]
          exact run_append_zero t tx o.type e ti ht hi _ _ _ _ hs (Nat.zero_le _)
      · cases he
    · cases he
  · rename_i y0 ys hel
    obtain ⟨news, hs, hn1, hn2⟩ := src_sound I h0 hk hel h2
    have hnl := hs.newsLen
    -- a new row
    have grow : ∀ (xs : List AV) (base : Option Addr) (cap : Nat) (olds : List Value) (live : List (List Nat)), live.flatten.Sublist m.live.flatten → a.eval x = .slice base xs.length cap → (xs.length + (y0 :: ys).length) * ti.bytes ≤ 140737488355328 →
        cap < xs.length + (y0 :: ys).length → (Builtin.firstCells ti.size xs.length (.slice base xs.length cap)).run P w.drew = .ok olds.toArray w.drew → (∀ (i : Nat) (x : AV), xs[i]? = some x → x.cells.length = ti.size) →
        Reps g w (xs.flatMap AV.cells) olds → (∀ u ∈ olds, u.oneCell' = true) → Yields P a o g w (.list ti.size (.id m.nx) (xs ++ (y0 :: ys))) { m with nx := m.nx + 1, live := addTok m.nx live } := by
      intro xs base cap olds live hlive hv hbytes hlt hold hxs hrx hone
      have hfit := growslice_fits (need := xs.length + (y0 :: ys).length) (old := cap) (bytes := ti.bytes) hlt hbytes
      have h63 : ((xs.length + (y0 :: ys).length : Nat) : Int) ≤ 9223372036854775807 := by
        have : (xs.length + (y0 :: ys).length) * 1 ≤ (xs.length + (y0 :: ys).length) * ti.bytes := Nat.mul_le_mul_left _ hb0
        omega
      have hrun := run_append_grow_src (P := P) w t tx o.type e ti zv ht hi hzv base xs.length cap olds hold (a.eval y) (y0 :: ys).length news hs hlt h63 hfit
      have hall : ∀ (i : Nat) (x : AV), (xs ++ (y0 :: ys))[i]? = some x → x.cells.length = ti.size := by
        intro i x hx
        by_cases hi : i < xs.length
        · rw [List.getElem?_append_left hi] at hx; exact hxs i x hx
        · rw [List.getElem?_append_right (by omega)] at hx; exact hn2 _ x hx
      have holdl : olds.length = xs.length * ti.size := by rw [hrx.1, flatAV_length xs hxs]
      obtain ⟨g1, q1, q2, q3⟩ := Reps.live_grow (g' := g) I olds news zv e ti.size (xs.length + (y0 :: ys).length) (grownCap w (xs.length + (y0 :: ys).length) cap e) h0 hzs
        (by rw [List.length_append, holdl, hnl, Nat.add_mul]) (grownCap_ge _ _ _ _) live hlive (xs ++ (y0 :: ys)) hall (by simp) (by rw [List.flatMap_append]; exact hrx.append hn1)
        (fun u hu => by rcases List.mem_append.1 hu with hu | hu; · exact hone u hu
                        · exact hs.one u hu) rfl
      exact ⟨g1, _, _, .inl (run _ _ (by rw [hv]; exact hrun)), q1, q2, q3⟩
    split at he
    · rename_i e1
      split at he
      · rename_i hbytes
        injection he with he
        injection he with e2 e3
        subst e2; subst e3
        rw [e1] at h1
        exact grow [] none 0 [] m.live (List.Sublist.refl _) h1.inv_nils (by simpa using hbytes) (by simp) (run_firstCells_none w.drew _ _ _ _) (fun i x hx => by simp at hx) (Reps.nil g w) (fun u hu => by cases hu)
      · cases he
    · rename_i s' tk xs e1
      split at he
      · rename_i hcond
        simp only [Bool.and_eq_true, beq_iff_eq, decide_eq_true_eq] at hcond
        obtain ⟨hs', hbytes⟩ := hcond
        rw [e1, hs'] at h1
        have located : ∀ live : List (List Nat), live.flatten.Sublist m.live.flatten → ∀ (b oo cap : Nat) (f : Nat → Nat → Value), a.eval x = .slice (some ⟨b, oo, none⟩) xs.length cap → (∀ (i : Nat) (x : AV), xs[i]? = some x → x.cells.length = ti.size) →
            (∀ (i j : Nat) (x c : AV), xs[i]? = some x → x.cells[j]? = some c → w.cell? ⟨b, oo + (i * ti.size + j), none⟩ = some (f i j) ∧ g.own b (oo + (i * ti.size + j)) = none ∧ (f i j).oneCell' = true) →
            (∀ (i j : Nat) (x c : AV), xs[i]? = some x → x.cells[j]? = some c → Rep g w c (f i j)) → cap < xs.length + (y0 :: ys).length →
            Yields P a o g w (.list ti.size (.id m.nx) (xs ++ (y0 :: ys))) { m with nx := m.nx + 1, live := addTok m.nx live } := by
          intro live hlive b oo cap f hv hsz hcc hr hlt
          obtain ⟨us, k1, k2, k3⟩ := cells_of_list h0 hsz hcc hr
          exact grow xs _ cap us live hlive hv hbytes hlt (run_firstCells_some w.drew ti.size xs.length _ _ _ us k2 (fun j u hj => by rw [add_plain]; exact (k3 j u hj).1)) hsz k1
            (fun u hu => by obtain ⟨j, hj⟩ := List.getElem?_of_mem hu; exact (k3 j u hj).2.2)
        split at he
        · cases he
        · -- no spare places
          injection he with he
          injection he with e2 e3
          subst e2; subst e3
          rcases h1.inv_list with ⟨b, oo, cap, hv, hsz, hcap, htk, f, hcc, hr⟩ | ⟨rfl, b, cap, hv, htk⟩
          · have hcl : cap = xs.length := by
              have : xs.length * ti.size = cap * ti.size := by simp only [TokAt] at htk; omega
              exact (Nat.eq_of_mul_eq_mul_right h0 this).symm
            exact located m.live (List.Sublist.refl _) b oo cap f hv hsz hcc hr (by simp; omega)
          · have hc0 : cap = 0 := by rcases htk with h | ⟨_, h⟩; · cases h
                                     · exact h
            subst hc0
            refine grow [] b 0 [] m.live (List.Sublist.refl _) hv (by simpa using hbytes) (by simp) ?_ (fun i x hx => by simp at hx) (Reps.nil g w) (fun u hu => by cases hu)
            exact run_firstCells_some w.drew _ 0 b 0 0 [] (by simp) (fun j u hj => by simp at hj)
        · rename_i tid
          split at he
          · rename_i hlive
            injection he with he
            injection he with e2 e3
            subst e2; subst e3
            have hmem : tid ∈ m.live.flatten := hasTok_mem hlive
            have hfilt := dropTok_sub tid m.live
            rcases h1.inv_list with ⟨b, oo, cap, hv, hsz, hcap, htk, f, hcc, hr⟩ | ⟨rfl, b, cap, hv, htk⟩
            · by_cases hroom : xs.length + (y0 :: ys).length ≤ cap
              · -- in place
                simp only [TokAt] at htk
                obtain ⟨us, k1, k2, k3⟩ := cells_of_list h0 hsz hcc hr
                have hnl' : news.length = (y0 :: ys).length * ti.size := hnl
                have hle : oo + xs.length * ti.size + news.length ≤ oo + cap * ti.size := by
                  have := Nat.mul_le_mul_right ti.size hroom
                  rw [Nat.add_mul] at this
                  omega
                have hpos : 0 < news.length := by rw [hnl']; exact Nat.mul_pos (by simp) h0
                obtain ⟨g1, q0, q1, q2, q3, q4⟩ := I.fill (us := news) hmem htk hle hpos
                have hrun := run_append_room_src (P := P) w t tx o.type e ti ht hi b oo xs.length cap (a.eval y) (y0 :: ys).length news hs hroom (fun j hj => (q0 (oo + xs.length * ti.size + j) (by omega) (by omega)).2.2)
                  (fun j hj => (q0 (oo + xs.length * ti.size + j) (by omega) (by omega)).2.1)
                refine ⟨g1, _, _, .inl (run _ _ (by rw [hv]; exact hrun)), q1, q2, ?_⟩
                have hall : ∀ (i : Nat) (x : AV), (xs ++ (y0 :: ys))[i]? = some x → x.cells.length = ti.size := by
                  intro i x hx
                  by_cases hi : i < xs.length
                  · rw [List.getElem?_append_left hi] at hx; exact hsz i x hx
                  · rw [List.getElem?_append_right (by omega)] at hx; exact hn2 _ x hx
                have hlen2 : (xs ++ (y0 :: ys)).length = xs.length + (y0 :: ys).length := by simp
                have := Rep.rowsC (g := g1) (w := w.setCells b (oo + xs.length * ti.size) news) h0 hall (us := us ++ news) (by rw [List.flatMap_append]; exact (k1.mono q1).append (hn1.mono q1)) b oo cap (.id m.nx) (by omega)
                  (by simp only [TokAt]; rw [q3, hlen2, Nat.add_mul, hnl', Nat.add_assoc]) (fun j u hj => by
                    by_cases hju : j < us.length
                    · rw [List.getElem?_append_left hju] at hj
                      obtain ⟨c1, c2, c3⟩ := k3 j u hj
                      obtain ⟨d1, d2⟩ := q1.seal_ _ _ _ c1 c2
                      exact ⟨d1, d2, c3⟩
                    · rw [List.getElem?_append_right (by omega)] at hj
                      have hjn : j - us.length < news.length := (List.getElem?_eq_some_iff.1 hj).1
                      have hc1 := World.cell?_setCells_in b news (oo + xs.length * ti.size) w (fun i hi => (q0 (oo + xs.length * ti.size + i) (by omega) (by omega)).2.2) (j - us.length) hjn
                      rw [show oo + xs.length * ti.size + (j - us.length) = oo + j by omega] at hc1
                      rw [List.getElem?_eq_getElem hjn] at hj
                      refine ⟨by rw [hc1]; exact hj, q4 (oo + j) (by omega) (by omega), hs.one u (by rw [← Option.some.inj hj]; exact List.getElem_mem hjn)⟩)
                rw [hlen2] at this
                exact this
              · exact located _ hfilt b oo cap f hv hsz hcc hr (by omega)
            · rcases htk with h | ⟨h, _⟩ <;> cases h
          · cases he
      · cases he
    · cases he

end
end Go.Vs
