/-
  Vsv: what a reading of data says of it as an abstract value.
-/
import Derived.Test.YtbbljkjdjjoapaaVsu
import Derived.DataReads
import Derived.Carry
import Derived.ChangeOld
namespace Go.Vs
open Go.RowKit

/-- The fields of a struct lie side by side, from cell o to cell e. -/
def tiles (P : Program) : Nat → List Field → Nat → Bool
  | o, [], e => o == e
  | o, f :: r, e => f.offset == o && tiles P (o + P.cellsOf f.type) r e

/-- Is a type plain, its parts all of the list? -/
def plainIn (P : Program) (S : List TypeId) (t : TypeId) : Bool :=
  match P.underlying t with
  | some .bool | some (.int _) | some .string => true
  | some (.slice e) => S.contains e && decide (0 < P.cellsOf e)
  | some (.struct fs) => (fs.toList.all fun f => S.contains f.type) && tiles P 0 fs.toList (P.cellsOf t)
  | some (.array n e) => S.contains e && (P.cellsOf t == n * P.cellsOf e)
  | _ => false

def plainAll (P : Program) (S : List TypeId) : Bool := S.all (plainIn P S)

/-- How an element of a slice is told. -/
def IsElem (P : Program) (e : TypeId) (y : AV) : Prop := if aggT P e = some true then ∃ cs, y = .agg cs else y.cells = [y]

def Typed (P : Program) : Nat → TypeId → List AV → Prop
  | 0, _, _ => False
  | n + 1, t, xs =>
    match P.underlying t with
    | some .bool => ∃ b, xs = [.bool b]
    | some (.int k) => ∃ i, xs = [.int k i] ∧ (Lit.int k i).wf = true
    | some .string => ∃ l, xs = [.str l] ∧ l.length ≤ maxLen
    | some (.slice e) => xs = [.nils] ∨ ∃ ys, xs = [.list (P.cellsOf e) .none ys] ∧ ys.length ≤ maxLen ∧ ∀ y ∈ ys, IsElem P e y ∧ Typed P n e y.cells
    | some (.struct fs) => xs.length = P.cellsOf t ∧ ∀ f ∈ fs.toList, Typed P n f.type ((xs.drop f.offset).take (P.cellsOf f.type))
    | some (.array k e) => xs.length = P.cellsOf t ∧ ∀ i, i < k → Typed P n e ((xs.drop (i * P.cellsOf e)).take (P.cellsOf e))
    | _ => False

section
variable {H : Type} {enc : TypeId × Value → H} {P : Program} {g : G} {w : World}

theorem typed_one {n : Nat} {e : TypeId} {xs : List AV} (h : Typed P n e xs) (ha : aggT P e ≠ some true) : ∃ y, xs = [y] ∧ y.cells = [y] := by
  cases n with
  | zero => exact h.elim
  | succ n =>
    unfold Typed at h
    unfold aggT at ha
    split at h
    · obtain ⟨b, rfl⟩ := h; exact ⟨_, rfl, rfl⟩
    · obtain ⟨i, rfl, _⟩ := h; exact ⟨_, rfl, rfl⟩
    · obtain ⟨l, rfl, _⟩ := h; exact ⟨_, rfl, rfl⟩
    · rcases h with rfl | ⟨ys, rfl, _⟩ <;> exact ⟨_, rfl, rfl⟩
    · rename_i fs hu; rw [hu] at ha; exact absurd rfl ha
    · rename_i k e hu; rw [hu] at ha; exact absurd rfl ha
    · exact h.elim

/-- Parts read one by one are read together. -/
theorem tile_typed {n : Nat} {T : TypeId → List Value → Prop} (ih : ∀ t cs, T t cs → ∃ xs, Typed P n t xs ∧ Reps g w xs cs ∧ ∀ c ∈ cs, c.oneCell' = true) :
    ∀ (fs : List Field) (o e : Nat) (cs : List Value), tiles P o fs e = true → cs.length = e → (∀ f ∈ fs, T f.type ((cs.drop f.offset).take (P.cellsOf f.type))) →
      ∃ ys, Reps g w ys (cs.drop o) ∧ (∀ c ∈ cs.drop o, c.oneCell' = true) ∧ o ≤ e ∧ ∀ (xs : List AV), xs.drop o = ys → (∀ f ∈ fs, Typed P n f.type ((xs.drop f.offset).take (P.cellsOf f.type)))
  | [], o, e, cs, ht, hl, _ => by
    have : o = e := by simpa [tiles] using ht
    subst this
    rw [← hl, List.drop_length]
    exact ⟨[], Reps.nil g w, (fun c hc => by cases hc), Nat.le_refl _, (fun xs _ f hf => by cases hf)⟩
  | f :: r, o, e, cs, ht, hl, hT => by
    simp only [tiles, Bool.and_eq_true, beq_iff_eq] at ht
    obtain ⟨ho, ht⟩ := ht
    obtain ⟨zs, k1, k2, k3, k4⟩ := tile_typed ih r (o + P.cellsOf f.type) e cs ht hl (fun q hq => hT q (List.mem_cons_of_mem _ hq))
    obtain ⟨xf, h1, h2, h3⟩ := ih _ _ (hT f List.mem_cons_self)
    rw [ho] at h2 h3
    have hsplit : cs.drop o = (cs.drop o).take (P.cellsOf f.type) ++ cs.drop (o + P.cellsOf f.type) := by
      rw [← List.drop_drop, List.take_append_drop]
    have hxl : xf.length = P.cellsOf f.type := by
      rw [← h2.1, List.length_take, List.length_drop, hl]; omega
    refine ⟨xf ++ zs, by rw [hsplit]; exact h2.append k1, fun c hc => ?_, by omega, fun xs hxs q hq => ?_⟩
    · rw [hsplit] at hc
      rcases List.mem_append.1 hc with hc | hc
      · exact h3 c hc
      · exact k2 c hc
    · rcases List.mem_cons.1 hq with rfl | hq
      · rw [ho, hxs, List.take_append_of_le_length (by omega), List.take_of_length_le (by omega)]
        exact h1
      · refine k4 xs ?_ q hq
        rw [← List.drop_drop, hxs, List.drop_append_of_le_length (by omega), List.drop_of_length_le (by omega)]
        rfl

theorem tileA_typed {n c : Nat} {e : TypeId} {T : List Value → Prop} (ih : ∀ cs, T cs → ∃ xs, Typed P n e xs ∧ Reps g w xs cs ∧ ∀ c ∈ cs, c.oneCell' = true) :
    ∀ (k : Nat) (cs : List Value), cs.length = k * c → (∀ i, i < k → T ((cs.drop (i * c)).take c)) →
      ∃ xs, Reps g w xs cs ∧ (∀ c ∈ cs, c.oneCell' = true) ∧ ∀ i, i < k → Typed P n e ((xs.drop (i * c)).take c)
  | 0, cs, hl, _ => by
    have : cs = [] := List.eq_nil_of_length_eq_zero (by simpa using hl)
    subst this
    exact ⟨[], Reps.nil g w, (fun c hc => by cases hc), (fun i hi => by omega)⟩
  | k + 1, cs, hl, hT => by
    have hlen : (cs.drop c).length = k * c := by rw [List.length_drop, hl, Nat.add_mul]; omega
    obtain ⟨zs, k1, k2, k3⟩ := tileA_typed (c := c) ih k (cs.drop c) hlen (fun i hi => by
      have := hT (i + 1) (by omega)
      rw [List.drop_drop]
      rw [show c + i * c = (i + 1) * c by rw [Nat.add_mul]; omega]
      exact this)
    obtain ⟨x0, h1, h2, h3⟩ := ih _ (hT 0 (by omega))
    simp only [Nat.zero_mul, List.drop_zero] at h2 h3
    have hxl : x0.length = c := by
      rw [← h2.1, List.length_take, hl, Nat.add_mul]; omega
    refine ⟨x0 ++ zs, ?_, fun v hv => ?_, fun i hi => ?_⟩
    · have := h2.append k1
      rwa [List.take_append_drop] at this
    · rw [← List.take_append_drop c cs] at hv
      rcases List.mem_append.1 hv with hv | hv
      · exact h3 v hv
      · exact k2 v hv
    · cases i with
      | zero =>
        rw [Nat.zero_mul, List.drop_zero, List.take_append_of_le_length (by omega), List.take_of_length_le (by omega)]
        exact h1
      | succ i =>
        have := k3 i (by omega)
        have hd : (x0 ++ zs).drop c = zs := by rw [← hxl]; simp
        rw [show (i + 1) * c = c + i * c by rw [Nat.add_mul]; omega, ← List.drop_drop, hd]
        exact this

theorem mapM_all {α β : Type} {f : α → Option β} : ∀ {l : List α} {r : List β}, l.mapM f = some r → ∀ x ∈ l, ∃ y, f x = some y
  | [], _, _, x, hx => by cases hx
  | a :: l, r, h, x, hx => by
    rw [List.mapM_cons] at h
    simp only [Option.bind_eq_bind, Option.bind_eq_some_iff] at h
    obtain ⟨y, h1, ys, h2, _⟩ := h
    rcases List.mem_cons.1 hx with rfl | hx
    · exact ⟨y, h1⟩
    · exact mapM_all h2 x hx

theorem trod_typed {S : List TypeId} (hS : plainAll P S = true) (hg : ∀ b o, g.own b o = none) {base : Nat} {spare : Nat → Bool} {held : Bool} : ∀ (n : Nat) (t : TypeId) (cs : List Value) (x : DataW H × List MemPlace), t ∈ S → DataW.trod enc P w base spare held n t cs = some x →
    ∃ xs, Typed P n t xs ∧ Reps g w xs cs ∧ ∀ c ∈ cs, c.oneCell' = true := by
  intro n
  induction n with
  | zero => intro t cs x _ h; simp [DataW.trod] at h
  | succ n ih =>
    intro t cs x ht h
    have hp : plainIn P S t = true := List.all_eq_true.1 hS t ht
    unfold plainIn at hp
    have one : ∀ (y : AV) (v : Value), Rep g w y v → v.oneCell' = true → Reps g w [y] [v] ∧ ∀ c ∈ [v], c.oneCell' = true :=
      fun y v hr hone => ⟨Reps.cons hr (Reps.nil g w), fun c hc => by rw [List.mem_singleton.1 hc]; exact hone⟩
    unfold DataW.trod at h
    split at h
    all_goals (try (rename_i hu; rw [hu] at hp; cases hp; done))
    · rename_i b hu
      exact ⟨[.bool b], by simp only [Typed, hu]; exact ⟨b, rfl⟩, one _ _ (.bool b) rfl⟩
    · rename_i k k' i hu
      split at h
      · rename_i hk
        obtain ⟨rfl, hwf⟩ := hk
        exact ⟨[.int k' i], by simp only [Typed, hu]; exact ⟨i, rfl, hwf⟩, one _ _ (.int k' i) rfl⟩
      · cases h
    · rename_i s hu
      split at h
      · rename_i hs
        exact ⟨[.str s.data.toList], by simp only [Typed, hu]; exact ⟨_, rfl, by simpa using hs⟩, one _ _ (.str _ s rfl) rfl⟩
      · cases h
    · rename_i e hu
      exact ⟨[.nils], by simp [Typed, hu], one _ _ .nils rfl⟩
    · rename_i e a len cap hu
      simp only at h
      rw [hu] at hp
      simp only [Bool.and_eq_true, decide_eq_true_eq] at hp
      obtain ⟨heS, hc0⟩ := hp
      have heS' : e ∈ S := by simpa using heS
      split at h
      · rename_i hcond
        obtain ⟨_, hle, hmax⟩ := hcond
        simp only [Option.bind_eq_some_iff] at h
        obtain ⟨elems, hel, _⟩ := h
        have hall := mapM_all hel
        -- each element
        have each : ∀ i, i < len → ∃ (cs : List Value) (xs : List AV), cs.length = P.cellsOf e ∧ (∀ j, j < P.cellsOf e → w.cell? ((a.add (i * P.cellsOf e)).add j) = cs[j]?) ∧ Typed P n e xs ∧ Reps g w xs cs ∧ ∀ c ∈ cs, c.oneCell' = true := by
          intro i hi
          obtain ⟨y, hy⟩ := hall i (List.mem_range.2 hi)
          simp only [Option.bind_eq_some_iff] at hy
          obtain ⟨cs, h1, h2⟩ := hy
          obtain ⟨_, h3, h4⟩ := World.cells?_some h1
          obtain ⟨xs, k1, k2, k3⟩ := ih e cs y heS' h2
          exact ⟨cs, xs, h3, h4, k1, k2, k3⟩
        by_cases hlen : len = 0
        · subst hlen
          exact ⟨[.list (P.cellsOf e) .none []], by simp only [Typed, hu]; exact .inr ⟨[], rfl, by simp, fun y hy => by cases hy⟩, one _ _ (.empty _ _ _ _ (.inl rfl)) rfl⟩
        · -- the address is plain
          obtain ⟨b, o, spot⟩ := a
          have hspot : spot = none := by
            obtain ⟨cs, xs, h1, h2, _⟩ := each 0 (by omega)
            have h3 := h2 0 hc0
            rw [List.getElem?_eq_getElem (by omega)] at h3
            have := World.cell?_spot h3
            simpa [Addr.add] using this
          subst hspot
          have each' : ∀ i, ∃ (cs : List Value) (y : AV), i < len → cs.length = P.cellsOf e ∧ (∀ j, j < P.cellsOf e → w.cell? ⟨b, o + (i * P.cellsOf e + j), none⟩ = cs[j]?) ∧ IsElem P e y ∧ Typed P n e y.cells ∧ Reps g w y.cells cs ∧ ∀ c ∈ cs, c.oneCell' = true := by
            intro i
            by_cases hi : i < len
            · obtain ⟨cs, xs, h1, h2, h3, h4, h5⟩ := each i hi
              have h2' : ∀ j, j < P.cellsOf e → w.cell? ⟨b, o + (i * P.cellsOf e + j), none⟩ = cs[j]? := fun j hj => by
                have := h2 j hj
                rw [Addr.add_mid, Addr.add_mid, Nat.add_assoc] at this
                exact this
              by_cases ha : aggT P e = some true
              · exact ⟨cs, .agg xs, fun _ => ⟨h1, h2', by unfold IsElem; rw [if_pos ha]; exact ⟨xs, rfl⟩, h3, h4, h5⟩⟩
              · obtain ⟨y, rfl, hy⟩ := typed_one h3 ha
                exact ⟨cs, y, fun _ => ⟨h1, h2', by unfold IsElem; rw [if_neg ha]; exact hy, by rw [hy]; exact h3, by rw [hy]; exact h4, h5⟩⟩
            · exact ⟨[], .undef, fun h => absurd h hi⟩
          have hf := fun i => (each' i).choose_spec
          let fc : Nat → List Value := fun i => (each' i).choose
          let fy : Nat → AV := fun i => (hf i).choose
          have key : ∀ i, i < len → (fc i).length = P.cellsOf e ∧ (∀ j, j < P.cellsOf e → w.cell? ⟨b, o + (i * P.cellsOf e + j), none⟩ = (fc i)[j]?) ∧ IsElem P e (fy i) ∧ Typed P n e (fy i).cells ∧ Reps g w (fy i).cells (fc i) ∧ ∀ c ∈ fc i, c.oneCell' = true :=
            fun i hi => (hf i).choose_spec hi
          let ys := (List.range len).map fy
          have hys : ys.length = len := by simp [ys]
          have hget : ∀ (i : Nat) (y : AV), ys[i]? = some y → i < len ∧ y = fy i := by
            intro i y hy
            have hi : i < len := by rw [← hys]; exact (List.getElem?_eq_some_iff.1 hy).1
            simp only [ys, List.getElem?_map, List.getElem?_range hi, Option.map_some, Option.some.injEq] at hy
            exact ⟨hi, hy.symm⟩
          have hcell : ∀ (i j : Nat) (y c : AV), ys[i]? = some y → y.cells[j]? = some c → ∃ v, (fc i)[j]? = some v ∧ w.cell? ⟨b, o + (i * P.cellsOf e + j), none⟩ = some v ∧ Rep g w c v ∧ v.oneCell' = true := by
            intro i j y c h1 h2
            obtain ⟨hi, rfl⟩ := hget i y h1
            obtain ⟨k1, k2, k3, k4, k5, k6⟩ := key i hi
            obtain ⟨v, h3, h4⟩ := k5.get h2
            have hj : j < P.cellsOf e := by rw [← k1]; exact (List.getElem?_eq_some_iff.1 h3).1
            exact ⟨v, h3, by rw [k2 j hj]; exact h3, h4, k6 v (List.mem_of_getElem? h3)⟩
          have hrep := Rep.list (g := g) (w := w) (P.cellsOf e) .none ys b o cap (fun i j => ((fc i)[j]?).getD Go.undef)
            (fun i y hy => by obtain ⟨hi, rfl⟩ := hget i y hy; obtain ⟨k1, _, _, _, k5, _⟩ := key i hi; rw [← k5.1, k1]) (by rw [hys]; exact hle) trivial
            (fun i j y c h1 h2 => by
              obtain ⟨v, h3, h4, h5, h6⟩ := hcell i j y c h1 h2
              rw [h3]
              exact ⟨h4, hg _ _, h6⟩)
            (fun i j y c h1 h2 => by
              obtain ⟨v, h3, h4, h5, h6⟩ := hcell i j y c h1 h2
              rw [h3]
              exact h5)
          rw [hys] at hrep
          refine ⟨[.list (P.cellsOf e) .none ys], ?_, one _ _ hrep rfl⟩
          simp only [Typed, hu]
          refine .inr ⟨ys, rfl, by rw [hys]; omega, fun y hy => ?_⟩
          obtain ⟨i, hi⟩ := List.getElem?_of_mem hy
          obtain ⟨hil, rfl⟩ := hget i y hi
          obtain ⟨_, _, k3, k4, _⟩ := key i hil
          exact ⟨k3, k4⟩
      · cases h
    · rename_i fs hu
      rw [hu] at hp
      simp only [Bool.and_eq_true] at hp
      obtain ⟨hfs, htile⟩ := hp
      split at h
      · rename_i hlen
        simp only [Option.map_eq_some_iff] at h
        obtain ⟨ys, hm, _⟩ := h
        have hall := mapM_all hm
        obtain ⟨xs, k1, k2, _, k3⟩ := tile_typed (P := P) (g := g) (w := w) (n := n) (T := fun t c => t ∈ S ∧ ∃ y, DataW.trod enc P w base spare held n t c = some y)
          (fun t c ⟨ht, y, hy⟩ => ih t c y ht hy) fs.toList 0 (P.cellsOf t) _ htile hlen (fun f hf => ⟨by simpa using List.all_eq_true.1 hfs f hf, hall f hf⟩)
        rw [List.drop_zero] at k1 k2
        refine ⟨xs, ?_, k1, k2⟩
        simp only [Typed, hu]
        exact ⟨by rw [← k1.1]; exact hlen, k3 xs (List.drop_zero ..)⟩
      · cases h
    · rename_i k e hu
      rw [hu] at hp
      simp only [Bool.and_eq_true, beq_iff_eq] at hp
      obtain ⟨heS, hsz⟩ := hp
      have heS' : e ∈ S := by simpa using heS
      split at h
      · rename_i hlen
        simp only [Option.map_eq_some_iff] at h
        obtain ⟨ys, hm, _⟩ := h
        have hall := mapM_all hm
        obtain ⟨xs, k1, k2, k3⟩ := tileA_typed (P := P) (g := g) (w := w) (n := n) (c := P.cellsOf e) (e := e) (T := fun c => ∃ y, DataW.trod enc P w base spare held n e c = some y)
          (fun c ⟨y, hy⟩ => ih e c y heS' hy) k _ (by rw [hlen, hsz]) (fun i hi => hall i (List.mem_range.2 hi))
        refine ⟨xs, ?_, k1, k2⟩
        simp only [Typed, hu]
        exact ⟨by rw [← k1.1]; exact hlen, k3⟩
      · cases h
    · cases h

end
end Go.Vs
