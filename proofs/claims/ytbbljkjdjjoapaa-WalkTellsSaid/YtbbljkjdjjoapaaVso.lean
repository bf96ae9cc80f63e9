/-
  Vso: a region that draws its order: whatever order is drawn, the evaluator's one walk tells what becomes of it.
-/
import Derived.Test.YtbbljkjdjjoapaaVsn
namespace Go.Vs
open Go.RowKit

/-! What must come before what. -/

theorem foldl_bit (acc : List Nat) (i : Nat) : ∀ (l : List Edge) (s : Nat), (l.foldl (fun s e => if Region.binds .any e then s ||| 2 ^ e.on ||| acc.getD e.on 0 else s) s).testBit i = true →
    s.testBit i = true ∨ ∃ e ∈ l, Region.binds .any e = true ∧ (i = e.on ∨ (acc.getD e.on 0).testBit i = true)
  | [], s, h => .inl h
  | e :: l, s, h => by
    rw [List.foldl_cons] at h
    rcases foldl_bit acc i l _ h with h | ⟨e', he', hb, hi⟩
    · split at h
      · rename_i hb
        rw [Nat.testBit_or, Nat.testBit_or, Bool.or_eq_true, Bool.or_eq_true] at h
        rcases h with (h | h) | h
        · exact .inl h
        · rw [Nat.testBit_two_pow] at h
          simp at h
          exact .inr ⟨e, List.mem_cons_self, hb, .inl h.symm⟩
        · exact .inr ⟨e, List.mem_cons_self, hb, .inr h⟩
      · exact .inl h
    · exact .inr ⟨e', List.mem_cons_of_mem _ he', hb, hi⟩

theorem masks_take : ∀ (l : List Oper) (acc : List Nat), (masks l acc).take acc.length = acc ∧ (masks l acc).length = acc.length + l.length
  | [], acc => by simp [masks]
  | o :: l, acc => by
    obtain ⟨h1, h2⟩ := masks_take l (acc ++ [maskOf acc o])
    simp only [masks]
    refine ⟨?_, by rw [h2]; simp; omega⟩
    have : (masks l (acc ++ [maskOf acc o])).take acc.length = ((masks l (acc ++ [maskOf acc o])).take (acc ++ [maskOf acc o]).length).take acc.length := by
      rw [List.take_take]; congr 1; simp
    rw [this, h1]
    simp

theorem masks_get : ∀ (l : List Oper) (acc : List Nat) (k : Nat) (o : Oper), l[k]? = some o → (masks l acc)[acc.length + k]? = some (maskOf ((masks l acc).take (acc.length + k)) o)
  | [], _, _, _, h => by simp at h
  | o' :: l, acc, 0, o, h => by
    simp at h; subst h
    simp only [masks, Nat.add_zero]
    obtain ⟨h1, _⟩ := masks_take l (acc ++ [maskOf acc o'])
    have h2 : (masks l (acc ++ [maskOf acc o'])).take acc.length = acc := (masks_take (o' :: l) acc).1
    rw [h2]
    have h3 : ((masks l (acc ++ [maskOf acc o'])).take (acc ++ [maskOf acc o']).length)[acc.length]? = (masks l (acc ++ [maskOf acc o']))[acc.length]? := by
      rw [List.getElem?_take, if_pos (by simp)]
    rw [← h3, h1]
    simp
  | o' :: l, acc, k + 1, o, h => by
    simp only [masks]
    have := masks_get l (acc ++ [maskOf acc o']) k o (by simpa using h)
    rw [show (acc ++ [maskOf acc o']).length + k = acc.length + (k + 1) by simp; omega] at this
    exact this

/-- A set of operations that holds with each what must come before it. -/
def Closed (ops : Array Oper) (X : Nat → Bool) : Prop := ∀ (j : Nat) (o : Oper), ops[j]? = some o → X j = true → ∀ e ∈ o.after, Region.binds .any e = true → X e.on = true

theorem closed_bit {ops : Array Oper} {X : Nat → Bool} (hX : Closed ops X) : ∀ (j i : Nat), X j = true → ((masks ops.toList []).getD j 0).testBit i = true → X i = true := by
  intro j
  induction j using Nat.strongRecOn with
  | _ j ih =>
    intro i hj hb
    cases ho : ops[j]? with
    | none =>
      have : (masks ops.toList [])[j]? = none := by
        rw [List.getElem?_eq_none_iff, (masks_take ops.toList []).2]
        simpa using ho
      rw [List.getD_eq_getElem?_getD, this] at hb
      simp at hb
    | some o =>
      have hm := masks_get ops.toList [] j o (by simpa using ho)
      simp only [List.length_nil, Nat.zero_add] at hm
      rw [List.getD_eq_getElem?_getD, hm, Option.getD_some] at hb
      rcases foldl_bit _ i _ _ hb with h | ⟨e, he, hbd, hi⟩
      · simp at h
      · have hXe := hX j o ho hj e (by simpa using he) hbd
        rcases hi with rfl | hi
        · exact hXe
        · by_cases hlt : e.on < j
          · refine ih e.on hlt i hXe ?_
            rw [List.getD_eq_getElem?_getD, List.getElem?_take, if_pos hlt] at hi
            rw [List.getD_eq_getElem?_getD]; exact hi
          · rw [List.getD_eq_getElem?_getD, List.getElem?_take, if_neg hlt] at hi
            simp at hi

theorem closed_ordered {ops : Array Oper} {X : Nat → Bool} (hX : Closed ops X) {i j : Nat} (hij : i < j) (h : ordered (masks ops.toList []) i j = true ∨ ordered (masks ops.toList []) j i = true) (hj : X j = true) : X i = true := by
  unfold ordered at h
  rw [Nat.max_eq_right (by omega), Nat.min_eq_left (by omega), Nat.max_eq_left (by omega), Nat.min_eq_right (by omega)] at h
  rcases h with h | h <;> exact closed_bit hX j i hj h

/-! What the evaluator looks at. -/

theorem evBuild_congr {ρ ρ' : List AV} : ∀ {ps : List (Nat × Nat × Opd)} {z : List AV}, (∀ y ∈ ps.map (fun p => p.2.2), y.ev ρ = y.ev ρ') → evBuild z ρ ps = evBuild z ρ' ps
  | [], _, _ => rfl
  | (off, n, x) :: r, z, h => by
    have hx : x.ev ρ = x.ev ρ' := h x (by simp)
    simp only [evBuild, hx]
    split
    · exact evBuild_congr fun y hy => h y (by simp only [List.map_cons]; exact List.mem_cons_of_mem _ hy)
    · rfl

theorem evOp_congr {O : Oracle} {ρ ρ' : List AV} {m : Mem} {op : AOp} (h : ∀ y ∈ op.reads, y.ev ρ = y.ev ρ') : evOp O ρ m op = evOp O ρ' m op := by
  have lst : ∀ {l : List Opd}, (∀ y ∈ l, y.ev ρ = y.ev ρ') → (l.map fun p => p.ev ρ) = l.map fun p => p.ev ρ' := fun hl => List.map_congr_left hl
  have opt : ∀ {x : Option Opd}, (∀ y ∈ x.toList, y.ev ρ = y.ev ρ') → (x.map fun p => p.ev ρ) = x.map fun p => p.ev ρ' := by
    intro x hx
    cases x with
    | none => rfl
    | some y => simp only [Option.map_some]; rw [hx y (by simp)]
  cases op <;> simp only [AOp.reads] at h <;> simp only [evOp]
  case build z ps => rw [evBuild_congr h]
  case ext e =>
    cases e <;> simp only [XOp.reads] at h <;> simp only [evX]
    case eqA n s ls x y => rw [h x (by simp), h y (by simp)]
    case isNil n kd x => rw [h x (by simp)]
    case wload g n x => rw [h x (by simp)]
    case nilChk x => rw [h x (by simp)]
    case mget kk z x k => rw [h x (by simp), h k (by simp)]
    case copy s d x => rw [h d (by simp), h x (by simp)]
    case mput kk x k v => rw [h x (by simp), h k (by simp), h v (by simp)]
  case lit s ps => rw [lst h]
  case mkfn f x y => rw [lst fun y hy => h y (List.mem_append_left _ hy), lst fun y hy => h y (List.mem_append_right _ hy)]
  case slice s x lo hi top =>
    rw [h x (by simp), opt fun y hy => h y (by simp only [List.mem_cons, List.mem_append]; simp [hy]), opt fun y hy => h y (by simp only [List.mem_cons, List.mem_append]; simp [hy]), opt fun y hy => h y (by simp only [List.mem_cons, List.mem_append]; simp [hy])]
  case sliceA n s x lo hi =>
    rw [h x (by simp), opt fun y hy => h y (by simp only [List.mem_cons, List.mem_append]; simp [hy]), opt fun y hy => h y (by simp only [List.mem_cons, List.mem_append]; simp [hy])]
  case sliceS x lo hi =>
    rw [h x (by simp), opt fun y hy => h y (by simp only [List.mem_cons, List.mem_append]; simp [hy]), opt fun y hy => h y (by simp only [List.mem_cons, List.mem_append]; simp [hy])]
  case call f args => rw [h f (by simp), lst fun y hy => h y (List.mem_cons_of_mem _ hy)]
  case pick c x y => rw [h c (by simp), h x (by simp), h y (by simp)]
  case store n x y => rw [h x (by simp), h y (by simp)]
  case bin b x y => rw [h x (by simp), h y (by simp)]
  case beq b x y => rw [h x (by simp), h y (by simp)]
  case iaddr s x y => rw [h x (by simp), h y (by simp)]
  case iaddrA n s x y => rw [h x (by simp), h y (by simp)]
  case indexS x y => rw [h x (by simp), h y (by simp)]
  case indexA n s b x y => rw [h x (by simp), h y (by simp)]
  case app s b x y => rw [h x (by simp), h y (by simp)]
  case mx x y => rw [h x (by simp), h y (by simp)]
  case mn x y => rw [h x (by simp), h y (by simp)]
  case make s b z x y => rw [h x (by simp), h y (by simp)]
  case mov x => rw [h x (by simp)]
  case un u x => rw [h x (by simp)]
  case conv k x => rw [h x (by simp)]
  case convS x => rw [h x (by simp)]
  case toStr x => rw [h x (by simp)]
  case toBytes x => rw [h x (by simp)]
  case faddr n x => rw [h x (by simp)]
  case field b n f x => rw [h x (by simp)]
  case box n x => rw [h x (by simp)]
  case load b n x => rw [h x (by simp)]
  case len x => rw [h x (by simp)]
  case lenS x => rw [h x (by simp)]
  case extract x i => rw [h x (by simp)]

theorem evOp_pure {O : Oracle} {ρ : List AV} {m m' : Mem} {op : AOp} {r : AV} (hk : op.kind = 0) (h : evOp O ρ m op = some (r, m')) : m' = m ∧ ∀ m2, evOp O ρ m2 op = some (r, m2) := by
  have same : ∀ {x : Option AV}, (x.map fun v => (v, m)) = some (r, m') → m' = m ∧ ∀ m2 : Mem, (x.map fun v => (v, m2)) = some (r, m2) := by
    intro x h
    cases x with
    | none => simp at h
    | some z => simp at h; obtain ⟨rfl, rfl⟩ := h; exact ⟨rfl, fun _ => rfl⟩
  cases op <;> simp only [AOp.kind] at hk <;> first | (cases hk; done) | skip
  case mov x => simp only [evOp, Option.some.injEq, Prod.mk.injEq] at h; obtain ⟨rfl, rfl⟩ := h; exact ⟨rfl, fun _ => rfl⟩
  case pick c x y =>
    simp only [evOp] at h ⊢
    split at h
    · simp only [Option.some.injEq, Prod.mk.injEq] at h; obtain ⟨rfl, rfl⟩ := h; exact ⟨rfl, fun _ => rfl⟩
    · cases h
  case build z ps =>
    simp only [evOp, Option.map_eq_some_iff, Prod.mk.injEq] at h ⊢
    obtain ⟨cs, h1, rfl, rfl⟩ := h
    exact ⟨rfl, fun _ => ⟨cs, h1, rfl, trivial⟩⟩
  case lit s ps =>
    simp only [evOp] at h ⊢
    split at h
    · rename_i hc
      simp only [Option.some.injEq, Prod.mk.injEq] at h; obtain ⟨rfl, rfl⟩ := h; exact ⟨rfl, fun _ => by rw [if_pos hc]⟩
    · cases h
  case bin b x y => exact same h
  case beq b x y =>
    simp only [evOp] at h ⊢
    split at h
    · simp only [Option.some.injEq, Prod.mk.injEq] at h; obtain ⟨rfl, rfl⟩ := h; exact ⟨rfl, fun _ => rfl⟩
    · cases h
  case un u x => exact same h
  case conv k x =>
    simp only [evOp] at h ⊢
    split at h
    · simp only [Option.some.injEq, Prod.mk.injEq] at h; obtain ⟨rfl, rfl⟩ := h; exact ⟨rfl, fun _ => rfl⟩
    · cases h
  case convS x =>
    simp only [evOp] at h ⊢
    split at h
    · simp only [Option.some.injEq, Prod.mk.injEq] at h; obtain ⟨rfl, rfl⟩ := h; exact ⟨rfl, fun _ => rfl⟩
    · cases h
  case ext e =>
    cases e <;> simp only [evOp, evX] at h ⊢
    case bad => cases h
    case wload => cases hk
    case eqA n s ls x y =>
      split at h
      · split at h
        · rename_i hc
          simp only [Option.map_eq_some_iff, Prod.mk.injEq] at h
          obtain ⟨b, h1, rfl, rfl⟩ := h
          refine ⟨rfl, fun m2 => ?_⟩
          rw [if_pos hc, h1]; rfl
        · cases h
      · cases h
    case isNil n kd x =>
      simp only [Option.map_eq_some_iff, Prod.mk.injEq] at h
      obtain ⟨b, h1, rfl, rfl⟩ := h
      exact ⟨rfl, fun m2 => by rw [h1]; rfl⟩
    case nilChk x =>
      simp only [Option.map_eq_some_iff, Prod.mk.injEq] at h
      obtain ⟨b, h1, rfl, rfl⟩ := h
      exact ⟨rfl, fun m2 => by rw [h1]; rfl⟩
    case mkmap => cases hk
    case mget => cases hk
    case mput => cases hk
    case copy => cases hk
  case mkfn f x y => simp only [evOp, Option.some.injEq, Prod.mk.injEq] at h; obtain ⟨rfl, rfl⟩ := h; exact ⟨rfl, fun _ => rfl⟩
  case faddr n x => exact same h
  case field b n f x =>
    simp only [evOp] at h ⊢
    split at h
    · exact same h
    · cases h
  case iaddr s x y => exact same h
  case iaddrA n s x y => exact same h
  case indexS x y =>
    simp only [evOp] at h ⊢
    split at h
    · simp only [Option.bind_eq_some_iff, Option.map_eq_some_iff, Prod.mk.injEq] at h ⊢
      obtain ⟨j, h1, c, h2, rfl, rfl⟩ := h
      exact ⟨rfl, fun _ => ⟨j, h1, c, h2, rfl, trivial⟩⟩
    · cases h
  case indexA n s b x y =>
    simp only [evOp] at h ⊢
    split at h
    · simp only [Option.bind_eq_some_iff, Option.map_eq_some_iff, Prod.mk.injEq] at h ⊢
      obtain ⟨j, h1, c, h2, rfl, rfl⟩ := h
      exact ⟨rfl, fun _ => ⟨j, h1, c, h2, rfl, trivial⟩⟩
    · cases h
  case len x => exact same h
  case lenS x =>
    simp only [evOp] at h ⊢
    split at h
    · simp only [Option.some.injEq, Prod.mk.injEq] at h; obtain ⟨rfl, rfl⟩ := h; exact ⟨rfl, fun _ => rfl⟩
    · cases h
  case mx x y => exact same h
  case mn x y => exact same h
  case slice s x lo hi top => exact same h
  case sliceA n s x lo hi => exact same h
  case sliceS x lo hi => exact same h
  case extract x i =>
    simp only [evOp] at h ⊢
    split at h
    · exact same h
    · cases h

theorem evOp_load {O : Oracle} {ρ : List AV} {m m' : Mem} {op : AOp} {r : AV} (hk : op.kind ≤ 1) (h : evOp O ρ m op = some (r, m')) : m' = m ∧ ∀ m2 : Mem, (∀ l k st cs, m.blk l k st = some cs → m2.blk l k st = some cs) → evOp O ρ m2 op = some (r, m2) := by
  by_cases h0 : op.kind = 0
  · obtain ⟨h1, h2⟩ := evOp_pure h0 h
    exact ⟨h1, fun m2 _ => h2 m2⟩
  · have : op.kind = 1 := by omega
    cases op <;> simp only [AOp.kind] at this <;> first | (cases this; done) | skip
    case ext e =>
      cases e <;> first | (cases this; done) | skip
      rename_i b n x
      simp only [evOp, evX, Option.bind_eq_some_iff, Option.map_eq_some_iff, Prod.mk.injEq] at h ⊢
      obtain ⟨cs, h1, v, h2, rfl, rfl⟩ := h
      refine ⟨rfl, fun m2 hm => ⟨cs, ?_, v, h2, rfl, trivial⟩⟩
      unfold Mem.at at h1 ⊢
      split at h1
      · simp only [Option.map_eq_some_iff] at h1 ⊢
        obtain ⟨c0, h3, h4⟩ := h1
        exact ⟨c0, hm _ _ _ _ h3, h4⟩
      · exact h1
      · cases h1
    case toStr x =>
      simp only [evOp, Option.map_eq_some_iff, Prod.mk.injEq] at h ⊢
      obtain ⟨v, h1, rfl, rfl⟩ := h
      refine ⟨rfl, fun m2 hm => ⟨v, ?_, rfl, trivial⟩⟩
      unfold evToStr at h1 ⊢
      split at h1
      · exact h1
      · exact h1
      · split at h1
        · rename_i hb
          rw [hm _ _ _ _ hb]; exact h1
        · cases h1
      · cases h1
    rename_i b n x
    simp only [evOp, Option.bind_eq_some_iff, Option.map_eq_some_iff, Prod.mk.injEq] at h ⊢
    obtain ⟨cs, h1, v, h2, rfl, rfl⟩ := h
    refine ⟨rfl, fun m2 hm => ⟨cs, ?_, v, h2, rfl, trivial⟩⟩
    unfold Mem.at at h1 ⊢
    split at h1
    · simp only [Option.map_eq_some_iff] at h1 ⊢
      obtain ⟨c0, h3, h4⟩ := h1
      exact ⟨c0, hm _ _ _ _ h3, h4⟩
    · exact h1
    · cases h1

end Go.Vs
