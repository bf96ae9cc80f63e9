/-
  Vsc: what an abstract value says of a value in the world; what an abstract memory says of the world; how both are kept.
-/
import Derived.Test.YtbbljkjdjjoapaaVsb
import Derived.Below
import Derived.Deep.AppendSrc
import Derived.Deep.MidRow
namespace Go.Vs
open Go.RowKit

/-- The ghost state: where a block lies, and where its cells end; where the spare places of a token begin and end; who owns a cell (false: a block's stamp, true: a token); from which block of the heap on memory is the call's own; which stamps are set aside for blocks that are still to be made. -/
structure G where
  bt : Nat → Option (Nat × Nat × Nat)
  tk : Nat → Option (Nat × Nat × Nat)
  own : Nat → Nat → Option (Bool × Nat)
  base : Nat
  rs : Nat → Bool
  mp : Nat → Option Nat

def TokAt (g : G) : Tok → Nat → Nat → Nat → Prop
  | .none, _, _, _ => True
  | .full, _, p, e => p = e
  | .id t, b, p, e => g.tk t = some (b, p, e)

inductive Rep (g : G) (w : World) : AV → Value → Prop
  | bool (b : Bool) : Rep g w (.bool b) (.bool b)
  | int (k : IntKind) (n : Int) : Rep g w (.int k n) (.int k n)
  | str (l : List UInt8) (s : ByteArray) (h : s.data.toList = l) : Rep g w (.str l) (.string s)
  | nils : Rep g w .nils (.slice none 0 0)
  | list (s : Nat) (tk : Tok) (xs : List AV) (b o cap : Nat) (f : Nat → Nat → Value)
      (hs : ∀ (i : Nat) (x : AV), xs[i]? = some x → x.cells.length = s) (hcap : xs.length ≤ cap) (htk : TokAt g tk b (o + xs.length * s) (o + cap * s))
      (hc : ∀ (i j : Nat) (x c : AV), xs[i]? = some x → x.cells[j]? = some c → w.cell? ⟨b, o + (i * s + j), none⟩ = some (f i j) ∧ g.own b (o + (i * s + j)) = none ∧ (f i j).oneCell' = true)
      (hr : ∀ (i j : Nat) (x c : AV), xs[i]? = some x → x.cells[j]? = some c → Rep g w c (f i j)) : Rep g w (.list s tk xs) (.slice (some ⟨b, o, none⟩) xs.length cap)
  | empty (s : Nat) (tk : Tok) (a : Addr) (cap : Nat) (h : tk = .none ∨ tk = .full ∧ cap = 0) : Rep g w (.list s tk []) (.slice (some a) 0 cap)
  | arr (l k st off len b o e cap : Nat) (hb : g.bt st = some (b, o, e)) (hcap : len ≤ cap) : Rep g w (.arr l k st off len) (.slice (some ⟨b, o + off, none⟩) len cap)
  | arr0 (l k st off : Nat) (a : Addr) (cap : Nat) : Rep g w (.arr l k st off 0) (.slice (some a) 0 cap)
  | ptr (l k st off b o e : Nat) (hb : g.bt st = some (b, o, e)) : Rep g w (.ptr l k st off) (.pointer (some ⟨b, o + off, none⟩))
  | ro (cs : List AV) (b o : Nat) (f : Nat → Value) (hc : ∀ (j : Nat) (c : AV), cs[j]? = some c → w.cell? ⟨b, o + j, none⟩ = some (f j) ∧ g.own b (o + j) = none) (hr : ∀ (j : Nat) (c : AV), cs[j]? = some c → Rep g w c (f j)) :
      Rep g w (.ro cs) (.pointer (some ⟨b, o, none⟩))
  | nilptr : Rep g w .nilptr (.pointer none)
  | mapR (l k st b : Nat) (h : g.mp st = some b) : Rep g w (.mapR l k st) (.map (some b))
  | fn (f : Fn) (first caps : List AV) (first' caps' : Array Value) (h1 : first'.size = first.length) (h2 : caps'.size = caps.length)
      (h3 : ∀ (j : Nat) (c : AV) (v : Value), first[j]? = some c → first'[j]? = some v → Rep g w c v) (h4 : ∀ (j : Nat) (c : AV) (v : Value), caps[j]? = some c → caps'[j]? = some v → Rep g w c v) : Rep g w (.fn f first caps) (.func f first' caps')
  | nilfn : Rep g w .nilfn .nilFunc
  | agg (cs : List AV) (vs : Array Value) (hl : vs.size = cs.length) (h : ∀ (j : Nat) (c : AV) (v : Value), cs[j]? = some c → vs[j]? = some v → Rep g w c v) : Rep g w (.agg cs) (.agg vs)
  | tup (cs : List AV) (vs : Array Value) (hl : vs.size = cs.length) (h : ∀ (j : Nat) (c : AV) (v : Value), cs[j]? = some c → vs[j]? = some v → Rep g w c v) : Rep g w (.tup cs) (.tuple vs)
  | undef (v : Value) : Rep g w .undef v

theorem Rep.arr0' {g : G} {w : World} (l k st off : Nat) (a : Option Addr) (cap : Nat) (h : a.isSome = true) : Rep g w (.arr l k st off 0) (.slice a 0 cap) := by
  cases a with
  | none => cases h
  | some a => exact .arr0 l k st off a cap
theorem Rep.empty' {g : G} {w : World} (s : Nat) (tk : Tok) (a : Option Addr) (cap : Nat) (h : tk = .none ∨ tk = .full ∧ cap = 0) (h' : a.isSome = true) : Rep g w (.list s tk []) (.slice a 0 cap) := by
  cases a with
  | none => cases h'
  | some a => exact .empty s tk a cap h

/-- From (g, w) to (g', w'): what is settled stays settled; nothing below the base is touched. -/
structure ExtW (g : G) (w : World) (g' : G) (w' : World) : Prop where
  bt : ∀ st x, g.bt st = some x → g'.bt st = some x
  tk : ∀ t x, g.tk t = some x → g'.tk t = some x
  seal_ : ∀ b o v, w.cell? ⟨b, o, none⟩ = some v → g.own b o = none → w'.cell? ⟨b, o, none⟩ = some v ∧ g'.own b o = none
  base : g'.base = g.base
  mp : ∀ st b, g.mp st = some b → g'.mp st = some b
  below : Below g.base w w'

structure Ext (g : G) (w : World) (g' : G) (w' : World) : Prop extends ExtW g w g' w' where
  rs : g'.rs = g.rs

theorem Ext.refl (g : G) (w : World) : Ext g w g w := ⟨⟨fun _ _ h => h, fun _ _ h => h, fun _ _ _ h1 h2 => ⟨h1, h2⟩, rfl, fun _ _ h => h, Below.refl _ _⟩, rfl⟩
theorem ExtW.trans {g g1 g2 : G} {w w1 w2 : World} (h : ExtW g w g1 w1) (k : ExtW g1 w1 g2 w2) : ExtW g w g2 w2 :=
  ⟨fun _ _ a => k.bt _ _ (h.bt _ _ a), fun _ _ a => k.tk _ _ (h.tk _ _ a), fun b o v a c => let ⟨a', c'⟩ := h.seal_ b o v a c; k.seal_ b o v a' c', k.base.trans h.base, fun _ _ a => k.mp _ _ (h.mp _ _ a), h.below.trans (h.base ▸ k.below)⟩

theorem Ext.trans {g g1 g2 : G} {w w1 w2 : World} (h : Ext g w g1 w1) (k : Ext g1 w1 g2 w2) : Ext g w g2 w2 := ⟨h.toExtW.trans k.toExtW, k.rs.trans h.rs⟩

theorem TokAt.mono {g g' : G} {w w' : World} (e : ExtW g w g' w') {tk : Tok} {b p q : Nat} (h : TokAt g tk b p q) : TokAt g' tk b p q := by
  cases tk with
  | none => trivial
  | full => exact h
  | id t => exact e.tk _ _ h

theorem Rep.monoW {g g' : G} {w w' : World} (e : ExtW g w g' w') {x : AV} {v : Value} (h : Rep g w x v) : Rep g' w' x v := by
  induction h with
  | bool b => exact .bool b
  | int k n => exact .int k n
  | str l s h => exact .str l s h
  | nils => exact .nils
  | list s tk xs b o cap f hs hcap htk hc hr ih =>
    exact .list s tk xs b o cap f hs hcap (htk.mono e) (fun i j x c h1 h2 => let ⟨a, b', c'⟩ := hc i j x c h1 h2; let ⟨p, q⟩ := e.seal_ _ _ _ a b'; ⟨p, q, c'⟩) ih
  | empty s tk a cap h => exact .empty s tk a cap h
  | arr l k st off len b o e' cap hb hcap => exact .arr l k st off len b o e' cap (e.bt _ _ hb) hcap
  | arr0 l k st off a cap => exact .arr0 l k st off a cap
  | ptr l k st off b o e' hb => exact .ptr l k st off b o e' (e.bt _ _ hb)
  | ro cs b o f hc hr ih => exact .ro cs b o f (fun j c h1 => let ⟨a, b'⟩ := hc j c h1; e.seal_ _ _ _ a b') ih
  | nilptr => exact .nilptr
  | mapR l k st b h => exact .mapR l k st b (e.mp _ _ h)
  | fn f first caps first' caps' h1 h2 h3 h4 ih3 ih4 => exact .fn f first caps first' caps' h1 h2 ih3 ih4
  | nilfn => exact .nilfn
  | agg cs vs hl h ih => exact .agg cs vs hl ih
  | tup cs vs hl h ih => exact .tup cs vs hl ih
  | undef v => exact .undef v

theorem Rep.mono {g g' : G} {w w' : World} (e : Ext g w g' w') {x : AV} {v : Value} (h : Rep g w x v) : Rep g' w' x v := h.monoW e.toExtW

/-- A list of values. -/
def Reps (g : G) (w : World) (xs : List AV) (vs : List Value) : Prop := vs.length = xs.length ∧ ∀ (j : Nat) (c : AV) (v : Value), xs[j]? = some c → vs[j]? = some v → Rep g w c v

theorem Reps.monoW {g g' : G} {w w' : World} (e : ExtW g w g' w') {xs : List AV} {vs : List Value} (h : Reps g w xs vs) : Reps g' w' xs vs :=
  ⟨h.1, fun j c v a b => (h.2 j c v a b).monoW e⟩
theorem Reps.mono {g g' : G} {w w' : World} (e : Ext g w g' w') {xs : List AV} {vs : List Value} (h : Reps g w xs vs) : Reps g' w' xs vs := h.monoW e.toExtW

theorem Reps.nil (g : G) (w : World) : Reps g w [] [] := ⟨rfl, fun j c v h => by simp at h⟩

theorem Reps.cons {g : G} {w : World} {x : AV} {v : Value} {xs : List AV} {vs : List Value} (h : Rep g w x v) (k : Reps g w xs vs) : Reps g w (x :: xs) (v :: vs) := by
  refine ⟨by simp [k.1], fun j c u h1 h2 => ?_⟩
  cases j with
  | zero => simp at h1 h2; subst h1; subst h2; exact h
  | succ j => simp at h1 h2; exact k.2 j c u h1 h2

theorem Reps.head {g : G} {w : World} {x : AV} {xs : List AV} {vs : List Value} (h : Reps g w (x :: xs) vs) : ∃ v r, vs = v :: r ∧ Rep g w x v ∧ Reps g w xs r := by
  cases vs with
  | nil => simp [Reps] at h
  | cons v r => exact ⟨v, r, rfl, h.2 0 x v rfl rfl, by simpa using h.1, fun j c u h1 h2 => h.2 (j + 1) c u (by simpa using h1) (by simpa using h2)⟩

theorem Reps.append {g : G} {w : World} {xs ys : List AV} {vs us : List Value} (h : Reps g w xs vs) (k : Reps g w ys us) : Reps g w (xs ++ ys) (vs ++ us) := by
  refine ⟨by simp [h.1, k.1], fun j c v h1 h2 => ?_⟩
  by_cases hj : j < xs.length
  · rw [List.getElem?_append_left hj] at h1
    rw [List.getElem?_append_left (by rw [h.1]; exact hj)] at h2
    exact h.2 j c v h1 h2
  · rw [List.getElem?_append_right (by omega)] at h1
    rw [List.getElem?_append_right (by rw [h.1]; omega), h.1] at h2
    exact k.2 _ c v h1 h2

theorem Reps.take {g : G} {w : World} {xs : List AV} {vs : List Value} (h : Reps g w xs vs) (n : Nat) : Reps g w (xs.take n) (vs.take n) := by
  refine ⟨by simp [h.1], fun j c v h1 h2 => ?_⟩
  rw [List.getElem?_take] at h1 h2
  split at h1
  · rename_i hj; rw [if_pos hj] at h2; exact h.2 j c v h1 h2
  · simp at h1

theorem Reps.drop {g : G} {w : World} {xs : List AV} {vs : List Value} (h : Reps g w xs vs) (n : Nat) : Reps g w (xs.drop n) (vs.drop n) := by
  refine ⟨by simp [h.1], fun j c v h1 h2 => ?_⟩
  rw [List.getElem?_drop] at h1 h2
  exact h.2 _ c v h1 h2

theorem Reps.get {g : G} {w : World} {xs : List AV} {vs : List Value} (h : Reps g w xs vs) {j : Nat} {c : AV} (hj : xs[j]? = some c) : ∃ v, vs[j]? = some v ∧ Rep g w c v := by
  have hl : j < xs.length := (List.getElem?_eq_some_iff.1 hj).1
  have : j < vs.length := by rw [h.1]; exact hl
  exact ⟨vs[j], List.getElem?_eq_getElem this, h.2 j c _ hj (List.getElem?_eq_getElem this)⟩

theorem Reps.agg {g : G} {w : World} {cs : List AV} {vs : List Value} (h : Reps g w cs vs) : Rep g w (.agg cs) (.agg vs.toArray) :=
  .agg cs _ (by simpa using h.1) (fun j c v h1 h2 => h.2 j c v h1 (by simpa using h2))

theorem Reps.of_agg {g : G} {w : World} {cs : List AV} {v : Value} (h : Rep g w (.agg cs) v) : ∃ vs : List Value, v = .agg vs.toArray ∧ Reps g w cs vs := by
  cases h with
  | agg _ vs hl h => exact ⟨vs.toList, by simp, by simpa using hl, fun j c v h1 h2 => h j c v h1 (by simpa using h2)⟩

theorem Reps.of_tup {g : G} {w : World} {cs : List AV} {v : Value} (h : Rep g w (.tup cs) v) : ∃ vs : List Value, v = .tuple vs.toArray ∧ Reps g w cs vs := by
  cases h with
  | tup _ vs hl h => exact ⟨vs.toList, by simp, by simpa using hl, fun j c v h1 h2 => h j c v h1 (by simpa using h2)⟩

theorem Reps.tup {g : G} {w : World} {cs : List AV} {vs : List Value} (h : Reps g w cs vs) : Rep g w (.tup cs) (.tuple vs.toArray) :=
  .tup cs _ (by simpa using h.1) (fun j c v h1 h2 => h.2 j c v h1 (by simpa using h2))

theorem rep_undef (g : G) (w : World) : Rep g w (.tup []) Go.undef := .tup [] #[] rfl (fun j c v h => by simp at h)

/-- A value's cells. -/
theorem Rep.cells {g : G} {w : World} {x : AV} {v : Value} (h : Rep g w x v) (hx : 0 < x.cells.length) : Reps g w x.cells v.cells.toList := by
  have one : ∀ {x : AV} {v : Value}, Rep g w x v → v.cells = #[v] → x.cells = [x] → Reps g w x.cells v.cells.toList := by
    intro x v h h1 h2
    rw [h1, h2]
    exact Reps.cons h (Reps.nil g w)
  cases h with
  | agg cs vs hl h => exact ⟨by simpa [Value.cells, AV.cells] using hl, fun j c u h1 h2 => h j c u h1 (by simpa [Value.cells] using h2)⟩
  | undef v => simp [AV.cells] at hx
  | bool b => exact one (.bool b) rfl rfl
  | int k n => exact one (.int k n) rfl rfl
  | str l s h => exact one (.str l s h) rfl rfl
  | nils => exact one .nils rfl rfl
  | list s tk xs b o cap f hs hcap htk hc hr => exact one (.list s tk xs b o cap f hs hcap htk hc hr) rfl rfl
  | empty s tk a cap h => exact one (.empty s tk a cap h) rfl rfl
  | arr l k st off len b o e' cap hb hcap => exact one (.arr l k st off len b o e' cap hb hcap) rfl rfl
  | arr0 l k st off a cap => exact one (.arr0 l k st off a cap) rfl rfl
  | ptr l k st off b o e' hb => exact one (.ptr l k st off b o e' hb) rfl rfl
  | ro cs b o f hc hr => exact one (.ro cs b o f hc hr) rfl rfl
  | nilptr => exact one .nilptr rfl rfl
  | mapR l k st b h => exact one (.mapR l k st b h) rfl rfl
  | fn f first caps first' caps' h1 h2 h3 h4 => exact one (.fn f first caps first' caps' h1 h2 h3 h4) rfl rfl
  | nilfn => exact one .nilfn rfl rfl
  | tup cs vs hl h => exact one (.tup cs vs hl h) rfl rfl

theorem Rep.one {g : G} {w : World} {x : AV} {v : Value} (h : Rep g w x v) (hx : x.one = true) : v.oneCell' = true := by
  cases h <;> simp [AV.one] at hx <;> rfl

theorem Reps.one {g : G} {w : World} {xs : List AV} {vs : List Value} (h : Reps g w xs vs) (hx : allOne xs = true) : ∀ v ∈ vs, v.oneCell' = true := by
  induction xs generalizing vs with
  | nil =>
    have : vs = [] := List.eq_nil_of_length_eq_zero h.1
    subst this; intro v hv; cases hv
  | cons x xs ih =>
    obtain ⟨v, r, rfl, h1, h2⟩ := h.head
    simp only [allOne, Bool.and_eq_true] at hx
    intro u hu
    rcases List.mem_cons.1 hu with rfl | hu
    · exact h1.one hx.1
    · exact ih h2 hx.2 u hu

/-- Cells from p to e belong to one owner: they are there, and may be written. -/
def Held (g : G) (w : World) (o : Bool × Nat) (b p e : Nat) : Prop :=
  ∀ j, p ≤ j → j < e → g.own b j = some o ∧ w.frozen? ⟨b, j, none⟩ = false ∧ (w.cell? ⟨b, j, none⟩).isSome = true

inductive PRep : AV → Value → Prop
  | bool (b : Bool) : PRep (.bool b) (.bool b)
  | int (k : IntKind) (n : Int) : PRep (.int k n) (.int k n)
  | str (l : List UInt8) (s : ByteArray) (h : s.data.toList = l) : PRep (.str l) (.string s)

theorem PRep.rep {g : G} {w : World} {x : AV} {v : Value} (h : PRep x v) : Rep g w x v := by
  cases h with
  | bool b => exact .bool b
  | int k n => exact .int k n
  | str l s h => exact .str l s h

theorem Rep.plain {g : G} {w : World} {x : AV} {v : Value} (h : Rep g w x v) (hx : isPlain x = true) : PRep x v := by
  cases h <;> first | (cases hx; done) | skip
  · exact .bool _
  · exact .int _ _
  · rename_i h; exact .str _ _ h

/-- A map's entries. -/
inductive EntsOk : List AV → List MapEntry → Prop
  | nil : EntsOk [] []
  | cons {k v : AV} {e : MapEntry} {r : List AV} {s : List MapEntry} (h1 : PRep k e.key) (h2 : PRep v e.val) (h : EntsOk r s) : EntsOk (.tup [k, v] :: r) (e :: s)

def MapBlk (g : G) (w : World) (bl : Blk) : Prop :=
  ∃ b ps es clock, g.mp bl.st = some b ∧ (∀ j, g.own b j = some (false, bl.st)) ∧ bl.cs = [.tup ps] ∧ w.heap[b]? = some (.map es clock) ∧ EntsOk ps es.toList

def CellBlk (g : G) (w : World) (bl : Blk) : Prop :=
  ∃ b o e, g.bt bl.st = some (b, o, e) ∧ o + bl.cs.length ≤ e ∧ Held g w (false, bl.st) b o e ∧ ∃ vs : List Value, Reps g w bl.cs vs ∧ ∀ (j : Nat) (v : Value), vs[j]? = some v → w.cell? ⟨b, o + j, none⟩ = some v

def BlkOk (g : G) (w : World) (bl : Blk) : Prop := CellBlk g w bl ∨ MapBlk g w bl

def Mem.all (m : Mem) : List Blk := m.stk.flatten ++ m.cur

theorem addTok_flat (t : Nat) (l : List (List Nat)) : (addTok t l).flatten = t :: l.flatten := by cases l <;> simp [addTok]
theorem pushToks_flat (ts : List Nat) (l : List (List Nat)) : (pushToks ts l).flatten = ts ++ l.flatten := by cases ts <;> cases l <;> simp [pushToks]
theorem hasTok_mem {t : Nat} : ∀ {l : List (List Nat)}, hasTok t l = true → t ∈ l.flatten
  | [], h => by cases h
  | a :: r, h => by
    simp only [hasTok, Bool.or_eq_true] at h
    simp only [List.flatten_cons, List.mem_append]
    rcases h with h | h
    · exact .inl (by simpa using h)
    · exact .inr (hasTok_mem h)
theorem dropTok_sub (t : Nat) : ∀ (l : List (List Nat)), (dropTok t l).flatten.Sublist l.flatten
  | [] => List.Sublist.refl _
  | a :: r => by
    simp only [dropTok]
    split
    · exact List.Sublist.append List.erase_sublist (List.Sublist.refl _)
    · exact List.Sublist.append (List.Sublist.refl _) (dropTok_sub t r)
theorem dropTok_ne {t u : Nat} : ∀ {l : List (List Nat)}, l.flatten.Nodup → u ∈ (dropTok t l).flatten → u ∈ l.flatten ∧ (t ∈ l.flatten → u ≠ t)
  | [], _, h => by simp [dropTok] at h
  | a :: r, hn, h => by
    refine ⟨(dropTok_sub t _).subset h, fun ht => ?_⟩
    simp only [List.flatten_cons, List.nodup_append] at hn
    simp only [dropTok] at h
    split at h
    · rename_i hc
      have hc : t ∈ a := by simpa using hc
      rcases List.mem_append.1 h with h | h
      · exact ((hn.1.mem_erase_iff).1 h).1
      · exact fun e => hn.2.2 t hc u h e.symm
    · rename_i hc
      have hc : t ∉ a := by simpa using hc
      rcases List.mem_append.1 h with h | h
      · exact fun e => hc (e ▸ h)
      · have ht' : t ∈ r.flatten := by
          rcases List.mem_append.1 ht with h' | h'
          · exact absurd h' hc
          · exact h'
        exact (dropTok_ne hn.2.1 h).2 ht'

theorem addAt_mem {t u : Nat} : ∀ {j : Nat} {l : List (List Nat)}, u ∈ (addAt t j l).flatten → u = t ∨ u ∈ l.flatten
  | 0, l, h => by unfold addAt at h; rw [addTok_flat] at h; simpa using h
  | _ + 1, [], h => by simp [addAt] at h
  | j + 1, a :: r, h => by
    simp only [addAt, List.flatten_cons, List.mem_append] at h ⊢
    rcases h with h | h
    · exact .inr (.inl h)
    · rcases addAt_mem h with h | h
      · exact .inl h
      · exact .inr (.inr h)
theorem addAt_nodup {t : Nat} : ∀ {j : Nat} {l : List (List Nat)}, t ∉ l.flatten → l.flatten.Nodup → (addAt t j l).flatten.Nodup
  | 0, l, h, hn => by unfold addAt; rw [addTok_flat]; exact List.nodup_cons.2 ⟨h, hn⟩
  | _ + 1, [], _, _ => by simp [addAt]
  | j + 1, a :: r, h, hn => by
    simp only [addAt, List.flatten_cons, List.nodup_append, List.mem_append, not_or] at h hn ⊢
    refine ⟨hn.1, addAt_nodup h.2 hn.2.1, fun x hx y hy e => ?_⟩
    rcases addAt_mem hy with h' | h'
    · exact h.1 (h' ▸ e ▸ hx)
    · exact hn.2.2 x hx y h' e
theorem sink1_ok {j t : Nat} {l : List (List Nat)} (hn : l.flatten.Nodup) : (∀ u ∈ (sink1 j t l).flatten, u ∈ l.flatten) ∧ (sink1 j t l).flatten.Nodup := by
  cases l with
  | nil => exact ⟨fun u h => h, hn⟩
  | cons a r =>
    simp only [sink1]
    split
    · rename_i hc
      have hc : t ∈ a := by simpa using hc
      simp only [List.flatten_cons, List.nodup_append, List.mem_append] at hn ⊢
      refine ⟨fun u hu => ?_, hn.1.erase t, addAt_nodup (fun h => hn.2.2 t hc t h rfl) hn.2.1, fun x hx y hy e => ?_⟩
      · rcases hu with hu | hu
        · exact .inl (List.mem_of_mem_erase hu)
        · rcases addAt_mem hu with h | h
          · exact .inl (h ▸ hc)
          · exact .inr h
      · have hx := (hn.1.mem_erase_iff).1 hx
        rcases addAt_mem hy with h | h
        · exact hx.1 (e.trans h)
        · exact hn.2.2 x hx.2 y h e
    · exact ⟨fun u h => h, hn⟩
theorem sink_ok {j : Nat} : ∀ {ts : List Nat} {l : List (List Nat)}, l.flatten.Nodup → (∀ u ∈ (sink j ts l).flatten, u ∈ l.flatten) ∧ (sink j ts l).flatten.Nodup
  | [], _, hn => ⟨fun _ h => h, hn⟩
  | t :: ts, l, hn => by
    have h1 := sink1_ok (j := j) (t := t) hn
    have h2 := sink_ok (j := j) (ts := ts) h1.2
    exact ⟨fun u h => h1.1 u (h2.1 u h), h2.2⟩

theorem putS_eq (m : Mem) (l k st : Nat) (cs : List AV) (ts : List Nat) : m.putS l k st cs ts = { m.put l k st cs with live := if l == m.stk.length then m.live else sink (m.stk.length - l) ts m.live } := by
  unfold Mem.putS Mem.put
  split <;> rfl

structure Inv (g : G) (w : World) (m : Mem) : Prop where
  blk : ∀ bl ∈ m.all, g.rs bl.st = false → BlkOk g w bl
  nd : (m.all.map (·.st)).Nodup
  stlt : ∀ st x, g.bt st = some x → st < m.nx
  tklt : ∀ t x, g.tk t = some x → t < m.nx
  live : ∀ t ∈ m.live.flatten, ∃ b p e, g.tk t = some (b, p, e) ∧ Held g w (true, t) b p e
  ownb : ∀ b o x, g.own b o = some x → g.base ≤ b ∧ b < w.heap.size
  hbase : g.base ≤ w.heap.size
  lnd : m.live.flatten.Nodup
  rsv : ∀ st, g.rs st = true → g.bt st = none ∧ st < m.nx
  mpk : ∀ st b, g.mp st = some b → g.bt st = none ∧ st < m.nx ∧ g.rs st = false

theorem Inv.rs_of {g : G} {w : World} {m : Mem} (I : Inv g w m) {st : Nat} {x : Nat × Nat × Nat} (h : g.bt st = some x) : g.rs st = false := by
  cases hr : g.rs st with
  | false => rfl
  | true => rw [(I.rsv st hr).1] at h; cases h

/-- A block that has a place is one of cells. -/
theorem Inv.cells {g : G} {w : World} {m : Mem} (I : Inv g w m) {bl : Blk} (h : bl ∈ m.all) {x : Nat × Nat × Nat} (hb : g.bt bl.st = some x) : CellBlk g w bl := by
  rcases I.blk bl h (I.rs_of hb) with h | ⟨b, ps, es, clock, h1, _⟩
  · exact h
  · rw [(I.mpk _ _ h1).1] at hb; cases hb

theorem Inv.map {g : G} {w : World} {m : Mem} (I : Inv g w m) {bl : Blk} (h : bl ∈ m.all) {b : Nat} (hb : g.mp bl.st = some b) : MapBlk g w bl := by
  rcases I.blk bl h (I.mpk _ _ hb).2.2 with ⟨b', o, e, h1, _⟩ | h
  · rw [(I.mpk _ _ hb).1] at h1; cases h1
  · exact h

end Go.Vs
