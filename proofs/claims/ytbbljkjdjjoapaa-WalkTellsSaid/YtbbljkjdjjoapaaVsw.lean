/-
  Vsw: from a law's arguments, as a row reads them, to abstract values; from the evaluator's answer to the row.
-/
import Derived.Test.YtbbljkjdjjoapaaVsv
import Derived.ProofKit
namespace Go.Vs
open Go.RowKit Go.ChangeShapes Go.WideShapes

section
variable {H : Type} {enc : TypeId × Value → H} {P : Program} {g : G} {W : World}

theorem okWide_agg {t : TypeId} {r : Reach} {base : Nat} {v : Value} (ha : aggT P t = some true) (h : Value.okWide P W r base t v) : ∃ cs, v = .agg cs := by
  unfold aggT at ha
  unfold Value.okWide at h
  split at ha
  · rename_i fs hu; rw [hu] at h; obtain ⟨cs, h, _⟩ := h; exact ⟨cs, h⟩
  · rename_i n e hu; rw [hu] at h; obtain ⟨cs, h, _⟩ := h; exact ⟨cs, h⟩
  · cases ha
  · cases ha

theorem okWide_single {S : List TypeId} {t : TypeId} {r : Reach} {base : Nat} {v : Value} (hp : plainIn P S t = true) (ha : aggT P t ≠ some true) (h : Value.okWide P W r base t v) : v.cells = #[v] := by
  unfold plainIn at hp
  unfold aggT at ha
  split at hp
  · rename_i hu; obtain ⟨b, rfl⟩ := okWide_bool hu h; rfl
  · rename_i hu; obtain ⟨b, rfl⟩ := okWide_int hu h; rfl
  · rename_i hu; obtain ⟨b, rfl⟩ := okWide_string hu h; rfl
  · rename_i hu; obtain ⟨a, b, c, rfl⟩ := okWide_slice hu h; rfl
  · rename_i hu; rw [hu] at ha; exact absurd rfl ha
  · rename_i hu; rw [hu] at ha; exact absurd rfl ha
  · cases hp

/-- An argument of type t. -/
def ArgT (P : Program) (t : TypeId) (y : AV) : Prop := IsElem P t y ∧ ∃ n, Typed P n t y.cells

def ArgsT (P : Program) : List TypeId → List AV → Prop
  | [], ys => ys = []
  | t :: ts, ys => ∃ y r, ys = y :: r ∧ ArgT P t y ∧ ArgsT P ts r

theorem arg_typed {S : List TypeId} (hS : plainAll P S = true) (hg : ∀ b o, g.own b o = none) {r : Reach} {b0 base : Nat} {spare : Nat → Bool} {held : Bool} {t : TypeId} {v : Value} {d : DataW H} {ps : List MemPlace} (ht : t ∈ S)
    (hok : Value.okWide P W r b0 t v) (h : DataW.Trod enc P W base spare held t v d ps) : ∃ y, ArgT P t y ∧ Rep g W y v := by
  obtain ⟨n, hn⟩ := h
  obtain ⟨xs, h1, h2, _⟩ := trod_typed hS hg n t _ _ ht hn
  by_cases ha : aggT P t = some true
  · obtain ⟨cs, rfl⟩ := okWide_agg ha hok
    refine ⟨.agg xs, ⟨by unfold IsElem; rw [if_pos ha]; exact ⟨xs, rfl⟩, n, h1⟩, ?_⟩
    have := h2.agg
    simpa [Value.cells] using this
  · obtain ⟨y, rfl, hy⟩ := typed_one h1 ha
    rw [okWide_single (List.all_eq_true.1 hS t ht) ha hok] at h2
    refine ⟨y, ⟨by unfold IsElem; rw [if_neg ha]; exact hy, n, by rw [hy]; exact h1⟩, ?_⟩
    exact h2.2 0 _ _ rfl rfl

theorem args_typed {S : List TypeId} (hS : plainAll P S = true) (hg : ∀ b o, g.own b o = none) {r : Reach} {b0 base : Nat} {spare : Nat → Bool} {held : Bool} :
    ∀ (ts : List TypeId) (vs : List Value) (ds : List (DataW H)) (ps : List MemPlace), (∀ t ∈ ts, t ∈ S) → (∀ (j : Nat) t v, ts[j]? = some t → vs[j]? = some v → Value.okWide P W r b0 t v) → DataW.TrodAll enc P W base spare held ts vs ds ps →
      (∃ ys, ArgsT P ts ys ∧ Reps g W ys vs) ∧ ds.length = ts.length
  | [], vs, ds, ps, _, _, h => by
    obtain ⟨rfl, rfl, _⟩ := trodAll_nil h
    exact ⟨⟨[], rfl, Reps.nil g W⟩, rfl⟩
  | t :: ts, vs, ds, ps, hin, hok, h => by
    match vs, ds, h with
    | v :: vs, d :: ds, h =>
      obtain ⟨p, q, h1, h2, _⟩ := h
      obtain ⟨y, k1, k2⟩ := arg_typed hS hg (hin t List.mem_cons_self) (hok 0 t v rfl rfl) h1
      obtain ⟨⟨ys, k3, k4⟩, k5⟩ := args_typed hS hg ts vs ds q (fun u hu => hin u (List.mem_cons_of_mem _ hu)) (fun j u x hj hx => hok (j + 1) u x hj hx) h2
      exact ⟨⟨y :: ys, ⟨y, ys, rfl, k1, k3⟩, Reps.cons k2 k4⟩, by simp [k5]⟩

/-- No ghost. -/
def G.zero (b : Nat) : G := ⟨fun _ => none, fun _ => none, fun _ _ => none, b, fun _ => false, fun _ => none⟩
def Mem.zero : Mem := ⟨[], [], 0, [], 0⟩

theorem inv_zero (W : World) : Inv (G.zero W.heap.size) W Mem.zero where
  blk := fun bl h _ => by simp [Mem.all, Mem.zero] at h
  nd := by simp [Mem.all, Mem.zero]
  stlt := fun st x h => by cases h
  tklt := fun t x h => by cases h
  live := fun t h => by simp [Mem.zero] at h
  ownb := fun b o x h => by cases h
  hbase := Nat.le_refl _
  lnd := List.nodup_nil
  rsv := fun st h => by cases h
  mpk := fun st b h => by cases h

theorem trodAll_old (hl : laidOutB P = true) {W' : World} (hb : Below W.heap.size W W') : ∀ (ts : List TypeId) (vs : List Value) (ds : List (DataW H)) (ps : List MemPlace), (∀ t ∈ ts, P.readableRec t = true ∧ t < P.types.size) → (∀ x ∈ ps, x.block < W.heap.size) →
    DataW.TrodAll enc P W 0 (fun _ => true) true ts vs ds ps → DataW.TrodAll enc P W' 0 (fun b => decide (b < W.heap.size)) true ts vs ds ps
  | [], vs, ds, ps, _, _, h => by
    obtain ⟨rfl, rfl, rfl⟩ := trodAll_nil h
    rfl
  | t :: ts, vs, ds, ps, hin, hlt, h => by
    match vs, ds, h with
    | v :: vs, d :: ds, h =>
      obtain ⟨p, q, h1, h2, rfl⟩ := h
      have ht := hin t List.mem_cons_self
      exact ⟨p, q, Below.trod hl ht.1 ht.2 h1 hb (fun x hx => hlt x (List.mem_append_left _ hx)), trodAll_old hl hb ts vs ds q (fun u hu => hin u (List.mem_cons_of_mem _ hu)) (fun x hx => hlt x (List.mem_append_right _ hx)) h2, rfl⟩

/-- THE ROW'S POST, for a law that answers true and leaves its arguments as they were. -/
theorem law_post {tab : Nat → Option AFunc} (hM : P.follows .mixedOrders = true) (hT : TabOk P tab) {S : List TypeId} (hS : plainAll P S = true) (hl : laidOutB P = true) {f : FuncId} {fn : Func} {s : ChangeSpec} {tb : TypeId} (hvars : s.vars = [])
    (hparams : (fn.params.toList.all fun t => S.contains t && P.readableRec t && decide (t < P.types.size)) = true) (hres : fn.resultTypes = #[tb]) (htb : P.underlying tb = some .bool)
    (hspec : ∀ ds : List (DataW H), ds.length = fn.params.toList.length → s.fn H ds = { results := [.lit (.bool true)], args := ds })
    (K : ∀ ys, ArgsT P fn.params.toList ys → ∃ m', CALL tab f ys Mem.zero = some (.bool true, m'))
    {base : Nat} {args : Array Value} {ds gs : List (DataW H)} {before : List MemPlace} {fresh handsOn : Bool}
    (hval : ∀ (j : Nat) t v, fn.params[j]? = some t → args[j]? = some v → Value.okWide P W .any base t v)
    (hW : DataW.Whole enc P fn.params.toList s.vars false W args.toList ds gs before) :
    Calls P f args W fun e W' => ∃ v, e = .returned v ∧ s.post enc P fn false fresh handsOn false W args v W' := by
  have hW' := hW
  obtain ⟨p, q, hA, hV, rfl, _, _⟩ := hW
  rw [hvars] at hV
  obtain ⟨rfl, rfl⟩ := trodVars_none hV
  simp only [List.all_eq_true, Bool.and_eq_true, decide_eq_true_eq] at hparams
  obtain ⟨⟨ys, h1, h2⟩, h3⟩ := args_typed (g := G.zero W.heap.size) hS (fun _ _ => rfl) fn.params.toList args.toList ds p (fun t ht => by simpa using (hparams t ht).1.1) (fun j t v hj hv => hval j t v (by simpa using hj) (by simpa using hv)) hA
  obtain ⟨m', hc⟩ := K ys h1
  obtain ⟨_, hcall⟩ := CALL_ok hM hT f ys Mem.zero _ m' hc (Nat.zero_le _)
  refine (hcall (G.zero W.heap.size) W args.toList (inv_zero W) h2).mono fun e W' ⟨v, g', he, hx, _, hr⟩ => ?_
  subst he
  have hb : Below W.heap.size W W' := hx.below
  rw [hr.inv_bool]
  have hsp := hspec ds h3
  have hlt := hW'.lt
  refine ⟨_, rfl, ds, [], _, [], p, [], hW', ?_, ?_, ?_, hb.frame _, fun h => by cases h⟩
  · rw [List.append_nil, hsp, hres]
    exact trodAll_mk1 (shut_bool htb true)
  · rw [List.append_nil, hsp]
    exact trodAll_old hl hb _ _ _ _ (fun t ht => ⟨(hparams t ht).1.2, (hparams t ht).2⟩) (fun x hx => hlt x (List.mem_append_left _ hx)) hA
  · rw [List.append_nil, hsp, hvars]; rfl

end
end Go.Vs
