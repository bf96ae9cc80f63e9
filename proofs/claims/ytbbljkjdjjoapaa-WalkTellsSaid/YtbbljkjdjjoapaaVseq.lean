/-
  Vseq: structs and arrays held against each other: cell by cell.
-/
import Derived.Test.YtbbljkjdjjoapaaVsg
import Derived.Laws.StructEq
namespace Go.Vs
open Go.RowKit

theorem eqAt_append (l k : List (Nat × Nat)) (xs ys : List AV) : eqAt (l ++ k) xs ys = match eqAt l xs ys with | some true => eqAt k xs ys | r => r := by
  induction l with
  | nil => simp [eqAt]
  | cons o r ih =>
    simp only [List.cons_append, eqAt]
    cases eqCell o.2 (xs.getD o.1 .undef) (ys.getD o.1 .undef) with
    | none => rfl
    | some b => cases b with
      | false => rfl
      | true => exact ih

theorem eqAt_window (l : List (Nat × Nat)) (off n : Nat) (xs ys : List AV) (h : ∀ o ∈ l, o.1 < n) : eqAt (shiftL off l) xs ys = eqAt l ((xs.drop off).take n) ((ys.drop off).take n) := by
  induction l with
  | nil => simp [eqAt, shiftL]
  | cons o r ih =>
    have ho : o.1 < n := h o List.mem_cons_self
    have e : ∀ zs : List AV, zs.getD (o.1 + off) .undef = ((zs.drop off).take n).getD o.1 .undef := fun zs => by
      simp only [List.getD_eq_getElem?_getD, List.getElem?_take, ho, if_true, List.getElem?_drop, Nat.add_comm]
    have ih := ih (fun q hq => h q (List.mem_cons_of_mem _ hq))
    simp only [shiftL] at ih
    simp only [shiftL, List.map_cons, eqAt, e, ih]

section
variable {P : Program} {g : G} {w : World}

/-- A value of type t, told by its cells. -/
def RepT (P : Program) (g : G) (w : World) (t : TypeId) (xs : List AV) (u : Value) : Prop :=
  match aggT P t with
  | some true => ∃ us : List Value, u = .agg us.toArray ∧ Reps g w xs us ∧ sizeOfT P t = some xs.length
  | _ => Rep g w (xs.getD 0 .undef) u

theorem part_T {cs : List AV} {us : List Value} (h : Reps g w cs us) {t : TypeId} {b : Bool} {n off : Nat} (hb : aggT P t = some b) (hn : sizeOfT P t = some n) (hlen : off + n ≤ cs.length) (h0 : 0 < n) (h1 : b = true ∨ n = 1) :
    ∃ u, (part t us.toArray off).run P w = .ok u w ∧ RepT P g w t ((cs.drop off).take n) u := by
  have hl : n ≤ (cs.drop off).length := by simp; omega
  unfold RepT
  rw [hb]
  cases b with
  | true =>
    refine ⟨.agg (us.toArray.extract off (off + n)), by simp [part, isAgg_of hb w, size_of hn w], (us.drop off).take n, ?_, (h.drop off).take n, ?_⟩
    · congr 1
      apply Array.ext'
      simp [List.extract_eq_take_drop]
    · rw [hn, List.length_take, Nat.min_eq_left hl]
  | false =>
    have hn1 : n = 1 := by rcases h1 with h1 | h1; (cases h1); exact h1
    subst hn1
    have hx : (cs.drop off)[0]? = some ((cs.drop off)[0]'(by omega)) := List.getElem?_eq_getElem _
    obtain ⟨u, h3, h4⟩ := (h.drop off).get hx
    rw [List.getElem?_drop] at h3
    refine ⟨u, ?_, ?_⟩
    · simp only [part, Sem.run_bind, isAgg_of hb w, Result.andThen_ok, Bool.false_eq_true, if_false]
      simp at h3
      simp [h3]
    · have : ((cs.drop off).take 1).getD 0 .undef = (cs.drop off)[0]'(by omega) := by
        rw [List.getD_eq_getElem?_getD, List.getElem?_take, if_pos (by omega), hx]; rfl
      rw [this]; exact h4

theorem RepT.agg {t : TypeId} {xs : List AV} {u : Value} (h : RepT P g w t xs u) (ha : aggT P t = some true) : ∃ us : List Value, u = .agg us.toArray ∧ Reps g w xs us ∧ sizeOfT P t = some xs.length := by
  unfold RepT at h; rw [ha] at h; exact h

theorem RepT.leaf {t : TypeId} {xs : List AV} {u : Value} (h : RepT P g w t xs u) (ha : aggT P t = some false) : Rep g w (xs.getD 0 .undef) u := by
  unfold RepT at h; rw [ha] at h; exact h

theorem eq_sound (q : Nat) : ∀ (d : Nat) (t : TypeId) (l : List (Nat × Nat)), eqLeaves P d t = some l → ∀ (xs ys : List AV) (u v : Value) (b : Bool), RepT P g w t xs u → RepT P g w t ys v → eqAt l xs ys = some b → (Op.equalIn (d + q) t u v).run P w = .ok b w := by
  intro d
  induction d with
  | zero => intro t l h; simp [eqLeaves] at h
  | succ d ih =>
    intro t l h xs ys u v b hu hv he
    unfold eqLeaves at h
    rw [show d + 1 + q = (d + q) + 1 by omega]
    have one : ∀ {k : Nat} {c : AV} {c' : AV}, eqAt [(0, k)] xs ys = some b → eqCell k (xs.getD 0 .undef) (ys.getD 0 .undef) = some b := by
      intro k c c' h
      simp only [eqAt] at h
      split at h
      · rename_i h1; rw [h1]; exact h
      · rename_i h1; rw [h1]; exact h
      · cases h
    split at h
    · rename_i ht
      injection h with h; subst h
      have ha : aggT P t = some false := by unfold aggT; rw [ht]
      have he := one (c := .undef) (c' := .undef) he
      have h1 := hu.leaf ha
      have h2 := hv.leaf ha
      generalize xs.getD 0 .undef = c1 at h1 he
      generalize ys.getD 0 .undef = c2 at h2 he
      cases c1 <;> cases c2 <;> simp only [eqCell, reduceCtorEq, Option.some.injEq] at he
      subst he
      rw [h1.inv_bool, h2.inv_bool]
      simp [Op.equalIn, run_underlying ht]
    · rename_i kk ht
      injection h with h; subst h
      have ha : aggT P t = some false := by unfold aggT; rw [ht]
      have he := one (c := .undef) (c' := .undef) he
      have h1 := hu.leaf ha
      have h2 := hv.leaf ha
      generalize xs.getD 0 .undef = c1 at h1 he
      generalize ys.getD 0 .undef = c2 at h2 he
      cases c1 <;> cases c2 <;> simp only [eqCell, reduceCtorEq] at he
      rename_i k p k' q
      split at he
      · rename_i hk
        injection he with he; subst he
        have : k = k' := by cases k <;> cases k' <;> simp [sameKind] at hk <;> rfl
        subst this
        rw [h1.inv_int, h2.inv_int]
        simp [Op.equalIn, run_underlying ht]
      · cases he
    · rename_i ht
      injection h with h; subst h
      have ha : aggT P t = some false := by unfold aggT; rw [ht]
      have he := one (c := .undef) (c' := .undef) he
      have h1 := hu.leaf ha
      have h2 := hv.leaf ha
      generalize xs.getD 0 .undef = c1 at h1 he
      generalize ys.getD 0 .undef = c2 at h2 he
      cases c1 <;> cases c2 <;> simp only [eqCell, reduceCtorEq, Option.some.injEq] at he
      subst he
      cases h1 with
      | str _ p hp => cases h2 with
        | str _ q hq =>
          subst hp; subst hq
          have e : ∀ z : ByteArray, z.toList = z.data.toList := ByteArray.toList_eq
          rw [run_equalIn_string _ _ _ _ _ ht, e, e]
    · rename_i fs ht
      split at h
      · cases h
      · rename_i hst
        simp only [Option.bind_eq_some_iff] at h
        obtain ⟨N, hN, h⟩ := h
        have ha : aggT P t = some true := by unfold aggT; rw [ht]
        obtain ⟨us, rfl, hus, hsu⟩ := hu.agg ha
        obtain ⟨vs, rfl, hvs, hsv⟩ := hv.agg ha
        rw [hN] at hsu hsv
        injection hsu with hsu
        injection hsv with hsv
        have hf : P.fieldsOf t = fs := by simp [Program.fieldsOf, ht]
        rw [run_equalIn_struct w (d + q) t us.toArray vs.toArray (by rw [hf]; exact ht) (by simpa using hst), hf]
        generalize fs.toList = fl at h
        clear ht hf
        induction fl generalizing l with
        | nil =>
          simp only [eqFieldsP] at h
          injection h with h; subst h
          simp only [eqAt] at he
          injection he with he; subst he
          simp [Op.eqFields]
        | cons f r ihf =>
          simp only [eqFieldsP] at h
          split at h
          · rename_i hname
            split at h
            · rename_i lf n bb k e1 e2 e3 e4
              split at h
              · rename_i hc
                obtain ⟨c1, c2, c3, c4⟩ := hc
                injection h with h; subst h
                rw [eqAt_append, eqAt_window lf f.offset n xs ys c1] at he
                obtain ⟨u1, p1, p2⟩ := part_T (P := P) (off := f.offset) hus e3 e2 (by omega) c3 c4
                obtain ⟨v1, p3, p4⟩ := part_T (P := P) (off := f.offset) hvs e3 e2 (by omega) c3 c4
                simp only [Op.eqFields, if_pos hname, Sem.run_bind, p1, p3, Result.andThen_ok]
                split at he
                · rename_i h1
                  rw [ih f.type lf e1 _ _ _ _ _ p2 p4 h1]
                  simp only [Result.andThen_ok, Bool.not_true, Bool.false_eq_true, if_false]
                  exact ihf k he e4
                · rename_i h1
                  rw [ih f.type lf e1 _ _ _ _ _ p2 p4 he]
                  cases b with
                  | true => exact absurd he h1
                  | false => simp
              · cases h
            · cases h
          · rename_i hname
            simp only [Op.eqFields, if_neg hname]
            exact ihf l he h
    · cases h

variable {ρ : List AV} {a : Act} {m : Mem} {o : Oper} {r : AV}

theorem negOf_eq {op : BinOp} {neg : Bool} (h : negOf op = some neg) : op = (if neg then .neq else .eql) := by
  cases op <;> simp [negOf] at h <;> subst h <;> rfl

theorem eqA_sound (hR : Reps g w ρ a.tmps.toList) (I : Inv g w m) {op : BinOp} {neg : Bool} {xt yt : TypeId} {fs : Array Field} {x y : Operand} {x' y' : Opd} {ls : List (Nat × Nat)} {xs ys : List AV} {b : Bool} (hop : o.op = .binOp op xt x y yt) (hn : negOf op = some neg)
    (ht : P.underlying xt = some (.struct fs)) (hl : eqLeaves P 20 xt = some ls) (hx : compOpd x = some x') (hy : compOpd y = some y') (hg : P.eqGuardType P.depth xt = false) (e1 : x'.ev ρ = .agg xs) (e2 : y'.ev ρ = .agg ys)
    (hsx : sizeOfT P xt = some xs.length) (hsy : sizeOfT P xt = some ys.length) (he : eqAt ls xs ys = some b) : Yields P a o g w (.bool (if neg then !b else b)) m := by
  have h1 := opd_sound hR hx
  have h2 := opd_sound hR hy
  rw [e1] at h1; rw [e2] at h2
  obtain ⟨us, i1, k1⟩ := Reps.of_agg h1
  obtain ⟨vs, i2, k2⟩ := Reps.of_agg h2
  have ha : aggT P xt = some true := by unfold aggT; rw [ht]
  have heq : (Op.equal xt (.agg us.toArray) (.agg vs.toArray)).run P w = .ok b w := by
    rw [Op.equal, show Op.maxDepth = 20 + 9980 from rfl]
    refine eq_sound (g := g) 9980 20 xt ls hl xs ys _ _ b ?_ ?_ he
    · unfold RepT; rw [ha]; exact ⟨us, rfl, k1, hsx⟩
    · unfold RepT; rw [ha]; exact ⟨vs, rfl, k2, hsy⟩
  have hgd := run_eqGuard_agg (P := P) w op xt x y us.toArray vs.toArray hg
  refine .pure I (v := .bool (if neg then !b else b)) ?_ (.bool _)
  have := negOf_eq hn
  subst this
  cases neg <;> simp [execOp, hop, i1, i2, hgd, binOp, heq] <;> simp_all [execOp, binOp]

/-- What lies behind a nil test. -/
def NilV (kd : Nat) (v : Value) (b : Bool) : Prop :=
  (kd = 0 ∧ ∃ ad n c, v = .slice ad n c ∧ b = ad.isNone) ∨ (kd = 1 ∧ ∃ ad, v = .pointer ad ∧ b = ad.isNone) ∨ (kd = 2 ∧ ((v = .nilFunc ∧ b = true) ∨ (∃ f p q, v = .func f p q ∧ b = false)))

theorem nilOf_sound {x : AV} {v : Value} {b : Bool} {kd : Nat} (h : Rep g w x v) (he : nilOf kd x = some b) : NilV kd v b := by
  unfold nilOf at he
  split at he <;> simp only [Option.some.injEq, reduceCtorEq] at he <;> subst he <;> cases h
  · exact .inl ⟨rfl, _, _, _, rfl, rfl⟩
  · exact .inl ⟨rfl, _, _, _, rfl, rfl⟩
  · exact .inl ⟨rfl, _, _, _, rfl, rfl⟩
  · exact .inl ⟨rfl, _, _, _, rfl, rfl⟩
  · exact .inl ⟨rfl, _, _, _, rfl, rfl⟩
  · exact .inr (.inl ⟨rfl, _, rfl, rfl⟩)
  · exact .inr (.inl ⟨rfl, _, rfl, rfl⟩)
  · exact .inr (.inl ⟨rfl, _, rfl, rfl⟩)
  · exact .inr (.inr ⟨rfl, .inl ⟨rfl, rfl⟩⟩)
  · exact .inr (.inr ⟨rfl, .inr ⟨_, _, _, rfl, rfl⟩⟩)

theorem eqGuard_ok' (op : BinOp) (t : TypeId) (x y : Operand) (u v : Value) (h : (∃ a n c, u = .slice a n c) ∨ (∃ a, u = .pointer a) ∨ u = .nilFunc ∨ (∃ f p q, u = .func f p q)) (w : World) : (eqGuard op t x y u v).run P w = .ok () w := by
  rcases h with ⟨a, n, c, rfl⟩ | ⟨a, rfl⟩ | rfl | ⟨f, p, q, rfl⟩ <;> (unfold eqGuard; cases op <;> simp)

theorem isNil_sound (hR : Reps g w ρ a.tmps.toList) (I : Inv g w m) {op : BinOp} {neg : Bool} {xt yt : TypeId} {x y z : Operand} {z' : Opd} {kd : Nat} {b : Bool} (hop : o.op = .binOp op xt x y yt) (hn : negOf op = some neg)
    (hz : (z = x ∧ nilKind P xt y = some kd) ∨ (z = y ∧ nilKind P xt x = some kd)) (hx : compOpd z = some z') (he : nilOf kd (z'.ev ρ) = some b) : Yields P a o g w (.bool (if neg then !b else b)) m := by
  have h1 := nilOf_sound (opd_sound hR hx) he
  refine .pure I (v := .bool (if neg then !b else b)) ?_ (.bool _)
  have hgd : ((∃ a' n c, a.eval x = .slice a' n c) ∨ (∃ a', a.eval x = .pointer a') ∨ a.eval x = .nilFunc ∨ (∃ f p q, a.eval x = .func f p q)) ∧ (Op.equal xt (a.eval x) (a.eval y)).run P w = .ok b w := by
    rw [Op.equal, show Op.maxDepth = 9999 + 1 from rfl, Op.equalIn]
    rcases hz with ⟨rfl, hk⟩ | ⟨rfl, hk⟩
    · unfold nilKind at hk
      split at hk
      all_goals first | (cases hk; done) | skip
      all_goals (split at hk <;> first | (cases hk; done) | skip)
      all_goals (injection hk with hk; subst hk; rename_i ht)
      all_goals (rcases h1 with ⟨e, ad, n, c, hv, rfl⟩ | ⟨e, ad, hv, rfl⟩ | ⟨e, ⟨hv, rfl⟩ | ⟨f, p, q, hv, rfl⟩⟩ <;> first | (cases e; done) | skip)
      all_goals (rw [hv]; refine ⟨by simp, ?_⟩; simp [Act.eval, run_underlying ht])
      all_goals (cases ad <;> simp)
    · unfold nilKind at hk
      split at hk
      all_goals first | (cases hk; done) | skip
      all_goals (split at hk <;> first | (cases hk; done) | skip)
      all_goals (injection hk with hk; subst hk; rename_i ht)
      all_goals (rcases h1 with ⟨e, ad, n, c, hv, rfl⟩ | ⟨e, ad, hv, rfl⟩ | ⟨e, ⟨hv, rfl⟩ | ⟨f, p, q, hv, rfl⟩⟩ <;> first | (cases e; done) | skip)
      all_goals (rw [hv]; refine ⟨by simp [Act.eval], ?_⟩; simp [Act.eval, run_underlying ht])
  obtain ⟨hs, h3⟩ := hgd
  have hg := eqGuard_ok' (P := P) op xt x y (a.eval x) (a.eval y) hs w
  have := negOf_eq hn
  subst this
  have hb : (binOp (if neg then .neq else .eql) xt (a.eval x) (a.eval y)).run P w = .ok (.bool (if neg then !b else b)) w := by
    rcases hs with ⟨p, n, c, hs⟩ | ⟨p, hs⟩ | hs | ⟨f, p, q, hs⟩ <;> rw [hs] at h3 ⊢ <;> cases neg <;> simp [binOp, h3]
  simp [execOp, hop, hg, hb]

theorem nilChk_sound (hR : Reps g w ρ a.tmps.toList) (I : Inv g w m) {x : Operand} {x' : Opd} {v : AV} (hop : o.op = .nilCheck x) (hx : compOpd x = some x') (he : nilChkV (x'.ev ρ) = some v) : Yields P a o g w v m := by
  have h1 := opd_sound hR hx
  revert he h1
  generalize x'.ev ρ = y
  generalize hu : a.eval x = u
  intro he h1
  have hy : y = v := by
    unfold nilChkV at he
    split at he
    · cases he; rfl
    · cases he; rfl
    · cases he
  subst hy
  refine .pure I (v := u) ?_ h1
  cases h1 <;> first | (cases he; done) | simp [execOp, hop, hu]

end
end Go.Vs
