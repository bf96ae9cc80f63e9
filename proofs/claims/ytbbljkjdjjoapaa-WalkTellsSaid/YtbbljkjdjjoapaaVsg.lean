/-
  Vsg: the operations that only reckon.
-/
import Derived.Test.YtbbljkjdjjoapaaVsf
import Derived.Laws.Strings
namespace Go.Vs
open Go.RowKit

section
variable {P : Program} {g : G} {w : World} {ρ : List AV} {a : Act} {m m' : Mem} {o : Oper} {r : AV}

theorem sameKind_eq {k k' : IntKind} (h : sameKind k k' = true) : k = k' := by cases k <;> cases k' <;> first | rfl | (simp [sameKind] at h)

theorem i64_max : IntKind.max .i64 = 9223372036854775807 := rfl

theorem bits_sound {op : BinOp} {k : IntKind} {x y : Int} {z : AV} (h : evBits op k x y = some z) (g : G) (w : World) : ∃ v, (Op.intBits op k x y).run P w = .ok v w ∧ Rep g w z v := by
  cases op <;> simp only [evBits] at h <;> first | (cases h; done) | (injection h with h; subst h; exact ⟨_, rfl, .int _ _⟩)

theorem int_sound {op : BinOp} {k : IntKind} {x y : Int} {z : AV} (t : TypeId) (h : (match op with | .shl => evShift .shl k x y | .shr => evShift .shr k x y | _ => evInt op k x y) = some z) (g : G) (w : World) :
    ∃ v, (binOp op t (.int k x) (.int k y)).run P w = .ok v w ∧ Rep g w z v := by
  cases op <;> simp only [evInt, evShift] at h
  case add => injection h with h; subst h; exact ⟨_, by simp [binOp, Op.intArith], .int _ _⟩
  case sub => injection h with h; subst h; exact ⟨_, by simp [binOp, Op.intArith], .int _ _⟩
  case mul => injection h with h; subst h; exact ⟨_, by simp [binOp, Op.intArith], .int _ _⟩
  case quo =>
    split at h
    · cases h
    · rename_i h0; injection h with h; subst h; exact ⟨_, by simp [binOp, Op.intDiv, h0], .int _ _⟩
  case rem =>
    split at h
    · cases h
    · rename_i h0; injection h with h; subst h; exact ⟨_, by simp [binOp, Op.intDiv, h0], .int _ _⟩
  case and => obtain ⟨v, h1, h2⟩ := bits_sound (P := P) h g w; exact ⟨v, by simp [binOp, h1], h2⟩
  case or => obtain ⟨v, h1, h2⟩ := bits_sound (P := P) h g w; exact ⟨v, by simp [binOp, h1], h2⟩
  case xor => obtain ⟨v, h1, h2⟩ := bits_sound (P := P) h g w; exact ⟨v, by simp [binOp, h1], h2⟩
  case andNot => obtain ⟨v, h1, h2⟩ := bits_sound (P := P) h g w; exact ⟨v, by simp [binOp, h1], h2⟩
  case shl =>
    split at h
    · cases h
    · rename_i h0; injection h with h; subst h; exact ⟨_, by simp only [binOp, Op.shift]; rw [if_neg h0]; rfl, .int _ _⟩
  case shr =>
    split at h
    · cases h
    · rename_i h0; injection h with h; subst h; exact ⟨_, by simp only [binOp, Op.shift]; rw [if_neg h0]; rfl, .int _ _⟩
  case eql => injection h with h; subst h; exact ⟨_, by simp [binOp, Op.intCmp], .bool _⟩
  case neq => injection h with h; subst h; exact ⟨_, by simp [binOp, Op.intCmp], .bool _⟩
  case lss => injection h with h; subst h; exact ⟨_, by simp [binOp, Op.intCmp], .bool _⟩
  case leq => injection h with h; subst h; exact ⟨_, by simp [binOp, Op.intCmp], .bool _⟩
  case gtr => injection h with h; subst h; exact ⟨_, by simp [binOp, Op.intCmp], .bool _⟩
  case geq => injection h with h; subst h; exact ⟨_, by simp [binOp, Op.intCmp], .bool _⟩

/-- Shifts by a count of another kind. -/
theorem shift_sound {op : BinOp} {k k' : IntKind} {x y : Int} {z : AV} (t : TypeId) (ho : op = .shl ∨ op = .shr) (h : evShift op k x y = some z) (g : G) (w : World) :
    ∃ v, (binOp op t (.int k x) (.int k' y)).run P w = .ok v w ∧ Rep g w z v := by
  rcases ho with rfl | rfl <;> simp only [evShift] at h <;> split at h
  · cases h
  · rename_i h0; injection h with h; subst h; exact ⟨_, by simp only [binOp, Op.shift]; rw [if_neg h0]; rfl, .int _ _⟩
  · cases h
  · rename_i h0; injection h with h; subst h; exact ⟨_, by simp only [binOp, Op.shift]; rw [if_neg h0]; rfl, .int _ _⟩

theorem str_sound {op : BinOp} {x y : ByteArray} {z : AV} (t : TypeId) (h : evStr op x.data.toList y.data.toList = some z) (g : G) (w : World) :
    ∃ v, (binOp op t (.string x) (.string y)).run P w = .ok v w ∧ Rep g w z v := by
  have sz : ∀ s : ByteArray, s.data.toList.length = s.size := fun s => by simp
  cases op <;> simp only [evStr] at h <;> first | (cases h; done) | skip
  case add =>
    split at h
    · cases h
    · rename_i h0
      injection h with h; subst h
      refine ⟨.string (x ++ y), ?_, .str _ _ (by simp)⟩
      have h1 : ¬ ((((x.size + y.size : Nat) : Int)) > IntKind.max .i64) := by
        rw [i64_max, ← sz x, ← sz y]
        exact h0
      simp only [binOp, Op.stringOp]
      rw [if_neg h1]; rfl
  all_goals
    injection h with h; subst h
    refine ⟨_, rfl, ?_⟩
    simp only [ByteArray.toList_eq]
    exact .bool _

theorem eqGuard_ok (op : BinOp) (t : TypeId) (x y : Operand) (u v : Value) (h : (∃ k n, u = .int k n) ∨ (∃ s, u = .string s) ∨ (∃ b, u = .bool b)) (w : World) : (eqGuard op t x y u v).run P w = .ok () w := by
  rcases h with ⟨k, n, rfl⟩ | ⟨s, rfl⟩ | ⟨b, rfl⟩ <;> (unfold eqGuard; cases op <;> simp)

theorem bin_sound (hR : Reps g w ρ a.tmps.toList) (I : Inv g w m) {op : BinOp} {xt yt : TypeId} {x y : Operand} {x' y' : Opd} (hop : o.op = .binOp op xt x y yt) (hx : compOpd x = some x') (hy : compOpd y = some y')
    (he : evBin op (x'.ev ρ) (y'.ev ρ) = some r) : Yields P a o g w r m := by
  have h1 := opd_sound hR hx
  have h2 := opd_sound hR hy
  have fin : ∀ v, ((∃ k n, a.eval x = .int k n) ∨ (∃ s, a.eval x = .string s) ∨ (∃ b, a.eval x = .bool b)) → (binOp op xt (a.eval x) (a.eval y)).run P w = .ok v w → Rep g w r v → Yields P a o g w r m := by
    intro v hk hv hrep
    refine .pure I ?_ hrep
    simp [execOp, hop, eqGuard_ok op xt x y (a.eval x) (a.eval y) hk w, hv]
  unfold evBin at he
  split at he
  · rename_i k n k' n' e1 e2
    rw [e1] at h1; rw [e2] at h2
    have i1 := h1.inv_int
    have i2 := h2.inv_int
    have hk : (∃ k n, a.eval x = .int k n) ∨ (∃ s, a.eval x = .string s) ∨ (∃ b, a.eval x = .bool b) := .inl ⟨k, n, i1⟩
    by_cases hs : op = .shl ∨ op = .shr
    · have he' : evShift op k n n' = some r := by rcases hs with rfl | rfl <;> exact he
      obtain ⟨v, hv, hrep⟩ := shift_sound (P := P) (k' := k') xt hs he' g w
      exact fin v hk (by rw [i1, i2]; exact hv) hrep
    · have he' : sameKind k k' = true ∧ evInt op k n n' = some r := by
        have key : (if sameKind k k' = true then evInt op k n n' else none) = some r := by
          cases op <;> first | exact absurd (.inl rfl) hs | exact absurd (.inr rfl) hs | exact he
        split at key
        · exact ⟨by assumption, key⟩
        · cases key
      obtain ⟨hkk, he'⟩ := he'
      have := sameKind_eq hkk
      subst this
      obtain ⟨v, hv, hrep⟩ := int_sound (P := P) (op := op) xt (by cases op <;> first | exact absurd (.inl rfl) hs | exact absurd (.inr rfl) hs | exact he') g w
      exact fin v hk (by rw [i1, i2]; exact hv) hrep
  · rename_i s1 s2 e1 e2
    rw [e1] at h1; rw [e2] at h2
    obtain ⟨b1, i1, rfl⟩ := h1.inv_str
    obtain ⟨b2, i2, rfl⟩ := h2.inv_str
    obtain ⟨v, hv, hrep⟩ := str_sound (P := P) xt he g w
    exact fin v (.inr (.inl ⟨b1, i1⟩)) (by rw [i1, i2]; exact hv) hrep
  · cases he

theorem isBool_of {t : TypeId} (h : isBoolT P t = true) : P.underlying t = some .bool := by
  unfold isBoolT at h
  split at h
  · assumption
  · cases h

theorem beq_sound (hR : Reps g w ρ a.tmps.toList) (I : Inv g w m) {op : BinOp} {xt yt : TypeId} {x y : Operand} {x' y' : Opd} (hop : o.op = .binOp op xt x y yt) (hx : compOpd x = some x') (hy : compOpd y = some y')
    (ht : isBoolT P xt = true) {u v : Bool} (e1 : x'.ev ρ = .bool u) (e2 : y'.ev ρ = .bool v) (neg : Bool) (hn : op = (if neg then .neq else .eql)) : Yields P a o g w (.bool (if neg then !(u == v) else (u == v))) m := by
  have h1 := opd_sound hR hx
  have h2 := opd_sound hR hy
  rw [e1] at h1; rw [e2] at h2
  have i1 := h1.inv_bool
  have i2 := h2.inv_bool
  have hu := isBool_of ht
  have heq : (Op.equal xt (.bool u) (.bool v)).run P w = .ok (u == v) w := by
    rw [Op.equal, show Op.maxDepth = 9999 + 1 from rfl, Op.equalIn]
    simp [run_underlying hu]
  refine .pure I (v := .bool (if neg then !(u == v) else (u == v))) ?_ (.bool _)
  cases neg <;> simp at hn <;> subst hn <;> simp [execOp, hop, i1, i2, eqGuard_ok _ xt x y (.bool u) (.bool v) (.inr (.inr ⟨u, rfl⟩)) w, binOp, heq]

theorem un_sound (hR : Reps g w ρ a.tmps.toList) (I : Inv g w m) {op : UnOp} {xt : TypeId} {x : Operand} {x' : Opd} (hop : o.op = .unOp op xt x) (hx : compOpd x = some x') (he : evUn op (x'.ev ρ) = some r) : Yields P a o g w r m := by
  have h1 := opd_sound hR hx
  unfold evUn at he
  split at he
  · rename_i k n e1
    rw [e1] at h1
    simp at he; subst he
    refine .pure I (v := .int k (k.wrap (0 - n))) ?_ (by simpa using Rep.int k (k.wrap (0 - n)))
    simp [execOp, hop, h1.inv_int, Op.unary, Op.intArith]
  · rename_i k n e1
    rw [e1] at h1
    obtain ⟨v, hv, hrep⟩ := bits_sound (P := P) he g w
    exact .pure I (by simp [execOp, hop, h1.inv_int, Op.unary, hv]) hrep
  · rename_i b e1
    rw [e1] at h1
    simp at he; subst he
    exact .pure I (v := .bool !b) (by simp [execOp, hop, h1.inv_bool, Op.unary]) (.bool _)
  · cases he

theorem mov_sound (hR : Reps g w ρ a.tmps.toList) (I : Inv g w m) {x : Operand} {x' : Opd} (hop : o.op = .move x ∨ o.op = .assign x) (hx : compOpd x = some x') : Yields P a o g w (x'.ev ρ) m :=
  .pure I (by rcases hop with hop | hop <;> simp [execOp, hop]) (opd_sound hR hx)

theorem pick_sound (hR : Reps g w ρ a.tmps.toList) (I : Inv g w m) {c x y : Operand} {c' x' y' : Opd} (hop : o.op = .pick c x y) (hc : compOpd c = some c') (hx : compOpd x = some x') (hy : compOpd y = some y') {t : Bool} (ht : c'.ev ρ = .bool t) :
    Yields P a o g w (if t then x'.ev ρ else y'.ev ρ) m := by
  have h1 := opd_sound hR hc
  rw [ht] at h1
  refine .pure I (v := if t then a.eval x else a.eval y) (by simp [execOp, hop, h1.inv_bool, asBool]) ?_
  cases t
  · exact opd_sound hR hy
  · exact opd_sound hR hx

theorem isU8_of {t : TypeId} (h : isU8 P t = true) : P.underlying t = some (.int .u8) := by
  unfold isU8 at h
  split at h
  · assumption
  · cases h

theorem conv_sound (hR : Reps g w ρ a.tmps.toList) (I : Inv g w m) {s d : TypeId} {x : Operand} {x' : Opd} {j k k' : IntKind} {n : Int} (hop : o.op = .convert s d x) (hx : compOpd x = some x') (hs : P.underlying s = some (.int j)) (hd : P.underlying d = some (.int k))
    (he : x'.ev ρ = .int k' n) : Yields P a o g w (.int k (k.wrap n)) m := by
  have h1 := opd_sound hR hx
  rw [he] at h1
  refine .pure I (v := .int k (k.wrap n)) ?_ (.int _ _)
  simp [execOp, hop, h1.inv_int, convert, run_underlying hs, run_underlying hd, Conv.intToInt]

theorem convStr_sound (hR : Reps g w ρ a.tmps.toList) (I : Inv g w m) {s d : TypeId} {x : Operand} {x' : Opd} {l : List UInt8} (hop : o.op = .convert s d x) (hx : compOpd x = some x') (hs : P.underlying s = some .string) (hd : P.underlying d = some .string)
    (he : x'.ev ρ = .str l) : Yields P a o g w (.str l) m := by
  have h1 := opd_sound hR hx
  rw [he] at h1
  obtain ⟨b, i1, i2⟩ := h1.inv_str
  refine .pure I (v := .string b) ?_ (.str _ _ i2)
  simp [execOp, hop, i1, convert, run_underlying hs, run_underlying hd]

theorem mkfn_sound (hR : Reps g w ρ a.tmps.toList) (I : Inv g w m) {f : Fn} {x y : Array Operand} {x' y' : List Opd} (hop : o.op = .makeFunc f x y) (hx : compOpds x.toList = some x') (hy : compOpds y.toList = some y') :
    Yields P a o g w (.fn f (x'.map fun p => p.ev ρ) (y'.map fun p => p.ev ρ)) m := by
  have h1 := opds_sound hR hx
  have h2 := opds_sound hR hy
  refine .pure I (v := .func f (x.map a.eval) (y.map a.eval)) (by simp [execOp, hop, Instr.makeFunc]) (.fn _ _ _ _ _ (by simpa using h1.1) (by simpa using h2.1) (fun j c v k1 k2 => h1.2 j c v k1 (by simpa using k2)) (fun j c v k1 k2 => h2.2 j c v k1 (by simpa using k2)))

theorem extract_sound (hR : Reps g w ρ a.tmps.toList) (I : Inv g w m) {x : Operand} {x' : Opd} {i : Nat} {vs : List AV} (hop : o.op = .extract x i) (hx : compOpd x = some x') (he : x'.ev ρ = .tup vs) (hi : vs[i]? = some r) : Yields P a o g w r m := by
  have h1 := opd_sound hR hx
  rw [he] at h1
  obtain ⟨us, i1, i2⟩ := Reps.of_tup h1
  obtain ⟨u, h3, h4⟩ := i2.get hi
  refine .pure I (v := u) ?_ h4
  simp [execOp, hop, i1, Instr.extract, h3]

theorem mx_sound (hR : Reps g w ρ a.tmps.toList) (I : Inv g w m) {c : Call} {x y : Operand} {x' y' : Opd} (hop : o.op = .call c) (hc : c.callee = .builtin .max) (ha : c.args.toList = [x, y]) (hx : compOpd x = some x') (hy : compOpd y = some y') (he : evMax (x'.ev ρ) (y'.ev ρ) = some r) : Yields P a o g w r m := by
  have h1 := opd_sound hR hx
  have h2 := opd_sound hR hy
  unfold evMax at he
  split at he
  · rename_i k n k' n' e1 e2
    rw [e1] at h1; rw [e2] at h2
    simp at he; subst he
    have hargs : c.args = #[x, y] := by apply Array.ext'; simpa using ha
    refine .pure I (v := .int k (if n' > n then n' else n)) ?_ (.int _ _)
    simp [execOp, hop, resolve, hc, hargs, invoke, builtin, Builtin.max_, h1.inv_int, h2.inv_int, Builtin.max2]
  · cases he

theorem mn_sound (hR : Reps g w ρ a.tmps.toList) (I : Inv g w m) {c : Call} {x y : Operand} {x' y' : Opd} (hop : o.op = .call c) (hc : c.callee = .builtin .min) (ha : c.args.toList = [x, y]) (hx : compOpd x = some x') (hy : compOpd y = some y') (he : evMin (x'.ev ρ) (y'.ev ρ) = some r) : Yields P a o g w r m := by
  have h1 := opd_sound hR hx
  have h2 := opd_sound hR hy
  unfold evMin at he
  split at he
  · rename_i k n k' n' e1 e2
    rw [e1] at h1; rw [e2] at h2
    simp at he; subst he
    have hargs : c.args = #[x, y] := by apply Array.ext'; simpa using ha
    refine .pure I (v := .int k (if n' < n then n' else n)) ?_ (.int _ _)
    simp [execOp, hop, resolve, hc, hargs, invoke, builtin, Builtin.min_, h1.inv_int, h2.inv_int, Builtin.min2]
  · cases he

end
end Go.Vs
