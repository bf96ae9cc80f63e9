/-
  Vd: data behind abstract values: slices told by their elements, whatever their spare places.
-/
import Derived.Test.YtbbljkjdjjoapaaVsx
import Derived.Test.YtbbljkjdjjoapaaVsw
namespace Go.Vs

def All2 {α : Type} (R : α → AV → Prop) : List α → List AV → Prop
  | [], [] => True
  | x :: xs, y :: ys => R x y ∧ All2 R xs ys
  | _, _ => False

section
variable {α : Type} {R : α → AV → Prop}

theorem All2.len : ∀ {xs : List α} {ys : List AV}, All2 R xs ys → ys.length = xs.length
  | [], [], _ => rfl
  | x :: xs, y :: ys, h => by simp [All2.len h.2]
  | [], _ :: _, h => h.elim
  | _ :: _, [], h => h.elim

theorem All2.get : ∀ {xs : List α} {ys : List AV}, All2 R xs ys → ∀ (i : Nat) (h : i < xs.length), ys[i]? = some (ys.getD i .undef) ∧ R xs[i] (ys.getD i .undef)
  | [], [], _, i, h => by simp at h
  | x :: xs, y :: ys, h, 0, _ => ⟨rfl, h.1⟩
  | x :: xs, y :: ys, h, i + 1, hi => by
    have := All2.get h.2 i (by simpa using hi)
    simpa using this
  | [], _ :: _, h, _, _ => h.elim
  | _ :: _, [], h, _, _ => h.elim

theorem All2.append : ∀ {xs xs' : List α} {ys ys' : List AV}, All2 R xs ys → All2 R xs' ys' → All2 R (xs ++ xs') (ys ++ ys')
  | [], _, [], _, _, k => k
  | x :: xs, _, y :: ys, _, h, k => ⟨h.1, All2.append h.2 k⟩
  | [], _, _ :: _, _, h, _ => h.elim
  | _ :: _, _, [], _, h, _ => h.elim

theorem All2.take : ∀ (n : Nat) {xs : List α} {ys : List AV}, All2 R xs ys → All2 R (xs.take n) (ys.take n)
  | 0, _, _, _ => by simp [All2]
  | n + 1, [], [], _ => by simp [All2]
  | n + 1, x :: xs, y :: ys, h => ⟨h.1, All2.take n h.2⟩
  | n + 1, [], _ :: _, h => h.elim
  | n + 1, _ :: _, [], h => h.elim

theorem All2.drop : ∀ (n : Nat) {xs : List α} {ys : List AV}, All2 R xs ys → All2 R (xs.drop n) (ys.drop n)
  | 0, _, _, h => h
  | n + 1, [], [], _ => by simp [All2]
  | n + 1, x :: xs, y :: ys, h => All2.drop n h.2
  | n + 1, [], _ :: _, h => h.elim
  | n + 1, _ :: _, [], h => h.elim

theorem All2.mono {S : α → AV → Prop} : ∀ {xs : List α} {ys : List AV}, (∀ x y, x ∈ xs → R x y → S x y) → All2 R xs ys → All2 S xs ys
  | [], [], _, _ => trivial
  | x :: xs, y :: ys, k, h => ⟨k x y List.mem_cons_self h.1, All2.mono (fun a b ha => k a b (List.mem_cons_of_mem _ ha)) h.2⟩
  | [], _ :: _, _, h => h.elim
  | _ :: _, [], _, h => h.elim

theorem All2.of_each : ∀ (ys : List AV), (∀ y ∈ ys, ∃ x, R x y) → ∃ xs : List α, All2 R xs ys
  | [], _ => ⟨[], trivial⟩
  | y :: ys, h => by
    obtain ⟨x, hx⟩ := h y List.mem_cons_self
    obtain ⟨xs, hxs⟩ := All2.of_each ys fun z hz => h z (List.mem_cons_of_mem _ hz)
    exact ⟨x :: xs, hx, hxs⟩

/-- A slice: its elements, of s cells each. -/
def IsSl (R : α → AV → Prop) (s : Nat) (xs : List α) (y : AV) : Prop :=
  xs.length ≤ 9223372036854775807 ∧ ((xs = [] ∧ y = .nils) ∨ ∃ tk ys, y = .list s tk ys ∧ All2 R xs ys)

/-- The i-th element. -/
def nth (y : AV) (i : Nat) : AV :=
  match y with
  | .list _ _ ys => ys.getD i .undef
  | _ => .undef

theorem IsSl.nil (s : Nat) : IsSl R s [] .nils := ⟨by simp, .inl ⟨rfl, rfl⟩⟩
theorem IsSl.mk {s : Nat} {tk : Tok} {xs : List α} {ys : List AV} (h : All2 R xs ys) (hl : xs.length ≤ 9223372036854775807) : IsSl R s xs (.list s tk ys) := ⟨hl, .inr ⟨tk, ys, rfl, h⟩⟩
theorem IsSl.max {s : Nat} {xs : List α} {y : AV} (h : IsSl R s xs y) : xs.length ≤ 9223372036854775807 := h.1

theorem IsSl.len {s : Nat} {xs : List α} {y : AV} (h : IsSl R s xs y) : evLen y = some (.int .i64 xs.length) := by
  rcases h with ⟨_, ⟨rfl, rfl⟩ | ⟨tk, ys, rfl, h⟩⟩
  · rfl
  · simp only [evLen, h.len]

theorem idx_int (k : IntKind) (i n : Nat) (h : i < n) : idx (.int k i) n = some i := by
  have h1 : (0 : Int) ≤ i ∧ (i : Int) < n := by omega
  simp only [idx, h1]
  simp

theorem IsSl.at {s : Nat} {xs : List α} {y : AV} (h : IsSl R s xs y) {i : Nat} (k : IntKind) (hi : i < xs.length) : evIaddr s y (.int k i) = some (.ro (nth y i).cells) := by
  rcases h with ⟨_, ⟨rfl, rfl⟩ | ⟨tk, ys, rfl, h⟩⟩
  · simp at hi
  · obtain ⟨h1, _⟩ := h.get i hi
    have hl := h.len
    simp only [evIaddr, beq_self_eq_true, if_true, idx_int k i ys.length (by omega), Option.bind_some, h1, Option.map_some, nth]

theorem IsSl.nth {s : Nat} {xs : List α} {y : AV} (h : IsSl R s xs y) {i : Nat} (hi : i < xs.length) : R xs[i] (nth y i) := by
  rcases h with ⟨_, ⟨rfl, rfl⟩ | ⟨tk, ys, rfl, h⟩⟩
  · simp at hi
  · exact (h.get i hi).2

theorem IsSl.refs_cells {s : Nat} {xs : List α} {y : AV} (h : IsSl R s xs y) : y.cells = [y] := by
  rcases h with ⟨_, ⟨rfl, rfl⟩ | ⟨tk, ys, rfl, h⟩⟩ <;> rfl
theorem IsSl.one {s : Nat} {xs : List α} {y : AV} (h : IsSl R s xs y) : y.one = true := by
  rcases h with ⟨_, ⟨rfl, rfl⟩ | ⟨tk, ys, rfl, h⟩⟩ <;> rfl

theorem IsSl.mono {S : α → AV → Prop} {s : Nat} {xs : List α} {y : AV} (h : IsSl R s xs y) (k : ∀ x y, x ∈ xs → R x y → S x y) : IsSl S s xs y := by
  rcases h with ⟨hm, ⟨rfl, rfl⟩ | ⟨tk, ys, rfl, h⟩⟩
  · exact .nil s
  · exact .mk (h.mono k) hm

theorem IsSl.elems_any {s : Nat} {xs : List α} {y : AV} (h : IsSl R s xs y) : ∃ ys, (∀ m : Mem, m.elems s y = some ys) ∧ All2 R xs ys := by
  rcases h with ⟨_, ⟨rfl, rfl⟩ | ⟨tk, ys, rfl, h⟩⟩
  · exact ⟨[], fun _ => rfl, trivial⟩
  · exact ⟨ys, fun m => by simp [Mem.elems, elemsOf], h⟩

theorem IsSl.elems {s : Nat} {xs : List α} {y : AV} (h : IsSl R s xs y) (m : Mem) : ∃ ys, m.elems s y = some ys ∧ All2 R xs ys := by
  rcases h with ⟨_, ⟨rfl, rfl⟩ | ⟨tk, ys, rfl, h⟩⟩
  · exact ⟨[], rfl, trivial⟩
  · exact ⟨ys, by simp [Mem.elems, elemsOf], h⟩

end

def IsK (k : IntKind) (n : Int) (y : AV) : Prop := y = .int k n
def IsStr (s : List UInt8) (y : AV) : Prop := y = .str s
def IsBool (b : Bool) (y : AV) : Prop := y = .bool b
def IsByte (b : UInt8) (y : AV) : Prop := y = .int .u8 b.toNat

abbrev IsBytes (l : List UInt8) (y : AV) : Prop := IsSl IsByte 1 l y

theorem bytesOf_bytes : ∀ {l : List UInt8} {ys : List AV}, All2 IsByte l ys → bytesOf ys = some l
  | [], [], _ => rfl
  | b :: l, y :: ys, h => by
    obtain ⟨h1, h2⟩ := h
    rw [h1]
    simp only [bytesOf, byteOf, bytesOf_bytes h2]
    simp
  | [], _ :: _, h => h.elim
  | _ :: _, [], h => h.elim

theorem IsBytes.toStr {l : List UInt8} {y : AV} (m : Mem) (h : IsBytes l y) : evToStr m y = some (.str l) := by
  rcases h with ⟨_, ⟨rfl, rfl⟩ | ⟨tk, ys, rfl, h⟩⟩
  · rfl
  · simp only [evToStr, bytesOf_bytes h, Option.map_some]

theorem all2_ofBytes : ∀ l : List UInt8, All2 IsByte l (ofBytes l)
  | [] => trivial
  | b :: l => ⟨rfl, all2_ofBytes l⟩

/-- Numbers that an int holds. -/
def in64 (n : Int) : Prop := -9223372036854775808 ≤ n ∧ n ≤ 9223372036854775807
theorem wrap_i64 {n : Int} (h : in64 n) : IntKind.i64.wrap n = n := by
  unfold in64 at h
  unfold IntKind.wrap
  simp [IntKind.signed, IntKind.bits]
  omega
theorem wrap_i64' {n : Int} (h1 : -9223372036854775808 ≤ n) (h2 : n ≤ 9223372036854775807) : IntKind.i64.wrap n = n := wrap_i64 ⟨h1, h2⟩
theorem wrap_u64 {n : Int} (h1 : 0 ≤ n) (h2 : n < 18446744073709551616) : IntKind.u64.wrap n = n := by
  unfold IntKind.wrap
  simp [IntKind.signed, IntKind.bits]
  omega
theorem wrap_u8 {n : Int} (h1 : 0 ≤ n) (h2 : n < 256) : IntKind.u8.wrap n = n := by
  unfold IntKind.wrap
  simp [IntKind.signed, IntKind.bits]
  omega
theorem succ_i64 {i n : Nat} (h : i < n) (hn : n ≤ 9223372036854775807) : IntKind.i64.wrap ((i : Int) + 1) = ((i + 1 : Nat) : Int) := by
  rw [wrap_i64' (by omega) (by omega)]; omega

/-- A contract: the result, and the memory as it was but for a stamp. -/
def Ok (tab : Nat → Option AFunc) (f : Nat) (args : List AV) (m : Mem) (R : AV → Prop) : Prop := ∃ r k, CALL tab f args m = some (r, m.bump k) ∧ R r

theorem ok_of {tab : Nat → Option AFunc} {f : Nat} {fn : AFunc} (h : tab f = some fn) {args : List AV} {R : AV → Prop} {m : Mem} (hx : X tab fn.body (mk fn.ntmps (.tup []) (numb 0 args)) (enter m) (.fin fn.res m fun v m' => (∃ k, m' = m.bump k) ∧ R v)) (hn : args.length ≤ fn.ntmps := by exact Nat.le_of_ble_eq_true rfl) :
    Ok tab f args m R := by
  obtain ⟨x, h1, ⟨k, h2⟩, h3⟩ := does_of h hx hn; exact ⟨x.1, k, by rw [h1, ← h2], h3⟩

/-- Of a call with a known result. -/
def Okv (tab : Nat → Option AFunc) (f : Nat) (args : List AV) (m : Mem) (r : AV) : Prop := ∃ k, CALL tab f args m = some (r, m.bump k)

theorem okv_of {tab : Nat → Option AFunc} {f : Nat} {fn : AFunc} (h : tab f = some fn) {args : List AV} {r : AV} {m : Mem} (hx : X tab fn.body (mk fn.ntmps (.tup []) (numb 0 args)) (enter m) (.fin fn.res m fun v m' => (∃ k, m' = m.bump k) ∧ v = r)) (hn : args.length ≤ fn.ntmps := by exact Nat.le_of_ble_eq_true rfl) :
    Okv tab f args m r := by
  obtain ⟨x, h1, ⟨k, h2⟩, h3⟩ := does_of h hx hn; exact ⟨k, by rw [h1, ← h2, ← h3]⟩

section
variable {α : Type}
theorem take_succ_eq {xs ys : List α} {i : Nat} (hl : xs.length = ys.length) (h : xs.take i = ys.take i) (hi : i < xs.length) (he : xs[i] = ys[i]'(hl ▸ hi)) : xs.take (i + 1) = ys.take (i + 1) := by
  rw [List.take_succ_eq_append_getElem hi, List.take_succ_eq_append_getElem (hl ▸ hi), h, he]
theorem eq_of_take {xs ys : List α} (hl : xs.length = ys.length) (h : xs.take xs.length = ys.take xs.length) : xs = ys := by
  rw [List.take_length, hl, List.take_length] at h; exact h
theorem ne_of_get {xs ys : List α} {i : Nat} (hi : i < xs.length) (hj : i < ys.length) (he : xs[i] ≠ ys[i]) : xs ≠ ys := fun h => he (by subst h; rfl)
theorem ne_of_len {xs ys : List α} (h : xs.length ≠ ys.length) : xs ≠ ys := fun e => h (by rw [e])
end

theorem natCast_bne (a b : Nat) : ((a : Int) != (b : Int)) = decide (a ≠ b) := by
  by_cases h : a = b
  · subst h; simp
  · simp [bne, beq_eq_false_iff_ne.2 (show (a : Int) ≠ b by omega), h]

theorem byte_ne (a b : UInt8) : decide (a.toNat ≠ b.toNat) = decide (a ≠ b) := by
  have : (a.toNat ≠ b.toNat) ↔ (a ≠ b) := not_congr UInt8.toNat_inj
  exact decide_eq_decide.2 this

theorem Okv.all {tab : Nat → Option AFunc} {f : Nat} {args : List AV} {r : AV} (h : ∀ m, Okv tab f args m r) : ∃ K : Mem → Nat, ∀ m, CALL tab f args m = some (r, m.bump (K m)) :=
  ⟨fun m => (h m).choose, fun m => (h m).choose_spec⟩

end Go.Vs
