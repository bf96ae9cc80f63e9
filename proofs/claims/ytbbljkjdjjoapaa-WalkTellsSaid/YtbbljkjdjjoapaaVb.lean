/-
  Vb: lists that are appended to: those of the running frame, and those that lie in a block of another frame.
-/
import Derived.Test.YtbbljkjdjjoapaaVd
namespace Go.Vs

/-- A list, its token among some. -/
def Own {α : Type} (R : α → AV → Prop) (s : Nat) (y : AV) (xs : List α) (e : List Nat) : Prop :=
  (y = .nils ∧ xs = []) ∨ ∃ tk ys, y = .list s tk ys ∧ All2 R xs ys ∧ (tk = .full ∨ ∃ t, t ∈ e ∧ tk = .id t)

section
variable {α : Type} {R : α → AV → Prop} {s : Nat} {y : AV} {xs cs : List α} {e : List Nat}

theorem Own.nil (e : List Nat) : Own R s .nils [] e := .inl ⟨rfl, rfl⟩
theorem Own.full {ys : List AV} (h : All2 R xs ys) (e : List Nat) : Own R s (.list s .full ys) xs e := .inr ⟨_, _, rfl, h, .inl rfl⟩
theorem Own.mono {e' : List Nat} (h : Own R s y xs e) (k : ∀ t ∈ e, t ∈ e') : Own R s y xs e' := by
  rcases h with h | ⟨tk, ys, h1, h2, h3 | ⟨t, h3, h4⟩⟩
  · exact .inl h
  · exact .inr ⟨tk, ys, h1, h2, .inl h3⟩
  · exact .inr ⟨tk, ys, h1, h2, .inr ⟨t, k t h3, h4⟩⟩
theorem Own.push (ts : List Nat) (h : Own R s y xs e) : Own R s y xs (ts ++ e) := h.mono fun _ h => List.mem_append_right _ h
theorem Own.more (ts : List Nat) (h : Own R s y xs e) : Own R s y xs (e ++ ts) := h.mono fun _ h => List.mem_append_left _ h
theorem Own.sl (h : Own R s y xs e) (hl : xs.length ≤ 9223372036854775807) : IsSl R s xs y := by
  rcases h with ⟨rfl, rfl⟩ | ⟨tk, ys, rfl, h2, _⟩
  · exact .nil s
  · exact .mk h2 hl
theorem Own.cells (h : Own R s y xs e) : y.cells = [y] := by
  rcases h with ⟨rfl, _⟩ | ⟨tk, ys, rfl, _, _⟩ <;> rfl
theorem Own.one (h : Own R s y xs e) : y.one = true := by
  rcases h with ⟨rfl, _⟩ | ⟨tk, ys, rfl, _, _⟩ <;> rfl
theorem Own.refs (h : Own R s y xs e) (l : Nat) : y.refs l = false := by
  rcases h with ⟨rfl, _⟩ | ⟨tk, ys, rfl, _, _⟩ <;> rfl
theorem Own.len (h : Own R s y xs e) : evLen y = some (.int .i64 xs.length) := by
  rcases h with ⟨rfl, rfl⟩ | ⟨tk, ys, rfl, h, _⟩
  · rfl
  · simp only [evLen, h.len]
theorem Own.at (h : Own R s y xs e) {i : Nat} (k : IntKind) (hi : i < xs.length) : evIaddr s y (.int k i) = some (.ro (nth y i).cells) := by
  rcases h with ⟨rfl, rfl⟩ | ⟨tk, ys, rfl, h, _⟩
  · simp at hi
  · obtain ⟨h1, _⟩ := h.get i hi
    have hl := h.len
    simp only [evIaddr, beq_self_eq_true, if_true, idx_int k i ys.length (by omega), Option.bind_some, h1, Option.map_some, nth]
theorem Own.nth (h : Own R s y xs e) {i : Nat} (hi : i < xs.length) : R xs[i] (nth y i) := by
  rcases h with ⟨rfl, rfl⟩ | ⟨tk, ys, rfl, h, _⟩
  · simp at hi
  · exact (h.get i hi).2
theorem Own.filter (h : Own R s y xs e) : Own R s y xs (e.filter fun t => y.toks.contains t) := by
  rcases h with h | ⟨tk, ys, rfl, h2, h3 | ⟨t, h3, rfl⟩⟩
  · exact .inl h
  · exact .inr ⟨tk, ys, rfl, h2, .inl h3⟩
  · exact .inr ⟨_, ys, rfl, h2, .inr ⟨t, List.mem_filter.2 ⟨h3, by simp [AV.toks]⟩, rfl⟩⟩
theorem Own.elems (h : Own R s y xs e) : ∃ ys, (∀ m : Mem, m.elems s y = some ys) ∧ All2 R xs ys := by
  rcases h with ⟨rfl, rfl⟩ | ⟨tk, ys, rfl, h, _⟩
  · exact ⟨[], fun _ => rfl, trivial⟩
  · exact ⟨ys, fun m => by simp [Mem.elems, elemsOf], h⟩

theorem elems_list (m : Mem) (s : Nat) (tk : Tok) (ys : List AV) : m.elems s (.list s tk ys) = some ys := by simp [Mem.elems, elemsOf]
theorem elems_str (m : Mem) (l : List UInt8) : m.elems 1 (.str l) = some (ofBytes l) := by simp [Mem.elems, elemsOf]
theorem pushToks_app (ts : List Nat) {pre : List (List Nat)} (hp : pre ≠ []) (post : List (List Nat)) : pushToks ts (pre ++ post) = pushToks ts pre ++ post := by
  cases pre with
  | nil => exact absurd rfl hp
  | cons h r => rw [List.cons_append, pushToks_cons, pushToks_cons]; rfl
theorem pushToks_len (ts : List Nat) {pre : List (List Nat)} (hp : pre ≠ []) : (pushToks ts pre).length = pre.length := by
  cases pre with
  | nil => exact absurd rfl hp
  | cons h r => rw [pushToks_cons]; rfl

theorem hasTok_of_mem {t : Nat} : ∀ {l : List (List Nat)}, t ∈ l.flatten → hasTok t l = true
  | [], h => by simp at h
  | a :: r, h => by
    simp only [List.flatten_cons, List.mem_append] at h
    simp only [hasTok, Bool.or_eq_true]
    rcases h with h | h
    · exact .inl (by simpa using h)
    · exact .inr (hasTok_of_mem h)
theorem hasTok_app {t : Nat} {l r : List (List Nat)} (h : t ∈ l.flatten) : hasTok t (l ++ r) = true := hasTok_of_mem (by simp only [List.flatten_append, List.mem_append]; exact .inl h)
theorem dropTok_app {t : Nat} : ∀ {l r : List (List Nat)}, t ∈ l.flatten → dropTok t (l ++ r) = dropTok t l ++ r
  | [], _, h => by simp at h
  | a :: l, r, h => by
    simp only [List.cons_append, dropTok]
    split
    · rfl
    · rename_i hc
      simp only [List.flatten_cons, List.mem_append] at h
      rcases h with h | h
      · exact absurd (by simpa using h) hc
      · rw [dropTok_app h]; rfl
theorem dropTok_len (t : Nat) : ∀ l : List (List Nat), (dropTok t l).length = l.length
  | [] => rfl
  | a :: l => by
    simp only [dropTok]
    split
    · rfl
    · simp [dropTok_len t l]

/-- A list in a block of a frame: its token is among those of the first i + 1 lists; 'post': the lists behind them. -/
def Wr (R : α → AV → Prop) (s i : Nat) (y : AV) (xs : List α) (live post : List (List Nat)) : Prop := ∃ pre, live = pre ++ post ∧ pre.length = i + 1 ∧ Own R s y xs pre.flatten

theorem Own.wr (h : Own R s y xs e) (rest : List (List Nat)) : Wr R s 0 y xs (e :: rest) rest := ⟨[e], rfl, rfl, by simpa using h⟩
theorem Wr.own {rest : List (List Nat)} {live : List (List Nat)} (h : Wr R s 0 y xs live rest) : ∃ e, live = e :: rest ∧ Own R s y xs e := by
  obtain ⟨pre, rfl, h2, h3⟩ := h
  match pre, h2 with
  | [e], _ => exact ⟨e, rfl, by simpa using h3⟩
theorem Wr.enter {i : Nat} {live post : List (List Nat)} (h : Wr R s i y xs live post) : Wr R s (i + 1) y xs ([] :: live) post := by
  obtain ⟨pre, rfl, h2, h3⟩ := h
  exact ⟨[] :: pre, rfl, by simp [h2], by simpa using h3⟩
theorem Wr.push {i : Nat} {live post : List (List Nat)} (ts : List Nat) (h : Wr R s i y xs live post) : Wr R s i y xs (pushToks ts live) post := by
  obtain ⟨pre, rfl, h2, h3⟩ := h
  have hp : pre ≠ [] := by intro h; subst h; simp at h2
  exact ⟨pushToks ts pre, pushToks_app ts hp post, by rw [pushToks_len ts hp]; exact h2, h3.mono fun t h => by rw [pushToks_flat]; exact List.mem_append_right _ h⟩

/-- What an append comes to, the list's token being among those that stand. -/
theorem Own.app {m : Mem} {z : AV} {zs : List AV} {bytes : Nat} (ho : Own R s y xs m.live.flatten) (hz : m.elems s z = some zs) (hc : All2 R cs zs) (hl : (xs.length + cs.length) * bytes ≤ 140737488355328) :
    (cs = [] ∧ evApp m s bytes y z = some (y, m)) ∨
    (∃ ys, All2 R (xs ++ cs) ys ∧ evApp m s bytes y z = some (.list s (.id m.nx) ys, { m with nx := m.nx + 1, live := addTok m.nx m.live })) ∨
    (∃ t ys tk0, y = .list s (.id t) tk0 ∧ t ∈ m.live.flatten ∧ All2 R (xs ++ cs) ys ∧ evApp m s bytes y z = some (.list s (.id m.nx) ys, { m with nx := m.nx + 1, live := addTok m.nx (dropTok t m.live) })) := by
  match zs, hc with
  | [], hc =>
    match cs, hc with
    | [], _ =>
      refine .inl ⟨rfl, ?_⟩
      unfold evApp; rw [hz]
      rcases ho with ⟨rfl, _⟩ | ⟨tk, ys, rfl, _, _⟩
      · rfl
      · simp
    | _ :: _, hc => exact hc.elim
  | a :: r, hc =>
    refine .inr ?_
    have hn : (a :: r).length = cs.length := hc.len
    rcases ho with ⟨rfl, rfl⟩ | ⟨tk, ys, rfl, h2, h3⟩
    · refine .inl ⟨a :: r, hc, ?_⟩
      unfold evApp; rw [hz]
      simp only
      rw [if_pos (by rw [hn]; simpa using hl)]
    · have hb : (ys.length + (a :: r).length) * bytes ≤ 140737488355328 := by rw [hn, h2.len]; exact hl
      rcases h3 with rfl | ⟨t, ht, rfl⟩
      · refine .inl ⟨ys ++ a :: r, h2.append hc, ?_⟩
        unfold evApp; rw [hz]
        simp only [beq_self_eq_true, Bool.true_and, decide_eq_true_eq]
        rw [if_pos hb]
      · refine .inr ⟨t, ys ++ a :: r, ys, rfl, ht, h2.append hc, ?_⟩
        unfold evApp; rw [hz]
        simp only [beq_self_eq_true, Bool.true_and, decide_eq_true_eq]
        rw [if_pos hb, hasTok_of_mem ht, if_pos rfl]

theorem addTok_app (t : Nat) {pre : List (List Nat)} (hp : pre ≠ []) (post : List (List Nat)) : addTok t (pre ++ post) = addTok t pre ++ post := by
  cases pre with
  | nil => exact absurd rfl hp
  | cons h r => rfl
theorem addTok_len (t : Nat) {pre : List (List Nat)} (hp : pre ≠ []) : (addTok t pre).length = pre.length := by
  cases pre with
  | nil => exact absurd rfl hp
  | cons h r => rfl

theorem Wr.app {i : Nat} {live post : List (List Nat)} {z : AV} {zs : List AV} {bytes : Nat} (h : Wr R s i y xs live post) (hz : ∀ m : Mem, m.elems s z = some zs) (hc : All2 R cs zs) (hl : (xs.length + cs.length) * bytes ≤ 140737488355328)
    (stk : List (List Blk)) (cur : List Blk) (nx fl : Nat) :
    ∃ y' n live', evApp ⟨stk, cur, nx, live, fl⟩ s bytes y z = some (y', ⟨stk, cur, n, live', fl⟩) ∧ Wr R s i y' (xs ++ cs) live' post := by
  obtain ⟨pre, rfl, h2, h3⟩ := h
  have hp : pre ≠ [] := by intro h; subst h; simp at h2
  rcases Own.app (m := ⟨stk, cur, nx, pre ++ post, fl⟩) (h3.mono fun t h => by simp only [List.flatten_append, List.mem_append]; exact .inl h) (hz _) hc hl with ⟨h, e⟩ | ⟨ys, q, e⟩ | ⟨t, ys, q0, hy, _, q, e⟩
  · exact ⟨_, _, _, e, pre, rfl, h2, by subst h; simpa using h3⟩
  · refine ⟨_, _, _, e, addTok nx pre, addTok_app nx hp post, by rw [addTok_len nx hp]; exact h2, .inr ⟨_, ys, rfl, q, .inr ⟨nx, ?_, rfl⟩⟩⟩
    rw [addTok_flat]; exact List.mem_cons_self
  · have ht : t ∈ pre.flatten := by
      rcases h3 with ⟨rfl, _⟩ | ⟨tk, ys', e1, _, e2 | ⟨t', e3, e2⟩⟩
      · cases hy
      · rw [e1, e2] at hy; cases hy
      · rw [e1, e2] at hy; injection hy with _ hy _; injection hy with hy; exact hy ▸ e3
    have hp' : dropTok t pre ≠ [] := by intro h; have := dropTok_len t pre; rw [h, h2] at this; simp at this
    simp only [dropTok_app ht, addTok_app _ hp'] at e
    refine ⟨_, _, _, e, addTok nx (dropTok t pre), rfl, by rw [addTok_len nx hp', dropTok_len]; exact h2, .inr ⟨_, ys, rfl, q, .inr ⟨nx, ?_, rfl⟩⟩⟩
    rw [addTok_flat]; exact List.mem_cons_self

theorem addAt_app {t : Nat} : ∀ {j : Nat} {pre : List (List Nat)} (post : List (List Nat)), j < pre.length → addAt t j (pre ++ post) = addAt t j pre ++ post
  | 0, [], _, h => by simp at h
  | 0, a :: r, _, _ => rfl
  | j + 1, [], _, h => by simp at h
  | j + 1, a :: r, post, h => by simp only [List.cons_append, addAt]; rw [addAt_app post (by simpa using h)]
theorem addAt_len {t : Nat} : ∀ {j : Nat} {pre : List (List Nat)}, j < pre.length → (addAt t j pre).length = pre.length
  | 0, [], h => by simp at h
  | 0, a :: r, _ => rfl
  | j + 1, [], h => by simp at h
  | j + 1, a :: r, h => by simp [addAt, addAt_len (by simpa using h)]
theorem addAt_has {t : Nat} : ∀ {j : Nat} {pre : List (List Nat)}, j < pre.length → t ∈ (addAt t j pre).flatten ∧ ∀ u ∈ pre.flatten, u ∈ (addAt t j pre).flatten
  | 0, [], h => by simp at h
  | 0, a :: r, _ => by simp [addAt, addTok]; intro u h; exact .inr h
  | j + 1, [], h => by simp at h
  | j + 1, a :: r, h => by
    have := addAt_has (t := t) (j := j) (pre := r) (by simpa using h)
    simp only [addAt, List.flatten_cons, List.mem_append]
    exact ⟨.inr this.1, fun u hu => hu.elim .inl fun hu => .inr (this.2 u hu)⟩

/-- Stored into the block, its token goes over to the block's frame. -/
theorem Wr.sink {i : Nat} {live post : List (List Nat)} (h : Wr R s (i + 1) y xs live post) : ∃ e live', sink (i + 1) y.toks live = e :: live' ∧ Wr R s i y xs live' post := by
  obtain ⟨pre, rfl, h2, h3⟩ := h
  match pre, h2 with
  | a :: r, h2 =>
    have hr : r.length = i + 1 := by simpa using h2
    rcases h3 with ⟨rfl, rfl⟩ | ⟨tk, ys, rfl, q, h3⟩
    · exact ⟨a, r ++ post, rfl, r, rfl, hr, .inl ⟨rfl, rfl⟩⟩
    · rcases h3 with rfl | ⟨t, ht, rfl⟩
      · exact ⟨a, r ++ post, rfl, r, rfl, hr, .inr ⟨_, ys, rfl, q, .inl rfl⟩⟩
      · simp only [AV.toks, Vs.sink, sink1, List.cons_append, Nat.add_sub_cancel]
        split
        · refine ⟨_, _, rfl, addAt t i r, addAt_app post (by omega), by rw [addAt_len (by omega)]; exact hr, .inr ⟨_, ys, rfl, q, .inr ⟨t, (addAt_has (by omega)).1, rfl⟩⟩⟩
        · rename_i hc
          refine ⟨_, _, rfl, r, rfl, hr, .inr ⟨_, ys, rfl, q, .inr ⟨t, ?_, rfl⟩⟩⟩
          simp only [List.flatten_cons, List.mem_append] at ht
          rcases ht with ht | ht
          · exact absurd (by simpa using ht) hc
          · exact ht

end

section
variable {α : Type} {R : α → AV → Prop} {s : Nat} {xs cs : List α} {tab : Nat → Option AFunc}

/-- A call that gives a list of its own. -/
def Okl (R : α → AV → Prop) (s : Nat) (tab : Nat → Option AFunc) (f : Nat) (args : List AV) (m : Mem) (xs : List α) : Prop :=
  ∃ y ts k, CALL tab f args m = some (y, { m with nx := k, live := pushToks ts m.live }) ∧ Own R s y xs ts
/-- With a number behind it. -/
def Okp (R : α → AV → Prop) (s : Nat) (tab : Nat → Option AFunc) (f : Nat) (args : List AV) (m : Mem) (xs : List α) (r : Int) : Prop :=
  ∃ y ts k, CALL tab f args m = some (.tup [y, .int .i64 r], { m with nx := k, live := pushToks ts m.live }) ∧ Own R s y xs ts

def FinL (R : α → AV → Prop) (s : Nat) (m : Mem) (xs : List α) (v : AV) (m' : Mem) : Prop := ∃ ts k, m' = { m with nx := k, live := pushToks ts m.live } ∧ Own R s v xs ts
def FinP (R : α → AV → Prop) (s : Nat) (m : Mem) (xs : List α) (r : Int) (v : AV) (m' : Mem) : Prop := ∃ y ts k, v = .tup [y, .int .i64 r] ∧ m' = { m with nx := k, live := pushToks ts m.live } ∧ Own R s y xs ts

theorem okl_of {f : Nat} {fn : AFunc} (h : tab f = some fn) {args : List AV} {m : Mem} (hx : X tab fn.body (mk fn.ntmps (.tup []) (numb 0 args)) (enter m) (.fin fn.res m (FinL R s m xs))) (hn : args.length ≤ fn.ntmps := by exact Nat.le_of_ble_eq_true rfl) :
    Okl R s tab f args m xs := by
  obtain ⟨x, h1, ts, k, h2, h3⟩ := does_of h hx hn; exact ⟨x.1, ts, k, by rw [h1, ← h2], h3⟩
theorem okp_of {f : Nat} {fn : AFunc} (h : tab f = some fn) {args : List AV} {m : Mem} {r : Int} (hx : X tab fn.body (mk fn.ntmps (.tup []) (numb 0 args)) (enter m) (.fin fn.res m (FinP R s m xs r))) (hn : args.length ≤ fn.ntmps := by exact Nat.le_of_ble_eq_true rfl) :
    Okp R s tab f args m xs r := by
  obtain ⟨x, h1, y, ts, k, h2, h3, h4⟩ := does_of h hx hn; exact ⟨y, ts, k, by rw [h1, ← h2, ← h3], h4⟩

variable {stk : List (List Blk)} {cur c' : List Blk} {nx nx' fl fl' : Nat} {live live' : List (List Nat)} {own : List Nat} {y : AV}

theorem leave_gen {m0 : Mem} {r : AV} (h1 : r.refs (stk ++ [cur]).length = false) (h2 : r.toks = []) :
    leave m0 ⟨stk ++ [cur], c', nx', own :: live', fl'⟩ r = some (r, ⟨stk, cur, nx', live', m0.floor⟩) := by
  have e : own.filter (fun _ => false) = [] := by simp
  unfold leave
  simp only [List.getLast?_append, List.getLast?_singleton, Option.some_or, h1, Bool.false_eq_true, if_false, h2, List.contains_nil, e, pushToks, List.dropLast_concat]

theorem leave_own (h : Own R s y xs own) : leave ⟨stk, cur, nx, live, fl⟩ ⟨stk ++ [cur], c', nx', own :: live', fl'⟩ y = some (y, ⟨stk, cur, nx', pushToks (own.filter fun t => y.toks.contains t) live', fl⟩) := leave_val (h.refs _)

theorem fin_own (h : Own R s y xs own) : Opt (leave ⟨stk, cur, nx, live, fl⟩ ⟨stk ++ [cur], c', nx', own :: live, fl'⟩ y) fun r => FinL R s ⟨stk, cur, nx, live, fl⟩ xs r.1 r.2 := by
  rw [leave_own h, Opt_some]
  exact ⟨_, nx', rfl, h.filter⟩
theorem fin_pair {r : Int} (h : Own R s y xs own) : Opt (leave ⟨stk, cur, nx, live, fl⟩ ⟨stk ++ [cur], c', nx', own :: live, fl'⟩ (.tup [y, .int .i64 r])) fun q => FinP R s ⟨stk, cur, nx, live, fl⟩ xs r q.1 q.2 := by
  rw [leave_val (by simp only [AV.refs, refsAny, h.refs]; rfl), Opt_some]
  refine ⟨y, _, nx', rfl, rfl, ?_⟩
  simp only [AV.toks, toksAll, List.append_nil]
  exact h.filter

variable {ρ : List AV} {m : Mem} {k : Kont} {l : List AOper} {d : Option Nat} {f : Nat} {args : List AV}

theorem Okl.xv (h : Okl R s tab f args m xs) (q : ∀ y ts n, Own R s y xs ts → Xs tab l (setDst ρ d y) { m with nx := n, live := pushToks ts m.live } k) : Xv tab (CALL tab f args m) d l ρ k := by
  obtain ⟨y, ts, n, h1, h2⟩ := h
  rw [h1, Xv_some]; exact q y ts n h2
theorem Okp.xv {r : Int} (h : Okp R s tab f args m xs r) (q : ∀ y ts n, Own R s y xs ts → Xs tab l (setDst ρ d (.tup [y, .int .i64 r])) { m with nx := n, live := pushToks ts m.live } k) : Xv tab (CALL tab f args m) d l ρ k := by
  obtain ⟨y, ts, n, h1, h2⟩ := h
  rw [h1, Xv_some]; exact q y ts n h2
theorem Okv.xv {r : AV} (h : Okv tab f args m r) (q : ∀ n, Xs tab l (setDst ρ d r) (m.bump n) k) : Xv tab (CALL tab f args m) d l ρ k := by
  obtain ⟨n, h1⟩ := h
  rw [h1, Xv_some]; exact q n
theorem Own.xv {e : List Nat} {rest : List (List Nat)} {z : AV} {zs : List AV} {bytes : Nat} (h : Own R s y xs e) (hz : ∀ m : Mem, m.elems s z = some zs) (hc : All2 R cs zs) (hl : (xs.length + cs.length) * bytes ≤ 140737488355328)
    (q : ∀ y' n e', Own R s y' (xs ++ cs) e' → Xs tab l (setDst ρ d y') ⟨stk, cur, n, e' :: rest, fl⟩ k) : Xv tab (evApp ⟨stk, cur, nx, e :: rest, fl⟩ s bytes y z) d l ρ k := by
  obtain ⟨y', n, live', h1, h2⟩ := (h.wr rest).app hz hc hl stk cur nx fl
  obtain ⟨e', rfl, h3⟩ := h2.own
  rw [h1, Xv_some]; exact q y' n e' h3
theorem Wr.xv {i : Nat} {post : List (List Nat)} {z : AV} {zs : List AV} {bytes : Nat} (h : Wr R s i y xs live post) (hz : ∀ m : Mem, m.elems s z = some zs) (hc : All2 R cs zs) (hl : (xs.length + cs.length) * bytes ≤ 140737488355328)
    (q : ∀ y' n live', Wr R s i y' (xs ++ cs) live' post → Xs tab l (setDst ρ d y') ⟨stk, cur, n, live', fl⟩ k) : Xv tab (evApp ⟨stk, cur, nx, live, fl⟩ s bytes y z) d l ρ k := by
  obtain ⟨y', n, live', h1, h2⟩ := h.app hz hc hl stk cur nx fl
  rw [h1, Xv_some]; exact q y' n live' h2

end

theorem XL_once {tab : Nat → Option AFunc} {live : List Nat} {nb : Nat} {a : ACode} {ρ : List AV} {m : Mem} {k : Kont} :
    XL tab live nb a ρ m k = X tab a (heads live nb ⟨ρ, m⟩).ρ (heads live nb ⟨ρ, m⟩).m (.again (fun σ' => XL tab live nb a σ'.ρ σ'.m k) k) := by
  unfold XL X; rw [RunL_eq]; rfl

/-- The next stamp behind a call. -/
noncomputable def callNx (tab : Nat → Option AFunc) (f : Nat) (args : List AV) (m : Mem) : Nat := match CALL tab f args m with | some (_, m') => m'.nx | none => 0
theorem Okv.eq {tab : Nat → Option AFunc} {f : Nat} {args : List AV} {m : Mem} {r : AV} (h : Okv tab f args m r) : CALL tab f args m = some (r, m.bump (callNx tab f args m)) := by
  obtain ⟨k, h⟩ := h
  rw [h]
  unfold callNx
  rw [h]; rfl

/-- A proposition as a bool. -/
noncomputable def pb (p : Prop) : Bool := @decide p (Classical.propDecidable p)
theorem pb_true {p : Prop} (h : p) : pb p = true := by unfold pb; exact @decide_eq_true p (Classical.propDecidable p) h
theorem pb_false {p : Prop} (h : ¬ p) : pb p = false := by unfold pb; exact @decide_eq_false p (Classical.propDecidable p) h
theorem pb_iff {p : Prop} : pb p = true ↔ p := by
  unfold pb; exact @decide_eq_true_iff p (Classical.propDecidable p)
theorem pb_niff {p : Prop} : pb p = false ↔ ¬ p := ⟨fun h hp => (by rw [pb_true hp] at h; cases h), pb_false⟩
theorem pb_eq {p : Prop} {b : Bool} (h : b = true ↔ p) : b = pb p := by
  cases b
  · rw [pb_false fun hp => by have := h.2 hp; cases this]
  · rw [pb_true (h.1 rfl)]

section
variable {tab : Nat → Option AFunc} {ρ : List AV} {m : Mem} {k : Kont} {l : List AOper} {d : Option Nat} {op : AOp} {t : Bool} {a b : ACode}

theorem Xc_by (h1 : t = true → X tab a ρ m k) (h2 : t = false → X tab b ρ m k) : Xc tab (.bool t) a b ρ m k := by
  cases t
  · exact h2 rfl
  · exact h1 rfl
theorem Xgt_by (h1 : t = true → Xv tab (evOp (CALL tab) ρ m op) d l ρ k) (h2 : t = false → Xs tab l (setDst ρ d (.tup [])) m k) : Xg tab (.bool t) true d op l ρ m k := by
  cases t
  · rw [Xg_ft]; exact h2 rfl
  · rw [Xg_tt]; exact h1 rfl
theorem Xgf_by (h1 : t = true → Xs tab l (setDst ρ d (.tup [])) m k) (h2 : t = false → Xv tab (evOp (CALL tab) ρ m op) d l ρ k) : Xg tab (.bool t) false d op l ρ m k := by
  cases t
  · rw [Xg_ff]; exact h2 rfl
  · rw [Xg_tf]; exact h1 rfl
theorem Xut_by {f : Bool} {fl : Nat} {m0 : Mem} {ws : Watch} (h1 : t = true → Xd tab fl m0 ws (⟨d, op, none, f⟩ :: l) ρ m k) (h2 : t = false → Xd tab fl m0 ws l (setDst ρ d (.tup [])) m k) : Xu tab (.bool t) true d op f fl m0 ws l ρ m k := by
  cases t
  · rw [Xu_ft]; exact h2 rfl
  · rw [Xu_tt]; exact h1 rfl
theorem Xuf_by {f : Bool} {fl : Nat} {m0 : Mem} {ws : Watch} (h1 : t = true → Xd tab fl m0 ws l (setDst ρ d (.tup [])) m k) (h2 : t = false → Xd tab fl m0 ws (⟨d, op, none, f⟩ :: l) ρ m k) : Xu tab (.bool t) false d op f fl m0 ws l ρ m k := by
  cases t
  · rw [Xu_ff]; exact h2 rfl
  · rw [Xu_tf]; exact h1 rfl

end

attribute [go_sem] allLen

section
variable (L : List Blk) (b c d b' : Blk)
theorem blk_len1 : (L ++ [b]).length = L.length + 1 := by simp
theorem blk_len2 : (L ++ [b] ++ [c]).length = L.length + 2 := by simp
theorem blk_len3 : (L ++ [b] ++ [c] ++ [d]).length = L.length + 3 := by simp
theorem blk_old1 {k : Nat} (h : k < L.length) : (L ++ [b])[k]? = L[k]? := List.getElem?_append_left h
theorem blk_old2 {k : Nat} (h : k < L.length) : (L ++ [b] ++ [c])[k]? = L[k]? := by rw [List.getElem?_append_left (by simp; omega), List.getElem?_append_left h]
theorem blk_old3 {k : Nat} (h : k < L.length) : (L ++ [b] ++ [c] ++ [d])[k]? = L[k]? := by rw [List.getElem?_append_left (by simp; omega), blk_old2 L b c h]
theorem blk_g11 : (L ++ [b])[L.length]? = some b := by simp
theorem blk_g21 : (L ++ [b] ++ [c])[L.length]? = some b := by simp
theorem blk_g31 : (L ++ [b] ++ [c] ++ [d])[L.length]? = some b := by simp
theorem blk_g22 : (L ++ [b] ++ [c])[L.length + 1]? = some c := by simp
theorem blk_g32 : (L ++ [b] ++ [c] ++ [d])[L.length + 1]? = some c := by simp
theorem blk_g33 : (L ++ [b] ++ [c] ++ [d])[L.length + 2]? = some d := by simp
theorem blk_s11 : (L ++ [b]).set L.length b' = L ++ [b'] := by rw [List.set_append]; simp
theorem blk_s21 : (L ++ [b] ++ [c]).set L.length b' = L ++ [b'] ++ [c] := by rw [List.set_append]; simp
theorem blk_s22 : (L ++ [b] ++ [c]).set (L.length + 1) b' = L ++ [b] ++ [b'] := by rw [List.set_append]; simp
theorem blk_s33 : (L ++ [b] ++ [c] ++ [d]).set (L.length + 2) b' = L ++ [b] ++ [c] ++ [b'] := by rw [List.set_append]; simp
theorem blk_t11 : (L ++ [b]).take (L.length + 1) = L ++ [b] := List.take_of_length_le (by simp)
theorem blk_t21 : (L ++ [b] ++ [c]).take (L.length + 1) = L ++ [b] := by rw [List.take_append_of_le_length (by simp), blk_t11]
theorem blk_t22 : (L ++ [b] ++ [c]).take (L.length + 2) = L ++ [b] ++ [c] := List.take_of_length_le (by simp)
theorem blk_t32 : (L ++ [b] ++ [c] ++ [d]).take (L.length + 2) = L ++ [b] ++ [c] := by rw [List.take_append_of_le_length (by simp), blk_t22]
end

/-- Cells of numbers. -/
def ints (ws : List Nat) : List AV := ws.map fun n : Nat => .int .i64 (n : Int)
theorem ints_len (ws : List Nat) : (ints ws).length = ws.length := by simp [ints]
theorem ints_get {ws : List Nat} {j : Nat} (h : j < ws.length) : takeV false 1 ((ints ws).drop j) = some (.int .i64 ((ws.getD j 0 : Nat) : Int)) := by
  have : (ints ws).drop j = .int .i64 ((ws.getD j 0 : Nat) : Int) :: (ints ws).drop (j + 1) := by
    rw [List.drop_eq_getElem_cons (by rw [ints_len]; exact h)]
    simp [ints, List.getD_eq_getElem?_getD, h]
  rw [this, takeV_f1]
theorem ints_set {ws : List Nat} {j : Nat} (v : Nat) (h : j < ws.length) : (ints ws).take j ++ [.int .i64 (v : Int)] ++ (ints ws).drop (j + 1) = ints (ws.set j v) := by
  unfold ints
  rw [List.map_set, List.set_eq_take_append_cons_drop, if_pos (by simpa using h)]; simp
theorem ints_rep (n : Nat) : flatRep [.int .i64 0] n = ints (List.replicate n 0) := by
  induction n with
  | zero => rfl
  | succ n ih => rw [flatRep, ih, List.replicate_succ]; rfl
theorem evIaddr_arr (s l k st off len : Nat) (i : AV) : evIaddr s (.arr l k st off len) i = (idx i len).map fun j => .ptr l k st (off + j * s) := rfl
theorem shift_ints (l l' k : Nat) (ws : List Nat) : shiftAll l l' k (ints ws) = ints ws := by
  induction ws with
  | nil => rfl
  | cons w r ih => simp only [ints, List.map_cons, shiftAll, AV.shift] at ih ⊢; rw [ih]
/-- A slice over a block of its own is handed out: the block goes over to the caller. -/
theorem leave_arr {m0 : Mem} {stk : List (List Blk)} {cur c' : List Blk} {nx' fl' : Nat} {own : List Nat} {live' : List (List Nat)} {k st off len : Nat} :
    ∃ bs : List Blk, leave m0 ⟨stk ++ [cur], c', nx', own :: live', fl'⟩ (.arr (stk ++ [cur]).length k st off len) = some (.arr stk.length (k + cur.length) st off len, ⟨stk, cur ++ bs, nx', live', m0.floor⟩) ∧
      ∀ ws, c'[k]? = some ⟨st, ints ws⟩ → bs[k]? = some ⟨st, ints ws⟩ := by
  have e : own.filter (fun _ => false) = [] := by simp
  refine ⟨c'.map fun b => ⟨b.st, shiftAll (stk ++ [cur]).length ((stk ++ [cur]).length - 1) cur.length b.cs⟩, ?_, ?_⟩
  · unfold leave
    simp only [List.getLast?_append, List.getLast?_singleton, Option.some_or, AV.refs, beq_self_eq_true, if_true, AV.toks, List.contains_nil, e, pushToks, List.dropLast_concat, AV.shift]
    simp
  · intro ws h
    rw [List.getElem?_map, h, Option.map_some, shift_ints]

theorem idx_in (k : IntKind) {p : Int} {n : Nat} (h : 0 ≤ p ∧ p < n) : idx (.int k p) n = some p.toNat := by
  unfold idx; simp only [h, and_self, if_true]

end Go.Vs
