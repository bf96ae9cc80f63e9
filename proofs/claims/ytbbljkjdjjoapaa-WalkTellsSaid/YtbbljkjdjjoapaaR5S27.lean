/-
  R5S27
-/
import Derived.Test.YtbbljkjdjjoapaaR5S1
import Derived.Test.YtbbljkjdjjoapaaDt
import Derived.Test.YtbbljkjdjjoapaaR5S8
import Derived.Test.YtbbljkjdjjoapaaR5S23
namespace Go.Proofs.W
open Go.Vs
set_option linter.unusedSimpArgs false
set_option maxRecDepth 100000

/-- The frames, one block of one of them being as told. -/
def rw' (stk : List (List Blk)) (cur : List Blk) (lv k st : Nat) (y : AV) : List (List Blk) := (stk ++ [cur]).modify lv fun f => f.set k ⟨st, [y]⟩

section
variable {stk : List (List Blk)} {cur : List Blk} {lv k st : Nat} {y y' : AV}
theorem rw_len : (rw' stk cur lv k st y).length = (stk ++ [cur]).length := by simp [rw']
theorem rw_get (h : lv ≤ stk.length) (hk : k < ((stk ++ [cur]).getD lv []).length) : ((rw' stk cur lv k st y).getD lv [])[k]? = some ⟨st, [y]⟩ := by
  have hl : lv < (stk ++ [cur]).length := by simp; omega
  unfold rw'
  simp only [List.getD_eq_getElem?_getD, List.getElem?_modify] at hk ⊢
  rw [List.getElem?_eq_getElem hl] at hk ⊢
  simp only [if_true, Option.map_eq_map, Option.map_some, Option.getD_some] at hk ⊢
  simp [hk]
theorem rw_mod : (rw' stk cur lv k st y).modify lv (fun f => f.set k ⟨st, [y']⟩) = rw' stk cur lv k st y' := by
  unfold rw'
  apply List.ext_getElem?
  intro j
  simp only [List.getElem?_modify]
  cases (stk ++ [cur])[j]? with
  | none => simp
  | some f =>
    by_cases e : lv = j
    · simp [e, List.set_set]
    · simp [e]
theorem rw_id (h : ((stk ++ [cur]).getD lv [])[k]? = some ⟨st, [y]⟩) : stk ++ [cur] = rw' stk cur lv k st y := by
  unfold rw'
  apply List.ext_getElem?
  intro j
  simp only [List.getElem?_modify]
  by_cases e : lv = j
  · subst e
    simp only [List.getD_eq_getElem?_getD] at h
    cases hq : (stk ++ [cur])[lv]? with
    | none => rfl
    | some f =>
      rw [hq] at h
      simp only [Option.getD_some] at h
      simp only [if_true, Option.map_eq_map, Option.map_some, Option.some.injEq]
      apply List.ext_getElem?
      intro q
      rw [List.getElem?_set]
      by_cases e2 : k = q
      · subst e2
        obtain ⟨hkf, hke⟩ := List.getElem?_eq_some_iff.1 h
        simp [hkf, hke]
      · simp [e2]
  · simp [e]

/-- A memory with that block, at another stamp, with other tokens. -/
def wrote (m : Mem) (lv k st : Nat) (y : AV) (n : Nat) (l : List (List Nat)) : Mem := { m.put lv k st [y] with nx := n, live := l }
theorem wrote_low {c : List Blk} {nx fl n : Nat} {live l : List (List Nat)} (h : lv ≤ stk.length) : wrote ⟨rw' stk cur lv k st y, c, nx, live, fl⟩ lv k st y' n l = ⟨rw' stk cur lv k st y', c, n, l, fl⟩ := by
  unfold wrote Mem.put
  rw [if_neg (by rw [rw_len]; simp; omega)]
  simp only [rw_mod]
theorem wrote_top {nx fl n : Nat} {live l : List (List Nat)} : wrote ⟨stk, cur, nx, live, fl⟩ stk.length k st y' n l = ⟨stk, cur.set k ⟨st, [y']⟩, n, l, fl⟩ := by
  unfold wrote Mem.put
  rw [if_pos (by simp)]

theorem leave_rw {m0 : Mem} {c' : List Blk} {nx' fl' : Nat} {own : List Nat} {live' : List (List Nat)} {r : AV} (hlv : lv ≤ stk.length) (h1 : r.refs (stk ++ [cur]).length = false) (h2 : r.toks = []) (nx : Nat) (live : List (List Nat)) :
    leave m0 ⟨rw' stk cur lv k st y, c', nx', own :: live', fl'⟩ r = some (r, wrote ⟨stk, cur, nx, live, m0.floor⟩ lv k st y nx' live') := by
  unfold wrote
  by_cases e : lv = stk.length
  · have : rw' stk cur lv k st y = stk ++ [cur.set k ⟨st, [y]⟩] := by
      unfold rw'; subst e
      rw [List.modify_eq_take_cons_drop (by simp)]; simp
    rw [this, leave_gen (by simpa using h1) h2]
    unfold Mem.put
    simp [e]
  · have : rw' stk cur lv k st y = (stk.modify lv fun f => f.set k ⟨st, [y]⟩) ++ [cur] := by
      unfold rw'
      apply List.ext_getElem?
      intro j
      simp only [List.getElem?_modify]
      by_cases hj : j < stk.length
      · rw [List.getElem?_append_left hj, List.getElem?_append_left (by simpa using hj), List.getElem?_modify]
      · rw [List.getElem?_append_right (by omega), List.getElem?_append_right (by simp; omega), List.length_modify]
        cases [cur][j - stk.length]? with
        | none => rfl
        | some z => simp [show ¬ lv = j by omega]
    rw [this, leave_gen (by simpa using h1) h2]
    unfold Mem.put
    simp [e]
end

theorem row_blk {S : List (List Blk)} {C : List Blk} {nx fl : Nat} {live : List (List Nat)} {lv k st : Nat} {cs : List AV} (h : Mem.blk ⟨S, C, nx, live, fl⟩ lv k st = some cs) (hlv : lv ≤ S.length) : ((S ++ [C]).getD lv [])[k]? = some ⟨st, cs⟩ := by
  unfold Mem.blk at h
  split at h
  · rename_i b hb
    split at h
    · rename_i e
      injection h with h
      have hb' : b = ⟨st, cs⟩ := by rw [← h, ← eq_of_beq e]
      subst hb'
      unfold Mem.row at hb
      by_cases e : lv = S.length
      · subst e; simpa using hb
      · simp only at hb
        rw [if_neg (by simpa using e)] at hb
        simp only [List.getD_eq_getElem?_getD] at hb ⊢
        rw [List.getElem?_append_left (by omega)]; exact hb
    · cases h
  · cases h

theorem blk_rw {stk : List (List Blk)} {cur c : List Blk} {lv k st nx fl : Nat} {live : List (List Nat)} {y : AV} (hlv : lv ≤ stk.length) (hk : k < ((stk ++ [cur]).getD lv []).length) : Mem.blk ⟨rw' stk cur lv k st y, c, nx, live, fl⟩ lv k st = some [y] := by
  unfold Mem.blk Mem.row
  simp only
  rw [if_neg (by rw [rw_len]; simp; omega), rw_get hlv hk]
  simp

theorem evApp_any {s bytes : Nat} {y z : AV} {zs : List AV} (hz : ∀ m : Mem, m.elems s z = some zs) {nx : Nat} {live : List (List Nat)} {y' : AV} {n : Nat} {live' : List (List Nat)} (h : evApp ⟨[], [], nx, live, 0⟩ s bytes y z = some (y', ⟨[], [], n, live', 0⟩)) (stk : List (List Blk)) (cur : List Blk) (fl : Nat) :
    evApp ⟨stk, cur, nx, live, fl⟩ s bytes y z = some (y', ⟨stk, cur, n, live', fl⟩) := by
  unfold evApp at h ⊢
  rw [hz] at h ⊢
  cases zs with
  | nil =>
    simp only at h ⊢
    cases y <;> first | (cases h; done) | skip
    · injection h with h; injection h with h1 h2; injection h2 with _ _ h3 h4 _; subst h1; subst h3; subst h4; rfl
    · simp only at h ⊢
      split at h
      · rename_i hc
        rw [if_pos hc]
        injection h with h; injection h with h1 h2; injection h2 with _ _ h3 h4 _; subst h1; subst h3; subst h4; rfl
      · cases h
  | cons a r =>
    simp only at h ⊢
    cases y <;> first | (cases h; done) | skip
    · simp only at h ⊢
      split at h
      · rename_i hc
        rw [if_pos hc]
        injection h with h; injection h with h1 h2; injection h2 with _ _ h3 h4 _; subst h1; subst h3; subst h4; rfl
      · cases h
    · rename_i s' tk xs
      simp only at h ⊢
      split at h
      · rename_i hc
        rw [if_pos hc]
        cases tk with
        | none => cases h
        | full => injection h with h; injection h with h1 h2; injection h2 with _ _ h3 h4 _; subst h1; subst h3; subst h4; rfl
        | id t =>
          simp only at h ⊢
          split at h
          · rename_i ht
            rw [if_pos ht]
            injection h with h; injection h with h1 h2; injection h2 with _ _ h3 h4 _; subst h1; subst h3; subst h4; rfl
          · cases h
      · cases h

/-- Bytes in a block of a frame: their token is in the list of that frame, the i-th one. -/
def WrL (i : Nat) (y : AV) (b : List UInt8) (live post : List (List Nat)) : Prop := ∃ pre l, live = pre ++ l :: post ∧ pre.length = i ∧ Own IsByte 1 y b l

theorem WrL.enter {i : Nat} {y : AV} {b : List UInt8} {live post : List (List Nat)} (h : WrL i y b live post) : WrL (i + 1) y b ([] :: live) post := by
  obtain ⟨pre, l, rfl, h2, h3⟩ := h
  exact ⟨[] :: pre, l, rfl, by simp [h2], h3⟩
theorem WrL.push {i : Nat} {y : AV} {b : List UInt8} {live post : List (List Nat)} (ts : List Nat) (h : WrL i y b live post) : WrL i y b (pushToks ts live) post := by
  obtain ⟨pre, l, rfl, h2, h3⟩ := h
  cases pre with
  | nil => exact ⟨[], ts ++ l, by rw [List.nil_append, pushToks_cons]; rfl, h2, h3.push ts⟩
  | cons o r => exact ⟨(ts ++ o) :: r, l, by rw [List.cons_append, pushToks_cons]; rfl, h2, h3⟩
theorem WrL.tail {i : Nat} {y : AV} {b : List UInt8} {live post : List (List Nat)} (h : WrL (i + 1) y b live post) : ∃ o l', live = o :: l' ∧ WrL i y b l' post := by
  obtain ⟨pre, l, rfl, h2, h3⟩ := h
  match pre, h2 with
  | o :: r, h2 => exact ⟨o, r ++ l :: post, rfl, r, l, rfl, by simpa using h2, h3⟩
theorem WrL.own {y : AV} {b : List UInt8} {live post : List (List Nat)} (h : WrL 0 y b live post) : ∃ e, live = e :: post ∧ Own IsByte 1 y b e := by
  obtain ⟨pre, l, rfl, h2, h3⟩ := h
  match pre, h2 with
  | [], _ => exact ⟨l, rfl, h3⟩
theorem addAt_mid {t : Nat} : ∀ {j : Nat} {pre : List (List Nat)} (l : List Nat) (post : List (List Nat)), pre.length = j → addAt t j (pre ++ l :: post) = pre ++ (t :: l) :: post
  | 0, [], l, post, _ => rfl
  | 0, _ :: _, _, _, h => by simp at h
  | j + 1, [], _, _, h => by simp at h
  | j + 1, a :: r, l, post, h => by simp only [List.cons_append, addAt]; rw [addAt_mid l post (by simpa using h)]

theorem WrL.app {i : Nat} {y : AV} {b c : List UInt8} {live post : List (List Nat)} {z : AV} {zs : List AV} (h : WrL (i + 1) y b live post) (hz : ∀ m : Mem, m.elems 1 z = some zs) (hc : All2 IsByte c zs) (hl : b.length + c.length ≤ 140737488355328) (nx : Nat) :
    ∃ y' n live' o l2, (∀ stk cur fl, evApp ⟨stk, cur, nx, live, fl⟩ 1 1 y z = some (y', ⟨stk, cur, n, live', fl⟩)) ∧ y'.cells = [y'] ∧ y'.one = true ∧ sink (i + 1) y'.toks live' = o :: l2 ∧ WrL i y' (b ++ c) l2 post := by
  obtain ⟨pre, l, rfl, h2, h3⟩ := h
  have hnew : ∀ (ys : List AV) (o : List Nat) (r : List (List Nat)) (l' : List Nat), r.length = i → All2 IsByte (b ++ c) ys →
      ∃ o2 l2, sink (i + 1) (AV.list 1 (.id nx) ys).toks ((nx :: o) :: (r ++ l' :: post)) = o2 :: l2 ∧ WrL i (.list 1 (.id nx) ys) (b ++ c) l2 post := fun ys o r l' hr hq => by
    simp only [AV.toks, sink, sink1, List.contains_cons, beq_self_eq_true, Bool.true_or, if_true, List.erase_cons_head, Nat.add_sub_cancel]
    exact ⟨o, _, rfl, r, nx :: l', addAt_mid l' post hr, hr, .inr ⟨_, ys, rfl, hq, .inr ⟨nx, List.mem_cons_self, rfl⟩⟩⟩
  match pre, h2 with
  | o :: r, h2 =>
    have hr : r.length = i := by simpa using h2
    have hfl : Own IsByte 1 y b ((o :: r ++ l :: post).flatten) := h3.mono fun t ht => by
      simp only [List.cons_append, List.flatten_cons, List.flatten_append, List.mem_append]
      exact .inr (.inr (.inl ht))
    rcases Own.app (m := ⟨[], [], nx, o :: r ++ l :: post, 0⟩) (bytes := 1) hfl (hz _) hc (by omega) with ⟨hcs, e⟩ | ⟨ys, q, e⟩ | ⟨t, ys, q0, hy, ht, q, e⟩
    · subst hcs
      rw [List.append_nil]
      rcases h3 with ⟨rfl, rfl⟩ | ⟨tk, ys, rfl, hq, hk⟩
      · exact ⟨_, _, _, o, _, evApp_any hz e, rfl, rfl, rfl, r, l, rfl, hr, .inl ⟨rfl, rfl⟩⟩
      · rcases hk with rfl | ⟨t, ht, rfl⟩
        · exact ⟨_, _, _, o, _, evApp_any hz e, rfl, rfl, rfl, r, l, rfl, hr, .inr ⟨_, ys, rfl, hq, .inl rfl⟩⟩
        · by_cases hto : o.contains t = true
          · refine ⟨_, _, _, o.erase t, addAt t i (r ++ l :: post), evApp_any hz e, rfl, rfl, ?_, r, t :: l, addAt_mid l post hr, hr, .inr ⟨_, ys, rfl, hq, .inr ⟨t, List.mem_cons_self, rfl⟩⟩⟩
            simp only [AV.toks, sink, sink1, List.cons_append, hto, if_true, Nat.add_sub_cancel]
          · refine ⟨_, _, _, o, r ++ l :: post, evApp_any hz e, rfl, rfl, ?_, r, l, rfl, hr, .inr ⟨_, ys, rfl, hq, .inr ⟨t, ht, rfl⟩⟩⟩
            simp only [AV.toks, sink, sink1, List.cons_append]
            rw [if_neg hto]
    · obtain ⟨o2, l2, hs, hw⟩ := hnew ys o r l hr q
      exact ⟨_, _, _, o2, l2, evApp_any hz e, rfl, rfl, hs, hw⟩
    · have htl : t ∈ l := by
        rcases h3 with ⟨rfl, _⟩ | ⟨tk, ys', e1, _, e2 | ⟨t', e3, e2⟩⟩
        · cases hy
        · rw [e1, e2] at hy; cases hy
        · rw [e1, e2] at hy; injection hy with _ hy _; injection hy with hy; exact hy ▸ e3
      have hd : dropTok t (o :: r ++ l :: post) = dropTok t (o :: r ++ [l]) ++ post := by
        have := dropTok_app (t := t) (l := o :: r ++ [l]) (r := post) (by simp only [List.flatten_append, List.mem_append]; exact .inr (by simpa using htl))
        rw [← this]; simp
      have hdl : (dropTok t (o :: r ++ [l])).length = i + 2 := by rw [dropTok_len]; simp [hr]
      obtain ⟨o3, r3, l3, he, hr3⟩ : ∃ o3 r3 l3, dropTok t (o :: r ++ [l]) = o3 :: (r3 ++ [l3]) ∧ r3.length = i := by
        match hq : dropTok t (o :: r ++ [l]), hdl with
        | o3 :: rest, hdl =>
          have hrl : rest.length = i + 1 := by simpa using hdl
          have hne : rest ≠ [] := by intro e; subst e; simp at hrl
          exact ⟨o3, rest.dropLast, rest.getLast hne, by rw [List.dropLast_concat_getLast], by rw [List.length_dropLast]; omega⟩
      rw [show (Mem.live ⟨[], [], nx, o :: r ++ l :: post, 0⟩) = o :: r ++ l :: post from rfl, hd, he] at e
      obtain ⟨o2, l2, hs, hw⟩ := hnew ys o3 r3 l3 hr3 q
      refine ⟨_, _, _, o2, l2, evApp_any hz e, rfl, rfl, ?_, hw⟩
      rw [← hs]; simp [addTok]

theorem Xw_call {α : Type} {R : α → AV → Prop} {s : Nat} {xs : List α} {f : Nat} {args : List AV} {m m0 mm : Mem} {fl : Nat} {ws : Watch} {d : Option Nat} {l : List AOper} {ρ : List AV} {k : Kont} (h : Okl R s tab f args m xs)
    (q : ∀ y ts n, Own R s y xs ts → Xd tab fl m0 ws l (setDst ρ d y) { m with nx := n, live := pushToks ts m.live } k) : Xw tab (CALL tab f args m) 2 fl m0 ws d l ρ mm k := by
  obtain ⟨y, ts, n, h1, h2⟩ := h
  rw [h1, Xw_2]; exact q y ts n h2

/-- What a method of a writer comes to. -/
def Writes (f : Nat) (args : List AV) (lv k st i : Nat) (y : AV) (b c : List UInt8) (post : List (List Nat)) (r : AV) (m : Mem) : Prop :=
  ∃ y' n live', CALL tab f args m = some (r, wrote m lv k st y' n live') ∧ WrL i y' (b ++ c) live' post

/-- Where a writer's list lies. -/
structure At (m : Mem) (lv k st i : Nat) (y : AV) (b : List UInt8) (post : List (List Nat)) : Prop where
  level : lv + i = m.stk.length
  cell : m.blk lv k st = some [y]
  low : m.floor ≤ lv
  w : WrL i y b m.live post

set_option maxHeartbeats 2000000 in
theorem w_number (n : Nat) (hn : n < 9223372036854775808) (m : Mem) {lv k st i : Nat} {y : AV} {b : List UInt8} {post : List (List Nat)} (ha : At m lv k st i y b post) (hb : b.length ≤ 1000000) :
    Writes F_image_writer_number [.ptr lv k st 0, .int .i64 n] lv k st i y b (minimal n) post (.tup []) m := by
  suffices h : Does tab F_image_writer_number [.ptr lv k st 0, .int .i64 n] m fun v m' => ∃ y' n' live', v = .tup [] ∧ m' = wrote m lv k st y' n' live' ∧ WrL i y' (b ++ minimal n) live' post by
    obtain ⟨z, h1, y', n', l', h2, h3, h4⟩ := h
    exact ⟨y', n', l', by rw [h1, ← h2, ← h3], h4⟩
  refine does_of t_image_writer_number ?_ (Nat.le_of_ble_eq_true rfl)
  obtain ⟨stk, cur, nx, live, fl⟩ := m
  obtain ⟨hlv, hblk, hfl, hW⟩ := ha
  dsimp only at hlv hfl hW
  have hrow := row_blk hblk (by omega)
  have hk : k < ((stk ++ [cur]).getD lv []).length := (List.getElem?_eq_some_iff.1 hrow).1
  have hid := rw_id hrow
  have hlv' : lv ≤ stk.length := by omega
  have hne : (lv == (stk ++ [cur]).length) = false := by simp; omega
  have hsub : (stk ++ [cur]).length - lv = i + 1 := by simp; omega
  have e : IntKind.u64.wrap (n : Int) = n := wrap_u64 (by omega) (by omega)
  simp only [a_image_writer_number, go_sem, reduceIte, reduceCtorEq, Nat.reduceAdd, Nat.reduceSub, Nat.reduceEqDiff, Nat.reduceLeDiff, Nat.reduceBEq, Nat.reduceLT, e]
  simp only [hid]
  simp only [go_sem, reduceIte, reduceCtorEq, Nat.reduceAdd, Nat.reduceSub, Nat.reduceEqDiff, Nat.reduceLeDiff, Nat.reduceBEq, Nat.reduceLT, rw_len, hne, rw_get hlv' hk, e]
  have hfv : max fl ((stk ++ [cur]).length + 1) ≤ (rw' stk cur lv k st y).length + 1 := by rw [rw_len]; simp; omega
  refine Xw_call (w_wire_Vary n (by omega) _ _ _ _ _ hfv) fun yv ts nv hov => ?_
  simp only [go_sem, reduceIte, reduceCtorEq, Nat.reduceAdd, Nat.reduceSub, Nat.reduceEqDiff, Nat.reduceLeDiff, Nat.reduceBEq, Nat.reduceLT]
  obtain ⟨zs, hz, hc⟩ := hov.elems
  have hm := minimal_ten (n := n) (by omega)
  obtain ⟨y', n', live', o, l2, happ, hcell, hone, hs, hW2⟩ := WrL.app ((WrL.enter hW).push ts) hz hc (by omega) nv
  rw [pushToks_cons, List.append_nil] at happ
  simp only [go_sem, reduceIte, reduceCtorEq, Nat.reduceAdd, Nat.reduceSub, Nat.reduceEqDiff, Nat.reduceLeDiff, Nat.reduceBEq, Nat.reduceLT, happ, rw_len, hne, rw_get hlv' hk, hcell, hone, hfl, hsub, hs, rw_mod]
  rw [leave_rw hlv' rfl rfl nx live, Opt_some]
  exact ⟨y', n', l2, rfl, rfl, hW2⟩

end Go.Proofs.W

namespace Go.Proofs.W
open Go.Vs
set_option linter.unusedSimpArgs false
set_option maxRecDepth 100000

set_option maxHeartbeats 2000000 in
theorem w_text (s : List UInt8) (hs : s.length ≤ 1000) (m : Mem) {lv k st i : Nat} {y : AV} {b : List UInt8} {post : List (List Nat)} (ha : At m lv k st i y b post) (hb : b.length ≤ 900000) :
    Writes F_image_writer_text [.ptr lv k st 0, .str s] lv k st i y b (said s) post (.tup []) m := by
  suffices h : Does tab F_image_writer_text [.ptr lv k st 0, .str s] m fun v m' => ∃ y' n' live', v = .tup [] ∧ m' = wrote m lv k st y' n' live' ∧ WrL i y' (b ++ said s) live' post by
    obtain ⟨z, h1, y', n', l', h2, h3, h4⟩ := h
    exact ⟨y', n', l', by rw [h1, ← h2, ← h3], h4⟩
  refine does_of t_image_writer_text ?_ (Nat.le_of_ble_eq_true rfl)
  obtain ⟨stk, cur, nx, live, fl⟩ := m
  obtain ⟨hlv, hblk, hfl, hW⟩ := ha
  dsimp only at hlv hfl hW
  have hrow := row_blk hblk (by omega)
  have hk : k < ((stk ++ [cur]).getD lv []).length := (List.getElem?_eq_some_iff.1 hrow).1
  have hid := rw_id hrow
  have hlv' : lv ≤ stk.length := by omega
  have hne : (lv == (stk ++ [cur]).length) = false := by simp; omega
  have hsub : (stk ++ [cur]).length - lv = i + 1 := by simp; omega
  have hlev : ∀ y, lv + (i + 1) = (rw' stk cur lv k st y).length := fun y => by rw [rw_len]; simp; omega
  have hget : ∀ y, ((rw' stk cur lv k st y).getD lv [])[k]? = some ⟨st, [y]⟩ := fun y => rw_get hlv' hk
  have hat : ∀ y b c nz L, WrL (i + 1) y b L post → At ⟨rw' stk cur lv k st y, c, nz, L, fl⟩ lv k st (i + 1) y b post := fun y b c nz L h => ⟨hlev y, blk_rw hlv' hk, hfl, h⟩
  have hm := minimal_ten (n := s.length) (by omega)
  simp only [a_image_writer_text, go_sem, reduceIte, reduceCtorEq, Nat.reduceAdd, Nat.reduceSub, Nat.reduceEqDiff, Nat.reduceLeDiff, Nat.reduceBEq, Nat.reduceLT]
  simp only [hid]
  obtain ⟨y1, n1, l1, hc1, hW1⟩ := w_number s.length (by omega) _ (hat y b [] nx _ (WrL.enter hW)) (by omega)
  rw [wrote_low hlv'] at hc1
  simp only [go_sem, reduceIte, reduceCtorEq, Nat.reduceAdd, Nat.reduceSub, Nat.reduceEqDiff, Nat.reduceLeDiff, Nat.reduceBEq, Nat.reduceLT, hc1, rw_len, hne, hget]
  obtain ⟨y2, n2, l2, o, l3, happ, hcl, hone, hsk, hW2⟩ := WrL.app hW1 (elems_str · s) (all2_ofBytes s) (by simp only [List.length_append]; omega) n1
  simp only [go_sem, reduceIte, reduceCtorEq, Nat.reduceAdd, Nat.reduceSub, Nat.reduceEqDiff, Nat.reduceLeDiff, Nat.reduceBEq, Nat.reduceLT, happ, rw_len, hne, hget, hcl, hone, hfl, hsub, hsk, rw_mod]
  rw [leave_rw hlv' rfl rfl nx live, Opt_some]
  exact ⟨y2, n2, l3, rfl, rfl, by unfold said; rw [← List.append_assoc]; exact hW2⟩

def f0 : DField := ⟨[], 0⟩
def fldAt (l : List DField) (k : Nat) : DField := l.getD k f0
theorem fldAt_get {l : List DField} {j : Nat} (h : j < l.length) : l[j] = fldAt l j := by simp [fldAt, List.getD_eq_getElem?_getD, h]
/-- Fields as bytes, up to one of them. -/
def flds (l : List DField) : Nat → List UInt8
  | 0 => minimal l.length
  | k + 1 => flds l k ++ (said (fldAt l k).name ++ minimal (fldAt l k).typ.toNat)
def FOk (l : List DField) : Prop := l.length ≤ 16 ∧ ∀ f ∈ l, f.name.length ≤ 16 ∧ 0 ≤ f.typ ∧ f.typ < 1000
theorem FOk.at {l : List DField} (h : FOk l) {k : Nat} (hk : k < l.length) : (fldAt l k).name.length ≤ 16 ∧ 0 ≤ (fldAt l k).typ ∧ (fldAt l k).typ < 1000 := by rw [← fldAt_get hk]; exact h.2 _ (List.getElem_mem hk)
theorem said_len {s : List UInt8} (h : s.length ≤ 1000) : (said s).length ≤ s.length + 10 := by
  have := minimal_ten (n := s.length) (by omega)
  unfold said; rw [List.length_append]; omega
theorem flds_len {l : List DField} (h : FOk l) : ∀ k, k ≤ l.length → (flds l k).length ≤ 10 + 36 * k
  | 0, _ => minimal_ten (by have := h.1; omega)
  | k + 1, hk => by
    have ih := flds_len h k (by omega)
    obtain ⟨h1, h2, h3⟩ := h.at (show k < l.length by omega)
    have m1 := said_len (s := (fldAt l k).name) (by omega)
    have m2 := minimal_ten (n := (fldAt l k).typ.toNat) (by omega)
    simp only [flds, List.length_append]; omega

set_option maxHeartbeats 2000000 in
theorem w_fields (l : List DField) (v : AV) (hv : IsSl IsField 2 l v) (hf : FOk l) (m : Mem) {lv k st i : Nat} {y : AV} {b : List UInt8} {post : List (List Nat)} (ha : At m lv k st i y b post) (hb : b.length ≤ 800000) :
    Writes F_image_writer_fields [.ptr lv k st 0, v] lv k st i y b (flds l l.length) post (.tup []) m := by
  suffices h : Does tab F_image_writer_fields [.ptr lv k st 0, v] m fun v m' => ∃ y' n' live', v = .tup [] ∧ m' = wrote m lv k st y' n' live' ∧ WrL i y' (b ++ flds l l.length) live' post by
    obtain ⟨z, h1, y', n', l', h2, h3, h4⟩ := h
    exact ⟨y', n', l', by rw [h1, ← h2, ← h3], h4⟩
  refine does_of t_image_writer_fields ?_ (Nat.le_of_ble_eq_true rfl)
  obtain ⟨stk, cur, nx, live, fl⟩ := m
  obtain ⟨hlv, hblk, hfl, hW⟩ := ha
  dsimp only at hlv hfl hW
  have hrow := row_blk hblk (by omega)
  have hk : k < ((stk ++ [cur]).getD lv []).length := (List.getElem?_eq_some_iff.1 hrow).1
  have hid := rw_id hrow
  have hlv' : lv ≤ stk.length := by omega
  have hne : (lv == (stk ++ [cur]).length) = false := by simp; omega
  have hsub : (stk ++ [cur]).length - lv = i + 1 := by simp; omega
  have hlev : ∀ y, lv + (i + 1) = (rw' stk cur lv k st y).length := fun y => by rw [rw_len]; simp; omega
  have hget : ∀ y, ((rw' stk cur lv k st y).getD lv [])[k]? = some ⟨st, [y]⟩ := fun y => rw_get hlv' hk
  have hat : ∀ y b c nz L, WrL (i + 1) y b L post → At ⟨rw' stk cur lv k st y, c, nz, L, fl⟩ lv k st (i + 1) y b post := fun y b c nz L h => ⟨hlev y, blk_rw hlv' hk, hfl, h⟩
  have hl16 := hf.1
  have hvl := hv.len
  simp only [a_image_writer_fields, go_sem, reduceIte, reduceCtorEq, Nat.reduceAdd, Nat.reduceSub, Nat.reduceEqDiff, Nat.reduceLeDiff, Nat.reduceBEq, Nat.reduceLT, hvl]
  simp only [hid]
  obtain ⟨y1, n1, l1, hc1, hW1⟩ := w_number l.length (by omega) _ (hat y b [] nx _ (WrL.enter hW)) (by omega)
  rw [wrote_low hlv'] at hc1
  simp only [go_sem, reduceIte, reduceCtorEq, Nat.reduceAdd, Nat.reduceSub, Nat.reduceEqDiff, Nat.reduceLeDiff, Nat.reduceBEq, Nat.reduceLT, hc1, hvl]
  refine XL_rule (α := Nat) (fun j σ => j ≤ l.length ∧ ∃ nz y L, WrL (i + 1) y (b ++ flds l j) L post ∧ heads [0, 10, 11, 12] 0 σ = ⟨tmps 25 [(0, .ptr lv k st 0), (10, v), (11, .int .i64 l.length), (12, .int .i64 j)], ⟨rw' stk cur lv k st y, [], nz, L, fl⟩⟩) (fun j => l.length - j) 0 ?_ ?_
  · refine ⟨Nat.zero_le _, n1, y1, l1, hW1, ?_⟩
    simp only [go_sem, reduceIte, reduceCtorEq, Nat.reduceAdd, Nat.reduceSub, Nat.reduceEqDiff, Nat.reduceLeDiff, Nat.reduceBEq, Nat.reduceLT]
    rfl
  · rintro j σ ⟨hj, nz, y2, L, hW2, hσ⟩
    rw [hσ]
    clear hσ σ
    dsimp only at hj ⊢
    by_cases h : j < l.length
    · have e1 : nth v j = .agg [.str (fldAt l j).name, .int .i64 (fldAt l j).typ] := by
        have : IsField l[j] (nth v j) := hv.nth h
        rw [fldAt_get h] at this; exact this
      have hatv := hv.at .i64 h
      have hsucc := succ_i64 h hv.max
      obtain ⟨h1, h2, h3⟩ := hf.at h
      have hfl2 := flds_len hf j (by omega)
      have m1 := said_len (s := (fldAt l j).name) (by omega)
      obtain ⟨y3, n3, l3, hc3, hW3⟩ := w_text (fldAt l j).name (by omega) _ (hat y2 (b ++ flds l j) [⟨nz, [.str (fldAt l j).name, .int .i64 (fldAt l j).typ]⟩] (nz + 1) L hW2) (by simp only [List.length_append]; omega)
      rw [wrote_low hlv'] at hc3
      obtain ⟨y4, n4, l4, hc4, hW4⟩ := w_number (fldAt l j).typ.toNat (by omega) _ (hat y3 _ [⟨nz, [.str (fldAt l j).name, .int .i64 (fldAt l j).typ]⟩] n3 l3 hW3) (by simp only [List.length_append]; omega)
      rw [wrote_low hlv', Int.toNat_of_nonneg h2] at hc4
      simp only [go_sem, reduceIte, reduceCtorEq, Nat.reduceAdd, Nat.reduceSub, Nat.reduceEqDiff, Nat.reduceLeDiff, Nat.reduceBEq, Nat.reduceLT, Int.ofNat_lt, h, hatv, e1, rw_len, hc3, hc4, hsucc]
      refine ⟨j + 1, by omega, h, n4, y4, l4, ?_, rfl⟩
      simp only [flds, ← List.append_assoc] at hW4 ⊢
      exact hW4
    · have : j = l.length := by omega
      subst this
      obtain ⟨o, l3, rfl, hW3⟩ := WrL.tail hW2
      simp only [go_sem, reduceIte, reduceCtorEq, Nat.reduceAdd, Nat.reduceSub, Nat.reduceEqDiff, Nat.reduceLeDiff, Nat.reduceBEq, Nat.reduceLT, Int.ofNat_lt, h]
      rw [leave_rw hlv' rfl rfl nx live, Opt_some]
      exact ⟨y2, nz, l3, rfl, rfl, hW3⟩

end Go.Proofs.W

namespace Go.Proofs.W
open Go.Vs
set_option linter.unusedSimpArgs false
set_option maxRecDepth 100000

def t0 : DTyp := ⟨0, 0, 0, []⟩
def typAt (l : List DTyp) (k : Nat) : DTyp := l.getD k t0
theorem typAt_get {l : List DTyp} {j : Nat} (h : j < l.length) : l[j] = typAt l j := by simp [typAt, List.getD_eq_getElem?_getD, h]
/-- A type as bytes. -/
def typB (t : DTyp) : List UInt8 :=
  if t.kind = 4 ∨ t.kind = 7 then minimal t.elem.toNat else if t.kind = 6 then minimal t.elem.toNat ++ minimal t.len.toNat else if t.kind = 5 then flds t.fields t.fields.length else []
def typs (l : List DTyp) : Nat → List UInt8
  | 0 => minimal l.length
  | k + 1 => typs l k ++ ([UInt8.ofNat (typAt l k).kind.toNat] ++ typB (typAt l k))

theorem named_len {s : List UInt8} (h : named s = true) : s.length ≤ 16 := by
  unfold named at h; simp only [Bool.and_eq_true, decide_eq_true_eq] at h; exact h.1.1.2
theorem fine_fok {n i : Nat} {t : DTyp} (h : FineT n i t) (hn : i ≤ 32) (h5 : t.kind = 5) : FOk t.fields := by
  have hs := (fine_struct h5).1 h
  have h8 := hs.2.2.2.2.1
  refine ⟨by omega, fun f hf => ?_⟩
  have h1 := hs.1 f hf
  have h2 := named_len (hs.2.2.2.2.2.1 f hf)
  omega
theorem typB_len {n i : Nat} {t : DTyp} (h : FineT n i t) (hn : n ≤ 32) (hi : i ≤ 32) : (typB t).length ≤ 600 := by
  have hl := fine_len h
  unfold typB
  split
  · rename_i h4
    have := hl.2.2.1 h4
    have := minimal_ten (n := t.elem.toNat) (by omega)
    omega
  · split
    · rename_i h6
      have e1 := hl.2.2.2.1 h6
      have e2 := hl.2.1 h6
      have := minimal_ten (n := t.elem.toNat) (by omega)
      have := minimal_ten (n := t.len.toNat) (by omega)
      rw [List.length_append]; omega
    · split
      · rename_i h5
        have hfo := fine_fok h hi h5
        have := flds_len hfo t.fields.length (Nat.le_refl _)
        omega
      · simp
theorem typs_len {l : List DTyp} (hv : ValidT l) (hl : l.length ≤ 32) : ∀ k, k ≤ l.length → (typs l k).length ≤ 10 + 601 * k
  | 0, _ => minimal_ten (by omega)
  | k + 1, hk => by
    have ih := typs_len hv hl k (by omega)
    have hf := hv k (by omega)
    rw [typAt_get (by omega)] at hf
    have := typB_len hf hl (by omega)
    simp only [typs, List.length_append, List.length_cons, List.length_nil]; omega

theorem isByte_nat' {a : Int} (h : inU8 a) : IsByte (UInt8.ofNat a.toNat) (.int .u8 a) := by
  unfold inU8 at h
  have := isByte_u8 (a := a.toNat) (by omega)
  rwa [show ((a.toNat : Nat) : Int) = a by omega] at this

theorem WrL.cons {i : Nat} {y : AV} {b : List UInt8} {live post : List (List Nat)} (o : List Nat) (h : WrL i y b live post) : WrL (i + 1) y b (o :: live) post := by
  obtain ⟨pre, l, rfl, h2, h3⟩ := h
  exact ⟨o :: pre, l, rfl, by simp [h2], h3⟩

set_option maxHeartbeats 4000000 in
theorem w_types (l : List DTyp) (v : AV) (hv : IsSl IsTyp 4 l v) (hw : WfTypes l) (hval : ValidT l) (hl : l.length ≤ 32) (m : Mem) {lv k st i : Nat} {y : AV} {b : List UInt8} {post : List (List Nat)} (ha : At m lv k st i y b post) (hb : b.length ≤ 100000) :
    Writes F_image_writer_types [.ptr lv k st 0, v] lv k st i y b (typs l l.length) post (.tup []) m := by
  suffices h : Does tab F_image_writer_types [.ptr lv k st 0, v] m fun v m' => ∃ y' n' live', v = .tup [] ∧ m' = wrote m lv k st y' n' live' ∧ WrL i y' (b ++ typs l l.length) live' post by
    obtain ⟨z, h1, y', n', l', h2, h3, h4⟩ := h
    exact ⟨y', n', l', by rw [h1, ← h2, ← h3], h4⟩
  refine does_of t_image_writer_types ?_ (Nat.le_of_ble_eq_true rfl)
  obtain ⟨stk, cur, nx, live, fl⟩ := m
  obtain ⟨hlv, hblk, hfl, hW⟩ := ha
  dsimp only at hlv hfl hW
  have hrow := row_blk hblk (by omega)
  have hk : k < ((stk ++ [cur]).getD lv []).length := (List.getElem?_eq_some_iff.1 hrow).1
  have hid := rw_id hrow
  have hlv' : lv ≤ stk.length := by omega
  have hne : (lv == (stk ++ [cur]).length) = false := by simp; omega
  have hsub : (stk ++ [cur]).length - lv = i + 1 := by simp; omega
  have hlev : ∀ y, lv + (i + 1) = (rw' stk cur lv k st y).length := fun y => by rw [rw_len]; simp; omega
  have hget : ∀ y, ((rw' stk cur lv k st y).getD lv [])[k]? = some ⟨st, [y]⟩ := fun y => rw_get hlv' hk
  have hat : ∀ y b c nz L, WrL (i + 1) y b L post → At ⟨rw' stk cur lv k st y, c, nz, L, fl⟩ lv k st (i + 1) y b post := fun y b c nz L h => ⟨hlev y, blk_rw hlv' hk, hfl, h⟩
  have hvl := hv.len
  simp only [a_image_writer_types, go_sem, reduceIte, reduceCtorEq, Nat.reduceAdd, Nat.reduceSub, Nat.reduceEqDiff, Nat.reduceLeDiff, Nat.reduceBEq, Nat.reduceLT, hvl]
  simp only [hid]
  obtain ⟨y1, n1, l1, hc1, hW1⟩ := w_number l.length (by omega) _ (hat y b [] nx _ (WrL.enter hW)) (by omega)
  rw [wrote_low hlv'] at hc1
  simp only [go_sem, reduceIte, reduceCtorEq, Nat.reduceAdd, Nat.reduceSub, Nat.reduceEqDiff, Nat.reduceLeDiff, Nat.reduceBEq, Nat.reduceLT, hc1, hvl]
  refine XL_rule (α := Nat) (fun j σ => j ≤ l.length ∧ ∃ nz y L, WrL (i + 1) y (b ++ typs l j) L post ∧ heads [0, 10, 11, 12] 0 σ = ⟨tmps 53 [(0, .ptr lv k st 0), (10, v), (11, .int .i64 l.length), (12, .int .i64 j)], ⟨rw' stk cur lv k st y, [], nz, L, fl⟩⟩) (fun j => l.length - j) 0 ?_ ?_
  · refine ⟨Nat.zero_le _, n1, y1, l1, hW1, ?_⟩
    simp only [go_sem, reduceIte, reduceCtorEq, Nat.reduceAdd, Nat.reduceSub, Nat.reduceEqDiff, Nat.reduceLeDiff, Nat.reduceBEq, Nat.reduceLT]
    rfl
  · rintro j σ ⟨hj, nz, y2, L, hW2, hσ⟩
    rw [hσ]
    clear hσ σ
    dsimp only at hj ⊢
    by_cases h : j < l.length
    · have hfine := hval j h
      have hkind := (hw _ (List.getElem_mem h)).kind
      obtain ⟨u, e1, q1⟩ := hv.nth h
      have hatv := hv.at .i64 h
      have hsucc := succ_i64 h hv.max
      have htl := typs_len hval hl j (by omega)
      rw [typAt_get h] at hfine hkind e1 q1
      have hflen := fine_len hfine
      have hfo := fine_fok hfine (by omega)
      generalize htt : typAt l j = t at *
      obtain ⟨kind, elem, len, fields⟩ := t
      dsimp only at e1 q1 hflen hkind hfo
      obtain ⟨y3, n3, l3, o, l4, happ, hcl, hone, hsk, hW3⟩ := WrL.app hW2 (elems_list · 1 .full [.int .u8 kind]) (all2_one (isByte_nat' hkind)) (by simp only [List.length_append, List.length_cons, List.length_nil]; omega) (nz + 1)
      have hW3 := WrL.cons o hW3
      simp only [go_sem, reduceIte, reduceCtorEq, Nat.reduceAdd, Nat.reduceSub, Nat.reduceEqDiff, Nat.reduceLeDiff, Nat.reduceBEq, Nat.reduceLT, Int.ofNat_lt, h, hatv, e1, q1.one, rw_len, hne, hget, happ, hcl, hone, hfl, hsub, hsk, rw_mod]
      by_cases k47 : kind = 4 ∨ kind = 7
      · have hel := hflen.2.2.1 k47
        obtain ⟨y4, n4, l5, hc4, hW4⟩ := w_number elem.toNat (by omega) _ (hat y3 _ [⟨nz, [.int .u8 kind, .int .i64 elem, .int .i64 len, u]⟩] n3 (o :: l4) hW3) (by simp only [List.length_append, List.length_cons, List.length_nil]; omega)
        rw [wrote_low hlv', Int.toNat_of_nonneg hel.1] at hc4
        by_cases k4 : kind = 4
        · have k4' : (kind == 4) = true := by simpa using k4
          simp only [go_sem, reduceIte, reduceCtorEq, Nat.reduceAdd, Nat.reduceSub, Nat.reduceEqDiff, Nat.reduceLeDiff, Nat.reduceBEq, Nat.reduceLT, k4', rw_len, hc4, hsucc]
          have hT : typB ⟨kind, elem, len, fields⟩ = minimal elem.toNat := by
            unfold typB
            rw [if_pos k47]
          refine ⟨j + 1, by omega, h, n4, y4, l5, ?_, rfl⟩
          have hbb : typs l (j + 1) = typs l j ++ ([UInt8.ofNat kind.toNat] ++ minimal elem.toNat) := by rw [typs, htt, hT]
          rw [hbb]
          have hWW := hW4
          simp only [List.append_assoc, List.append_nil] at hWW ⊢
          exact hWW
        · have k4' : (kind == 4) = false := by simpa using k4
          have k7' : (kind == 7) = true := by simp; omega
          simp only [go_sem, reduceIte, reduceCtorEq, Nat.reduceAdd, Nat.reduceSub, Nat.reduceEqDiff, Nat.reduceLeDiff, Nat.reduceBEq, Nat.reduceLT, k4', k7', rw_len, hc4, hsucc]
          have hT : typB ⟨kind, elem, len, fields⟩ = minimal elem.toNat := by
            unfold typB
            rw [if_pos k47]
          refine ⟨j + 1, by omega, h, n4, y4, l5, ?_, rfl⟩
          have hbb : typs l (j + 1) = typs l j ++ ([UInt8.ofNat kind.toNat] ++ minimal elem.toNat) := by rw [typs, htt, hT]
          rw [hbb]
          have hWW := hW4
          simp only [List.append_assoc, List.append_nil] at hWW ⊢
          exact hWW
      · have k4' : (kind == 4) = false := by simp; omega
        have k7' : (kind == 7) = false := by simp; omega
        by_cases k6 : kind = 6
        · have k6' : (kind == 6) = true := by simpa using k6
          have e6 := hflen.2.2.2.1 k6
          have e7 := hflen.2.1 k6
          have m6 := minimal_ten (n := elem.toNat) (by omega)
          obtain ⟨y4, n4, l5, hc4, hW4⟩ := w_number elem.toNat (by omega) _ (hat y3 _ [⟨nz, [.int .u8 kind, .int .i64 elem, .int .i64 len, u]⟩] n3 (o :: l4) hW3) (by simp only [List.length_append, List.length_cons, List.length_nil]; omega)
          rw [wrote_low hlv', Int.toNat_of_nonneg e6.1] at hc4
          obtain ⟨y5, n5, l6, hc5, hW5⟩ := w_number len.toNat (by omega) _ (hat y4 _ [⟨nz, [.int .u8 kind, .int .i64 elem, .int .i64 len, u]⟩] n4 l5 hW4) (by simp only [List.length_append, List.length_cons, List.length_nil]; omega)
          rw [wrote_low hlv', Int.toNat_of_nonneg (by omega)] at hc5
          simp only [go_sem, reduceIte, reduceCtorEq, Nat.reduceAdd, Nat.reduceSub, Nat.reduceEqDiff, Nat.reduceLeDiff, Nat.reduceBEq, Nat.reduceLT, k4', k7', k6', rw_len, hc4, hc5, hsucc]
          have hT : typB ⟨kind, elem, len, fields⟩ = (minimal elem.toNat ++ minimal len.toNat) := by
            unfold typB
            rw [if_neg k47, if_pos k6]
          refine ⟨j + 1, by omega, h, n5, y5, l6, ?_, rfl⟩
          have hbb : typs l (j + 1) = typs l j ++ ([UInt8.ofNat kind.toNat] ++ (minimal elem.toNat ++ minimal len.toNat)) := by rw [typs, htt, hT]
          rw [hbb]
          have hWW := hW5
          simp only [List.append_assoc, List.append_nil] at hWW ⊢
          exact hWW
        · have k6' : (kind == 6) = false := by simpa using k6
          by_cases k5 : kind = 5
          · have k5' : (kind == 5) = true := by simpa using k5
            obtain ⟨y4, n4, l5, hc4, hW4⟩ := w_fields fields u q1 (hfo k5) _ (hat y3 _ [⟨nz, [.int .u8 kind, .int .i64 elem, .int .i64 len, u]⟩] n3 (o :: l4) hW3) (by simp only [List.length_append, List.length_cons, List.length_nil]; omega)
            rw [wrote_low hlv'] at hc4
            simp only [go_sem, reduceIte, reduceCtorEq, Nat.reduceAdd, Nat.reduceSub, Nat.reduceEqDiff, Nat.reduceLeDiff, Nat.reduceBEq, Nat.reduceLT, k4', k7', k6', k5', rw_len, hc4, hsucc]
            have hT : typB ⟨kind, elem, len, fields⟩ = flds fields fields.length := by
              unfold typB
              rw [if_neg k47, if_neg k6, if_pos k5]
            refine ⟨j + 1, by omega, h, n4, y4, l5, ?_, rfl⟩
            have hbb : typs l (j + 1) = typs l j ++ ([UInt8.ofNat kind.toNat] ++ flds fields fields.length) := by rw [typs, htt, hT]
            rw [hbb]
            have hWW := hW4
            simp only [List.append_assoc, List.append_nil] at hWW ⊢
            exact hWW
          · have k5' : (kind == 5) = false := by simpa using k5
            simp only [go_sem, reduceIte, reduceCtorEq, Nat.reduceAdd, Nat.reduceSub, Nat.reduceEqDiff, Nat.reduceLeDiff, Nat.reduceBEq, Nat.reduceLT, k4', k7', k6', k5', rw_len, hsucc]
            have hT : typB ⟨kind, elem, len, fields⟩ = [] := by
              unfold typB
              rw [if_neg k47, if_neg k6, if_neg k5]
            refine ⟨j + 1, by omega, h, n3, y3, (o :: l4), ?_, rfl⟩
            have hbb : typs l (j + 1) = typs l j ++ ([UInt8.ofNat kind.toNat] ++ []) := by rw [typs, htt, hT]
            rw [hbb]
            have hWW := hW3
            simp only [List.append_assoc, List.append_nil] at hWW ⊢
            exact hWW
    · have : j = l.length := by omega
      subst this
      obtain ⟨o, l3, rfl, hW3⟩ := WrL.tail hW2
      simp only [go_sem, reduceIte, reduceCtorEq, Nat.reduceAdd, Nat.reduceSub, Nat.reduceEqDiff, Nat.reduceLeDiff, Nat.reduceBEq, Nat.reduceLT, Int.ofNat_lt, h]
      rw [leave_rw hlv' rfl rfl nx live, Opt_some]
      exact ⟨y2, nz, l3, rfl, rfl, hW3⟩

end Go.Proofs.W

namespace Go.Proofs.W
open Go.Vs
set_option linter.unusedSimpArgs false
set_option maxRecDepth 100000

def in0 : DInstr := ⟨0, 0, 0, 0⟩
def insAt (l : List DInstr) (k : Nat) : DInstr := l.getD k in0
theorem insAt_get {l : List DInstr} {j : Nat} (h : j < l.length) : l[j] = insAt l j := by simp [insAt, List.getD_eq_getElem?_getD, h]
/-- Instructions as bytes. -/
def codes (l : List DInstr) : Nat → List UInt8
  | 0 => []
  | k + 1 => codes l k ++ cod6 (insAt l k)
theorem cod6_len {x : DInstr} (h : InstrP x) (hw : WfI x) : (cod6 x).length ≤ 31 := by
  have hx := h
  obtain ⟨a, b, c, hs, _⟩ := hx
  exact cod6k_len hs h hw 3 (Nat.le_refl _)
theorem codes_len {l : List DInstr} (h : ∀ x ∈ l, InstrP x) (hw : ∀ x ∈ l, WfInstr x) : ∀ k, k ≤ l.length → (codes l k).length ≤ 31 * k
  | 0, _ => by simp [codes]
  | k + 1, hk => by
    have ih := codes_len h hw k (by omega)
    have hm := List.getElem_mem (show k < l.length by omega)
    have := cod6_len (h _ hm) (wfI_of (hw _ hm))
    rw [insAt_get (by omega)] at this
    simp only [codes, List.length_append]; omega

/-- A function as bytes. -/
def funB (f : DFunc) : List UInt8 := said f.name ++ (minimal f.params.toNat ++ (minimal (zigzag f.result) ++ (flds f.slots f.slots.length ++ (minimal f.code.length ++ (codes f.code f.code.length ++ (cod8 f.sizes f.sizes.length ++ cod8 f.lives f.lives.length))))))

theorem func_fok {n : Nat} {f : DFunc} (h : FuncP n f) (hn : n ≤ 32) : FOk f.slots := by
  obtain ⟨⟨h1, h2, h3, h4, h5, h6, h7⟩, h8, _⟩ := h
  refine ⟨by omega, fun s hs => ?_⟩
  have := named_len (h3.1 s hs)
  have := h8 s hs
  omega
theorem fine_count {l : List DRun} {n : Int} (h : FineR l n) : ∀ k, k < l.length → (k : Int) ≤ (runAt l k).frm
  | 0, _ => by rw [h.2.1]; omega
  | k + 1, hk => by
    have ih := fine_count h k (by omega)
    have := ((h.2.2 (k + 1) hk).2 (by omega)).1
    simp only [Nat.add_sub_cancel] at this; omega
theorem fine_short {l : List DRun} {n : Int} (h : FineR l n) (hn : n ≤ 200) : l.length ≤ 200 := by
  have h0 := h.1
  have h1 := fine_count h (l.length - 1) (by omega)
  have h2 := (h.2.2 (l.length - 1) (by omega)).1
  omega
theorem l02 : ((0 : Int) < ((2 : Nat) : Int)) = True := eq_true (by decide)
theorem l12 : ((1 : Int) < ((2 : Nat) : Int)) = True := eq_true (by decide)
theorem l22 : ((2 : Int) < ((2 : Nat) : Int)) = False := eq_false (by decide)

set_option maxHeartbeats 8000000 in
theorem w_function (f : DFunc) (x : AV) (hx : IsFunc f x) (hwf : WfFunc f) (nt : Nat) (hnt : nt ≤ 32) (hf : FuncP nt f) (m : Mem) {lv k st i : Nat} {y : AV} {b : List UInt8} {post : List (List Nat)} (ha : At m lv k st i y b post) (hb : b.length ≤ 700000) :
    Writes F_image_writer_function [.ptr lv k st 0, x] lv k st i y b (funB f) post (.int .i64 0) m := by
  have hfo := func_fok hf hnt
  obtain ⟨name, params, result, slots, code, sizes, lives⟩ := f
  obtain ⟨w0, w1, w2, w3, rfl, q0, q1, q2, q3⟩ := hx
  obtain ⟨⟨g1, g2, g3, g4, g5, g6, g7⟩, g8, g9, g10, g11, g12, g13⟩ := hf
  dsimp only at q0 q1 q2 q3 g1 g2 g3 g4 g5 g6 g7 g8 g9 g10 g11 g12 g13 hfo
  have hnl := named_len g1
  have hres : in64 result := hwf.result
  suffices h : Does tab F_image_writer_function [.ptr lv k st 0, .agg [.str name, .int .i64 params, .int .i64 result, w0, w1, w2, w3]] m fun v m' => ∃ y' n' live', v = .int .i64 0 ∧ m' = wrote m lv k st y' n' live' ∧ WrL i y' (b ++ funB ⟨name, params, result, slots, code, sizes, lives⟩) live' post by
    obtain ⟨z, h1, y', n', l', h2, h3, h4⟩ := h
    exact ⟨y', n', l', by rw [h1, ← h2, ← h3], h4⟩
  refine does_of t_image_writer_function ?_ (Nat.le_of_ble_eq_true rfl)
  obtain ⟨stk, cur, nx, live, fl⟩ := m
  obtain ⟨hlv, hblk, hfl, hW⟩ := ha
  dsimp only at hlv hfl hW
  have hrow := row_blk hblk (by omega)
  have hk : k < ((stk ++ [cur]).getD lv []).length := (List.getElem?_eq_some_iff.1 hrow).1
  have hid := rw_id hrow
  have hlv' : lv ≤ stk.length := by omega
  have hne : (lv == (stk ++ [cur]).length) = false := by simp; omega
  have hsub : (stk ++ [cur]).length - lv = i + 1 := by simp; omega
  have hlev : ∀ y, lv + (i + 1) = (rw' stk cur lv k st y).length := fun y => by rw [rw_len]; simp; omega
  have hget : ∀ y, ((rw' stk cur lv k st y).getD lv [])[k]? = some ⟨st, [y]⟩ := fun y => rw_get hlv' hk
  have hat : ∀ y b c nz L, WrL (i + 1) y b L post → At ⟨rw' stk cur lv k st y, c, nz, L, fl⟩ lv k st (i + 1) y b post := fun y b c nz L h => ⟨hlev y, blk_rw hlv' hk, hfl, h⟩
  have hlr : ∀ y, fl ≤ (rw' stk cur lv k st y).length + 1 := fun y => by rw [rw_len]; simp; omega
  have hflr : ∀ y, max fl ((stk ++ [cur]).length + 1) ≤ (rw' stk cur lv k st y).length + 1 := fun y => by rw [rw_len]; simp; omega
  have m1 := said_len (s := name) (by omega)
  have m2 := minimal_ten (n := params.toNat) (by omega)
  have m3 := minimal_ten (zigzag_lt hres)
  have m4 := flds_len hfo slots.length (Nat.le_refl _)
  have m5 := minimal_ten (n := code.length) (by omega)
  have m6 := codes_len g9 hwf.code code.length (Nat.le_refl _)
  have r1 := fine_short g12 (by omega)
  have r2 := fine_short g13 (by omega)
  have m7 := cod8_len g12 (by omega) hwf.sizes (by omega) sizes.length (Nat.le_refl _)
  have m8 := cod8_len g13 (by omega) hwf.lives (by omega) lives.length (Nat.le_refl _)
  have hfo16 := hfo.1
  simp only [a_image_writer_function, go_sem, reduceIte, reduceCtorEq, Nat.reduceAdd, Nat.reduceSub, Nat.reduceEqDiff, Nat.reduceLeDiff, Nat.reduceBEq, Nat.reduceLT]
  simp only [hid]
  obtain ⟨y1, n1, l1, hc1, hW1⟩ := w_text name (by omega) _ (hat y b [⟨nx, [.str name, .int .i64 params, .int .i64 result, w0, w1, w2, w3]⟩] (nx + 1) _ (WrL.enter hW)) (by omega)
  rw [wrote_low hlv'] at hc1
  obtain ⟨y2, n2, l2, hc2, hW2⟩ := w_number params.toNat (by omega) _ (hat y1 _ [⟨nx, [.str name, .int .i64 params, .int .i64 result, w0, w1, w2, w3]⟩] n1 l1 hW1) (by simp only [List.length_append]; omega)
  rw [wrote_low hlv', Int.toNat_of_nonneg g4] at hc2
  simp only [go_sem, reduceIte, reduceCtorEq, Nat.reduceAdd, Nat.reduceSub, Nat.reduceEqDiff, Nat.reduceLeDiff, Nat.reduceBEq, Nat.reduceLT, rw_len, hc1, hc2, hne, hget]
  refine Xw_call (w_wire_Signed result hres _ _ _ _ _ (hflr y2)) fun yv ts nv hov => ?_
  obtain ⟨zs, hz, hcz⟩ := hov.elems
  obtain ⟨y3, n3, l3, o3, l4, happ, hcl, hone, hsk, hW3⟩ := WrL.app (hW2.push ts) hz hcz (by simp only [List.length_append]; omega) nv
  have hW3 := WrL.cons o3 hW3
  simp only [go_sem, reduceIte, reduceCtorEq, Nat.reduceAdd, Nat.reduceSub, Nat.reduceEqDiff, Nat.reduceLeDiff, Nat.reduceBEq, Nat.reduceLT, rw_len, hne, hget, happ, hcl, hone, hfl, hsub, hsk, rw_mod]
  obtain ⟨y4, n4, l5, hc4, hW4⟩ := w_fields slots w0 q0 hfo _ (hat y3 _ [⟨nx, [.str name, .int .i64 params, .int .i64 result, w0, w1, w2, w3]⟩] n3 (o3 :: l4) hW3) (by simp only [List.length_append]; omega)
  rw [wrote_low hlv'] at hc4
  obtain ⟨y5, n5, l6, hc5, hW5⟩ := w_number code.length (by omega) _ (hat y4 _ [⟨nx, [.str name, .int .i64 params, .int .i64 result, w0, w1, w2, w3]⟩] n4 l5 hW4) (by simp only [List.length_append]; omega)
  rw [wrote_low hlv'] at hc5
  simp only [go_sem, reduceIte, reduceCtorEq, Nat.reduceAdd, Nat.reduceSub, Nat.reduceEqDiff, Nat.reduceLeDiff, Nat.reduceBEq, Nat.reduceLT, rw_len, hc4, hc5, q1.len]
  have hbl : (b ++ said name ++ minimal params.toNat ++ minimal (zigzag result) ++ flds slots slots.length ++ minimal code.length).length ≤ 800000 := by simp only [List.length_append]; omega
  generalize hB : b ++ said name ++ minimal params.toNat ++ minimal (zigzag result) ++ flds slots slots.length ++ minimal code.length = B at *
  refine XL_rule (α := Nat) (fun j σ => j ≤ code.length ∧ ∃ nz y L, WrL (i + 1) y (B ++ codes code j) L post ∧ heads [0, 3, 42, 43, 44] 1 σ = ⟨tmps 97 [(0, .ptr lv k st 0), (3, .ptr (stk ++ [cur]).length 0 nx 0), (42, w1), (43, .int .i64 code.length), (44, .int .i64 j)], ⟨rw' stk cur lv k st y, [⟨nx, [.str name, .int .i64 params, .int .i64 result, w0, w1, w2, w3]⟩], nz, L, fl⟩⟩) (fun j => code.length - j) 0 ?_ ?_
  · refine ⟨Nat.zero_le _, n5, y5, l6, by simpa [codes] using hW5, ?_⟩
    simp only [go_sem, reduceIte, reduceCtorEq, Nat.reduceAdd, Nat.reduceSub, Nat.reduceEqDiff, Nat.reduceLeDiff, Nat.reduceBEq, Nat.reduceLT]
    rfl
  · rintro j σ ⟨hj, nz, y6, L, hW6, hσ⟩
    rw [hσ]
    clear hσ σ
    dsimp only at hj ⊢
    by_cases h : j < code.length
    · have hmem := List.getElem_mem h
      have hins := g9 _ hmem
      have hwi := wfI_of (hwf.code _ hmem)
      have hop := (hwf.code _ hmem).op
      have e1 : nth w1 j = .agg [.int .u8 (insAt code j).op, .int .i64 (insAt code j).a, .int .i64 (insAt code j).b, .int .i64 (insAt code j).c] := by
        have : IsInstr code[j] (nth w1 j) := q1.nth h
        rw [insAt_get h] at this; exact this
      have hatv := q1.at .i64 h
      have hsucc := succ_i64 h q1.max
      have hcl2 := codes_len g9 hwf.code j (by omega)
      rw [insAt_get h] at hins hwi hop
      have hc6 := cod6_len hins hwi
      simp only [go_sem, reduceIte, reduceCtorEq, Nat.reduceAdd, Nat.reduceSub, Nat.reduceEqDiff, Nat.reduceLeDiff, Nat.reduceBEq, Nat.reduceLT, Int.ofNat_lt, h, hatv, e1, rw_len]
      refine (w_ops_Encode (insAt code j) hop hwi hins _ (hlr y6)).xv fun yb ts nb hob => ?_
      obtain ⟨zs, hz, hcz⟩ := hob.elems
      obtain ⟨y7, n7, l7, o7, l8, happ, hcl, hone, hsk, hW7⟩ := WrL.app (hW6.push ts) hz hcz (by simp only [List.length_append]; omega) nb
      have hW7 := WrL.cons o7 hW7
      simp only [go_sem, reduceIte, reduceCtorEq, Nat.reduceAdd, Nat.reduceSub, Nat.reduceEqDiff, Nat.reduceLeDiff, Nat.reduceBEq, Nat.reduceLT, show ((0 : Int) != 0) = false from rfl, rw_len, hne, hget, happ, hcl, hone, hfl, hsub, hsk, rw_mod, hsucc]
      refine ⟨j + 1, by omega, h, n7, y7, o7 :: l8, ?_, rfl⟩
      rw [codes, ← List.append_assoc]; exact hW7
    · have : j = code.length := by omega
      subst this
      have c2 := q2.refs_cells
      have c3 := q3.refs_cells
      have hi0 : evIaddr 1 (.list 1 .full [w2, w3]) (.int .i64 0) = some (.ro w2.cells) := rfl
      have hi1 : evIaddr 1 (.list 1 .full [w2, w3]) (.int .i64 1) = some (.ro w3.cells) := rfl
      simp only [go_sem, reduceIte, reduceCtorEq, Nat.reduceAdd, Nat.reduceSub, Nat.reduceEqDiff, Nat.reduceLeDiff, Nat.reduceBEq, Nat.reduceLT, Int.ofNat_lt, h, rw_len, c2, c3, q2.one, q3.one, evLen]
      rw [XL_once]
      simp only [go_sem, reduceIte, reduceCtorEq, Nat.reduceAdd, Nat.reduceSub, Nat.reduceEqDiff, Nat.reduceLeDiff, Nat.reduceBEq, Nat.reduceLT, l02, hi0, c2, rw_len, q1.len]
      refine (w_tables_Encode sizes w2 q2 code.length g12 (by omega) (by omega) hwf.sizes (by omega) _ (hlr y6)).xv fun yb ts nb hob => ?_
      obtain ⟨zs, hz, hcz⟩ := hob.elems
      obtain ⟨y7, n7, l7, o7, l8, happ, hcl, hone, hsk, hW7⟩ := WrL.app (hW6.push ts) hz hcz (by simp only [List.length_append]; omega) nb
      have hW7 := WrL.cons o7 hW7
      simp only [go_sem, reduceIte, reduceCtorEq, Nat.reduceAdd, Nat.reduceSub, Nat.reduceEqDiff, Nat.reduceLeDiff, Nat.reduceBEq, Nat.reduceLT, show ((0 : Int) != 0) = false from rfl, rw_len, hne, hget, happ, hcl, hone, hfl, hsub, hsk, rw_mod, w01]
      rw [XL_once]
      simp only [go_sem, reduceIte, reduceCtorEq, Nat.reduceAdd, Nat.reduceSub, Nat.reduceEqDiff, Nat.reduceLeDiff, Nat.reduceBEq, Nat.reduceLT, l12, hi1, c3, rw_len, q1.len]
      refine (w_tables_Encode lives w3 q3 code.length g13 (by omega) (by omega) hwf.lives (by omega) _ (hlr y7)).xv fun yb2 ts2 nb2 hob2 => ?_
      obtain ⟨zs2, hz2, hcz2⟩ := hob2.elems
      obtain ⟨y8, n8, l9, o8, l10, happ2, hcl2, hone2, hsk2, hW8⟩ := WrL.app (hW7.push ts2) hz2 hcz2 (by simp only [List.length_append]; omega) nb2
      rw [pushToks_cons] at happ2
      simp only [go_sem, reduceIte, reduceCtorEq, Nat.reduceAdd, Nat.reduceSub, Nat.reduceEqDiff, Nat.reduceLeDiff, Nat.reduceBEq, Nat.reduceLT, show ((0 : Int) != 0) = false from rfl, rw_len, hne, hget, happ2, hcl2, hone2, hfl, hsub, hsk2, rw_mod, w12]
      rw [XL_once]
      simp only [go_sem, reduceIte, reduceCtorEq, Nat.reduceAdd, Nat.reduceSub, Nat.reduceEqDiff, Nat.reduceLeDiff, Nat.reduceBEq, Nat.reduceLT, l22]
      rw [leave_rw hlv' rfl rfl nx live, Opt_some]
      refine ⟨y8, n8, l10, rfl, rfl, ?_⟩
      subst hB
      unfold funB
      simp only [List.append_assoc] at hW8 ⊢
      exact hW8

end Go.Proofs.W

namespace Go.Proofs.W
open Go.Vs
set_option linter.unusedSimpArgs false
set_option maxRecDepth 100000

def txt (l : List (List UInt8)) (k : Nat) : List UInt8 := l.getD k []
theorem txt_get {l : List (List UInt8)} {j : Nat} (h : j < l.length) : l[j] = txt l j := by simp [txt, List.getD_eq_getElem?_getD, h]
def texB (l : List (List UInt8)) : Nat → List UInt8
  | 0 => minimal l.length
  | k + 1 => texB l k ++ said (txt l k)
def fn0 : DFunc := ⟨[], 0, 0, [], [], [], []⟩
def fnAt (l : List DFunc) (k : Nat) : DFunc := l.getD k fn0
theorem fnAt_get {l : List DFunc} {j : Nat} (h : j < l.length) : l[j] = fnAt l j := by simp [fnAt, List.getD_eq_getElem?_getD, h]
def funs (l : List DFunc) : Nat → List UInt8
  | 0 => minimal l.length
  | k + 1 => funs l k ++ funB (fnAt l k)
/-- An image as bytes. -/
def codI (d : DImage) : List UInt8 := typs d.types d.types.length ++ (texB d.texts d.texts.length ++ funs d.funcs d.funcs.length)
noncomputable def err09 (d : DImage) : Int := if pb (FineI d) then (if (codI d).length > 20000 then 4 else 0) else 8

theorem texB_len {l : List (List UInt8)} (h : ∀ t ∈ l, t.length ≤ 64) (hl : l.length ≤ 32) : ∀ k, k ≤ l.length → (texB l k).length ≤ 10 + 74 * k
  | 0, _ => minimal_ten (by omega)
  | k + 1, hk => by
    have ih := texB_len h hl k (by omega)
    have h1 := h _ (List.getElem_mem (show k < l.length by omega))
    rw [txt_get (by omega)] at h1
    have := said_len (s := txt l k) (by omega)
    simp only [texB, List.length_append]; omega
theorem funB_len {n : Nat} {f : DFunc} (h : FuncP n f) (hn : n ≤ 32) (hw : WfFunc f) : (funB f).length ≤ 15000 := by
  have hfo := func_fok h hn
  obtain ⟨⟨g1, g2, g3, g4, g5, g6, g7⟩, g8, g9, g10, g11, g12, g13⟩ := h
  have hnl := named_len g1
  have m1 := said_len (s := f.name) (by omega)
  have m2 := minimal_ten (n := f.params.toNat) (by omega)
  have m3 := minimal_ten (zigzag_lt hw.result)
  have m4 := flds_len hfo f.slots.length (Nat.le_refl _)
  have m5 := minimal_ten (n := f.code.length) (by omega)
  have m6 := codes_len g9 hw.code f.code.length (Nat.le_refl _)
  have r1 := fine_short g12 (by omega)
  have r2 := fine_short g13 (by omega)
  have m7 := cod8_len g12 (by omega) hw.sizes (by omega) f.sizes.length (Nat.le_refl _)
  have m8 := cod8_len g13 (by omega) hw.lives (by omega) f.lives.length (Nat.le_refl _)
  have hfo16 := hfo.1
  unfold funB
  simp only [List.length_append]; omega
theorem funs_len {n : Nat} {l : List DFunc} (h : ∀ f ∈ l, FuncP n f) (hn : n ≤ 32) (hw : ∀ f ∈ l, WfFunc f) (hl : l.length ≤ 32) : ∀ k, k ≤ l.length → (funs l k).length ≤ 10 + 15000 * k
  | 0, _ => minimal_ten (by omega)
  | k + 1, hk => by
    have ih := funs_len h hn hw hl k (by omega)
    have hm := List.getElem_mem (show k < l.length by omega)
    have := funB_len (h _ hm) hn (hw _ hm)
    rw [fnAt_get (by omega)] at this
    simp only [funs, List.length_append]; omega

theorem at_top {S : List (List Blk)} {C : List Blk} {nz fl st : Nat} {e : List Nat} {live : List (List Nat)} {y : AV} {b : List UInt8} (hC : C[1]? = some ⟨st, [y]⟩) (hf : fl ≤ S.length) (ho : Own IsByte 1 y b e) : At ⟨S, C, nz, e :: live, fl⟩ S.length 1 st 0 y b live :=
  ⟨rfl, by simp [Mem.blk, Mem.row, hC], hf, [], e, rfl, rfl, ho⟩

set_option maxHeartbeats 8000000 in
theorem w_image_Encode (d : DImage) (x : AV) (hx : IsImage d x) (hw : WfImage d) (m : Mem) (hfl : m.floor ≤ m.stk.length + 1) : Okp IsByte 1 tab F_image_Encode [x] m (if err09 d = 0 then codI d else []) (err09 d) := by
  refine okp_of t_image_Encode ?_
  obtain ⟨stk, cur, nx, live, fl⟩ := m
  dsimp only at hfl
  have hfl' : fl ≤ (stk ++ [cur]).length + 1 := by simp; omega
  have hfl0 : fl ≤ (stk ++ [cur]).length := by simp; omega
  have hx' := hx
  have hag := hx.agg.1
  have hF := fun c nz lv => (w_image_fine d x hx hw ⟨stk ++ [cur], c, nz, lv, fl⟩ hfl').eq
  obtain ⟨types, texts, funcs⟩ := d
  obtain ⟨v0, v1, v2, rfl, h0, h1, h2⟩ := hx'
  dsimp only at h0 h1 h2
  simp only [a_image_Encode, go_sem, reduceIte, reduceCtorEq, Nat.reduceAdd, Nat.reduceSub, Nat.reduceEqDiff, Nat.reduceLeDiff, Nat.reduceBEq, Nat.reduceLT, hF]
  by_cases hfi : FineI ⟨types, texts, funcs⟩
  case neg =>
    have he : err09 ⟨types, texts, funcs⟩ = 8 := by unfold err09; rw [pb_false hfi]; rfl
    simp only [go_sem, reduceIte, reduceCtorEq, Nat.reduceAdd, Nat.reduceSub, Nat.reduceEqDiff, Nat.reduceLeDiff, Nat.reduceBEq, Nat.reduceLT, pb_false hfi]
    rw [he, if_neg (by decide)]
    exact fin_pair (.nil _)
  simp only [go_sem, reduceIte, reduceCtorEq, Nat.reduceAdd, Nat.reduceSub, Nat.reduceEqDiff, Nat.reduceLeDiff, Nat.reduceBEq, Nat.reduceLT, pb_true hfi]
  have he : err09 ⟨types, texts, funcs⟩ = if (codI ⟨types, texts, funcs⟩).length > 20000 then 4 else 0 := by unfold err09; rw [pb_true hfi]; rfl
  obtain ⟨hc, a2, a3, a4, a5, a6, a7, a8⟩ := hfi
  dsimp only at hc a2 a3 a4 a5 a6 a7 a8
  have m1 := typs_len hc.2.1 hc.1 types.length (Nat.le_refl _)
  have hcl := hc.1
  generalize hz0 : callNx tab F_image_fine [.agg [v0, v1, v2]] ⟨stk ++ [cur], [⟨nx, [v0, v1, v2]⟩], nx + 1, [] :: live, fl⟩ = z0
  obtain ⟨y1, n1, l1, hc1, hW1⟩ := w_types types v0 h0 hw.types hc.2.1 hcl _ (at_top (S := stk ++ [cur]) (C := [⟨nx, [v0, v1, v2]⟩, ⟨z0, [.nils]⟩]) (nz := z0 + 1) (e := []) (live := live) (b := []) rfl hfl0 (.nil _)) (by simp)
  rw [wrote_top] at hc1
  obtain ⟨e1, rfl, ho1⟩ := WrL.own hW1
  rw [List.nil_append] at ho1
  obtain ⟨y2, n2, l2, hc2, hW2⟩ := w_number texts.length (by omega) _ (at_top (S := stk ++ [cur]) (C := [⟨nx, [v0, v1, v2]⟩, ⟨z0, [y1]⟩]) (nz := n1) (e := e1) (live := live) rfl hfl0 ho1) (by omega)
  rw [wrote_top] at hc2
  obtain ⟨e2, rfl, ho2⟩ := WrL.own hW2
  simp only [List.set_cons_succ, List.set_cons_zero] at hc1 hc2
  simp only [go_sem, reduceIte, reduceCtorEq, Nat.reduceAdd, Nat.reduceSub, Nat.reduceEqDiff, Nat.reduceLeDiff, Nat.reduceBEq, Nat.reduceLT, hc1, h1.len, hc2]
  refine XL_rule (α := Nat) (fun j σ => j ≤ texts.length ∧ ∃ nz y e, Own IsByte 1 y (typs types types.length ++ texB texts j) e ∧ heads [1, 4, 21, 22, 23] 2 σ = ⟨tmps 53 [(1, .ptr (stk ++ [cur]).length 0 nx 0), (4, .ptr (stk ++ [cur]).length 1 z0 0), (21, v1), (22, .int .i64 texts.length), (23, .int .i64 j)], ⟨stk ++ [cur], [⟨nx, [v0, v1, v2]⟩, ⟨z0, [y]⟩], nz, e :: live, fl⟩⟩) (fun j => texts.length - j) 0 ?_ ?_
  · refine ⟨Nat.zero_le _, n2, y2, e2, ho2, ?_⟩
    simp only [go_sem, reduceIte, reduceCtorEq, Nat.reduceAdd, Nat.reduceSub, Nat.reduceEqDiff, Nat.reduceLeDiff, Nat.reduceBEq, Nat.reduceLT]
    rfl
  · rintro j σ ⟨hj, nz, y, e, ho, hσ⟩
    rw [hσ]
    clear hσ σ
    dsimp only at hj ⊢
    by_cases h : j < texts.length
    · have ht : nth v1 j = .str (txt texts j) := by
        have : IsStr texts[j] (nth v1 j) := h1.nth h
        rw [txt_get h] at this; exact this
      have hatv := h1.at .i64 h
      have hsucc := succ_i64 h h1.max
      have htl := texB_len a6 a2 j (by omega)
      have hlt := a6 _ (List.getElem_mem h)
      rw [txt_get h] at hlt
      obtain ⟨y3, n3, l3, hc3, hW3⟩ := w_text (txt texts j) (by omega) _ (at_top (S := stk ++ [cur]) (C := [⟨nx, [v0, v1, v2]⟩, ⟨z0, [y]⟩]) (nz := nz) (e := e) (live := live) rfl hfl0 ho) (by simp only [List.length_append]; omega)
      rw [wrote_top] at hc3
      obtain ⟨e3, rfl, ho3⟩ := WrL.own hW3
      simp only [List.set_cons_succ, List.set_cons_zero] at hc3
      simp only [go_sem, reduceIte, reduceCtorEq, Nat.reduceAdd, Nat.reduceSub, Nat.reduceEqDiff, Nat.reduceLeDiff, Nat.reduceBEq, Nat.reduceLT, Int.ofNat_lt, h, hatv, ht, hc3, hsucc]
      refine ⟨j + 1, by omega, h, n3, y3, e3, ?_, rfl⟩
      rw [texB, ← List.append_assoc]; exact ho3
    · have : j = texts.length := by omega
      subst this
      have m2 := texB_len a6 a2 texts.length (Nat.le_refl _)
      obtain ⟨y3, n3, l3, hc3, hW3⟩ := w_number funcs.length (by omega) _ (at_top (S := stk ++ [cur]) (C := [⟨nx, [v0, v1, v2]⟩, ⟨z0, [y]⟩]) (nz := nz) (e := e) (live := live) rfl hfl0 ho) (by simp only [List.length_append]; omega)
      rw [wrote_top] at hc3
      obtain ⟨e3, rfl, ho3⟩ := WrL.own hW3
      simp only [List.set_cons_succ, List.set_cons_zero] at hc3
      simp only [go_sem, reduceIte, reduceCtorEq, Nat.reduceAdd, Nat.reduceSub, Nat.reduceEqDiff, Nat.reduceLeDiff, Nat.reduceBEq, Nat.reduceLT, Int.ofNat_lt, h, h2.len, hc3]
      refine XL_rule (α := Nat) (fun j σ => j ≤ funcs.length ∧ ∃ nz y e, Own IsByte 1 y (typs types types.length ++ texB texts texts.length ++ funs funcs j) e ∧ heads [4, 35, 36, 37] 2 σ = ⟨tmps 53 [(4, .ptr (stk ++ [cur]).length 1 z0 0), (35, v2), (36, .int .i64 funcs.length), (37, .int .i64 j)], ⟨stk ++ [cur], [⟨nx, [v0, v1, v2]⟩, ⟨z0, [y]⟩], nz, e :: live, fl⟩⟩) (fun j => funcs.length - j) 0 ?_ ?_
      · refine ⟨Nat.zero_le _, n3, y3, e3, ho3, ?_⟩
        simp only [go_sem, reduceIte, reduceCtorEq, Nat.reduceAdd, Nat.reduceSub, Nat.reduceEqDiff, Nat.reduceLeDiff, Nat.reduceBEq, Nat.reduceLT]
        rfl
      · rintro j σ ⟨hj, nz, y, e, ho, hσ⟩
        rw [hσ]
        clear hσ σ
        dsimp only at hj ⊢
        by_cases h : j < funcs.length
        · have hmem := List.getElem_mem h
          have hfp := a7 _ hmem
          have hwf := hw.funcs _ hmem
          have hfn : IsFunc funcs[j] (nth v2 j) := h2.nth h
          rw [fnAt_get h] at hfp hwf hfn
          obtain ⟨u0, u1, u2, u3, e5, k0, k1, k2, k3⟩ := hfn
          have hfn : IsFunc (fnAt funcs j) (nth v2 j) := ⟨u0, u1, u2, u3, e5, k0, k1, k2, k3⟩
          rw [e5] at hfn
          have hatv := h2.at .i64 h
          have hsucc := succ_i64 h h2.max
          have hfl2 := funs_len a7 hcl hw.funcs a4 j (by omega)
          obtain ⟨y4, n4, l4, hc4, hW4⟩ := w_function (fnAt funcs j) _ hfn hwf types.length hcl hfp _ (at_top (S := stk ++ [cur]) (C := [⟨nx, [v0, v1, v2]⟩, ⟨z0, [y]⟩, ⟨nz, [.str (fnAt funcs j).name, .int .i64 (fnAt funcs j).params, .int .i64 (fnAt funcs j).result, u0, u1, u2, u3]⟩]) (nz := nz + 1) (e := e) (live := live) rfl hfl0 ho) (by simp only [List.length_append]; omega)
          rw [wrote_top] at hc4
          obtain ⟨e4, rfl, ho4⟩ := WrL.own hW4
          simp only [List.set_cons_succ, List.set_cons_zero] at hc4
          simp only [go_sem, reduceIte, reduceCtorEq, Nat.reduceAdd, Nat.reduceSub, Nat.reduceEqDiff, Nat.reduceLeDiff, Nat.reduceBEq, Nat.reduceLT, Int.ofNat_lt, h, hatv, e5, k0.one, k1.one, k2.one, k3.one, hc4, show ((0 : Int) != 0) = false from rfl, hsucc]
          refine ⟨j + 1, by omega, h, n4, y4, e4, ?_, rfl⟩
          rw [funs, ← List.append_assoc]; exact ho4
        · have : j = funcs.length := by omega
          subst this
          have hcod : typs types types.length ++ texB texts texts.length ++ funs funcs funcs.length = codI ⟨types, texts, funcs⟩ := by unfold codI; rw [List.append_assoc]
          rw [hcod] at ho
          rw [he]
          by_cases hbig : (codI ⟨types, texts, funcs⟩).length > 20000
          · simp only [go_sem, reduceIte, reduceCtorEq, Nat.reduceAdd, Nat.reduceSub, Nat.reduceEqDiff, Nat.reduceLeDiff, Nat.reduceBEq, Nat.reduceLT, Int.ofNat_lt, h, ho.len, show ((codI ⟨types, texts, funcs⟩).length : Int) > 20000 by omega]
            rw [if_pos hbig, if_neg (by decide)]
            exact fin_pair (.nil _)
          · simp only [go_sem, reduceIte, reduceCtorEq, Nat.reduceAdd, Nat.reduceSub, Nat.reduceEqDiff, Nat.reduceLeDiff, Nat.reduceBEq, Nat.reduceLT, Int.ofNat_lt, h, ho.len, show ¬ ((codI ⟨types, texts, funcs⟩).length : Int) > 20000 by omega]
            rw [if_neg hbig, if_pos rfl]
            exact fin_pair ho

theorem w_image_Check (d : DImage) (x : AV) (hx : IsImage d x) (hw : WfImage d) (m : Mem) (hfl : m.floor ≤ m.stk.length + 1) : Okv tab F_image_Check [x] m (.int .i64 (err09 d)) := by
  refine okv_of t_image_Check ?_
  obtain ⟨stk, cur, nx, live, fl⟩ := m
  dsimp only at hfl
  have hfl' : fl ≤ (stk ++ [cur]).length + 1 := by simp; omega
  have hag := hx.agg
  have hE := fun c nz lv => w_image_Encode d x hx hw ⟨stk ++ [cur], c, nz, lv, fl⟩ hfl'
  obtain ⟨v0, v1, v2, rfl, _⟩ := hx
  simp only [a_image_Check, go_sem, reduceIte, reduceCtorEq, Nat.reduceAdd, Nat.reduceSub, Nat.reduceEqDiff, Nat.reduceLeDiff, Nat.reduceBEq, Nat.reduceLT]
  refine (hE _ _ _).xv fun yb ts nb hob => ?_
  simp only [go_sem, reduceIte, reduceCtorEq, Nat.reduceAdd, Nat.reduceSub, Nat.reduceEqDiff, Nat.reduceLeDiff, Nat.reduceBEq, Nat.reduceLT]
  rw [leave_plain rfl rfl, Opt_some]
  exact ⟨⟨_, rfl⟩, rfl⟩

end Go.Proofs.W

namespace Go.Proofs.W
open Go.Vs
set_option linter.unusedSimpArgs false
set_option maxRecDepth 100000

theorem own_xw {α : Type} {R : α → AV → Prop} {s : Nat} {y : AV} {xs cs : List α} {e : List Nat} {rest : List (List Nat)} {z : AV} {zs : List AV} {bytes : Nat} {stk : List (List Blk)} {cur : List Blk} {nx fl fl0 : Nat} {m0 mm : Mem} {ws : Watch} {d : Option Nat} {l : List AOper} {ρ : List AV} {k : Kont}
    (h : Own R s y xs e) (hz : ∀ m : Mem, m.elems s z = some zs) (hc : All2 R cs zs) (hl : (xs.length + cs.length) * bytes ≤ 140737488355328)
    (q : ∀ y' n e', Own R s y' (xs ++ cs) e' → Xd tab fl0 m0 ws l (setDst ρ d y') ⟨stk, cur, n, e' :: rest, fl⟩ k) : Xw tab (evApp ⟨stk, cur, nx, e :: rest, fl⟩ s bytes y z) 2 fl0 m0 ws d l ρ mm k := by
  obtain ⟨y', n, live', h1, h2⟩ := (h.wr rest).app hz hc hl stk cur nx fl
  obtain ⟨e', rfl, h3⟩ := h2.own
  rw [h1, Xw_2]; exact q y' n e' h3

set_option maxHeartbeats 2000000 in
theorem w_ref09_fields (l : List DField) (v : AV) (hv : IsSl IsField 2 l v) (hf : FOk l) (m : Mem) : Okl IsByte 1 tab F_wreckageref09_fields [v] m (flds l l.length) := by
  refine okl_of t_wreckageref09_fields ?_
  obtain ⟨stk, cur, nx, live, fl⟩ := m
  have hvl := hv.len
  have h16 := hf.1
  simp only [a_wreckageref09_fields, go_sem, reduceIte, reduceCtorEq, Nat.reduceAdd, Nat.reduceSub, Nat.reduceEqDiff, Nat.reduceLeDiff, Nat.reduceBEq, Nat.reduceLT, hvl]
  refine (w_wreckageref09_number l.length (by omega) _).xv fun y ts k ho => ?_
  simp only [go_sem, reduceIte, reduceCtorEq, Nat.reduceAdd, Nat.reduceSub, Nat.reduceEqDiff, Nat.reduceLeDiff, Nat.reduceBEq, Nat.reduceLT]
  refine XL_rule (α := Nat) (fun j σ => j ≤ l.length ∧ ∃ nz y e, Own IsByte 1 y (flds l j) e ∧ heads [0, 3, 4] 0 σ = ⟨tmps 30 [(0, v), (3, y), (4, .int .i64 j)], ⟨stk ++ [cur], [], nz, e :: live, fl⟩⟩) (fun j => l.length - j) 0 ?_ ?_
  · refine ⟨Nat.zero_le _, k, y, _, ho, ?_⟩
    simp only [go_sem, reduceIte, reduceCtorEq, Nat.reduceAdd, Nat.reduceSub, Nat.reduceEqDiff, Nat.reduceLeDiff, Nat.reduceBEq, Nat.reduceLT, List.append_nil]
    rfl
  · rintro j σ ⟨hj, nz, y, e, ho, hσ⟩
    rw [hσ]
    clear hσ σ
    dsimp only at hj ⊢
    by_cases h : j < l.length
    · have e1 : nth v j = .agg [.str (fldAt l j).name, .int .i64 (fldAt l j).typ] := by
        have : IsField l[j] (nth v j) := hv.nth h
        rw [fldAt_get h] at this; exact this
      have hatv := hv.at .i64 h
      have hsucc := succ_i64 h hv.max
      obtain ⟨h1, h2, h3⟩ := hf.at h
      have hfl2 := flds_len hf j (by omega)
      have m1 := said_len (s := (fldAt l j).name) (by omega)
      have m2 := minimal_ten (n := (fldAt l j).typ.toNat) (by omega)
      have et : (fldAt l j).typ = (((fldAt l j).typ.toNat : Nat) : Int) := by omega
      simp only [go_sem, reduceIte, reduceCtorEq, Nat.reduceAdd, Nat.reduceSub, Nat.reduceEqDiff, Nat.reduceLeDiff, Nat.reduceBEq, Nat.reduceLT, Int.ofNat_lt, h, hvl, hatv, e1]
      refine Xw_call (w_wreckageref02_Said (fldAt l j).name (by omega) _) fun y1 t1 k1 ho1 => ?_
      simp only [go_sem, reduceIte, reduceCtorEq, Nat.reduceAdd, Nat.reduceSub, Nat.reduceEqDiff, Nat.reduceLeDiff, Nat.reduceBEq, Nat.reduceLT]
      obtain ⟨z1, hz1, hc1⟩ := ho1.elems
      refine own_xw (ho.push t1) hz1 hc1 (by omega) fun y2 k2 e2 ho2 => ?_
      simp only [go_sem, reduceIte, reduceCtorEq, Nat.reduceAdd, Nat.reduceSub, Nat.reduceEqDiff, Nat.reduceLeDiff, Nat.reduceBEq, Nat.reduceLT, hatv, e1]
      rw [et]
      refine Xw_call (w_wreckageref09_number (fldAt l j).typ.toNat (by omega) _) fun y3 t3 k3 ho3 => ?_
      simp only [go_sem, reduceIte, reduceCtorEq, Nat.reduceAdd, Nat.reduceSub, Nat.reduceEqDiff, Nat.reduceLeDiff, Nat.reduceBEq, Nat.reduceLT]
      obtain ⟨z3, hz3, hc3⟩ := ho3.elems
      refine own_xw (ho2.push t3) hz3 hc3 (by simp only [List.length_append]; omega) fun y4 k4 e4 ho4 => ?_
      simp only [go_sem, reduceIte, reduceCtorEq, Nat.reduceAdd, Nat.reduceSub, Nat.reduceEqDiff, Nat.reduceLeDiff, Nat.reduceBEq, Nat.reduceLT, hsucc]
      refine ⟨j + 1, by omega, h, k4, y4, e4, ?_, rfl⟩
      rw [flds, ← List.append_assoc]; exact ho4
    · have : j = l.length := by omega
      subst this
      simp only [go_sem, reduceIte, reduceCtorEq, Nat.reduceAdd, Nat.reduceSub, Nat.reduceEqDiff, Nat.reduceLeDiff, Nat.reduceBEq, Nat.reduceLT, Int.ofNat_lt, h, hvl]
      exact fin_own ho

set_option maxHeartbeats 8000000 in
theorem w_ref09_Coded (d : DImage) (x : AV) (hx : IsImage d x) (hw : WfImage d) (hfi : FineI d) (m : Mem) : Okl IsByte 1 tab F_wreckageref09_Coded [x] m (codI d) := by
  refine okl_of t_wreckageref09_Coded ?_
  obtain ⟨stk, cur, nx, live, fl⟩ := m
  obtain ⟨types, texts, funcs⟩ := d
  obtain ⟨v0, v1, v2, rfl, h0, h1, h2⟩ := hx
  dsimp only at h0 h1 h2
  obtain ⟨hc, a2, a3, a4, a5, a6, a7, a8⟩ := hfi
  dsimp only at hc a2 a3 a4 a5 a6 a7 a8
  have hcl := hc.1
  simp only [a_wreckageref09_Coded, go_sem, reduceIte, reduceCtorEq, Nat.reduceAdd, Nat.reduceSub, Nat.reduceEqDiff, Nat.reduceLeDiff, Nat.reduceBEq, Nat.reduceLT, h0.len]
  refine (w_wreckageref09_number types.length (by omega) _).xv fun y ts k ho => ?_
  simp only [go_sem, reduceIte, reduceCtorEq, Nat.reduceAdd, Nat.reduceSub, Nat.reduceEqDiff, Nat.reduceLeDiff, Nat.reduceBEq, Nat.reduceLT]
  refine XL_rule (α := Nat) (fun j σ => j ≤ types.length ∧ ∃ nz y e, Own IsByte 1 y (typs types j) e ∧ heads [1, 3, 4] 1 σ = ⟨tmps 148 [(1, .ptr (stk ++ [cur]).length 0 nx 0), (3, y), (4, .int .i64 j)], ⟨stk ++ [cur], [⟨nx, [v0, v1, v2]⟩], nz, e :: live, fl⟩⟩) (fun j => types.length - j) 0 ?_ ?_
  · refine ⟨Nat.zero_le _, k, y, _, ho, ?_⟩
    simp only [go_sem, reduceIte, reduceCtorEq, Nat.reduceAdd, Nat.reduceSub, Nat.reduceEqDiff, Nat.reduceLeDiff, Nat.reduceBEq, Nat.reduceLT, List.append_nil]
    rfl
  · rintro j σ ⟨hj, nz, y, e, ho, hσ⟩
    rw [hσ]
    clear hσ σ
    dsimp only at hj ⊢
    by_cases h : j < types.length
    · skip
      have hfine := hc.2.1 j h
      have hkind := (hw.types _ (List.getElem_mem h)).kind
      obtain ⟨u, e1, q1⟩ := h0.nth h
      have hatv := h0.at .i64 h
      have hsucc := succ_i64 h h0.max
      have htl := typs_len hc.2.1 hcl j (by omega)
      rw [typAt_get h] at hfine hkind e1 q1
      have hflen := fine_len hfine
      have hfo := fine_fok hfine (by omega)
      generalize htt : typAt types j = t at *
      obtain ⟨kind, elem, len, fields⟩ := t
      dsimp only at e1 q1 hflen hkind hfo
      simp only [go_sem, reduceIte, reduceCtorEq, Nat.reduceAdd, Nat.reduceSub, Nat.reduceEqDiff, Nat.reduceLeDiff, Nat.reduceBEq, Nat.reduceLT, Int.ofNat_lt, h, h0.len, hatv, e1, q1.one]
      refine ho.xv (elems_list · 1 .full [.int .u8 kind]) (all2_one (isByte_nat' hkind)) (by simp only [List.length_cons, List.length_nil]; omega) fun y1 k1 e2 ho1 => ?_
      simp only [go_sem, reduceIte, reduceCtorEq, Nat.reduceAdd, Nat.reduceSub, Nat.reduceEqDiff, Nat.reduceLeDiff, Nat.reduceBEq, Nat.reduceLT]
      by_cases k47 : kind = 4 ∨ kind = 7
      · have hel := hflen.2.2.1 k47
        have m4 := minimal_ten (n := elem.toNat) (by omega)
        have et : elem = ((elem.toNat : Nat) : Int) := by omega
        by_cases k4 : kind = 4
        · have k4' : (kind == 4) = true := by simpa using k4
          simp only [go_sem, reduceIte, reduceCtorEq, Nat.reduceAdd, Nat.reduceSub, Nat.reduceEqDiff, Nat.reduceLeDiff, Nat.reduceBEq, Nat.reduceLT, k4']
          rw [et]
          refine (w_wreckageref09_number elem.toNat (by omega) _).xv fun y2 t2 k2 ho2 => ?_
          simp only [go_sem, reduceIte, reduceCtorEq, Nat.reduceAdd, Nat.reduceSub, Nat.reduceEqDiff, Nat.reduceLeDiff, Nat.reduceBEq, Nat.reduceLT]
          obtain ⟨z2, hz2, hc2⟩ := ho2.elems
          refine (ho1.push t2).xv hz2 hc2 (by simp only [List.length_append, List.length_cons, List.length_nil]; omega) fun y3 k3 e3 ho3 => ?_
          simp only [go_sem, reduceIte, reduceCtorEq, Nat.reduceAdd, Nat.reduceSub, Nat.reduceEqDiff, Nat.reduceLeDiff, Nat.reduceBEq, Nat.reduceLT, hsucc]
          have hT : typB ⟨kind, elem, len, fields⟩ = minimal elem.toNat := by
            unfold typB
            rw [if_pos k47]
          refine ⟨j + 1, by omega, h, k3, y3, e3, ?_, rfl⟩
          have hbb : typs types (j + 1) = typs types j ++ ([UInt8.ofNat kind.toNat] ++ minimal elem.toNat) := by rw [typs, htt, hT]
          rw [hbb]
          have hWW := ho3
          simp only [List.append_assoc, List.append_nil] at hWW ⊢
          exact hWW
        · have k4' : (kind == 4) = false := by simpa using k4
          have k7' : (kind == 7) = true := by simp; omega
          simp only [go_sem, reduceIte, reduceCtorEq, Nat.reduceAdd, Nat.reduceSub, Nat.reduceEqDiff, Nat.reduceLeDiff, Nat.reduceBEq, Nat.reduceLT, k4', k7']
          rw [et]
          refine (w_wreckageref09_number elem.toNat (by omega) _).xv fun y2 t2 k2 ho2 => ?_
          simp only [go_sem, reduceIte, reduceCtorEq, Nat.reduceAdd, Nat.reduceSub, Nat.reduceEqDiff, Nat.reduceLeDiff, Nat.reduceBEq, Nat.reduceLT]
          obtain ⟨z2, hz2, hc2⟩ := ho2.elems
          refine (ho1.push t2).xv hz2 hc2 (by simp only [List.length_append, List.length_cons, List.length_nil]; omega) fun y3 k3 e3 ho3 => ?_
          simp only [go_sem, reduceIte, reduceCtorEq, Nat.reduceAdd, Nat.reduceSub, Nat.reduceEqDiff, Nat.reduceLeDiff, Nat.reduceBEq, Nat.reduceLT, hsucc]
          have hT : typB ⟨kind, elem, len, fields⟩ = minimal elem.toNat := by
            unfold typB
            rw [if_pos k47]
          refine ⟨j + 1, by omega, h, k3, y3, e3, ?_, rfl⟩
          have hbb : typs types (j + 1) = typs types j ++ ([UInt8.ofNat kind.toNat] ++ minimal elem.toNat) := by rw [typs, htt, hT]
          rw [hbb]
          have hWW := ho3
          simp only [List.append_assoc, List.append_nil] at hWW ⊢
          exact hWW
      · have k4' : (kind == 4) = false := by simp; omega
        have k7' : (kind == 7) = false := by simp; omega
        by_cases k6 : kind = 6
        · have k6' : (kind == 6) = true := by simpa using k6
          have e6 := hflen.2.2.2.1 k6
          have e7 := hflen.2.1 k6
          have m6 := minimal_ten (n := elem.toNat) (by omega)
          have m7 := minimal_ten (n := len.toNat) (by omega)
          have et : elem = ((elem.toNat : Nat) : Int) := by omega
          have el : len = ((len.toNat : Nat) : Int) := by omega
          simp only [go_sem, reduceIte, reduceCtorEq, Nat.reduceAdd, Nat.reduceSub, Nat.reduceEqDiff, Nat.reduceLeDiff, Nat.reduceBEq, Nat.reduceLT, k4', k7', k6']
          rw [et]
          refine Xw_call (w_wreckageref09_number elem.toNat (by omega) _) fun y2 t2 k2 ho2 => ?_
          simp only [go_sem, reduceIte, reduceCtorEq, Nat.reduceAdd, Nat.reduceSub, Nat.reduceEqDiff, Nat.reduceLeDiff, Nat.reduceBEq, Nat.reduceLT]
          obtain ⟨z2, hz2, hc2⟩ := ho2.elems
          refine own_xw (ho1.push t2) hz2 hc2 (by simp only [List.length_append, List.length_cons, List.length_nil]; omega) fun y3 k3 e3 ho3 => ?_
          simp only [go_sem, reduceIte, reduceCtorEq, Nat.reduceAdd, Nat.reduceSub, Nat.reduceEqDiff, Nat.reduceLeDiff, Nat.reduceBEq, Nat.reduceLT]
          rw [el]
          refine Xw_call (w_wreckageref09_number len.toNat (by omega) _) fun y4 t4 k4' ho4 => ?_
          simp only [go_sem, reduceIte, reduceCtorEq, Nat.reduceAdd, Nat.reduceSub, Nat.reduceEqDiff, Nat.reduceLeDiff, Nat.reduceBEq, Nat.reduceLT]
          obtain ⟨z4, hz4, hc4⟩ := ho4.elems
          refine own_xw (ho3.push t4) hz4 hc4 (by simp only [List.length_append, List.length_cons, List.length_nil]; omega) fun y5 k5 e5 ho5 => ?_
          simp only [go_sem, reduceIte, reduceCtorEq, Nat.reduceAdd, Nat.reduceSub, Nat.reduceEqDiff, Nat.reduceLeDiff, Nat.reduceBEq, Nat.reduceLT, hsucc]
          have hT : typB ⟨kind, elem, len, fields⟩ = (minimal elem.toNat ++ minimal len.toNat) := by
            unfold typB
            rw [if_neg k47, if_pos k6]
          refine ⟨j + 1, by omega, h, k5, y5, e5, ?_, rfl⟩
          have hbb : typs types (j + 1) = typs types j ++ ([UInt8.ofNat kind.toNat] ++ (minimal elem.toNat ++ minimal len.toNat)) := by rw [typs, htt, hT]
          rw [hbb]
          have hWW := ho5
          simp only [List.append_assoc, List.append_nil] at hWW ⊢
          exact hWW
        · have k6' : (kind == 6) = false := by simpa using k6
          by_cases k5 : kind = 5
          · have k5' : (kind == 5) = true := by simpa using k5
            have m5 := flds_len (hfo k5) fields.length (Nat.le_refl _)
            simp only [go_sem, reduceIte, reduceCtorEq, Nat.reduceAdd, Nat.reduceSub, Nat.reduceEqDiff, Nat.reduceLeDiff, Nat.reduceBEq, Nat.reduceLT, k4', k7', k6', k5']
            refine (w_ref09_fields fields u q1 (hfo k5) _).xv fun y2 t2 k2 ho2 => ?_
            simp only [go_sem, reduceIte, reduceCtorEq, Nat.reduceAdd, Nat.reduceSub, Nat.reduceEqDiff, Nat.reduceLeDiff, Nat.reduceBEq, Nat.reduceLT]
            obtain ⟨z2, hz2, hc2⟩ := ho2.elems
            refine (ho1.push t2).xv hz2 hc2 (by simp only [List.length_append, List.length_cons, List.length_nil]; omega) fun y3 k3 e3 ho3 => ?_
            simp only [go_sem, reduceIte, reduceCtorEq, Nat.reduceAdd, Nat.reduceSub, Nat.reduceEqDiff, Nat.reduceLeDiff, Nat.reduceBEq, Nat.reduceLT, hsucc]
            have hT : typB ⟨kind, elem, len, fields⟩ = flds fields fields.length := by
              unfold typB
              rw [if_neg k47, if_neg k6, if_pos k5]
            refine ⟨j + 1, by omega, h, k3, y3, e3, ?_, rfl⟩
            have hbb : typs types (j + 1) = typs types j ++ ([UInt8.ofNat kind.toNat] ++ flds fields fields.length) := by rw [typs, htt, hT]
            rw [hbb]
            have hWW := ho3
            simp only [List.append_assoc, List.append_nil] at hWW ⊢
            exact hWW
          · have k5' : (kind == 5) = false := by simpa using k5
            simp only [go_sem, reduceIte, reduceCtorEq, Nat.reduceAdd, Nat.reduceSub, Nat.reduceEqDiff, Nat.reduceLeDiff, Nat.reduceBEq, Nat.reduceLT, k4', k7', k6', k5', hsucc]
            have hT : typB ⟨kind, elem, len, fields⟩ = [] := by
              unfold typB
              rw [if_neg k47, if_neg k6, if_neg k5]
            refine ⟨j + 1, by omega, h, k1, y1, e2, ?_, rfl⟩
            have hbb : typs types (j + 1) = typs types j ++ ([UInt8.ofNat kind.toNat] ++ []) := by rw [typs, htt, hT]
            rw [hbb]
            have hWW := ho1
            simp only [List.append_assoc, List.append_nil] at hWW ⊢
            exact hWW
    · have : j = types.length := by omega
      subst this
      have mt := typs_len hc.2.1 hcl types.length (Nat.le_refl _)
      have mn := minimal_ten (n := texts.length) (by omega)
      simp only [go_sem, reduceIte, reduceCtorEq, Nat.reduceAdd, Nat.reduceSub, Nat.reduceEqDiff, Nat.reduceLeDiff, Nat.reduceBEq, Nat.reduceLT, Int.ofNat_lt, h, h0.len, h1.len]
      refine (w_wreckageref09_number texts.length (by omega) _).xv fun y1 t1 k1 ho1 => ?_
      simp only [go_sem, reduceIte, reduceCtorEq, Nat.reduceAdd, Nat.reduceSub, Nat.reduceEqDiff, Nat.reduceLeDiff, Nat.reduceBEq, Nat.reduceLT]
      obtain ⟨z1, hz1, hc1⟩ := ho1.elems
      refine (ho.push t1).xv hz1 hc1 (by omega) fun y2 k2 e2 ho2 => ?_
      simp only [go_sem, reduceIte, reduceCtorEq, Nat.reduceAdd, Nat.reduceSub, Nat.reduceEqDiff, Nat.reduceLeDiff, Nat.reduceBEq, Nat.reduceLT]
      refine XL_rule (α := Nat) (fun j σ => j ≤ texts.length ∧ ∃ nz y e, Own IsByte 1 y (typs types types.length ++ texB texts j) e ∧ heads [1, 3, 6] 1 σ = ⟨tmps 148 [(1, .ptr (stk ++ [cur]).length 0 nx 0), (3, y), (6, .int .i64 j)], ⟨stk ++ [cur], [⟨nx, [v0, v1, v2]⟩], nz, e :: live, fl⟩⟩) (fun j => texts.length - j) 0 ?_ ?_
      · refine ⟨Nat.zero_le _, k2, y2, e2, ho2, ?_⟩
        simp only [go_sem, reduceIte, reduceCtorEq, Nat.reduceAdd, Nat.reduceSub, Nat.reduceEqDiff, Nat.reduceLeDiff, Nat.reduceBEq, Nat.reduceLT]
        rfl
      · rintro j σ ⟨hj, nz, y, e, ho, hσ⟩
        rw [hσ]
        clear hσ σ
        dsimp only at hj ⊢
        by_cases h : j < texts.length
        · have ht : nth v1 j = .str (txt texts j) := by
            have : IsStr texts[j] (nth v1 j) := h1.nth h
            rw [txt_get h] at this; exact this
          have hatv := h1.at .i64 h
          have hsucc := succ_i64 h h1.max
          have htl := texB_len a6 a2 j (by omega)
          have hlt := a6 _ (List.getElem_mem h)
          rw [txt_get h] at hlt
          have m1 := said_len (s := txt texts j) (by omega)
          simp only [go_sem, reduceIte, reduceCtorEq, Nat.reduceAdd, Nat.reduceSub, Nat.reduceEqDiff, Nat.reduceLeDiff, Nat.reduceBEq, Nat.reduceLT, Int.ofNat_lt, h, h1.len, hatv, ht]
          refine (w_wreckageref02_Said (txt texts j) (by omega) _).xv fun y3 t3 k3 ho3 => ?_
          simp only [go_sem, reduceIte, reduceCtorEq, Nat.reduceAdd, Nat.reduceSub, Nat.reduceEqDiff, Nat.reduceLeDiff, Nat.reduceBEq, Nat.reduceLT]
          obtain ⟨z3, hz3, hc3⟩ := ho3.elems
          refine (ho.push t3).xv hz3 hc3 (by simp only [List.length_append]; omega) fun y4 k4 e4 ho4 => ?_
          simp only [go_sem, reduceIte, reduceCtorEq, Nat.reduceAdd, Nat.reduceSub, Nat.reduceEqDiff, Nat.reduceLeDiff, Nat.reduceBEq, Nat.reduceLT, hsucc]
          refine ⟨j + 1, by omega, h, k4, y4, e4, ?_, rfl⟩
          rw [texB, ← List.append_assoc]; exact ho4
        · have : j = texts.length := by omega
          subst this
          have mx := texB_len a6 a2 texts.length (Nat.le_refl _)
          have mn2 := minimal_ten (n := funcs.length) (by omega)
          simp only [go_sem, reduceIte, reduceCtorEq, Nat.reduceAdd, Nat.reduceSub, Nat.reduceEqDiff, Nat.reduceLeDiff, Nat.reduceBEq, Nat.reduceLT, Int.ofNat_lt, h, h1.len, h2.len]
          refine (w_wreckageref09_number funcs.length (by omega) _).xv fun y3 t3 k3 ho3 => ?_
          simp only [go_sem, reduceIte, reduceCtorEq, Nat.reduceAdd, Nat.reduceSub, Nat.reduceEqDiff, Nat.reduceLeDiff, Nat.reduceBEq, Nat.reduceLT]
          obtain ⟨z3, hz3, hc3⟩ := ho3.elems
          refine (ho.push t3).xv hz3 hc3 (by simp only [List.length_append]; omega) fun y4 k4 e4 ho4 => ?_
          simp only [go_sem, reduceIte, reduceCtorEq, Nat.reduceAdd, Nat.reduceSub, Nat.reduceEqDiff, Nat.reduceLeDiff, Nat.reduceBEq, Nat.reduceLT]
          refine XL_rule (α := Nat) (fun j σ => j ≤ funcs.length ∧ ∃ nz y e, Own IsByte 1 y (typs types types.length ++ texB texts texts.length ++ funs funcs j) e ∧ heads [1, 3, 7] 1 σ = ⟨tmps 148 [(1, .ptr (stk ++ [cur]).length 0 nx 0), (3, y), (7, .int .i64 j)], ⟨stk ++ [cur], [⟨nx, [v0, v1, v2]⟩], nz, e :: live, fl⟩⟩) (fun j => funcs.length - j) 0 ?_ ?_
          · refine ⟨Nat.zero_le _, k4, y4, e4, ho4, ?_⟩
            simp only [go_sem, reduceIte, reduceCtorEq, Nat.reduceAdd, Nat.reduceSub, Nat.reduceEqDiff, Nat.reduceLeDiff, Nat.reduceBEq, Nat.reduceLT]
            rfl
          · rintro j σ ⟨hj, nz, y, e, ho, hσ⟩
            rw [hσ]
            clear hσ σ
            dsimp only at hj ⊢
            by_cases h : j < funcs.length
            · skip
              have hmem := List.getElem_mem h
              have hfp := a7 _ hmem
              have hwf := hw.funcs _ hmem
              have hfn : IsFunc funcs[j] (nth v2 j) := h2.nth h
              rw [fnAt_get h] at hfp hwf hfn
              have hfo := func_fok hfp hcl
              have hfun := funs_len a7 hcl hw.funcs a4 j (by omega)
              have hatv := h2.at .i64 h
              have hsucc := succ_i64 h h2.max
              generalize hff : fnAt funcs j = f at *
              obtain ⟨name, params, result, slots, code, sizes, lives⟩ := f
              obtain ⟨w0, w1, w2, w3, e1, q0, q1, q2, q3⟩ := hfn
              obtain ⟨⟨g1, g2, g3, g4, g5, g6, g7⟩, g8, g9, g10, g11, g12, g13⟩ := hfp
              dsimp only at e1 q0 q1 q2 q3 g1 g2 g3 g4 g5 g6 g7 g8 g9 g10 g11 g12 g13 hfo
              have hnl := named_len g1
              have hres : in64 result := hwf.result
              have m1 := said_len (s := name) (by omega)
              have m2 := minimal_ten (n := params.toNat) (by omega)
              have m3 := minimal_ten (zigzag_lt hres)
              have m4 := flds_len hfo slots.length (Nat.le_refl _)
              have m5 := minimal_ten (n := code.length) (by omega)
              have m6 := codes_len g9 hwf.code code.length (Nat.le_refl _)
              have r1 := fine_short g12 (by omega)
              have r2 := fine_short g13 (by omega)
              have m7 := cod8_len g12 (by omega) hwf.sizes (by omega) sizes.length (Nat.le_refl _)
              have m8 := cod8_len g13 (by omega) hwf.lives (by omega) lives.length (Nat.le_refl _)
              have hfo16 := hfo.1
              have ep : params = ((params.toNat : Nat) : Int) := by omega
              simp only [go_sem, reduceIte, reduceCtorEq, Nat.reduceAdd, Nat.reduceSub, Nat.reduceEqDiff, Nat.reduceLeDiff, Nat.reduceBEq, Nat.reduceLT, Int.ofNat_lt, h, h2.len, hatv, e1, q0.one, q1.one, q2.one, q3.one]
              refine Xw_call (w_wreckageref02_Said name (by omega) _) fun y1 t1 k1 ho1 => ?_
              simp only [go_sem, reduceIte, reduceCtorEq, Nat.reduceAdd, Nat.reduceSub, Nat.reduceEqDiff, Nat.reduceLeDiff, Nat.reduceBEq, Nat.reduceLT]
              obtain ⟨z1, hz1, hc1⟩ := ho1.elems
              refine own_xw (ho.push t1) hz1 hc1 (by simp only [List.length_append]; omega) fun y2 k2 e2 ho2 => ?_
              simp only [go_sem, reduceIte, reduceCtorEq, Nat.reduceAdd, Nat.reduceSub, Nat.reduceEqDiff, Nat.reduceLeDiff, Nat.reduceBEq, Nat.reduceLT]
              rw [ep]
              refine Xw_call (w_wreckageref09_number params.toNat (by omega) _) fun y3 t3 k3 ho3 => ?_
              simp only [go_sem, reduceIte, reduceCtorEq, Nat.reduceAdd, Nat.reduceSub, Nat.reduceEqDiff, Nat.reduceLeDiff, Nat.reduceBEq, Nat.reduceLT]
              obtain ⟨z3, hz3, hc3⟩ := ho3.elems
              refine own_xw (ho2.push t3) hz3 hc3 (by simp only [List.length_append]; omega) fun y4 k4 e4 ho4 => ?_
              simp only [go_sem, reduceIte, reduceCtorEq, Nat.reduceAdd, Nat.reduceSub, Nat.reduceEqDiff, Nat.reduceLeDiff, Nat.reduceBEq, Nat.reduceLT, (w_wreckageref02_Double result hres _).eq]
              refine (w_wreckageref02_Minimal _ (zigzag_lt hres) _).xv fun y5 t5 k5 ho5 => ?_
              simp only [go_sem, reduceIte, reduceCtorEq, Nat.reduceAdd, Nat.reduceSub, Nat.reduceEqDiff, Nat.reduceLeDiff, Nat.reduceBEq, Nat.reduceLT]
              obtain ⟨z5, hz5, hc5⟩ := ho5.elems
              refine (ho4.push t5).xv hz5 hc5 (by simp only [List.length_append]; omega) fun y6 k6 e6 ho6 => ?_
              simp only [go_sem, reduceIte, reduceCtorEq, Nat.reduceAdd, Nat.reduceSub, Nat.reduceEqDiff, Nat.reduceLeDiff, Nat.reduceBEq, Nat.reduceLT]
              refine Xw_call (w_ref09_fields slots w0 q0 hfo _) fun y7 t7 k7 ho7 => ?_
              simp only [go_sem, reduceIte, reduceCtorEq, Nat.reduceAdd, Nat.reduceSub, Nat.reduceEqDiff, Nat.reduceLeDiff, Nat.reduceBEq, Nat.reduceLT]
              obtain ⟨z7, hz7, hc7⟩ := ho7.elems
              refine own_xw (ho6.push t7) hz7 hc7 (by simp only [List.length_append]; omega) fun y8 k8 e8 ho8 => ?_
              simp only [go_sem, reduceIte, reduceCtorEq, Nat.reduceAdd, Nat.reduceSub, Nat.reduceEqDiff, Nat.reduceLeDiff, Nat.reduceBEq, Nat.reduceLT, q1.len]
              refine Xw_call (w_wreckageref09_number code.length (by omega) _) fun y9 t9 k9 ho9 => ?_
              simp only [go_sem, reduceIte, reduceCtorEq, Nat.reduceAdd, Nat.reduceSub, Nat.reduceEqDiff, Nat.reduceLeDiff, Nat.reduceBEq, Nat.reduceLT]
              obtain ⟨z9, hz9, hc9⟩ := ho9.elems
              refine own_xw (ho8.push t9) hz9 hc9 (by simp only [List.length_append]; omega) fun y10 k10 e10 ho10 => ?_
              simp only [go_sem, reduceIte, reduceCtorEq, Nat.reduceAdd, Nat.reduceSub, Nat.reduceEqDiff, Nat.reduceLeDiff, Nat.reduceBEq, Nat.reduceLT]
              have hbl : (typs types types.length ++ texB texts texts.length ++ funs funcs j ++ said name ++ minimal params.toNat ++ minimal (zigzag result) ++ flds slots slots.length ++ minimal code.length).length ≤ 800000 := by simp only [List.length_append]; omega
              generalize hB : typs types types.length ++ texB texts texts.length ++ funs funcs j ++ said name ++ minimal params.toNat ++ minimal (zigzag result) ++ flds slots slots.length ++ minimal code.length = B at *
              refine XL_rule (α := Nat) (fun q σ => q ≤ code.length ∧ ∃ nz' y e, Own IsByte 1 y (B ++ codes code q) e ∧ heads [1, 3, 7, 8, 9] 2 σ = ⟨tmps 148 [(1, .ptr (stk ++ [cur]).length 0 nx 0), (3, y), (7, .int .i64 j), (8, .ptr (stk ++ [cur]).length 1 nz 0), (9, .int .i64 q)], ⟨stk ++ [cur], [⟨nx, [v0, v1, v2]⟩, ⟨nz, [.str name, .int .i64 ((params.toNat : Nat) : Int), .int .i64 result, w0, w1, w2, w3]⟩], nz', e :: live, fl⟩⟩) (fun q => code.length - q) 0 ?_ ?_
              · refine ⟨Nat.zero_le _, k10, y10, e10, by simpa [codes] using ho10, ?_⟩
                simp only [go_sem, reduceIte, reduceCtorEq, Nat.reduceAdd, Nat.reduceSub, Nat.reduceEqDiff, Nat.reduceLeDiff, Nat.reduceBEq, Nat.reduceLT]
                rfl
              · rintro q σ ⟨hq, nz', y11, e11, ho11, hσ⟩
                rw [hσ]
                clear hσ σ
                dsimp only at hq ⊢
                by_cases hqc : q < code.length
                · have hmem2 := List.getElem_mem hqc
                  have hins := g9 _ hmem2
                  have hwi := wfI_of (hwf.code _ hmem2)
                  have hop := (hwf.code _ hmem2).op
                  have ei : nth w1 q = .agg [.int .u8 (insAt code q).op, .int .i64 (insAt code q).a, .int .i64 (insAt code q).b, .int .i64 (insAt code q).c] := by
                    have : IsInstr code[q] (nth w1 q) := q1.nth hqc
                    rw [insAt_get hqc] at this; exact this
                  have hati := q1.at .i64 hqc
                  have hsq := succ_i64 hqc q1.max
                  have hcl2 := codes_len g9 hwf.code q (by omega)
                  rw [insAt_get hqc] at hins hwi hop
                  have hc6 := cod6_len hins hwi
                  simp only [go_sem, reduceIte, reduceCtorEq, Nat.reduceAdd, Nat.reduceSub, Nat.reduceEqDiff, Nat.reduceLeDiff, Nat.reduceBEq, Nat.reduceLT, Int.ofNat_lt, hqc, q1.len, hati, ei]
                  refine (w_ref06_Coded (insAt code q) hop hwi hins _).xv fun y12 t12 k12 ho12 => ?_
                  simp only [go_sem, reduceIte, reduceCtorEq, Nat.reduceAdd, Nat.reduceSub, Nat.reduceEqDiff, Nat.reduceLeDiff, Nat.reduceBEq, Nat.reduceLT]
                  obtain ⟨z12, hz12, hc12⟩ := ho12.elems
                  refine (ho11.push t12).xv hz12 hc12 (by simp only [List.length_append]; omega) fun y13 k13 e13 ho13 => ?_
                  simp only [go_sem, reduceIte, reduceCtorEq, Nat.reduceAdd, Nat.reduceSub, Nat.reduceEqDiff, Nat.reduceLeDiff, Nat.reduceBEq, Nat.reduceLT, hsq]
                  refine ⟨q + 1, by omega, hqc, k13, y13, e13, ?_, rfl⟩
                  rw [codes, ← List.append_assoc]; exact ho13
                · have : q = code.length := by omega
                  subst this
                  simp only [go_sem, reduceIte, reduceCtorEq, Nat.reduceAdd, Nat.reduceSub, Nat.reduceEqDiff, Nat.reduceLeDiff, Nat.reduceBEq, Nat.reduceLT, Int.ofNat_lt, hqc, q1.len]
                  refine Xw_call (w_ref08_Coded sizes w2 q2 code.length g12 (by omega) hwf.sizes (by omega) _) fun y12 t12 k12 ho12 => ?_
                  simp only [go_sem, reduceIte, reduceCtorEq, Nat.reduceAdd, Nat.reduceSub, Nat.reduceEqDiff, Nat.reduceLeDiff, Nat.reduceBEq, Nat.reduceLT]
                  obtain ⟨z12, hz12, hc12⟩ := ho12.elems
                  refine own_xw (ho11.push t12) hz12 hc12 (by simp only [List.length_append]; omega) fun y13 k13 e13 ho13 => ?_
                  simp only [go_sem, reduceIte, reduceCtorEq, Nat.reduceAdd, Nat.reduceSub, Nat.reduceEqDiff, Nat.reduceLeDiff, Nat.reduceBEq, Nat.reduceLT]
                  refine Xw_call (w_ref08_Coded lives w3 q3 code.length g13 (by omega) hwf.lives (by omega) _) fun y14 t14 k14 ho14 => ?_
                  simp only [go_sem, reduceIte, reduceCtorEq, Nat.reduceAdd, Nat.reduceSub, Nat.reduceEqDiff, Nat.reduceLeDiff, Nat.reduceBEq, Nat.reduceLT]
                  obtain ⟨z14, hz14, hc14⟩ := ho14.elems
                  refine own_xw (ho13.push t14) hz14 hc14 (by simp only [List.length_append]; omega) fun y15 k15 e15 ho15 => ?_
                  simp only [go_sem, reduceIte, reduceCtorEq, Nat.reduceAdd, Nat.reduceSub, Nat.reduceEqDiff, Nat.reduceLeDiff, Nat.reduceBEq, Nat.reduceLT, hsucc]
                  refine ⟨j + 1, by omega, h, k15, y15, e15, ?_, rfl⟩
                  subst hB
                  rw [funs, hff]
                  unfold funB
                  simp only [List.append_assoc] at ho15 ⊢
                  exact ho15
            · have : j = funcs.length := by omega
              subst this
              have hcod : typs types types.length ++ texB texts texts.length ++ funs funcs funcs.length = codI ⟨types, texts, funcs⟩ := by unfold codI; rw [List.append_assoc]
              rw [hcod] at ho
              simp only [go_sem, reduceIte, reduceCtorEq, Nat.reduceAdd, Nat.reduceSub, Nat.reduceEqDiff, Nat.reduceLeDiff, Nat.reduceBEq, Nat.reduceLT, Int.ofNat_lt, h, h2.len]
              exact fin_own ho

theorem w_ref09_Check (d : DImage) (x : AV) (hx : IsImage d x) (hw : WfImage d) (m : Mem) (hfl : m.floor ≤ m.stk.length + 1) : Okv tab F_wreckageref09_Check [x] m (.int .i64 (err09 d)) := by
  refine okv_of t_wreckageref09_Check ?_
  obtain ⟨stk, cur, nx, live, fl⟩ := m
  dsimp only at hfl
  have hfl' : fl ≤ (stk ++ [cur]).length + 1 := by simp; omega
  have hF := fun c nz lv => (w_ref09_Fine d x hx hw ⟨stk ++ [cur], c, nz, lv, fl⟩ hfl').eq
  by_cases hfi : FineI d
  case neg =>
    have he : err09 d = 8 := by unfold err09; rw [pb_false hfi]; rfl
    obtain ⟨v0, v1, v2, rfl, _⟩ := hx
    simp only [a_wreckageref09_Check, go_sem, reduceIte, reduceCtorEq, Nat.reduceAdd, Nat.reduceSub, Nat.reduceEqDiff, Nat.reduceLeDiff, Nat.reduceBEq, Nat.reduceLT, hF, pb_false hfi]
    rw [leave_plain rfl rfl, Opt_some]
    exact ⟨⟨_, rfl⟩, by rw [he]⟩
  have he : err09 d = if (codI d).length > 20000 then 4 else 0 := by unfold err09; rw [pb_true hfi]; rfl
  have hC := fun c nz lv => w_ref09_Coded d x hx hw hfi ⟨stk ++ [cur], c, nz, lv, fl⟩
  obtain ⟨v0, v1, v2, rfl, _⟩ := hx
  simp only [a_wreckageref09_Check, go_sem, reduceIte, reduceCtorEq, Nat.reduceAdd, Nat.reduceSub, Nat.reduceEqDiff, Nat.reduceLeDiff, Nat.reduceBEq, Nat.reduceLT, hF, pb_true hfi]
  refine (hC _ _ _).xv fun y ts k ho => ?_
  rw [he]
  by_cases hbig : (codI d).length > 20000
  · simp only [go_sem, reduceIte, reduceCtorEq, Nat.reduceAdd, Nat.reduceSub, Nat.reduceEqDiff, Nat.reduceLeDiff, Nat.reduceBEq, Nat.reduceLT, ho.len, show ((codI d).length : Int) > 20000 by omega]
    rw [leave_plain rfl rfl, Opt_some]
    exact ⟨⟨_, rfl⟩, by rw [if_pos hbig]⟩
  · simp only [go_sem, reduceIte, reduceCtorEq, Nat.reduceAdd, Nat.reduceSub, Nat.reduceEqDiff, Nat.reduceLeDiff, Nat.reduceBEq, Nat.reduceLT, ho.len, show ¬ ((codI d).length : Int) > 20000 by omega]
    rw [leave_plain rfl rfl, Opt_some]
    exact ⟨⟨_, rfl⟩, by rw [if_neg hbig]⟩

end Go.Proofs.W
