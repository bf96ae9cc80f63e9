/-
  Vsu: the evaluator without a count of steps: its equations.
-/
import Derived.Test.YtbbljkjdjjoapaaVst
namespace Go.Vs

def Le (O O' : Oracle) : Prop := ∀ f a m r, O f a m = some r → O' f a m = some r

theorem Le.refl (O : Oracle) : Le O O := fun _ _ _ _ h => h

theorem evOp_mono {O O' : Oracle} (h : Le O O') {ρ : List AV} {m : Mem} {op : AOp} {r : AV × Mem} (he : evOp O ρ m op = some r) : evOp O' ρ m op = some r := by
  cases op <;> try exact he
  rename_i f args
  simp only [evOp, evCall] at he ⊢
  split at he
  · exact h _ _ _ _ he
  · cases he

theorem evOper_mono {O O' : Oracle} (h : Le O O') {o : AOper} {σ σ' : St} (he : evOper O o σ = some σ') : evOper O' o σ = some σ' := by
  unfold evOper at he ⊢
  split at he
  · simp only [Option.map_eq_some_iff] at he ⊢
    obtain ⟨r, h1, h2⟩ := he
    exact ⟨r, evOp_mono h h1, h2⟩
  · exact he
  · cases he

theorem evOps_mono {O O' : Oracle} (h : Le O O') : ∀ {l : List AOper} {σ σ' : St}, evOps O l σ = some σ' → evOps O' l σ = some σ'
  | [], σ, σ', he => he
  | o :: l, σ, σ', he => by
    simp only [evOps, Option.bind_eq_some_iff] at he ⊢
    obtain ⟨σ1, h1, h2⟩ := he
    exact ⟨σ1, evOper_mono h h1, evOps_mono h h2⟩

theorem evDraw_mono {O O' : Oracle} (h : Le O O') {m0 : Mem} : ∀ {l : List AOper} {ws : Watch} {σ σ' : St}, evDraw O m0 ws l σ = some σ' → evDraw O' m0 ws l σ = some σ'
  | [], ws, σ, σ', he => he
  | o :: l, ws, σ, σ', he => by
    simp only [evDraw] at he ⊢
    split at he
    · split at he
      · rename_i q hq; rw [evOper_mono h hq]; exact evDraw_mono h he
      · cases he
    · split at he
      · split at he
        · split at he
          · rename_i q hq; rw [evOper_mono h hq]; exact evDraw_mono h he
          · cases he
        · cases he
      · split at he
        · rename_i q hq; rw [evOper_mono h hq]; exact evDraw_mono h he
        · cases he

theorem iter_mono {f f' : St → Option (Out × St)} {hd : St → St} (h : ∀ σ r, f σ = some r → f' σ = some r) : ∀ {n n' : Nat} {σ : St} {r : Out × St}, n ≤ n' → iter f hd n σ = some r → iter f' hd n' σ = some r
  | 0, n', σ, r, _, he => by simp [iter] at he
  | n + 1, 0, σ, r, hn, he => by omega
  | n + 1, n' + 1, σ, r, hn, he => by
    simp only [iter] at he ⊢
    split at he
    · rename_i σ1 h1
      rw [h _ _ h1]
      exact iter_mono h (by omega) he
    · rename_i hne
      rw [h _ _ he]
      split
      · rename_i σ1 h1; injection h1 with h1; rw [h1] at he; exact absurd he (hne σ1)
      · rfl

theorem ev_mono {O O' : Oracle} (h : Le O O') {n n' : Nat} (hn : n ≤ n') : ∀ (c : ACode) {σ : St} {r : Out × St}, ev O n c σ = some r → ev O' n' c σ = some r := by
  intro c
  induction c with
  | bad => intro σ r he; cases he
  | skip => intro σ r he; exact he
  | ret => intro σ r he; exact he
  | exit id => intro σ r he; exact he
  | ops l =>
    intro σ r he
    simp only [ev, Option.map_eq_some_iff] at he ⊢
    obtain ⟨σ1, h1, h2⟩ := he
    exact ⟨σ1, evOps_mono h h1, h2⟩
  | draw l =>
    intro σ r he
    simp only [ev, Option.map_eq_some_iff] at he ⊢
    obtain ⟨σ1, h1, h2⟩ := he
    exact ⟨σ1, evDraw_mono h h1, h2⟩
  | seq a b iha ihb =>
    intro σ r he
    simp only [ev] at he ⊢
    split at he
    · rename_i σ1 h1; rw [iha h1]; exact ihb he
    · rename_i hne
      rw [iha he]
      split
      · rename_i σ1 h1; injection h1 with h1; rw [h1] at he; exact absurd he (hne σ1)
      · rfl
  | cond c a b iha ihb =>
    intro σ r he
    simp only [ev] at he ⊢
    split at he
    · split at he
      · rename_i ht; rw [if_pos ht]; exact iha he
      · rename_i ht; rw [if_neg ht]; exact ihb he
    · cases he
  | block id a iha =>
    intro σ r he
    simp only [ev] at he ⊢
    split at he
    · rename_i i σ1 h1; rw [iha h1]; exact he
    · rename_i hne
      rw [iha he]
      split
      · rename_i i σ1 h1; injection h1 with h1; rw [h1] at he; exact absurd he (hne i σ1)
      · rfl
  | loop live a iha =>
    intro σ r he
    simp only [ev] at he ⊢
    exact iter_mono (fun σ r h => iha h) hn he

theorem evFn_mono {O O' : Oracle} (h : Le O O') {n n' : Nat} (hn : n ≤ n') {fn : AFunc} {args : List AV} {m : Mem} {r : AV × Mem} (he : evFn O n fn args m = some r) : evFn O' n' fn args m = some r := by
  unfold evFn at he ⊢
  split at he
  · cases he
  · rename_i o σ hne h1
    rw [ev_mono h hn _ h1]
    cases o with
    | exit id => exact absurd rfl (hne id)
    | normal => exact he
    | ret => exact he
  · cases he

theorem callN_step (tab : Nat → Option AFunc) : ∀ n, Le (callN tab n) (callN tab (n + 1))
  | 0 => fun f a m r h => by simp [callN] at h
  | n + 1 => fun f a m r h => by
    have ih := callN_step tab n
    simp only [callN] at h ⊢
    split at h
    · exact evFn_mono ih (Nat.le_succ n) h
    · cases h

theorem callN_le (tab : Nat → Option AFunc) {n n' : Nat} (h : n ≤ n') : Le (callN tab n) (callN tab n') := by
  induction h with
  | refl => exact Le.refl _
  | step _ ih => exact fun f a m r h => callN_step tab _ _ _ _ _ (ih f a m r h)

/-- What comes of it in the end, if anything does. -/
noncomputable def lim {α : Type} (F : Nat → Option α) : Option α := open Classical in if h : ∃ n r, F n = some r then F h.choose else none

theorem lim_iff {α : Type} {F : Nat → Option α} (hF : ∀ n n' r, n ≤ n' → F n = some r → F n' = some r) {r : α} : lim F = some r ↔ ∃ n, F n = some r := by
  unfold lim
  constructor
  · intro h
    split at h
    · exact ⟨_, h⟩
    · cases h
  · rintro ⟨n, hn⟩
    have hex : ∃ n r, F n = some r := ⟨n, r, hn⟩
    rw [dif_pos hex]
    obtain ⟨r', hr'⟩ := hex.choose_spec
    have h1 := hF _ (max hex.choose n) r' (Nat.le_max_left _ _) hr'
    have h2 := hF _ (max hex.choose n) r (Nat.le_max_right _ _) hn
    rw [h1] at h2
    rw [hr', h2]

noncomputable def CALL (tab : Nat → Option AFunc) : Oracle := fun f args m => lim fun n => callN tab n f args m

noncomputable def EV (tab : Nat → Option AFunc) (c : ACode) (σ : St) : Option (Out × St) := lim fun n => ev (callN tab n) n c σ

section
variable {tab : Nat → Option AFunc}

theorem CALL_iff {f : Nat} {args : List AV} {m : Mem} {r : AV × Mem} : CALL tab f args m = some r ↔ ∃ n, callN tab n f args m = some r :=
  lim_iff fun _ _ _ h h1 => callN_le tab h _ _ _ _ h1

theorem EV_iff {c : ACode} {σ : St} {r : Out × St} : EV tab c σ = some r ↔ ∃ n, ev (callN tab n) n c σ = some r :=
  lim_iff fun _ _ _ h h1 => ev_mono (callN_le tab h) h c h1

theorem callN_CALL (n : Nat) : Le (callN tab n) (CALL tab) := fun _ _ _ _ h => CALL_iff.2 ⟨n, h⟩

theorem evOp_lim {ρ : List AV} {m : Mem} {op : AOp} {r : AV × Mem} (h : evOp (CALL tab) ρ m op = some r) : ∃ n, evOp (callN tab n) ρ m op = some r := by
  cases op <;> try exact ⟨0, h⟩
  rename_i f args
  simp only [evOp, evCall] at h ⊢
  split at h
  · exact CALL_iff.1 h
  · cases h

theorem evOper_lim {o : AOper} {σ σ' : St} (h : evOper (CALL tab) o σ = some σ') : ∃ n, evOper (callN tab n) o σ = some σ' := by
  unfold evOper at h ⊢
  split at h
  · simp only [Option.map_eq_some_iff] at h ⊢
    obtain ⟨r, h1, h2⟩ := h
    obtain ⟨n, hn⟩ := evOp_lim h1
    exact ⟨n, r, hn, h2⟩
  · exact ⟨0, h⟩
  · cases h

theorem evOps_lim : ∀ {l : List AOper} {σ σ' : St}, evOps (CALL tab) l σ = some σ' → ∃ n, evOps (callN tab n) l σ = some σ'
  | [], σ, σ', h => ⟨0, h⟩
  | o :: l, σ, σ', h => by
    simp only [evOps, Option.bind_eq_some_iff] at h ⊢
    obtain ⟨σ1, h1, h2⟩ := h
    obtain ⟨n, hn⟩ := evOper_lim h1
    obtain ⟨k, hk⟩ := evOps_lim h2
    exact ⟨max n k, σ1, evOper_mono (callN_le tab (Nat.le_max_left _ _)) hn, evOps_mono (callN_le tab (Nat.le_max_right _ _)) hk⟩

theorem evDraw_lim {m0 : Mem} : ∀ {l : List AOper} {ws : Watch} {σ σ' : St}, evDraw (CALL tab) m0 ws l σ = some σ' → ∃ n, evDraw (callN tab n) m0 ws l σ = some σ'
  | [], ws, σ, σ', h => ⟨0, h⟩
  | o :: l, ws, σ, σ', h => by
    have key : ∀ {ws : Watch} {τ q q' : St}, evOper (CALL tab) o τ = some q → evDraw (CALL tab) m0 ws l q' = some σ' → ∃ n, evOper (callN tab n) o τ = some q ∧ evDraw (callN tab n) m0 ws l q' = some σ' := by
      intro ws τ q q' h1 h2
      obtain ⟨n, hn⟩ := evOper_lim h1
      obtain ⟨k, hk⟩ := evDraw_lim h2
      exact ⟨max n k, evOper_mono (callN_le tab (Nat.le_max_left _ _)) hn, evDraw_mono (callN_le tab (Nat.le_max_right _ _)) hk⟩
    simp only [evDraw] at h ⊢
    split at h
    · split at h
      · rename_i q hq
        obtain ⟨n, a, b⟩ := key hq h
        exact ⟨n, by rw [a]; exact b⟩
      · cases h
    · split at h
      · split at h
        · split at h
          · rename_i q hq
            obtain ⟨n, a, b⟩ := key hq h
            exact ⟨n, by rw [a]; exact b⟩
          · cases h
        · cases h
      · split at h
        · rename_i q hq
          obtain ⟨n, a, b⟩ := key hq h
          exact ⟨n, by rw [a]; exact b⟩
        · cases h

theorem opt_ext {α : Type} {a b : Option α} (h : ∀ r, a = some r ↔ b = some r) : a = b := by
  cases a with
  | none =>
    cases b with
    | none => rfl
    | some y => have := (h y).2 rfl; cases this
  | some x => exact ((h x).1 rfl).symm

theorem EV_skip (σ : St) : EV tab .skip σ = some (.normal, σ) := EV_iff.2 ⟨0, rfl⟩
theorem EV_ret (σ : St) : EV tab .ret σ = some (.ret, σ) := EV_iff.2 ⟨0, rfl⟩
theorem EV_exit (id : Nat) (σ : St) : EV tab (.exit id) σ = some (.exit id, σ) := EV_iff.2 ⟨0, rfl⟩

theorem EV_ops (l : List AOper) (σ : St) : EV tab (.ops l) σ = (evOps (CALL tab) l σ).map fun σ' => (.normal, σ') := by
  refine opt_ext fun r => ?_
  rw [EV_iff]
  simp only [ev, Option.map_eq_some_iff]
  constructor
  · rintro ⟨n, σ1, h1, h2⟩; exact ⟨σ1, evOps_mono (callN_CALL n) h1, h2⟩
  · rintro ⟨σ1, h1, h2⟩; obtain ⟨n, hn⟩ := evOps_lim h1; exact ⟨n, σ1, hn, h2⟩

theorem EV_draw (l : List AOper) (σ : St) : EV tab (.draw l) σ = (evDraw (CALL tab) σ.m [] l ⟨σ.ρ, { σ.m with floor := max σ.m.floor (σ.m.stk.length + 1) }⟩).map fun σ' => (.normal, ⟨σ'.ρ, { σ'.m with floor := σ.m.floor }⟩) := by
  refine opt_ext fun r => ?_
  rw [EV_iff]
  simp only [ev, Option.map_eq_some_iff]
  constructor
  · rintro ⟨n, σ1, h1, h2⟩; exact ⟨σ1, evDraw_mono (callN_CALL n) h1, h2⟩
  · rintro ⟨σ1, h1, h2⟩; obtain ⟨n, hn⟩ := evDraw_lim h1; exact ⟨n, σ1, hn, h2⟩

theorem ev_at {n n' : Nat} (h : n ≤ n') {c : ACode} {σ : St} {r : Out × St} (he : ev (callN tab n) n c σ = some r) : ev (callN tab n') n' c σ = some r := ev_mono (callN_le tab h) h c he

theorem EV_seq (a b : ACode) (σ : St) : EV tab (.seq a b) σ = match EV tab a σ with | some (.normal, σ') => EV tab b σ' | r => r := by
  refine opt_ext fun r => ?_
  rw [EV_iff]
  constructor
  · rintro ⟨n, h⟩
    simp only [ev] at h
    split at h
    · rename_i σ1 h1
      rw [EV_iff.2 ⟨n, h1⟩]
      exact EV_iff.2 ⟨n, h⟩
    · rename_i hne
      rw [EV_iff.2 ⟨n, h⟩]
      split
      · rename_i σ1 h1; injection h1 with h1; rw [h1] at h; exact absurd h (hne σ1)
      · rfl
  · intro h
    split at h
    · rename_i σ1 h1
      obtain ⟨n, hn⟩ := EV_iff.1 h1
      obtain ⟨k, hk⟩ := EV_iff.1 h
      refine ⟨max n k, ?_⟩
      simp only [ev]
      rw [ev_at (Nat.le_max_left n k) hn]
      exact ev_at (Nat.le_max_right n k) hk
    · rename_i hne
      obtain ⟨n, hn⟩ := EV_iff.1 h
      refine ⟨n, ?_⟩
      simp only [ev]
      rw [hn]
      split
      · rename_i σ1 h1; injection h1 with h1; rw [h1] at h; exact absurd h (hne σ1)
      · rfl

theorem EV_cond (c : Opd) (a b : ACode) (σ : St) : EV tab (.cond c a b) σ = match c.ev σ.ρ with | .bool t => if t then EV tab a σ else EV tab b σ | _ => none := by
  refine opt_ext fun r => ?_
  rw [EV_iff]
  simp only [ev]
  cases hv : c.ev σ.ρ with
  | bool t =>
    cases t with
    | true => simp only [if_true]; exact EV_iff.symm
    | false => simp only [Bool.false_eq_true, if_false]; exact EV_iff.symm
  | _ => simp

theorem EV_block (id : Nat) (a : ACode) (σ : St) : EV tab (.block id a) σ = match EV tab a σ with | some (.exit i, σ') => if i = id then some (.normal, σ') else some (.exit i, σ') | r => r := by
  refine opt_ext fun r => ?_
  rw [EV_iff]
  constructor
  · rintro ⟨n, h⟩
    simp only [ev] at h
    split at h
    · rename_i i σ1 h1
      rw [EV_iff.2 ⟨n, h1⟩]
      exact h
    · rename_i hne
      rw [EV_iff.2 ⟨n, h⟩]
      split
      · rename_i i σ1 h1; injection h1 with h1; rw [h1] at h; exact absurd h (hne i σ1)
      · rfl
  · intro h
    split at h
    · rename_i i σ1 h1
      obtain ⟨n, hn⟩ := EV_iff.1 h1
      refine ⟨n, ?_⟩
      simp only [ev]
      rw [hn]; exact h
    · rename_i hne
      obtain ⟨n, hn⟩ := EV_iff.1 h
      refine ⟨n, ?_⟩
      simp only [ev]
      rw [hn]
      split
      · rename_i i σ1 h1; injection h1 with h1; rw [h1] at h; exact absurd h (hne i σ1)
      · rfl

/-- A loop from its head on; 'nb': how many blocks the frame had when it was entered. -/
noncomputable def LOOP (tab : Nat → Option AFunc) (live : List Nat) (nb : Nat) (a : ACode) (σ : St) : Option (Out × St) := lim fun n => iter (ev (callN tab n) n a) (heads live nb) n σ

theorem LOOP_iff {live : List Nat} {nb : Nat} {a : ACode} {σ : St} {r : Out × St} : LOOP tab live nb a σ = some r ↔ ∃ n, iter (ev (callN tab n) n a) (heads live nb) n σ = some r :=
  lim_iff (F := fun n => iter (ev (callN tab n) n a) (heads live nb) n σ) fun _ _ _ h h1 => iter_mono (fun _ _ h2 => ev_at h h2) h h1

theorem EV_loop (live : List Nat) (a : ACode) (σ : St) : EV tab (.loop live a) σ = LOOP tab live σ.m.cur.length a σ := rfl

theorem LOOP_eq (live : List Nat) (nb : Nat) (a : ACode) (σ : St) : LOOP tab live nb a σ = match EV tab a (heads live nb σ) with | some (.normal, σ') => LOOP tab live nb a σ' | r => r := by
  refine opt_ext fun r => ?_
  rw [LOOP_iff]
  constructor
  · rintro ⟨n, h⟩
    cases n with
    | zero => simp [iter] at h
    | succ n =>
      simp only [iter] at h
      split at h
      · rename_i σ1 h1
        rw [EV_iff.2 ⟨n + 1, h1⟩]
        refine LOOP_iff.2 ⟨n + 1, ?_⟩
        exact iter_mono (fun _ _ h => h) (Nat.le_succ n) h
      · rename_i hne
        rw [EV_iff.2 ⟨n + 1, h⟩]
        split
        · rename_i σ1 h1; injection h1 with h1; rw [h1] at h; exact absurd h (hne σ1)
        · rfl
  · intro h
    split at h
    · rename_i σ1 h1
      obtain ⟨n, hn⟩ := EV_iff.1 h1
      obtain ⟨k, hk⟩ := LOOP_iff.1 h
      refine ⟨max n k + 1, ?_⟩
      simp only [iter]
      rw [ev_at (n' := max n k + 1) (by have := Nat.le_max_left n k; omega) hn]
      exact iter_mono (fun _ _ h2 => ev_at (by have := Nat.le_max_right n k; omega) h2) (Nat.le_max_right n k) hk
    · rename_i hne
      obtain ⟨n, hn⟩ := EV_iff.1 h
      refine ⟨n + 1, ?_⟩
      simp only [iter]
      rw [ev_at (n' := n + 1) (Nat.le_succ n) hn]
      split
      · rename_i σ1 h1; injection h1 with h1; rw [h1] at h; exact absurd h (hne σ1)
      · rfl

theorem CALL_eq {f : Nat} {fn : AFunc} (h : tab f = some fn) (args : List AV) (m : Mem) : CALL tab f args m = match EV tab fn.body ⟨args ++ List.replicate (fn.ntmps - args.length) (.tup []), enter m⟩ with
    | some (.exit _, _) => none
    | some (_, σ) => (evRess σ fn.res).bind fun vs => leave m σ.m (packRes vs)
    | none => none := by
  refine opt_ext fun r => ?_
  rw [CALL_iff]
  constructor
  · rintro ⟨n, hn⟩
    cases n with
    | zero => simp [callN] at hn
    | succ n =>
      simp only [callN, h, evFn] at hn
      split at hn
      · cases hn
      · rename_i o σ hne h1
        rw [EV_iff.2 ⟨n, h1⟩]
        cases o with
        | exit id => exact absurd rfl (hne id)
        | normal => exact hn
        | ret => exact hn
      · cases hn
  · intro hr
    split at hr
    · cases hr
    · rename_i o σ hne h1
      obtain ⟨n, hn⟩ := EV_iff.1 h1
      refine ⟨n + 1, ?_⟩
      simp only [callN, h, evFn]
      rw [hn]
      cases o with
      | exit id => exact absurd rfl (hne id)
      | normal => exact hr
      | ret => exact hr
    · cases hr

theorem CALL_ok {P : Program} (hM : P.follows .mixedOrders = true) (hT : TabOk P tab) : OracleOk P (CALL tab) := fun f args m r m' h hf => by
  obtain ⟨n, hn⟩ := CALL_iff.1 h
  exact callN_ok hM hT n f args m r m' hn hf

end
end Go.Vs
