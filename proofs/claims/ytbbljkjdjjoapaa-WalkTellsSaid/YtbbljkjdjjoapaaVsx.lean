/-
  Vsx: rules for stepping through compiled code: what is to be shown of its end.
-/
import Derived.Test.YtbbljkjdjjoapaaVsu
namespace Go.Vs

/-- It is there, and Q holds of it. -/
def Opt {α : Type} (o : Option α) (Q : α → Prop) : Prop := ∃ x, o = some x ∧ Q x

theorem Opt_some {α : Type} (x : α) (Q : α → Prop) : Opt (some x) Q = Q x := by
  apply propext; constructor
  · rintro ⟨y, h, hq⟩; injection h with h; rw [h]; exact hq
  · exact fun h => ⟨x, rfl, h⟩

theorem Opt_none {α : Type} (Q : α → Prop) : Opt none Q = False := by
  apply propext; constructor
  · rintro ⟨y, h, _⟩; cases h
  · exact False.elim

theorem Opt.mono {α : Type} {o : Option α} {Q R : α → Prop} (h : Opt o Q) (k : ∀ x, Q x → R x) : Opt o R := let ⟨x, h1, h2⟩ := h; ⟨x, h1, k x h2⟩

theorem Opt.of_eq {α : Type} {o : Option α} {x : α} {Q : α → Prop} (h : o = some x) (k : Q x) : Opt o Q := ⟨x, h, k⟩

theorem Opt_map {α β : Type} (o : Option α) (f : α → β) (Q : β → Prop) : Opt (o.map f) Q = Opt o (fun x => Q (f x)) := by cases o <;> simp [Opt]

theorem Opt_bind {α β : Type} (o : Option α) (f : α → Option β) (Q : β → Prop) : Opt (o.bind f) Q = Opt o (fun x => Opt (f x) Q) := by cases o <;> simp [Opt]

section
variable (tab : Nat → Option AFunc)

/-- The code ends, and Q holds of how. -/
def Run (c : ACode) (σ : St) (Q : Out → St → Prop) : Prop := Opt (EV tab c σ) (fun r => Q r.1 r.2)
def RunL (live : List Nat) (nb : Nat) (a : ACode) (σ : St) (Q : Out → St → Prop) : Prop := Opt (LOOP tab live nb a σ) (fun r => Q r.1 r.2)
def RunOps (l : List AOper) (σ : St) (Q : St → Prop) : Prop := Opt (evOps (CALL tab) l σ) Q
def Step (o : AOper) (σ : St) (Q : St → Prop) : Prop := Opt (evOper (CALL tab) o σ) Q

/-- What is done behind a part's normal end. -/
def onNormal (Q : Out → St → Prop) (R : St → Prop) : Out → St → Prop
  | .normal, σ => R σ
  | o, σ => Q o σ
def onExit (id : Nat) (Q : Out → St → Prop) : Out → St → Prop
  | .exit i, σ => if i = id then Q .normal σ else Q (.exit i) σ
  | o, σ => Q o σ

theorem onNormal_normal (Q : Out → St → Prop) (R : St → Prop) (σ : St) : onNormal Q R .normal σ = R σ := rfl
theorem onNormal_ret (Q : Out → St → Prop) (R : St → Prop) (σ : St) : onNormal Q R .ret σ = Q .ret σ := rfl
theorem onNormal_exit (Q : Out → St → Prop) (R : St → Prop) (i : Nat) (σ : St) : onNormal Q R (.exit i) σ = Q (.exit i) σ := rfl
theorem onExit_normal (id : Nat) (Q : Out → St → Prop) (σ : St) : onExit id Q .normal σ = Q .normal σ := rfl
theorem onExit_ret (id : Nat) (Q : Out → St → Prop) (σ : St) : onExit id Q .ret σ = Q .ret σ := rfl
theorem onExit_exit (id i : Nat) (Q : Out → St → Prop) (σ : St) : onExit id Q (.exit i) σ = if i = id then Q .normal σ else Q (.exit i) σ := rfl

theorem Run_skip (σ : St) (Q : Out → St → Prop) : Run tab .skip σ Q = Q .normal σ := by unfold Run; rw [EV_skip, Opt_some]
theorem Run_ret (σ : St) (Q : Out → St → Prop) : Run tab .ret σ Q = Q .ret σ := by unfold Run; rw [EV_ret, Opt_some]
theorem Run_exit (i : Nat) (σ : St) (Q : Out → St → Prop) : Run tab (.exit i) σ Q = Q (.exit i) σ := by unfold Run; rw [EV_exit, Opt_some]
theorem Run_ops (l : List AOper) (σ : St) (Q : Out → St → Prop) : Run tab (.ops l) σ Q = RunOps tab l σ (Q .normal) := by unfold Run RunOps; rw [EV_ops, Opt_map]
theorem Run_seq (a b : ACode) (σ : St) (Q : Out → St → Prop) : Run tab (.seq a b) σ Q = Run tab a σ (onNormal Q fun σ' => Run tab b σ' Q) := by
  unfold Run; rw [EV_seq]
  cases EV tab a σ with
  | none => simp [Opt]
  | some r => obtain ⟨o, σ'⟩ := r; cases o <;> simp [Opt, onNormal]
theorem Run_cond (c : Opd) (a b : ACode) (σ : St) (Q : Out → St → Prop) (t : Bool) (h : c.ev σ.ρ = .bool t) : Run tab (.cond c a b) σ Q = if t = true then Run tab a σ Q else Run tab b σ Q := by
  unfold Run; rw [EV_cond, h]; cases t <;> rfl
theorem Run_block (id : Nat) (a : ACode) (σ : St) (Q : Out → St → Prop) : Run tab (.block id a) σ Q = Run tab a σ (onExit id Q) := by
  unfold Run; rw [EV_block]
  cases EV tab a σ with
  | none => simp [Opt]
  | some r =>
    obtain ⟨o, σ'⟩ := r
    cases o with
    | exit i => simp only [Opt_some, onExit]; split <;> rw [Opt_some]
    | normal => simp [Opt, onExit]
    | ret => simp [Opt, onExit]
theorem Run_loop (live : List Nat) (a : ACode) (σ : St) (Q : Out → St → Prop) : Run tab (.loop live a) σ Q = RunL tab live σ.m.cur.length a σ Q := by unfold Run RunL; rw [EV_loop]
theorem RunL_eq (live : List Nat) (nb : Nat) (a : ACode) (σ : St) (Q : Out → St → Prop) : RunL tab live nb a σ Q = Run tab a (heads live nb σ) (onNormal Q fun σ' => RunL tab live nb a σ' Q) := by
  unfold RunL Run; rw [LOOP_eq]
  cases EV tab a (heads live nb σ) with
  | none => simp [Opt]
  | some r => obtain ⟨o, σ'⟩ := r; cases o <;> simp [Opt, onNormal]

theorem RunOps_nil (σ : St) (Q : St → Prop) : RunOps tab [] σ Q = Q σ := by unfold RunOps; simp [evOps, Opt]
theorem RunOps_cons (o : AOper) (l : List AOper) (σ : St) (Q : St → Prop) : RunOps tab (o :: l) σ Q = Step tab o σ (fun σ' => RunOps tab l σ' Q) := by
  unfold RunOps Step; rw [evOps, Opt_bind]

theorem Step_plain (d : Option Nat) (op : AOp) (f : Bool) (σ : St) (Q : St → Prop) : Step tab ⟨d, op, none, f⟩ σ Q = Opt (evOp (CALL tab) σ.ρ σ.m op) (fun r => Q ⟨setDst σ.ρ d r.1, r.2⟩) := by
  unfold Step evOper; simp only [wanted]; rw [Opt_map]
theorem Step_guard (d : Option Nat) (op : AOp) (g : Nat) (w f t : Bool) (σ : St) (Q : St → Prop) (h : σ.ρ.getD g .undef = .bool t) :
    Step tab ⟨d, op, some (g, w), f⟩ σ Q = if t = w then Opt (evOp (CALL tab) σ.ρ σ.m op) (fun r => Q ⟨setDst σ.ρ d r.1, r.2⟩) else Q ⟨setDst σ.ρ d (.tup []), σ.m⟩ := by
  unfold Step evOper; simp only [wanted, h]
  cases t <;> cases w <;> simp [Opt_map, Opt_some]
theorem Step_unset (d : Option Nat) (op : AOp) (g : Nat) (w f : Bool) (σ : St) (Q : St → Prop) (h : σ.ρ.getD g .undef = .tup []) :
    Step tab ⟨d, op, some (g, w), f⟩ σ Q = Q ⟨setDst σ.ρ d (.tup []), σ.m⟩ := by
  unfold Step evOper; simp only [wanted, h]; simp [Opt]

/-- What a call gives. -/
theorem Opt_call {f : Nat} {fn : AFunc} (h : tab f = some fn) (args : List AV) (m : Mem) (Q : AV × Mem → Prop) :
    Opt (CALL tab f args m) Q = Run tab fn.body ⟨args ++ List.replicate (fn.ntmps - args.length) (.tup []), enter m⟩ (fun o σ => (∀ i, o ≠ .exit i) ∧ Opt (evRess σ fn.res) fun vs => Opt (leave m σ.m (packRes vs)) Q) := by
  unfold Run; rw [CALL_eq h]
  cases EV tab fn.body _ with
  | none => simp [Opt]
  | some r =>
    obtain ⟨o, σ⟩ := r
    cases o with
    | exit i => simp [Opt]
    | normal => simp only [Opt_some]; rw [Opt_bind]; simp
    | ret => simp only [Opt_some]; rw [Opt_bind]; simp

end

section
variable {tab : Nat → Option AFunc}

/-- A loop: what holds at each head, and what falls from head to head. -/
theorem RunL_rule {live : List Nat} {nb : Nat} {a : ACode} {σ : St} {Q : Out → St → Prop} {α : Type} (I : α → St → Prop) (r : α → Nat) (x0 : α) (h0 : I x0 σ)
    (h : ∀ x σ, I x σ → Run tab a (heads live nb σ) (onNormal Q fun σ' => ∃ y, r y < r x ∧ I y σ')) : RunL tab live nb a σ Q := by
  have key : ∀ n x σ, r x ≤ n → I x σ → RunL tab live nb a σ Q := by
    intro n
    induction n with
    | zero =>
      intro x σ hx hI
      rw [RunL_eq]
      obtain ⟨⟨o, σ'⟩, h1, h2⟩ := h x σ hI
      refine ⟨⟨o, σ'⟩, h1, ?_⟩
      cases o with
      | normal => obtain ⟨y, hy, _⟩ := h2; omega
      | exit i => exact h2
      | ret => exact h2
    | succ n ih =>
      intro x σ hx hI
      rw [RunL_eq]
      obtain ⟨⟨o, σ'⟩, h1, h2⟩ := h x σ hI
      refine ⟨⟨o, σ'⟩, h1, ?_⟩
      cases o with
      | normal => obtain ⟨y, hy, hI'⟩ := h2; exact ih y σ' (by omega) hI'
      | exit i => exact h2
      | ret => exact h2
  exact key _ x0 σ (Nat.le_refl _) h0

theorem Opt_imp {α : Type} {o : Option α} {x : α} {Q : α → Prop} (h : o = some x) : Opt o Q = Q x := by rw [h, Opt_some]

end

/-- The memory, at another stamp. -/
def Mem.bump (m : Mem) (k : Nat) : Mem := { m with nx := k }

/-- A frame, told by what was written last. -/
def look : List (Nat × AV) → Nat → AV → AV
  | [], _, df => df
  | (i, v) :: r, j, df => if i = j then v else look r j df
def mk (n : Nat) (df : AV) (l : List (Nat × AV)) : List AV := (List.range n).map fun j => look l j df
/-- A frame: some temporaries, the others not to be looked at. -/
def tmps (n : Nat) (l : List (Nat × AV)) : List AV := mk n .undef l

theorem look_nil (j : Nat) (df : AV) : look [] j df = df := rfl
theorem look_cons (i : Nat) (v : AV) (r : List (Nat × AV)) (j : Nat) (df : AV) : look ((i, v) :: r) j df = if i = j then v else look r j df := rfl

theorem mk_length (n : Nat) (df : AV) (l : List (Nat × AV)) : (mk n df l).length = n := by simp [mk]

theorem set_mk (n : Nat) (df : AV) (l : List (Nat × AV)) (d : Nat) (v : AV) : (mk n df l).set d v = mk n df ((d, v) :: l) := by
  apply List.ext_getElem?
  intro j
  rw [List.getElem?_set]
  simp only [mk, List.length_map, List.length_range, List.getElem?_map, List.getElem?_range']
  by_cases hj : j < n
  · rw [List.getElem?_range hj]
    by_cases hd : d = j
    · subst hd; simp [look, hj]
    · simp [look, hd]
  · rw [List.getElem?_eq_none (by simp; omega)]
    by_cases hd : d = j
    · subst hd; simp [hj]
    · simp [hd]

theorem setDst_mk (n : Nat) (df : AV) (l : List (Nat × AV)) (d : Nat) (v : AV) : setDst (mk n df l) (some d) v = mk n df ((d, v) :: l) := set_mk n df l d v
theorem setDst_none (ρ : List AV) (v : AV) : setDst ρ none v = ρ := rfl

theorem getD_mk (n : Nat) (df : AV) (l : List (Nat × AV)) (j : Nat) (x : AV) : (mk n df l).getD j x = if j < n then look l j df else x := by
  rw [List.getD_eq_getElem?_getD]
  simp only [mk, List.getElem?_map]
  by_cases hj : j < n
  · rw [List.getElem?_range hj, if_pos hj]; rfl
  · rw [List.getElem?_eq_none (by simp; omega), if_neg hj]; rfl

theorem look_pick (live : List Nat) (l : List (Nat × AV)) (df : AV) (j : Nat) : look (live.map fun i => (i, look l i df)) j .undef = if live.contains j then look l j df else .undef := by
  induction live with
  | nil => rfl
  | cons i r ih =>
    simp only [List.map_cons, look, ih, List.contains_cons]
    by_cases h : i = j
    · subst h; simp
    · simp only [h, if_false]
      have : (j == i) = false := by simp; exact fun e => h e.symm
      rw [this, Bool.false_or]

theorem clean_mk (live : List Nat) (n : Nat) (df : AV) (l : List (Nat × AV)) : clean live (mk n df l) = mk n .undef (live.map fun i => (i, look l i df)) := by
  apply List.ext_getElem?
  intro j
  unfold clean
  rw [List.getElem?_map, List.getElem?_zipIdx]
  simp only [mk, List.getElem?_map]
  by_cases hj : j < n
  · rw [List.getElem?_range hj]
    simp only [Option.map_some, Nat.zero_add, look_pick]
  · rw [List.getElem?_eq_none (by simp; omega)]; rfl

def numb : Nat → List AV → List (Nat × AV)
  | _, [] => []
  | i, a :: r => (i, a) :: numb (i + 1) r

theorem look_numb : ∀ (args : List AV) (i j : Nat) (df : AV), look (numb i args) j df = if i ≤ j then args.getD (j - i) df else df
  | [], i, j, df => by simp [numb, look]
  | a :: r, i, j, df => by
    simp only [numb, look, look_numb r]
    by_cases h : i = j
    · subst h; simp
    · by_cases h2 : i ≤ j
      · have : i + 1 ≤ j := by omega
        simp only [h, h2, this, if_true, if_false]
        rw [show j - i = (j - (i + 1)) + 1 by omega, List.getD_cons_succ]
      · have : ¬ i + 1 ≤ j := by omega
        simp [h, h2, this]

theorem init_mk (n : Nat) (args : List AV) (h : args.length ≤ n) : args ++ List.replicate (n - args.length) (.tup []) = mk n (.tup []) (numb 0 args) := by
  apply List.ext_getElem?
  intro j
  simp only [mk, List.getElem?_map, look_numb, Nat.zero_le, if_true, Nat.sub_zero]
  by_cases hj : j < n
  · rw [List.getElem?_range hj, Option.map_some]
    by_cases ha : j < args.length
    · rw [List.getElem?_append_left ha, List.getD_eq_getElem?_getD, List.getElem?_eq_getElem ha]; rfl
    · rw [List.getElem?_append_right (by omega), List.getElem?_replicate, if_pos (by omega), List.getD_eq_getElem?_getD, List.getElem?_eq_none (by omega)]; rfl
  · rw [List.getElem?_eq_none (by simp; omega), List.getElem?_eq_none (by simp; omega)]; rfl

theorem numb_cons (i : Nat) (a : AV) (r : List AV) : numb i (a :: r) = (i, a) :: numb (i + 1) r := rfl
theorem numb_nil (i : Nat) : numb i [] = [] := rfl
theorem tmps_mk (n : Nat) (l : List (Nat × AV)) : tmps n l = mk n .undef l := rfl

theorem cells_agg (cs : List AV) : (AV.agg cs).cells = cs := rfl
theorem cells_bool (b : Bool) : (AV.bool b).cells = [.bool b] := rfl
theorem cells_int (k : IntKind) (n : Int) : (AV.int k n).cells = [.int k n] := rfl
theorem cells_str (s : List UInt8) : (AV.str s).cells = [.str s] := rfl
theorem cells_nils : AV.nils.cells = [.nils] := rfl
theorem cells_list (s : Nat) (tk : Tok) (xs : List AV) : (AV.list s tk xs).cells = [.list s tk xs] := rfl
theorem cells_arr (l k st off len : Nat) : (AV.arr l k st off len).cells = [.arr l k st off len] := rfl
theorem cells_mapR (l k st : Nat) : (AV.mapR l k st).cells = [.mapR l k st] := rfl
theorem one_mapR (l k st : Nat) : (AV.mapR l k st).one = true := rfl
theorem cells_ptr (l k st off : Nat) : (AV.ptr l k st off).cells = [.ptr l k st off] := rfl
theorem cells_ro (cs : List AV) : (AV.ro cs).cells = [.ro cs] := rfl
theorem cells_nilptr : AV.nilptr.cells = [.nilptr] := rfl
theorem cells_fn (f : Fn) (a b : List AV) : (AV.fn f a b).cells = [.fn f a b] := rfl
theorem cells_nilfn : AV.nilfn.cells = [.nilfn] := rfl
theorem one_bool (b : Bool) : (AV.bool b).one = true := rfl
theorem one_int (k : IntKind) (n : Int) : (AV.int k n).one = true := rfl
theorem one_str (s : List UInt8) : (AV.str s).one = true := rfl
theorem one_nils : AV.nils.one = true := rfl
theorem one_list (s : Nat) (tk : Tok) (xs : List AV) : (AV.list s tk xs).one = true := rfl
theorem one_arr (l k st off len : Nat) : (AV.arr l k st off len).one = true := rfl
theorem one_ptr (l k st off : Nat) : (AV.ptr l k st off).one = true := rfl
theorem one_ro (cs : List AV) : (AV.ro cs).one = true := rfl
theorem one_nilptr : AV.nilptr.one = true := rfl
theorem one_fn (f : Fn) (a b : List AV) : (AV.fn f a b).one = true := rfl
theorem one_nilfn : AV.nilfn.one = true := rfl
theorem takeV_f1 (c : AV) (r : List AV) : takeV false 1 (c :: r) = some c := by simp [takeV]
theorem takeV_t (n : Nat) (cs : List AV) (h : n ≤ cs.length) : takeV true n cs = some (.agg (cs.take n)) := by simp [takeV, h]

theorem skol {α β γ : Type} [Inhabited γ] {p : α → Prop} {F : α → β → γ → Prop} (h : ∀ x, p x → ∀ m, ∃ k, F x m k) : ∃ K : α → β → γ, ∀ x, p x → ∀ m, F x m (K x m) := by
  classical
  refine ⟨fun x m => if hx : p x then (h x hx m).choose else default, fun x hx m => ?_⟩
  simp only [hx, dif_pos]
  exact (h x hx m).choose_spec

theorem isS_store (n : Nat) (a x : Opd) : (AOp.store n a x).isStore = true := rfl
theorem isS_ext (e : XOp) : (AOp.ext e).isStore = e.isPut := rfl
theorem isS_mov (x : Opd) : (AOp.mov x).isStore = false := rfl
theorem isS_pick (c a b : Opd) : (AOp.pick c a b).isStore = false := rfl
theorem isS_alloc (z : List AV) : (AOp.alloc z).isStore = false := rfl
theorem isS_box (n : Nat) (x : Opd) : (AOp.box n x).isStore = false := rfl
theorem isS_build (z : List AV) (ps : List (Nat × Nat × Opd)) : (AOp.build z ps).isStore = false := rfl
theorem isS_lit (s : Nat) (ps : List Opd) : (AOp.lit s ps).isStore = false := rfl
theorem isS_load (g : Bool) (n : Nat) (a : Opd) : (AOp.load g n a).isStore = false := rfl
theorem isS_bin (o : BinOp) (x y : Opd) : (AOp.bin o x y).isStore = false := rfl
theorem isS_beq (g : Bool) (x y : Opd) : (AOp.beq g x y).isStore = false := rfl
theorem isS_un (o : UnOp) (x : Opd) : (AOp.un o x).isStore = false := rfl
theorem isS_conv (k : IntKind) (x : Opd) : (AOp.conv k x).isStore = false := rfl
theorem isS_convS (x : Opd) : (AOp.convS x).isStore = false := rfl
theorem isS_toStr (x : Opd) : (AOp.toStr x).isStore = false := rfl
theorem isS_toBytes (x : Opd) : (AOp.toBytes x).isStore = false := rfl
theorem isS_mkfn (f : Fn) (a b : List Opd) : (AOp.mkfn f a b).isStore = false := rfl
theorem isS_faddr (n : Nat) (a : Opd) : (AOp.faddr n a).isStore = false := rfl
theorem isS_field (g : Bool) (n o : Nat) (x : Opd) : (AOp.field g n o x).isStore = false := rfl
theorem isS_iaddr (s : Nat) (x i : Opd) : (AOp.iaddr s x i).isStore = false := rfl
theorem isS_iaddrA (n s : Nat) (x i : Opd) : (AOp.iaddrA n s x i).isStore = false := rfl
theorem isS_indexS (x i : Opd) : (AOp.indexS x i).isStore = false := rfl
theorem isS_indexA (n s : Nat) (g : Bool) (x i : Opd) : (AOp.indexA n s g x i).isStore = false := rfl
theorem isS_len (x : Opd) : (AOp.len x).isStore = false := rfl
theorem isS_lenS (x : Opd) : (AOp.lenS x).isStore = false := rfl
theorem isS_app (s b : Nat) (x y : Opd) : (AOp.app s b x y).isStore = false := rfl
theorem isS_mx (x y : Opd) : (AOp.mx x y).isStore = false := rfl
theorem isS_mn (x y : Opd) : (AOp.mn x y).isStore = false := rfl
theorem isS_slice (s : Nat) (x : Opd) (lo hi t : Option Opd) : (AOp.slice s x lo hi t).isStore = false := rfl
theorem isS_sliceA (n s : Nat) (x : Opd) (lo hi : Option Opd) : (AOp.sliceA n s x lo hi).isStore = false := rfl
theorem isS_sliceS (x : Opd) (lo hi : Option Opd) : (AOp.sliceS x lo hi).isStore = false := rfl
theorem isS_make (s b : Nat) (z : List AV) (n c : Opd) : (AOp.make s b z n c).isStore = false := rfl
theorem isS_extract (x : Opd) (i : Nat) : (AOp.extract x i).isStore = false := rfl
theorem isS_call (f : Opd) (a : List Opd) : (AOp.call f a).isStore = false := rfl

theorem has_addTok (t : Nat) (h : List Nat) (r : List (List Nat)) : hasTok t ((t :: h) :: r) = true := by simp [hasTok]
theorem drop_addTok (t : Nat) (h : List Nat) (r : List (List Nat)) : dropTok t ((t :: h) :: r) = h :: r := by simp [dropTok]

theorem pushToks_nil (l : List (List Nat)) : pushToks [] l = l := by cases l <;> rfl
theorem pushToks_cons (ts h : List Nat) (r : List (List Nat)) : pushToks ts (h :: r) = (ts ++ h) :: r := by cases ts <;> rfl

/-- What is still to be done, as data. -/
inductive Kont where
  | fin (res : List ARes) (m0 : Mem) (R : AV → Mem → Prop)
  | seq (b : ACode) (k : Kont)
  | block (id : Nat) (k : Kont)
  | again (J : St → Prop) (k : Kont)

def Kont.go (tab : Nat → Option AFunc) : Kont → Out → St → Prop
  | .fin res m0 R => fun o σ => (∀ i, o ≠ .exit i) ∧ Opt (evRess σ res) fun vs => Opt (leave m0 σ.m (packRes vs)) fun r => R r.1 r.2
  | .seq b k => onNormal (k.go tab) fun σ => Run tab b σ (k.go tab)
  | .block id k => onExit id (k.go tab)
  | .again J k => onNormal (k.go tab) J

section
variable (tab : Nat → Option AFunc)

def X (c : ACode) (ρ : List AV) (m : Mem) (k : Kont) : Prop := Run tab c ⟨ρ, m⟩ (k.go tab)
def Xs (l : List AOper) (ρ : List AV) (m : Mem) (k : Kont) : Prop := RunOps tab l ⟨ρ, m⟩ (k.go tab .normal)
def XL (live : List Nat) (nb : Nat) (a : ACode) (ρ : List AV) (m : Mem) (k : Kont) : Prop := RunL tab live nb a ⟨ρ, m⟩ (k.go tab)
/-- Behind an operation. -/
def Xv (r : Option (AV × Mem)) (d : Option Nat) (l : List AOper) (ρ : List AV) (k : Kont) : Prop := Opt r fun r => Xs tab l (setDst ρ d r.1) r.2 k
def Xg (c : AV) (w : Bool) (d : Option Nat) (op : AOp) (l : List AOper) (ρ : List AV) (m : Mem) (k : Kont) : Prop :=
  match c with
  | .bool t => if t = w then Xv tab (evOp (CALL tab) ρ m op) d l ρ k else Xs tab l (setDst ρ d (.tup [])) m k
  | .tup [] => Xs tab l (setDst ρ d (.tup [])) m k
  | _ => False
def Xc (c : AV) (a b : ACode) (ρ : List AV) (m : Mem) (k : Kont) : Prop :=
  match c with
  | .bool t => if t = true then X tab a ρ m k else X tab b ρ m k
  | _ => False
def Xo (k : Kont) (o : Out) (ρ : List AV) (m : Mem) : Prop := k.go tab o ⟨ρ, m⟩
/-- A drawn region. -/
def Xd (fl : Nat) (m0 : Mem) (ws : Watch) (l : List AOper) (ρ : List AV) (m : Mem) (k : Kont) : Prop := Opt (evDraw (CALL tab) m0 ws l ⟨ρ, m⟩) fun σ => Xo tab k .normal σ.ρ { σ.m with floor := fl }
/-- Behind an operation of a drawn region: 'w': 0: floats; 1: a store; 2: any other. -/
def Xw (r : Option (AV × Mem)) (w : Nat) (fl : Nat) (m0 : Mem) (ws : Watch) (d : Option Nat) (l : List AOper) (ρ : List AV) (m : Mem) (k : Kont) : Prop :=
  Opt r fun r => Xd tab fl m0 ws l (setDst ρ d r.1) (match w with | 0 => m | 1 => { r.2 with floor := m.floor } | _ => r.2) k
def Xu (c : AV) (w : Bool) (d : Option Nat) (op : AOp) (f : Bool) (fl : Nat) (m0 : Mem) (ws : Watch) (l : List AOper) (ρ : List AV) (m : Mem) (k : Kont) : Prop :=
  match c with
  | .bool t => if t = w then Xd tab fl m0 ws (⟨d, op, none, f⟩ :: l) ρ m k else Xd tab fl m0 ws l (setDst ρ d (.tup [])) m k
  | .tup [] => Xd tab fl m0 ws l (setDst ρ d (.tup [])) m k
  | _ => False

variable (ρ : List AV) (m : Mem) (k : Kont) (a b : ACode) (l : List AOper) (d : Option Nat) (op : AOp)

theorem X_skip : X tab .skip ρ m k = Xo tab k .normal ρ m := by unfold X; rw [Run_skip]; rfl
theorem X_ret : X tab .ret ρ m k = Xo tab k .ret ρ m := by unfold X; rw [Run_ret]; rfl
theorem X_exit (i : Nat) : X tab (.exit i) ρ m k = Xo tab k (.exit i) ρ m := by unfold X; rw [Run_exit]; rfl
theorem X_ops : X tab (.ops l) ρ m k = Xs tab l ρ m k := by unfold X Xs; rw [Run_ops]
theorem X_seq : X tab (.seq a b) ρ m k = X tab a ρ m (.seq b k) := by unfold X; rw [Run_seq]; rfl
theorem X_block (id : Nat) : X tab (.block id a) ρ m k = X tab a ρ m (.block id k) := by unfold X; rw [Run_block]; rfl
theorem X_loop (live : List Nat) : X tab (.loop live a) ρ m k = XL tab live m.cur.length a ρ m k := by unfold X XL; rw [Run_loop]
theorem X_cond (c : Opd) : X tab (.cond c a b) ρ m k = Xc tab (c.ev ρ) a b ρ m k := by
  unfold X Xc
  split
  · rename_i t h; rw [Run_cond tab c a b ⟨ρ, m⟩ _ t h]; rfl
  · rename_i hne
    unfold Run; rw [EV_cond]
    split
    · rename_i t h; exact absurd h (hne t)
    · simp [Opt]
theorem Xc_true : Xc tab (.bool true) a b ρ m k = X tab a ρ m k := _root_.id rfl
theorem Xc_false : Xc tab (.bool false) a b ρ m k = X tab b ρ m k := _root_.id rfl

theorem Xs_nil : Xs tab [] ρ m k = Xo tab k .normal ρ m := by unfold Xs; rw [RunOps_nil]; rfl
theorem Xs_cons (f : Bool) : Xs tab (⟨d, op, none, f⟩ :: l) ρ m k = Xv tab (evOp (CALL tab) ρ m op) d l ρ k := by unfold Xs; rw [RunOps_cons, Step_plain]; rfl
theorem Xs_guard (g : Nat) (w f : Bool) : Xs tab (⟨d, op, some (g, w), f⟩ :: l) ρ m k = Xg tab (ρ.getD g .undef) w d op l ρ m k := by
  unfold Xs Xg; rw [RunOps_cons]
  split
  · rename_i t h
    rw [Step_guard tab d op g w f t ⟨ρ, m⟩ _ h]; rfl
  · rename_i h
    rw [Step_unset tab d op g w f ⟨ρ, m⟩ _ h]; rfl
  · rename_i h1 h2
    unfold Step evOper
    simp only [wanted]
    rw [Opt_none]
theorem Xg_tt : Xg tab (.bool true) true d op l ρ m k = Xv tab (evOp (CALL tab) ρ m op) d l ρ k := _root_.id rfl
theorem Xg_ff : Xg tab (.bool false) false d op l ρ m k = Xv tab (evOp (CALL tab) ρ m op) d l ρ k := _root_.id rfl
theorem Xg_tf : Xg tab (.bool true) false d op l ρ m k = Xs tab l (setDst ρ d (.tup [])) m k := by simp [Xg]
theorem Xg_ft : Xg tab (.bool false) true d op l ρ m k = Xs tab l (setDst ρ d (.tup [])) m k := by simp [Xg]
theorem Xg_un (w : Bool) : Xg tab (.tup []) w d op l ρ m k = Xs tab l (setDst ρ d (.tup [])) m k := _root_.id rfl
theorem Xv_some (v : AV) : Xv tab (some (v, m)) d l ρ k = Xs tab l (setDst ρ d v) m k := by unfold Xv; rw [Opt_some]

theorem Xo_seq (b : ACode) : Xo tab (.seq b k) .normal ρ m = X tab b ρ m k := _root_.id rfl
theorem Xo_seq_ret (b : ACode) : Xo tab (.seq b k) .ret ρ m = Xo tab k .ret ρ m := _root_.id rfl
theorem Xo_seq_exit (b : ACode) (i : Nat) : Xo tab (.seq b k) (.exit i) ρ m = Xo tab k (.exit i) ρ m := _root_.id rfl
theorem Xo_block (id : Nat) : Xo tab (.block id k) .normal ρ m = Xo tab k .normal ρ m := _root_.id rfl
theorem Xo_block_ret (id : Nat) : Xo tab (.block id k) .ret ρ m = Xo tab k .ret ρ m := _root_.id rfl
theorem Xo_block_exit (id i : Nat) : Xo tab (.block id k) (.exit i) ρ m = if i = id then Xo tab k .normal ρ m else Xo tab k (.exit i) ρ m := _root_.id rfl
theorem Xo_again (J : St → Prop) : Xo tab (.again J k) .normal ρ m = J ⟨ρ, m⟩ := _root_.id rfl
theorem Xo_again_ret (J : St → Prop) : Xo tab (.again J k) .ret ρ m = Xo tab k .ret ρ m := _root_.id rfl
theorem Xo_again_exit (J : St → Prop) (i : Nat) : Xo tab (.again J k) (.exit i) ρ m = Xo tab k (.exit i) ρ m := _root_.id rfl
theorem Xo_ret (res : List ARes) (m0 : Mem) (R : AV → Mem → Prop) : Xo tab (.fin res m0 R) .ret ρ m = Opt (evRess ⟨ρ, m⟩ res) fun vs => Opt (leave m0 m (packRes vs)) fun r => R r.1 r.2 := by
  unfold Xo Kont.go; simp
theorem Xo_end (res : List ARes) (m0 : Mem) (R : AV → Mem → Prop) : Xo tab (.fin res m0 R) .normal ρ m = Opt (evRess ⟨ρ, m⟩ res) fun vs => Opt (leave m0 m (packRes vs)) fun r => R r.1 r.2 := by
  unfold Xo Kont.go; simp

variable (ws : Watch)

theorem X_draw : X tab (.draw l) ρ m k = Xd tab m.floor m [] l ρ { m with floor := max m.floor (m.stk.length + 1) } k := by
  unfold X Xd Run; rw [EV_draw, Opt_map]; rfl
theorem Xd_nil (fl : Nat) (m0 : Mem) : Xd tab fl m0 ws [] ρ m k = Xo tab k .normal ρ { m with floor := fl } := by unfold Xd; rw [evDraw, Opt_some]
theorem Xd_guard (fl : Nat) (m0 : Mem) (g : Nat) (w f : Bool) : Xd tab fl m0 ws (⟨d, op, some (g, w), f⟩ :: l) ρ m k = Xu tab (ρ.getD g .undef) w d op f fl m0 ws l ρ m k := by
  have skip : wanted ρ (some (g, w)) = some false → Xd tab fl m0 ws (⟨d, op, some (g, w), f⟩ :: l) ρ m k = Xd tab fl m0 ws l (setDst ρ d (.tup [])) m k := by
    intro h
    unfold Xd
    simp only [evDraw, evOper, watchG, clearG, h]
    cases f
    · simp only
      cases op.isStore <;> simp
    · simp only
  have go : wanted ρ (some (g, w)) = some true → Xd tab fl m0 ws (⟨d, op, some (g, w), f⟩ :: l) ρ m k = Xd tab fl m0 ws (⟨d, op, none, f⟩ :: l) ρ m k := by
    intro h
    have h' : wanted ρ none = some true := rfl
    unfold Xd
    simp only [evDraw, evOper, watchG, clearG, h, h']
  have no : wanted ρ (some (g, w)) = none → Xd tab fl m0 ws (⟨d, op, some (g, w), f⟩ :: l) ρ m k = False := by
    intro h
    unfold Xd
    simp only [evDraw, evOper, watchG, clearG, h]
    cases f
    · simp only
      cases op.isStore <;> simp [Opt]
    · simp [Opt]
  unfold Xu
  split
  · rename_i t h
    simp only [wanted, h] at skip go
    cases t <;> cases w <;> simp at skip go ⊢ <;> first | exact skip | exact go
  · rename_i h; exact skip (by simp only [wanted, h])
  · rename_i h1 h2
    refine no ?_
    simp only [wanted]
theorem Xu_tt (f : Bool) (fl : Nat) (m0 : Mem) : Xu tab (.bool true) true d op f fl m0 ws l ρ m k = Xd tab fl m0 ws (⟨d, op, none, f⟩ :: l) ρ m k := _root_.id rfl
theorem Xu_ff (f : Bool) (fl : Nat) (m0 : Mem) : Xu tab (.bool false) false d op f fl m0 ws l ρ m k = Xd tab fl m0 ws (⟨d, op, none, f⟩ :: l) ρ m k := _root_.id rfl
theorem Xu_tf (f : Bool) (fl : Nat) (m0 : Mem) : Xu tab (.bool true) false d op f fl m0 ws l ρ m k = Xd tab fl m0 ws l (setDst ρ d (.tup [])) m k := by simp [Xu]
theorem Xu_ft (f : Bool) (fl : Nat) (m0 : Mem) : Xu tab (.bool false) true d op f fl m0 ws l ρ m k = Xd tab fl m0 ws l (setDst ρ d (.tup [])) m k := by simp [Xu]
theorem Xu_un (w f : Bool) (fl : Nat) (m0 : Mem) : Xu tab (.tup []) w d op f fl m0 ws l ρ m k = Xd tab fl m0 ws l (setDst ρ d (.tup [])) m k := _root_.id rfl
theorem Xd_flt (fl : Nat) (m0 : Mem) : Xd tab fl m0 ws (⟨d, op, none, true⟩ :: l) ρ m k = Xw tab (evOp (CALL tab) ρ m0 op) 0 fl m0 (watch ρ m0 op ws) d l ρ m k := by
  unfold Xd Xw evDraw
  simp only [evOper, watchG, wanted]
  cases evOp (CALL tab) ρ m0 op <;> simp [Opt, Xd]
def Xi (s : Bool) (fl : Nat) (m0 : Mem) (ws : Watch) (d : Option Nat) (op : AOp) (l : List AOper) (ρ : List AV) (m : Mem) (k : Kont) : Prop :=
  match s with
  | true => clear ρ op ws = true ∧ Xw tab (evOp (CALL tab) ρ { m with floor := m0.floor } op) 1 fl m0 ws d l ρ m k
  | false => Xw tab (evOp (CALL tab) ρ m op) 2 fl m0 ws d l ρ m k
theorem Xi_true (fl : Nat) (m0 : Mem) : Xi tab true fl m0 ws d op l ρ m k = (clear ρ op ws = true ∧ Xw tab (evOp (CALL tab) ρ { m with floor := m0.floor } op) 1 fl m0 ws d l ρ m k) := _root_.id rfl
theorem Xi_false (fl : Nat) (m0 : Mem) : Xi tab false fl m0 ws d op l ρ m k = Xw tab (evOp (CALL tab) ρ m op) 2 fl m0 ws d l ρ m k := _root_.id rfl
theorem Xd_step (fl : Nat) (m0 : Mem) : Xd tab fl m0 ws (⟨d, op, none, false⟩ :: l) ρ m k = Xi tab op.isStore fl m0 ws d op l ρ m k := by
  unfold Xd Xi evDraw
  simp only [evOper, clearG, wanted]
  cases h : op.isStore
  · simp only [Xw]
    cases evOp (CALL tab) ρ m op <;> simp [Opt, Xd]
  · simp only [Xw]
    cases hc : clear ρ op ws
    · simp [Opt]
    · cases evOp (CALL tab) ρ { m with floor := m0.floor } op <;> simp [Opt, Xd]
theorem Xw_0 (v : AV) (m1 m0 : Mem) (fl : Nat) : Xw tab (some (v, m1)) 0 fl m0 ws d l ρ m k = Xd tab fl m0 ws l (setDst ρ d v) m k := by unfold Xw; rw [Opt_some]; rfl
theorem Xw_1 (v : AV) (m1 m0 : Mem) (fl : Nat) : Xw tab (some (v, m1)) 1 fl m0 ws d l ρ m k = Xd tab fl m0 ws l (setDst ρ d v) { m1 with floor := m.floor } k := by unfold Xw; rw [Opt_some]; rfl
theorem Xw_2 (v : AV) (m1 m0 : Mem) (fl : Nat) : Xw tab (some (v, m1)) 2 fl m0 ws d l ρ m k = Xd tab fl m0 ws l (setDst ρ d v) m1 k := by unfold Xw; rw [Opt_some]; rfl
/-- A store, nothing being watched. -/
theorem clear_nil (ρ : List AV) (n : Nat) (a x : Opd) : clear ρ (.store n a x) [] = true := by unfold clear; simp only; split <;> rfl
theorem watch_load (ρ : List AV) (m0 : Mem) (g : Bool) (n : Nat) (a : Opd) (ws : Watch) : watch ρ m0 (.load g n a) ws = ws := rfl
theorem watch_wload (ρ : List AV) (m0 : Mem) (g : Bool) (n : Nat) (a : Opd) (ws : Watch) : watch ρ m0 (.ext (.wload g n a)) ws = match a.ev ρ with | .ptr l k st off => (l, k, off, n, ((m0.at (.ptr l k st off)).getD []).take n) :: ws | _ => ws := rfl
theorem clear_cons (ρ : List AV) (n : Nat) (a x : Opd) (w : Nat × Nat × Nat × Nat × List AV) (ws : Watch) : clear ρ (.store n a x) (w :: ws) = match a.ev ρ with | .ptr l k _ off => ((w.1 != l || w.2.1 != k || decide (off + n ≤ w.2.2.1) || decide (w.2.2.1 + w.2.2.2.1 ≤ off) || (decide (off = w.2.2.1) && same (x.ev ρ).cells w.2.2.2.2)) && ws.all fun w => w.1 != l || w.2.1 != k || decide (off + n ≤ w.2.2.1) || decide (w.2.2.1 + w.2.2.2.1 ≤ off) || (decide (off = w.2.2.1) && same (x.ev ρ).cells w.2.2.2.2)) | _ => true := by unfold clear; rfl

theorem X_fn {f : Nat} {fn : AFunc} (h : tab f = some fn) (args : List AV) (m : Mem) (R : AV → Mem → Prop) :
    Opt (CALL tab f args m) (fun r => R r.1 r.2) = X tab fn.body (args ++ List.replicate (fn.ntmps - args.length) (.tup [])) (enter m) (.fin fn.res m R) := by
  rw [Opt_call tab h]; rfl

end

section
variable {tab : Nat → Option AFunc} {ρ : List AV} {m : Mem} {k : Kont} {a : ACode}

theorem XL_rule {live : List Nat} {nb : Nat} {α : Type} (I : α → St → Prop) (r : α → Nat) (x0 : α) (h0 : I x0 ⟨ρ, m⟩)
    (h : ∀ x σ, I x σ → X tab a (heads live nb σ).ρ (heads live nb σ).m (.again (fun σ' => ∃ y, r y < r x ∧ I y σ') k)) : XL tab live nb a ρ m k :=
  RunL_rule I r x0 h0 h

/-- What a call comes to. -/
def Does (tab : Nat → Option AFunc) (f : Nat) (args : List AV) (m : Mem) (R : AV → Mem → Prop) : Prop := Opt (CALL tab f args m) fun r => R r.1 r.2

theorem does_of {f : Nat} {fn : AFunc} (h : tab f = some fn) {args : List AV} {m : Mem} {R : AV → Mem → Prop} (hx : X tab fn.body (mk fn.ntmps (.tup []) (numb 0 args)) (enter m) (.fin fn.res m R)) (hn : args.length ≤ fn.ntmps) : Does tab f args m R := by
  unfold Does; rw [X_fn tab h, init_mk _ _ hn]; exact hx

theorem CALL_of {f : Nat} {args : List AV} {m : Mem} {R : AV → Mem → Prop} (h : Opt (CALL tab f args m) (fun r => R r.1 r.2)) : ∃ v m', CALL tab f args m = some (v, m') ∧ R v m' := by
  obtain ⟨⟨v, m'⟩, h1, h2⟩ := h
  exact ⟨v, m', h1, h2⟩

/-- A result that refers to nothing. -/
theorem leave_plain {stk : List (List Blk)} {cur c' : List Blk} {nx nx' fl fl' : Nat} {live live' : List (List Nat)} {own : List Nat} {r : AV} (h1 : r.refs (stk ++ [cur]).length = false) (h2 : r.toks = []) :
    leave ⟨stk, cur, nx, live, fl⟩ ⟨stk ++ [cur], c', nx', own :: live', fl'⟩ r = some (r, ⟨stk, cur, nx', live', fl⟩) := by
  have e : own.filter (fun _ => false) = [] := by simp
  unfold leave
  simp only [List.getLast?_append, List.getLast?_singleton, Option.some_or, h1, Bool.false_eq_true, if_false, h2, List.contains_nil, e, pushToks, List.dropLast_concat]

theorem leave_val {stk : List (List Blk)} {cur c' : List Blk} {nx nx' fl fl' : Nat} {live live' : List (List Nat)} {own : List Nat} {r : AV} (h1 : r.refs (stk ++ [cur]).length = false) :
    leave ⟨stk, cur, nx, live, fl⟩ ⟨stk ++ [cur], c', nx', own :: live', fl'⟩ r = some (r, ⟨stk, cur, nx', pushToks (own.filter fun t => r.toks.contains t) live', fl⟩) := by
  unfold leave
  simp only [List.getLast?_append, List.getLast?_singleton, Option.some_or, h1, Bool.false_eq_true, if_false, List.dropLast_concat]

end

attribute [go_sem] same_self watch_wload clear_cons List.all_nil Option.getD_some clear_nil watch_load true_and List.set_cons_succ List.set_cons_zero List.getD_cons_succ List.getD_cons_zero List.replicate_succ List.replicate_zero look_nil look_cons setDst_mk setDst_none getD_mk clean_mk numb_cons numb_nil tmps_mk Bool.not_true Bool.not_false ne_eq not_true_eq_false not_false_eq_true Bool.false_and Bool.and_false Bool.not_not X_skip X_ret X_exit X_ops X_seq X_block X_loop X_cond Xc_true Xc_false Xs_nil Xs_cons Xs_guard Xg_tt Xg_ff Xg_tf Xg_ft Xg_un Xv_some Xo_seq Xo_seq_ret Xo_seq_exit Xo_block Xo_block_ret Xo_block_exit
  Xo_again Xo_again_ret Xo_again_exit Xo_ret Xo_end X_draw Xd_nil Xd_guard Xu_tt Xu_ff Xu_tf Xu_ft Xu_un Xd_flt Xi_true Xi_false Xd_step Xw_0 Xw_1 Xw_2 isS_store isS_mov isS_pick isS_alloc isS_box
  isS_build isS_lit isS_load isS_bin isS_beq isS_un isS_conv isS_convS isS_toStr isS_toBytes isS_mkfn isS_faddr isS_field isS_iaddr isS_iaddrA isS_indexS isS_indexA isS_len isS_lenS isS_app isS_mx
  isS_mn isS_slice isS_sliceA isS_sliceS isS_make isS_extract isS_call evOp evCall Opd.ev      cells_agg cells_bool
  cells_int cells_str cells_nils cells_list cells_arr cells_ptr cells_ro cells_nilptr cells_fn cells_nilfn Mem.bump one_bool one_int one_str one_nils one_list one_arr one_ptr one_ro one_nilptr one_fn one_nilfn allOne List.length_cons List.length_nil  
  List.cons_append List.nil_append List.append_nil Nat.zero_add Nat.add_zero beq_self_eq_true if_true if_false ite_true ite_false Bool.false_eq_true Mem.new enter Mem.at Mem.blk Mem.row Mem.put Mem.putS evFaddr
  takeV_f1 takeV_t evStore splice List.take_succ_cons List.take_zero List.drop_succ_cons List.drop_zero List.drop_nil List.take_nil List.getElem?_cons_succ List.getElem?_cons_zero Option.map_some
  Option.bind_some Option.map_none Option.bind_none List.map_cons List.map_nil List.head?_cons Nat.le_refl decide_true decide_false Bool.and_self Bool.and_true Bool.true_and evBin evInt sameKind evMax
  evMin evUn heads cut List.contains_cons List.contains_nil Bool.or_false Bool.or_true Bool.false_or Bool.true_or evRess evRes packRes leave_plain Opt_some  
  AV.refs AV.toks has_addTok drop_addTok addTok pushToks_nil pushToks_cons isS_ext XOp.isPut evX nilOf nilChkV Mem.ents evMput evCopy isKey isPlain mapGet mapPut keyEq one_mapR cells_mapR

end Go.Vs
