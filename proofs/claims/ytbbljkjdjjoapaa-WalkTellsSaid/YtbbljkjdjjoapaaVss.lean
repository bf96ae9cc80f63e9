/-
  Vss: code and calls: THE THEOREM.
-/
import Derived.Test.YtbbljkjdjjoapaaVsr
namespace Go.Vs
open Go.RowKit

def Out.exit' : Out → Exit
  | .normal => .normal
  | .exit id => .exit id
  | .ret => .ret

theorem wp_loop_count {P : Program} {c : Code} {Q : Exit → Act → World → Prop} (R : Nat → Act → World → Prop) (round : ∀ n a w, R n a w → c.wp P (Exit.then (fun a' w' => ∃ m, m < n ∧ R m a' w') Q) a w) {n : Nat} {a : Act} {w : World} (h : R n a w) :
    (Code.loop c).wp P Q a w := by
  intro b k cs
  have key : ∀ n a w, R n a w → ∃ e a' w', Q e a' w' ∧ Arrives P (lone (b.at a (.code c :: .inLoop c :: k)) cs w) b k cs e a' w' := by
    intro n
    induction n using Nat.strongRecOn with
    | _ n ih =>
      intro a w hI
      obtain ⟨e, a₁, w₁, hq, harr⟩ := round n a w hI b (.inLoop c :: k) cs
      cases e with
      | normal =>
        obtain ⟨m, hlt, hI₁⟩ := hq
        obtain ⟨e₂, a₂, w₂, hq₂, harr₂⟩ := ih m hlt a₁ w₁ hI₁
        exact ⟨e₂, a₂, w₂, hq₂, .of_steps (Steps.trans harr (.one step_inLoop)) harr₂⟩
      | exit id => exact ⟨_, a₁, w₁, hq, .pass (x := .inLoop c) rfl (fun _ _ => .inl (by simp)) harr⟩
      | goto l => exact ⟨_, a₁, w₁, hq, .pass (x := .inLoop c) rfl (fun _ _ => .inl (by simp)) harr⟩
      | ret => exact ⟨_, a₁, w₁, hq, .pass (x := .inLoop c) rfl (fun _ _ => .inl (by simp)) harr⟩
      | panic ch => exact ⟨_, a₁, w₁, hq, .pass (x := .inLoop c) rfl (fun _ _ => .inl (by simp)) harr⟩
      | outgrown => exact ⟨_, a₁, w₁, hq, .pass (x := .inLoop c) rfl (fun _ _ => .inl (by simp)) harr⟩
  obtain ⟨e, a', w', hq, harr⟩ := key n a w h
  exact ⟨e, a', w', hq, .of_steps (.one step_loop) harr⟩

theorem above_heads (live : List Nat) (nb : Nat) (σ : St) (h : σ.m.floor ≤ σ.m.stk.length) : Above σ.m (heads live nb σ).m := by
  refine ⟨rfl, rfl, fun l k st cs hl hb => blk_of_row hb fun x hx => ?_, Nat.le_refl _⟩
  unfold Mem.row heads at *
  simp only at hx ⊢
  have : ¬ (l == σ.m.stk.length) = true := by simp; omega
  rw [if_neg this] at hx ⊢
  exact hx

theorem iter_above {f : St → Option (Out × St)} {live : List Nat} {nb : Nat} (hf : ∀ σ out σ', σ.m.floor ≤ σ.m.stk.length → f σ = some (out, σ') → Above σ.m σ'.m) :
    ∀ (n : Nat) (σ : St) (out : Out) (σ' : St), σ.m.floor ≤ σ.m.stk.length → iter f (heads live nb) n σ = some (out, σ') → Above σ.m σ'.m
  | 0, σ, out, σ', _, h => by simp [iter] at h
  | n + 1, σ, out, σ', hl, h => by
    simp only [iter] at h
    have k0 := above_heads live nb σ hl
    split at h
    · rename_i σ1 h1
      have k1 := hf _ _ _ (by rw [k0.len, k0.floor]; exact hl) h1
      have k01 := k0.trans k1
      exact k01.trans (iter_above hf n σ1 out σ' (by rw [k01.len, k01.floor]; exact hl) h)
    · exact k0.trans (hf _ _ _ (by rw [k0.len, k0.floor]; exact hl) h)

theorem orBad_ev {O : Oracle} {n : Nat} {x : Option ACode} {σ : St} {r : Out × St} (h : ev O n (orBad x) σ = some r) : ∃ c, x = some c ∧ ev O n c σ = some r := by
  cases x with
  | none => simp [orBad, ev] at h
  | some c => exact ⟨c, rfl, h⟩

theorem ev_above {O : Oracle} (hA : OracleAbove O) {n : Nat} : ∀ (c : ACode) (σ : St) (out : Out) (σ' : St), σ.m.floor ≤ σ.m.stk.length → ev O n c σ = some (out, σ') → Above σ.m σ'.m := by
  intro c
  induction c with
  | bad => intro σ out σ' _ h; simp [ev] at h
  | skip => intro σ out σ' _ h; simp [ev] at h; rw [← h.2]; exact Above.refl _
  | ret => intro σ out σ' _ h; simp [ev] at h; rw [← h.2]; exact Above.refl _
  | exit id => intro σ out σ' _ h; simp [ev] at h; rw [← h.2]; exact Above.refl _
  | ops l =>
    intro σ out σ' hf h
    simp only [ev, Option.map_eq_some_iff, Prod.mk.injEq] at h
    obtain ⟨σ1, h1, _, rfl⟩ := h
    exact evOps_above hA hf h1
  | draw l =>
    intro σ out σ' hf h
    simp only [ev, Option.map_eq_some_iff, Prod.mk.injEq] at h
    obtain ⟨σ1, h1, _, rfl⟩ := h
    obtain ⟨a1, a2, a3⟩ := evDraw_above hA (σ := ⟨σ.ρ, { σ.m with floor := max σ.m.floor (σ.m.stk.length + 1) }⟩) hf rfl (by simp only; rw [Nat.max_eq_right (by omega)]) h1
    exact ⟨a1, rfl, a2, a3⟩
  | seq a b iha ihb =>
    intro σ out σ' hf h
    simp only [ev] at h
    split at h
    · rename_i σ1 h1
      have k := iha σ _ σ1 hf h1
      exact k.trans (ihb σ1 out σ' (by rw [k.len, k.floor]; exact hf) h)
    · exact iha σ out σ' hf h
  | cond c a b iha ihb =>
    intro σ out σ' hf h
    simp only [ev] at h
    split at h
    · split at h
      · exact iha σ out σ' hf h
      · exact ihb σ out σ' hf h
    · cases h
  | block id a iha =>
    intro σ out σ' hf h
    simp only [ev] at h
    split at h
    · rename_i i σ1 h1
      have k := iha σ _ σ1 hf h1
      split at h
      · injection h with h; injection h with _ h; rw [← h]; exact k
      · injection h with h; injection h with _ h; rw [← h]; exact k
    · exact iha σ out σ' hf h
  | loop live a iha =>
    intro σ out σ' hf h
    simp only [ev] at h
    exact iter_above (fun σ out σ' hl h => iha σ out σ' hl h) n σ out σ' hf h

section
variable {P : Program} {O : Oracle}

theorem heads_reps {g : G} {w : World} {live : List Nat} {ρ : List AV} {vs : List Value} (h : Reps g w ρ vs) : Reps g w (clean live ρ) vs := by
  refine ⟨by simp [clean, h.1], fun j c v h1 h2 => ?_⟩
  unfold clean at h1
  rw [List.getElem?_map, List.getElem?_zipIdx] at h1
  cases hq : ρ[j]? with
  | none => rw [hq] at h1; simp at h1
  | some x =>
    rw [hq] at h1
    simp only [Option.map_some, Nat.zero_add, Option.some.injEq] at h1
    split at h1
    · subst h1; exact h.2 j x v hq h2
    · subst h1; exact .undef v

theorem cut_sub (live : List Nat) (nb : Nat) (cur : List Blk) : (cut live nb cur).Sublist cur := by
  unfold cut
  split
  · exact List.Sublist.refl _
  · exact List.take_sublist _ _
theorem heads_inv {g : G} {w : World} {live : List Nat} {nb : Nat} {σ : St} (I : Inv g w σ.m) : Inv g w (heads live nb σ).m := by
  refine I.sub (fun bl hb => ?_) ?_ (Nat.le_refl _) (List.Sublist.refl _)
  · simp only [heads, Mem.all, List.mem_append] at hb ⊢
    rcases hb with hb | hb
    · exact .inl hb
    · exact .inr ((cut_sub _ _ _).subset hb)
  · refine List.Nodup.sublist ?_ I.nd
    simp only [heads, Mem.all]
    exact ((List.Sublist.refl _).append (cut_sub _ _ _)).map _

theorem ev_wp (hM : P.follows .mixedOrders = true) (hO : OracleOk P O) (hA : OracleAbove O) (n : Nat) : ∀ (c : Code) (ann : List (List Nat)) (ac : ACode) (rest : List (List Nat)), comp P c ann = some (ac, rest) →
    ∀ (σ : St) (out : Out) (σ' : St) (g : G) (w : World) (a : Act) (Q : Exit → Act → World → Prop), ev O n ac σ = some (out, σ') → σ.m.floor ≤ σ.m.stk.length → Reps g w σ.ρ a.tmps.toList → Inv g w σ.m →
      Goes g w a σ'.ρ σ'.m (Q out.exit') → c.wp P Q a w := by
  intro c
  induction c with
  | skip =>
    intro ann ac rest hc σ out σ' g w a Q he _ hR I hK
    simp [comp] at hc
    rw [← hc.1] at he
    simp [ev] at he
    obtain ⟨rfl, rfl⟩ := he
    exact wp_skip (hK g a w (Ext.refl g w) I hR rfl)
  | ret =>
    intro ann ac rest hc σ out σ' g w a Q he _ hR I hK
    simp [comp] at hc
    rw [← hc.1] at he
    simp [ev] at he
    obtain ⟨rfl, rfl⟩ := he
    exact wp_ret (hK g a w (Ext.refl g w) I hR rfl)
  | exit id =>
    intro ann ac rest hc σ out σ' g w a Q he _ hR I hK
    simp [comp] at hc
    rw [← hc.1] at he
    simp [ev] at he
    obtain ⟨rfl, rfl⟩ := he
    exact wp_exit (hK g a w (Ext.refl g w) I hR rfl)
  | region id ops draw =>
    intro ann ac rest hc σ out σ' g w a Q he hf hR I hK
    cases draw with
    | false =>
      simp only [comp, Option.some.injEq, Prod.mk.injEq] at hc
      obtain ⟨rfl, rfl⟩ := hc
      obtain ⟨c, hc, he⟩ := orBad_ev he
      simp only [Option.map_eq_some_iff] at hc
      obtain ⟨l, hl, rfl⟩ := hc
      simp only [ev, Option.map_eq_some_iff, Prod.mk.injEq] at he
      obtain ⟨σ1, h1, rfl, rfl⟩ := he
      exact wp_region_list (ops_wp hO hA hl hf h1 hR I hK)
    | true =>
      simp only [comp, Option.some.injEq, Prod.mk.injEq] at hc
      obtain ⟨rfl, rfl⟩ := hc
      obtain ⟨c, hc, he⟩ := orBad_ev he
      simp only [Option.map_eq_some_iff] at hc
      obtain ⟨l, hl, rfl⟩ := hc
      simp only [ev, Option.map_eq_some_iff, Prod.mk.injEq] at he
      obtain ⟨σ1, h1, rfl, rfl⟩ := he
      exact draw_wp hM hO hA hl hf h1 hR I (fun g' a' w' hx hI hR' hd' => hK g' a' w' hx (inv_floor _ hI) hR' hd')
  | seq x y ihx ihy =>
    intro ann ac rest hc σ out σ' g w a Q he hf hR I hK
    simp only [comp, Option.bind_eq_some_iff, Option.map_eq_some_iff, Prod.mk.injEq] at hc
    obtain ⟨⟨ax, r1⟩, hx, ⟨ay, r2⟩, hy, rfl, rfl⟩ := hc
    simp only [ev] at he
    refine wp_seq ?_
    split at he
    · rename_i σ1 h1
      have k := ev_above hA ax σ _ σ1 hf h1
      refine ihx _ _ _ hx σ .normal σ1 g w a _ h1 hf hR I fun g1 a1 w1 hx1 hI1 hR1 hd1 => ?_
      exact ihy _ _ _ hy σ1 out σ' g1 w1 a1 Q he (by rw [k.len, k.floor]; exact hf) hR1 hI1 fun g2 a2 w2 hx2 hI2 hR2 hd2 => hK g2 a2 w2 (hx1.trans hx2) hI2 hR2 (hd2.trans hd1)
    · rename_i hne
      refine ihx _ _ _ hx σ out σ' g w a _ he hf hR I fun g1 a1 w1 hx1 hI1 hR1 hd1 => ?_
      cases out with
      | normal => exact absurd he (hne σ')
      | exit id => exact hK g1 a1 w1 hx1 hI1 hR1 hd1
      | ret => exact hK g1 a1 w1 hx1 hI1 hR1 hd1
  | cond c x y ihx ihy =>
    intro ann ac rest hc σ out σ' g w a Q he hf hR I hK
    simp only [comp, Option.bind_eq_some_iff, Option.map_eq_some_iff, Prod.mk.injEq] at hc
    obtain ⟨d, hd, ⟨ax, r1⟩, hx, ⟨ay, r2⟩, hy, rfl, rfl⟩ := hc
    simp only [ev] at he
    have h1 := opd_sound hR hd
    split at he
    · rename_i t ht
      rw [ht] at h1
      refine wp_cond h1.inv_bool ?_
      split at he
      · rename_i htt
        rw [if_pos htt]
        exact ihx _ _ _ hx σ out σ' g w a Q he hf hR I hK
      · rename_i htt
        rw [if_neg htt]
        exact ihy _ _ _ hy σ out σ' g w a Q he hf hR I hK
    · cases he
  | block id x ihx =>
    intro ann ac rest hc σ out σ' g w a Q he hf hR I hK
    simp only [comp, Option.map_eq_some_iff, Prod.mk.injEq] at hc
    obtain ⟨⟨ax, r1⟩, hx, rfl, rfl⟩ := hc
    simp only [ev] at he
    refine wp_block ?_
    split at he
    · rename_i i σ1 h1
      refine ihx _ _ _ hx σ (.exit i) σ1 g w a _ h1 hf hR I fun g1 a1 w1 hx1 hI1 hR1 hd1 => ?_
      simp only [Out.exit', Exit.inBlock]
      split at he
      · rename_i hi
        injection he with he
        injection he with e1 e2
        subst e1; subst e2
        rw [if_pos hi]
        exact hK g1 a1 w1 hx1 hI1 hR1 hd1
      · rename_i hi
        injection he with he
        injection he with e1 e2
        subst e1; subst e2
        rw [if_neg hi]
        exact hK g1 a1 w1 hx1 hI1 hR1 hd1
    · rename_i hne
      refine ihx _ _ _ hx σ out σ' g w a _ he hf hR I fun g1 a1 w1 hx1 hI1 hR1 hd1 => ?_
      cases out with
      | normal => exact hK g1 a1 w1 hx1 hI1 hR1 hd1
      | exit i => exact absurd he (hne i σ')
      | ret => exact hK g1 a1 w1 hx1 hI1 hR1 hd1
  | loop x ihx =>
    intro ann ac rest hc σ out σ' g w a Q he hf hR I hK
    cases ann with
    | nil => simp [comp] at hc
    | cons live ann' =>
      simp only [comp, Option.map_eq_some_iff, Prod.mk.injEq] at hc
      obtain ⟨⟨ax, r1⟩, hx, rfl, rfl⟩ := hc
      simp only [ev] at he
      refine wp_loop_count (fun k a1 w1 => ∃ σ1 g1, iter (ev O n ax) (heads live σ.m.cur.length) k σ1 = some (out, σ') ∧ σ1.m.floor ≤ σ1.m.stk.length ∧ Ext g w g1 w1 ∧ Inv g1 w1 σ1.m ∧ Reps g1 w1 σ1.ρ a1.tmps.toList ∧ a1.defers = a.defers) ?_ (n := n)
        ⟨σ, g, he, hf, Ext.refl g w, I, hR, rfl⟩
      rintro k a1 w1 ⟨σ1, g1, hit, hf1, hx1, hI1, hR1, hd1⟩
      cases k with
      | zero => simp [iter] at hit
      | succ k =>
        simp only [iter] at hit
        have k0 := above_heads live σ.m.cur.length σ1 hf1
        have hf0 : (heads live σ.m.cur.length σ1).m.floor ≤ (heads live σ.m.cur.length σ1).m.stk.length := by rw [k0.len, k0.floor]; exact hf1
        split at hit
        · rename_i σ2 h2
          have k1 := ev_above hA ax _ _ _ hf0 h2
          refine ihx _ _ _ hx (heads live σ.m.cur.length σ1) .normal σ2 g1 w1 a1 _ h2 hf0 (heads_reps hR1) (heads_inv hI1) fun g2 a2 w2 hx2 hI2 hR2 hd2 => ?_
          exact ⟨k, Nat.lt_succ_self k, σ2, g2, hit, by rw [k1.len, k1.floor]; exact hf0, hx1.trans hx2, hI2, hR2, hd2.trans hd1⟩
        · rename_i hne
          refine ihx _ _ _ hx (heads live σ.m.cur.length σ1) out σ' g1 w1 a1 _ hit hf0 (heads_reps hR1) (heads_inv hI1) fun g2 a2 w2 hx2 hI2 hR2 hd2 => ?_
          cases out with
          | normal => exact absurd hit (hne σ')
          | exit i => exact hK g2 a2 w2 (hx1.trans hx2) hI2 hR2 (hd2.trans hd1)
          | ret => exact hK g2 a2 w2 (hx1.trans hx2) hI2 hR2 (hd2.trans hd1)
  | rangeFunc =>
    intro ann ac rest hc σ out σ' g w a Q he
    simp [comp] at hc
    rw [← hc.1] at he
    simp [ev] at he
  | scope =>
    intro ann ac rest hc σ out σ' g w a Q he
    simp [comp] at hc
    rw [← hc.1] at he
    simp [ev] at he
  | label =>
    intro ann ac rest hc σ out σ' g w a Q he
    simp [comp] at hc
    rw [← hc.1] at he
    simp [ev] at he
  | goto =>
    intro ann ac rest hc σ out σ' g w a Q he
    simp [comp] at hc
    rw [← hc.1] at he
    simp [ev] at he
  | refuse =>
    intro ann ac rest hc σ out σ' g w a Q he
    simp [comp] at hc
    rw [← hc.1] at he
    simp [ev] at he

end
end Go.Vs
