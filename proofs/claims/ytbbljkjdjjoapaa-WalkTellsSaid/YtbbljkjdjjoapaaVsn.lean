/-
  Vsn: one operation with its guard; lists of operations.
-/
import Derived.Test.YtbbljkjdjjoapaaVsm
namespace Go.Vs
open Go.RowKit

section
variable {P : Program} {g : G} {w : World} {a : Act} {o : Oper} {ops : Array Oper} {Q : Exit → Act → World → Prop} {K : Act → World → Prop}

theorem compOp_call {f : Opd} {l : List Opd} (hc : compOp P o = some (.call f l)) : ∃ c x xs, o.op = .call c ∧ c.callee = .value x ∧ c.args.toList = xs ∧ compOpd x = some f ∧ compOpds xs = some l := by
  replace hc : compOp0 P o = some (.call f l) := by
    unfold compOp at hc
    split at hc
    · cases hc
    · split at hc
      · rename_i h0; injection hc with hc; rw [h0, hc]
      · split at hc <;> cases hc
  unfold compOp0 at hc
  split at hc
  case h_21 =>
    rename_i c hop
    unfold compCall at hc
    split at hc
    · rename_i x hcal
      split at hc
      · rename_i y l' hx hl
        injection hc with hc
        injection hc with h1 h2
        subst h1; subst h2
        exact ⟨c, x, _, hop, hcal, rfl, hx, hl⟩
      · cases hc
    · cases hc
    · exfalso
      repeat' (first | (cases hc; done) | (simp at hc; done) | (split at hc) | (simp only [Option.bind_eq_some_iff, Option.map_eq_some_iff] at hc; obtain ⟨_, _, hc⟩ := hc))
  all_goals
    exfalso
    repeat' (first | (cases hc; done) | (simp at hc; done) | (split at hc) | (simp only [Option.bind_eq_some_iff, Option.map_eq_some_iff] at hc; obtain ⟨_, _, hc⟩ := hc))

/-- What must follow behind a step from (g, w, a) to abstract (ρ, m). -/
def Goes (g : G) (w : World) (a : Act) (ρ : List AV) (m : Mem) (K : Act → World → Prop) : Prop :=
  ∀ g' a' w', Ext g w g' w' → Inv g' w' m → Reps g' w' ρ a'.tmps.toList → a'.defers = a.defers → K a' w'

theorem op_wp {O : Oracle} (hO : OracleOk P O) {op : AOp} (hc : compOp P o = some op) {ρ : List AV} {m m' : Mem} {r : AV} (hf : m.floor ≤ m.stk.length + 1) (he : evOp O ρ m op = some (r, m')) (hR : Reps g w ρ a.tmps.toList) (I : Inv g w m)
    (hK : ∀ g' w' v, Ext g w g' w' → Inv g' w' m' → Rep g' w' r v → K (a.put o.dst v) w') : o.wp P a w K Q := by
  by_cases hnc : ∃ f l, op = .call f l
  · obtain ⟨f, l, rfl⟩ := hnc
    have hcall := compOp_call hc
    obtain ⟨c, x, xs, hop, hcal, rfl, hx, hl⟩ := hcall
    simp only [evOp, evCall] at he
    split at he
    · rename_i fid first caps hfe
      obtain ⟨f1, c1, hv, k1, k2⟩ := callee_of hR hx hfe
      have k3 := opds_sound hR hl
      obtain ⟨⟨fn, hfn, hname, hbody⟩, hcalls⟩ := hO _ _ _ _ _ he hf
      have hargs : Reps g w (first ++ l.map (fun p => p.ev ρ) ++ caps) (f1 ++ c.args.toList.map a.eval ++ c1) := (k1.append k3).append k2
      have hrun : (execOp a.eval o).run P w = .ok (.enter fid (f1 ++ c.args.toList.map a.eval ++ c1).toArray) w := by
        have harr : (f1.toArray ++ c.args.map a.eval ++ c1.toArray) = (f1 ++ c.args.toList.map a.eval ++ c1).toArray := by
          apply Array.ext'; simp
        simp only [execOp, hop, resolve, hcal, hv, Deferred.ofValue, Sem.run_bind, Sem.run_pure, Result.andThen_ok, invoke, callFunc, run_program, hfn, hname, hbody, Bool.false_eq_true, if_false]
        rw [← harr]
      unfold Oper.wp
      rw [hrun, Oper.upon_enter]
      refine (hcalls g w _ I hargs).mono fun e w' ⟨v, g', he', hx1, hI, hr⟩ => ?_
      subst he'
      exact hK g' w' v hx1 hI hr
    · cases he
  · have hnc' : ∀ f l, op ≠ .call f l := fun f l h => hnc ⟨f, l, h⟩
    obtain ⟨g', w', v, hrun, hx, hI, hr⟩ := evOp_sound hc hnc' hR I he
    unfold Oper.wp
    rcases hrun with hrun | ⟨hrun, rfl⟩
    · rw [hrun, Oper.upon_value]
      exact hK g' w' v hx hI hr
    · rw [hrun, Oper.upon_skip]
      exact hK g' w' _ hx hI hr

/-- One operation of a region. -/
theorem oper_wp {O : Oracle} (hO : OracleOk P O) {ao : AOper} (hc : compOper P ops o = some ao) {σ σ' : St} (hf : σ.m.floor ≤ σ.m.stk.length + 1) (he : evOper O ao σ = some σ') (hR : Reps g w σ.ρ a.tmps.toList) (I : Inv g w σ.m)
    (hK : Goes g w a σ'.ρ σ'.m K) : if Region.wanted o (yielded ops a.tmps) then o.wp P a w K Q else K (a.put o.dst undef) w := by
  have hdst : ao.dst = o.dst ∧ compOp P o = some ao.op := by
    unfold compOper at hc
    split at hc
    · rename_i op gd h1 _
      injection hc with hc
      subst hc
      exact ⟨rfl, h1⟩
    · cases hc
  unfold evOper at he
  split at he
  · rename_i hw
    rw [wanted_sound hc hR hw, if_pos rfl]
    simp only [Option.map_eq_some_iff] at he
    obtain ⟨⟨r, m'⟩, h1, rfl⟩ := he
    refine op_wp hO hdst.2 hf h1 hR I fun g' w' v hx hI hr => hK g' _ w' hx hI ?_ (put_defers _ _)
    rw [hdst.1]
    exact put_reps (hR.mono hx) hr _
  · rename_i hw
    rw [wanted_sound hc hR hw, if_neg (by simp)]
    injection he with he
    subst he
    refine hK g _ w (Ext.refl g w) I ?_ (put_defers _ _)
    simp only
    rw [hdst.1]
    exact put_reps hR (rep_undef g w) _
  · cases he

theorem evOper_above {O : Oracle} (hO : OracleAbove O) {ao : AOper} {σ σ' : St} (hf : σ.m.floor ≤ σ.m.stk.length + 1) (hs : ao.op.isStore = true → σ.m.floor ≤ σ.m.stk.length) (he : evOper O ao σ = some σ') : Above σ.m σ'.m := by
  unfold evOper at he
  split at he
  · simp only [Option.map_eq_some_iff] at he
    obtain ⟨⟨r, m'⟩, h1, rfl⟩ := he
    exact evOp_above hO hf hs h1
  · injection he with he; subst he; exact Above.refl _
  · cases he

theorem evOps_above {O : Oracle} (hO : OracleAbove O) : ∀ {l : List AOper} {σ σ' : St}, σ.m.floor ≤ σ.m.stk.length → evOps O l σ = some σ' → Above σ.m σ'.m
  | [], σ, σ', _, h => by simp [evOps] at h; rw [h]; exact Above.refl _
  | o :: l, σ, σ', hf, h => by
    simp only [evOps, Option.bind_eq_some_iff] at h
    obtain ⟨σ1, h1, h2⟩ := h
    have k1 := evOper_above hO (by omega) (fun _ => hf) h1
    exact k1.trans (evOps_above hO (by rw [k1.len, k1.floor]; exact hf) h2)

theorem ops_wp {O : Oracle} (hO : OracleOk P O) (hA : OracleAbove O) : ∀ {l : List Oper} {al : List AOper} {i : Nat} {σ σ' : St} {g : G} {w : World} {a : Act}, compOpers P ops i l = some al → σ.m.floor ≤ σ.m.stk.length →
    evOps O al σ = some σ' → Reps g w σ.ρ a.tmps.toList → Inv g w σ.m → Goes g w a σ'.ρ σ'.m (Q .normal) → wpList P ops Q l a w
  | [], al, i, σ, σ', g, w, a, hc, _, he, hR, I, hK => by
    simp [compOpers] at hc; subst hc
    simp [evOps] at he; subst he
    exact hK g a w (Ext.refl g w) I hR rfl
  | o :: l, al, i, σ, σ', g, w, a, hc, hf, he, hR, I, hK => by
    simp only [compOpers] at hc
    split at hc
    · rename_i ao al' h1 h2
      injection hc with hc; subst hc
      simp only [evOps, Option.bind_eq_some_iff] at he
      obtain ⟨σ1, h3, h4⟩ := he
      have k1 := evOper_above hA (by omega) (fun _ => hf) h3
      refine wpList_step fun K hKK => oper_wp hO h1 (by omega) h3 hR I fun g' a' w' hx hI hR' hd => ?_
      exact hKK a' w' (ops_wp hO hA h2 (by rw [k1.len, k1.floor]; exact hf) h4 hR' hI fun g2 a2 w2 hx2 hI2 hR2 hd2 => hK g2 a2 w2 (hx.trans hx2) hI2 hR2 (hd2.trans hd))
    · cases hc

end
end Go.Vs
