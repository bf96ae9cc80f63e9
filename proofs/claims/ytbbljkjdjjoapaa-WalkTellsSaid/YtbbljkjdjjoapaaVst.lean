/-
  Vst: calls: THE THEOREM: what 'callN' says of a call, the call does.
-/
import Derived.Test.YtbbljkjdjjoapaaVss
namespace Go.Vs
open Go.RowKit

theorem shiftAll_get (l l' k : Nat) : ∀ (xs : List AV) (j : Nat), (shiftAll l l' k xs)[j]? = (xs[j]?).map fun x => x.shift l l' k
  | [], j => by simp [shiftAll]
  | x :: r, 0 => by simp [shiftAll]
  | x :: r, j + 1 => by simpa [shiftAll] using shiftAll_get l l' k r j

theorem shiftAll_length (l l' k : Nat) : ∀ (xs : List AV), (shiftAll l l' k xs).length = xs.length
  | [] => rfl
  | x :: r => by simp [shiftAll, shiftAll_length l l' k r]

theorem Rep.shift {g : G} {w : World} {x : AV} {v : Value} (l l' k : Nat) (h : Rep g w x v) : Rep g w (x.shift l l' k) v := by
  induction h with
  | bool b => exact .bool b
  | int k n => exact .int k n
  | str s b h => exact .str s b h
  | nils => exact .nils
  | list s tk xs b o cap f hs hcap htk hc hr ih => exact .list s tk xs b o cap f hs hcap htk hc hr
  | empty s tk a cap h => exact .empty s tk a cap h
  | arr a i st off len b o e' cap hb hcap =>
    simp only [AV.shift]
    split
    · exact .arr _ _ _ _ _ _ _ _ _ hb hcap
    · exact .arr _ _ _ _ _ _ _ _ _ hb hcap
  | arr0 a i st off ad cap =>
    simp only [AV.shift]
    split
    · exact .arr0 _ _ _ _ _ _
    · exact .arr0 _ _ _ _ _ _
  | ptr a i st off b o e' hb =>
    simp only [AV.shift]
    split
    · exact .ptr _ _ _ _ _ _ _ hb
    · exact .ptr _ _ _ _ _ _ _ hb
  | ro cs b o f hc hr ih => exact .ro cs b o f hc hr
  | nilptr => exact .nilptr
  | mapR a i st b h =>
    simp only [AV.shift]
    split
    · exact .mapR _ _ _ _ h
    · exact .mapR _ _ _ _ h
  | fn f first caps first' caps' h1 h2 h3 h4 ih3 ih4 =>
    refine .fn f _ _ _ _ (by rw [shiftAll_length]; exact h1) (by rw [shiftAll_length]; exact h2) (fun j c v a1 a2 => ?_) (fun j c v a1 a2 => ?_)
    · rw [shiftAll_get, Option.map_eq_some_iff] at a1
      obtain ⟨y, hy, rfl⟩ := a1
      exact ih3 j y v hy a2
    · rw [shiftAll_get, Option.map_eq_some_iff] at a1
      obtain ⟨y, hy, rfl⟩ := a1
      exact ih4 j y v hy a2
  | nilfn => exact .nilfn
  | agg cs vs hl h ih =>
    refine .agg _ _ (by rw [shiftAll_length]; exact hl) (fun j c v a1 a2 => ?_)
    rw [shiftAll_get, Option.map_eq_some_iff] at a1
    obtain ⟨y, hy, rfl⟩ := a1
    exact ih j y v hy a2
  | tup cs vs hl h ih =>
    refine .tup _ _ (by rw [shiftAll_length]; exact hl) (fun j c v a1 a2 => ?_)
    rw [shiftAll_get, Option.map_eq_some_iff] at a1
    obtain ⟨y, hy, rfl⟩ := a1
    exact ih j y v hy a2
  | undef v => exact .undef v

theorem Reps.shift {g : G} {w : World} {xs : List AV} {vs : List Value} (l l' k : Nat) (h : Reps g w xs vs) : Reps g w (shiftAll l l' k xs) vs := by
  refine ⟨by rw [shiftAll_length]; exact h.1, fun j c v a1 a2 => ?_⟩
  rw [shiftAll_get, Option.map_eq_some_iff] at a1
  obtain ⟨y, hy, rfl⟩ := a1
  exact (h.2 j y v hy a2).shift l l' k

theorem plain_shift (l l' k : Nat) {x : AV} {v : Value} (h : PRep x v) : x.shift l l' k = x := by
  cases h <;> rfl
theorem ents_shift (l l' k : Nat) {ps : List AV} {es : List MapEntry} (h : EntsOk ps es) : shiftAll l l' k ps = ps := by
  induction h with
  | nil => rfl
  | cons h1 h2 _ ih => simp only [shiftAll, AV.shift, plain_shift l l' k h1, plain_shift l l' k h2, ih]

theorem enter_all (m : Mem) : (enter m).all = m.all := by simp [enter, Mem.all]

theorem enter_inv {g : G} {w : World} {m : Mem} (I : Inv g w m) : Inv g w (enter m) :=
  I.sub (fun bl h => by rw [enter_all] at h; exact h) (by rw [enter_all]; exact I.nd) (Nat.le_refl _) (by simp [enter])

theorem leave_sound {g : G} {w : World} {m0 m m' : Mem} {r r' : AV} {v : Value} (I : Inv g w m) (h : leave m0 m r = some (r', m')) (hr : Rep g w r v) : Inv g w m' ∧ Rep g w r' v := by
  unfold leave at h
  simp only at h
  split at h
  · cases h
  · cases h
  · rename_i c own rest hc hown
    have hstk : m.stk = m.stk.dropLast ++ [c] := by
      obtain ⟨hne, hl⟩ := List.getLast?_eq_some_iff.1 hc |> fun ⟨ys, h⟩ => (⟨by rw [h]; simp, ⟨ys, h⟩⟩ : m.stk ≠ [] ∧ ∃ ys, m.stk = ys ++ [c])
      obtain ⟨ys, hys⟩ := hl
      rw [hys]; simp
    have hlive : (pushToks (own.filter fun t => r.toks.contains t) rest).flatten.Sublist m.live.flatten := by
      rw [pushToks_flat, hown]
      exact List.Sublist.append List.filter_sublist (List.Sublist.refl _)
    have hall : m.all = m.stk.dropLast.flatten ++ c ++ m.cur := by
      unfold Mem.all
      rw [hstk]; simp
    split at h
    · injection h with h
      injection h with h1 h2
      subst h1; subst h2
      refine ⟨⟨fun bl hb hrs => ?_, ?_, I.stlt, I.tklt, fun t ht => I.live t (hlive.subset ht), I.ownb, I.hbase, I.lnd.sublist hlive, I.rsv, I.mpk⟩, hr.shift _ _ _⟩
      · simp only [Mem.all, List.mem_append, List.mem_map] at hb
        rcases hb with hb | hb | ⟨b0, hb0, rfl⟩
        · exact I.blk bl (by rw [hall]; simp only [List.mem_append]; exact .inl (.inl hb)) hrs
        · exact I.blk bl (by rw [hall]; simp only [List.mem_append]; exact .inl (.inr hb)) hrs
        · rcases I.blk b0 (by rw [hall]; simp only [List.mem_append]; exact .inr hb0) hrs with ⟨b, o, e, k1, k2, k3, vs, k4, k5⟩ | ⟨b, ps, es, clock, k1, k2, k3, k4, k5⟩
          rotate_left
          · exact .inr ⟨b, ps, es, clock, k1, k2, by simp only [k3, shiftAll, AV.shift, ents_shift _ _ _ k5], k4, k5⟩
          exact .inl ⟨b, o, e, k1, by simp only [shiftAll_length]; exact k2, k3, vs, k4.shift _ _ _, k5⟩
      · have := I.nd
        rw [hall] at this
        simp only [Mem.all, List.map_append, List.map_map] at this ⊢
        simpa [List.append_assoc, Function.comp_def] using this
    · injection h with h
      injection h with h1 h2
      subst h1; subst h2
      refine ⟨I.sub (fun bl hb => ?_) ?_ (Nat.le_refl _) hlive, hr⟩
      · simp only [Mem.all, List.mem_append] at hb
        rw [hall]
        simp only [List.mem_append]
        exact .inl hb
      · have := I.nd
        rw [hall] at this
        refine List.Nodup.sublist ?_ this
        simp only [Mem.all]
        exact (List.sublist_append_left _ _).map _

theorem leave_above {m0 m m' : Mem} {r r' : AV} (hlen : m.stk.length = m0.stk.length + 1) (hf : m0.floor ≤ m0.stk.length + 1) (hk : ∀ l k st cs, l < m0.floor → m0.blk l k st = some cs → m.blk l k st = some cs) (hnx : m0.nx ≤ m.nx) (h : leave m0 m r = some (r', m')) : Above m0 m' := by
  unfold leave at h
  simp only at h
  split at h
  · cases h
  · cases h
  · rename_i c own rest hc hown
    have hlast : m.stk[m0.stk.length]? = some c := by
      rw [List.getLast?_eq_getElem?, hlen] at hc
      simpa using hc
    have key : ∀ (extra : List Blk) (nx : Nat) (live : List (List Nat)), m0.nx ≤ nx → Above m0 { stk := m.stk.dropLast, cur := c ++ extra, nx := nx, live := live, floor := m0.floor } := by
      intro extra nx live hn
      refine ⟨by simp [hlen], rfl, fun l k st cs hl hb => blk_of_row (hk l k st cs hl hb) fun x hx => ?_, hn⟩
      unfold Mem.row at hx ⊢
      have hl1 : ¬ (l == m.stk.length) = true := by simp; omega
      rw [if_neg hl1, List.getD_eq_getElem?_getD] at hx
      simp only [List.length_dropLast, hlen, Nat.add_sub_cancel]
      by_cases hl2 : l = m0.stk.length
      · subst hl2
        rw [hlast, Option.getD_some] at hx
        rw [if_pos (by simp)]
        have hk' : k < c.length := (List.getElem?_eq_some_iff.1 hx).1
        rw [List.getElem?_append_left hk']; exact hx
      · rw [if_neg (by simpa using hl2), List.getD_eq_getElem?_getD, List.getElem?_dropLast]
        rw [if_pos (by omega)]
        exact hx
    split at h
    · injection h with h
      injection h with _ h2
      subst h2
      exact key _ _ _ hnx
    · injection h with h
      injection h with _ h2
      subst h2
      have := key [] m.nx (pushToks (own.filter fun t => r.toks.contains t) rest) hnx
      simpa using this

theorem enter_above (m : Mem) (hf : m.floor ≤ m.stk.length + 1) : ∀ l k st cs, l < m.floor → m.blk l k st = some cs → (enter m).blk l k st = some cs := by
  intro l k st cs hl hb
  refine blk_of_row hb fun x hx => ?_
  unfold Mem.row enter at *
  simp only [List.length_append, List.length_cons, List.length_nil, Nat.zero_add]
  rw [if_neg (by simp; omega), List.getD_eq_getElem?_getD]
  by_cases h : l = m.stk.length
  · subst h
    rw [if_pos (by simp)] at hx
    rw [List.getElem?_append_right (Nat.le_refl _)]
    simpa using hx
  · rw [if_neg (by simpa using h), List.getD_eq_getElem?_getD] at hx
    rw [List.getElem?_append_left (by omega)]
    exact hx

/-- The table of functions is the program's. -/
def TabOk (P : Program) (tab : Nat → Option AFunc) : Prop := ∀ f afn, tab f = some afn → ∃ fn ann, P.funcs[f]? = some fn ∧ compFn P fn ann = some afn

theorem callN_above {tab : Nat → Option AFunc} : ∀ n, OracleAbove (callN tab n)
  | 0 => fun f args m r m' h => by simp [callN] at h
  | n + 1 => fun f args m r m' h hf => by
    simp only [callN] at h
    split at h
    · rename_i fn _
      unfold evFn at h
      split at h
      · cases h
      · rename_i out σ hne he
        simp only [Option.bind_eq_some_iff] at h
        obtain ⟨vs, _, h⟩ := h
        have k := ev_above (callN_above n) fn.body _ _ _ (by simp only [enter]; simp; exact hf) he
        have hl := k.len
        simp only [enter, List.length_append, List.length_cons, List.length_nil, Nat.zero_add] at hl
        exact leave_above hl hf (fun l i st cs hl hb => k.blk l i st cs hl (enter_above m hf l i st cs hl hb)) k.nx h
      · cases h
    · cases h

section
variable {P : Program}

def oneRes (tmps : Array Value) : ResultVar → Sem Value
  | .tmp t => pure (tmps.getD t Go.undef)
  | .cell ad t => do loadVar t (← asAddr (tmps.getD ad Go.undef))

theorem results_eq (fn : Func) (tmps : Array Value) : results fn tmps = (fn.results.mapM (oneRes tmps)) >>= fun vs => pure (if h : vs.size = 1 then vs[0] else .tuple vs) := by
  unfold results
  congr 1

theorem run_results {g : G} {w : World} {σ : St} {a : Act} (hR : Reps g w σ.ρ a.tmps.toList) (I : Inv g w σ.m) : ∀ {l : List ResultVar} {al : List ARes} {vs : List AV}, compRes P l = some al → evRess σ al = some vs →
    ∃ us : List Value, (l.mapM (oneRes a.tmps)).run P w = .ok us w ∧ Reps g w vs us
  | [], al, vs, hc, he => by
    simp [compRes] at hc; subst hc
    simp [evRess] at he; subst he
    exact ⟨[], rfl, Reps.nil g w⟩
  | .tmp t :: l, al, vs, hc, he => by
    simp only [compRes, Option.map_eq_some_iff] at hc
    obtain ⟨al', h1, rfl⟩ := hc
    simp only [evRess, evRes, Option.bind_eq_some_iff, Option.map_eq_some_iff, Option.some.injEq] at he
    obtain ⟨v, rfl, vs', h2, rfl⟩ := he
    obtain ⟨us, k1, k2⟩ := run_results hR I h1 h2
    refine ⟨a.tmps.getD t Go.undef :: us, ?_, Reps.cons (getD_sound hR t) k2⟩
    rw [List.mapM_cons]
    simp only [oneRes, Sem.run_bind, Sem.run_pure, Result.andThen_ok, k1]
  | .cell ad t :: l, al, vs, hc, he => by
    simp only [compRes] at hc
    split at hc
    · rename_i b n al' hb hn h1
      split at hc
      · injection hc with hc; subst hc
        simp only [evRess, evRes, Option.bind_eq_some_iff, Option.map_eq_some_iff] at he
        obtain ⟨v, ⟨cs, hcs, htk⟩, vs', h2, rfl⟩ := he
        obtain ⟨us, k1, k2⟩ := run_results hR I h1 h2
        obtain ⟨u, k3, k4⟩ := loadVar_sound (P := P) I (getD_sound hR ad) hb hn hcs htk
        obtain ⟨bb, oo, us', hv, _, _⟩ := at_sound I (getD_sound hR ad) hcs
        refine ⟨u :: us, ?_, Reps.cons k4 k2⟩
        rw [hv] at k3
        have k5 : (loadVar t ⟨bb, oo, none⟩).run P w = .ok u w := by simpa [Instr.loadAt, Instr.sureAddr] using k3
        rw [List.mapM_cons]
        simp only [oneRes, Sem.run_bind, Sem.run_pure, Result.andThen_ok, hv, asAddr, k5, k1]
      · cases hc
    · cases hc

theorem callN_ok (hM : P.follows .mixedOrders = true) {tab : Nat → Option AFunc} (hT : TabOk P tab) : ∀ n, OracleOk P (callN tab n)
  | 0 => fun f args m r m' h => by simp [callN] at h
  | n + 1 => fun f args m r m' h hf => by
    simp only [callN] at h
    split at h
    · rename_i afn htab
      obtain ⟨fn, ann, hfn, hcomp⟩ := hT f afn htab
      unfold compFn at hcomp
      split at hcomp
      · rename_i c hbody
        split at hcomp
        · rename_i b rest res hc hres
          split at hcomp
          · cases hcomp
          · rename_i hname
            injection hcomp with hcomp
            subst hcomp
            refine ⟨⟨fn, hfn, by simpa using hname, by rw [hbody]; rfl⟩, fun g w vs I hA => ?_⟩
            unfold evFn at h
            simp only at h
            have fin : ∀ (out : Out) (σ : St), (out = .normal ∨ out = .ret) → ev (callN tab n) n b ⟨args ++ List.replicate (fn.ntmps - args.length) (.tup []), enter m⟩ = some (out, σ) → ((evRess σ res).bind fun vs => leave m σ.m (packRes vs)) = some (r, m') →
                Calls P f vs.toArray w fun e w' => ∃ v g', e = .returned v ∧ Ext g w g' w' ∧ Inv g' w' m' ∧ Rep g' w' r v := by
              intro out σ hout he hlv
              simp only [Option.bind_eq_some_iff] at hlv
              obtain ⟨rs, hrs, hlv⟩ := hlv
              refine calls_of_wp hfn hbody (ev_wp hM (callN_ok hM hT n) (callN_above n) n c ann b rest hc _ out σ g w _ _ he (by simp only [enter]; simp; exact hf) ?_ (enter_inv I) fun g1 a1 w1 hx1 hI1 hR1 hd1 => ?_)
              · have hl : vs.length = args.length := hA.1
                have : (vs.toArray ++ Array.replicate (fn.ntmps - vs.toArray.size) Go.undef).toList = vs ++ List.replicate (fn.ntmps - args.length) Go.undef := by
                  simp [hl]
                rw [this]
                refine hA.append ⟨by simp, fun j x v h1 h2 => ?_⟩
                have e1 := List.eq_of_mem_replicate (List.mem_of_getElem? h1)
                have e2 := List.eq_of_mem_replicate (List.mem_of_getElem? h2)
                subst e1; subst e2
                exact rep_undef g w
              · obtain ⟨us, k1, k2⟩ := run_results (P := P) hR1 hI1 hres hrs
                have hval : ∃ v, (results fn a1.tmps).run P w1 = .ok v w1 ∧ Rep g1 w1 (packRes rs) v := by
                  have hm : (fn.results.mapM (oneRes a1.tmps)).run P w1 = .ok us.toArray w1 := by
                    rw [Array.mapM_eq_mapM_toList]
                    simp only [Functor.map, Sem.run_bind', k1, Result.andThen_ok]
                    rfl
                  by_cases h1 : us.length = 1
                  · obtain ⟨u, rfl⟩ := List.length_eq_one_iff.1 h1
                    have hr1 : rs.length = 1 := by rw [← k2.1]; rfl
                    obtain ⟨x, rfl⟩ := List.length_eq_one_iff.1 hr1
                    refine ⟨u, ?_, k2.2 0 x u rfl rfl⟩
                    rw [results_eq, Sem.run_bind, hm]
                    rfl
                  · refine ⟨.tuple us.toArray, ?_, ?_⟩
                    · rw [results_eq, Sem.run_bind, hm]
                      simp only [Result.andThen_ok, List.size_toArray, h1, dif_neg, not_false_eq_true, Sem.run_pure]
                    · have : packRes rs = .tup rs := by
                        unfold packRes
                        split
                        · rename_i x
                          have := k2.1
                          exact absurd this h1
                        · rfl
                      rw [this]
                      exact k2.tup
                obtain ⟨v, hv, hrep⟩ := hval
                obtain ⟨hI2, hr2⟩ := leave_sound hI1 hlv hrep
                rcases hout with rfl | rfl
                · exact ⟨hd1, v, hv, v, g1, rfl, hx1, hI2, hr2⟩
                · exact ⟨hd1, v, hv, v, g1, rfl, hx1, hI2, hr2⟩
            split at h
            · cases h
            · rename_i out σ hne he
              refine fin out σ ?_ he h
              cases out with
              | normal => exact .inl rfl
              | ret => exact .inr rfl
              | exit id => exact absurd rfl (hne id)
            · cases h
        · cases hcomp
      · cases hcomp
    · cases h

end
end Go.Vs
