/-
  Vsl: every operation but the call: one theorem.
-/
import Derived.Test.YtbbljkjdjjoapaaVsk
import Derived.Test.YtbbljkjdjjoapaaVseq
import Derived.Test.YtbbljkjdjjoapaaVsmp
import Derived.Test.YtbbljkjdjjoapaaVscp
namespace Go.Vs
open Go.RowKit

section
variable {P : Program} {g : G} {w : World} {ρ : List AV} {a : Act} {m m' : Mem} {o : Oper} {r : AV}

theorem evX_sound {e : XOp} (h : compX P o = some e) (hR : Reps g w ρ a.tmps.toList) (I : Inv g w m) (he : evX ρ m e = some (r, m')) : Yields P a o g w r m' := by
  unfold compX at h
  split at h
  · rename_i op xt x y yt hop
    split at h
    · rename_i neg fs hn ht
      split at h
      · rename_i ls n x' y' hl hsz hx hy
        split at h
        · rename_i hg
          injection h with h; subst h
          simp only [evX] at he
          split at he
          · rename_i xs ys e1 e2
            split at he
            · rename_i hc
              simp only [Bool.and_eq_true, beq_iff_eq] at hc
              simp only [Option.map_eq_some_iff, Prod.mk.injEq] at he
              obtain ⟨b, hb, rfl, rfl⟩ := he
              exact eqA_sound hR I hop hn ht hl hx hy hg e1 e2 (by rw [hc.1]; exact hsz) (by rw [hc.2]; exact hsz) hb
            · cases he
          · cases he
        · cases h
      · cases h
    · rename_i neg hn _
      split at h
      · rename_i kd hk
        simp only [Option.map_eq_some_iff] at h
        obtain ⟨x', hx, rfl⟩ := h
        simp only [evX, Option.map_eq_some_iff, Prod.mk.injEq] at he
        obtain ⟨b, hb, rfl, rfl⟩ := he
        exact isNil_sound hR I hop hn (.inl ⟨rfl, hk⟩) hx hb
      · split at h
        · rename_i kd hk
          simp only [Option.map_eq_some_iff] at h
          obtain ⟨x', hx, rfl⟩ := h
          simp only [evX, Option.map_eq_some_iff, Prod.mk.injEq] at he
          obtain ⟨b, hb, rfl, rfl⟩ := he
          exact isNil_sound hR I hop hn (.inr ⟨rfl, hk⟩) hx hb
        · cases h
    · cases h
  · rename_i x hop
    simp only [Option.map_eq_some_iff] at h
    obtain ⟨x', hx, rfl⟩ := h
    simp only [evX, Option.map_eq_some_iff, Prod.mk.injEq] at he
    obtain ⟨b, hb, rfl, rfl⟩ := he
    exact nilChk_sound hR I hop hx hb
  · rename_i c hop
    split at h
    · rename_i t tx x y hc hA ha
      split at h
      · rename_i e x' y' ht hx hy
        split at h
        · rename_i ti hi
          split at h
          · rename_i h0
            injection h with h; subst h
            simp only [evX] at he
            exact copy_sound hR I hop hc hA ha hx hy ht hi h0 he
          · cases h
        · cases h
      · cases h
    · cases h
  · rename_i t hop
    split at h
    · injection h with h; subst h
      simp only [evX, Option.some.injEq, Prod.mk.injEq] at he
      obtain ⟨rfl, rfl⟩ := he
      exact mkmap_sound I hop
    · cases h
  · rename_i t x k hop
    split at h
    · rename_i kt et ht
      split at h
      · rename_i kk z x' k' hk hz hx hkx
        injection h with h; subst h
        simp only [evX] at he
        split at he
        · rename_i ps hps
          split at he
          · rename_i hky
            simp only [Option.map_eq_some_iff, Prod.mk.injEq] at he
            obtain ⟨v, hv, rfl, rfl⟩ := he
            exact mget_sound hR I hop ht hk hz hx hkx hps hky hv
          · cases he
        · cases he
      · cases h
    · cases h
  · rename_i t x k v hop
    split at h
    · rename_i kt et ht
      split at h
      · rename_i kk x' k' v' hk hx hkx hvx
        injection h with h; subst h
        simp only [evX] at he
        exact mput_sound hR I hop ht hk hx hkx hvx he
      · cases h
    · cases h
  · cases h

theorem evOp0_sound {O : Oracle} {op : AOp} (h : compOp0 P o = some op) (hnc : ∀ f l, op ≠ .call f l) (hR : Reps g w ρ a.tmps.toList) (I : Inv g w m) (he : evOp O ρ m op = some (r, m')) : Yields P a o g w r m' := by
  have pairI : ∀ {x : Option AV} {mm : Mem} {v : AV} {m2 : Mem}, (x.map fun z => (z, mm)) = some (v, m2) → x = some v ∧ m2 = mm := by
    intro x mm v m2 h
    cases x with
    | none => simp at h
    | some z => simp at h; exact ⟨by rw [h.1], h.2.symm⟩
  unfold compOp0 at h
  split at h
  · rename_i x hop
    simp only [Option.map_eq_some_iff] at h
    obtain ⟨y, hy, rfl⟩ := h
    simp only [evOp, Option.some.injEq, Prod.mk.injEq] at he
    obtain ⟨rfl, rfl⟩ := he
    exact mov_sound hR I (.inl hop) hy
  · rename_i x hop
    simp only [Option.map_eq_some_iff] at h
    obtain ⟨y, hy, rfl⟩ := h
    simp only [evOp, Option.some.injEq, Prod.mk.injEq] at he
    obtain ⟨rfl, rfl⟩ := he
    exact mov_sound hR I (.inr hop) hy
  · rename_i c x y hop
    split at h
    · rename_i c' x' y' hc hx hy
      injection h with h; subst h
      simp only [evOp] at he
      split at he
      · rename_i t ht
        simp only [Option.some.injEq, Prod.mk.injEq] at he
        obtain ⟨rfl, rfl⟩ := he
        exact pick_sound hR I hop hc hx hy ht
      · cases he
    · cases h
  · rename_i e hop
    simp only [Option.bind_eq_some_iff] at h
    obtain ⟨z, hz, h⟩ := h
    split at h
    · rename_i hpos
      injection h with h; subst h
      simp only [evOp, Option.some.injEq] at he
      have := alloc_sound (P := P) (a := a) I hop hz hpos
      rw [he] at this
      exact this
    · cases h
  · rename_i e x hop
    split at h
    · rename_i n y hn hy
      split at h
      · rename_i hpos
        injection h with h; subst h
        simp only [evOp] at he
        split at he
        · rename_i hl
          injection he with he
          have := box_sound (P := P) hR I hop hy (eq_of_beq hl) hpos
          rw [he] at this
          exact this
        · cases he
      · cases h
    · cases h
  · rename_i t ps hop
    split at h
    · rename_i z fs hz ht
      split at h
      · rename_i hall
        simp only [Option.map_eq_some_iff] at h
        obtain ⟨l, hl, rfl⟩ := h
        simp only [evOp] at he
        simp only [Option.map_eq_some_iff, Prod.mk.injEq] at he
        obtain ⟨cs, he, rfl, rfl⟩ := he
        exact buildStruct_sound hR I hop hz ht hall hl he
      · cases h
    · rename_i z n e hz ht
      split at h
      · rename_i s hs
        split at h
        · rename_i hpos
          simp only [Option.map_eq_some_iff] at h
          obtain ⟨l, hl, rfl⟩ := h
          simp only [evOp] at he
          simp only [Option.map_eq_some_iff, Prod.mk.injEq] at he
          obtain ⟨cs, he, rfl, rfl⟩ := he
          exact buildArray_sound hR I hop hz ht hs hl he hpos
        · cases h
      · cases h
    · cases h
  · rename_i t len ps hop
    split at h
    · rename_i e ht
      split at h
      · rename_i ti hi
        split at h
        · rename_i hc
          simp only [Option.map_eq_some_iff, Option.bind_eq_some_iff] at h
          obtain ⟨l, ⟨xs, hp, hl⟩, rfl⟩ := h
          simp only [evOp] at he
          split at he
          · rename_i hall
            simp only [Option.some.injEq, Prod.mk.injEq] at he
            obtain ⟨rfl, rfl⟩ := he
            exact lit_sound hR I hop ht hi hc.1 hc.2.1 hc.2.2.1 hc.2.2.2 hp hl hall
          · cases he
        · cases h
      · cases h
    · cases h
  · rename_i t x hop
    split at h
    · rename_i b n y hb hn hy
      split at h
      · injection h with h; subst h
        simp only [evOp, Option.bind_eq_some_iff] at he
        obtain ⟨cs, hc, he⟩ := he
        obtain ⟨hq, rfl⟩ := pairI he
        exact load_sound hR I hop hy hb hn hc hq
      · cases h
    · cases h
  · rename_i t x y hop
    split at h
    · rename_i n x' y' hn hx hy
      split at h
      · rename_i hpos
        injection h with h; subst h
        simp only [evOp] at he
        exact store_sound hR I hop hx hy hn he hpos
      · cases h
    · cases h
  · rename_i bop xt x y yt hop
    split at h
    · rename_i x' y' hx hy
      split at h
      · rename_i hbool
        split at h
        · injection h with h; subst h
          simp only [evOp] at he
          split at he
          · rename_i u v e1 e2
            simp only [Option.some.injEq, Prod.mk.injEq] at he
            obtain ⟨rfl, rfl⟩ := he
            exact beq_sound hR I hop hx hy hbool e1 e2 false rfl
          · cases he
        · injection h with h; subst h
          simp only [evOp] at he
          split at he
          · rename_i u v e1 e2
            simp only [Option.some.injEq, Prod.mk.injEq] at he
            obtain ⟨rfl, rfl⟩ := he
            exact beq_sound hR I hop hx hy hbool e1 e2 true rfl
          · cases he
        · cases h
      · injection h with h; subst h
        simp only [evOp] at he
        obtain ⟨hq, rfl⟩ := pairI he
        exact bin_sound hR I hop hx hy hq
    · cases h
  · rename_i uop t x hop
    simp only [Option.map_eq_some_iff] at h
    obtain ⟨y, hy, rfl⟩ := h
    simp only [evOp] at he
    obtain ⟨hq, rfl⟩ := pairI he
    exact un_sound hR I hop hy hq
  · rename_i s d x hop
    split at h
    · rename_i j k y hs hd hy
      injection h with h; subst h
      simp only [evOp] at he
      split at he
      · rename_i k' n e1
        simp only [Option.some.injEq, Prod.mk.injEq] at he
        obtain ⟨rfl, rfl⟩ := he
        exact conv_sound hR I hop hy hs hd e1
      · cases he
    · rename_i y hs hd hy
      injection h with h; subst h
      simp only [evOp] at he
      split at he
      · rename_i b e1
        simp only [Option.some.injEq, Prod.mk.injEq] at he
        obtain ⟨rfl, rfl⟩ := he
        exact convStr_sound hR I hop hy hs hd e1
      · cases he
    · rename_i e y hs hd hy
      split at h
      · rename_i hu
        injection h with h; subst h
        simp only [evOp] at he
        obtain ⟨hq, rfl⟩ := pairI he
        exact toStr_sound hR I hop hy hs hd hu hq
      · cases h
    · rename_i e y hs hd hy
      split at h
      · rename_i hu
        injection h with h; subst h
        simp only [evOp] at he
        split at he
        · rename_i b e1
          split at he
          · simp only [Option.some.injEq, Prod.mk.injEq] at he
            obtain ⟨rfl, rfl⟩ := he
            simp only [Bool.and_eq_true] at hu
            exact toBytes_sound hR I hop hy hs hd hu.1 e1
          · cases he
        · cases he
      · cases h
    · cases h
  · rename_i f x y hop
    split at h
    · rename_i x' y' hx hy
      injection h with h; subst h
      simp only [evOp, Option.some.injEq, Prod.mk.injEq] at he
      obtain ⟨rfl, rfl⟩ := he
      exact mkfn_sound hR I hop hx hy
    · cases h
  · rename_i t x i hop
    split at h
    · rename_i fs y ht hy
      split at h
      · rename_i f hf
        split at h
        · rename_i ti hi
          split at h
          · cases h
          · rename_i hne
            injection h with h; subst h
            simp only [evOp] at he
            obtain ⟨hq, rfl⟩ := pairI he
            exact faddr_sound hR I hop hy ht hf hi hne hq
        · cases h
      · cases h
    · cases h
  · rename_i t x i hop
    split at h
    · rename_i fs y ht hy
      split at h
      · rename_i f hf
        split at h
        · rename_i b n hb hn
          split at h
          · injection h with h; subst h
            simp only [evOp] at he
            split at he
            · rename_i cs e1
              obtain ⟨hq, rfl⟩ := pairI he
              exact field_sound hR I hop hy ht hf hb hn e1 hq
            · cases he
          · cases h
        · cases h
      · cases h
    · cases h
  · rename_i t x i hop
    split at h
    · rename_i e x' i' ht hx hi
      simp only [Option.map_eq_some_iff] at h
      obtain ⟨s, hs, rfl⟩ := h
      simp only [evOp] at he
      obtain ⟨hq, rfl⟩ := pairI he
      exact iaddr_sound hR I hop hx hi ht hs hq
    · rename_i n e x' i' ht hx hi
      simp only [Option.map_eq_some_iff] at h
      obtain ⟨s, hs, rfl⟩ := h
      simp only [evOp] at he
      obtain ⟨hq, rfl⟩ := pairI he
      exact iaddrA_sound hR I hop hx hi ht hs hq
    · cases h
  · rename_i t x i hop
    split at h
    · rename_i x' i' ht hx hi
      injection h with h; subst h
      simp only [evOp] at he
      split at he
      · rename_i b e1
        simp only [Option.bind_eq_some_iff, Option.map_eq_some_iff, Prod.mk.injEq] at he
        obtain ⟨j, hj, c, hc, rfl, rfl⟩ := he
        exact indexS_sound hR I hop hx hi ht e1 hj hc
      · cases he
    · rename_i n e x' i' ht hx hi
      split at h
      · rename_i b s hb hs
        split at h
        · injection h with h; subst h
          simp only [evOp] at he
          split at he
          · rename_i cs e1
            simp only [Option.bind_eq_some_iff, Option.map_eq_some_iff, Prod.mk.injEq] at he
            obtain ⟨j, hj, c, hc, rfl, rfl⟩ := he
            exact indexA_sound hR I hop hx hi ht hb hs e1 hj hc
          · cases he
        · cases h
      · cases h
    · cases h
  · rename_i t x lo hi mx hop
    split at h
    · rename_i x' lo' hi' ht hx hlo hhi hmx
      injection h with h; subst h
      have : mx = none := by cases mx with | none => rfl | some q => simp [compOpt] at hmx
      subst this
      simp only [evOp] at he
      obtain ⟨hq, rfl⟩ := pairI he
      exact sliceS_sound hR I hop hx hlo hhi ht hq
    · rename_i e x' lo' hi' mx' ht hx hlo hhi hmx
      simp only [Option.bind_eq_some_iff] at h
      obtain ⟨s, hs, h⟩ := h
      split at h
      · rename_i hc
        simp only [Bool.and_eq_true, decide_eq_true_eq, Bool.or_eq_true] at hc
        injection h with h; subst h
        simp only [evOp] at he
        obtain ⟨hq, rfl⟩ := pairI he
        refine slice_sound hR I hop hx hlo hhi hmx ht hs hc.1 (fun hm => ?_) hq
        rcases hc.2 with h | h
        · cases mx' with
          | none => simp at hm
          | some q => simp at h
        · exact h
      · cases h
    · rename_i n e x' lo' hi' ht hx hlo hhi hmx
      simp only [Option.map_eq_some_iff] at h
      obtain ⟨s, hs, rfl⟩ := h
      have : mx = none := by cases mx with | none => rfl | some q => simp [compOpt] at hmx
      subst this
      simp only [evOp] at he
      obtain ⟨hq, rfl⟩ := pairI he
      exact sliceA_sound hR I hop hx hlo hhi ht hs hq
    · cases h
  · rename_i t n c hop
    split at h
    · rename_i e ht
      split at h
      · rename_i ti z n' c' hi hz hn hc
        split at h
        · rename_i hcond
          injection h with h; subst h
          simp only [evOp] at he
          exact make_sound hR I hop hn hc ht hi hz hcond.1 hcond.2 he
        · cases h
      · cases h
    · cases h
  · rename_i x i hop
    simp only [Option.map_eq_some_iff] at h
    obtain ⟨y, hy, rfl⟩ := h
    simp only [evOp] at he
    split at he
    · rename_i vs e1
      obtain ⟨hq, rfl⟩ := pairI he
      exact extract_sound hR I hop hy e1 hq
    · cases he
  · rename_i c hop
    unfold compCall at h
    split at h
    · rename_i f hc
      split at h
      · injection h with h; exact absurd h.symm (hnc _ _)
      · cases h
    · cases h
    · rename_i b hc
      split at h
      · rename_i t x hA ha
        split at h
        · rename_i e ht
          simp only [Option.map_eq_some_iff] at h
          obtain ⟨y, hy, rfl⟩ := h
          simp only [evOp] at he
          obtain ⟨hq, rfl⟩ := pairI he
          exact len_sound hR I hop hc hA ha hy ht hq
        · rename_i ht
          simp only [Option.map_eq_some_iff] at h
          obtain ⟨y, hy, rfl⟩ := h
          simp only [evOp] at he
          split at he
          · rename_i l e1
            simp only [Option.some.injEq, Prod.mk.injEq] at he
            obtain ⟨rfl, rfl⟩ := he
            exact lenS_sound hR I hop hc hA ha hy ht e1
          · cases he
        · rename_i n e ht
          injection h with h; subst h
          simp only [evOp, Opd.ev, Option.some.injEq, Prod.mk.injEq] at he
          obtain ⟨rfl, rfl⟩ := he
          exact lenA_sound I hop hc hA ha ht
        · cases h
      · rename_i t tx x y hA ha
        split at h
        · rename_i e e' ht htx
          split at h
          · split at h
            · rename_i ti x' y' hi hx hy
              split at h
              · rename_i hcond
                injection h with h; subst h
                simp only [evOp] at he
                exact app_sound hR I hop hc hA ha hx hy ht (.inl ⟨_, htx⟩) hi hcond.1 hcond.2.1 hcond.2.2 he
              · cases h
            · cases h
          · cases h
        · rename_i e ht htx
          split at h
          · rename_i ti x' y' hi hx hy
            split at h
            · rename_i hcond
              injection h with h; subst h
              simp only [evOp] at he
              exact app_sound hR I hop hc hA ha hx hy ht (.inr htx) hi hcond.1 hcond.2.1 hcond.2.2 he
            · cases h
          · cases h
        · cases h
      · rename_i x y ha
        split at h
        · rename_i x' y' hx hy
          injection h with h; subst h
          simp only [evOp] at he
          obtain ⟨hq, rfl⟩ := pairI he
          exact mx_sound hR I hop hc ha hx hy hq
        · cases h
      · rename_i x y ha
        split at h
        · rename_i x' y' hx hy
          injection h with h; subst h
          simp only [evOp] at he
          obtain ⟨hq, rfl⟩ := pairI he
          exact mn_sound hR I hop hc ha hx hy hq
        · cases h
      · cases h
  · cases h

theorem evOp_sound {O : Oracle} {op : AOp} (h : compOp P o = some op) (hnc : ∀ f l, op ≠ .call f l) (hR : Reps g w ρ a.tmps.toList) (I : Inv g w m) (he : evOp O ρ m op = some (r, m')) : Yields P a o g w r m' := by
  unfold compOp at h
  split at h
  · rename_i e hx
    injection h with h; subst h
    exact evX_sound hx hR I he
  · split at h
    · rename_i op' h0
      injection h with h; subst h
      exact evOp0_sound h0 hnc hR I he
    · split at h
      · cases h
      · injection h with h; subst h
        cases he

end
end Go.Vs
