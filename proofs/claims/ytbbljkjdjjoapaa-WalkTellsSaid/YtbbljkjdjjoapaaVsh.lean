/-
  Vsh: addresses, slices, literals.
-/
import Derived.Test.YtbbljkjdjjoapaaVsg
import Derived.Laws.MakeOwn
import Derived.Laws.BytesString
namespace Go.Vs
open Go.RowKit

section
variable {P : Program} {g : G} {w : World} {ρ : List AV} {a : Act} {m m' : Mem} {o : Oper} {r : AV}

theorem add_plain (b o n : Nat) : (⟨b, o, none⟩ : Addr).add n = ⟨b, o + n, none⟩ := Addr.add_mid b o n

/-- An address, n cells further on. -/
theorem Rep.ro_drop {cs : List AV} {b o : Nat} {f : Nat → Value} (n : Nat) (hc : ∀ (j : Nat) (c : AV), cs[j]? = some c → w.cell? ⟨b, o + j, none⟩ = some (f j) ∧ g.own b (o + j) = none)
    (hr : ∀ (j : Nat) (c : AV), cs[j]? = some c → Rep g w c (f j)) : Rep g w (.ro (cs.drop n)) (.pointer (some ⟨b, o + n, none⟩)) :=
  .ro _ b (o + n) (fun j => f (n + j)) (fun j c h => by rw [List.getElem?_drop] at h; rw [Nat.add_assoc]; exact hc _ c h) (fun j c h => by rw [List.getElem?_drop] at h; exact hr _ c h)

theorem faddr_sound (hR : Reps g w ρ a.tmps.toList) (I : Inv g w m) {t : TypeId} {x : Operand} {x' : Opd} {i : Nat} {fs : Array Field} {f : Field} {ti : TypeInfo} (hop : o.op = .fieldAddr t x i) (hx : compOpd x = some x')
    (ht : P.underlying t = some (.struct fs)) (hf : fs[i]? = some f) (hi : P.info? f.type = some ti) (h0 : ti.size ≠ 0)
    (he : evFaddr f.offset (x'.ev ρ) = some r) : Yields P a o g w r m := by
  have h1 := opd_sound hR hx
  have run : ∀ b off, (Instr.fieldAt t (.pointer (some ⟨b, off, none⟩)) i).run P w = .ok (.pointer (some ⟨b, off + f.offset, none⟩)) w := by
    intro b off
    simp [Instr.fieldAt, run_underlying ht, hf, Instr.sureAddr, fieldPlace, sizeOf, typeInfo, hi, h0, add_plain]
  unfold evFaddr at he
  split at he
  · rename_i l k st off e1
    injection he with he; subst he
    rw [e1] at h1
    obtain ⟨b, oo, e, hb, hv⟩ := h1.inv_ptr
    refine .pure I (v := .pointer (some ⟨b, oo + off + f.offset, none⟩)) (by simp [execOp, hop, hv, run]) ?_
    rw [Nat.add_assoc]
    exact .ptr _ _ _ _ _ _ _ hb
  · rename_i cs e1
    injection he with he; subst he
    rw [e1] at h1
    obtain ⟨b, oo, hv, ff, hc, hr⟩ := h1.inv_ro
    exact .pure I (v := .pointer (some ⟨b, oo + f.offset, none⟩)) (by simp [execOp, hop, hv, run]) (Rep.ro_drop _ hc hr)
  · cases he

theorem part_sound {cs : List AV} {us : List Value} (h : Reps g w cs us) {t : TypeId} {b : Bool} {n off : Nat} {y : AV} (hb : aggT P t = some b) (hn : sizeOfT P t = some n) (ht : takeV b n (cs.drop off) = some y) :
    ∃ u, (part t us.toArray off).run P w = .ok u w ∧ Rep g w y u := by
  have h1 := h.drop off
  cases b with
  | true =>
    obtain ⟨rfl, hle⟩ := takeV_agg ht
    refine ⟨.agg (us.toArray.extract off (off + n)), by simp [part, isAgg_of hb w, size_of hn w], ?_⟩
    have : (us.toArray.extract off (off + n)) = ((us.drop off).take n).toArray := by
      apply Array.ext'
      simp [List.extract_eq_take_drop]
    rw [this]
    exact (h1.take n).agg
  | false =>
    obtain ⟨h0, hle⟩ := takeV_one ht
    obtain ⟨u, h3, h4⟩ := h1.get h0
    rw [List.getElem?_drop] at h3
    refine ⟨u, ?_, h4⟩
    simp only [part, Sem.run_bind, isAgg_of hb w, Result.andThen_ok, Bool.false_eq_true, if_false]
    simp at h3
    simp [h3]

theorem field_sound (hR : Reps g w ρ a.tmps.toList) (I : Inv g w m) {t : TypeId} {x : Operand} {x' : Opd} {i : Nat} {fs : Array Field} {f : Field} {b : Bool} {n : Nat} {cs : List AV} (hop : o.op = .field t x i) (hx : compOpd x = some x')
    (ht : P.underlying t = some (.struct fs)) (hf : fs[i]? = some f) (hb : aggT P f.type = some b) (hn : sizeOfT P f.type = some n)
    (he : x'.ev ρ = .agg cs) (hv : takeV b n (cs.drop f.offset) = some r) : Yields P a o g w r m := by
  have h1 := opd_sound hR hx
  rw [he] at h1
  obtain ⟨us, i1, i2⟩ := Reps.of_agg h1
  obtain ⟨u, k1, k2⟩ := part_sound (P := P) i2 hb hn hv
  exact .pure I (v := u) (by simp [execOp, hop, i1, Instr.field, run_underlying ht, hf, asAgg, k1]) k2

theorem idx_of {i : AV} {n j : Nat} (h : idx i n = some j) : ∃ k z, i = .int k z ∧ 0 ≤ z ∧ z < n ∧ j = z.toNat ∧ j < n := by
  unfold idx at h
  split at h
  · rename_i k z
    split at h
    · rename_i hz
      injection h with h
      exact ⟨k, z, rfl, hz.1, hz.2, h.symm, by omega⟩
    · cases h
  · cases h

theorem iaddr_sound (hR : Reps g w ρ a.tmps.toList) (I : Inv g w m) {t e : TypeId} {x y : Operand} {x' y' : Opd} {s : Nat} (hop : o.op = .indexAddr t x y) (hx : compOpd x = some x') (hy : compOpd y = some y')
    (ht : P.underlying t = some (.slice e)) (hn : sizeOfT P e = some s) (he : evIaddr s (x'.ev ρ) (y'.ev ρ) = some r) : Yields P a o g w r m := by
  have h1 := opd_sound hR hx
  have h2 := opd_sound hR hy
  have run : ∀ b off len cap k z, 0 ≤ z → z < ((len : Nat) : Int) → a.eval x = .slice (some ⟨b, off, none⟩) len cap → a.eval y = .int k z → (execOp a.eval o).run P w = .ok (.value (.pointer (some ⟨b, off + z.toNat * s, none⟩))) w := by
    intro b off len cap k z hz hz' e1 e2
    simp [execOp, hop, e1, e2, Instr.indexAt, asIntOf, run_underlying ht, hz, hz', size_of hn w, add_plain]
  unfold evIaddr at he
  split at he
  · rename_i s' tk xs e1
    rw [e1] at h1
    split at he
    · rename_i hs
      have hs' : s' = s := eq_of_beq hs
      subst hs'
      simp only [Option.bind_eq_some_iff, Option.map_eq_some_iff] at he
      obtain ⟨j, hj, x0, hx0, rfl⟩ := he
      obtain ⟨k, z, e2, z0, z1, rfl, hlt⟩ := idx_of hj
      rw [e2] at h2
      rcases h1.inv_list with ⟨b, oo, cap, hv, hsz, hcap, htk, f, hc, hr⟩ | ⟨rfl, _⟩
      · refine .pure I (run b oo _ cap k z z0 z1 hv h2.inv_int) (.ro _ _ _ (fun j => f z.toNat j) (fun j c hj => ?_) (fun j c hj => hr _ _ _ _ hx0 hj))
        rw [Nat.add_assoc]
        have := hc _ _ _ _ hx0 hj
        exact ⟨this.1, this.2.1⟩
      · simp at hx0
    · cases he
  · rename_i l k st off len e1
    rw [e1] at h1
    simp only [Option.map_eq_some_iff] at he
    obtain ⟨j, hj, rfl⟩ := he
    obtain ⟨k', z, e2, z0, z1, rfl, hlt⟩ := idx_of hj
    rw [e2] at h2
    rcases h1.inv_arr with ⟨b, oo, e', cap, hb, hv, hcap⟩ | ⟨rfl, _⟩
    · refine .pure I (run b (oo + off) len cap k' z z0 z1 hv h2.inv_int) ?_
      rw [Nat.add_assoc]
      exact .ptr _ _ _ _ _ _ _ hb
    · omega
  · cases he

theorem iaddrA_sound (hR : Reps g w ρ a.tmps.toList) (I : Inv g w m) {t e : TypeId} {x y : Operand} {x' y' : Opd} {s n : Nat} (hop : o.op = .indexAddr t x y) (hx : compOpd x = some x') (hy : compOpd y = some y')
    (ht : P.underlying t = some (.array n e)) (hn : sizeOfT P e = some s) (he : evIaddrA n s (x'.ev ρ) (y'.ev ρ) = some r) : Yields P a o g w r m := by
  have h1 := opd_sound hR hx
  have h2 := opd_sound hR hy
  have run : ∀ b off k z, 0 ≤ z → z < ((n : Nat) : Int) → a.eval x = .pointer (some ⟨b, off, none⟩) → a.eval y = .int k z → (execOp a.eval o).run P w = .ok (.value (.pointer (some ⟨b, off + z.toNat * s, none⟩))) w := by
    intro b off k z hz hz' e1 e2
    simp [execOp, hop, e1, e2, Instr.indexAt, Instr.sureAddr, asIntOf, run_underlying ht, hz, hz', size_of hn w, add_plain]
  unfold evIaddrA at he
  split at he
  · rename_i l k st off e1
    rw [e1] at h1
    simp only [Option.map_eq_some_iff] at he
    obtain ⟨j, hj, rfl⟩ := he
    obtain ⟨k', z, e2, z0, z1, rfl, hlt⟩ := idx_of hj
    rw [e2] at h2
    obtain ⟨b, oo, e', hb, hv⟩ := h1.inv_ptr
    refine .pure I (run b (oo + off) k' z z0 z1 hv h2.inv_int) ?_
    rw [Nat.add_assoc]
    exact .ptr _ _ _ _ _ _ _ hb
  · rename_i cs e1
    rw [e1] at h1
    simp only [Option.map_eq_some_iff] at he
    obtain ⟨j, hj, rfl⟩ := he
    obtain ⟨k', z, e2, z0, z1, rfl, hlt⟩ := idx_of hj
    rw [e2] at h2
    obtain ⟨b, oo, hv, ff, hc, hr⟩ := h1.inv_ro
    exact .pure I (run b oo k' z z0 z1 hv h2.inv_int) (Rep.ro_drop _ hc hr)
  · cases he

theorem indexS_sound (hR : Reps g w ρ a.tmps.toList) (I : Inv g w m) {t : TypeId} {x y : Operand} {x' y' : Opd} {l : List UInt8} {j : Nat} {c : UInt8} (hop : o.op = .index t x y) (hx : compOpd x = some x') (hy : compOpd y = some y')
    (ht : P.underlying t = some .string) (hl : x'.ev ρ = .str l) (hj : idx (y'.ev ρ) l.length = some j) (hc : l[j]? = some c) : Yields P a o g w (.int .u8 c.toNat) m := by
  have h1 := opd_sound hR hx
  have h2 := opd_sound hR hy
  rw [hl] at h1
  obtain ⟨s, hv, rfl⟩ := h1.inv_str
  obtain ⟨k, z, e2, z0, z1, rfl, hlt⟩ := idx_of hj
  rw [e2] at h2
  have hsz : z.toNat < s.size := by simpa using hlt
  have hget : s[z.toNat]? = some c := by
    rw [getElem?_pos s z.toNat hsz]
    have : s.data.toList[z.toNat]? = some s.data[z.toNat] := by simp
    rw [this] at hc
    exact hc
  refine .pure I (v := .int .u8 c.toNat) ?_ (.int _ _)
  simp [execOp, hop, hv, h2.inv_int, Instr.index, asIntOf, run_underlying ht, z0, hget]

theorem indexA_sound (hR : Reps g w ρ a.tmps.toList) (I : Inv g w m) {t e : TypeId} {x y : Operand} {x' y' : Opd} {n s : Nat} {b : Bool} {j : Nat} {cs : List AV} (hop : o.op = .index t x y) (hx : compOpd x = some x') (hy : compOpd y = some y')
    (ht : P.underlying t = some (.array n e)) (hb : aggT P e = some b) (hs : sizeOfT P e = some s) (hl : x'.ev ρ = .agg cs) (hj : idx (y'.ev ρ) n = some j) (hv : takeV b s (cs.drop (j * s)) = some r) : Yields P a o g w r m := by
  have h1 := opd_sound hR hx
  have h2 := opd_sound hR hy
  rw [hl] at h1
  obtain ⟨us, i1, i2⟩ := Reps.of_agg h1
  obtain ⟨k, z, e2, z0, z1, rfl, hlt⟩ := idx_of hj
  rw [e2] at h2
  obtain ⟨u, k1, k2⟩ := part_sound (P := P) i2 hb hs hv
  exact .pure I (v := u) (by simp [execOp, hop, i1, h2.inv_int, Instr.index, asIntOf, run_underlying ht, z0, z1, size_of hs w, k1]) k2

theorem len_sound (hR : Reps g w ρ a.tmps.toList) (I : Inv g w m) {c : Call} {t e : TypeId} {x : Operand} {x' : Opd} (hop : o.op = .call c) (hc : c.callee = .builtin .len) (hA : c.argTypes.toList = [t]) (ha : c.args.toList = [x]) (hx : compOpd x = some x')
    (ht : P.underlying t = some (.slice e))
    (he : evLen (x'.ev ρ) = some r) : Yields P a o g w r m := by
  have h1 := opd_sound hR hx
  have hargs : c.args = #[x] := by apply Array.ext'; simpa using ha
  have hargT : c.argTypes = #[t] := by apply Array.ext'; simpa using hA
  have run : ∀ b n cap, a.eval x = .slice b n cap → (execOp a.eval o).run P w = .ok (.value (.int .i64 n)) w := by
    intro b n cap hv
    simp [execOp, hop, resolve, hc, hargs, hargT, invoke, builtin, goInt, Builtin.len_, hv, run_underlying ht]
  unfold evLen at he
  split at he
  · rename_i e1
    injection he with he; subst he
    rw [e1] at h1
    exact .pure I (run none 0 0 h1.inv_nils) (.int _ _)
  · rename_i s tk xs e1
    injection he with he; subst he
    rw [e1] at h1
    rcases h1.inv_list with ⟨b, oo, cap, hv, _⟩ | ⟨rfl, b, cap, hv, _⟩
    · exact .pure I (run _ _ _ hv) (.int _ _)
    · exact .pure I (run _ _ _ hv) (.int _ _)
  · rename_i l k st off n e1
    injection he with he; subst he
    rw [e1] at h1
    rcases h1.inv_arr with ⟨b, oo, e', cap, hb, hv, hcap⟩ | ⟨rfl, b, cap, hv⟩
    · exact .pure I (run _ _ _ hv) (.int _ _)
    · exact .pure I (run _ _ _ hv) (.int _ _)
  · cases he

theorem lenS_sound (hR : Reps g w ρ a.tmps.toList) (I : Inv g w m) {c : Call} {t : TypeId} {x : Operand} {x' : Opd} {l : List UInt8} (hop : o.op = .call c) (hc : c.callee = .builtin .len) (hA : c.argTypes.toList = [t]) (ha : c.args.toList = [x]) (hx : compOpd x = some x')
    (ht : P.underlying t = some .string) (he : x'.ev ρ = .str l) : Yields P a o g w (.int .i64 l.length) m := by
  have h1 := opd_sound hR hx
  have hargs : c.args = #[x] := by apply Array.ext'; simpa using ha
  have hargT : c.argTypes = #[t] := by apply Array.ext'; simpa using hA
  rw [he] at h1
  obtain ⟨s, hv, rfl⟩ := h1.inv_str
  have hs : s.data.toList.length = s.size := by simp
  refine .pure I (v := .int .i64 s.size) ?_ (by rw [hs]; exact .int _ _)
  simp [execOp, hop, resolve, hc, hargs, hargT, invoke, builtin, goInt, Builtin.len_, hv, run_underlying ht]

theorem lenA_sound (I : Inv g w m) {c : Call} {t e : TypeId} {n : Nat} {x : Operand} (hop : o.op = .call c) (hc : c.callee = .builtin .len) (hA : c.argTypes.toList = [t]) (ha : c.args.toList = [x])
    (ht : P.underlying t = some (.array n e)) : Yields P a o g w (.int .i64 n) m := by
  have hargs : c.args = #[x] := by apply Array.ext'; simpa using ha
  have hargT : c.argTypes = #[t] := by apply Array.ext'; simpa using hA
  refine .pure I (v := .int .i64 n) ?_ (.int _ _)
  simp [execOp, hop, resolve, hc, hargs, hargT, invoke, builtin, goInt, Builtin.len_, run_underlying ht]

/-! Slices of slices. -/

theorem bound_of {x : Option AV} {most d n : Nat} (h : bound x most d = some n) : (x = none ∧ n = d) ∨ ∃ k z, x = some (.int k z) ∧ 0 ≤ z ∧ z ≤ (most : Int) ∧ n = z.toNat ∧ n ≤ most := by
  unfold bound at h
  split at h
  · injection h with h; exact .inl ⟨rfl, h.symm⟩
  · rename_i k z
    split at h
    · rename_i hz; injection h with h; exact .inr ⟨k, z, rfl, hz.1, hz.2, h.symm, by omega⟩
    · cases h
  · cases h

theorem sliceBound_ok (k : IntKind) (z : Int) (y : Nat) (code : BoundsCode) (h0 : 0 ≤ z) (h1 : z ≤ (y : Int)) (w : World) : (Instr.sliceBound (.int k z) y code).run P w = .ok z.toNat w := by
  simp [Instr.sliceBound, asIntOf, h0, h1]

/-- A slice expression's bounds, as the evaluator has them. -/
theorem bounds_sound {lo hi mx : Option Operand} {lo' hi' mx' : Option Opd} (hR : Reps g w ρ a.tmps.toList) (hlo : compOpt lo = some lo') (hhi : compOpt hi = some hi') (hmx : compOpt mx = some mx') (isSlice : Bool) (len cap : Nat) (hcap : len ≤ cap)
    {l h mm : Nat} (e3 : match mx' with | none => mm = cap ∧ bound (hi'.map fun p => p.ev ρ) len len = some h | some p => bound (some (p.ev ρ)) len 0 = some mm ∧ hi'.isSome ∧ bound (hi'.map fun p => p.ev ρ) mm 0 = some h)
    (e1 : bound (lo'.map fun p => p.ev ρ) h 0 = some l) :
    (Instr.sliceBounds isSlice len cap (lo.map a.eval) (hi.map a.eval) (mx.map a.eval)).run P w = .ok (l, h, mm) w := by
  have opt : ∀ {x : Option Operand} {x' : Option Opd}, compOpt x = some x' → (x = none ∧ x' = none) ∨ ∃ y y', x = some y ∧ x' = some y' ∧ compOpd y = some y' := by
    intro x x' h
    cases x with
    | none => simp [compOpt] at h; exact .inl ⟨rfl, h.symm⟩
    | some y =>
      simp only [compOpt, Option.map_eq_some_iff] at h
      obtain ⟨y', h1, h2⟩ := h
      exact .inr ⟨y, y', rfl, h2.symm, h1⟩
  have low : ∀ code, (match lo.map a.eval with | some v => Instr.sliceBound v h code | none => Pure.pure 0 : Sem Nat).run P w = .ok l w := by
    intro code
    rcases opt hlo with ⟨rfl, rfl⟩ | ⟨y, y', rfl, rfl, hy⟩
    · rcases bound_of e1 with ⟨_, rfl⟩ | ⟨_, _, hh, _⟩
      · rfl
      · simp at hh
    · rcases bound_of e1 with ⟨hh, _⟩ | ⟨k, z, hh, z0, z1, rfl, _⟩
      · simp at hh
      · have := opd_sound hR hy
        simp at hh
        rw [hh] at this
        simp only [Option.map_some, this.inv_int]
        exact sliceBound_ok k z h code z0 z1 w
  rcases opt hmx with ⟨rfl, rfl⟩ | ⟨y, y', rfl, rfl, hy⟩
  · obtain ⟨rfl, e3⟩ := e3
    have high : ∀ code, (match hi.map a.eval with | some v => Instr.sliceBound v mm code | none => Pure.pure len : Sem Nat).run P w = .ok h w := by
      intro code
      rcases opt hhi with ⟨rfl, rfl⟩ | ⟨y, y', rfl, rfl, hy⟩
      · rcases bound_of e3 with ⟨_, rfl⟩ | ⟨_, _, hh, _⟩
        · rfl
        · simp at hh
      · rcases bound_of e3 with ⟨hh, _⟩ | ⟨k, z, hh, z0, z1, rfl, _⟩
        · simp at hh
        · have := opd_sound hR hy
          simp at hh
          rw [hh] at this
          simp only [Option.map_some, this.inv_int]
          exact sliceBound_ok k z mm code z0 (by omega) w
    have l1 := low .sliceB
    rcases opt hhi with ⟨rfl, rfl⟩ | ⟨y, y', rfl, rfl, hy⟩
    · have h1 := high .sliceAlen
      simp only [Option.map_none] at h1
      simp only [Sem.run_pure, Result.ok.injEq, and_true] at h1
      subst h1
      cases lo with
      | none => simp at l1; subst l1; simp [Instr.sliceBounds]
      | some z => simp at l1; simp [Instr.sliceBounds, l1]
    · have h1 := high (if isSlice then .sliceAcap else .sliceAlen)
      simp only [Option.map_some] at h1
      cases lo with
      | none => simp at l1; subst l1; simp [Instr.sliceBounds, h1]
      | some z => simp at l1; simp [Instr.sliceBounds, h1, l1]
  · obtain ⟨e3, e4, e5⟩ := e3
    rcases bound_of e3 with ⟨hh, _⟩ | ⟨k, z, hh, z0, z1, rfl, hle⟩
    · simp at hh
    · have hy1 := opd_sound hR hy
      simp at hh
      rw [hh] at hy1
      have hm := sliceBound_ok (P := P) k z cap (if isSlice then .slice3Acap else .slice3Alen) z0 (by omega) w
      rcases opt hhi with ⟨rfl, rfl⟩ | ⟨u, u', rfl, rfl, hu⟩
      · simp at e4
      · rcases bound_of e5 with ⟨hh, _⟩ | ⟨k2, z2, hh2, z02, z12, rfl, hle2⟩
        · simp at hh
        · have hu1 := opd_sound hR hu
          simp at hh2
          rw [hh2] at hu1
          have hm2 := sliceBound_ok (P := P) k2 z2 z.toNat .slice3B z02 z12 w
          have l1 := low .slice3C
          cases lo with
          | none => simp at l1; subst l1; simp [Instr.sliceBounds, hy1.inv_int, hu1.inv_int, hm, hm2]
          | some q => simp at l1; simp [Instr.sliceBounds, hy1.inv_int, hu1.inv_int, hm, hm2, l1]

/-- A part of a list. -/
theorem Rep.sub_list {s : Nat} {xs : List AV} {b oo cap : Nat} {f : Nat → Nat → Value} {tk : Tok} (hs : ∀ (i : Nat) (x : AV), xs[i]? = some x → x.cells.length = s)
    (hc : ∀ (i j : Nat) (x c : AV), xs[i]? = some x → x.cells[j]? = some c → w.cell? ⟨b, oo + (i * s + j), none⟩ = some (f i j) ∧ g.own b (oo + (i * s + j)) = none ∧ (f i j).oneCell' = true)
    (hr : ∀ (i j : Nat) (x c : AV), xs[i]? = some x → x.cells[j]? = some c → Rep g w c (f i j)) (l h : Nat) (hlh : l ≤ h) (hh : h ≤ xs.length) (hcap : h - l ≤ cap)
    (htk : TokAt g tk b (oo + l * s + (h - l) * s) (oo + l * s + cap * s)) : Rep g w (.list s tk ((xs.take h).drop l)) (.slice (some ⟨b, oo + l * s, none⟩) (h - l) cap) := by
  have hlen : ((xs.take h).drop l).length = h - l := by simp; omega
  have get : ∀ (i : Nat) (x : AV), ((xs.take h).drop l)[i]? = some x → xs[l + i]? = some x := by
    intro i x hx
    rw [List.getElem?_drop, List.getElem?_take] at hx
    split at hx
    · exact hx
    · cases hx
  have := Rep.list (g := g) (w := w) s tk ((xs.take h).drop l) b (oo + l * s) cap (fun i j => f (l + i) j) (fun i x hx => hs _ x (get i x hx)) (by omega) (by rw [hlen]; exact htk)
    (fun i j x c h1 h2 => by
      have := hc _ j x c (get i x h1) h2
      rw [show oo + l * s + (i * s + j) = oo + ((l + i) * s + j) by rw [Nat.add_mul]; omega]
      exact this) (fun i j x c h1 h2 => hr _ j x c (get i x h1) h2)
  rw [hlen] at this
  exact this

theorem slice_sound (hR : Reps g w ρ a.tmps.toList) (I : Inv g w m) {t e : TypeId} {x : Operand} {x' : Opd} {lo hi mx : Option Operand} {lo' hi' mx' : Option Opd} {s : Nat} (hop : o.op = .slice t x lo hi mx) (hx : compOpd x = some x')
    (hlo : compOpt lo = some lo') (hhi : compOpt hi = some hi') (hmx : compOpt mx = some mx') (ht : P.underlying t = some (.slice e)) (hn : sizeOfT P e = some s) (h0 : 0 < s) (hmh : mx'.isSome → hi'.isSome)
    (he : evSlice s (x'.ev ρ) (lo'.map fun p => p.ev ρ) (hi'.map fun p => p.ev ρ) (mx'.map fun p => p.ev ρ) = some r) : Yields P a o g w r m := by
  have h1 := opd_sound hR hx
  have run : ∀ b len cap l h mm, a.eval x = .slice b len cap → (Instr.sliceBounds true len cap (lo.map a.eval) (hi.map a.eval) (mx.map a.eval)).run P w = .ok (l, h, mm) w →
      (execOp a.eval o).run P w = .ok (.value (.slice (if mm = l then b else b.map (·.add (l * s))) (h - l) (mm - l))) w := by
    intro b len cap l h mm hv hb
    simp [execOp, hop, hv, Instr.sliceAt, Instr.slice, run_underlying ht, hb, size_of hn w]
  unfold evSlice at he
  split at he
  · rename_i e1
    rw [e1] at h1
    cases mx' with
    | none =>
      simp only [Option.map_none, Option.bind_eq_some_iff, Option.map_eq_some_iff] at he
      obtain ⟨h, hb1, l, hb2, rfl⟩ := he
      have hb := bounds_sound (P := P) hR hlo hhi hmx true 0 0 (Nat.le_refl _) (mm := 0) ⟨rfl, hb1⟩ hb2
      have hh0 : h = 0 := by rcases bound_of hb1 with ⟨_, rfl⟩ | ⟨_, _, _, _, _, _, hle⟩ <;> omega
      subst hh0
      have hl0 : l = 0 := by rcases bound_of hb2 with ⟨_, rfl⟩ | ⟨_, _, _, _, _, _, hle⟩ <;> omega
      subst hl0
      exact .pure I (run _ _ _ _ _ _ h1.inv_nils hb) (by simpa using Rep.nils)
    | some p => simp at he
  · rename_i s' tk xs e1
    rw [e1] at h1
    split at he
    · rename_i hs
      have hs' : s' = s := eq_of_beq hs
      subst hs'
      have main : ∀ (l h mm : Nat) (tk' : Tok) (bb : Option Addr) (cap : Nat), a.eval x = .slice bb xs.length cap → (Instr.sliceBounds true xs.length cap (lo.map a.eval) (hi.map a.eval) (mx.map a.eval)).run P w = .ok (l, h, mm) w →
          Rep g w (.list s' tk' ((xs.take h).drop l)) (.slice (if mm = l then bb else bb.map (·.add (l * s'))) (h - l) (mm - l)) → Yields P a o g w (.list s' tk' ((xs.take h).drop l)) m :=
        fun l h mm tk' bb cap hv hb hrep => .pure I (run _ _ _ _ _ _ hv hb) hrep
      cases mx' with
      | none =>
        simp only [Option.map_none, Option.bind_eq_some_iff, Option.map_eq_some_iff] at he
        obtain ⟨h, hb1, l, hb2, rfl⟩ := he
        have hh : h ≤ xs.length := by rcases bound_of hb1 with ⟨_, rfl⟩ | ⟨_, _, _, _, _, _, hle⟩ <;> omega
        have hl : l ≤ h := by rcases bound_of hb2 with ⟨_, rfl⟩ | ⟨_, _, _, _, _, _, hle⟩ <;> omega
        rcases h1.inv_list with ⟨b, oo, cap, hv, hsz, hcap, htk, f, hc, hr⟩ | ⟨rfl, b, cap, hv, htk⟩
        · have hb := bounds_sound (P := P) hR hlo hhi hmx true xs.length cap hcap (mm := cap) ⟨rfl, hb1⟩ hb2
          refine main l h cap _ _ cap hv hb ?_
          by_cases hcl : cap = l
          · -- nothing is left
            have hle : l = xs.length := by omega
            have hhe : h = xs.length := by omega
            rw [if_pos hcl, hcl, hhe, ← hle]
            have hnil : (xs.take l).drop l = [] := by simp
            rw [hnil, Nat.sub_self]
            by_cases hl0 : l = 0
            · subst hl0
              have hx0 : xs = [] := List.eq_nil_of_length_eq_zero hle.symm
              subst hx0
              subst hcl
              simpa using (Rep.list (g := g) (w := w) s' tk [] b oo 0 f (fun i x hx => by simp at hx) (by simp) htk (fun i j x c h1 => by simp at h1) (fun i j x c h1 => by simp at h1))
            · have : (if (xs.length == xs.length && (l == 0 || decide (l < xs.length))) = true then tk else Tok.none) = Tok.none := by
                have h2 : (l == 0) = false := by simp [hl0]
                have h3 : decide (l < xs.length) = false := by simp; omega
                simp [h2, h3]
              rw [hhe] at *
              rw [← hle] at *
              simp only [this]
              exact .empty _ _ _ _ (.inl rfl)
          · rw [if_neg hcl]
            simp only [Option.map_some, add_plain]
            refine Rep.sub_list hsz hc hr l h hl hh (by omega) ?_
            split
            · rename_i hcond
              simp only [Bool.and_eq_true, beq_iff_eq] at hcond
              have hhe := hcond.1
              have e1 : oo + l * s' + (h - l) * s' = oo + xs.length * s' := by
                rw [Nat.add_assoc, ← Nat.add_mul, show l + (h - l) = xs.length by omega]
              have e2 : oo + l * s' + (cap - l) * s' = oo + cap * s' := by
                rw [Nat.add_assoc, ← Nat.add_mul, show l + (cap - l) = cap by omega]
              rw [e1, e2]
              exact htk
            · trivial
        · have hb := bounds_sound (P := P) hR hlo hhi hmx true 0 cap (Nat.zero_le _) (mm := cap) ⟨rfl, hb1⟩ hb2
          have hh0 : h = 0 := by simpa using hh
          subst hh0
          have hl0 : l = 0 := by omega
          subst hl0
          refine main 0 0 cap _ _ cap hv hb ?_
          have hk : (if (0 == ([] : List AV).length && ((0 : Nat) == 0 || decide (0 < ([] : List AV).length))) = true then tk else Tok.none) = tk := by simp
          rw [hk]
          simpa using Rep.empty' (g := g) (w := w) s' tk (if cap = 0 then some b else some (b.add 0)) cap htk (by split <;> rfl)
      | some p =>
        simp only [Option.map_some, Option.bind_eq_some_iff, Option.map_eq_some_iff] at he
        obtain ⟨mm, hb0, h, hb1, l, hb2, rfl⟩ := he
        have hmm : mm ≤ xs.length := by rcases bound_of hb0 with ⟨hh, _⟩ | ⟨_, _, _, _, _, _, hle⟩; · simp at hh
                                        · exact hle
        have his : hi'.isSome := hmh rfl
        have hh : h ≤ mm := by
          rcases bound_of hb1 with ⟨hh, _⟩ | ⟨_, _, _, _, _, _, hle⟩
          · simp at hh; rw [hh] at his; simp at his
          · exact hle
        have hl : l ≤ h := by rcases bound_of hb2 with ⟨_, rfl⟩ | ⟨_, _, _, _, _, _, hle⟩ <;> omega
        rcases h1.inv_list with ⟨b, oo, cap, hv, hsz, hcap, htk, f, hc, hr⟩ | ⟨rfl, b, cap, hv, htk⟩
        · have hb := bounds_sound (P := P) hR hlo hhi hmx true xs.length cap hcap (mm := mm) ⟨hb0, his, hb1⟩ hb2
          refine main l h mm _ _ cap hv hb ?_
          by_cases hml : mm = l
          · rw [if_pos hml]
            have hhl : h = l := by omega
            have hnil : (xs.take h).drop l = [] := by rw [hhl]; simp
            rw [hnil, hhl, hml, Nat.sub_self, if_pos (by simp)]
            have : Rep g w (.list s' .full []) (.slice (some ⟨b, oo, none⟩) 0 0) := by
              simpa using (Rep.list (g := g) (w := w) s' .full [] b oo 0 f (fun i x hx => by simp at hx) (by simp) (by simp [TokAt]) (fun i j x c h1 => by simp at h1) (fun i j x c h1 => by simp at h1))
            exact this
          · rw [if_neg hml]
            simp only [Option.map_some, add_plain]
            refine Rep.sub_list hsz hc hr l h hl (by omega) (by omega) ?_
            split
            · rename_i hcond
              have : h = mm := by simpa using hcond
              rw [this]; exact rfl
            · trivial
        · have hb := bounds_sound (P := P) hR hlo hhi hmx true 0 cap (Nat.zero_le _) (mm := mm) ⟨hb0, his, hb1⟩ hb2
          have hm0 : mm = 0 := by simpa using hmm
          subst hm0
          have hh0 : h = 0 := by omega
          subst hh0
          have hl0 : l = 0 := by omega
          subst hl0
          refine main 0 0 0 _ _ cap hv hb ?_
          simpa using Rep.empty (g := g) (w := w) s' .full b 0 (.inr ⟨rfl, rfl⟩)
    · cases he
  · rename_i l0 k0 st off len e1
    rw [e1] at h1
    cases mx' with
    | none =>
      simp only [Option.map_none, Option.bind_eq_some_iff, Option.map_eq_some_iff] at he
      obtain ⟨h, hb1, l, hb2, rfl⟩ := he
      have hh : h ≤ len := by rcases bound_of hb1 with ⟨_, rfl⟩ | ⟨_, _, _, _, _, _, hle⟩ <;> omega
      have hl : l ≤ h := by rcases bound_of hb2 with ⟨_, rfl⟩ | ⟨_, _, _, _, _, _, hle⟩ <;> omega
      rcases h1.inv_arr with ⟨b, oo, e', cap, hb', hv, hcap⟩ | ⟨rfl, b, cap, hv⟩
      · have hb := bounds_sound (P := P) hR hlo hhi hmx true len cap hcap (mm := cap) ⟨rfl, hb1⟩ hb2
        refine .pure I (run _ _ _ _ _ _ hv hb) ?_
        by_cases hcl : cap = l
        · have : h - l = 0 := by omega
          rw [this]; exact .arr0' _ _ _ _ _ _ (by split <;> rfl)
        · rw [if_neg hcl]
          simp only [Option.map_some, add_plain]
          rw [Nat.add_assoc]
          exact .arr _ _ _ _ _ _ _ _ _ hb' (by omega)
      · have hb := bounds_sound (P := P) hR hlo hhi hmx true 0 cap (Nat.zero_le _) (mm := cap) ⟨rfl, hb1⟩ hb2
        refine .pure I (run _ _ _ _ _ _ hv hb) ?_
        have : h - l = 0 := by omega
        rw [this]; exact .arr0' _ _ _ _ _ _ (by split <;> rfl)
    | some p =>
      simp only [Option.map_some, Option.bind_eq_some_iff, Option.map_eq_some_iff] at he
      obtain ⟨mm, hb0, h, hb1, l, hb2, rfl⟩ := he
      have hmm : mm ≤ len := by
        rcases bound_of hb0 with ⟨hh, _⟩ | ⟨_, _, _, _, _, _, hle⟩
        · simp at hh
        · exact hle
      have his : hi'.isSome := hmh rfl
      have hh : h ≤ mm := by
        rcases bound_of hb1 with ⟨hh, _⟩ | ⟨_, _, _, _, _, _, hle⟩
        · simp at hh; rw [hh] at his; simp at his
        · exact hle
      have hl : l ≤ h := by rcases bound_of hb2 with ⟨_, rfl⟩ | ⟨_, _, _, _, _, _, hle⟩ <;> omega
      rcases h1.inv_arr with ⟨b, oo, e', cap, hb', hv, hcap⟩ | ⟨rfl, b, cap, hv⟩
      · have hb := bounds_sound (P := P) hR hlo hhi hmx true len cap hcap (mm := mm) ⟨hb0, his, hb1⟩ hb2
        refine .pure I (run _ _ _ _ _ _ hv hb) ?_
        by_cases hcl : mm = l
        · have : h - l = 0 := by omega
          rw [this]; exact .arr0' _ _ _ _ _ _ (by split <;> rfl)
        · rw [if_neg hcl]
          simp only [Option.map_some, add_plain]
          rw [Nat.add_assoc]
          exact .arr _ _ _ _ _ _ _ _ _ hb' (by omega)
      · have hb := bounds_sound (P := P) hR hlo hhi hmx true 0 cap (Nat.zero_le _) (mm := mm) ⟨hb0, his, hb1⟩ hb2
        refine .pure I (run _ _ _ _ _ _ hv hb) ?_
        have : h - l = 0 := by omega
        rw [this]; exact .arr0' _ _ _ _ _ _ (by split <;> rfl)
  · cases he

end
end Go.Vs
