/-
  Part 6 of the proof, shared by claims of this seat: MPld, UC21, UC9, MPlc, UC10, UC22, UC15a, UC16a, UC23, UC20, UC11, UC12, UC24, UC26, UC28, UC29, UZC1, UZW1, UZW2, UZX1, UC25, UC30, UZD1, UZW3, UZW5, UZW6, UZW7, UZX2, UZX4, UZX5.
-/
import Derived.Test.YtdmigejeekchiaaGreatH4
import Derived.Test.YtdmigejeekchiaaGreatH3
import Derived.Test.YtdmigejeekchiaaGreatH2
set_option maxHeartbeats 64000000
set_option maxRecDepth 1000000
set_option linter.unusedVariables false
set_option linter.unusedSimpArgs false
open Nat renaming reduceMul → G2, reduceAdd → G3, reduceSub → G4, reduceEqDiff → G6, reduceBEq → G7, reduceLT → G8, reduceLeDiff → G9, reduceBNe → H8, le_refl → w08, min_eq_left → w0c, zero_le → w0e, mul_one → w11, zero_add → w1f, not_lt_zero → w34, add_mul → w40, lt_or_ge → w43, pow_le_pow_right → w4a, lt_of_lt_of_le → w55
open Int renaming reduceEq → H0, reduceLT → H1, reduceLE → H2, reduceAdd → H3, reduceSub → H4, reduceMul → H5, reducePow → H6, reduceToNat → H7, ofNat_lt → w02, toNat_natCast → w07, toNat_zero → w18, toNat_of_nonneg → w45
open Option renaming map_eq_some_iff → w00, map_some → w06, map_none → w0d, getD_some → w32
open List renaming getD_eq_getElem?_getD → w03, getElem_mem → w04, take_length → w0a, mem_append → w0b, take_succ_eq_append_getElem → w0f, getElem?_eq_some_iff → w13, length_append → w15, drop_zero → w19, take_zero → w1a, getElem?_append_left → w1b, mem_singleton → w1c, getElem?_eq_getElem → w1d, append_assoc → w1e, length_take → w20, append_nil → w21, getElem?_map → w22, mem_cons_self → w24, cons_append → w26, ext_getElem? → w27, length_singleton → w29, eq_nil_of_length_eq_zero → w2a, map_append → w2b, mem_cons_of_mem → w2c, flatMap_cons → w2d, nil_append → w2e, map_cons → w30, modify_eq_take_cons_drop → w33, take_of_length_le → w35, all_eq_true → w37, mem_of_mem_take → w3d, flatten_cons → w3e, mem_map → w42, replicate_succ → w44, length_nil → w46, mem_iff_getElem → w49, set_cons_succ → w4b, getElem?_eq_none → w4c, mem_range → w4d, getElem?_cons_succ → w4e, mem_append_left → w52, set_cons_zero → w56, mem_cons → w57, length_map → w58, length_cons → w59, mem_append_right → w5a, set_eq_take_append_cons_drop → w5c
open Bool renaming and_eq_true → w09, false_and → w16, and_false → w17, false_eq_true → w25, or_eq_false_iff → w28, or_eq_true → w2f, and_eq_true_iff → w3b
section
namespace Go.Vs
section
variable (nx : Nat → List Nat) (n : Nat) (st : Nat → List Int → Option (List Int)) (T : List Int → Prop)
structure SI (kn:List Bool) (out:List (List Int)):Prop where
 r:SInv nx st n kn out
 t: ∀i,T (out.getD i [])
 len: ∀i,(out.getD i []).length+unm kn+1≤n
theorem SI.set {k i:Nat} {kn:List Bool} {out:List (List Int)} {l:List Int} (h:SI nx n st T kn out) (hkn:k<n) (hu:kn.getD k false=false) (hi:kn.getD i false=true) (hs:st i (out.getD i [])=some l) (hk:k∈nx i) (hl:T l∧l.length≤(out.getD i []).length+1):
  SI nx n st T (kn.set k true) (out.set k l)∧unm (kn.set k true)+1=unm kn:=by
 have hkl:k<kn.length:=by rw[h.r.len1];exact hkn
 have hko:k<out.length:=by rw[h.r.len2];exact hkn
 have hum:=WD hkl hu
 refine⟨⟨h.r.set nx st hkn hu hi hs hk,fun j=> ?_,fun j=> ?_⟩,hum⟩
 ·by_cases e:k=j
  ·grind
  ·rw[getD_set_ne e];exact h.t j
 ·by_cases e:k=j
  ·subst e;rw[getD_set_eq hko]
   have:=h.len i;omega
  ·rw[getD_set_ne e]
   have:=h.len j;omega
theorem SI.start (hn:0<n) (hT:T []):SI nx n st T ((List.replicate n false).set 0 true) (List.replicate n []):=by
 have hR:=RInv.start nx n hn
 have hl:0<(List.replicate n false).length:=by simpa using hn
 have hg: ∀j,(List.replicate n false).getD j false=false:=fun j=>by
  grind
 have ho: ∀j,(List.replicate n ([]:List Int)).getD j []=[]:=fun j=>by
  grind
 have hu:unm (List.replicate n false)=n:=by unfold unm;rw[List.filter_eq_self.2 (by simp)];simp
 have h1:=WD hl (hg 0)
 refine⟨⟨hR.len,by simp,⟨hR.zero,ho 0⟩,fun i hi=> ?_,fun i _=>ho i⟩,fun i=>by rw[ho];exact hT,fun i=>by rw[ho];simp;omega⟩
 by_cases e:0=i
 ·subst e;rw[ho];exact .zero
 ·grind
def Done (kn:List Bool) (out:List (List Int)) (j:Nat):Prop:= ∃l,st j (out.getD j [])=some l∧ ∀k∈nx j,kn.getD k false=true∧out.getD k []=l
theorem Done.set {kn:List Bool} {out:List (List Int)} {j k:Nat} {l:List Int} (h:Done nx st kn out j) (hkn:kn.getD j false=true) (hu:kn.getD k false=false):Done nx st (kn.set k true) (out.set k l) j:=by
 obtain⟨l0,h1,h2⟩:=h
 have hjk:k≠j:=fun e=>by subst e;rw[hkn] at hu;cases hu
 refine⟨l0,by rw[getD_set_ne hjk];exact h1,fun k' hk'=> ?_⟩
 grind
structure SJ (kn:List Bool) (out:List (List Int)) (op:List Nat):Prop where
 r:SI nx n st T kn out
 cl: ∀j,kn.getD j false=true→j∈op∨Done nx st kn out j
 o: ∀j∈op,j<n∧kn.getD j false=true
 b:op.length+unm kn≤n
structure SK (i:Nat) (l:List Int) (done:List Nat) (M:Nat) (kn:List Bool) (out:List (List Int)) (op:List Nat):Prop where
 r:SI nx n st T kn out
 cl: ∀j,kn.getD j false=true→j=i∨j∈op∨Done nx st kn out j
 o: ∀j∈op,j<n∧kn.getD j false=true
 b:op.length+unm kn+1≤n
 hi:kn.getD i false=true
 hs:st i (out.getD i [])=some l
 hl:T l∧l.length≤(out.getD i []).length+1
 d: ∀k∈done,kn.getD k false=true∧out.getD k []=l
 m:2*unm kn+op.length+1≤M
theorem SJ.pop {kn:List Bool} {out:List (List Int)} {op:List Nat} {i:Nat} {l:List Int} (h:SJ nx n st T kn out (op++[i])) (hs:st i (out.getD i [])=some l) (hl:T l∧l.length≤(out.getD i []).length+1):SK nx n st T i l [] (2*unm kn+(op++[i]).length) kn out op:=by
 refine⟨h.r,fun j hj=> ?_,fun j hj=>h.o j (w52 _ hj),?_,(h.o i (by simp)).2,hs,hl,fun k hk=>(by cases hk),?_⟩
 ·rcases h.cl j hj with q|q
  ·grind
  ·grind
 ·have:=h.b;simp at this;omega
 ·simp;omega
theorem SK.same {i k M:Nat} {l:List Int} {done:List Nat} {kn:List Bool} {out:List (List Int)} {op:List Nat} (h:SK nx n st T i l done M kn out op) (hk:kn.getD k false=true) (he:out.getD k []=l):SK nx n st T i l (done++[k]) M kn out op:=
 ⟨h.r,h.cl,h.o,h.b,h.hi,h.hs,h.hl,fun k' hk'=>by
  rcases w0b.1 hk' with q|q
  ·exact h.d k' q
  ·rw[w1c.1 q];exact⟨hk,he⟩,h.m⟩
theorem SK.new {i k M:Nat} {l:List Int} {done:List Nat} {kn:List Bool} {out:List (List Int)} {op:List Nat} (h:SK nx n st T i l done M kn out op) (hkn:k<n) (hk:k∈nx i) (hu:kn.getD k false=false):SK nx n st T i l (done++[k]) M (kn.set k true) (out.set k l) (op++[k]):=by
 obtain⟨h1,h2⟩:=h.r.set nx n st T hkn hu h.hi h.hs hk h.hl
 have hki:k≠i:=fun e=>by subst e;rw[h.hi] at hu;cases hu
 have hko:k<out.length:=by rw[h.r.r.len2];exact hkn
 have hkl:k<kn.length:=by rw[h.r.r.len1];exact hkn
 refine⟨h1,fun j hj=> ?_,fun j hj=> ?_,?_,ye h.hi,by rw[getD_set_ne hki];exact h.hs,by rw[getD_set_ne hki];exact h.hl,fun k' hk'=> ?_,?_⟩
 ·by_cases e:k=j
  ·grind
  ·rw[getD_set_ne e] at hj
   rcases h.cl j hj with q|q|q
   ·exact .inl q
   ·grind
   ·exact .inr (.inr (q.set nx st hj hu))
 ·rcases w0b.1 hj with q|q
  ·exact⟨(h.o j q).1,ye (h.o j q).2⟩
  ·grind
 ·have:=h.b;simp only[w15,w29];omega
 ·rcases w0b.1 hk' with q|q
  ·have hkk:k≠k':=fun e=>by subst e;rw[(h.d _ q).1] at hu;cases hu
   exact⟨ye (h.d k' q).1,by rw[getD_set_ne hkk];exact(h.d k' q).2⟩
  ·grind
 ·have:=h.m;simp only[w15,w29];omega
theorem SK.fin {i M:Nat} {l:List Int} {kn:List Bool} {out:List (List Int)} {op:List Nat} (h:SK nx n st T i l (nx i) M kn out op):SJ nx n st T kn out op∧2*unm kn+op.length<M:=by
 refine⟨⟨h.r,fun j hj=> ?_,h.o,by have:=h.b;omega⟩,by have:=h.m;omega⟩
 rcases h.cl j hj with q|q|q
 ·subst q;exact .inr ⟨l,h.hs,h.d⟩
 ·exact .inl q
 ·exact .inr q
theorem SJ.done {kn:List Bool} {out:List (List Int)} (h:SJ nx n st T kn out []):GoodS nx st n∧ ∀i,out.getD i []=labOf nx st i:=
 h.r.r.all nx st fun i hi=>(h.cl i hi).elim (fun q=>by cases q) id
theorem SJ.start (hn:0<n) (hT:T []):SJ nx n st T ((List.replicate n false).set 0 true) (List.replicate n []) [0]:=by
 have h:=SI.start nx n st T hn hT
 have hR:=RJ.start nx n hn
 have hg: ∀j,(List.replicate n false).getD j false=false:=fun j=>by
  grind
 refine⟨h,fun j hj=> ?_,hR.o,hR.b⟩
 grind
structure SR (kn0:List Bool) (out0:List (List Int)) (j:Nat) (kn:List Bool) (out:List (List Int)) (ch:Bool):Prop where
 r:SI nx n st T kn out
 le:unm kn≤unm kn0
 eq:ch=false→kn=kn0∧out=out0∧ ∀i,i<j→kn0.getD i false=true→Done nx st kn0 out0 i
 lt:ch=true→unm kn<unm kn0
structure SQ (kn0:List Bool) (out0:List (List Int)) (i:Nat) (l:List Int) (done:List Nat) (kn:List Bool) (out:List (List Int)) (ch:Bool):Prop where
 r:SR nx n st T kn0 out0 i kn out ch
 hi:kn.getD i false=true
 hs:st i (out.getD i [])=some l
 hl:T l∧l.length≤(out.getD i []).length+1
 d: ∀k∈done,kn.getD k false=true∧out.getD k []=l
theorem SR.zero {kn:List Bool} {out:List (List Int)} (h:SI nx n st T kn out):SR nx n st T kn out 0 kn out false:=
 ⟨h,w08 _,fun _=>⟨rfl,rfl,fun i hi=>absurd hi (w34 _)⟩,fun e=>by cases e⟩
theorem SR.skip {kn0 kn:List Bool} {out0 out:List (List Int)} {j:Nat} {ch:Bool} (h:SR nx n st T kn0 out0 j kn out ch) (hu:kn.getD j false=false):SR nx n st T kn0 out0 (j+1) kn out ch:=by
 refine⟨h.r,h.le,fun e=>⟨(h.eq e).1,(h.eq e).2.1,fun i hi hk=> ?_⟩,h.lt⟩
 by_cases hij:i=j
 ·subst hij;rw[←(h.eq e).1,hu] at hk;cases hk
 ·exact(h.eq e).2.2 i (by omega) hk
theorem SQ.same {kn0 kn:List Bool} {out0 out:List (List Int)} {i k:Nat} {l:List Int} {done:List Nat} {ch:Bool} (h:SQ nx n st T kn0 out0 i l done kn out ch) (hk:kn.getD k false=true) (he:out.getD k []=l):SQ nx n st T kn0 out0 i l (done++[k]) kn out ch:=
 ⟨h.r,h.hi,h.hs,h.hl,fun k' hk'=>by
  rcases w0b.1 hk' with q|q
  ·exact h.d k' q
  ·rw[w1c.1 q];exact⟨hk,he⟩⟩
theorem SQ.new {kn0 kn:List Bool} {out0 out:List (List Int)} {i k:Nat} {l:List Int} {done:List Nat} {ch:Bool} (h:SQ nx n st T kn0 out0 i l done kn out ch) (hkn:k<n) (hk:k∈nx i) (hu:kn.getD k false=false):SQ nx n st T kn0 out0 i l (done++[k]) (kn.set k true) (out.set k l) true:=by
 obtain⟨h1,h2⟩:=h.r.r.set nx n st T hkn hu h.hi h.hs hk h.hl
 have hki:k≠i:=fun e=>by subst e;rw[h.hi] at hu;cases hu
 have hko:k<out.length:=by rw[h.r.r.r.len2];exact hkn
 have hkl:k<kn.length:=by rw[h.r.r.r.len1];exact hkn
 have hle:=h.r.le
 refine⟨⟨h1,by omega,fun e=>(by cases e),fun _=>by omega⟩,ye h.hi,by rw[getD_set_ne hki];exact h.hs,by rw[getD_set_ne hki];exact h.hl,fun k' hk'=> ?_⟩
 rcases w0b.1 hk' with q|q
 ·have hkk:k≠k':=fun e=>by subst e;rw[(h.d _ q).1] at hu;cases hu
  exact⟨ye (h.d k' q).1,by rw[getD_set_ne hkk];exact(h.d k' q).2⟩
 ·grind
theorem SQ.fin {kn0 kn:List Bool} {out0 out:List (List Int)} {i:Nat} {l:List Int} {ch:Bool} (h:SQ nx n st T kn0 out0 i l (nx i) kn out ch):SR nx n st T kn0 out0 (i+1) kn out ch:=by
 refine⟨h.r.r,h.r.le,fun e=>⟨(h.r.eq e).1,(h.r.eq e).2.1,fun j hj hk=> ?_⟩,h.r.lt⟩
 by_cases hij:j=i
 ·subst hij
  obtain⟨e1,e2,_⟩:=h.r.eq e
  rw[←e1,←e2];exact⟨l,h.hs,h.d⟩
 ·exact(h.r.eq e).2.2 j (by omega) hk
theorem SR.done {kn0 kn:List Bool} {out0 out:List (List Int)} (h:SR nx n st T kn0 out0 n kn out false):GoodS nx st n∧ ∀i,out.getD i []=labOf nx st i:=by
 obtain⟨e1,e2,e3⟩:=h.eq rfl
 have hlt: ∀i,kn.getD i false=true→i<n:=fun i hi=>by
  rcases w43 i n with q|q
  ·exact q
  ·rw[w03,w4c (by rw[h.r.r.len1];exact q)] at hi;cases hi
 refine h.r.r.all nx st fun i hi=> ?_
 have:=e3 i (hlt i hi) (by rw[←e1];exact hi)
 rw[←e1,←e2] at this;exact this
end
end Go.Vs
end
section
namespace Go.Proofs.W
open Go.Vs
structure FunP (d:DImage) (f:DFunc):Prop where
 img:ImgP d
 ty:TypP d.types
 sl: ∀k,k<d.funcs.length→(fnA d.funcs k).slots.length≤1000
 s:SlotsP d f
 c:CodeP f.code
 o:Ok07 f.code
 n: ∀i,i<f.code.length→NearP d f (inA f.code i)
def stF (d:DImage) (f:DFunc) (i:Nat) (l:List Int):Option (List Int):=stS d f (inA f.code i) l
def lists (out:List (List Int)) (cs:List AV):Prop:=cs.length=out.length∧ ∀i (h:i<out.length),∃y,cs[i]? =some y∧IsSl IsI 1 out[i] y
theorem tO {out:List (List Int)} {cs:List AV} (h:lists out cs) {k:Nat} (hk:k<out.length): ∃y,takeV false 1 (cs.drop k)=some y∧IsSl IsI 1 (out.getD k []) y:=by
 obtain⟨y,h1,h2⟩:=h.2 k hk
 refine⟨y,li _ _ (by rw[List.head?_drop];exact h1),?_⟩
 grind
theorem z0C {out:List (List Int)} {cs:List AV} (h:lists out cs) {k:Nat} {l:List Int} {y:AV} (hk:k<out.length) (hy:IsSl IsI 1 l y):lists (out.set k l) (cs.take k++[y]++cs.drop (k+1)):=by
 have hkc:k<cs.length:=by rw[h.1];exact hk
 have he:cs.take k++[y]++cs.drop (k+1)=cs.set k y:=by rw[w5c,if_pos hkc];simp
 rw[he]
 refine⟨by simp[h.1],fun i hi=> ?_⟩
 simp only[List.length_set] at hi
 by_cases e:k=i
 ·grind
 ·obtain⟨z,h1,h2⟩:=h.2 i hi
  grind
theorem z0D (n:Nat):lists (List.replicate n []) (flatRep [.nils] n):=by
 have: ∀n,flatRep [.nils] n=List.replicate n .nils:=fun n=>by
  induction n with
  |zero=>rfl
  |succ n ih=>rw[flatRep,ih,w44];rfl
 rw[this]
 refine⟨by simp,fun i hi=>⟨.nils,?_,?_⟩⟩
 ·grind
 ·simpa using IsSl.nil 1
theorem z2O {out:List (List Int)} {cs:List AV} (h:lists out cs) (a b c:Nat):shiftAll a b c cs=cs:=by
 apply w27
 intro j
 rw[vn]
 by_cases hj:j<out.length
 ·obtain⟨y,h1,h2⟩:=h.2 j hj
  rw[h1,w06]
  rcases h2 with⟨_,⟨_,rfl⟩|⟨tk,ys,rfl,_⟩⟩<;>rfl
 ·rw[w4c (by rw[h.1];omega)];rfl
noncomputable def labs (d:DImage) (f:DFunc):List (List Int):=(List.range f.code.length).map fun i=>labOf (nxt f.code) (stF d f) i
theorem z5F {d:DImage} {f:DFunc} {out:List (List Int)} (hl:out.length=f.code.length) (h: ∀i,out.getD i []=labOf (nxt f.code) (stF d f) i):out=labs d f:=by
 apply w27
 intro j
 unfold labs
 grind
theorem z2W (d:DImage) (f:DFunc):(labs d f).length=f.code.length:=by simp[labs]
def LabsIn (d:DImage) (f:DFunc):Prop:= ∀k,InT d.types ((labs d f).getD k [])∧((labs d f).getD k []).length≤1000
def GoodF (d:DImage) (f:DFunc):Prop:=GoodS (nxt f.code) (stF d f) f.code.length
def ScrP (d:DImage) (f:DFunc):Prop:=GoodF d f∧LastS (nxt f.code) (stF d f) f.code.length
def CallSc (fn:Nat) (args:List AV) (n:Nat) (G:Prop) (b:Bool) (Q:List AV→Prop) (m:Mem):Prop:=
 ∃y bs k,CALL tab fn args m=some (.tup [y,.bool b],{m with cur:=m.cur++bs,nx:=k})∧(G→ ∃j st cs,y= .arr m.stk.length j st 0 n∧(m.cur++bs)[j]? =some ⟨st,cs⟩∧m.cur.length≤j∧Q cs)
theorem z0U {fn:Nat} {a:AFunc} (h:tab fn=some a) {args:List AV} {n:Nat} {G:Prop} {b:Bool} {Q:List AV→Prop} {m:Mem} (hx:X tab a.body (mk a.ntmps (.tup []) (numb 0 args)) (enter m) (.fin a.res m fun v m'=> ∃y bs k,v= .tup [y,.bool b]∧m'={m with cur:=m.cur++bs,nx:=k}∧(G→ ∃j st cs,y= .arr m.stk.length j st 0 n∧(m.cur++bs)[j]? =some ⟨st,cs⟩∧m.cur.length≤j∧Q cs))) (hn:args.length≤a.ntmps:=by exact Nat.le_of_ble_eq_true rfl):
  CallSc fn args n G b Q m:=by
 obtain⟨x,h1,y,bs,k,h2,h3,h4⟩:=yD h hx hn;exact⟨y,bs,k,by rw[h1,←h2,←h3],h4⟩
theorem T6 {stk:List (List Blk)} {cur c':List Blk} {nx nx' fl fl':Nat} {own:List Nat} {live:List (List Nat)} {n:Nat} {G:Prop} {Q:List AV→Prop} (hG: ¬G):
  Opt (leave ⟨stk,cur,nx,live,fl⟩ ⟨stk++[cur],c',nx',own::live,fl'⟩ (.tup [.nils,.bool false])) fun r=> ∃y bs k,r.1= .tup [y,.bool false]∧r.2=⟨stk,cur++bs,k,live,fl⟩∧(G→ ∃j st cs,y= .arr stk.length j st 0 n∧(cur++bs)[j]? =some ⟨st,cs⟩∧cur.length≤j∧Q cs):=by
 rw[yg rfl rfl,z5]
 simp_all
theorem z5O {stk:List (List Blk)} {cur c':List Blk} {nx nx' fl fl':Nat} {own:List Nat} {live:List (List Nat)} {j st n:Nat} {cs:List AV} {G:Prop} {b:Bool} {Q:List AV→Prop}
  (hj:c'[j]? =some ⟨st,cs⟩) (hs:shiftAll (stk++[cur]).length stk.length cur.length cs=cs) (hQ:Q cs):
  Opt (leave ⟨stk,cur,nx,live,fl⟩ ⟨stk++[cur],c',nx',own::live,fl'⟩ (.tup [.arr (stk++[cur]).length j st 0 n,.bool b])) fun r=> ∃y bs k,r.1= .tup [y,.bool b]∧r.2=⟨stk,cur++bs,k,live,fl⟩∧(G→ ∃j st cs,y= .arr stk.length j st 0 n∧(cur++bs)[j]? =some ⟨st,cs⟩∧cur.length≤j∧Q cs):=by
 have:=V7 (nx:=nx) (nx':=nx') (fl:=fl) (fl':=fl') (own:=own) (live:=live) (n:=n) (Q:=Q) (w:=fun y=> .tup [y,.bool b]) (.inr ⟨.bool b,rfl,rfl,rfl,rfl⟩) hj hs hQ
 obtain⟨x,h1,bs,k,j2,st2,cs2,h2,h3,h4,h5,h6⟩:=this
 exact⟨x,h1,_,bs,k,h2,h3,fun _=>⟨j2,st2,cs2,rfl,h4,h5,h6⟩⟩
theorem z7R {d:DImage} {f:DFunc} (h:FunP d f) {i:Nat} (hi:i<f.code.length) {l l':List Int} (hl:InT d.types l) (hs:stF d f i l=some l'):InT d.types l'∧l'.length≤l.length+1:=
 z7Q (h.c.at hi).1 (h.c.at hi).2.1 (h.n i hi) h.s hl hs
theorem Tu (d:DImage) (y:AV) (hy:IsImage d y) (g:Nat) (hg:g<d.funcs.length) (h:FunP d (fnA d.funcs g)) (m:Mem) (hf:m.floor≤m.stk.length+1):
  CallSc 359 [y,.int .i64 g] (fnA d.funcs g).code.length (GoodF d (fnA d.funcs g)) (pb (ScrP d (fnA d.funcs g))) (fun cs=>lists (labs d (fnA d.funcs g)) cs∧LabsIn d (fnA d.funcs g)) m:=by
 have hy':=hy
 obtain⟨ty,tx,fs,rfl,h0,h1,h2⟩:=hy
 obtain⟨w0,w1,w2,w3,ef,q0,q1,q2,q3⟩:=h2.fnA hg
 have hat:=h2.at .i64 hg
 refine z0U (tT vd) ?_
 obtain⟨stk,cur,nx,live,fl⟩:=m
 dsimp only at hf
 have hf':fl≤(stk++[cur]).length:=by simp;omega
 have hmaxf:max fl ((stk++[cur]).length+1)≤(stk++[cur]).length+1:=by omega
 have hAf:=fun x hx hw hN l z hz hin hlen c n lv=>z9u d h.img h.sl h.ty _ hy' g hg x hx hw hN l z hz hin hlen ⟨stk++[cur],c,n,lv,max fl ((stk++[cur]).length+1)⟩ hmaxf
 have hln:=h.c.len
 have hnx:=fun i hi=>VF h.c h.o (i:=i) hi
 have hSC:ScrP d (fnA d.funcs g)↔GoodF d (fnA d.funcs g)∧LastS (nxt (fnA d.funcs g).code) (stF d (fnA d.funcs g)) (fnA d.funcs g).code.length:=Iff.rfl
 have hstok:=fun i hi l l' hl hs=>z7R h (i:=i) hi (l:=l) (l':=l') hl hs
 have hstF: ∀i l,stF d (fnA d.funcs g) i l=stS d (fnA d.funcs g) (inA (fnA d.funcs g).code i) l:=fun _ _=>rfl
 have hNear:=h.n
 have hC:=h.c
 generalize fnA d.funcs g=f at*
 generalize hn:f.code.length=n at*
 generalize hst:stF d f=st at*
 generalize hnxt:nxt f.code=nxf at*
 have hl0:0<(List.replicate n false).length:=by simp;omega
 have hst0:=tg (s:=List.replicate n false) (j:=0) true hl0
 have hbl0:0+1≤(bools (List.replicate n false)).length:=by rw[th];omega
 have hix0:idx (.int .i64 0) n=some 0:=zX .i64 0 n (by omega)
 have hq1l:evLen w1=some (.int .i64 n):=by rw[←hn];exact q1.len
 simp only[w1a,w2e,w1f] at hst0 hbl0
 simp only[vd,go_sem,G3,G6,G8,hat,ef,hq1l,xA (s:=1) (bytes:=24) (n:=n) (z:=[.nils]) (by omega) (by omega) rfl,xA (s:=1) (bytes:=1) (n:=n) (z:=[.bool false]) (by omega) (by omega) rfl,Zl,z7,hix0,w11,hbl0,hst0]
 have hT0:InT d.types []:=fun t ht=>by cases ht
 have hGF:GoodF d f↔GoodS nxf st n:=by unfold GoodF;rw[hn,hst,hnxt]
 have hlabs: ∀out:List (List Int),out.length=n→(∀i,out.getD i []=labOf nxf st i)→out=labs d f:=fun out h1 h2=>z5F (by rw[hn];exact h1) (by rw[hst,hnxt];exact h2)
 refine zg (α:=List Bool×List (List Int)×Bool) (fun z σ=>(SI nxf n st (InT d.types) z.1 z.2.1∧(z.2.2=false→GoodS nxf st n∧ ∀i,z.2.1.getD i []=labOf nxf st i))∧ ∃nz e cs,lists z.2.1 cs∧heads [1,2,6,7,8,9] 3 σ=⟨tmps 105 [(1,.int .i64 g),(2,.ptr (stk++[cur]).length 0 nx 0),(6,w1),(7,.arr (stk++[cur]).length 1 (nx+1) 0 n),(8,.arr (stk++[cur]).length 2 (nx+1+1) 0 n),(9,.bool z.2.2)],⟨stk++[cur],[⟨nx,[ty,tx,fs]⟩,⟨nx+1,cs⟩,⟨nx+1+1,bools z.1⟩],nz,e::live,fl⟩⟩) (fun z=>2*unm z.1+(if z.2.2 then 1 else 0)) ((List.replicate n false).set 0 true,List.replicate n [],true) ?_ ?_
 ·refine⟨⟨SI.start nxf n st (InT d.types) (by omega) hT0,fun e=>by cases e⟩,?_⟩
  simp only[go_sem,G6,G7]
  exact⟨_,_,_,z0D n,rfl⟩
 ·rintro⟨kn0,out0,ch0⟩ σ ⟨⟨hR0,hdone⟩,nz,e,cs,hcs,hσ⟩
  rw[hσ]
  clear hσ σ
  dsimp only at hR0 hdone hcs⊢
  cases ch0 with
  |false=>
   obtain⟨hG,hlab⟩:=hdone rfl
   have hol:=hR0.r.len2
   have hsub:IntKind.i64.wrap ((n:Int)-1)=((n-1:Nat):Int):=by rw[z6 (by omega) (by omega)];omega
   have hixl:idx (.int .i64 ((n-1:Nat):Int)) n=some (n-1):=zX .i64 _ _ (by omega)
   obtain⟨yl,hyl,hyls⟩:=tO hcs (k:=n-1) (by omega)
   simp only[go_sem,G6,G7,G8,hq1l,hsub,z7,hixl,w11,hyl,hyls.len]
   have hb:(((out0.getD (n-1) []).length:Int)==0)=pb (ScrP d f):=by
    refine Za ?_
    rw[hSC,hGF,beq_iff_eq,z2V nxf st hG,hlab (n-1)]
    refine⟨fun h=>⟨hG,w2a (by omega)⟩,fun h=>by rw[h.2];rfl⟩
   rw[hb]
   refine z5O (cs:=cs) rfl (z2O hcs _ _ _) ?_
   have hJt:=hR0.t
   have hJl:=hR0.len
   rw[hlabs out0 hol hlab] at hcs hJt hJl
   exact⟨hcs,fun k=>⟨hJt k,by have:=hJl k;omega⟩⟩
  |true=>
   simp only[go_sem,G3,G6,G7,G8]
   refine zg (α:=Nat×List Bool×List (List Int)×Bool) (fun z σ=>(z.1≤n∧SR nxf n st (InT d.types) kn0 out0 z.1 z.2.1 z.2.2.1 z.2.2.2)∧ ∃nz e cs,lists z.2.2.1 cs∧heads [1,2,6,7,8,9,10] 3 σ=⟨tmps 105 [(1,.int .i64 g),(2,.ptr (stk++[cur]).length 0 nx 0),(6,w1),(7,.arr (stk++[cur]).length 1 (nx+1) 0 n),(8,.arr (stk++[cur]).length 2 (nx+1+1) 0 n),(9,.bool z.2.2.2),(10,.int .i64 z.1)],⟨stk++[cur],[⟨nx,[ty,tx,fs]⟩,⟨nx+1,cs⟩,⟨nx+1+1,bools z.2.1⟩],nz,e::live,fl⟩⟩) (fun z=>n-z.1) (0,kn0,out0,false) ?_ ?_
   ·refine⟨⟨w0e _,SR.zero nxf n st (InT d.types) hR0⟩,?_⟩
    simp only[go_sem,G6,G7]
    grind
   ·clear hcs
    rintro⟨i,kn,out,ch⟩ σ ⟨⟨hi,hSR⟩,nz,e,cs,hcs,hσ⟩
    rw[hσ]
    clear hσ σ
    dsimp only at hi hSR hcs⊢
    have hkl:=hSR.r.r.len1
    have hol:=hSR.r.r.len2
    by_cases hin:i<n
    ·have hixi:idx (.int .i64 (i:Int)) n=some i:=zX .i64 i n hin
     have hsu:IntKind.i64.wrap ((i:Int)+1)=((i+1:Nat):Int):=by rw[z6 (by omega) (by omega)];omega
     have hgk:=xN (s:=kn) (j:=i) (by omega)
     cases hki:kn.getD i false
     ·rw[hki] at hgk
      simp only[go_sem,G6,G7,G8,hq1l,w02,hin,z7,hixi,w11,hgk,hsu]
      exact⟨(i+1,kn,out,ch),by dsimp only;omega,⟨hin,hSR.skip nxf n st (InT d.types) hki⟩,nz,e,cs,hcs,rfl⟩
     ·rw[hki] at hgk
      have hic:i<f.code.length:=by omega
      obtain⟨c1,c2,c3⟩:=hC.at hic
      obtain⟨yi,hyi,hyis⟩:=tO hcs (k:=i) (by omega)
      have htl:=hSR.r.len i
      simp only[go_sem,G3,G6,G7,G8,hq1l,w02,hin,z7,hixi,w11,hgk,q1.at .i64 hic,q1.inA hic,hyi]
      refine(hAf _ c1 c2 (hNear i hin) _ _ hyis (hSR.r.t i) (by omega) _ _ _).xw fun r ts n1 ⟨q,hr,hq⟩=> ?_
      subst hr
      have hlive: ∃e',pushToks ts (e::live)=e'::live:=by cases ts<;>exact⟨_,rfl⟩
      obtain⟨e',he'⟩:=hlive
      simp only[he',←hstF]
      cases hs:st i (out.getD i []) with
      |none=>
       simp only[go_sem,G6,G8,Option.isSome_none]
       have hng: ¬GoodS nxf st n:=XP nxf st hSR.r.r hki hs
       rw[zS fun hh=>hng (hGF.1 (hSC.1 hh).1)]
       exact T6 fun hh=>hng (hGF.1 hh)
      |some l=>
       have hql:IsSl IsI 1 l q:=hq l (by rw[←hstF];exact hs)
       have hlt:=hstok i hin _ _ (hSR.r.t i) hs
       simp only[go_sem,G6,G8,Option.isSome_some]
       refine(Tv f.code w1 q1 i hic (Wa c1) _).xv fun y k1 ⟨hy,hyt⟩=> ?_
       rw[hnxt] at hy
       simp only[go_sem,G3,G6,G8]
       refine zg (α:=Nat×List Bool×List (List Int)×Bool) (fun z σ=>(z.1≤(nxf i).length∧SQ nxf n st (InT d.types) kn0 out0 i l ((nxf i).take z.1) z.2.1 z.2.2.1 z.2.2.2)∧ ∃nz cs,lists z.2.2.1 cs∧heads [1,2,6,7,8,9,10,11,13,14] 3 σ=⟨tmps 105 [(1,.int .i64 g),(2,.ptr (stk++[cur]).length 0 nx 0),(6,w1),(7,.arr (stk++[cur]).length 1 (nx+1) 0 n),(8,.arr (stk++[cur]).length 2 (nx+1+1) 0 n),(9,.bool z.2.2.2),(10,.int .i64 i),(11,q),(13,y),(14,.int .i64 z.1)],⟨stk++[cur],[⟨nx,[ty,tx,fs]⟩,⟨nx+1,cs⟩,⟨nx+1+1,bools z.2.1⟩],nz,e'::live,fl⟩⟩) (fun z=>(nxf i).length-z.1) (0,kn,out,ch) ?_ ?_
       ·refine⟨⟨w0e _,hSR,hki,hs,hlt,fun k hk=>by cases hk⟩,?_⟩
        simp only[go_sem,G6,G7]
        grind
       ·clear hcs hki hgk hyi hyis hs htl hkl hol hSR
        rintro⟨j,kn,out,ch⟩ σ ⟨⟨hj,hSQ⟩,nz,cs,hcs,hσ⟩
        rw[hσ]
        clear hσ σ
        dsimp only at hj hSQ hcs⊢
        have hkl:=hSQ.r.r.r.len1
        have hol:=hSQ.r.r.r.len2
        by_cases hjn:j<(nxf i).length
        ·have hkn:=hnx i hin (nxf i)[j] (w04 hjn)
         have hmem:(nxf i)[j]∈nxf i:=w04 hjn
         have hts:(nxf i).take (j+1)=(nxf i).take j++[(nxf i)[j]]:=w0f hjn
         have e1:nth y j= .int .i64 ((nxf i)[j]:Nat):=hy.nth hjn
         have hatj:=hy.at .i64 hjn
         generalize hK:(nxf i)[j]=k at*
         have hlen2:(nxf i).length≤2:=by rw[←hnxt];exact WR _ _
         have hsj:IntKind.i64.wrap ((j:Int)+1)=((j+1:Nat):Int):=by rw[z6 (by omega) (by omega)];omega
         have hixk:idx (.int .i64 (k:Nat)) n=some k:=zX .i64 k n hkn
         have hgk:=xN (s:=kn) (j:=k) (by omega)
         obtain⟨yk,hyk,hyks⟩:=tO hcs (k:=k) (by omega)
         have hltj:((j:Int)<((nxf i).length:Nat))=True:=eq_true (by omega)
         have hSI:=fun m=>(tu _ _ _ _ hyks hql m).eq
         cases hkk:kn.getD k false
         ·rw[hkk] at hgk
          have hst1:=tg (s:=kn) (j:=k) true (by omega)
          have hbl1:k+1≤(bools kn).length:=by rw[th];omega
          have hbl2:k+1≤cs.length:=by rw[hcs.1];omega
          simp only[go_sem,G6,G7,G8,hy.len,hltj,hatj,e1,z7,hixk,w11,hgk,hql.refs_cells,hql.one,hbl2,hbl1,hst1,hsj]
          refine⟨(j+1,kn.set k true,out.set k l,true),by dsimp only;omega,⟨hjn,?_⟩,nz,_,z0C hcs (by omega) hql,rfl⟩
          dsimp only
          rw[hts]
          exact hSQ.new nxf n st (InT d.types) hkn hmem hkk
         ·rw[hkk] at hgk
          by_cases heq:out.getD k []=l
          ·have hd:decide (out.getD k []=l)=true:=decide_eq_true heq
           simp only[go_sem,G6,G7,G8,hy.len,hltj,hatj,e1,z7,hixk,w11,hgk,hyk,hSI,hd,hsj]
           refine⟨(j+1,kn,out,ch),by dsimp only;omega,⟨hjn,?_⟩,?_⟩
           ·dsimp only
            rw[hts]
            exact hSQ.same nxf n st (InT d.types) hkk heq
           ·grind
          ·have hd:decide (out.getD k []=l)=false:=decide_eq_false heq
           simp only[go_sem,G6,G7,G8,hy.len,hltj,hatj,e1,z7,hixk,w11,hgk,hyk,hSI,hd]
           have hng: ¬GoodS nxf st n:=WT nxf st hSQ.r.r.r hSQ.hi hSQ.hs hmem hkk heq
           rw[zS fun hh=>hng (hGF.1 (hSC.1 hh).1)]
           exact T6 fun hh=>hng (hGF.1 hh)
        ·have hje:j=(nxf i).length:=by omega
         subst hje
         rw[w0a] at hSQ
         simp only[go_sem,G6,G7,G8,hy.len,show(((nxf i).length:Nat):Int)<((nxf i).length:Nat)↔False from⟨fun h=>by omega,False.elim⟩,hsu]
         exact⟨(i+1,kn,out,ch),by dsimp only;omega,⟨hin,hSQ.fin nxf n st (InT d.types)⟩,nz,e',cs,hcs,rfl⟩
    ·have hie:i=n:=by omega
     subst hie
     simp only[go_sem,G6,G7,G8,hq1l,w02,hin]
     refine⟨(kn,out,ch),?_,⟨hSR.r,fun ec=> ?_⟩,nz,e,cs,hcs,rfl⟩
     ·dsimp only
      have h1:=hSR.le
      cases ch
      ·simp;omega
      ·have:=hSR.lt rfl
       simp;omega
     ·dsimp only at ec
      subst ec
      exact hSR.done nxf _ st (InT d.types)
theorem zaI (l:List DInstr) (x:AV) (hx:IsSl IsInstr 4 l x) (hc:CodeP l) (h7:Ok07 l) (m:Mem) (hf:m.floor≤m.stk.length+1):
  CallArr 357 [x] l.length (fun cs=> ∃s:List Bool,cs=bools s∧s.length=l.length∧ ∀i,s.getD i false=true↔Rch (nxt l) i) id m:=by
 refine ZL (tT to) ?_
 obtain⟨stk,cur,nx,live,fl⟩:=m
 dsimp only at hf
 have hln:=hc.len
 have hmx:=hx.max
 have hf':fl≤(stk++[cur]).length:=by simp;omega
 have hnx:=fun i hi=>VF hc h7 (i:=i) hi
 have hl0:0<(List.replicate l.length false).length:=by simp;omega
 have hst0:=tg (s:=List.replicate l.length false) (j:=0) true hl0
 have hbl0:0+1≤(bools (List.replicate l.length false)).length:=by rw[th];omega
 have hix0:idx (.int .i64 0) l.length=some 0:=zX .i64 0 l.length (by omega)
 simp only[w1a,w2e,w1f] at hst0 hbl0
 simp only[to,go_sem,G6,G8,hx.len,xA (s:=1) (bytes:=1) (n:=l.length) (z:=[.bool false]) (by omega) (by omega) rfl,Zl,z7,hix0,w11,hbl0,hst0]
 refine zg (α:=List Bool×Bool) (fun z σ=>(RInv (nxt l) l.length z.1∧(z.2=false→ ∀i,z.1.getD i false=true↔Rch (nxt l) i))∧ ∃nz,heads [0,3,4] 1 σ=⟨tmps 50 [(0,x),(3,.arr (stk++[cur]).length 0 nx 0 l.length),(4,.bool z.2)],⟨stk++[cur],[⟨nx,bools z.1⟩],nz,[]::live,fl⟩⟩) (fun z=>2*unm z.1+(if z.2 then 1 else 0)) ((List.replicate l.length false).set 0 true,true) ?_ ?_
 ·refine⟨⟨RInv.start (nxt l) l.length (by omega),fun e=>by cases e⟩,?_⟩
  simp only[go_sem,G6,G7]
  simp
 ·rintro⟨s,ch⟩ σ ⟨⟨hR,hdone⟩,nz,hσ⟩
  rw[hσ]
  clear hσ σ
  dsimp only at hR hdone⊢
  cases ch with
  |false=>
   simp only[go_sem,G6,G7,G8]
   exact V7 (w:=id) (.inl rfl) (cs:=bools s) rfl (Uf _ _ _ _) ⟨_,rfl,hR.len,hdone rfl⟩
  |true=>
   simp only[go_sem,G6,G7,G8]
   refine zg (α:=Nat) (fun i σ=>i≤l.length∧ ∃nz,heads [0,3,4,5] 1 σ=⟨tmps 50 [(0,x),(3,.arr (stk++[cur]).length 0 nx 0 l.length),(4,.bool (ledR (nxt l) s i).2),(5,.int .i64 i)],⟨stk++[cur],[⟨nx,bools (ledR (nxt l) s i).1⟩],nz,[]::live,fl⟩⟩) (fun i=>l.length-i) 0 ?_ ?_
   ·refine⟨w0e _,?_⟩
    simp only[go_sem,G6,G7,ledR]
    simp
   ·rintro i σ ⟨hi,nz,hσ⟩
    rw[hσ]
    clear hσ σ
    dsimp only at hi⊢
    by_cases h:i<l.length
    ·have hK:=WZ (nxt l) l.length hnx hR i hi
     have hstep:ledR (nxt l) s (i+1)=ledI (nxt l) (ledR (nxt l) s i) i:=rfl
     have hsu:IntKind.i64.wrap ((i:Int)+1)=((i+1:Nat):Int):=zq h hmx
     have hixi:idx (.int .i64 (i:Int)) l.length=some i:=zX .i64 i l.length h
     simp only[go_sem,G6,G7,G8,w02,h,hx.len]
     refine(Tv l x hx i h (Wa (hc.at h).1) _).xv fun y k1 ⟨hy,hyt⟩=> ?_
     simp only[go_sem,G6,G8]
     generalize ledR (nxt l) s i=p0 at*
     have hpl:=hK.r.len
     by_cases hin:p0.1.getD i false=true
     ·have hfold: ∀q,q≤(nxt l i).length→LK (nxt l) l.length s i (((nxt l i).take q).foldl ledK p0)∧(((nxt l i).take q).foldl ledK p0).1.getD i false=true:=fun q hq=>by
       have:=VO (nxt l) l.length hK hin (ks:=(nxt l i).take q) (done:=[]) (fun k hk=>⟨w3d hk,hnx i h k (w3d hk)⟩) (fun _ k hk=>by cases hk)
       grind
      refine zg (α:=Nat) (fun q σ=>q≤(nxt l i).length∧ ∃nz,heads [0,3,4,5,6,7] 1 σ=⟨tmps 50 [(0,x),(3,.arr (stk++[cur]).length 0 nx 0 l.length),(4,.bool (((nxt l i).take q).foldl ledK p0).2),(5,.int .i64 i),(6,y),(7,.int .i64 q)],⟨stk++[cur],[⟨nx,bools (((nxt l i).take q).foldl ledK p0).1⟩],nz,[]::live,fl⟩⟩) (fun q=>(nxt l i).length-q) 0 ?_ ?_
      ·refine⟨w0e _,?_⟩
       simp only[go_sem,G6,G7,w1a,List.foldl_nil]
       simp
      ·rintro q σ ⟨hq,nz,hσ⟩
       rw[hσ]
       clear hσ σ
       dsimp only at hq⊢
       obtain⟨hKq,hiq⟩:=hfold q hq
       by_cases hqn:q<(nxt l i).length
       ·have hsucc:((nxt l i).take (q+1)).foldl ledK p0=ledK (((nxt l i).take q).foldl ledK p0) (nxt l i)[q]:=by rw[w0f hqn,List.foldl_append];rfl
        have hkn:=hnx i h (nxt l i)[q] (w04 hqn)
        generalize ((nxt l i).take q).foldl ledK p0=p at*
        have hpl2:=hKq.r.len
        have e1:nth y q= .int .i64 ((nxt l i)[q]:Nat):=hy.nth hqn
        have hsq:IntKind.i64.wrap ((q:Int)+1)=((q+1:Nat):Int):=by have:=WR l i;rw[z6 (by omega) (by omega)];omega
        have hgi:=xN (s:=p.1) (j:=i) (by omega)
        rw[hiq] at hgi
        have hixk:idx (.int .i64 ((nxt l i)[q]:Nat)) l.length=some (nxt l i)[q]:=zX .i64 _ l.length hkn
        have hgk:=xN (s:=p.1) (j:=(nxt l i)[q]) (by omega)
        have hlt:((q:Int)<((nxt l i).length:Nat))=True:=eq_true (by omega)
        simp only[go_sem,G6,G7,G8,hy.len,hlt,z7,hixi,w11,hgi,hy.at .i64 hqn,e1,hixk,hgk]
        cases hk:p.1.getD (nxt l i)[q] false
        ·have hst:=tg (s:=p.1) (j:=(nxt l i)[q]) true (by omega)
         have hbl:(nxt l i)[q]+1≤(bools p.1).length:=by rw[th];omega
         simp only[go_sem,G6,G8,hy.at .i64 hqn,e1,z7,hixk,w11,hbl,hst,hsq]
         refine⟨q+1,by omega,by omega,nz,?_⟩
         rw[hsucc];unfold ledK;rw[hk];rfl
        ·simp only[go_sem,G6,G8,hsq]
         refine⟨q+1,by omega,by omega,nz,?_⟩
         rw[hsucc];unfold ledK;rw[hk];rfl
       ·have hqe:q=(nxt l i).length:=by omega
        subst hqe
        rw[w0a] at*
        simp only[go_sem,G6,G7,G8,hy.len,show(((nxt l i).length:Nat):Int)<((nxt l i).length:Nat)↔False from⟨fun h=>by omega,False.elim⟩,hsu]
        refine⟨i+1,by omega,by omega,nz,?_⟩
        rw[hstep];unfold ledI;rw[hin];rfl
     ·have hin':p0.1.getD i false=false:=by simpa using hin
      have hgi:=xN (s:=p0.1) (j:=i) (by omega)
      rw[hin'] at hgi
      rw[yW]
      by_cases hq0:((0:Int)<((nxt l i).length:Nat))
      ·simp only[go_sem,G6,G7,G8,hy.len,hq0,z7,hixi,w11,hgi,hsu]
       refine⟨i+1,by omega,by omega,k1,?_⟩
       rw[hstep];unfold ledI;rw[hin'];rfl
      ·simp only[go_sem,G6,G7,G8,hy.len,hq0,hsu]
       refine⟨i+1,by omega,by omega,k1,?_⟩
       rw[hstep];unfold ledI;rw[hin'];rfl
    ·have hie:i=l.length:=by omega
     subst hie
     have hK:=WZ (nxt l) l.length hnx hR l.length (w08 _)
     simp only[go_sem,G6,G7,G8,w02,h,hx.len]
     refine⟨ledR (nxt l) s l.length,?_,⟨hK.r,fun e j=>by rw[(hK.eq e).1];exact z6A (nxt l) l.length hnx hR e j⟩,_,rfl⟩
     have h1:=hK.le
     cases hch:(ledR (nxt l) s l.length).2
     ·simp;omega
     ·have:=hK.lt hch
      simp;omega
end Go.Proofs.W
end
section
namespace Go.Vs
section
variable (nx : Nat → List Nat) (n : Nat) (W : Nat → Nat) (p0 : Nat)
abbrev MS:=List Bool×List Nat
def updM (s:MS) (k:Nat) (fr:Option Nat):MS×Bool:=
 match fr with
 |none=>((s.1.set k true,s.2.set k p0),true)
 |some i=>if s.1.getD k false then((s.1,s.2.set k (s.2.getD k 0&&&(s.2.getD i 0|||W i))),(s.2.getD k 0&&&(s.2.getD i 0|||W i)) !=s.2.getD k 0) else((s.1.set k true,s.2.set k (s.2.getD i 0|||W i)),true)
def phi:List Bool→List Nat→Nat
 |b::s,o::r=>(if b then o else 65536)+phi s r
 |_,_=>0
theorem T0: ∀{s:List Bool} {o:List Nat} {k v:Nat} {b:Bool},k<s.length→k<o.length→phi (s.set k b) (o.set k v)+(if s.getD k false then o.getD k 0 else 65536)=phi s o+(if b then v else 65536)
 | [],_,_,_,_,h,_=>by simp at h
 |_::_,[],_,_,_,_,h=>by simp at h
 |b0::s,o0::o,0,v,b,_,_=>by simp[phi];omega
 |b0::s,o0::o,k+1,v,b,h,h'=>by
  have:=T0 (s:=s) (o:=o) (k:=k) (v:=v) (b:=b) (by simpa using h) (by simpa using h')
  simp only[w4b,phi,List.getD_cons_succ];omega
theorem z87: ∀(s:List Bool) (o:List Nat),(∀j,o.getD j 0<65536)→phi s o≤s.length*65536
 | [],_,_=>by simp[phi]
 |_::_,[],_=>by simp[phi]
 |b::s,o0::o,h=>by
  have h0:=h 0
  have:=z87 s o (fun j=>by have:=h (j+1);simpa using this)
  simp only[List.getD_cons_zero] at h0
  simp only[phi,w59,w40]
  grind
theorem T2 {a b:Nat} (h:a<65536) (k:b<65536):a|||b<65536:=Nat.or_lt_two_pow (n:=16) h k
theorem z8m {a b:Nat} (h:a<65536):a&&&b<65536:=Nat.lt_of_le_of_lt Nat.and_le_left h
theorem Vj {a b:Nat} (h:a&&&b≠a):a&&&b<a:=Nat.lt_of_le_of_ne Nat.and_le_left h
structure MI (s:MS):Prop where
 l1:s.1.length=n
 l2:s.2.length=n
 zero:s.1.getD 0 false=true
 sub: ∀i,s.1.getD i false=true→Rch nx i
 un: ∀i,s.1.getD i false=false→s.2.getD i 0=0
 p:Sub (s.2.getD 0 0) p0
 abv: ∀M,Sol nx W p0 M→ ∀i,s.1.getD i false=true→Sub (M i) (s.2.getD i 0)
 lt: ∀i,s.2.getD i 0<65536
structure MJ (s:MS) (op:List Nat):Prop where
 r:MI nx n W p0 s
 cl: ∀j,s.1.getD j false=true→j∈op∨ ∀k∈nx j,s.1.getD k false=true∧Sub (s.2.getD k 0) (s.2.getD j 0|||W j)
 o: ∀j∈op,j<n∧s.1.getD j false=true
 b:op.length+phi s.1 s.2≤n*65536
structure MK (i:Nat) (done:List Nat) (M:Nat) (s:MS) (op:List Nat):Prop where
 r:MI nx n W p0 s
 cl: ∀j,s.1.getD j false=true→j=i∨j∈op∨ ∀k∈nx j,s.1.getD k false=true∧Sub (s.2.getD k 0) (s.2.getD j 0|||W j)
 o: ∀j∈op,j<n∧s.1.getD j false=true
 b:op.length+phi s.1 s.2+1≤n*65536
 hi:s.1.getD i false=true
 d: ∀k∈done,s.1.getD k false=true∧Sub (s.2.getD k 0) (s.2.getD i 0|||W i)
 m:2*phi s.1 s.2+op.length+1≤M
theorem zbd {α:Type} {s:List α} {k:Nat} {d:α}:s.set k (s.getD k d)=s:=by
 apply w27
 grind
theorem MK.k (hW: ∀i,W i<65536) {i k M:Nat} {done:List Nat} {s:MS} {op:List Nat} (h:MK nx n W p0 i done M s op) (hk:k∈nx i) (hkn:k<n):MK nx n W p0 i (done++[k]) M (procK (updM W p0) i (s,op) k).1 (procK (updM W p0) i (s,op) k).2:=by
 unfold procK updM
 dsimp only
 obtain⟨met,out⟩:=s
 have hl1:k<met.length:=by rw[h.r.l1];exact hkn
 have hl2:k<out.length:=by rw[h.r.l2];exact hkn
 by_cases hs:met.getD k false=true
 ·simp only[hs,if_true]
  by_cases he:out.getD k 0&&&(out.getD i 0|||W i)=out.getD k 0
  ·have hb:(out.getD k 0&&&(out.getD i 0|||W i) !=out.getD k 0)=false:=by simpa using he
   rw[hb,he,zbd]
   refine⟨h.r,h.cl,h.o,h.b,h.hi,fun k' hk'=> ?_,h.m⟩
   rcases w0b.1 hk' with q|q
   ·exact h.d k' q
   ·rw[w1c.1 q]
    exact⟨hs,by dsimp only;rw[←he];exact U3 _ _⟩
  ·have hb:(out.getD k 0&&&(out.getD i 0|||W i) !=out.getD k 0)=true:=by simpa using he
   have hki:k≠i:=fun e=>he (by subst e;exact Sub.antisymm (Xy _ _) (Sub.and (.refl _) fun s x=>by rw[Nat.testBit_or,x];rfl))
   rw[hb]
   simp only[if_true]
   have hlt:=Vj he
   have hph:=T0 (s:=met) (o:=out) (k:=k) (v:=out.getD k 0&&&(out.getD i 0|||W i)) (b:=true) hl1 hl2
   rw[z2q hs,hs] at hph
   simp only[if_true] at hph
   have hget: ∀j,j≠k→(out.set k (out.getD k 0&&&(out.getD i 0|||W i))).getD j 0=out.getD j 0:=fun j hj=>getD_set_ne (Ne.symm hj)
   have hgk:(out.set k (out.getD k 0&&&(out.getD i 0|||W i))).getD k 0=out.getD k 0&&&(out.getD i 0|||W i):=getD_set_eq hl2
   have hsub: ∀j,Sub ((out.set k (out.getD k 0&&&(out.getD i 0|||W i))).getD j 0) (out.getD j 0):=fun j=>by
    by_cases e:j=k
    ·subst e;rw[hgk];exact Xy _ _
    ·rw[hget j e];exact .refl _
   refine⟨⟨h.r.l1,by simp[h.r.l2],h.r.zero,h.r.sub,fun j hj=> ?_,(hsub 0).trans h.r.p,fun M hM j hj=> ?_,fun j=>Nat.lt_of_le_of_lt (hsub j).le (h.r.lt j)⟩,fun j hj=> ?_,fun j hj=> ?_,?_,h.hi,fun k' hk'=> ?_,?_⟩
   ·have e:j≠k:=fun e=>by subst e;rw[hs] at hj;cases hj
    rw[hget j e];exact h.r.un j hj
   ·by_cases e:j=k
    ·subst e;rw[hgk]
     exact Sub.and (h.r.abv M hM _ hj) ((hM.2 i (h.r.sub i h.hi) _ hk).trans (Sub.or (h.r.abv M hM i h.hi) (.refl _)))
    ·rw[hget j e];exact h.r.abv M hM j hj
   ·by_cases e:j=k
    ·grind
    ·rcases h.cl j hj with q|q|q
     ·exact .inl q
     ·grind
     ·exact .inr (.inr fun k' hk'=>⟨(q k' hk').1,by rw[hget j e];exact(hsub k').trans (q k' hk').2⟩)
   ·rcases w0b.1 hj with q|q
    ·exact h.o j q
    ·grind
   ·have:=h.b;simp only[w15,w29] at this⊢;(try dsimp only at this);omega
   ·rw[hget i (Ne.symm hki)]
    rcases w0b.1 hk' with q|q
    ·exact⟨(h.d k' q).1,(hsub k').trans (h.d k' q).2⟩
    ·rw[w1c.1 q];exact⟨hs,by rw[hgk];exact U3 _ _⟩
   ·have:=h.m;simp only[w15,w29];(try dsimp only at this);omega
 ·have hs':met.getD k false=false:=by simpa using hs
  have hki:k≠i:=fun e=>by subst e;exact hs h.hi
  simp only[hs',w25,if_false,if_true]
  have hph:=T0 (s:=met) (o:=out) (k:=k) (v:=out.getD i 0|||W i) (b:=true) hl1 hl2
  rw[hs'] at hph
  simp only[if_true,w25,if_false] at hph
  have hv:=T2 (h.r.lt i) (hW i)
  dsimp only at hv
  have hget: ∀j,j≠k→(out.set k (out.getD i 0|||W i)).getD j 0=out.getD j 0:=fun j hj=>getD_set_ne (Ne.symm hj)
  have hgk:(out.set k (out.getD i 0|||W i)).getD k 0=out.getD i 0|||W i:=getD_set_eq hl2
  have hmet: ∀j,j≠k→(met.set k true).getD j false=met.getD j false:=fun j hj=>getD_set_ne (Ne.symm hj)
  have h0:0≠k:=fun e=>by subst e;rw[h.r.zero] at hs';cases hs'
  refine⟨⟨by simp[h.r.l1],by simp[h.r.l2],ye h.r.zero,fun j hj=> ?_,fun j hj=> ?_,by rw[hget 0 h0];exact h.r.p,fun M hM j hj=> ?_,fun j=> ?_⟩,fun j hj=> ?_,fun j hj=> ?_,?_,ye h.hi,fun k' hk'=> ?_,?_⟩
  ·by_cases e:j=k
   ·subst e;exact .step (h.r.sub i h.hi) hk
   ·rw[hmet j e] at hj;exact h.r.sub j hj
  ·by_cases e:j=k
   ·subst e;rw[tw hl1] at hj;cases hj
   ·rw[hmet j e] at hj;rw[hget j e];exact h.r.un j hj
  ·by_cases e:j=k
   ·subst e;rw[hgk]
    exact(hM.2 i (h.r.sub i h.hi) _ hk).trans (Sub.or (h.r.abv M hM i h.hi) (.refl _))
   ·rw[hmet j e] at hj;rw[hget j e];exact h.r.abv M hM j hj
  ·by_cases e:j=k
   ·subst e;rw[hgk];exact hv
   ·rw[hget j e];exact h.r.lt j
  ·by_cases e:j=k
   ·subst e;exact .inr (.inl (by simp))
   ·rw[hmet j e] at hj
    rcases h.cl j hj with q|q|q
    ·exact .inl q
    ·exact .inr (.inl (by simp[q]))
    ·refine .inr (.inr fun k' hk'=> ?_)
     have hkk:k'≠k:=fun e'=>by subst e';rw[(q k' hk').1] at hs';cases hs'
     exact⟨ye (q k' hk').1,by rw[hget j e,hget k' hkk];exact(q k' hk').2⟩
  ·rcases w0b.1 hj with q|q
   ·exact⟨(h.o j q).1,ye (h.o j q).2⟩
   ·rw[w1c.1 q];exact⟨hkn,tw hl1⟩
  ·have:=h.b;simp only[w15,w29] at this⊢;(try dsimp only at this);omega
  ·rw[hget i (Ne.symm hki)]
   rcases w0b.1 hk' with q|q
   ·have hkk:k'≠k:=fun e'=>by subst e';have:=(h.d k' q).1;rw[this] at hs';cases hs'
    exact⟨ye (h.d k' q).1,by rw[hget k' hkk];exact(h.d k' q).2⟩
   ·rw[w1c.1 q];exact⟨tw hl1,by rw[hgk];exact .refl _⟩
  ·have:=h.m;simp only[w15,w29];(try dsimp only at this);omega
theorem MK.all (hW: ∀i,W i<65536) {i M:Nat}: ∀{ks done:List Nat} {s:MS} {op:List Nat},MK nx n W p0 i done M s op→(∀k∈ks,k∈nx i∧k<n)→MK nx n W p0 i (done++ks) M (proc (updM W p0) i ks (s,op)).1 (proc (updM W p0) i ks (s,op)).2
 | [],done,s,op,h,_=>by rw[w21,z2v];exact h
 |k::ks,done,s,op,h,hk=>by
  have h1:=h.k nx n W p0 hW (hk k w24).1 (hk k w24).2
  have:=MK.all hW h1 (fun k' hk'=>hk k' (w2c _ hk'))
  rw[w1e,List.singleton_append] at this
  trivial
theorem MJ.pop {s:MS} {op:List Nat} {i:Nat} (h:MJ nx n W p0 s (op++[i])):MK nx n W p0 i [] (2*phi s.1 s.2+(op++[i]).length) s op:=by
 refine⟨h.r,fun j hj=> ?_,fun j hj=>h.o j (w52 _ hj),?_,(h.o i (by simp)).2,fun k hk=>(by cases hk),?_⟩
 ·rcases h.cl j hj with q|q
  ·grind
  ·grind
 ·have:=h.b;simp at this;omega
 ·simp;omega
theorem MJ.next (hW: ∀i,W i<65536) (hnx: ∀i,i<n→ ∀k∈nx i,k<n) {s:MS} {op:List Nat} {i:Nat} (h:MJ nx n W p0 s (op++[i])):
  MJ nx n W p0 (proc (updM W p0) i (nx i) (s,op)).1 (proc (updM W p0) i (nx i) (s,op)).2∧2*phi (proc (updM W p0) i (nx i) (s,op)).1.1 (proc (updM W p0) i (nx i) (s,op)).1.2+(proc (updM W p0) i (nx i) (s,op)).2.length<2*phi s.1 s.2+(op++[i]).length:=by
 have hi:=(h.o i (by simp)).1
 have:=MK.all nx n W p0 hW (h.pop nx n W p0) (ks:=nx i) (fun k hk=>⟨hk,hnx i hi k hk⟩)
 rw[w2e] at this
 refine⟨⟨this.r,fun j hj=> ?_,this.o,by have:=this.b;omega⟩,by have:=this.m;omega⟩
 rcases this.cl j hj with q|q|q
 ·subst q;exact .inr this.d
 ·exact .inl q
 ·exact .inr q
theorem MJ.done {s:MS} (h:MJ nx n W p0 s []) (i:Nat):s.2.getD i 0=mskOf nx W p0 i:=by
 have hcl: ∀j,s.1.getD j false=true→ ∀k∈nx j,s.1.getD k false=true∧Sub (s.2.getD k 0) (s.2.getD j 0|||W j):=fun j hj=>(h.cl j hj).elim (fun q=>by cases q) id
 have hr: ∀j,Rch nx j→s.1.getD j false=true:=fun j hj=>by
  induction hj with
  |zero=>exact h.r.zero
  |step _ hk ih=>exact(hcl _ ih _ hk).1
 refine Great.is nx W p0 (o:=fun i=>s.2.getD i 0) ⟨fun j hj=>h.r.un j ?_,⟨h.r.p,fun j hj k hk=>(hcl j (hr j hj) k hk).2⟩,fun M hM j hj=>h.r.abv M hM j (hr j hj)⟩ i
 cases hb:s.1.getD j false with
 |false=>rfl
 |true=>exact absurd (h.r.sub j hb) hj
theorem MJ.start (hn:0<n) (hp:p0<65536):MJ nx n W p0 (updM W p0 (List.replicate n false,List.replicate n 0) 0 none).1 [0]:=by
 have hl:0<(List.replicate n false).length:=by simpa using hn
 have hl2:0<(List.replicate n 0).length:=by simpa using hn
 have hg: ∀j,(List.replicate n false).getD j false=false:=fun j=>by
  grind
 have hg2: ∀j,(List.replicate n 0).getD j 0=0:=fun j=>by
  grind
 have hmet: ∀j,j≠0→((List.replicate n false).set 0 true).getD j false=false:=fun j hj=>by rw[getD_set_ne (Ne.symm hj),hg]
 have hout: ∀j,j≠0→((List.replicate n 0).set 0 p0).getD j 0=0:=fun j hj=>by rw[getD_set_ne (Ne.symm hj),hg2]
 have ho0:((List.replicate n 0).set 0 p0).getD 0 0=p0:=getD_set_eq hl2
 have hph:=T0 (s:=List.replicate n false) (o:=List.replicate n 0) (k:=0) (v:=p0) (b:=true) hl hl2
 have hp0:=z87 (List.replicate n false) (List.replicate n 0) (fun j=>by rw[hg2];omega)
 rw[hg] at hph
 simp only[List.length_replicate,if_true,w25,if_false] at hph hp0
 unfold updM
 dsimp only
 refine⟨⟨by simp,by simp,tw hl,fun j hj=> ?_,fun j hj=> ?_,by dsimp only;rw[ho0];exact .refl _,fun M hM j hj=> ?_,fun j=> ?_⟩,fun j hj=> ?_,fun j hj=> ?_,?_⟩
 ·by_cases e:j=0
  ·subst e;exact .zero
  ·grind
 ·grind
 ·by_cases e:j=0
  ·subst e;dsimp only;rw[ho0];exact hM.1
  ·grind
 ·grind
 ·grind
 ·grind
 ·grind
def livK (i:Nat) (p:List Nat×Bool) (k:Nat):List Nat×Bool:=if(p.1.getD k 0&&&(p.1.getD i 0|||W i)) !=p.1.getD k 0 then(p.1.set k (p.1.getD k 0&&&(p.1.getD i 0|||W i)),true) else p
def livI (led:List Bool) (p:List Nat×Bool) (i:Nat):List Nat×Bool:=if led.getD i false then(nx i).foldl (livK W i) p else p
def livR (led:List Bool) (m:List Nat):Nat→List Nat×Bool
 |0=>(m,false)
 |i+1=>livI nx W led (livR led m i) i
structure VI (m:List Nat):Prop where
 l:m.length=n
 p:Sub (m.getD 0 0) p0
 abv: ∀M,Sol nx W p0 M→ ∀i,Rch nx i→Sub (M i) (m.getD i 0)
 lt: ∀i,m.getD i 0<65536
structure VK (m:List Nat) (j:Nat) (p:List Nat×Bool):Prop where
 r:VI nx n W p0 p.1
 le:p.1.sum≤m.sum
 eq:p.2=false→p.1=m∧ ∀i,i<j→Rch nx i→ ∀k∈nx i,Sub (m.getD k 0) (m.getD i 0|||W i)
 lt:p.2=true→p.1.sum<m.sum
theorem z5i: ∀{m:List Nat} {k v:Nat},k<m.length→(m.set k v).sum+m.getD k 0=m.sum+v
 | [],_,_,h=>by simp at h
 |a::m,0,v,_=>by simp;omega
 |a::m,k+1,v,h=>by
  have:=z5i (m:=m) (k:=k) (v:=v) (by simpa using h)
  grind
theorem VN {m:List Nat} {j i:Nat} (hr:Rch nx i): ∀{ks done:List Nat} {p:List Nat×Bool},VK nx n W p0 m j p→(∀k∈ks,k∈nx i∧k<n)→(p.2=false→ ∀k∈done,Sub (m.getD k 0) (m.getD i 0|||W i))→
  VK nx n W p0 m j (ks.foldl (livK W i) p)∧((ks.foldl (livK W i) p).2=false→ ∀k∈done++ks,Sub (m.getD k 0) (m.getD i 0|||W i))
 | [],done,p,h,_,hd=>⟨h,by rw[w21];exact hd⟩
 |k::ks,done,p,h,hk,hd=>by
  have hkk:=hk k w24
  have h1:VK nx n W p0 m j (livK W i p k)∧((livK W i p k).2=false→ ∀k'∈done++[k],Sub (m.getD k' 0) (m.getD i 0|||W i)):=by
   unfold livK
   have hl:k<p.1.length:=by rw[h.r.l];exact hkk.2
   by_cases he:p.1.getD k 0&&&(p.1.getD i 0|||W i)=p.1.getD k 0
   ·have hb:(p.1.getD k 0&&&(p.1.getD i 0|||W i) !=p.1.getD k 0)=false:=by simpa using he
    rw[hb]
    simp only[w25,if_false]
    refine⟨h,fun e k' hk'=> ?_⟩
    rcases w0b.1 hk' with q|q
    ·grind
    ·rw[w1c.1 q,←(h.eq e).1,←he];exact U3 _ _
   ·have hb:(p.1.getD k 0&&&(p.1.getD i 0|||W i) !=p.1.getD k 0)=true:=by simpa using he
    rw[hb]
    simp only[if_true]
    have hlt:=Vj he
    have hs:=z5i (m:=p.1) (v:=p.1.getD k 0&&&(p.1.getD i 0|||W i)) hl
    have hget: ∀j,j≠k→(p.1.set k (p.1.getD k 0&&&(p.1.getD i 0|||W i))).getD j 0=p.1.getD j 0:=fun j hj=>getD_set_ne (Ne.symm hj)
    have hgk:(p.1.set k (p.1.getD k 0&&&(p.1.getD i 0|||W i))).getD k 0=p.1.getD k 0&&&(p.1.getD i 0|||W i):=getD_set_eq hl
    have hsub: ∀j,Sub ((p.1.set k (p.1.getD k 0&&&(p.1.getD i 0|||W i))).getD j 0) (p.1.getD j 0):=fun j=>by
     by_cases e:j=k
     ·subst e;rw[hgk];exact Xy _ _
     ·rw[hget j e];exact .refl _
    have hle:=h.le
    refine⟨⟨⟨by simp[h.r.l],(hsub 0).trans h.r.p,fun M hM j hj=> ?_,fun j=>Nat.lt_of_le_of_lt (hsub j).le (h.r.lt j)⟩,by dsimp only;omega,fun e=>(by cases e),fun _=>(by dsimp only;omega)⟩,fun e=>(by cases e)⟩
    by_cases e:j=k
    ·subst e;dsimp only;rw[hgk]
     exact Sub.and (h.r.abv M hM _ hj) ((hM.2 i hr _ hkk.1).trans (Sub.or (h.r.abv M hM i hr) (.refl _)))
    ·dsimp only;rw[hget j e];exact h.r.abv M hM j hj
  have:=VN hr h1.1 (fun k' hk'=>hk k' (w2c _ hk')) h1.2
  grind
theorem WY (hnx: ∀i,i<n→ ∀k∈nx i,k<n) {led:List Bool} (hled: ∀i,led.getD i false=true↔Rch nx i) {m:List Nat} (h:VI nx n W p0 m): ∀j,j≤n→VK nx n W p0 m j (livR nx W led m j)
 |0,_=>⟨h,w08 _,fun _=>⟨rfl,fun i hi=>absurd hi (w34 _)⟩,fun e=>by cases e⟩
 |j+1,hj=>by
  have ih:=WY hnx hled h j (by omega)
  unfold livR livI
  split
  ·rename_i hs
   have hr:=(hled j).1 hs
   obtain⟨q1,q3⟩:=VN nx n W p0 hr ih (ks:=nx j) (done:=[]) (fun k hk=>⟨hk,hnx j (by omega) k hk⟩) (fun _ k hk=>by cases hk)
   refine⟨q1.r,q1.le,fun e=>⟨(q1.eq e).1,fun i hi=> ?_⟩,q1.lt⟩
   by_cases hij:i=j
   ·grind
   ·exact(q1.eq e).2 i (by omega)
  ·rename_i hs
   refine⟨ih.r,ih.le,fun e=>⟨(ih.eq e).1,fun i hi hri=> ?_⟩,ih.lt⟩
   by_cases hij:i=j
   ·grind
   ·exact(ih.eq e).2 i (by omega) hri
theorem z84 (hn:0<n) (hnx: ∀i,i<n→ ∀k∈nx i,k<n) {i:Nat} (h:Rch nx i):i<n:=by
 induction h with
 |zero=>exact hn
 |step _ hk ih=>exact hnx _ ih _ hk
theorem z6x (hn:0<n) (hnx: ∀i,i<n→ ∀k∈nx i,k<n) {led:List Bool} (hled: ∀i,led.getD i false=true↔Rch nx i) {m:List Nat} (h:VI nx n W p0 m) (e:(livR nx W led m n).2=false) (i:Nat):(if led.getD i false then m.getD i 0 else 0)=mskOf nx W p0 i:=by
 have hK:=(WY nx n W p0 hnx hled h n (w08 _)).eq e
 refine Great.is nx W p0 (o:=fun i=>if led.getD i false then m.getD i 0 else 0) ⟨fun j hj=> ?_,⟨?_,fun j hj k hk=> ?_⟩,fun M hM j hj=> ?_⟩ i
 ·grind
 ·dsimp only;rw[if_pos ((hled 0).2 .zero)];exact h.p
 ·dsimp only;rw[if_pos ((hled j).2 hj),if_pos ((hled k).2 (.step hj hk))]
  exact hK.2 j (z84 nx n hn hnx hj) hj k hk
 ·dsimp only;rw[if_pos ((hled j).2 hj)];exact h.abv M hM j hj
theorem Sol.le {M:Nat→Nat} (h:Sol nx W p0 M) {a:Nat} (hp:Sub p0 a) (hw: ∀i,Sub (W i) a) {i:Nat} (hr:Rch nx i):Sub (M i) a:=by
 induction hr with
 |zero=>exact h.1.trans hp
 |step hr hk ih=>exact(h.2 _ hr _ hk).trans (z8a ih (hw _))
theorem VI.start (hn:0<n) (hnx: ∀i,i<n→ ∀k∈nx i,k<n) {a:Nat} (hp:Sub p0 a) (hw: ∀i,Sub (W i) a) (ha:a<65536):VI nx n W p0 ((List.replicate n a).set 0 p0):=by
 have hl:0<(List.replicate n a).length:=by simpa using hn
 have h0:((List.replicate n a).set 0 p0).getD 0 0=p0:=getD_set_eq hl
 have hp':=hp.le
 refine⟨by simp,by rw[h0];exact .refl _,fun M hM j hj=> ?_,fun j=> ?_⟩
 ·by_cases e:j=0
  ·subst e;rw[h0];exact hM.1
  ·rw[getD_set_ne (Ne.symm e)]
   intro s hs
   have:=hM.le nx W p0 hp hw hj s hs
   simp only[w03,List.getElem?_replicate]
   split
   ·exact this
   ·rename_i hjn
    exact absurd (z84 nx n hn hnx hj) hjn
 ·grind
end
end Go.Vs
end
section
namespace Go.Proofs.W
open Go.Vs
def us (s:List Nat):List AV:=s.map fun n:Nat=> .int .u64 (n:Int)
theorem Yu (s:List Nat):(us s).length=s.length:=by simp[us]
theorem qj {s:List Nat} {j:Nat} (h:j<s.length):takeV false 1 ((us s).drop j)=some (.int .u64 ((s.getD j 0:Nat):Int)):=by
 refine li _ _ ?_
 rw[List.head?_drop]
 simp[us,w03,h]
theorem Ys {s:List Nat} {j:Nat} (v:Nat) (h:j<s.length):(us s).take j++[.int .u64 (v:Int)]++(us s).drop (j+1)=us (s.set j v):=by
 unfold us
 rw[List.map_set,w5c,if_pos (by simpa using h)];simp
theorem z1u (n:Nat):flatRep [.int .u64 0] n=us (List.replicate n 0):=by
 induction n with
 |zero=>rfl
 |succ n ih=>rw[flatRep,ih,w44];rfl
theorem TG (l l' k:Nat) (s:List Nat):shiftAll l l' k (us s)=us s:=by
 induction s with
 |nil=>rfl
 |cons b r ih=>simp only[us,w30,shiftAll,AV.shift] at ih⊢;rw[ih]
theorem Xe (a:Nat) (h:a<65536):(BitVec.ofInt 64 (a:Int)).toNat=a:=by
 grind
theorem z3d {a b:Nat} (ha:a<65536) (hb:b<65536):evBits .or .u64 (a:Int) (b:Int)=some (.int .u64 ((a|||b:Nat):Int)):=by
 have h:=T2 ha hb
 unfold evBits
 show some (AV.int .u64 (IntKind.u64.wrap (((BitVec.ofInt 64 (a:Int)|||BitVec.ofInt 64 (b:Int):BitVec 64).toNat:Nat):Int)))=_
 rw[BitVec.toNat_or,Xe a ha,Xe b hb,za (by omega) (by omega)]
theorem z4I {a b:Nat} (ha:a<65536) (hb:b<65536):evBits .and .u64 (a:Int) (b:Int)=some (.int .u64 ((a&&&b:Nat):Int)):=by
 have h:=z8m (b:=b) ha
 unfold evBits
 show some (AV.int .u64 (IntKind.u64.wrap (((BitVec.ofInt 64 (a:Int)&&&BitVec.ofInt 64 (b:Int):BitVec 64).toNat:Nat):Int)))=_
 rw[BitVec.toNat_and,Xe a ha,Xe b hb,za (by omega) (by omega)]
theorem pow16 {s:Nat} (h:s<16):2^s<65536:=Nat.pow_lt_pow_right (by decide) h
theorem z8J {s:Int} (h:0≤s∧s<16):evShift .shl .u64 1 s=some (.int .u64 ((2^s.toNat:Nat):Int)):=by
 have hp:=pow16 (s:=s.toNat) (by omega)
 unfold evShift
 rw[if_neg (by omega)]
 simp only[IntKind.bits,Int.one_mul]
 rw[w0c (by omega)]
 have:((2:Int)^s.toNat)=((2^s.toNat:Nat):Int):=by simp
 rw[this]
 generalize 2^s.toNat=p at*
 rw[za (by omega) (by omega)]
theorem z3c {s:Int} (h:0≤s∧s≤16):evShift .shl .u64 1 s=some (.int .u64 ((2^s.toNat:Nat):Int)):=by
 have hp:2^s.toNat≤65536:=w4a (by decide) (show s.toNat≤16 by omega)
 unfold evShift
 rw[if_neg (by omega)]
 simp only[IntKind.bits,Int.one_mul]
 rw[w0c (by omega)]
 have:((2:Int)^s.toNat)=((2^s.toNat:Nat):Int):=by simp
 rw[this]
 generalize 2^s.toNat=p at*
 rw[za (by omega) (by omega)]
theorem z4H {a:Nat} {s:Int} (h:0≤s∧s≤16):evShift .shr .u64 (a:Int) s=some (.int .u64 ((a>>>s.toNat:Nat):Int)):=by
 unfold evShift
 rw[if_neg (by omega)]
 simp only[IntKind.bits]
 rw[w0c (by omega)]
 congr 2
 have:((2:Int)^s.toNat)=((2^s.toNat:Nat):Int):=by simp
 rw[this,Nat.shiftRight_eq_div_pow]
 grind
def maskK (l:List Int) (k:Nat):Nat:=(l.take k).foldl (fun m s=>m|||2^s.toNat) 0
def maskN (l:List Int):Nat:=maskK l l.length
theorem W9 {l:List Int} {k:Nat} (h:k<l.length):maskK l (k+1)=maskK l k|||2^(l[k]).toNat:=by
 unfold maskK;rw[w0f h,List.foldl_append];rfl
theorem YB {l:List Int} {n:Nat} (h: ∀s∈l,0≤s∧s<n): ∀k,k≤l.length→maskK l k<2^n
 |0,_=>by unfold maskK;simp;exact Nat.two_pow_pos n
 |k+1,hk=>by
  rw[W9 (by omega)]
  have:=h _ (w04 (show k<l.length by omega))
  exact Nat.or_lt_two_pow (YB h k (by omega)) (Nat.pow_lt_pow_right (by decide) (by omega))
def Low (l:List Int):Prop:= ∀s∈l,0≤s∧s<16
theorem WV {l:List Int} (h:Low l) {k:Nat} (hk:k≤l.length):maskK l k<65536:=YB (n:=16) (fun s hs=>by have:=h s hs;omega) k hk
theorem z7r (l:List Int) (x:AV) (hx:IsSl IsI 1 l x) (hl:Low l) (m:Mem):Okv tab 354 [x] m (.int .u64 (maskN l:Nat)):=by
 refine zp (tT X2) ?_
 obtain⟨stk,cur,nx,live,fl⟩:=m
 simp only[X2,go_sem,G6,G8,hx.len]
 refine zg (α:=Nat) (fun k σ=>k≤l.length∧ ∃nz,heads [3,6,7,8] 0 σ=⟨tmps 18 [(3,.int .u64 (maskK l k:Nat)),(6,x),(7,.int .i64 l.length),(8,.int .i64 k)],⟨stk++[cur],[],nz,[]::live,fl⟩⟩) (fun k=>l.length-k) 0 ?_ ?_
 ·refine⟨w0e _,?_⟩
  simp only[go_sem,G6,G7]
  exact⟨_,rfl⟩
 ·rintro k σ ⟨hk,nz,hσ⟩
  rw[hσ]
  clear hσ σ
  dsimp only at hk⊢
  by_cases h:k<l.length
  ·have e1:nth x k= .int .i64 l[k]:=hx.nth h
   have hsucc:=zq h hx.max
   have hb:=hl _ (w04 h)
   simp only[go_sem,G6,G7,G8,w02,h,hx.at _ h,e1,z8J hb,z3d (WV hl hk) (pow16 (s:=(l[k]).toNat) (by omega)),hsucc]
   refine⟨k+1,by omega,h,nz,?_⟩
   rw[W9 h]
  ·have:k=l.length:=by omega
   subst this
   simp only[go_sem,G6,G7,G8,w02,h]
   rw[z4 rfl rfl,z5]
   exact⟨⟨_,rfl⟩,rfl⟩
theorem zbZ {c:UInt8} (h:rd c=true):hi c=15:=by
 unfold rd at h
 simp only[w2f,beq_iff_eq] at h
 rcases h with rfl|rfl<;>rfl
theorem zbY {c:UInt8} (h:wt c=true):hi c=15:=by
 unfold wt at h
 simp only[w2f,beq_iff_eq] at h
 rcases h with rfl|rfl<;>rfl
theorem z1P {x:DInstr} (hx:InstrP x) (hw:WfI x):Low (rds x):=by
 obtain⟨a,b,c,hs,_⟩:=hx
 have hx:InstrP x:=⟨a,b,c,hs,by assumption⟩
 intro s h
 unfold rds rdsk at h
 simp only[w42,List.mem_filter,w4d,w09,decide_eq_true_eq] at h
 obtain⟨k,⟨hk,h1,h2⟩,rfl⟩:=h
 have:=(jC hs hx hw hk).2.1
 unfold fitsK at this
 rw[zbZ h1] at this;omega
theorem WX {x:DInstr} (hx:InstrP x) (hw:WfI x):Low (wrs x):=by
 obtain⟨a,b,c,hs,_⟩:=hx
 have hx:InstrP x:=⟨a,b,c,hs,by assumption⟩
 intro s h
 unfold wrs wrsk at h
 simp only[w42,List.mem_filter,w4d,w09,decide_eq_true_eq] at h
 obtain⟨k,⟨hk,h1,h2⟩,rfl⟩:=h
 have:=(jC hs hx hw hk).2.1
 unfold fitsK at this
 rw[zbY h1] at this;omega
theorem z6a (x:DInstr) (hw:WfI x) (hx:InstrP x) (m:Mem):Okv tab 386 [.agg [.int .u8 x.op,.int .i64 x.a,.int .i64 x.b,.int .i64 x.c]] m (.int .u64 (maskN (wrs x):Nat)):=by
 refine zp (tT ve) ?_
 obtain⟨stk,cur,nx,live,fl⟩:=m
 have hl:=WX hx hw
 simp only[ve,go_sem,G3,G6,G8]
 refine(Vw x hw hx _).xv fun r ts n1 ⟨y1,y2,hr,ho⟩=> ?_
 subst hr
 have hy:=ho.r.sl (by have:=Z5 x 3;unfold wrs;omega)
 generalize wrs x=l at*
 simp only[go_sem,G6,G8]
 refine zg (α:=Nat) (fun k σ=>k≤l.length∧ ∃nz e,heads [4,5,6] 1 σ=⟨tmps 26 [(4,y2),(5,.int .u64 (maskK l k:Nat)),(6,.int .i64 k)],⟨stk++[cur],[⟨nx,[.int .u8 x.op,.int .i64 x.a,.int .i64 x.b,.int .i64 x.c]⟩],nz,e::live,fl⟩⟩) (fun k=>l.length-k) 0 ?_ ?_
 ·refine⟨w0e _,?_⟩
  cases ts<;>simp only[go_sem,G6,G7]<;>exact⟨_,_,rfl⟩
 ·rintro k σ ⟨hk,nz,e,hσ⟩
  rw[hσ]
  clear hσ σ
  dsimp only at hk⊢
  by_cases h:k<l.length
  ·have e1:nth y2 k= .int .i64 l[k]:=hy.nth h
   have hsucc:=zq h hy.max
   have hb:=hl _ (w04 h)
   simp only[go_sem,G6,G7,G8,w02,h,hy.len,hy.at _ h,e1,z8J hb,z3d (WV hl hk) (pow16 (s:=(l[k]).toNat) (by omega)),hsucc]
   refine⟨k+1,by omega,h,nz,e,?_⟩
   rw[W9 h]
  ·have:k=l.length:=by omega
   subst this
   simp only[go_sem,G6,G7,G8,w02,h,hy.len]
   rw[z4 rfl rfl,z5]
   exact⟨⟨_,rfl⟩,rfl⟩
theorem z5f (n:Int) (h:0≤n∧n≤16) (m:Mem):Okv tab 385 [.int .i64 n] m (.int .u64 ((2^n.toNat-1:Nat):Int)):=by
 refine zp (tT uh) ?_
 obtain⟨stk,cur,nx,live,fl⟩:=m
 have hp:2^n.toNat≤65536:=w4a (by decide) (show n.toNat≤16 by omega)
 have h1:1≤2^n.toNat:=Nat.one_le_two_pow
 have hw:IntKind.u64.wrap (((2^n.toNat:Nat):Int)-1)=((2^n.toNat-1:Nat):Int):=by rw[za (by omega) (by omega)];omega
 simp only[uh,go_sem,G6,G8,z3c h,hw]
 rw[z4 rfl rfl,z5]
 simp
theorem z7f {S':List (List Blk)} {b0 b1 b2:Blk} {st nx fl n:Nat} {cs:List AV} {rest:List Blk} {live:List (List Nat)} {v:AV} (hv:v.cells=[v]) (hn:n≤cs.length) (hfl:fl≤S'.length) (hb:(n+1)*8≤140737488355328):
  evApp ⟨S',b0::b1::b2::⟨st,cs⟩::rest,nx,live,fl⟩ 1 8 (.grow 1 S'.length 3 st n) (.list 1 .full [v])=some (.grow 1 S'.length 3 nx (n+1),⟨S',b0::b1::b2::⟨nx,cs.take n++[v]⟩::rest,nx+1,live,fl⟩):=by
 unfold evApp
 rw[zh]
 have hblk:Mem.blk ⟨S',b0::b1::b2::⟨st,cs⟩::rest,nx,live,fl⟩ S'.length 3 st=some cs:=by simp[Mem.blk,Mem.row]
 simp only[hblk]
 rw[if_pos (by simp[hn,hfl];omega)]
 simp[Mem.put,hv]
theorem z9f {lv:Nat} {a0 a1 a2 a3 b0 b1 b2 b3:Blk} {r:List Blk} {y:AV} {l:List Nat} (h:LI 4 lv (a0::a1::a2::a3::r) y l):LI 4 lv (b0::b1::b2::b3::r) y l:=by
 rcases h with h|⟨k,st,cs,h1,h2,h3,h4,h5⟩
 ·exact .inl h
 ·obtain⟨k,rfl⟩: ∃q,k=q+4:=⟨k-4,by omega⟩
  exact .inr ⟨k+4,st,cs,h1,h2,h3,h4,h5⟩
theorem take4 {α:Type} (a b c e:α) (l:List α):List.take (l.length+4) (a::b::c::e::l)=a::b::c::e::l:=w35 (w08 _)
theorem Q3 {l:List Nat} {i:Nat} (h:i<l.length):l.getD i 0=l[i]:=by rw[w03,w1d h];rfl
theorem z65 (d:DImage) (f:DFunc) (h:FunP d f) (y:AV) (hy:NV d f y) (m:Mem) (hf:m.floor≤m.stk.length+1):
  CallSc 301 [y] f.code.length (GoodF d f) (pb (ScrP d f)) (fun cs=>cs=us ((labs d f).map (sumB d.types))) m:=by
 have hy':=hy
 obtain⟨ty,tx,fs,w0,w1,w2,w3,rfl,h0,h1,h2,q0,q1,q2,q3⟩:=hy
 refine z0U (tT xZ) ?_
 obtain⟨stk,cur,nx,live,fl⟩:=m
 dsimp only at hf
 have hf':fl≤(stk++[cur]).length+1:=by simp;omega
 have hAf:=fun x hx hw hN l z hz hin hlen c n lv fl'=>zaY d h.img h.ty _ _ hy' h.s x hx hw hN l z hz hin hlen ⟨stk++[cur],c,n,lv,fl'⟩
 have hNx:=fun i hi c n lv=>zb4 f.code w1 q1 h.c h.o i hi ⟨stk++[cur],c,n,lv,fl⟩ hf'
 have hby:=fun ts x hx hin hlen m=>(WB d h.ty f _ hy' ts x hx hin hlen m).eq
 have hln:=h.c.len
 have hnx:=fun i hi=>VF h.c h.o (i:=i) hi
 have hSC:ScrP d f↔GoodF d f∧LastS (nxt f.code) (stF d f) f.code.length:=Iff.rfl
 have hstok:=fun i hi l l' hl hs=>z7R h (i:=i) hi (l:=l) (l':=l') hl hs
 have hstF: ∀i l,stF d f i l=stS d f (inA f.code i) l:=fun _ _=>rfl
 have hNear:=h.n
 have hC:=h.c
 generalize hn:f.code.length=n at*
 generalize hst:stF d f=st at*
 generalize hnxt:nxt f.code=nxf at*
 have hl0:0<(List.replicate n false).length:=by simp;omega
 have hst0:=tg (s:=List.replicate n false) (j:=0) true hl0
 have hbl0:0+1≤(bools (List.replicate n false)).length:=by rw[th];omega
 have hix0:idx (.int .i64 0) n=some 0:=zX .i64 0 n (by omega)
 have hq1l:evLen w1=some (.int .i64 n):=by rw[←hn];exact q1.len
 simp only[w1a,w2e,w1f] at hst0 hbl0
 simp only[xZ,go_sem,G3,G6,G8,hq1l,xA (s:=1) (bytes:=24) (n:=n) (z:=[.nils]) (by omega) (by omega) rfl,xA (s:=1) (bytes:=1) (n:=n) (z:=[.bool false]) (by omega) (by omega) rfl,Zl,z7,hix0,w11,hbl0,hst0,evLitB,w2d,List.flatMap_nil]
 have hT0:InT d.types []:=fun t ht=>by cases ht
 have hGF:GoodF d f↔GoodS nxf st n:=by unfold GoodF;rw[hn,hst,hnxt]
 have hlabs: ∀out:List (List Int),out.length=n→(∀i,out.getD i []=labOf nxf st i)→out=labs d f:=fun out h1 h2=>z5F (by rw[hn];exact h1) (by rw[hst,hnxt];exact h2)
 have hbox: ∀c:List Blk,(⟨nx,[ty,tx,fs,.str f.name,.int .i64 f.params,.int .i64 f.result,w0,w1,w2,w3]⟩::c:List Blk)=⟨nx,[ty,tx,fs,.str f.name,.int .i64 f.params,.int .i64 f.result,w0,w1,w2,w3]⟩::c:=fun _=>rfl
 refine zg (α:=List Bool×List (List Int)×List Nat) (fun z σ=>SJ nxf n st (InT d.types) z.1 z.2.1 z.2.2∧ ∃nz e cs os st3,lists z.2.1 cs∧z.2.2.length≤os.length∧os.take z.2.2.length=ints z.2.2∧heads [1,4,5,6,7] 4 σ=⟨tmps 136 [(1,.ptr (stk++[cur]).length 0 nx 0),(4,w1),(5,.arr (stk++[cur]).length 1 (nx+1) 0 n),(6,.arr (stk++[cur]).length 2 (nx+1+1) 0 n),(7,.grow 1 (stk++[cur]).length 3 st3 z.2.2.length)],⟨stk++[cur],[⟨nx,[ty,tx,fs,.str f.name,.int .i64 f.params,.int .i64 f.result,w0,w1,w2,w3]⟩,⟨nx+1,cs⟩,⟨nx+1+1,bools z.1⟩,⟨st3,os⟩],nz,e::live,fl⟩⟩) (fun z=>2*unm z.1+z.2.2.length) ((List.replicate n false).set 0 true,List.replicate n [],[0]) ?_ ?_
 ·refine⟨SJ.start nxf n st (InT d.types) (by omega) hT0,?_⟩
  simp only[go_sem,G6,G7]
  exact⟨_,_,_,_,_,z0D n,by simp,rfl,rfl⟩
 ·rintro⟨kn0,out0,op⟩ σ ⟨hJ,nz,e,cs,os,st3,hcs,hos,htk,hσ⟩
  rw[hσ]
  clear hσ σ
  dsimp only at hJ hcs hos htk⊢
  rcases List.eq_nil_or_concat op with rfl|⟨op,i,rfl⟩
  ·obtain⟨hG,hlab⟩:=hJ.done
   have hol:=hJ.r.r.len2
   have hout:=hlabs out0 hol hlab
   have hJt:=hJ.r.t
   have hJl:=hJ.r.len
   subst hout
   simp only[go_sem,G3,G6,G7,G8,ZG,w46,show((((0:Nat):Int))>0)=False from eq_false (by decide),hq1l,xA (s:=1) (bytes:=8) (n:=n) (z:=[.int .u64 0]) (by omega) (by omega) rfl]
   have hel:evLen (.arr (stk++[cur]).length 1 (nx+1) 0 n)=some (.int .i64 n):=rfl
   simp only[go_sem,G3,hel]
   refine zg (α:=Nat) (fun k σ=>k≤n∧ ∃so nz e vs,vs.length=n∧(∀j,j<k→vs.getD j 0=sumB d.types ((labs d f).getD j []))∧heads [1,4,5,15,106,107,108] 5 σ=⟨tmps 136 [(1,.ptr (stk++[cur]).length 0 nx 0),(4,w1),(5,.arr (stk++[cur]).length 1 (nx+1) 0 n),(15,.arr (stk++[cur]).length 4 so 0 n),(106,.arr (stk++[cur]).length 1 (nx+1) 0 n),(107,.int .i64 n),(108,.int .i64 k)],⟨stk++[cur],[⟨nx,[ty,tx,fs,.str f.name,.int .i64 f.params,.int .i64 f.result,w0,w1,w2,w3]⟩,⟨nx+1,cs⟩,⟨nx+1+1,bools kn0⟩,⟨st3,os⟩,⟨so,us vs⟩],nz,e::live,fl⟩⟩) (fun k=>n-k) 0 ?_ ?_
   ·refine⟨w0e _,?_⟩
    simp only[go_sem,G6,G7]
    exact⟨_,_,_,List.replicate n 0,by simp,fun j hj=>absurd hj (w34 _),by rw[z1u];rfl⟩
   ·clear hJ hos htk
    rintro k σ ⟨hk,so,nz,e,vs,hvl,hvs,hσ⟩
    rw[hσ]
    clear hσ σ
    dsimp only at hk⊢
    by_cases hkn:k<n
    ·have hixk:idx (.int .i64 (k:Int)) n=some k:=zX .i64 k n hkn
     obtain⟨yk,hyk,hyks⟩:=tO hcs (k:=k) (by omega)
     have hT1:=hJt k
     have hT2:=hJl k
     have hb:=fun m=>hby _ _ hyks hT1 (by omega) m
     have hsu:IntKind.i64.wrap ((k:Int)+1)=((k+1:Nat):Int):=by rw[z6 (by omega) (by omega)];omega
     have hB1:sumB d.types ((labs d f).getD k [])≤264*1001:=Nat.le_trans (WG h.ty hT1 _ (w08 _)) (Nat.mul_le_mul_left _ (by omega))
     have hwu:IntKind.u64.wrap ((sumB d.types ((labs d f).getD k []):Nat):Int)=((sumB d.types ((labs d f).getD k []):Nat):Int):=za (by omega) (by omega)
     have hus:=Ys (s:=vs) (j:=k) (sumB d.types ((labs d f).getD k [])) (by omega)
     have hubl:k+1≤(us vs).length:=by rw[Yu];omega
     simp only[go_sem,G3,G6,G7,G8,w02,hkn,z7,hixk,w11,hyk,hb,show((0:Int) !=0)=false from rfl,hsu,hwu,hus,hubl]
     refine⟨k+1,by omega,hkn,so,_,e,vs.set k (sumB d.types ((labs d f).getD k [])),by simpa using hvl,fun j hj=> ?_,rfl⟩
     grind
    ·have hke:k=n:=by omega
     subst hke
     have hsub:IntKind.i64.wrap ((k:Int)-1)=((k-1:Nat):Int):=by rw[z6 (by omega) (by omega)];omega
     have hixl:idx (.int .i64 ((k-1:Nat):Int)) k=some (k-1):=zX .i64 _ _ (by omega)
     obtain⟨yl,hyl,hyls⟩:=tO hcs (k:=k-1) (by omega)
     simp only[go_sem,G6,G7,G8,w02,hkn,hq1l,hsub,z7,hixl,w11,hyl,hyls.len]
     have hb:((((labs d f).getD (k-1) []).length:Int)==0)=pb (ScrP d f):=by
      refine Za ?_
      rw[hSC,hGF,beq_iff_eq,z2V nxf st hG,hlab (k-1)]
      refine⟨fun h=>⟨hG,w2a (by omega)⟩,fun h=>by rw[h.2];rfl⟩
     rw[hb]
     refine z5O (cs:=us vs) rfl (TG _ _ _ _) ?_
     have hve:vs=(labs d f).map (sumB d.types):=by
      apply List.ext_getElem
      ·grind
      ·grind
     rw[hve]
  ·rw[List.concat_eq_append] at*
   obtain⟨hi,hki⟩:=hJ.o i (by simp)
   have hb0:=hJ.b
   have hnl:(op++[i]).length=op.length+1:=by simp
   rw[hnl] at hos htk hb0
   have hgt:(((op.length+1:Nat):Int)>0)=True:=eq_true (by omega)
   have hsub:IntKind.i64.wrap (((op.length+1:Nat):Int)-1)=((op.length:Nat):Int):=by rw[z6 (by omega) (by omega)];omega
   have hix:idx (.int .i64 ((op.length:Nat):Int)) (op.length+1)=some op.length:=zX .i64 _ _ (by omega)
   have hld:takeV false 1 (os.drop op.length)=some (.int .i64 (i:Nat)):=by
    have h1:os.take (op++[i]).length=ints (op++[i]):=by rw[hnl];exact htk
    have:=kz h1 (by rw[hnl];exact hos) (j:=op.length) (by simp)
    grind
   have hbd:bound (some (.int .i64 ((op.length:Nat):Int))) (op.length+1) (op.length+1)=some op.length:=by
    unfold bound;simp only;rw[if_pos (by omega)];simp
   have htk2:os.take op.length=ints op:=by
    have:(os.take (op.length+1)).take op.length=(ints (op++[i])).take op.length:=by rw[htk]
    rw[List.take_take,w0c (by omega)] at this
    rw[this];simp[ints]
   have hic:i<f.code.length:=by omega
   have hixi:idx (.int .i64 (i:Int)) n=some i:=zX .i64 i n hi
   obtain⟨c1,c2,c3⟩:=hC.at hic
   obtain⟨yi,hyi,hyis⟩:=tO hcs (k:=i) (by rw[hJ.r.r.len2];exact hi)
   have htl:=hJ.r.len i
   simp only[go_sem,G3,G6,G7,G8,ZG,hnl,hgt,hsub,Vb,hix,w11,hld,Va,hbd,z7,hixi,hyi,q1.at .i64 hic,q1.inA hic]
   refine(hAf _ c1 c2 (hNear i hi) _ _ hyis (hJ.r.t i) (by omega) _ _ _ _).xw fun r ts n1 ⟨q,hr,hq⟩=> ?_
   subst hr
   have hlive: ∃e',pushToks ts (e::live)=e'::live:=by cases ts<;>exact⟨_,rfl⟩
   obtain⟨e',he'⟩:=hlive
   simp only[he',←hstF]
   cases hs:st i (out0.getD i []) with
   |none=>
    have hng: ¬GoodS nxf st n:=XP nxf st hJ.r.r hki hs
    obtain⟨y,bs,k1,hN,hLI⟩:=hNx i hi [⟨nx,[ty,tx,fs,.str f.name,.int .i64 f.params,.int .i64 f.result,w0,w1,w2,w3]⟩,⟨nx+1,cs⟩,⟨nx+1+1,bools kn0⟩,⟨st3,os⟩] n1 (e'::live)
    simp only[go_sem,G6,G8,Option.isSome_none,hN]
    rw[zS fun hh=>hng (hGF.1 (hSC.1 hh).1)]
    exact T6 fun hh=>hng (hGF.1 hh)
   |some l=>
    have hql:IsSl IsI 1 l q:=hq l (by rw[←hstF];exact hs)
    have hlt:=hstok i hi _ _ (hJ.r.t i) hs
    have hSK:=hJ.pop nxf n st (InT d.types) hs hlt
    obtain⟨y,bs,k1,hN,hLI⟩:=hNx i hi [⟨nx,[ty,tx,fs,.str f.name,.int .i64 f.params,.int .i64 f.result,w0,w1,w2,w3]⟩,⟨nx+1,cs⟩,⟨nx+1+1,bools kn0⟩,⟨st3,os⟩] n1 (e'::live)
    simp only[w59,w46,w1f,G3,w26,w2e] at hN hLI
    have hyl:=hLI.len
    simp only[go_sem,G6,G8,Option.isSome_some,hN,show((0:Int) !=0)=false from rfl,hyl]
    refine zg (α:=Nat×List Bool×List (List Int)×List Nat) (fun z σ=>(z.1≤(nxf i).length∧SK nxf n st (InT d.types) i l ((nxf i).take z.1) (2*unm kn0+(op++[i]).length) z.2.1 z.2.2.1 z.2.2.2)∧ ∃nz cs os st3,lists z.2.2.1 cs∧z.2.2.2.length≤os.length∧os.take z.2.2.2.length=ints z.2.2.2∧LI 4 (stk++[cur]).length (⟨nx,[ty,tx,fs,.str f.name,.int .i64 f.params,.int .i64 f.result,w0,w1,w2,w3]⟩::⟨nx+1,cs⟩::⟨nx+1+1,bools z.2.1⟩::⟨st3,os⟩::bs) y (nxf i)∧heads [1,4,5,6,7,9,71,72,73] (bs.length+4) σ=⟨tmps 136 [(1,.ptr (stk++[cur]).length 0 nx 0),(4,w1),(5,.arr (stk++[cur]).length 1 (nx+1) 0 n),(6,.arr (stk++[cur]).length 2 (nx+1+1) 0 n),(7,.grow 1 (stk++[cur]).length 3 st3 z.2.2.2.length),(9,q),(71,y),(72,.int .i64 (nxf i).length),(73,.int .i64 z.1)],⟨stk++[cur],⟨nx,[ty,tx,fs,.str f.name,.int .i64 f.params,.int .i64 f.result,w0,w1,w2,w3]⟩::⟨nx+1,cs⟩::⟨nx+1+1,bools z.2.1⟩::⟨st3,os⟩::bs,nz,e'::live,fl⟩⟩) (fun z=>(nxf i).length-z.1) (0,kn0,out0,op) ?_ ?_
    ·refine⟨⟨w0e _,hSK⟩,?_⟩
     simp only[go_sem,G6,G7,take4]
     grind
    ·clear hcs hki hyi hyis hs htl hJ hSK hos htk htk2 hld hLI hb0
     rintro⟨j,kn,out,op1⟩ σ ⟨⟨hj,hSK⟩,nz,cs,os,st3,hcs,hos,htk,hLI,hσ⟩
     rw[hσ]
     clear hσ σ
     dsimp only at hj hSK hcs hos htk hLI⊢
     have hkl:=hSK.r.r.len1
     have hol:=hSK.r.r.len2
     have hob:=hSK.b
     by_cases hjn:j<(nxf i).length
     ·have hkn:=hnx i hi (nxf i)[j] (w04 hjn)
      have hmem:(nxf i)[j]∈nxf i:=w04 hjn
      have hts:(nxf i).take (j+1)=(nxf i).take j++[(nxf i)[j]]:=w0f hjn
      obtain⟨a,ha,hat⟩:=z9g hLI hjn (nx:=nz) (fl:=fl) (live:=e'::live)
      generalize hK:(nxf i)[j]=k at*
      have hlen2:(nxf i).length≤2:=by rw[←hnxt];exact WR _ _
      have hsj:IntKind.i64.wrap ((j:Int)+1)=((j+1:Nat):Int):=by rw[z6 (by omega) (by omega)];omega
      have hixk:idx (.int .i64 (k:Nat)) n=some k:=zX .i64 k n hkn
      have hgk:=xN (s:=kn) (j:=k) (by omega)
      obtain⟨yk,hyk,hyks⟩:=tO hcs (k:=k) (by omega)
      have hltj:((j:Int)<((nxf i).length:Nat))=True:=eq_true (by omega)
      have hSI:=fun m=>(Zo _ _ _ _ hyks hql m).eq
      simp only[go_sem,G6,G7,G8,hltj,ha]
      refine z5X hat ?_
      cases hkk:kn.getD k false
      ·rw[hkk] at hgk
       have hst1:=tg (s:=kn) (j:=k) true (by omega)
       have hbl1:k+1≤(bools kn).length:=by rw[th];omega
       have hbl2:k+1≤cs.length:=by rw[hcs.1];omega
       have happ:=fun b2=>z7f (S':=stk++[cur]) (b0:=⟨nx,[ty,tx,fs,.str f.name,.int .i64 f.params,.int .i64 f.result,w0,w1,w2,w3]⟩) (b1:=⟨nx+1,cs⟩) (b2:=b2) (st:=st3) (nx:=nz) (fl:=fl) (n:=op1.length) (cs:=os) (rest:=bs) (live:=e'::live) (v:= .int .i64 (k:Nat)) rfl hos (by simp;omega) (by omega)
       simp only[go_sem,G6,G8,z7,hixk,w11,hgk,happ,hql.refs_cells,hql.one,hbl2,hbl1,hst1,hsj,take4]
       refine⟨(j+1,kn.set k true,out.set k l,op1++[k]),by dsimp only;omega,⟨hjn,?_⟩,nz+1,cs.take k++[q]++cs.drop (k+1),os.take op1.length++[.int .i64 (k:Nat)],nz,z0C hcs (by omega) hql,?_,?_,z9f hLI,?_⟩
       ·dsimp only
        rw[hts]
        exact hSK.new nxf n st (InT d.types) hkn hmem hkk
       ·grind
       ·dsimp only
        simp only[w15,w29]
        rw[w35 (by simp;omega),htk];simp[ints]
       ·simp
      ·rw[hkk] at hgk
       by_cases heq:out.getD k []=l
       ·have hd:decide (out.getD k []=l)=true:=decide_eq_true heq
        simp only[go_sem,G6,G8,z7,hixk,w11,hgk,hyk,hSI,hd,hsj,take4]
        refine⟨(j+1,kn,out,op1),by dsimp only;omega,⟨hjn,?_⟩,?_⟩
        ·dsimp only
         rw[hts]
         exact hSK.same nxf n st (InT d.types) hkk heq
        ·grind
       ·have hd:decide (out.getD k []=l)=false:=decide_eq_false heq
        simp only[go_sem,G6,G8,z7,hixk,w11,hgk,hyk,hSI,hd]
        have hng: ¬GoodS nxf st n:=WT nxf st hSK.r.r hSK.hi hSK.hs hmem hkk heq
        rw[zS fun hh=>hng (hGF.1 (hSC.1 hh).1)]
        exact T6 fun hh=>hng (hGF.1 hh)
     ·have hje:j=(nxf i).length:=by omega
      subst hje
      rw[w0a] at hSK
      obtain⟨h1,h2⟩:=hSK.fin nxf n st (InT d.types)
      simp only[go_sem,G6,G7,G8,show(((nxf i).length:Nat):Int)<((nxf i).length:Nat)↔False from⟨fun h=>by omega,False.elim⟩]
      exact⟨(kn,out,op1),by rw[hnl] at h2;exact h2,h1,_,_,_,_,_,hcs,hos,htk,rfl⟩
end Go.Proofs.W
end
section
namespace Go.Proofs.W
open Go.Vs
attribute [local go_sem high] zm zT
attribute [local go_sem ↓] w06 w0d
attribute [local go_sem low] Yc Yt Yf Yut Yuf yy yz yw yx
attribute [local go_sem 2000] zK
attribute [local go_sem] x6 x5 x9 x8 zR zu y7 zP zW zt yq yn ym hd kep yj w02 AV.bool.injEq AV.int.injEq not_true_eq_false not_false_eq_true true_implies false_implies and_true true_and implies_true zl zI zH zk zJ zw zc z8 zj zB zA zi zC zy zb z9 w07 zD zE zZ w18 evShift IntKind.bits zL zF zG z6 za zQ zx w0c yu yr allLen zd AV.tup.injEq List.cons.injEq AV.agg.injEq zV zU evBuild yo zN zn zM eqC0 eqC1 eqC2 zO w17 w16
attribute [go_sem] vM
theorem z9q (d:DImage) (hd:ImgP d) (F:DFunc) (y:AV) (hy:NV d F y) (hs:SlotsP d F) (x:DInstr) (hx:InstrP x) (hN:NearP d F x) (m:Mem) (hf:m.floor≤m.stk.length+1):
  Okv tab 300 [y,.agg [.int .u8 x.op,.int .i64 x.a,.int .i64 x.b,.int .i64 x.c]] m (.bool (typP d F x)):=by
 have hy':=hy
 obtain⟨ty,tx,fs,w0,w1,w2,w3,rfl,h0,h1,h2,h3,h4,h5,h6⟩:=hy
 obtain⟨stk,cur,nx,live,fl⟩:=m
 dsimp only at hf
 have hsl:=Yw hs
 have a1:=hsl x.a
 have a2:=hsl x.b
 have a3:=hsl x.c
 have c1:=fun h=>z8S hx hN h
 have c2:=fun h=>z8T hx hN h
 have hb: ∀X nz,Mem.blk ⟨stk++[cur],[⟨nx,[ty,tx,fs,.str F.name,.int .i64 F.params,.int .i64 F.result,w0,w1,w2,w3]⟩,X],nz,[]::live,fl⟩ (stk++[cur]).length 0 nx=some (cellsN ty tx fs w0 w1 w2 w3 F):=fun X nz=>by simp[Mem.blk,Mem.row,cellsN]
 have hn:=fun l z hz hl X nz=>(zbO d F ty tx fs w0 w1 w2 w3 hy' l z hz hl _ (stk++[cur]).length nx (w08 _) (hb X nz)).eq
 obtain⟨_,_,_,_,hq⟩:=fnsV h2
 have f:=nd h0.co<|nd h1.co<|nd h2.co<|nd h3.co<|nd h4.co<|nd h5.co<|nd h6.co<|nd h2.z<|nd (fun j hj=>(hq j hj).1)<|nd (fun s m=>(z7q d F _ hy' s m).eq)<|nd (fun(t:Int) (ht:t<d.types.length) k m=>(z3S d F _ hy' t ht [k] _ (isL1 k .full) m).eq)<|nd (fun(t:Int) (ht:t<d.types.length) i j k m=>(z3S d F _ hy' t ht [i,j,k] _ (isL3 i j k .full) m).eq)<|nd (fun(t:Int) e (ht:t<d.types.length) k m=>(z7u d F _ hy' t e ht [k] _ (isL1 k .full) m).eq)<|nd (fun(t:Int) e (ht:t<d.types.length) j k m=>(z7u d F _ hy' t e ht [j,k] _ (isL2 j k .full) m).eq)<|nd (fun(t:Int) i e (ht:t<d.types.length) m=>(z69 d F _ hy' t i e ht m).eq)<|nd (hn [slotT F x.a] _ (isI1 _ .full) (by simp[hsl]))<|nd (hn [slotT F x.b] _ (isI1 _ .full) (by simp[hsl]))<|nd (hn [slotT F x.c] _ (isI1 _ .full) (by simp[hsl]))<|nd (hn [slotT F x.b,slotT F x.c] _ (isI2 _ _ .full) (by simp[hsl]))<|nd (hn [slotT F x.a,slotT F x.b,slotT F x.c] _ (isI3 _ _ _ .full) (by simp[hsl]))<|nd (fun(t:Int) (ht:t<d.types.length) X nz=>(zb2 d F ty tx fs w0 w1 w2 w3 hy' t ht _ (stk++[cur]).length nx (w08 _) (hb X nz)).eq)<|fun j (hj:j<d.funcs.length) c nz lv=>(z9s d F _ hy' d.funcs[j] _ ⟨_,_,_,_,rfl,(hq j hj).2⟩ (hd.s _ (w04 hj)).1 (hd.s _ (w04 hj)).2.1 ⟨stk++[cur],c,nz,lv,max fl ((stk++[cur]).length+1)⟩ (by simp;omega)).eq
 refine oks (tT vM) ?_
 repeat' first|refine ifs ?_ ?_|intro
 all_goals
  clear f hn hb hq hy'
  try simp only[V5]
  unfold typP
  simp[zP, *]<;>simp_all
attribute [go_sem] u6
theorem zb9 {l:List DTyp} {t:Int} (h:t.toNat<l.length):l[t.toNat]=tyA l t:=by simp[tyA,w03,h]
theorem z7w (d:DImage) (hd:ImgP d) (y:AV) (hy:IsImage d y) (g:Nat) (hg:g<d.funcs.length) (x:DInstr) (hx:InstrP x) (hw:WfI x) (hN:NearP d (fnA d.funcs g) x) (m:Mem) (hf:m.floor≤m.stk.length+1):
  Okv tab 382 [y,.int .i64 g,.agg [.int .u8 x.op,.int .i64 x.a,.int .i64 x.b,.int .i64 x.c]] m (.bool (typR d (fnA d.funcs g) x)):=by
 have hy':=hy
 obtain⟨ty,tx,fs,rfl,h0,h1,h2⟩:=hy
 obtain⟨stk,cur,nx,live,fl⟩:=m
 dsimp only at hf
 have hs:=(hd.at hg).1
 have hsl:=Yw hs
 have a1:=hsl x.a
 have a2:=hsl x.b
 have a3:=hsl x.c
 have c1:=fun h=>z8S hx hN h
 have c2:=fun h=>z8T hx hN h
 have hln:(stk++[cur]).length=stk.length+1:=by simp
 have hb0:x.op=11→0≤slotT (fnA d.funcs g) x.b:=fun h=>WI hx hw hN hs (k:=1) (by omega) (by right;show(shp x.op).getD 1 45=114;rw[h];rfl)
 obtain⟨_,_,_,_,hq⟩:=fnsV h2
 obtain⟨_,ht⟩:=typesV h0
 have f:=nd h0.co<|nd h1.co<|nd h2.co<|nd h2.z<|nd h0.z<|nd hg<|nd (fun j hj=>(hq j hj).1)<|nd (fun j hj=>(ht j hj).1)<|nd (fun s m=>(z5d d _ hy' g hg s m).eq)<|nd (fun(t:Int) (ht:t<d.types.length) m=>(z3R d _ hy' t ht m).eq)<|nd (fun(t:Int) i (ht:t<d.types.length) m=>(z68 d _ hy' t i ht m).eq)<|nd (fun(t:Int) a b (ht:t<d.types.length) m=>(zbN d _ hy' t a b ht m).eq)<|
  nd (fun j hj m=>(z7v d.types[j] _ ⟨_,rfl,(ht j hj).2⟩ m).eq) fun(j:Int) (h0:0≤j) (hj:j<d.funcs.length) c nz lv fl' (hf':fl'≤(stk++[cur]).length+1)=>(show Okv tab 397 [.agg [ty,tx,fs],.int .i64 j] ⟨stk++[cur],c,nz,lv,fl'⟩ (.bool (laterB d (fnA d.funcs j.toNat))) from by
   have:=hd.at (k:=j.toNat) (by omega)
   have h:=z7H d _ hy' j.toNat (by omega) this.1 this.2.1 this.2.2.2 ⟨stk++[cur],c,nz,lv,fl'⟩ hf'
   rwa [w45 h0] at h).eq
 refine oks (tT u6) ?_
 repeat' first|refine ifs ?_ ?_|intro
 all_goals
  clear f hq ht hy'
  try simp only[V5,zb9]
  unfold typR
  simp[zP, *]<;>simp_all
theorem Xh {d:DImage} {t k:Int} (hk:k≠0):isT d t [k]=(kindI d.types t==k):=by
 unfold isT
 rw[Bool.eq_iff_iff,decide_eq_true_iff,beq_iff_eq,w1c]
 refine⟨fun h=>h.2,fun h=>⟨?_,h⟩⟩
 apply Classical.byContradiction
 intro hn
 unfold kindI at h
 omega
theorem TY {d:DImage} {t:Int} {ks:List Int} (h:0≤t):isT d t ks=decide (kindI d.types t∈ks):=by
 unfold isT;simp[h]
theorem z1L {d:DImage} {t a b e:Int} (h:0≤t) (he:0≤e):(ofT d t a b==e)=(decide (kindI d.types t=a∨kindI d.types t=b)&&decide ((tyA d.types t).elem=e)):=by
 unfold ofT
 grind
theorem z5A {d:DImage} {t k e:Int} (he:0≤e):(memT d t k==e)=memB d t k e:=by
 unfold memT memB
 grind
theorem za2 {d:DImage} {t:Int} (h:0≤t):kindI d.types t=(tyA d.types t).kind:=by unfold kindI;rw[if_neg (by omega)]
theorem zb8 {d:DImage} {f:DFunc} {x:DInstr} (hs:SlotsP d f) (hx:InstrP x) (hw:WfI x) (hN:NearP d f x):typP d f x=typR d f x:=by
 have h1:isT d (slotT f x.a) [1]=(kindI d.types (slotT f x.a)==1):=Xh (by decide)
 have h2:=fun t=>Xh (d:=d) (t:=t) (k:=1) (by decide)
 have h3:=fun t=>Xh (d:=d) (t:=t) (k:=2) (by decide)
 have h4:=fun t=>Xh (d:=d) (t:=t) (k:=3) (by decide)
 have h5:=fun t=>Xh (d:=d) (t:=t) (k:=4) (by decide)
 have h6:=fun t=>Xh (d:=d) (t:=t) (k:=7) (by decide)
 have nn:=fun k hk hl=>WI hx hw hN hs (k:=k) hk hl
 have n0:=fun hl=>nn 0 (by decide) hl
 have n1:=fun hl=>nn 1 (by decide) hl
 have n2:=fun hl=>nn 2 (by decide) hl
 simp only[opn,sk] at n0 n1 n2
 have hx':=hx
 obtain⟨la,lb,lc,hsh,hf1,hf2,hf3⟩:=hx'
 rcases z8b hx with h|h|h|h|h|h|h|h|h|h|h|h|h|h|h|h|h|h|h|h|h|h|h|h|h|h|h|h|h|h|h|h|h|h
 all_goals
  unfold typP typR
  rw[h] at n0 n1 n2 hsh
  simp only[h,H0,or_false,or_true,if_true,if_false,List.all_cons,List.all_nil,Bool.and_true,h2,h3,h4,h5,h6,Bool.and_assoc]
 all_goals try with_reducible rfl
 ·have:=n1 (by decide)
  rw[TY this,za2 this]
  grind
 ·have:=n0 (by decide)
  rw[z5A this]
 ·have:=n2 (by decide)
  rw[z5A this]
 ·have q1:=n1 (by decide)
  have q0:=n0 (by decide)
  rw[z1L q1 q0];simp[Bool.beq_eq_decide_eq]
 ·have q1:=n0 (by decide)
  have q0:=n1 (by decide)
  rw[z1L q1 q0];simp[Bool.beq_eq_decide_eq]
 ·have q1:=n1 (by decide)
  have q0:=n0 (by decide)
  rw[z1L q1 q0,TY q1]
  grind
 ·have q1:=n0 (by decide)
  have q0:=n2 (by decide)
  rw[z1L q1 q0,TY q1]
  grind
 ·have q1:=n1 (by decide)
  rw[TY q1]
  grind
 ·have e:la=103:=by
   have:shp 25=[103,99,45]:=by decide
   grind
  have:lo 103= -1:=by decide
  unfold fitsK at hf1
  grind
 ·have q1:=n0 (by decide)
  rw[TY q1,Bool.eq_iff_iff]
  grind
 ·have e:la=101:=by
   have:shp 34=[101,45,45]:=by decide
   grind
  have:lo 101= -1:=by decide
  unfold fitsK at hf1
  grind
theorem z9w (d:DImage) (hd:ImgP d) (y:AV) (hy:IsImage d y) (g:Nat) (hg:g<d.funcs.length) (x:DInstr) (hx:InstrP x) (hw:WfI x) (hN:NearP d (fnA d.funcs g) x) (m:Mem) (hf:m.floor≤m.stk.length+1):
  Okv tab 382 [y,.int .i64 g,.agg [.int .u8 x.op,.int .i64 x.a,.int .i64 x.b,.int .i64 x.c]] m (.bool (typP d (fnA d.funcs g) x)):=by
 rw[zb8 (hd.at hg).1 hx hw hN]
 exact z7w d hd y hy g hg x hx hw hN m hf
end Go.Proofs.W
end
section
namespace Go.Proofs.W
open Go.Vs
def rns (v:List Nat):Nat→List DRun
 |0=>[]
 |k+1=>if k=0∨v.getD k 0≠v.getD (k-1) 0 then rns v k++[⟨k,(v.getD k 0:Nat)⟩] else rns v k
theorem jY (v:List Nat): ∀k,(rns v k).length≤k
 |0=>by simp[rns]
 |k+1=>by
  have:=jY v k
  unfold rns
  grind
def madeR (v:List Nat):List DRun:=rns v v.length
theorem U5 (a b:Int):All2 IsRun [⟨a,b⟩] [.agg [.int .i64 a,.int .u64 b]]:=⟨rfl,trivial⟩
theorem z7E (v:List Nat) (hv:1≤v.length∧v.length≤200) (m:Mem) (L j st:Nat) (hL:L≤m.stk.length) (hb:m.blk L j st=some (us v)):Okp IsRun 2 tab 304 [.arr L j st 0 v.length] m (madeR v) 0:=by
 refine TP (tT kD) ?_
 obtain⟨stk,cur,nx,live,fl⟩:=m
 have hrow:=uF hb hL
 have hne:(L==(stk++[cur]).length)=false:=by simp at hL⊢;omega
 have hidx: ∀k,k<v.length→idx (.int .i64 (k:Nat)) v.length=some k:=fun k h=>zX .i64 k _ h
 have hC:=fun m=>(z0h (v.length:Nat) m).eq
 rw[if_neg (by omega)] at hC
 simp only[kD,go_sem,G6,G8,evLen,hC,show((0:Int) !=0)=false from rfl]
 refine zg (α:=Nat) (fun k σ=>k≤v.length∧ ∃nz y e,Own IsRun 2 y (rns v k) e∧heads [0,5,14,15] 0 σ=⟨tmps 43 [(0,.arr L j st 0 v.length),(5,y),(14,.int .i64 v.length),(15,.int .i64 k)],⟨stk++[cur],[],nz,e::live,fl⟩⟩) (fun k=>v.length-k) 0 ?_ ?_
 ·refine⟨w0e _,?_⟩
  simp only[go_sem,G6,G7]
  exact⟨_,_,[],.nil _,rfl⟩
 ·rintro k σ ⟨hk,nz,y,e,ho,hσ⟩
  rw[hσ]
  clear hσ σ
  dsimp only at hk⊢
  have hrl:=jY v k
  by_cases h:k<v.length
  ·have hsucc:IntKind.i64.wrap ((k:Int)+1)=((k+1:Nat):Int):=by rw[z6 (by omega) (by omega)];omega
   have hgk:=qj h
   have hik:=hidx k h
   by_cases h0:k=0
   ·subst h0
    rw[w19] at hgk
    have hr:rns v 1=[]++[⟨(0:Nat),(v.getD 0 0:Nat)⟩]:=by simp[rns]
    simp only[go_sem,G3,G6,G9,G7,G8,w02,h,show(((0:Nat):Int)>0)=False from eq_false (by decide),z7,hik,w11,hne,hrow,hgk,evBuild]
    refine ho.xv (bytes:=16) (zh · 2 .full [.agg [.int .i64 ((0:Nat):Int),.int .u64 ((v.getD 0 0:Nat):Int)]]) (U5 _ _) (by simp only[w29];omega) fun y' n' e' ho'=> ?_
    simp only[go_sem,G6,G8,hsucc]
    exact⟨1,by omega,h,n',y',e',by rw[hr];exact ho',rfl⟩
   ·have hk1:k-1<v.length:=by omega
    have hgk1:=qj hk1
    have hik1:=hidx (k-1) hk1
    have hsub:IntKind.i64.wrap ((k:Int)-1)=((k-1:Nat):Int):=by rw[z6 (by omega) (by omega)];omega
    by_cases he:v.getD k 0=v.getD (k-1) 0
    ·have hr:rns v (k+1)=rns v k:=by rw[rns,if_neg fun q=>q.elim h0 (fun q=>q he)]
     have hbq:(((v.getD k 0:Nat):Int)==((v.getD (k-1) 0:Nat):Int))=true:=by rw[he];simp
     simp only[go_sem,G6,G7,G8,w02,h,show((k:Int)>0)=True from eq_true (by omega),z7,hik,hik1,w11,hne,hrow,hgk,hsub,hgk1,hbq,hsucc]
     exact⟨k+1,by omega,h,nz,y,e,by rw[hr];exact ho,rfl⟩
    ·have hr:rns v (k+1)=rns v k++[⟨k,(v.getD k 0:Nat)⟩]:=by rw[rns,if_pos (Or.inr he)]
     have hbq:(((v.getD k 0:Nat):Int)==((v.getD (k-1) 0:Nat):Int))=false:=by rw[beq_eq_false_iff_ne,ne_eq,Int.ofNat_inj];exact he
     simp only[go_sem,G3,G6,G9,G7,G8,w02,h,show((k:Int)>0)=True from eq_true (by omega),z7,hik,hik1,w11,hne,hrow,hgk,hsub,hgk1,hbq,evBuild]
     refine ho.xv (zh · 2 .full [.agg [.int .i64 (k:Int),.int .u64 ((v.getD k 0:Nat):Int)]]) (U5 _ _) (by simp only[w29];omega) fun y' n' e' ho'=> ?_
     simp only[go_sem,G6,G8,hsucc]
     exact⟨k+1,by omega,h,n',y',e',by rw[hr];exact ho',rfl⟩
  ·have:k=v.length:=by omega
   subst this
   simp only[go_sem,G6,G7,G8,w02,h]
   exact jE ho
def IsU (n:Nat) (y:AV):Prop:=y= .int .u64 (n:Int)
theorem z9z (v:List Nat) (hv:v.length≤200) (x:AV) (hx:IsSl IsU 1 v x) (m:Mem):Okl IsRun 2 tab 363 [x] m (madeR v):=by
 have hel: ∀k,k<v.length→nth x k= .int .u64 ((v.getD k 0:Nat):Int):=fun k h=>by
  have:=hx.nth h
  rw[show v[k]=v.getD k 0 by simp[w03,h]] at this
  exact this
 have hlx:=hx.len
 refine qQ (tT xc) ?_
 obtain⟨stk,cur,nx,live,fl⟩:=m
 skip
 dsimp only[xc,fnOf];simp only[go_sem]
 refine zg (α:=Nat) (fun k σ=>k≤v.length∧ ∃nz y e,Own IsRun 2 y (rns v k) e∧heads [0,3,4] 0 σ=⟨tmps 35 [(0,x),(3,y),(4,.int .i64 k)],⟨stk++[cur],[],nz,e::live,fl⟩⟩) (fun k=>v.length-k) 0 ?_ ?_
 ·refine⟨w0e _,?_⟩
  simp only[go_sem,G6,G7]
  exact⟨_,_,[],.nil _,rfl⟩
 ·rintro k σ ⟨hk,nz,y,e,ho,hσ⟩
  rw[hσ]
  clear hσ σ
  dsimp only at hk⊢
  have hrl:=jY v k
  by_cases h:k<v.length
  ·have hsucc:IntKind.i64.wrap ((k:Int)+1)=((k+1:Nat):Int):=by rw[z6 (by omega) (by omega)];omega
   obtain⟨a1,a2⟩:=(⟨hx.at .i64 h,hel k h⟩:_∧_)
   by_cases h0:k=0
   ·subst h0
    try rw[w19] at a2
    have hr:rns v 1=[]++[⟨(0:Nat),(v.getD 0 0:Nat)⟩]:=by simp[rns]
    simp only[go_sem,G3,G6,G9,G7,G8,hlx,w02,h,show(((0:Nat):Int)==0)=true from rfl,a1,a2,evBuild]
    refine ho.xv (bytes:=16) (zh · 2 .full [.agg [.int .i64 ((0:Nat):Int),.int .u64 ((v.getD 0 0:Nat):Int)]]) (U5 _ _) (by simp only[w29];omega) fun y' n' e' ho'=> ?_
    simp only[go_sem,G6,G8,hsucc]
    exact⟨1,by omega,h,n',y',e',by rw[hr];exact ho',rfl⟩
   ·have hk1:k-1<v.length:=by omega
    obtain⟨b1,b2⟩:=(⟨hx.at .i64 hk1,hel _ hk1⟩:_∧_)
    have hsub:IntKind.i64.wrap ((k:Int)-1)=((k-1:Nat):Int):=by rw[z6 (by omega) (by omega)];omega
    have hk0:((k:Int)==0)=false:=by rw[beq_eq_false_iff_ne];omega
    by_cases he:v.getD k 0=v.getD (k-1) 0
    ·have hr:rns v (k+1)=rns v k:=by rw[rns,if_neg fun q=>q.elim h0 (fun q=>q he)]
     have hbq:(((v.getD k 0:Nat):Int) !=((v.getD (k-1) 0:Nat):Int))=false:=by rw[he];simp
     simp only[go_sem,G6,G7,G8,hlx,w02,h,hk0,a1,a2,b1,b2,hsub,hbq,hsucc]
     exact⟨k+1,by omega,h,nz,y,e,by rw[hr];exact ho,rfl⟩
    ·have hr:rns v (k+1)=rns v k++[⟨k,(v.getD k 0:Nat)⟩]:=by rw[rns,if_pos (Or.inr he)]
     have hbq:(((v.getD k 0:Nat):Int) !=((v.getD (k-1) 0:Nat):Int))=true:=by rw[bne_iff_ne,ne_eq,Int.ofNat_inj];exact he
     simp only[go_sem,G3,G6,G9,G7,G8,hlx,w02,h,hk0,a1,a2,b1,b2,hsub,hbq,evBuild]
     refine ho.xv (zh · 2 .full [.agg [.int .i64 (k:Int),.int .u64 ((v.getD k 0:Nat):Int)]]) (U5 _ _) (by simp only[w29];omega) fun y' n' e' ho'=> ?_
     simp only[go_sem,G6,G8,hsucc]
     exact⟨k+1,by omega,h,n',y',e',by rw[hr];exact ho',rfl⟩
  ·have:k=v.length:=by omega
   subst this
   simp only[go_sem,G6,G7,G8,hlx,w02,h]
   exact tf ho
theorem z9A (v:List Nat) (hv:v.length≤200) (m:Mem) (L j st:Nat) (hL:L≤m.stk.length) (hb:m.blk L j st=some (us v)) (x:AV) (hx:x= .arr L j st 0 v.length):Okl IsRun 2 tab 363 [x] m (madeR v):=by
 have hlx:evLen x=some (.int .i64 v.length):=by rw[hx];rfl
 have hat: ∀k,k<v.length→evIaddr 1 x (.int .i64 (k:Nat))=some (.ptr L j st k):=fun k h=>by
  rw[hx,z7,zX .i64 k _ h];simp
 refine qQ (tT xc) ?_
 obtain⟨stk,cur,nx,live,fl⟩:=m
 have hrow:=uF hb hL
 have hne:(L==(stk++[cur]).length)=false:=by simp at hL⊢;omega
 have hidx: ∀k,k<v.length→idx (.int .i64 (k:Nat)) v.length=some k:=fun k h=>zX .i64 k _ h
 dsimp only[xc,fnOf];simp only[go_sem]
 refine zg (α:=Nat) (fun k σ=>k≤v.length∧ ∃nz y e,Own IsRun 2 y (rns v k) e∧heads [0,3,4] 0 σ=⟨tmps 35 [(0,x),(3,y),(4,.int .i64 k)],⟨stk++[cur],[],nz,e::live,fl⟩⟩) (fun k=>v.length-k) 0 ?_ ?_
 ·refine⟨w0e _,?_⟩
  simp only[go_sem,G6,G7]
  exact⟨_,_,[],.nil _,rfl⟩
 ·rintro k σ ⟨hk,nz,y,e,ho,hσ⟩
  rw[hσ]
  clear hσ σ
  dsimp only at hk⊢
  have hrl:=jY v k
  by_cases h:k<v.length
  ·have hsucc:IntKind.i64.wrap ((k:Int)+1)=((k+1:Nat):Int):=by rw[z6 (by omega) (by omega)];omega
   obtain⟨a1,a2⟩:=(⟨hat k h,qj h⟩:_∧_)
   by_cases h0:k=0
   ·subst h0
    try rw[w19] at a2
    have hr:rns v 1=[]++[⟨(0:Nat),(v.getD 0 0:Nat)⟩]:=by simp[rns]
    simp only[go_sem,G3,G6,G9,G7,G8,hlx,hne,hrow,w02,h,show(((0:Nat):Int)==0)=true from rfl,a1,a2,evBuild]
    refine ho.xv (bytes:=16) (zh · 2 .full [.agg [.int .i64 ((0:Nat):Int),.int .u64 ((v.getD 0 0:Nat):Int)]]) (U5 _ _) (by simp only[w29];omega) fun y' n' e' ho'=> ?_
    simp only[go_sem,G6,G8,hsucc]
    exact⟨1,by omega,h,n',y',e',by rw[hr];exact ho',rfl⟩
   ·have hk1:k-1<v.length:=by omega
    obtain⟨b1,b2⟩:=(⟨hat _ hk1,qj hk1⟩:_∧_)
    have hsub:IntKind.i64.wrap ((k:Int)-1)=((k-1:Nat):Int):=by rw[z6 (by omega) (by omega)];omega
    have hk0:((k:Int)==0)=false:=by rw[beq_eq_false_iff_ne];omega
    by_cases he:v.getD k 0=v.getD (k-1) 0
    ·have hr:rns v (k+1)=rns v k:=by rw[rns,if_neg fun q=>q.elim h0 (fun q=>q he)]
     have hbq:(((v.getD k 0:Nat):Int) !=((v.getD (k-1) 0:Nat):Int))=false:=by rw[he];simp
     simp only[go_sem,G6,G7,G8,hlx,hne,hrow,w02,h,hk0,a1,a2,b1,b2,hsub,hbq,hsucc]
     exact⟨k+1,by omega,h,nz,y,e,by rw[hr];exact ho,rfl⟩
    ·have hr:rns v (k+1)=rns v k++[⟨k,(v.getD k 0:Nat)⟩]:=by rw[rns,if_pos (Or.inr he)]
     have hbq:(((v.getD k 0:Nat):Int) !=((v.getD (k-1) 0:Nat):Int))=true:=by rw[bne_iff_ne,ne_eq,Int.ofNat_inj];exact he
     simp only[go_sem,G3,G6,G9,G7,G8,hlx,hne,hrow,w02,h,hk0,a1,a2,b1,b2,hsub,hbq,evBuild]
     refine ho.xv (zh · 2 .full [.agg [.int .i64 (k:Int),.int .u64 ((v.getD k 0:Nat):Int)]]) (U5 _ _) (by simp only[w29];omega) fun y' n' e' ho'=> ?_
     simp only[go_sem,G6,G8,hsucc]
     exact⟨k+1,by omega,h,n',y',e',by rw[hr];exact ho',rfl⟩
  ·have:k=v.length:=by omega
   subst this
   simp only[go_sem,G6,G7,G8,hlx,w02,h]
   exact tf ho
def Wm (l:List DInstr) (i:Nat):Nat:=if i<l.length then maskN (wrs (inA l i)) else 0
theorem QC {l:List DInstr} (hc:CodeP l) (i:Nat):Wm l i<65536:=by
 unfold Wm
 split
 ·rename_i h;exact WV (WX (hc.at h).1 (hc.at h).2.1) (w08 _)
 ·omega
def wsA (l:List DInstr) (k:Nat):List Nat:=(List.range l.length).map fun j=>if j<k then Wm l j else 0
theorem Ws (l:List DInstr) (k:Nat):(wsA l k).length=l.length:=by simp[wsA]
theorem z5c {l:List DInstr} {k j:Nat} (h:j<l.length):(wsA l k).getD j 0=if j<k then Wm l j else 0:=by
 simp[wsA,w03,h]
theorem z7n (l:List DInstr):wsA l 0=List.replicate l.length 0:=by
 apply w27
 intro j
 simp only[wsA,w22,List.getElem?_replicate]
 grind
theorem z9i {l:List DInstr} {k:Nat} (h:k<l.length):(wsA l k).set k (Wm l k)=wsA l (k+1):=by
 apply w27
 intro j
 rw[List.getElem?_set]
 simp only[wsA,w58,List.length_range,w22]
 grind
def CM (a0 a1 a2 a3 a4 a5 a6 L n:Nat) (pr:Int) (ws:List Nat) (s:MS):List Blk:=
 [⟨a0,[.int .i64 pr]⟩,⟨a1,us ws⟩,⟨a2,[.arr L 1 a1 0 n]⟩,⟨a3,[.arr L 5 a5 0 n]⟩,⟨a4,[.arr L 6 a6 0 n]⟩,⟨a5,us s.2⟩,⟨a6,bools s.1⟩]
def PM (n:Nat) (s:MS) (k:Nat) (fr:Option Nat):Prop:=s.1.length=n∧s.2.length=n∧k<n∧(∀i,fr=some i→i<n)∧ ∀j,s.2.getD j 0<65536
theorem z7D (S:List (List Blk)) (a0 a1 a2 a3 a4 a5 a6 n fl:Nat) (pr:Int) (hpr:0≤pr∧pr≤16) (ws:List Nat) (hws:ws.length=n) (hw16: ∀j,ws.getD j 0<65536) (hfl:fl≤S.length):
  Meets S (CM a0 a1 a2 a3 a4 a5 a6 S.length n pr ws) (.fn (.func 355) [] [.ptr S.length 0 a0 0,.ptr S.length 4 a4 0,.ptr S.length 3 a3 0,.ptr S.length 2 a2 0]) fl (PM n) (updM (fun i=>ws.getD i 0) (2^pr.toNat-1)):=by
 refine⟨_,_,_,rfl,?_⟩
 rintro s k fr c nz lv ⟨hs1,hs2,hk,hfr,hbits⟩
 suffices h:Does tab 355 [.int .i64 (k:Nat),.int .i64 (frm fr),.ptr S.length 0 a0 0,.ptr S.length 4 a4 0,.ptr S.length 3 a3 0,.ptr S.length 2 a2 0] ⟨S++[CM a0 a1 a2 a3 a4 a5 a6 S.length n pr ws s],c,nz,lv,fl⟩ fun v m'=> ∃nz',v= .bool (updM (fun i=>ws.getD i 0) (2^pr.toNat-1) s k fr).2∧m'=⟨S++[CM a0 a1 a2 a3 a4 a5 a6 S.length n pr ws (updM (fun i=>ws.getD i 0) (2^pr.toNat-1) s k fr).1],c,nz',lv,fl⟩ by
  obtain⟨z,h1,n',h2,h3⟩:=h
  grind
 refine yD (tT qf) ?_ (Nat.le_of_ble_eq_true rfl)
 obtain⟨met,out⟩:=s
 dsimp only at hs1 hs2 hbits
 have hix:idx (.int .i64 (k:Int)) n=some k:=zX .i64 k n hk
 have hst1:=tg (s:=met) (j:=k) true (by omega)
 have hbl1:k+1≤(bools met).length:=by rw[th];omega
 have hbl2:k+1≤(us out).length:=by rw[Yu];omega
 have hst2:=fun v=>Ys (s:=out) (j:=k) v (by omega)
 have hgk:=qj (s:=out) (j:=k) (by omega)
 have hgm:=xN (s:=met) (j:=k) (by omega)
 cases fr with
 |none=>
  have hp:2^pr.toNat≤65536:=w4a (by decide) (show pr.toNat≤16 by omega)
  have h1:1≤2^pr.toNat:=Nat.one_le_two_pow
  have hw:IntKind.u64.wrap (((2^pr.toNat:Nat):Int)-1)=((2^pr.toNat-1:Nat):Int):=by
   generalize 2^pr.toNat=p at*
   rw[za (by omega) (by omega)];omega
  simp only[qf,go_sem,G3,G6,G9,G8,frm,show((-1:Int)<0)=True from eq_true (by decide),YG,Zg,CM,z3c hpr,hw,z7,hix,w11,hfl,hbl1,hst1,hbl2,hst2,Xm,Z9,H8,List.all_cons,List.all_nil,bne_self_eq_false]
  rw[yg rfl rfl,z5]
  exact⟨_,rfl,rfl⟩
 |some i=>
  have hi:=hfr i rfl
  have hixi:idx (.int .i64 (i:Int)) n=some i:=zX .i64 i n hi
  have hgi:=qj (s:=out) (j:=i) (by omega)
  have hgw:=qj (s:=ws) (j:=i) (by omega)
  have hor:=z3d (hbits i) (hw16 i)
  have hand:=z4I (b:=out.getD i 0|||ws.getD i 0) (hbits k) (T2 (hbits i) (hw16 i))
  simp only[qf,go_sem,G3,G6,G8,frm,show((i:Int)<0)=False from eq_false (by omega),YG,Zg,CM,z7,hix,hixi,w11,hgi,hgw,hor,hgm]
  cases hm:met.getD k false
  ·simp only[go_sem,G6,G9,G8,YG,Zg,z7,hix,w11,hfl,hbl1,hst1,hbl2,hst2,Xm,Z9,H8,List.all_nil,bne_self_eq_false]
   rw[yg rfl rfl,z5]
   refine⟨nz,?_,?_⟩
   ·unfold updM;dsimp only;rw[hm];rfl
   ·unfold updM;dsimp only;rw[hm];rfl
  ·have hgk2:=qj (s:=out.set k (out.getD k 0&&&(out.getD i 0|||ws.getD i 0))) (j:=k) (by simp;omega)
   rw[Vs.getD_set_eq (by omega)] at hgk2
   simp only[go_sem,G6,G8,YG,Zg,z7,hix,w11,hgk,hand,hfl,hbl2,hst2,Xm,Z9,hgk2]
   rw[yg rfl rfl,z5]
   refine⟨nz,?_,?_⟩
   ·unfold updM;dsimp only;rw[hm]
    simp only[if_true]
    congr 1
    grind
   ·unfold updM;dsimp only;rw[hm];rfl
def Near16 (l:List DInstr) (n:Int):Prop:= ∀i,i<l.length→(∀s∈rds (inA l i),s<n)∧ ∀s∈wrs (inA l i),s<n
theorem z7T {a n:Nat} (h:a<2^n):a>>>n=0:=by rw[Nat.shiftRight_eq_div_pow,Nat.div_eq_of_lt h]
theorem z9y (l:List DInstr) (x:AV) (hx:IsSl IsInstr 4 l x) (hc:CodeP l) (h7:Ok07 l) (pr sl:Int) (hp:0≤pr∧pr≤sl∧sl≤16) (hn:Near16 l sl) (m:Mem) (hf:m.floor≤m.stk.length+1):
  CallArr 302 [x,.int .i64 pr,.int .i64 sl] l.length (fun cs=> ∃o:List Nat,cs=us o∧o.length=l.length∧ ∀i,i<l.length→o.getD i 0=if i=l.length-1 then 0 else mskOf (nxt l) (Wm l) (2^pr.toNat-1) i) (fun y=> .tup [y,.int .i64 0]) m:=by
 refine ZL (tT ZY) ?_
 obtain⟨stk,cur,nx,live,fl⟩:=m
 dsimp only at hf
 have hf':fl≤(stk++[cur]).length+1:=by simp;omega
 have hfl:fl≤(stk++[cur]).length:=by simp;omega
 have hln:=hc.len
 have hmx:=hx.max
 have hC:=fun c nz=>(jc l x hx hc ⟨stk++[cur],c,nz,[]::live,fl⟩ hf').eq
 rw[Zi h7] at hC
 simp only[ZY,go_sem,G3,G6,G8,hC,show((0:Int) !=0)=false from rfl,show¬(sl<0) by omega,show¬(sl>16) by omega,show¬(pr<0) by omega,show¬(pr>sl) by omega,hx.len,xA (s:=1) (bytes:=8) (n:=l.length) (z:=[.int .u64 0]) (by omega) (by omega) rfl,z1u]
 generalize callNx tab 335 _ _=nz
 refine zg (α:=Nat) (fun k σ=>k≤l.length∧ ∃nz' e,heads [0,2,4,9,40,41,42] 3 σ=⟨tmps 87 [(0,x),(2,.int .i64 sl),(4,.ptr (stk++[cur]).length 0 nx 0),(9,.ptr (stk++[cur]).length 2 (nz+1) 0),(40,x),(41,.int .i64 l.length),(42,.int .i64 k)],⟨stk++[cur],[⟨nx,[.int .i64 pr]⟩,⟨nz,us (wsA l k)⟩,⟨nz+1,[.arr (stk++[cur]).length 1 nz 0 l.length]⟩],nz',e::live,fl⟩⟩) (fun k=>l.length-k) 0 ?_ ?_
 ·refine⟨w0e _,?_⟩
  simp only[go_sem,G6,G7,z7n]
  simp
 ·rintro k σ ⟨hk,nz',e,hσ⟩
  rw[hσ]
  clear hσ σ
  dsimp only at hk⊢
  by_cases h:k<l.length
  ·obtain⟨c1,c2,c3⟩:=hc.at h
   have hsucc:=zq h hmx
   have hixk:idx (.int .i64 (k:Int)) l.length=some k:=zX .i64 k l.length h
   simp only[go_sem,G3,G6,G7,G8,w02,h,hx.at _ h,hx.inA h]
   refine(z1p (inA l k) c2 c1 _ hf').xv fun r ts n1 ⟨y1,y2,hr,ho⟩=> ?_
   subst hr
   have hy1:=ho.l.sl (by have:=YA (inA l k) 3;unfold rds;omega)
   have hy2:=ho.r.sl (by have:=Z5 (inA l k) 3;unfold wrs;omega)
   have m1:=fun m=>(z7r _ y1 hy1 (z1P c1 c2) m).eq
   have m2:=fun m=>(z7r _ y2 hy2 (WX c1 c2) m).eq
   have hW:maskN (wrs (inA l k))=Wm l k:=by unfold Wm;rw[if_pos h]
   have hbl:k+1≤(us (wsA l k)).length:=by rw[Yu,Ws];exact h
   have hst:=Ys (s:=wsA l k) (j:=k) (Wm l k) (by rw[Ws];exact h)
   have hgw:=qj (s:=wsA l (k+1)) (j:=k) (by rw[Ws];exact h)
   rw[z5c h,if_pos (Nat.lt_succ_self k)] at hgw
   rw[z9i h] at hst
   have hor:=z3d (a:=maskN (rds (inA l k))) (WV (z1P c1 c2) (w08 _)) (QC hc k)
   have hshr:=z4H (a:=maskN (rds (inA l k))|||Wm l k) (s:=sl) ⟨by omega,hp.2.2⟩
   have hlt:maskN (rds (inA l k))|||Wm l k<2^sl.toNat:=by
    refine Nat.or_lt_two_pow ?_ ?_
    ·exact YB (fun s hs=>⟨(z1P c1 c2 s hs).1,by have:=(hn k h).1 s hs;omega⟩) _ (w08 _)
    ·rw[←hW];exact YB (fun s hs=>⟨(WX c1 c2 s hs).1,by have:=(hn k h).2 s hs;omega⟩) _ (w08 _)
   rw[z7T hlt] at hshr
   rw[hW] at m2
   cases ts with
   |nil=>
    simp only[go_sem,G6,G8,show((0:Int) !=0)=false from rfl,m2,z7,hixk,w11,hbl,hst,hgw,m1,hor,hshr,show(((0:Nat):Int) !=0)=false from rfl,hsucc]
    exact⟨k+1,by omega,h,_,_,rfl⟩
   |cons t0 ts=>
    simp only[go_sem,G6,G8,show((0:Int) !=0)=false from rfl,m2,z7,hixk,w11,hbl,hst,hgw,m1,hor,hshr,show(((0:Nat):Int) !=0)=false from rfl,hsucc]
    exact⟨k+1,by omega,h,_,_,rfl⟩
  ·have hke:k=l.length:=by omega
   subst hke
   simp only[go_sem,G3,G6,G7,G8,w02,h,hx.len,xA (s:=1) (bytes:=8) (n:=l.length) (z:=[.int .u64 0]) (by omega) (by omega) rfl,z1u,xA (s:=1) (bytes:=1) (n:=l.length) (z:=[.bool false]) (by omega) (by omega) rfl,Zl]
   have hnx:=fun i hi=>VF hc h7 (i:=i) hi
   have hWeq:(fun i=>(wsA l l.length).getD i 0)=Wm l:=by
    funext i
    by_cases hi:i<l.length
    ·rw[z5c hi,if_pos hi]
    ·rw[w03,w4c (by rw[Ws];omega)]
     unfold Wm;rw[if_neg hi];rfl
   have hp0:2^pr.toNat-1<65536:=by
    have:2^pr.toNat≤65536:=w4a (by decide) (show pr.toNat≤16 by omega)
    omega
   have hM:=z7D (stk++[cur]) nx nz (nz+1) nz' (nz'+1) (nz'+1+1) (nz'+1+1+1) l.length fl pr ⟨hp.1,by omega⟩ (wsA l l.length) (Ws _ _) (fun j=>by have:=congrFun hWeq j;rw[this];exact QC hc j) hfl
   rw[hWeq] at hM
   obtain⟨s',n',hcall,hJ⟩:=z2c l x hx (fun j hj=>Wa (hc.at hj).1) (stk++[cur]) _ _ fl hfl _ _ hM (MJ (nxt l) l.length (Wm l) (2^pr.toNat-1)) (fun s op=>2*phi s.1 s.2+op.length)
    (List.replicate l.length false,List.replicate l.length 0) ⟨by simp,by simp,by omega,fun i h=>(by cases h),fun j=>by simp only[w03,List.getElem?_replicate];split<;>simp⟩
    (MJ.start (nxt l) l.length (Wm l) _ (by omega) hp0)
    (fun s op h=>by have:=h.b;have:l.length*65536≤200*65536:=Nat.mul_le_mul_right _ hln.2;omega) (fun s op h i hi=>(h.o i hi).1)
    (fun s op i h j hj=>by
     have hi:=(h.o i (by simp)).1
     have:=MK.all (nxt l) l.length (Wm l) _ (QC hc) (h.pop (nxt l) l.length (Wm l) _) (ks:=(nxt l i).take j) (fun k hk=>⟨w3d hk,hnx i hi k (w3d hk)⟩)
     exact⟨this.r.l1,this.r.l2,hnx i hi _ (w04 hj),fun i' hi'=>by injection hi' with hi';omega,this.r.lt⟩)
    (fun s op i h=>h.next (nxt l) l.length (Wm l) _ (QC hc) hnx) (nz'+1+1+1+1) (e::live)
   simp only[CM] at hcall
   have hsl:=hJ.r.l2
   have hsub:IntKind.i64.wrap ((l.length:Int)-1)=((l.length-1:Nat):Int):=by rw[z6 (by omega) (by omega)];omega
   have hix:idx (.int .i64 ((l.length-1:Nat):Int)) l.length=some (l.length-1):=zX .i64 _ _ (by omega)
   have hst:=Ys (s:=s'.2) (j:=l.length-1) 0 (by omega)
   have hbl:l.length-1+1≤(us s'.2).length:=by rw[Yu];omega
   simp only[go_sem,G6,G8,hcall,evLen,hsub,z7,hix,w11,hbl]
   have hst0:(us s'.2).take (l.length-1)++[.int .u64 0]++(us s'.2).drop (l.length-1+1)=us (s'.2.set (l.length-1) 0):=hst
   rw[hst0]
   refine V7 (w:=fun y=> .tup [y,.int .i64 0]) (.inr ⟨_,rfl,rfl,rfl,rfl⟩) (cs:=us (s'.2.set (l.length-1) 0)) rfl (TG _ _ _ _) ⟨_,rfl,by simp[hsl],fun i hi=> ?_⟩
   by_cases ei:l.length-1=i
   ·grind
   ·rw[Vs.getD_set_ne ei,hJ.done (nxt l) l.length (Wm l) _ i,if_neg fun q=>ei q.symm]
def fillA (n k A:Nat):List Nat:=List.replicate k A++List.replicate (n-k) 0
theorem Xn {n k A:Nat} (h:k≤n):(fillA n k A).length=n:=by simp[fillA];omega
theorem z6X {n k A:Nat} (h:k<n):(fillA n k A).set k A=fillA n (k+1) A:=by
 unfold fillA
 rw[List.set_append_right _ _ (by simp),List.length_replicate,Nat.sub_self,show n-k=(n-(k+1))+1 by omega,w44,w56]
 apply w27
 grind
theorem z4F (n A:Nat):fillA n 0 A=List.replicate n 0:=by simp[fillA]
theorem z0L (n A:Nat):fillA n n A=List.replicate n A:=by simp[fillA]
theorem za0 {a b:Nat} (h:a≤b):Sub (2^a-1) (2^b-1):=fun s hs=>by
 grind
theorem zbi {a b:Nat} (h:a<2^b):Sub a (2^b-1):=fun s hs=>by
 rw[Nat.testBit_two_pow_sub_one,decide_eq_true_eq]
 rcases w43 s b with q|q
 ·exact q
 ·have:=Nat.testBit_lt_two_pow (w55 h (w4a (by decide) q))
  grind
theorem z7F (l:List DInstr) (x:AV) (hx:IsSl IsInstr 4 l x) (hc:CodeP l) (h7:Ok07 l) (pr sl:Int) (hp:0≤pr∧pr≤sl∧sl≤16) (hn:Near16 l sl) (m:Mem) (hf:m.floor≤m.stk.length+1):
  CallArr 360 [x,.int .i64 pr,.int .i64 sl] l.length (fun cs=> ∃o:List Nat,cs=us o∧o.length=l.length∧ ∀i,i<l.length→o.getD i 0=if i=l.length-1 then 0 else mskOf (nxt l) (Wm l) (2^pr.toNat-1) i) id m:=by
 refine ZL (tT uZ) ?_
 obtain⟨stk,cur,nx,live,fl⟩:=m
 dsimp only at hf
 have hf':fl≤(stk++[cur]).length+1:=by simp;omega
 have hfl:fl≤(stk++[cur]).length:=by simp;omega
 have hln:=hc.len
 have hmx:=hx.max
 have hnx:=fun i hi=>VF hc h7 (i:=i) hi
 have hpA:2^sl.toNat-1<65536:=by
  have:2^sl.toNat≤65536:=w4a (by decide) (show sl.toNat≤16 by omega)
  omega
 have hpp:2^pr.toNat-1<65536:=by
  have:2^pr.toNat≤65536:=w4a (by decide) (show pr.toNat≤16 by omega)
  omega
 have hWsub: ∀i,Sub (Wm l i) (2^sl.toNat-1):=fun i=>by
  refine zbi ?_
  unfold Wm
  split
  ·rename_i hi
   exact YB (fun s hs=>⟨(WX (hc.at hi).1 (hc.at hi).2.1 s hs).1,by have:=(hn i hi).2 s hs;omega⟩) _ (w08 _)
  ·grind
 generalize hP0:2^pr.toNat-1=p0 at*
 have hps:Sub p0 (2^sl.toNat-1):=by rw[←hP0];exact za0 (by omega)
 generalize hA:2^sl.toNat-1=A at*
 have hL1:=fun m=>(z5f sl ⟨by omega,hp.2.2⟩ m).eq
 have hL2:=fun m=>(z5f pr ⟨hp.1,by omega⟩ m).eq
 rw[hA] at hL1
 rw[hP0] at hL2
 obtain⟨bs,n1,j,st,cs,hcall,hbj,_,led,rfl,hledl,hled⟩:=zaI l x hx hc h7 ⟨stk++[cur],[],nx,[]::live,fl⟩ hf'
 simp only[id,w2e] at hcall hbj
 have hjl:j<bs.length:=(w13.1 hbj).1
 have hbj': ∀b:Blk,(bs++[b])[j]? =some ⟨st,bools led⟩:=fun b=>by rw[w1b hjl];exact hbj
 simp only[uZ,go_sem,G3,G6,G8,hcall,hx.len,xA (s:=1) (bytes:=8) (n:=l.length) (z:=[.int .u64 0]) (by omega) (by omega) rfl,z1u,xk]
 refine zg (α:=Nat) (fun k σ=>k≤l.length∧ ∃nz,heads [0,1,2,7,8,9] (bs.length+1) σ=⟨tmps 114 [(0,x),(1,.int .i64 pr),(2,.int .i64 sl),(7,.arr (stk++[cur]).length j st 0 l.length),(8,.arr (stk++[cur]).length bs.length n1 0 l.length),(9,.int .i64 k)],⟨stk++[cur],bs++[⟨n1,us (fillA l.length k A)⟩],nz,[]::live,fl⟩⟩) (fun k=>l.length-k) 0 ?_ ?_
 ·refine⟨w0e _,?_⟩
  simp only[go_sem,G6,G7,xO,z4F]
  simp
 ·rintro k σ ⟨hk,nz,hσ⟩
  rw[hσ]
  clear hσ σ
  dsimp only at hk⊢
  by_cases h:k<l.length
  ·have hsucc:=zq h hmx
   have hixk:idx (.int .i64 (k:Int)) l.length=some k:=zX .i64 k l.length h
   have hbl:k+1≤(us (fillA l.length k A)).length:=by rw[Yu,Xn hk];exact h
   have hst:=Ys (s:=fillA l.length k A) (j:=k) A (by rw[Xn hk];exact h)
   rw[z6X h] at hst
   simp only[go_sem,G6,G7,G8,ZM,Vf,xO,w11,w02,h,hx.len,hL1,z7,hixk,hbl,hst,hsucc]
   exact⟨k+1,by omega,h,_,rfl⟩
  ·have hke:k=l.length:=by omega
   subst hke
   have hix0:idx (.int .i64 0) l.length=some 0:=zX .i64 0 l.length (by omega)
   have hbl0:0+1≤(us (fillA l.length l.length A)).length:=by rw[Yu,Xn (w08 _)];omega
   have hst0:=Ys (s:=fillA l.length l.length A) (j:=0) p0 (by rw[Xn (w08 _)];omega)
   simp only[w1a,w2e,w1f,z0L] at hst0 hbl0
   simp only[go_sem,G6,G7,G8,xk,ZM,Vf,w11,w02,h,hx.len,hL2,z7,hix0,z0L,hbl0,hst0]
   refine zg (α:=List Nat×Bool) (fun z σ=>(VI (nxt l) l.length (Wm l) p0 z.1∧(z.2=false→ ∀i,(if led.getD i false then z.1.getD i 0 else 0)=mskOf (nxt l) (Wm l) p0 i))∧ ∃nz,heads [0,7,8,10] (bs.length+1) σ=⟨tmps 114 [(0,x),(7,.arr (stk++[cur]).length j st 0 l.length),(8,.arr (stk++[cur]).length bs.length n1 0 l.length),(10,.bool z.2)],⟨stk++[cur],bs++[⟨n1,us z.1⟩],nz,[]::live,fl⟩⟩) (fun z=>2*z.1.sum+(if z.2 then 1 else 0)) ((List.replicate l.length A).set 0 p0,true) ?_ ?_
   ·refine⟨⟨VI.start (nxt l) l.length (Wm l) p0 (by omega) hnx hps hWsub hpA,fun e=>by cases e⟩,?_⟩
    simp only[go_sem,G6,G7,xO]
    simp
   ·rintro⟨mm,ch⟩ σ ⟨⟨hR,hdone⟩,nz,hσ⟩
    rw[hσ]
    clear hσ σ
    dsimp only at hR hdone⊢
    cases ch with
    |false=>
     have hdone:=hdone rfl
     simp only[go_sem,G6,G7,G8,xk]
     refine zg (α:=Nat) (fun k σ=>k≤l.length∧ ∃nz mk,(mk.length=l.length∧ ∀i,i<l.length→mk.getD i 0=if i<k then(if i=l.length-1 then 0 else mskOf (nxt l) (Wm l) p0 i) else mm.getD i 0)∧heads [0,7,8,15] (bs.length+1) σ=⟨tmps 114 [(0,x),(7,.arr (stk++[cur]).length j st 0 l.length),(8,.arr (stk++[cur]).length bs.length n1 0 l.length),(15,.int .i64 k)],⟨stk++[cur],bs++[⟨n1,us mk⟩],nz,[]::live,fl⟩⟩) (fun k=>l.length-k) 0 ?_ ?_
     ·refine⟨w0e _,?_⟩
      simp only[go_sem,G6,G7,xO]
      exact⟨_,mm,⟨hR.l,fun i _=>by rw[if_neg (w34 _)]⟩,rfl⟩
     ·rintro k σ ⟨hk,nz,mk,⟨hml,hmk⟩,hσ⟩
      rw[hσ]
      clear hσ σ
      dsimp only at hk⊢
      by_cases h:k<l.length
      ·have hsucc:=zq h hmx
       have hixk:idx (.int .i64 (k:Int)) l.length=some k:=zX .i64 k l.length h
       have hgl:=xN (s:=led) (j:=k) (by omega)
       have hbl:k+1≤(us mk).length:=by rw[Yu,hml];exact h
       have hst:(us mk).take k++[.int .u64 0]++(us mk).drop (k+1)=us (mk.set k 0):=Ys (s:=mk) (j:=k) 0 (by omega)
       have hsub:IntKind.i64.wrap ((l.length:Int)-1)=((l.length-1:Nat):Int):=by rw[z6 (by omega) (by omega)];omega
       have hdk:=hdone k
       have zero:(mskOf (nxt l) (Wm l) p0 k=0∨k=l.length-1)→(mk.set k 0).length=l.length∧ ∀i,i<l.length→(mk.set k 0).getD i 0=if i<k+1 then(if i=l.length-1 then 0 else mskOf (nxt l) (Wm l) p0 i) else mm.getD i 0:=fun q=>by
        grind
       cases hlk:led.getD k false
       ·rw[hlk] at hgl hdk
        simp only[go_sem,G6,G7,G8,ZM,Vf,xO,w11,w02,h,hx.len,z7,hixk,hbj',hgl,hbl,hst,hsucc]
        refine⟨k+1,by omega,h,nz,mk.set k 0,zero (.inl ?_),rfl⟩
        grind
       ·rw[hlk] at hgl hdk
        by_cases hkl:k=l.length-1
        ·have hkb:((k:Int)==((l.length-1:Nat):Int))=true:=by rw[beq_iff_eq];omega
         simp only[go_sem,G6,G7,G8,ZM,Vf,xO,w11,w02,h,hx.len,z7,hixk,hbj',hgl,hsub,hkb,hbl,hst,hsucc]
         exact⟨k+1,by omega,h,nz,mk.set k 0,zero (.inr hkl),rfl⟩
        ·have hkb:((k:Int)==((l.length-1:Nat):Int))=false:=by rw[beq_eq_false_iff_ne];omega
         simp only[go_sem,G6,G7,G8,xO,w11,w02,h,hx.len,z7,hixk,hbj',hgl,hsub,hkb,hsucc]
         refine⟨k+1,by omega,h,nz,mk,⟨hml,fun i hi=> ?_⟩,rfl⟩
         grind
      ·have hke:k=l.length:=by omega
       subst hke
       simp only[go_sem,G6,G7,G8,w02,h,hx.len]
       refine V7 (w:=id) (.inl rfl) (cs:=us mk) (ZM _ _) (TG _ _ _ _) ⟨_,rfl,hml,fun i hi=> ?_⟩
       grind
    |true=>
     simp only[go_sem,G6,G7,G8,xk]
     refine zg (α:=Nat) (fun i σ=>i≤l.length∧ ∃nz,heads [0,7,8,10,11] (bs.length+1) σ=⟨tmps 114 [(0,x),(7,.arr (stk++[cur]).length j st 0 l.length),(8,.arr (stk++[cur]).length bs.length n1 0 l.length),(10,.bool (livR (nxt l) (Wm l) led mm i).2),(11,.int .i64 i)],⟨stk++[cur],bs++[⟨n1,us (livR (nxt l) (Wm l) led mm i).1⟩],nz,[]::live,fl⟩⟩) (fun i=>l.length-i) 0 ?_ ?_
     ·refine⟨w0e _,?_⟩
      simp only[go_sem,G6,G7,xO,livR]
      simp
     ·rintro i σ ⟨hi,nz,hσ⟩
      rw[hσ]
      clear hσ σ
      dsimp only at hi⊢
      by_cases h:i<l.length
      ·have hK:=WY (nxt l) l.length (Wm l) p0 hnx hled hR i hi
       have hstep:livR (nxt l) (Wm l) led mm (i+1)=livI (nxt l) (Wm l) led (livR (nxt l) (Wm l) led mm i) i:=rfl
       have hsu:IntKind.i64.wrap ((i:Int)+1)=((i+1:Nat):Int):=zq h hmx
       have hixi:idx (.int .i64 (i:Int)) l.length=some i:=zX .i64 i l.length h
       have hgl:=xN (s:=led) (j:=i) (by omega)
       obtain⟨c1,c2,c3⟩:=hc.at h
       have hWr:=fun m=>(z6a (inA l i) c2 c1 m).eq
       have hWi:maskN (wrs (inA l i))=Wm l i:=by unfold Wm;rw[if_pos h]
       rw[hWi] at hWr
       simp only[go_sem,G6,G7,G8,w02,h,hx.len]
       refine(Tv l x hx i h (Wa c1) _).xv fun y k1 ⟨hy,hyt⟩=> ?_
       simp only[go_sem,G6,G8,xk]
       generalize livR (nxt l) (Wm l) led mm i=q0 at*
       cases hin:led.getD i false
       ·rw[hin] at hgl
        rw[yW]
        by_cases hq0:((0:Int)<((nxt l i).length:Nat))
        ·simp only[go_sem,G6,G7,G8,xk,xO,w11,hy.len,hq0,z7,hixi,hbj',hgl,hsu]
         refine⟨i+1,by omega,by omega,k1,?_⟩
         rw[hstep];unfold livI;rw[hin];rfl
        ·simp only[go_sem,G6,G7,G8,xk,xO,hy.len,hq0,hsu]
         refine⟨i+1,by omega,by omega,k1,?_⟩
         rw[hstep];unfold livI;rw[hin];rfl
       ·rw[hin] at hgl
        have hri:=(hled i).1 hin
        have hfold: ∀q,q≤(nxt l i).length→VK (nxt l) l.length (Wm l) p0 mm i (((nxt l i).take q).foldl (livK (Wm l) i) q0):=fun q hq=>
         (VN (nxt l) l.length (Wm l) p0 hri hK (ks:=(nxt l i).take q) (done:=[]) (fun k hk=>⟨w3d hk,hnx i h k (w3d hk)⟩) (fun _ k hk=>by cases hk)).1
        refine zg (α:=Nat) (fun q σ=>q≤(nxt l i).length∧ ∃nz,heads [0,7,8,10,11,12,13] (bs.length+1) σ=⟨tmps 114 [(0,x),(7,.arr (stk++[cur]).length j st 0 l.length),(8,.arr (stk++[cur]).length bs.length n1 0 l.length),(10,.bool (((nxt l i).take q).foldl (livK (Wm l) i) q0).2),(11,.int .i64 i),(12,y),(13,.int .i64 q)],⟨stk++[cur],bs++[⟨n1,us (((nxt l i).take q).foldl (livK (Wm l) i) q0).1⟩],nz,[]::live,fl⟩⟩) (fun q=>(nxt l i).length-q) 0 ?_ ?_
        ·refine⟨w0e _,?_⟩
         simp only[go_sem,G6,G7,xO,w1a,List.foldl_nil]
         simp
        ·rintro q σ ⟨hq,nz,hσ⟩
         rw[hσ]
         clear hσ σ
         dsimp only at hq⊢
         have hKq:=hfold q hq
         by_cases hqn:q<(nxt l i).length
         ·have hsucc:((nxt l i).take (q+1)).foldl (livK (Wm l) i) q0=livK (Wm l) i (((nxt l i).take q).foldl (livK (Wm l) i) q0) (nxt l i)[q]:=by rw[w0f hqn,List.foldl_append];rfl
          have hkn:=hnx i h (nxt l i)[q] (w04 hqn)
          generalize ((nxt l i).take q).foldl (livK (Wm l) i) q0=p at*
          have hpl2:=hKq.r.l
          have e1:nth y q= .int .i64 ((nxt l i)[q]:Nat):=hy.nth hqn
          have hsq:IntKind.i64.wrap ((q:Int)+1)=((q+1:Nat):Int):=by have:=WR l i;rw[z6 (by omega) (by omega)];omega
          have hgi:=qj (s:=p.1) (j:=i) (by omega)
          have hixk:idx (.int .i64 ((nxt l i)[q]:Nat)) l.length=some (nxt l i)[q]:=zX .i64 _ l.length hkn
          have hgk:=qj (s:=p.1) (j:=(nxt l i)[q]) (by omega)
          have hlt:((q:Int)<((nxt l i).length:Nat))=True:=eq_true (by omega)
          have hor:=z3d (hKq.r.lt i) (QC hc i)
          have hand:=z4I (b:=p.1.getD i 0|||Wm l i) (hKq.r.lt (nxt l i)[q]) (T2 (hKq.r.lt i) (QC hc i))
          simp only[go_sem,G3,G6,G7,G8,ZM,w11,hy.len,hlt,z7,hixi,hbj',hgl,hgi,hy.at .i64 hqn,e1,hixk,hgk,hx.at _ h,hx.inA h,hWr,hor,hand]
          by_cases he:p.1.getD (nxt l i)[q] 0&&&(p.1.getD i 0|||Wm l i)=p.1.getD (nxt l i)[q] 0
          ·have hb:(((p.1.getD (nxt l i)[q] 0&&&(p.1.getD i 0|||Wm l i):Nat):Int) !=((p.1.getD (nxt l i)[q] 0:Nat):Int))=false:=by rw[he];simp
           simp only[go_sem,G6,G8,xO,hb,hsq]
           refine⟨q+1,by omega,by omega,?_⟩
           rw[hsucc];unfold livK
           simp_all
          ·have hb:(((p.1.getD (nxt l i)[q] 0&&&(p.1.getD i 0|||Wm l i):Nat):Int) !=((p.1.getD (nxt l i)[q] 0:Nat):Int))=true:=by rw[bne_iff_ne,ne_eq,Int.ofNat_inj];exact he
           have hst:=Ys (s:=p.1) (j:=(nxt l i)[q]) (p.1.getD (nxt l i)[q] 0&&&(p.1.getD i 0|||Wm l i)) (by omega)
           have hbl:(nxt l i)[q]+1≤(us p.1).length:=by rw[Yu];omega
           simp only[go_sem,G6,G8,ZM,Vf,xO,w11,hb,hy.at .i64 hqn,e1,z7,hixk,hbl,hst,hsq]
           refine⟨q+1,by omega,by omega,?_⟩
           rw[hsucc];unfold livK
           simp_all
         ·have hqe:q=(nxt l i).length:=by omega
          subst hqe
          rw[w0a] at*
          simp only[go_sem,G6,G7,G8,xk,xO,hy.len,show(((nxt l i).length:Nat):Int)<((nxt l i).length:Nat)↔False from⟨fun h=>by omega,False.elim⟩,hsu]
          refine⟨i+1,by omega,by omega,nz,?_⟩
          rw[hstep];unfold livI;rw[hin];rfl
      ·have hie:i=l.length:=by omega
       subst hie
       have hK:=WY (nxt l) l.length (Wm l) p0 hnx hled hR l.length (w08 _)
       simp only[go_sem,G6,G7,G8,xk,xO,w02,h,hx.len]
       refine⟨livR (nxt l) (Wm l) led mm l.length,?_,⟨hK.r,fun e j=>by rw[(hK.eq e).1];exact z6x (nxt l) l.length (Wm l) p0 (by omega) hnx hled hR e j⟩,_,rfl⟩
       have h1:=hK.le
       cases hch:(livR (nxt l) (Wm l) led mm l.length).2
       ·simp;omega
       ·have:=hK.lt hch
        simp;omega
def frst (E:Nat→Int):Nat→Option Nat
 |0=>none
 |n+1=>match frst E n with
  |some i=>some i
  |none=>if E n=0 then none else some n
theorem te {E:Nat→Int}: ∀n,frst E n=none↔ ∀j,j<n→E j=0
 |0=>by simp[frst]
 |n+1=>by
  have ih:=te (E:=E) n
  unfold frst
  grind
theorem T5 {E:Nat→Int} {k:Nat} (hE:E k≠0) (hp: ∀j,j<k→E j=0): ∀n,k<n→frst E n=some k
 |0,h=>absurd h (w34 _)
 |n+1,h=>by
  unfold frst
  by_cases hk:k=n
  ·rw[(te n).2 (by rw[←hk];exact hp)]
   grind
  ·rw[T5 hE hp n (by omega)]
theorem z3g {d:DImage} (h:err09 d=0):FineI d:=by
 by_cases hf:FineI d
 ·exact hf
 ·exfalso;unfold err09 at h;rw[zS hf] at h;simp at h
structure FunQ (d:DImage) (f:DFunc):Prop where
 img:ImgP d
 ty:TypP d.types
 sl: ∀k,k<d.funcs.length→(fnA d.funcs k).slots.length≤1000
 s:SlotsP d f
 c:CodeP f.code
 p:0≤f.params∧f.params≤f.slots.length∧(f.slots.length:Int)≤16
 r: -1≤f.result
theorem FunQ.of {d:DImage} (hw:WfImage d) (h:FineI d) {g:Nat} (hg:g<d.funcs.length):FunQ d (fnA d.funcs g):=by
 obtain⟨h1,h2,h3,h4,h5,h6,h7,h8⟩:=h
 have hf: ∀k,k<d.funcs.length→FuncP d.types.length (fnA d.funcs k)∧WfFunc (fnA d.funcs k):=fun k hk=>by
  rw[←V5 hk];exact⟨h7 _ (w04 hk),hw.funcs _ (w04 hk)⟩
 obtain⟨⟨p1,p2,p3,p4,p5,p6,p7⟩,q1,q2,q3,q4,q5,q6⟩:=(hf g hg).1
 refine⟨⟨fun g hg=> ?_⟩,⟨hw.types,h1,h5⟩,fun k hk=> ?_,q1,⟨⟨q3,q4⟩,q2,fun x hx=> ?_⟩,⟨p4,p5,p2⟩,p6⟩
 ·obtain⟨⟨_,_,_,r4,r5,r6,_⟩,r,_⟩:=h7 g hg
  exact⟨r,r5,r4,r6⟩
 ·obtain⟨⟨_,r2,_⟩,_⟩:=(hf k hk).1
  omega
 ·have:=(hf g hg).2.code x hx
  exact⟨⟨this.a,this.b,this.c⟩,this.op⟩
def ldP (f:DFunc) (i:Nat):Prop:=Rch (nxt f.code) i∨i=f.code.length-1
open Classical in
noncomputable def insE (d:DImage) (f:DFunc) (i:Nat):Int:=
 if¬NearP d f (inA f.code i) then 16 else if¬ldP f i then 6 else if typP d f (inA f.code i)=true then 0 else 30
noncomputable def mskF (f:DFunc) (i:Nat):Nat:=if i=f.code.length-1 then 0 else mskOf (nxt f.code) (Wm f.code) (2^f.params.toNat-1) i
noncomputable def msks (f:DFunc):List Nat:=(List.range f.code.length).map (mskF f)
open Classical in
noncomputable def livE (f:DFunc) (i:Nat):Int:=if∀s∈rds (inA f.code i),(mskF f i>>>s.toNat)%2≠0 then 0 else 38
open Classical in
noncomputable def wrongS (d:DImage) (g:Nat) (f:DFunc):Int×Int:=
 if¬Ok07 f.code then(-1,12) else if g=0∧(f.params≠0∨f.result≠ -1) then(-1,30) else
 match frst (insE d f) f.code.length with
 |some i=>((i:Int),insE d f i)
 |none=>if¬ScrP d f then(-1,36) else
  match frst (livE f) f.code.length with
  |some i=>((i:Int),38)
  |none=>(0,0)
noncomputable def sizS (d:DImage) (f:DFunc):List DRun:=madeR ((labs d f).map (sumB d.types))
noncomputable def livS (f:DFunc):List DRun:=madeR (msks f)
theorem z6T {d:DImage} {f:DFunc} {i:Nat} (h:insE d f i=0):NearP d f (inA f.code i)∧ldP f i∧typP d f (inA f.code i)=true:=by
 unfold insE at h
 grind
theorem Ya {d:DImage} {g:Nat} {f:DFunc} (h: ¬Ok07 f.code):wrongS d g f=(-1,12):=by unfold wrongS;rw[if_pos h]
theorem qD {d:DImage} {g:Nat} {f:DFunc} (h:Ok07 f.code) (h2:g=0∧(f.params≠0∨f.result≠ -1)):wrongS d g f=(-1,30):=by
 unfold wrongS;rw[if_neg (fun q=>q h),if_pos h2]
section
variable {d : DImage} {g : Nat} {f : DFunc} (h : Ok07 f.code) (h2 : ¬ (g = 0 ∧ (f.params ≠ 0 ∨ f.result ≠ -1)))
include h h2
theorem Zm {i:Nat} (hi:i<f.code.length) (hp: ∀j,j<i→insE d f j=0) (he:insE d f i≠0):wrongS d g f=((i:Int),insE d f i):=by
 unfold wrongS;rw[if_neg (fun q=>q h),if_neg h2,T5 he hp _ hi]
theorem Te (h3: ∀j,j<f.code.length→insE d f j=0) (h4: ¬ScrP d f):wrongS d g f=(-1,36):=by
 unfold wrongS;rw[if_neg (fun q=>q h),if_neg h2,(te _).2 h3];exact if_pos h4
theorem Tf (h3: ∀j,j<f.code.length→insE d f j=0) (h4:ScrP d f) {i:Nat} (hi:i<f.code.length) (hp: ∀j,j<i→livE f j=0) (he:livE f i≠0):wrongS d g f=((i:Int),38):=by
 unfold wrongS;rw[if_neg (fun q=>q h),if_neg h2,(te _).2 h3]
 simp only[]
 rw[if_neg (fun q=>q h4),T5 he hp _ hi]
theorem X7 (h3: ∀j,j<f.code.length→insE d f j=0) (h4:ScrP d f) (h5: ∀j,j<f.code.length→livE f j=0):wrongS d g f=(0,0):=by
 unfold wrongS;rw[if_neg (fun q=>q h),if_neg h2,(te _).2 h3]
 simp only[]
 rw[if_neg (fun q=>q h4),(te _).2 h5]
end
theorem Ua {d:DImage} {g:Nat} {f:DFunc} (h:(wrongS d g f).2=0):Ok07 f.code∧ ¬(g=0∧(f.params≠0∨f.result≠ -1))∧(∀j,j<f.code.length→insE d f j=0)∧ScrP d f∧ ∀j,j<f.code.length→livE f j=0:=by
 by_cases h1:Ok07 f.code
 case neg=>rw[Ya h1] at h;exact absurd h (by decide)
 by_cases h2:g=0∧(f.params≠0∨f.result≠ -1)
 ·rw[qD h1 h2] at h;exact absurd h (by decide)
 unfold wrongS at h
 rw[if_neg (fun q=>q h1),if_neg h2] at h
 split at h
 ·rename_i i hi
  exfalso
  have: ¬frst (insE d f) f.code.length=none:=by rw[hi];intro q;cases q
  have hne: ∀n,frst (insE d f) n=some i→insE d f i≠0:=fun n=>by
   induction n with
   |zero=>intro q;cases q
   |succ n ih=>
    intro q
    unfold frst at q
    grind
  grind
 ·rename_i hn
  split at h
  ·omega
  ·rename_i h4
   split at h
   ·simp at h
   ·rename_i hl
    exact⟨h1,h2,(te _).1 hn,Classical.not_not.1 h4,(te _).1 hl⟩
theorem FunQ.funP {d:DImage} {f:DFunc} (h:FunQ d f) (h7:Ok07 f.code) (hi: ∀j,j<f.code.length→insE d f j=0):FunP d f:=
 ⟨h.img,h.ty,h.sl,h.s,h.c,h7,fun i hl=>(z6T (hi i hl)).1⟩
theorem FunP.near16 {d:DImage} {f:DFunc} (h:FunP d f):Near16 f.code f.slots.length:=fun i hi=>
 ⟨fun s hs=>(h.n i hi).1 s (w52 _ hs),fun s hs=>(h.n i hi).1 s (w5a _ hs)⟩
theorem WU (f:DFunc):(msks f).length=f.code.length:=by simp[msks]
theorem TS {f:DFunc} {i:Nat} (h:i<f.code.length):(msks f).getD i 0=mskF f i:=by
 unfold msks;rw[w03,w22,List.getElem?_range h];rfl
theorem z1N {f:DFunc} {o:List Nat} (hl:o.length=f.code.length) (h: ∀i,i<f.code.length→o.getD i 0=if i=f.code.length-1 then 0 else mskOf (nxt f.code) (Wm f.code) (2^f.params.toNat-1) i):o=msks f:=by
 apply List.ext_getElem
 ·rw[hl,WU]
 ·intro j h1 h2
  have:=h j (by omega)
  rw[←Q3 h1,this,←Q3 h2,TS (by omega)];rfl
theorem sub16 {x:Nat} (h:x<65536):Sub x 65535:=fun s hs=>by
 have:(65535:Nat)=2^16-1:=by decide
 rw[this,Nat.testBit_two_pow_sub_one,decide_eq_true_iff]
 apply Classical.byContradiction
 intro q
 have h2:x<2^s:=w55 h (w4a (n:=2) (by decide) (show 16≤s by omega))
 rw[Nat.testBit_lt_two_pow h2] at hs;cases hs
theorem z5y {f:DFunc} (hc:CodeP f.code) (hp:f.params≤16) (i:Nat):mskF f i<65536:=by
 unfold mskF
 split
 ·omega
 ·have hp0:2^f.params.toNat-1<65536:=by
   have:2^f.params.toNat≤65536:=w4a (by decide) (show f.params.toNat≤16 by omega)
   omega
  unfold mskOf
  split
  ·rename_i h
   have:=(Great.le (nxt f.code) (Wm f.code) _ (n:=0) h.choose_spec (sub16 hp0) (fun j=>sub16 (QC hc j)) i).le
   omega
  ·omega
theorem z2L {f:DFunc} {i:Nat} {s:Int} (hs:s∈rds (inA f.code i)) (h:(mskF f i>>>s.toNat)%2=0):livE f i≠0:=by
 unfold livE;rw[if_neg fun q=>q s hs h];decide
theorem z5C {f:DFunc} {i:Nat} (h: ∀s∈rds (inA f.code i),(mskF f i>>>s.toNat)%2≠0):livE f i=0:=by
 unfold livE;rw[if_pos h]
theorem z83 {d:DImage} {f:DFunc} (h:FunP d f) (hp:(f.slots.length:Int)≤16) {i:Nat} (hi:i<f.code.length): ∀s∈rds (inA f.code i),0≤s∧s≤16:=fun s hs=>by
 have:=(h.near16 i hi).1 s hs
 have:=z82 s hs
 omega
theorem z5r (x:DInstr):(rds x).length≤3:=by
 unfold rds rdsk
 grind
theorem QX (d:DImage) (hd:ImgP d) (y:AV) (hy:IsImage d y) (g:Nat) (hg:g<d.funcs.length) (hC:CodeP (fnA d.funcs g).code) (i:Nat) (hi:i<(fnA d.funcs g).code.length) (b:Bool) (hb:b=true↔ldP (fnA d.funcs g) i) (m:Mem) (hf:m.floor≤m.stk.length+1):
  Okv tab 358 [y,.int .i64 g,.int .i64 i,.bool b] m (.int .i64 (insE d (fnA d.funcs g) i)):=by
 have hy':=hy
 obtain⟨ty,tx,fs,rfl,h0,h1,h2⟩:=hy
 obtain⟨w0,w1,w2,w3,ef,q0,q1,q2,q3⟩:=h2.fnA hg
 have hat:=h2.at .i64 hg
 refine zp (tT xm) ?_
 obtain⟨stk,cur,nx,live,fl⟩:=m
 dsimp only at hf
 have hf':fl≤(stk++[cur]).length+1:=by simp;omega
 obtain⟨c1,c2,c3⟩:=hC.at hi
 have hN:=fun c n lv=>(zb5 d _ hy' g hg _ c1 c2 ⟨stk++[cur],c,n,lv,fl⟩).eq
 have hT:=fun hn c n lv=>(z9w d hd _ hy' g hg _ c1 c2 hn ⟨stk++[cur],c,n,lv,fl⟩ hf').eq
 have hinA:=q1.inA hi
 have hat2:=q1.at .i64 hi
 generalize fnA d.funcs g=f at*
 simp only[xm,go_sem,G3,G6,G8,hat,ef,hat2,hinA,hN]
 by_cases hn:NearP d f (inA f.code i)
 case neg=>
  simp only[go_sem,G6,G8,zS hn]
  rw[z4 rfl rfl,z5]
  exact⟨⟨_,rfl⟩,by unfold insE;rw[if_pos hn]⟩
 simp only[go_sem,G6,G8,yB hn]
 cases b
 ·have hl: ¬ldP f i:=fun q=>by have:=hb.2 q;cases this
  simp only[go_sem,G6,G8]
  rw[z4 rfl rfl,z5]
  exact⟨⟨_,rfl⟩,by unfold insE;rw[if_neg (fun q=>q hn),if_pos hl]⟩
 have hl:ldP f i:=hb.1 rfl
 simp only[go_sem,G3,G6,G8,hT hn]
 cases hty:typP d f (inA f.code i)
 ·simp only[go_sem,G6,G8]
  rw[z4 rfl rfl,z5]
  exact⟨⟨_,rfl⟩,by unfold insE;rw[if_neg (fun q=>q hn),if_neg (fun q=>q hl),if_neg (by rw[hty];decide)]⟩
 ·simp only[go_sem,G6,G8]
  rw[z4 rfl rfl,z5]
  exact⟨⟨_,rfl⟩,by unfold insE;rw[if_neg (fun q=>q hn),if_neg (fun q=>q hl),if_pos hty]⟩
theorem z3V (d:DImage) (y:AV) (hy:IsImage d y) (g:Nat) (hg:g<d.funcs.length) (h:FunQ d (fnA d.funcs g)) (m:Mem) (hf:m.floor≤m.stk.length+1):
  Okv tab 305 [y,.int .i64 g] m (.tup [.int .i64 (wrongS d g (fnA d.funcs g)).1,.int .i64 (wrongS d g (fnA d.funcs g)).2]):=by
 have hy':=hy
 obtain⟨ty,tx,fs,rfl,h0,h1,h2⟩:=hy
 obtain⟨w0,w1,w2,w3,ef,q0,q1,q2,q3⟩:=h2.fnA hg
 have hat:=h2.at .i64 hg
 refine zp (tT xa) ?_
 obtain⟨stk,cur,nx,live,fl⟩:=m
 dsimp only at hf
 have hf':fl≤(stk++[cur]).length+1:=by simp;omega
 have hmx:max fl ((stk++[cur]).length+1)≤(stk++[cur]).length+1:=by omega
 have hIn:=fun hC i hi b hb c n lv=>(QX d h.img _ hy' g hg hC i hi b hb ⟨stk++[cur],c,n,lv,max fl ((stk++[cur]).length+1)⟩ hmx).eq
 have hScr:=fun hFP c n lv=>Tu d _ hy' g hg hFP ⟨stk++[cur],c,n,lv,fl⟩ hf'
 generalize hF:fnA d.funcs g=f at*
 have hC:=h.c
 have hln:=h.c.len
 have o3:=q0.one
 have o4:=q1.one
 have o5:=q2.one
 have o6:=q3.one
 have hCk:=fun m=>(QR f.code w1 q1 hC m).eq
 by_cases h7:Ok07 f.code
 case neg=>
  rw[jo h7] at hCk
  simp only[xa,go_sem,G3,G6,G8,hat,ef,o3,o4,o5,o6,hCk,show((8:Int) !=0)=true from rfl]
  rw[z4 rfl rfl,z5]
  exact⟨⟨_,rfl⟩,by rw[Ya h7]⟩
 rw[Zi h7] at hCk
 simp only[xa,go_sem,G3,G6,G8,hat,ef,o3,o4,o5,o6,hCk,show((0:Int) !=0)=false from rfl]
 by_cases hmn:g=0∧(f.params≠0∨f.result≠ -1)
 ·have e0':((g:Int)==0)=true:=by rw[hmn.1];rfl
  by_cases e2:f.params=0
  ·have e3:f.result≠ -1:=hmn.2.elim (fun q=>absurd e2 q) id
   simp only[go_sem,G6,G8,e0',show(f.params !=0)=false by simpa using e2,show(f.result != -1)=true by simpa using e3]
   rw[z4 rfl rfl,z5]
   exact⟨⟨_,rfl⟩,by rw[qD h7 hmn]⟩
  ·simp only[go_sem,G6,G8,e0',show(f.params !=0)=true by simpa using e2]
   rw[z4 rfl rfl,z5]
   exact⟨⟨_,rfl⟩,by rw[qD h7 hmn]⟩
 have hcase:(((g:Int)==0)=false)∨((g:Int)==0)=true∧(f.params !=0)=false∧(f.result != -1)=false:=by
  grind
 rcases hcase with e1|⟨e1,e2,e3⟩
 case' inl=>simp only[go_sem,G6,G8,e1]
 case' inr=>simp only[go_sem,G6,G8,e1,e2,e3]
 all_goals
  generalize callNx tab 356 _ _=nz
  obtain⟨bs,k1,j1,st1,cs,hLc,hLj,hLl,s1,hcs,hsl,hs1⟩:=zaI f.code w1 q1 h.c h7 ⟨stk++[cur],[⟨nx,[ty,tx,fs]⟩,⟨nx+1,[.str f.name,.int .i64 f.params,.int .i64 f.result,w0,w1,w2,w3]⟩],nz,[]::live,max fl ((stk++[cur]).length+1)⟩ hmx
  subst hcs
  simp only[w26,w2e,id] at hLc hLj hLl
  obtain⟨p1,rfl⟩: ∃p,j1=p+2:=⟨j1-2,by simp at hLl;omega⟩
  simp only[w4e] at hLj
  have hsub:IntKind.i64.wrap ((f.code.length:Int)-1)=((f.code.length-1:Nat):Int):=by rw[z6 (by omega) (by omega)];omega
  simp only[go_sem,G6,G8,hLc,q1.len,hsub]
  refine zg (α:=Nat) (fun i σ=>(i≤f.code.length∧ ∀j,j<i→insE d f j=0)∧ ∃nz e,heads [1,2,6,7,8,9] (bs.length+2) σ=⟨tmps 120 [(1,.int .i64 g),(2,.ptr (stk++[cur]).length 0 nx 0),(6,.ptr (stk++[cur]).length 1 (nx+1) 0),(7,.arr (stk++[cur]).length (p1+2) st1 0 f.code.length),(8,.int .i64 (f.code.length-1:Nat)),(9,.int .i64 i)],⟨stk++[cur],⟨nx,[ty,tx,fs]⟩::⟨nx+1,[.str f.name,.int .i64 f.params,.int .i64 f.result,w0,w1,w2,w3]⟩::bs,nz,e::live,fl⟩⟩) (fun i=>f.code.length-i) 0 ?_ ?_
  ·refine⟨⟨w0e _,fun j hj=>absurd hj (w34 _)⟩,?_⟩
   simp only[go_sem,G6,G7,w0a]
   exact⟨_,_,rfl⟩
  ·clear hLc
   rintro i σ ⟨⟨hi,hE⟩,nz,e,hσ⟩
   rw[hσ]
   clear hσ σ
   dsimp only at hi hE⊢
   by_cases hin:i<f.code.length
   ·have hsu:IntKind.i64.wrap ((i:Int)+1)=((i+1:Nat):Int):=zq hin q1.max
    have hix:idx (.int .i64 (i:Int)) f.code.length=some i:=zX .i64 i _ hin
    have hgi:=xN (s:=s1) (j:=i) (by omega)
    have hld:(s1.getD i false||((i:Int)==((f.code.length-1:Nat):Int)))=true↔ldP f i:=by
     rw[w2f,hs1,beq_iff_eq]
     unfold ldP
     grind
    have hI:=hIn hC i hin _ hld
    have hres: ∀e,insE d f i=e→e≠0→wrongS d g f=((i:Int),e):=fun e he hne=>by
     rw[Zm h7 hmn hin hE (by rw[he];exact hne),he]
    have hcase2:(s1.getD i false=true)∨(s1.getD i false=false):=by cases s1.getD i false<;>simp
    rcases hcase2 with hsv|hsv
    case' inl=>
     rw[hsv] at hgi hI
     rw[Bool.true_or] at hI
     simp only[go_sem,G3,G6,G7,G8,q1.len,w02,hin,z7,hix,w11,hLj,hgi,hI]
    case' inr=>
     rw[hsv] at hgi hI
     rw[Bool.false_or] at hI
     simp only[go_sem,G3,G6,G7,G8,q1.len,w02,hin,z7,hix,w11,hLj,hgi,hI]
    all_goals
     cases hz:insE d f i !=0
     ·have hz':insE d f i=0:=by simpa using hz
      simp only[go_sem,G6,G8,hsu,w0a]
      refine⟨i+1,by omega,⟨hin,fun j hj=> ?_⟩,_,_,rfl⟩
      by_cases hji:j=i
      ·rw[hji];exact hz'
      ·exact hE j (by omega)
     ·have hz':insE d f i≠0:=by simpa using hz
      simp only[go_sem,G6,G8]
      rw[z4 rfl rfl,z5]
      exact⟨⟨_,rfl⟩,by rw[hres _ rfl hz']⟩
   ·have hie:i=f.code.length:=by omega
    subst hie
    have hE': ∀j,j<f.code.length→insE d f j=0:=hE
    have hFP:=h.funP h7 hE'
    obtain⟨ys,bs2,k2,hsc,-⟩:=hScr hFP (⟨nx,[ty,tx,fs]⟩::⟨nx+1,[.str f.name,.int .i64 f.params,.int .i64 f.result,w0,w1,w2,w3]⟩::bs) nz (e::live)
    simp only[w26] at hsc
    simp only[go_sem,G3,G6,G7,G8,q1.len,w02,hin,hsc]
    by_cases hscr:ScrP d f
    case neg=>
     simp only[go_sem,G6,G8,zS hscr]
     rw[z4 rfl rfl,z5]
     exact⟨⟨_,rfl⟩,by rw[Te h7 hmn hE' hscr]⟩
    obtain⟨bs3,k3,j3,st3,cs3,hmc,hmj,hml,o,rfl,hol,hom⟩:=z7F f.code w1 q1 h.c h7 f.params f.slots.length h.p hFP.near16 ⟨stk++[cur],⟨nx,[ty,tx,fs]⟩::⟨nx+1,[.str f.name,.int .i64 f.params,.int .i64 f.result,w0,w1,w2,w3]⟩::(bs++bs2),k2,e::live,fl⟩ hf'
    have hoe:=z1N hol hom
    subst hoe
    simp only[w26,id] at hmc hmj hml
    simp only[go_sem,G6,G8,yB hscr,q0.len,hmc]
    obtain⟨p3,rfl⟩: ∃p,j3=p+2:=⟨j3-2,by simp at hml;omega⟩
    simp only[w4e] at hmj
    clear hLj
    generalize bs++bs2++bs3=R at*
    have hmsl:=WU f
    refine zg (α:=Nat) (fun i σ=>(i≤f.code.length∧ ∀j,j<i→livE f j=0)∧ ∃nz e,heads [6,13,14] (R.length+2) σ=⟨tmps 120 [(6,.ptr (stk++[cur]).length 1 (nx+1) 0),(13,.arr (stk++[cur]).length (p3+2) st3 0 f.code.length),(14,.int .i64 i)],⟨stk++[cur],⟨nx,[ty,tx,fs]⟩::⟨nx+1,[.str f.name,.int .i64 f.params,.int .i64 f.result,w0,w1,w2,w3]⟩::R,nz,e::live,fl⟩⟩) (fun i=>f.code.length-i) 0 ?_ ?_
    ·refine⟨⟨w0e _,fun j hj=>absurd hj (w34 _)⟩,?_⟩
     simp only[go_sem,G6,G7,w0a]
     exact⟨_,_,rfl⟩
    ·clear hsc hmc
     rintro i σ ⟨⟨hi,hL⟩,nz,e,hσ⟩
     rw[hσ]
     clear hσ σ
     dsimp only at hi hL⊢
     by_cases hin:i<f.code.length
     ·obtain⟨c1,c2,c3⟩:=hC.at hin
      have hsu:IntKind.i64.wrap ((i:Int)+1)=((i+1:Nat):Int):=zq hin q1.max
      have hrl:=z83 hFP h.p.2.2 hin
      have hr3:=z5r (inA f.code i)
      have hix:idx (.int .i64 (i:Int)) f.code.length=some i:=zX .i64 i _ hin
      have hgi:=qj (s:=msks f) (j:=i) (by omega)
      rw[TS hin] at hgi
      have hmlt:=z5y h.c (by have:=h.p;omega) i
      simp only[go_sem,G3,G6,G7,G8,q1.len,w02,hin,q1.at .i64 hin,q1.inA hin]
      refine(Vw _ c2 c1 _).xv fun r ts n1 ⟨y1,y2,hr,ho⟩=> ?_
      subst hr
      have hy1:=ho.l.sl (by omega)
      have hlive: ∃e',pushToks ts (e::live)=e'::live:=by cases ts<;>exact⟨_,rfl⟩
      obtain⟨e',he'⟩:=hlive
      simp only[go_sem,G6,G8,he']
      refine zg (α:=Nat) (fun k σ=>(k≤(rds (inA f.code i)).length∧ ∀s∈(rds (inA f.code i)).take k,(mskF f i>>>s.toNat)%2≠0)∧ ∃nz,heads [6,13,14,15,17] (R.length+2) σ=⟨tmps 120 [(6,.ptr (stk++[cur]).length 1 (nx+1) 0),(13,.arr (stk++[cur]).length (p3+2) st3 0 f.code.length),(14,.int .i64 i),(15,y1),(17,.int .i64 k)],⟨stk++[cur],⟨nx,[ty,tx,fs]⟩::⟨nx+1,[.str f.name,.int .i64 f.params,.int .i64 f.result,w0,w1,w2,w3]⟩::R,nz,e'::live,fl⟩⟩) (fun k=>(rds (inA f.code i)).length-k) 0 ?_ ?_
      ·refine⟨⟨w0e _,fun s hs=>by cases hs⟩,?_⟩
       simp only[go_sem,G6,G7,w0a]
       exact⟨_,rfl⟩
      ·rintro k σ ⟨⟨hk,hK⟩,nz,hσ⟩
       rw[hσ]
       clear hσ σ
       dsimp only at hk hK⊢
       by_cases hkn:k<(rds (inA f.code i)).length
       ·have hmem:(rds (inA f.code i))[k]∈rds (inA f.code i):=w04 hkn
        have e1:nth y1 k= .int .i64 (rds (inA f.code i))[k]:=hy1.nth hkn
        have hatk:=hy1.at .i64 hkn
        have htk:=w0f hkn
        have hsk:=hrl _ hmem
        generalize (rds (inA f.code i))[k]=s at*
        have hsu2:IntKind.i64.wrap ((k:Int)+1)=((k+1:Nat):Int):=by rw[z6 (by omega) (by omega)];omega
        simp only[go_sem,G6,G7,G8,hy1.len,w02,hkn,hatk,e1,z7,hix,w11,hmj,hgi,z4H hsk]
        have htm:((mskF f i>>>s.toNat:Nat):Int).tmod 2=((mskF f i>>>s.toNat%2:Nat):Int):=(Int.ofNat_tmod _ 2).symm
        by_cases hb:mskF f i>>>s.toNat%2=0
        ·have hb':(((mskF f i>>>s.toNat%2:Nat):Int)==0)=true:=by rw[hb];rfl
         simp only[go_sem,G6,G8,show((2:Int)=0)=False from eq_false (by decide),htm,hb']
         rw[z4 rfl rfl,z5]
         exact⟨⟨_,rfl⟩,by rw[Tf h7 hmn hE' hscr hin hL (z2L hmem hb)]⟩
        ·have hb':(((mskF f i>>>s.toNat%2:Nat):Int)==0)=false:=by rw[beq_eq_false_iff_ne];omega
         simp only[go_sem,G6,G8,show((2:Int)=0)=False from eq_false (by decide),htm,hb',hsu2,w0a]
         refine⟨k+1,by omega,⟨hkn,fun q hq=> ?_⟩,_,rfl⟩
         rw[htk,w0b] at hq
         rcases hq with hq|hq
         ·exact hK q hq
         ·rw[w1c.1 hq];exact hb
       ·have hke:k=(rds (inA f.code i)).length:=by omega
        subst hke
        rw[w0a] at hK
        simp only[go_sem,G6,G7,G8,hy1.len,w02,hkn,hsu,w0a]
        refine⟨i+1,by omega,⟨hin,fun j hj=> ?_⟩,_,_,rfl⟩
        by_cases hji:j=i
        ·rw[hji];exact z5C hK
        ·exact hL j (by omega)
     ·have hie:i=f.code.length:=by omega
      subst hie
      simp only[go_sem,G6,G7,G8,q1.len,w02,hin]
      rw[z4 rfl rfl,z5]
      exact⟨⟨_,rfl⟩,by rw[X7 h7 hmn hE' hscr hL]⟩
theorem z9Q {α:Type} {R:α→AV→Prop} {s:Nat} {y:AV} {xs cs:List α} {stk:List (List Blk)} {cur:List Blk} {nx fl:Nat} {e:List Nat} {rest:List (List Nat)} {z:AV} {zs:List AV} {bytes:Nat} (h:Own R s y xs e) (hz: ∀m:Mem,m.elems s z=some zs) (hc:All2 R cs zs) (hl:(xs.length+cs.length)*bytes≤140737488355328):
  ∃y' n e',evApp ⟨stk,cur,nx,e::rest,fl⟩ s bytes y z=some (y',⟨stk,cur,n,e'::rest,fl⟩)∧Own R s y' (xs++cs) e':=by
 obtain⟨y',n,live',h1,h2⟩:=(h.wr rest).app hz hc hl stk cur nx fl
 obtain⟨e',rfl,h3⟩:=h2.own
 exact⟨y',n,e',h1,h3⟩
noncomputable def tabF (d:DImage) (f:DFunc):DFunc:={f with sizes:=sizS d f,lives:=livS f}
theorem z7z (d:DImage) (y:AV) (hy:IsImage d y) (hsm:SmallI d) (g:Nat) (hg:g<d.funcs.length) (hQ:FunQ d (fnA d.funcs g)) (h:FunP d (fnA d.funcs g)) (hscr:ScrP d (fnA d.funcs g)) (m:Mem) (hf:m.floor≤m.stk.length+1):
  OkT tab 306 [y,.int .i64 g] m (fun r _ _=>IsFunc (tabF d (fnA d.funcs g)) r):=by
 have hy':=hy
 obtain⟨ty,tx,fs,rfl,h0,h1,h2⟩:=hy
 refine Zs (tT vx) ?_
 obtain⟨stk,cur,nx,live,fl⟩:=m
 dsimp only at hf
 have hf':fl≤(stk++[cur]).length+1:=by simp;omega
 have hmx:max fl ((stk++[cur]).length+1)≤(stk++[cur]).length+1:=by omega
 have hScr:=fun c n lv=>Tu d _ hy' g hg h ⟨stk++[cur],c,n,lv,fl⟩ hf'
 have hBy:=fun ts x hx hin hlen c n lv=>(z1t d h.ty _ hy' ts x hx hin hlen ⟨stk++[cur],c,n,lv,max fl ((stk++[cur]).length+1)⟩ hmx).eq
 simp only[vx,go_sem,G3,G6,G8]
 refine(z7x d _ hy' hsm _ hf').xv fun r t1 n1 ⟨ty',tx',fs',hr,_,_,hfs⟩=> ?_
 subst hr
 have hlive: ∃e',pushToks t1 ([]::live)=e'::live:=by cases t1<;>exact⟨_,rfl⟩
 obtain⟨e1,he1⟩:=hlive
 obtain⟨w0,w1,w2,w3,ef,q0,q1,q2,q3⟩:=hfs.fnA hg
 have hat:=hfs.at .i64 hg
 generalize hF:fnA d.funcs g=f at*
 have hln:=h.c.len
 have o3:=q0.one
 have o4:=q1.one
 have o5:=q2.one
 have o6:=q3.one
 obtain⟨ys,bs,k2,hsc,hsg⟩:=hScr [⟨nx,[ty,tx,fs]⟩,⟨nx+1,[.str [],.int .i64 0,.int .i64 0,.nils,.nils,.nils,.nils]⟩,⟨n1,[.str f.name,.int .i64 f.params,.int .i64 f.result,w0,w1,w2,w3]⟩] (n1+1) (e1::live)
 obtain⟨j1,st1,cs,rfl,hj1,hl1,hcs,hLI⟩:=hsg hscr.1
 simp only[w26,w2e] at hsc hj1 hl1
 obtain⟨p1,rfl⟩: ∃p,j1=p+3:=⟨j1-3,by simp at hl1;omega⟩
 simp only[w4e] at hj1
 simp only[go_sem,G3,G6,G8,he1,hat,ef,o3,o4,o5,o6,hsc]
 have hlb:(labs d f).length=f.code.length:=z2W d f
 generalize hV:(labs d f).map (sumB d.types)=V
 have hvl:V.length=f.code.length:=by rw[←hV,w58,hlb]
 have hvg: ∀k,k<f.code.length→V.getD k 0=sumB d.types ((labs d f).getD k []):=fun k hk=>by
  rw[←hV,w03,w22,w1d (by omega),w03,w1d (by omega)];rfl
 refine zg (α:=Nat) (fun k σ=>k≤f.code.length∧ ∃nz y e,Own IsU 1 y (V.take k) e∧heads [2,4,5,6,8,9] (bs.length+3) σ=⟨tmps 52 [(2,.ptr (stk++[cur]).length 0 nx 0),(4,.ptr (stk++[cur]).length 1 (nx+1) 0),(5,.ptr (stk++[cur]).length 2 n1 0),(6,.arr (stk++[cur]).length (p1+3) st1 0 f.code.length),(8,y),(9,.int .i64 k)],⟨stk++[cur],⟨nx,[ty,tx,fs]⟩::⟨nx+1,[.str [],.int .i64 0,.int .i64 0,.nils,.nils,.nils,.nils]⟩::⟨n1,[.str f.name,.int .i64 f.params,.int .i64 f.result,w0,w1,w2,w3]⟩::bs,nz,e::live,fl⟩⟩) (fun k=>f.code.length-k) 0 ?_ ?_
 ·refine⟨w0e _,?_⟩
  simp only[go_sem,G6,G7,w0a]
  exact⟨_,_,_,.nil _,rfl⟩
 ·clear hsc hsg
  rintro k σ ⟨hk,nz,y,e,ho,hσ⟩
  rw[hσ]
  clear hσ σ
  dsimp only at hk⊢
  have hel:evLen (.arr (stk++[cur]).length (p1+3) st1 0 f.code.length)=some (.int .i64 f.code.length):=rfl
  by_cases hkn:k<f.code.length
  ·have hix:idx (.int .i64 (k:Int)) f.code.length=some k:=zX .i64 k _ hkn
   obtain⟨yk,hyk,hyks⟩:=tO hcs (k:=k) (by omega)
   obtain⟨hT1,hT2⟩:=hLI k
   have hB:=hBy _ _ hyks hT1 (by omega)
   have hsu:IntKind.i64.wrap ((k:Int)+1)=((k+1:Nat):Int):=by rw[z6 (by omega) (by omega)];omega
   have hB1:sumB d.types ((labs d f).getD k [])≤264*1001:=Nat.le_trans (WG h.ty hT1 _ (w08 _)) (Nat.mul_le_mul_left _ (by omega))
   have hvk:=hvg k hkn
   rw[←hvk] at hB hB1
   have htk:V.take (k+1)=V.take k++[V.getD k 0]:=by
    rw[w0f (by omega),Q3 (by omega)]
   generalize V.getD k 0=q at*
   have hwu:IntKind.u64.wrap ((q:Nat):Int)=((q:Nat):Int):=za (by omega) (by omega)
   simp only[go_sem,G3,G6,G7,G8,hel,w02,hkn,z7,hix,w11,hj1,hyk,hB,hwu]
   generalize callNx tab 362 _ _=nz2
   obtain⟨y',n',e',ha,ho'⟩:=z9Q (stk:=stk++[cur]) (cur:=⟨nx,[ty,tx,fs]⟩::⟨nx+1,[.str [],.int .i64 0,.int .i64 0,.nils,.nils,.nils,.nils]⟩::⟨n1,[.str f.name,.int .i64 f.params,.int .i64 f.result,w0,w1,w2,w3]⟩::bs) (nx:=nz2) (fl:=max fl ((stk++[cur]).length+1)) (rest:=live) (bytes:=8) ho (cs:=[q]) (zh · 1 .full [.int .u64 (q:Int)]) (show All2 IsU [q] [.int .u64 (q:Int)] from⟨rfl,trivial⟩) (by simp only[w20,w29];omega)
   simp only[go_sem,G6,G8,ha,hsu,w0a]
   exact⟨k+1,by omega,hkn,_,_,_,by rw[htk];exact ho',rfl⟩
  ·have hke:k=f.code.length:=by omega
   subst hke
   rw[←hvl,w0a] at ho
   have hos:=ho.sl (by omega)
   simp only[go_sem,G6,G7,G8,hel,w02,hkn]
   refine(z9z V (by omega) _ hos _).xv fun z1 t1 n1' ho1=> ?_
   have hr1:(madeR V).length≤200:=Nat.le_trans (jY _ _) (by omega)
   have hs1:=ho1.sl (by omega)
   have hlive: ∃e',pushToks t1 (e::live)=e'::live:=by cases t1<;>exact⟨_,rfl⟩
   obtain⟨e2,he2⟩:=hlive
   simp only[go_sem,G3,G6,G9,G8,he2,hs1.one,hs1.refs_cells,q0.len]
   obtain⟨bs3,k3,j3,st3,cs3,hmc,hmj,hml,o,rfl,hol,hom⟩:=z7F f.code w1 q1 h.c h.o f.params f.slots.length hQ.p h.near16 ⟨stk++[cur],⟨nx,[ty,tx,fs]⟩::⟨nx+1,[.str [],.int .i64 0,.int .i64 0,.nils,.nils,.nils,.nils]⟩::⟨n1,[.str f.name,.int .i64 f.params,.int .i64 f.result,w0,w1,z1,w3]⟩::bs,n1',e2::live,fl⟩ hf'
   have hoe:=z1N hol hom
   subst hoe
   simp only[w26,id] at hmc hmj hml
   simp only[go_sem,G6,G8,hmc]
   have hmsl:=WU f
   refine(z9A (msks f) (by omega) _ (stk++[cur]).length j3 st3 (w08 _) (by simp[Mem.blk,Mem.row,hmj]) _ (by rw[hmsl])).xv fun z2 t2 n2' ho2=> ?_
   have hr2:(madeR (msks f)).length≤200:=Nat.le_trans (jY _ _) (by omega)
   have hs2:=ho2.sl (by omega)
   have hlive: ∃e',pushToks t2 (e2::live)=e'::live:=by cases t2<;>exact⟨_,rfl⟩
   obtain⟨e3,he3⟩:=hlive
   simp only[go_sem,G3,G6,G8,he3,hs1.one,hs2.one,hs2.refs_cells,o3,o4]
   refine yL (by simp only[AV.refs,refsAny,q0.refs,q1.refs,hs1.refs,hs2.refs];rfl) ?_
   refine⟨w0,w1,z1,z2,rfl,q0,q1,?_,hs2⟩
   unfold tabF sizS
   rw[hV];exact hs1
open Classical in
noncomputable def wrongF (d:DImage) (g:Nat):Int×Int:=
 if(wrongS d g (fnA d.funcs g)).2=0∧tabF d (fnA d.funcs g)≠fnA d.funcs g then(-1,32) else wrongS d g (fnA d.funcs g)
theorem z5h {d:DImage} {f:DFunc}:tabF d f=f↔sizS d f=f.sizes∧livS f=f.lives:=by
 obtain⟨a,b,c,e,g,h,i⟩:=f
 unfold tabF
 simp
theorem z3H {d:DImage} {g:Nat} {f:DFunc} (h:(wrongS d g f).2=0):wrongS d g f=(0,0):=by
 obtain⟨h1,h2,h3,h4,h5⟩:=Ua h
 exact X7 h1 h2 h3 h4 h5
theorem z9v (d:DImage) (y:AV) (hy:IsImage d y) (hsm:SmallI d) (g:Nat) (hg:g<d.funcs.length) (hQ:FunQ d (fnA d.funcs g)) (m:Mem) (hf:m.floor≤m.stk.length+1):
  Okv tab 252 [y,.int .i64 g] m (.tup [.int .i64 (wrongF d g).1,.int .i64 (wrongF d g).2]):=by
 have hy':=hy
 obtain⟨ty,tx,fs,rfl,h0,h1,h2⟩:=hy
 obtain⟨w0,w1,w2,w3,ef,q0,q1,q2,q3⟩:=h2.fnA hg
 have hat:=h2.at .i64 hg
 refine zp (tT u5) ?_
 obtain⟨stk,cur,nx,live,fl⟩:=m
 dsimp only at hf
 have hf':fl≤(stk++[cur]).length+1:=by simp;omega
 have hmx:max fl ((stk++[cur]).length+1)≤(stk++[cur]).length+1:=by omega
 have hU:=fun c n lv=>(z3V d _ hy' g hg hQ ⟨stk++[cur],c,n,lv,fl⟩ hf').eq
 simp only[u5,go_sem,G3,G6,G8,hU]
 generalize callNx tab 305 _ _=nz
 by_cases hz:(wrongS d g (fnA d.funcs g)).2=0
 case neg=>
  have hz':((wrongS d g (fnA d.funcs g)).2==0)=false:=by simpa using hz
  simp only[go_sem,G6,G8,hz']
  rw[z4 rfl rfl,z5]
  refine⟨⟨_,rfl⟩,?_⟩
  unfold wrongF
  rw[if_neg fun q=>hz q.1]
 have hz':((wrongS d g (fnA d.funcs g)).2==0)=true:=by simpa using hz
 obtain⟨g1,g2,g3,g4,g5⟩:=Ua hz
 have hFP:=hQ.funP g1 g3
 simp only[go_sem,G3,G6,G8,hz']
 refine(z7z d _ hy' hsm g hg hQ hFP g4 _ hmx).xw fun r t1 n1 hr=> ?_
 have hlive: ∃e',pushToks t1 ([]::live)=e'::live:=by cases t1<;>exact⟨_,rfl⟩
 obtain⟨e1,he1⟩:=hlive
 have hS:=fun m=>(kj _ _ _ _ hr (show IsFunc (fnA d.funcs g) _ from⟨w0,w1,w2,w3,rfl,q0,q1,q2,q3⟩) m).eq
 simp only[go_sem,G3,G6,G8,he1,hat,ef,hS]
 by_cases ht:tabF d (fnA d.funcs g)=fnA d.funcs g
 ·simp only[go_sem,G6,G8,decide_eq_true ht]
  rw[z4 rfl rfl,z5]
  refine⟨⟨_,rfl⟩,?_⟩
  unfold wrongF
  rw[if_neg fun q=>q.2 ht]
 ·simp only[go_sem,G6,G8,decide_eq_false ht]
  rw[z4 rfl rfl,z5]
  refine⟨⟨_,rfl⟩,?_⟩
  unfold wrongF
  rw[if_pos ⟨hz,ht⟩]
noncomputable def faultS (d:DImage):Int×Int×Int:=
 if err09 d≠0 then(0,0,err09 d) else
 match frst (fun g=>(wrongF d g).2) d.funcs.length with
 |some g=>((g:Int),(wrongF d g).1,(wrongF d g).2)
 |none=>(0,0,0)
noncomputable def faultV (d:DImage):AV:= .tup [.int .i64 (faultS d).1,.int .i64 (faultS d).2.1,.int .i64 (faultS d).2.2]
theorem Qd {d:DImage} (h:err09 d≠0):faultS d=(0,0,err09 d):=by unfold faultS;rw[if_pos h]
theorem Xp {d:DImage} (h:err09 d=0) {g:Nat} (hg:g<d.funcs.length) (hp: ∀j,j<g→(wrongF d j).2=0) (he:(wrongF d g).2≠0):faultS d=((g:Int),(wrongF d g).1,(wrongF d g).2):=by
 unfold faultS;rw[if_neg (fun q=>q h),T5 he hp _ hg]
theorem VT {d:DImage} (h:err09 d=0) (hp: ∀j,j<d.funcs.length→(wrongF d j).2=0):faultS d=(0,0,0):=by
 unfold faultS;rw[if_neg (fun q=>q h),(te _).2 hp]
theorem z7J (d:DImage) (y:AV) (hy:IsImage d y) (hw:WfImage d) (hsm:SmallI d) (m:Mem) (hf:m.floor≤m.stk.length+1):Okv tab 171 [y] m (faultV d):=by
 have hy':=hy
 obtain⟨ty,tx,fs,rfl,h0,h1,h2⟩:=hy
 refine zp (tT u9) ?_
 obtain⟨stk,cur,nx,live,fl⟩:=m
 dsimp only at hf
 have hf':fl≤(stk++[cur]).length+1:=by simp;omega
 have hC:=fun c n lv=>(kq d _ hy' hw ⟨stk++[cur],c,n,lv,fl⟩ hf').eq
 simp only[u9,go_sem,G3,G6,G8,hC]
 generalize callNx tab 80 _ _=nz
 by_cases he:err09 d=0
 case neg=>
  have he':(err09 d !=0)=true:=by simpa using he
  simp only[go_sem,G6,G8,he']
  rw[z4 rfl rfl,z5]
  exact⟨⟨_,rfl⟩,by unfold faultV;rw[Qd he]⟩
 have hfi:=z3g he
 simp only[go_sem,he,show((0:Int) !=0)=false from rfl]
 refine zg (α:=Nat) (fun g σ=>(g≤d.funcs.length∧ ∀j,j<g→(wrongF d j).2=0)∧ ∃nz,heads [1,6] 1 σ=⟨tmps 32 [(1,.ptr (stk++[cur]).length 0 nx 0),(6,.int .i64 g)],⟨stk++[cur],[⟨nx,[ty,tx,fs]⟩],nz,[]::live,fl⟩⟩) (fun g=>d.funcs.length-g) 0 ?_ ?_
 ·refine⟨⟨w0e _,fun j hj=>absurd hj (w34 _)⟩,?_⟩
  simp only[go_sem,G6,G7]
  exact⟨_,rfl⟩
 ·rintro g σ ⟨⟨hg,hp⟩,nz,hσ⟩
  rw[hσ]
  clear hσ σ
  dsimp only at hg hp⊢
  by_cases hgn:g<d.funcs.length
  ·have hsu:IntKind.i64.wrap ((g:Int)+1)=((g+1:Nat):Int):=zq hgn h2.max
   have hW:=fun c n lv=>(z9v d _ hy' hsm g hgn (.of hw hfi hgn) ⟨stk++[cur],c,n,lv,fl⟩ hf').eq
   simp only[go_sem,G3,G6,G7,G8,h2.len,w02,hgn,hW]
   by_cases hz:(wrongF d g).2=0
   ·simp only[go_sem,G6,G8,show((wrongF d g).2 !=0)=false by simpa using hz,hsu]
    refine⟨g+1,by omega,⟨hgn,fun j hj=> ?_⟩,_,rfl⟩
    by_cases hji:j=g
    ·rw[hji];exact hz
    ·exact hp j (by omega)
   ·simp only[go_sem,G6,G8,show((wrongF d g).2 !=0)=true by simpa using hz]
    rw[z4 rfl rfl,z5]
    exact⟨⟨_,rfl⟩,by unfold faultV;rw[Xp he hgn hp hz]⟩
  ·have:g=d.funcs.length:=by omega
   subst this
   simp only[go_sem,G6,G7,G8,h2.len,w02,hgn]
   rw[z4 rfl rfl,z5]
   exact⟨⟨_,rfl⟩,by unfold faultV;rw[VT he hp]⟩
theorem z7L (d:DImage) (y:AV) (hy:IsImage d y) (hw:WfImage d) (hsm:SmallI d) (m:Mem) (hf:m.floor≤m.stk.length+1):Okv tab 96 [y] m (.int .i64 (faultS d).2.2):=by
 have hy':=hy
 obtain⟨ty,tx,fs,rfl,h0,h1,h2⟩:=hy
 refine zp (tT ua) ?_
 obtain⟨stk,cur,nx,live,fl⟩:=m
 dsimp only at hf
 have hf':fl≤(stk++[cur]).length+1:=by simp;omega
 have hF:=fun c n lv=>(z7J d _ hy' hw hsm ⟨stk++[cur],c,n,lv,fl⟩ hf').eq
 unfold faultV at hF
 simp only[ua,go_sem,G3,G6,G8,hF]
 rw[z4 rfl rfl,z5]
 exact⟨⟨_,rfl⟩,rfl⟩
end Go.Proofs.W
end
section
namespace Go.Proofs.W
open Go.Vs
attribute [local go_sem high] zm zT
attribute [local go_sem ↓] w06 w0d
attribute [local go_sem low] Yc Yt Yf Yut Yuf yy yz yw yx
attribute [local go_sem 2000] zK
attribute [local go_sem] x6 x5 x9 x8 zR zu y7 zP zW zt yq yn ym hd kep yj w02 AV.bool.injEq AV.int.injEq not_true_eq_false not_false_eq_true true_implies false_implies and_true true_and implies_true zl zI zH zk zJ zw zc z8 zj zB zA zi zC zy zb z9 w07 zD zE zZ w18 evShift IntKind.bits zL zF zG z6 za zQ zx w0c yu yr allLen zd AV.tup.injEq List.cons.injEq AV.agg.injEq zV zU evBuild yo zN zn zM eqC0 eqC1 eqC2 zO w17 w16
attribute [go_sem] vV
def rg0:DRegion:=⟨0,[]⟩
noncomputable def rowOk (d:DDump) (g:Nat) (x:DRoutine):Bool:=decide (x.sp-(d.stacks.getD g rg0).base=(d.stacks.getD g rg0).bytes.length∧headed x.defers (d.defers.getD g [])=true∧headed x.panics (d.panics.getD g [])=true∧(x.status=3∨(findR d.image x.code).2.2=0))
def partsOk (d:DDump):Bool:=endedOk d.ended&&heapOk d.heap&&stacksOk d.stacks&&headsOk d.routines&&chainsOk d.defers&&chainsOk d.panics
def lensOk (d:DDump):Bool:=decide (d.stacks.length=d.routines.length∧d.defers.length=d.routines.length∧d.panics.length=d.routines.length∧d.ended.failing<d.routines.length)
noncomputable def ok28 (d:DDump):Bool:=partsOk d&&decide (err09 d.image=0∧(faultS d.image).2.2=0)&&lensOk d&&allI (rowOk d) 0 d.routines
theorem QL (d:DDump) (y:AV) (hy:IsDump d y) (hw:WfDump d) (hL:large28 d=false) (m:Mem) (hf:m.floor≤m.stk.length+1):Okv tab 34 [y] m (.int .i64 (if ok28 d then 0 else 8)):=by
 obtain⟨v0,v1,v2,v3,v4,v5,v6,v7,rfl,h⟩:=IsDump.v hy
 simp only[large28,great28,w28,decide_eq_false_iff_not] at hL
 obtain⟨⟨⟨⟨hL,_⟩,hd⟩,hp⟩,hg⟩:=hL
 have hs:=SmallI.of hg
 have hn:d.image.funcs.length≤40:=by simp[great09] at hg;omega
 have:=(z5L hd).1
 have:=(z5L hp).1
 have hr:=h.r.max
 obtain⟨q,hq⟩:=regs h.s
 have hR:=fun j (hj:j<d.routines.length)=>hw.routines _ (w04 hj)
 have f0:=nd (fun m=>(QN d.ended m).eq) (nd (fun m=>(z1f _ _ h.h m).eq) (nd (fun m=>(Tj _ _ h.s (by omega) m).eq) (nd (fun m=>(QM _ _ h.r (by omega) hw.routines m).eq) (nd (fun m=>(Yh _ _ h.f hw.defers m).eq) (nd (fun m=>(Yh _ _ h.p hw.panics m).eq) (nd h.s.z (nd h.r.z (nd h.f.z (nd h.p.z h.o)))))))))
 have f:=nd f0 (nd (fun j hj=>nd (hq j hj).1 (hq j hj).2.1.z.1) (nd (nthH h.r) (nd (nthS h.f) (nd (nthS h.p) (nd (fun j (hj:j<d.defers.length) n m=>(Yg n _ _ (h.f.nth hj) m).eq) fun j (hj:j<d.panics.length) n m=>(Yg n _ _ (h.p.nth hj) m).eq)))))
 refine okz (tT vV) fun s c x v g e=> ?_
 subst e
 simp at hf
 repeat' first|refine ifs ?_ ?_|intro
 rotate_left
 all_goals first|(clear f f0;grind [ok28,partsOk,lensOk])|skip
 refine ow (kq d.image _ h.i hw.image _ (by simp;omega)) fun k=> ?_
 repeat' first|refine ow (z7L d.image _ h.i hw.image hs _ (by simp;omega)) ?_|refine ifs ?_ ?_|intro
 all_goals first|(clear f f0;grind [ok28,partsOk,lensOk])|skip
 refine xn 4 d.routines.length [] (fun i _ _=> ∀j (hj:j<d.routines.length),j<i→rowOk d j d.routines[j]=true) 0 ?_ fun i v e nz hi hp=> ?_
 ·grind
 refine ifs (fun hi=> ?_) fun hi=> ?_
 ·have h1:=y8.1 (w3b.1 ‹headsOk d.routines=true›).2 i hi
  have h2:=y8.1 (w3b.1 ‹stacksOk d.stacks=true›).2 i (by omega)
  have h3:stackB i≤d.routines[i].sp∧d.routines[i].sp≤stackB i+4096:=by grind [headOk]
  have h4:d.stacks[i].base=stackB i∧d.stacks[i].bytes.length≤4096:=by grind [fitR]
  refine st ?_
  have:=(hR i hi).sp
  unfold inU64 at this
  repeat' first|refine ow (z1h d.image _ h.i hw.image (by omega) _ (hR i hi).code _ (by simp;omega)) ?_|refine ifs ?_ ?_|intro
  all_goals clear f f0;grind [ok28,partsOk,lensOk,y8,rowOk]
 ·clear f f0;grind [ok28,partsOk,lensOk,y8]
attribute [go_sem] ki
noncomputable def wordD (d:DDump) (n:Int):Int:=(wordR d.heap d.stacks n).1
def insF (m:DImage) (c i:Int):DInstr:=(fnAt m.funcs c.toNat).code.getD i.toNat ⟨0,0,0,0⟩
def fitsR (m:DImage) (f:DFrame) (c i:Int):Bool:=
 decide ((f.mode=0∧f.record=0∧0<i∧(insF m c (i-1)).op=25∧(insF m c (i-1)).b=f.func)∨(f.mode=1∧f.record=0∧(insF m c i).op=34)∨((f.mode=2∨f.mode=3)∧f.record≠0))
noncomputable def frameD (d:DDump) (code en:Int):DFrame:=
 let s:=en-(sizeR d.image code).1
 ⟨s,(findR d.image code).1,(findR d.image code).2.1,code,(sizeR d.image code).1,wordD d (s+8),wordD d (s+16),wordD d s⟩
noncomputable def frameOk (d:DDump) (base code en:Int):Bool:=decide ((sizeR d.image code).2=0∧(sizeR d.image code).1≤en-base∧((frameD d code en).caller=0↔(frameD d code en).start=base))
def lower (x:DFrame) (b:Prop) [Decidable b]:DFrame:=if b then{x with at_:=x.at_-1} else x
noncomputable def stepR (d:DDump) (base code en:Int) (ab:Option DFrame):Option DFrame:=
 if frameOk d base code en then match ab with
  |none=>some (frameD d code en)
  |some a=>if fitsR d.image a (frameD d code en).func (frameD d code en).at_ then some (lower (frameD d code en) (a.mode=0)) else none
 else none
noncomputable def walkN (d:DDump) (base:Int):Nat→Int→Int→Option DFrame→Option (List DFrame)
 |0,_,_,_=>none
 |n+1,code,en,ab=>match stepR d base code en ab with
  |none=>none
  |some x=>if x.caller=0 then(if x.mode=0∧x.record=0 then some [x] else none) else(walkN d base n x.caller x.start (some x)).map (x:: ·)
def rtD (d:DDump) (g:Nat):DRoutine:=d.routines.getD g ⟨0,0,0,0,0,0⟩
noncomputable def framesR (d:DDump) (g:Int):List DFrame×Int:=
 if ok28 d=false then([],8) else if g<0∨g≥d.routines.length then([],2) else
 if(rtD d g.toNat).status=3 then([],0) else
 match walkN d (stackB g.toNat) 200 (rtD d g.toNat).code (rtD d g.toNat).sp none with
 |none=>([],12)
 |some l=>(l,0)
theorem insV {d:DImage} {k:Nat} (hk:k<d.funcs.length) {y:AV} (h:IsSl IsInstr 4 d.funcs[k].code y) (p:Int) (h0:0≤p) (h1:p<d.funcs[k].code.length):nth y p.toNat= .agg [.int .u8 (insF d k p).op,.int .i64 (insF d k p).a,.int .i64 (insF d k p).b,.int .i64 (insF d k p).c]:=by
 have:=h.nth (i:=p.toNat) (by omega)
 unfold insF
 rw[w07,←qb hk,w03,w1d (by omega),w32]
 exact this
abbrev frA (f:DFrame):AV:= .agg [.int .u64 f.start,.int .i64 f.func,.int .i64 f.at_,.int .u64 f.code,.int .i64 f.size,.int .u64 f.mode,.int .u64 f.record,.int .u64 f.caller]
theorem zbX (l k st:Nat):evIaddrA 4 1 (.ptr l k st 0) (.int .u64 0)=some (.ptr l k st 0):=rfl
theorem zbW (l k st:Nat):evIaddrA 4 1 (.ptr l k st 0) (.int .u64 1)=some (.ptr l k st 1):=rfl
theorem zbV (l k st:Nat):evIaddrA 4 1 (.ptr l k st 0) (.int .u64 2)=some (.ptr l k st 2):=rfl
theorem zbU (l k st:Nat):evIaddrA 4 1 (.ptr l k st 0) (.int .u64 3)=some (.ptr l k st 3):=rfl
theorem z2a (d:DImage) (x:AV) (hx:IsImage d x) (a b:DFrame) (k:Nat) (hb:b.func=k) (hk:k<d.funcs.length) (i:Int) (hi:0≤i∧i<d.funcs[k].code.length) (ha:0≤a.mode) (m:Mem):Okv tab 136 [x,frA a,frA b,.int .i64 i] m (.bool (fitsR d a k i)):=by
 obtain⟨v0,v1,v2,rfl,h0,h1,h2⟩:=hx
 obtain⟨s0,c0,z0,w0,hz⟩:=fnsV h2
 obtain⟨q0,q1,q2,q3,q4⟩:=hz k hk
 have f:=nd h0.co (nd h1.co (nd h2.co (nd h2.z (nd q0 (nd hk (nd q2.co (nd q2.z (nd (insV hk q2) hb))))))))
 have hmx:=q2.max
 obtain⟨start,func,at_,code,size,mode,record,caller⟩:=a
 dsimp only at ha
 by_cases h4:mode<4
 ·have:mode=0∨mode=1∨mode=2∨mode=3:=by omega
  rcases this with rfl|rfl|rfl|rfl
  all_goals
   have f:=nd f (nd zbX (nd zbW (nd zbV zbU)))
   have f:=nd f (nd (show¬(0:Int)≥4 by decide) (nd (show¬(1:Int)≥4 by decide) (nd (show¬(2:Int)≥4 by decide) (show¬(3:Int)≥4 by decide))))
   refine okz (tT ki) fun s c x v g em=> ?_
   repeat' first|refine ifs ?_ ?_|intro
  all_goals clear f q0 hz;grind [fitsR]
 ·have f:=nd f (show mode≥4 by omega)
  refine okz (tT ki) fun s c x v g em=> ?_
  clear f q0 hz
  simp only[fitsR,Bool.false_eq,decide_eq_false_iff_not]
  omega
attribute [go_sem] vT
structure WalkD (d:DDump) (g:Nat):Prop where
 w:WfDump d
 i:err09 d.image=0
 n:d.image.funcs.length≤40
 r:g<d.routines.length
 s:g<d.stacks.length
 l:d.stacks.length≤16
 b:(d.stacks.getD g rg0).base=stackB g
 p:stackB g≤(rtD d g).sp∧(rtD d g).sp≤stackB g+4096
theorem WalkD.of {d:DDump} (hw:WfDump d) (hn:d.image.funcs.length≤40) (h:ok28 d=true) {g:Nat} (hg:g<d.routines.length):WalkD d g:=by
 simp only[ok28,w09,decide_eq_true_eq,partsOk,lensOk] at h
 obtain⟨⟨⟨⟨⟨⟨⟨_,_⟩,hs⟩,hh⟩,_⟩,_⟩,hi,_⟩,h1,h2,h3,_⟩:=h.1
 have hs':=jx hs
 have h4:=y8.1 (w3b.1 hs).2 g (by omega)
 have h5:=y8.1 (w3b.1 hh).2 g hg
 rw[w1f] at h4 h5
 simp only[fitR,headOk,decide_eq_true_eq] at h4 h5
 refine⟨hw,hi,hn,hg,by omega,by omega,?_,?_⟩
 ·simp only[w03,w1d (show g<d.stacks.length by omega),w32];exact h4.1
 ·simp only[rtD,w03,w1d hg,w32];omega
theorem Wu (h:DRegion) (l:List DRegion) (n:Int):0≤(wordR h l n).1∧(wordR h l n).1<18446744073709551616:=by
 unfold wordR
 split
 ·simp
 split
 ·simp
 rename_i h1 _
 have:= @z5E (foundR n 8 ((h::l).find? (inReg n 8))) 8 (by
  cases hq:(h::l).find? (inReg n 8) with
  |none=>simp[foundR]
  |some r=>simp[foundR];omega)
 dsimp only
 omega
theorem TF {d:DImage} (hw:WfImage d) {n:Int} (hn:0≤n) (h:(sizeR d n).2=0):(findR d n).2.2=0∧24≤(sizeR d n).1∧(sizeR d n).1≤4096:=by
 unfold sizeR at h⊢
 by_cases h1:(findR d n).2.2≠0
 ·rw[if_pos h1] at h;exact absurd h h1
 rw[if_neg h1] at h⊢
 by_cases h2:sizeN d (findR d n).1 (findR d n).2.1>4096
 ·rw[if_pos h2] at h;simp at h
 rw[if_neg h2] at h⊢
 refine⟨by omega,?_,by omega⟩
 obtain⟨_,h3,h4,_⟩:=z1W (d:=d) hn (by omega)
 have:=(hw.funcs _ (w04 (show(findR d n).1.toNat<d.funcs.length by omega))).sizes
 have:=(Tw (fun r hr=>(this r hr).value) (findR d n).2.1 _ (w08 _)).1
 rw[qb (by omega)] at this
 unfold sizeN
 omega
def calledB (l:List DFrame):Bool:=match l.getLast? with|none=>false|some a=>decide (a.mode=0)
structure Walking (d:DDump) (g n:Nat) (l:List DFrame) (c e:Int):Prop where
 q:walkN d (stackB g) 200 (rtD d g).code (rtD d g).sp none=(walkN d (stackB g) n c e l.getLast?).map (l++ ·)
 c:0≤c∧c<18446744073709551616
 e:stackB g≤e∧e≤stackB g+4096∧e-stackB g<24*n
 n:l.length+n=200
 m: ∀a∈l,0≤a.mode
theorem Walking.start {d:DDump} {g:Nat} (h:WalkD d g):Walking d g 200 [] (rtD d g).code (rtD d g).sp:=by
 refine⟨by simp,?_,⟨h.p.1,h.p.2,by have:=h.p.2;omega⟩,rfl,by simp⟩
 have:=(h.w.routines _ (w04 h.r)).code
 unfold inU64 at this
 simpa [rtD,w03,h.r] using this
theorem Walking.bad {d:DDump} {g n:Nat} {l:List DFrame} {c e:Int} (h:Walking d g n l c e) (hs:stepR d (stackB g) c e l.getLast? =none):walkN d (stackB g) 200 (rtD d g).code (rtD d g).sp none=none:=by
 rw[h.q]
 cases n with
 |zero=>rfl
 |succ n=>simp[walkN,hs]
theorem Walking.last {d:DDump} {g n:Nat} {l:List DFrame} {c e:Int} (h:Walking d g n l c e) {x:DFrame} (hs:stepR d (stackB g) c e l.getLast? =some x) (hc:x.caller=0):walkN d (stackB g) 200 (rtD d g).code (rtD d g).sp none=if x.mode=0∧x.record=0 then some (l++[x]) else none:=by
 have:=h.e
 rw[h.q]
 cases n with
 |zero=>omega
 |succ n=>simp only[walkN,hs,hc,if_true];split<;>simp
theorem TC {d:DDump} {base c e:Int} {ab:Option DFrame} {x:DFrame} (hs:stepR d base c e ab=some x):frameOk d base c e=true∧x.start=(frameD d c e).start∧x.caller=(frameD d c e).caller∧x.mode=(frameD d c e).mode:=by
 unfold stepR at hs
 cases hf:frameOk d base c e
 ·rw[hf] at hs;simp at hs
 rw[hf] at hs
 simp only[if_true] at hs
 refine⟨rfl,?_⟩
 cases ab with
 |none=>simp only[Option.some.injEq] at hs;subst hs;exact⟨rfl,rfl,rfl⟩
 |some a=>
  simp only at hs
  split at hs
  ·simp only[Option.some.injEq] at hs;subst hs;unfold lower;split<;>exact⟨rfl,rfl,rfl⟩
  ·cases hs
theorem Walking.next {d:DDump} {g n:Nat} {l:List DFrame} {c e:Int} (hd:WalkD d g) (h:Walking d g n l c e) {x:DFrame} (hs:stepR d (stackB g) c e l.getLast? =some x) (hc:x.caller≠0): ∃n',n=n'+1∧Walking d g n' (l++[x]) x.caller x.start:=by
 have he:=h.e
 obtain⟨n,rfl⟩: ∃n',n=n'+1:=⟨n-1,by omega⟩
 refine⟨n,rfl,?_⟩
 obtain⟨h1,h2,h3,h4⟩:=TC hs
 simp only[frameOk,decide_eq_true_eq] at h1
 have h5:=TF hd.w.image h.c.1 h1.1
 have h6:(frameD d c e).start=e-(sizeR d.image c).1:=rfl
 have h7:=Wu d.heap d.stacks (e-(sizeR d.image c).1)
 have h8:=Wu d.heap d.stacks (e-(sizeR d.image c).1+8)
 have h9:(frameD d c e).caller=(wordR d.heap d.stacks (e-(sizeR d.image c).1)).1:=rfl
 have h10:(frameD d c e).mode=(wordR d.heap d.stacks (e-(sizeR d.image c).1+8)).1:=rfl
 refine⟨?_,by omega,by omega,by have:=h.n;simp;omega,?_⟩
 ·rw[h.q]
  simp only[walkN,hs,if_neg hc,List.getLast?_concat,Option.map_map]
  congr 1
  funext z
  simp
 ·intro a ha
  rcases w0b.1 ha with ha|ha
  ·exact h.m a ha
  ·simp only[w1c] at ha;subst ha;omega
attribute [go_sem] qY jU Z3 qZ yH
noncomputable def W (d:DDump) (a:Int) (k:Nat):Int:=(wordR d.heap d.stacks (a+8*k)).1
noncomputable def wordsE (d:DDump) (n:Nat) (a:Int):Int:=fineE ((List.range n).map fun k:Nat=>(wordR d.heap d.stacks (a+8*k)).2)
noncomputable def wordsV (d:DDump) (n:Nat) (a:Int):List Int:=(List.range n).map (W d a)
theorem z64 {d:DDump} {n:Nat} {a:Int} {i:Nat} (h:i<n) (h1:(wordR d.heap d.stacks (a+8*i)).2≠0) (h2: ∀j,j<i→(wordR d.heap d.stacks (a+8*(j:Nat))).2=0):wordsE d n a=(wordR d.heap d.stacks (a+8*i)).2:=by
 have:=Qc (l:=(List.range n).map fun k=>(wordR d.heap d.stacks (a+8*(k:Nat))).2) (i:=i) (by simpa using h) (by simpa using h1) (fun j hj hi=>by simpa using h2 j hi)
 rw[wordsE,this]
 simp
theorem z63 {d:DDump} {n:Nat} {a:Int} (h2: ∀j,j<n→(wordR d.heap d.stacks (a+8*(j:Nat))).2=0):wordsE d n a=0:=Qb fun j hj=>by simpa using h2 j (by simpa using hj)
theorem z4l {α β:Type} {g:α→β} {l:List α} {i:Nat} (h:i<l.length):(l.take (i+1)).map g=(l.take i).map g++[g l[i]]:=by rw[w0f h,w2b];rfl
theorem W_u (d:DDump) (a:Int) (k:Nat):0≤W d a k∧W d a k<18446744073709551616:=Wu _ _ _
def OwnX {α:Type} (R:α→AV→Prop) (s:Nat) (y:AV) (xs:List α) (e e0:List Nat):Prop:=(y= .nils∧xs=[]∧e=e0)∨ ∃t ys,y= .list s (.id t) ys∧All2 R xs ys∧e=t::e0
section
variable {α : Type} {R : α → AV → Prop} {s : Nat} {y z : AV} {xs : List α} {c : α} {e e0 : List Nat} {tk : Tok}
theorem OwnX.own (h:OwnX R s y xs e e0):Own R s y xs e:=by
 rcases h with⟨rfl,rfl,_⟩|⟨t,ys,rfl,h,rfl⟩
 ·exact .nil _
 ·exact .inr ⟨_,ys,rfl,h,.inr ⟨t,w24,rfl⟩⟩
theorem OwnX.sub (h:OwnX R s y xs e e0): ∀t∈e0,t∈e:=by
 rcases h with⟨_,_,rfl⟩|⟨t,ys,_,_,rfl⟩
 ·exact fun _ h=>h
 ·exact fun _ h=>w2c _ h
theorem ox {stk:List (List Blk)} {cur:List Blk} {nx fl bytes:Nat} {rest:List (List Nat)} {F:AV×Mem→Prop} {Q:AV→Nat→List Nat→Prop} (h:OwnX R s y xs e e0) (hc:R c z) (hl:(xs.length+1)*bytes≤140737488355328) (q: ∀y' n e',OwnX R s y' (xs++[c]) e' e0→Q y' n e')
  (eq: ∀y' n e',y'.cells=[y']→y'.one=true→F (y',⟨stk,cur,n,e'::rest,fl⟩)=Q y' n e':=by intro _ _ _ w1 w2;exact SEw): @Cl (evApp ⟨stk,cur,nx,e::rest,fl⟩ s bytes y (.list s tk [z])) ⟨F⟩:=by
 rcases h with⟨rfl,rfl,rfl⟩|⟨t,ys,rfl,h,rfl⟩
 ·refine⟨(.list s (.id nx) [z],⟨stk,cur,nx+1,(nx::e)::rest,fl⟩),?_,(eq _ _ _ rfl rfl).mpr (q _ _ _ (.inr ⟨nx,[z],rfl,⟨hc,trivial⟩,rfl⟩))⟩
  unfold evApp
  rw[zh]
  simp only[w46,w1f] at hl
  simp only[w29,if_pos hl,addTok]
 ·refine⟨(.list s (.id nx) (ys++[z]),⟨stk,cur,nx+1,(nx::e0)::rest,fl⟩),?_,(eq _ _ _ rfl rfl).mpr (q _ _ _ (.inr ⟨nx,_,rfl,h.append (yc hc),rfl⟩))⟩
  unfold evApp
  rw[zh]
  have hn:=h.len
  simp[hn,hl,hasTok,dropTok,addTok]
end
noncomputable def recsE (d:DDump) (n:Nat) (l:List Int):Int:=fineE (l.map (wordsE d n))
theorem z81 {d:DDump} {n:Nat} {l:List Int} {i:Nat} (h:i<l.length) (h1:wordsE d n l[i]≠0) (h2: ∀j (hj:j<l.length),j<i→wordsE d n l[j]=0):recsE d n l=wordsE d n l[i]:=by
 have:=Qc (l:=l.map (wordsE d n)) (i:=i) (by simpa using h) (by simpa using h1) (fun j hj hi=>by simpa using h2 j (by simpa using hj) hi)
 rw[recsE,this]
 simp
theorem z80 {d:DDump} {n:Nat} {l:List Int} (h2: ∀j (hj:j<l.length),wordsE d n l[j]=0):recsE d n l=0:=Qb fun j hj=>by simpa using h2 j (by simpa using hj)
theorem Y4 (d:DDump) (v0 v1 v2 v3 v4 v5 v6 v7:AV) (h:DumpV d v0 v1 v2 v3 v4 v5 v6 v7) (hn:d.stacks.length≤900) (n:Nat) (hq:n≤9) (l:List Int) (y:AV) (hy:IsSl (IsK .u64) 1 l y) (hl: ∀a∈l,65536≤a∧a<81920) (hll:l.length≤900) (m:Mem) (hf:m.floor≤m.stk.length+1):
  Okp (IsSl (IsK .u64) 1) 1 tab 98 [dumpA d v0 v1 v2 v3 v4 v5 v6 v7,y,.int .i64 (n:Int)] m (if recsE d n l=0 then l.map (wordsV d n) else []) (recsE d n l):=by
 have f:=nd h.o (nd hy.z (nthK hy))
 refine okpz (tT qY) fun s c x v fl e=> ?_
 subst e
 simp at hf
 refine xn 17 l.length [8] (fun i v e=>Own (IsSl (IsK .u64) 1) 1 (v 8) ((l.take i).map (wordsV d n)) e∧ ∀j (hj:j<l.length),j<i→wordsE d n l[j]=0) 0 ?_ fun i v e nz hi ho=> ?_
 ·exact⟨.nil _,fun j hj hi=>by omega⟩
 refine ifs (fun hi=> ?_) fun hi=> ?_
 ·have ha:=hl _ (w04 hi)
  refine xn 22 n [11] (fun k v' e'=>OwnX (IsK .u64) 1 (v' 11) (wordsV d k l[i]) e' e∧ ∀j,j<k→(wordR d.heap d.stacks (l[i]+8*(j:Nat))).2=0) 0 ?_ fun k v' e' nz hk ho'=> ?_
  ·exact⟨.inl ⟨rfl,rfl,rfl⟩,fun j hj=>by omega⟩
  refine ifs (fun hk=> ?_) fun hk=> ?_
  ·refine ow (qs d.heap d.stacks _ _ h.h h.s hn (l[i]+8*(k:Nat)) (by omega) _ (by simp;omega)) fun q=> ?_
   refine ifs (fun he=> ?_) fun he=> ?_
   ·have:=z64 hk he ho'.2
    rw[z81 hi (by rw[this];exact he) ho.2,this];simp[he]
   ·have he:(wordR d.heap d.stacks (l[i]+8*(k:Nat))).2=0:=by simpa using he
    refine ox ho'.1 (show IsK .u64 (W d l[i] k) _ from rfl) (by simp[wordsV];omega) fun y n e ho2=> ?_
    exact nd hk (nd (by simpa [wordsV,List.range_succ] using ho2) (fun j hj=>by
     rcases Nat.lt_or_eq_of_le (Nat.le_of_lt_succ hj) with h|rfl
     ·exact ho'.2 j h
     ·exact he))
  ·obtain rfl:k=n:=by omega
   have f:=nd f ho'.1.own.co
   refine st ?_
   refine oa (ho.1.mono ho'.1.sub) (yc (show IsSl (IsK .u64) 1 (wordsV d k l[i]) (v' 11) from ho'.1.own.sl (by simp[wordsV];omega))) (by simp;omega) fun y q e ho1=> ?_
   exact nd hi (nd (by rw[z4l hi];exact ho1) (fun j hj hji=>by
    rcases Nat.lt_or_eq_of_le (Nat.le_of_lt_succ hji) with h|rfl
    ·exact ho.2 j hj h
    ·exact z63 ho'.2))
 ·obtain rfl:i=l.length:=by omega
  have:=z80 fun j hj=>ho.2 j hj hj
  exact fp ho.1 (nd (by rw[if_pos this];simp) this.symm)
noncomputable def linkedB (d:DDump) (l:List Int):Bool:=allI (fun i a=>decide (W d a 0=l.getD (i+1) 0)) 0 l
theorem recZ {d:DDump} {n:Nat} {l:List Int} {z:AV} (h:IsSl (IsSl (IsK .u64) 1) 1 (l.map (wordsV d n)) z):(evLen z=some (.int .i64 l.length)∧ ∀(k:IntKind) (p:Int),0≤p→p<l.length→evIaddr 1 z (.int k p)=some (.ro (nth z p.toNat).cells))∧ ∀j (hj:j<l.length),(nth z j).cells=[nth z j]∧(∀(k:IntKind) (p:Int),0≤p→p<n→evIaddr 1 (nth z j) (.int k p)=some (.ro (nth (nth z j) p.toNat).cells))∧ ∀k<n,nth (nth z j) k= .int .u64 (W d l[j] k):=by
 refine⟨by simpa using h.z,fun j hj=> ?_⟩
 have hr:=h.nth (i:=j) (by simpa using hj)
 refine⟨hr.refs_cells,fun k p h0 h1=>hr.z.2 k p h0 (by simpa [wordsV] using h1),fun k hk=> ?_⟩
 have:=nthK hr k (by simpa [wordsV] using hk)
 simpa [wordsV] using this
theorem Xl {l:List Int} {i:Nat} (h:i<l.length):l.getD i 0=l[i]:=by simp[w03,h]
theorem z37 {l:List Int} {i:Nat} (h:l.length≤i):l.getD i 0=0:=by simp[w03,h]
theorem Yp (d:DDump) (n:Nat) (hn:0<n) (l:List Int) (y z:AV) (hy:IsSl (IsK .u64) 1 l y) (hz:IsSl (IsSl (IsK .u64) 1) 1 (l.map (wordsV d n)) z) (hll:l.length≤900) (m:Mem):Okv tab 99 [y,z] m (.bool (linkedB d l)):=by
 have f:=nd (nthK hy) (nd hy.z (nd (recZ hz) hn))
 refine okz (tT jU) fun s c x v g _=> ?_
 refine xn 10 l.length [] (fun i _ _=> ∀j (hj:j<l.length),j<i→W d l[j] 0=l.getD (j+1) 0) 0 ?_ fun i v e nz hi hp=> ?_
 ·exact fun j hj hi=>by omega
 repeat' first|refine ifs ?_ ?_|intro
 all_goals clear f hy hz;grind [linkedB,y8,Xl,z37]
def placeR (l:List DFrame) (n:Int):Int:=fidx (fun x=>decide (x.start=n)) l
theorem nthF {l:List DFrame} {y:AV} (h:IsSl IsFrame 8 l y) (j:Nat) (hj:j<l.length):nth y j=frA l[j]:=h.nth hj
theorem z0t {l:List DFrame} {n:Int} {i:Nat} (h:i<l.length) (h1:l[i].start=n) (h2: ∀j (hj:j<l.length),j<i→l[j].start≠n):placeR l n=i:=z5Q h (by simpa using h1) fun j hj=>by simpa using h2 j (by omega) hj
theorem z0s {l:List DFrame} {n:Int} (h2: ∀j (hj:j<l.length),l[j].start≠n):placeR l n= -1:=z5P fun j hj=>by simpa using h2 j hj
theorem z66 (x:DFrame) (n:Int) (m:Mem) (L st:Nat) (hL:L≤m.stk.length) (hb:m.blk L 0 st=some [.int .u64 n]):Okv tab 173 [frA x,.ptr L 0 st 0] m (.bool (decide (x.start=n))):=by
 obtain⟨stk,cur,nx,live,fl⟩:=m
 have f:=nd (uF hb hL) (show(L==(stk++[cur]).length)=false by simp at hL⊢;omega)
 refine oks (tT qZ) ?_
 trivial
theorem QY (l:List DFrame) (y:AV) (hy:IsSl IsFrame 8 l y) (n:Int) (m:Mem) (L st:Nat) (hL:L≤m.stk.length) (hb:m.blk L 0 st=some [.int .u64 n]):Okv tab 172 [y,.fn (.func 173) [] [.ptr L 0 st 0]] m (.int .i64 (placeR l n)):=by
 obtain⟨stk,cur,nx,live,fl⟩:=m
 have f:=nd hy.z (nd (nthF hy) fun(j:Nat) (hj:j<l.length) nz e=>(z66 l[j] n ⟨stk++[cur],[],nz,e::live,fl⟩ L st (by simp at hL⊢;omega) (jq hb hL)).eq)
 have:=hy.max
 refine oks (tT yH) ?_
 refine xn 8 l.length [] (fun i _ _=> ∀j (hj:j<l.length),j<i→l[j].start≠n) 0 ?_ fun i v e nz hi hp=> ?_
 ·exact fun j hj hi=>by omega
 refine ifs (fun hi=> ?_) fun hi=> ?_
 ·refine ifs (fun h=> ?_) fun h=> ?_
  ·simp[z0t hi h hp]
  ·exact nd hi fun j hj hji=>by
    rcases Nat.lt_or_eq_of_le (Nat.le_of_lt_succ hji) with k|rfl
    ·exact hp j hj k
    ·exact h
 ·simp[z0s fun j hj=>hp j hj (by omega)]
theorem XK (l:List DFrame) (y:AV) (hy:IsSl IsFrame 8 l y) (n:Int) (m:Mem):Okv tab 100 [y,.int .u64 n] m (.int .i64 (placeR l n)):=by
 obtain⟨stk,cur,nx,live,fl⟩:=m
 have f:=fun nz e=>(QY l y hy n ⟨stk++[cur],[⟨nx,[.int .u64 n]⟩],nz,e::live,fl⟩ (stk++[cur]).length nx (w08 _) (by simp[Mem.blk,Mem.row])).eq
 refine oks (tT Z3) ?_
 trivial
end Go.Proofs.W
end
section
namespace Go.Proofs.W
open Go.Vs
def LookV (d:DImage) (g:Nat) (f:DFunc) (r:AV):Prop:=
 ∃y1 y2,r= .agg [y1,y2,.int .i64 (wrongS d g f).1,.int .i64 (wrongS d g f).2]∧y1.one=true∧y2.one=true∧((wrongS d g f).2=0→IsSl IsRun 2 (sizS d f) y1∧IsSl IsRun 2 (livS f) y2)
theorem qI {d:DImage} {g:Nat} {f:DFunc} {a e:Int} (h:wrongS d g f=(a,e)) (he:e≠0):LookV d g f (.agg [.nils,.nils,.int .i64 a,.int .i64 e]):=
 ⟨_,_,by rw[h],rfl,rfl,fun q=>by rw[h] at q;exact absurd q he⟩
theorem z03 (l:List DInstr) (x:AV) (hx:IsSl IsInstr 4 l x) (hc:CodeP l) (h7: ¬Ok07 l) (m:Mem) (hf:m.floor≤m.stk.length+1):Okv tab 298 [x] m (.tup [.nils,.int .i64 8]):=by
 refine zp (tT td) ?_
 obtain⟨stk,cur,nx,live,fl⟩:=m
 dsimp only at hf
 have hf':fl≤(stk++[cur]).length+1:=by simp;omega
 have hC:=fun c nz=>(jc l x hx hc ⟨stk++[cur],c,nz,[]::live,fl⟩ hf').eq
 rw[jo h7] at hC
 simp only[td,go_sem,G6,G8,hC,show((8:Int) !=0)=true from rfl]
 rw[z4 rfl rfl,z5]
 simp
theorem zb1 (d:DImage) (y:AV) (hy:IsImage d y) (g:Nat) (hg:g<d.funcs.length) (h:FunQ d (fnA d.funcs g)) (m:Mem) (hf:m.floor≤m.stk.length+1):
  OkT tab 250 [y,.int .i64 g] m (fun r _ _=>LookV d g (fnA d.funcs g) r):=by
 have hy':=hy
 obtain⟨ty,tx,fs,rfl,h0,h1,h2⟩:=hy
 obtain⟨w0,w1,w2,w3,ef,q0,q1,q2,q3⟩:=h2.fnA hg
 have hat:=h2.at .i64 hg
 refine Zs (tT jg) ?_
 obtain⟨stk,cur,nx,live,fl⟩:=m
 dsimp only at hf
 have hf':fl≤(stk++[cur]).length+1:=by simp;omega
 generalize hF:fnA d.funcs g=f at*
 have hnv:NV d f (.agg [ty,tx,fs,.str f.name,.int .i64 f.params,.int .i64 f.result,w0,w1,w2,w3]):=⟨_,_,_,_,_,_,_,rfl,h0,h1,h2,q0,q1,q2,q3⟩
 have hC:=h.c
 have hln:=h.c.len
 have o0:=h0.one
 have o1:=h1.one
 have o2:=h2.one
 have o3:=q0.one
 have o4:=q1.one
 have o5:=q2.one
 have o6:=q3.one
 have z0:((0:Int) !=0)=false:=rfl
 by_cases h7:Ok07 f.code
 case neg=>
  have hb:=fun m hm=>(z03 f.code w1 q1 h.c h7 m hm).eq
  simp only[jg,go_sem,G3,G6,G9,G8,hat,ef,evBuild,o0,o1,o2,o3,o4,o5,o6]
  rw[hb _ hf']
  simp only[go_sem,G3,G6,G9,G8,show((8:Int) !=0)=true from rfl,evBuild]
  refine yL rfl ?_
  exact qI (Ya h7) (by decide)
 have hRe:=fun c nz lv=>z6c f.code w1 q1 h.c h7 ⟨stk++[cur],c,nz,lv,fl⟩ hf'
 obtain⟨bs,k1,j1,st1,cs,hRc,hRj,hRl,s1,hcs,hsl,hs1⟩:=hRe [⟨nx,[ty,tx,fs]⟩,⟨nx+1,[.nils,.nils,.int .i64 0,.int .i64 0]⟩,⟨nx+1+1,[ty,tx,fs,.str f.name,.int .i64 f.params,.int .i64 f.result,w0,w1,w2,w3]⟩] (nx+1+1+1) ([]::live)
 subst hcs
 simp only[w26,w2e] at hRc hRj hRl
 simp only[jg,go_sem,G3,G6,G9,G8,hat,ef,evBuild,hRc,o0,o1,o2,o3,o4,o5,o6,z0]
 by_cases hmn:g=0∧(f.params≠0∨f.result≠ -1)
 ·obtain⟨e0,e1⟩:=hmn
  have e0':((g:Int)==0)=true:=by rw[e0];rfl
  have hp:=h.p.1
  have hr:=h.r
  by_cases e2:f.params>0
  ·simp only[go_sem,G3,G6,G9,G8,e0',e2,evBuild]
   refine yL rfl ?_
   exact qI (qD h7 ⟨e0,e1⟩) (by decide)
  ·have e3:f.result≥0:=by omega
   simp only[go_sem,G3,G6,G9,G8,e0',e2,e3,evBuild]
   refine yL rfl ?_
   exact qI (qD h7 ⟨e0,e1⟩) (by decide)
 have hcase:(((g:Int)==0)=false)∨((g:Int)==0)=true∧ ¬f.params>0∧ ¬f.result≥0:=by
  grind
 have hN:=fun x hx hw c n lv=>(zb0 d f _ hnv x hx hw ⟨stk++[cur],c,n,lv,fl⟩ hf').eq
 have hT:=fun x hx hn c n lv=>(z9q d h.img f _ hnv h.s x hx hn ⟨stk++[cur],c,n,lv,fl⟩ hf').eq
 obtain⟨p1,rfl⟩: ∃p,j1=p+3:=⟨j1-3,by simp at hRl;omega⟩
 simp only[w4e] at hRj
 have hRq: ∀X,(bs++X)[p1]? =some ⟨st1,bools s1⟩:=fun X=>by rw[w1b (w13.1 hRj).1];exact hRj
 have hTk: ∀X,List.take bs.length (bs++X)=bs:=fun X=>List.take_left ..
 have hGt: ∀x:Blk,(bs++[x])[bs.length]? =some x:=fun x=>by simp
 have hSt: ∀x y:Blk,(bs++[x]).set bs.length y=bs++[y]:=fun x y=>by simp
 rcases hcase with e1|⟨e1,e2,e3⟩
 case' inl=>simp only[go_sem,G6,G8,e1,q1.len]
 case' inr=>simp only[go_sem,G3,G6,G8,e1,e2,e3,q1.len]
 all_goals
  refine zg (α:=Nat) (fun i σ=>(i≤f.code.length∧ ∀j,j<i→insE d f j=0)∧ ∃nz e,heads [4,5,6,7,55,56,57] (bs.length+3) σ=⟨tmps 162 [(4,.ptr (stk++[cur]).length 1 (nx+1) 0),(5,.ptr (stk++[cur]).length 2 (nx+1+1) 0),(6,w1),(7,.arr (stk++[cur]).length (p1+3) st1 0 f.code.length),(55,w1),(56,.int .i64 f.code.length),(57,.int .i64 i)],⟨stk++[cur],⟨nx,[ty,tx,fs]⟩::⟨nx+1,[.nils,.nils,.int .i64 0,.int .i64 0]⟩::⟨nx+1+1,[ty,tx,fs,.str f.name,.int .i64 f.params,.int .i64 f.result,w0,w1,w2,w3]⟩::bs,nz,e::live,fl⟩⟩) (fun i=>f.code.length-i) 0 ?_ ?_
  ·refine⟨⟨w0e _,fun j hj=>absurd hj (w34 _)⟩,?_⟩
   simp only[go_sem,G6,G7,w0a]
   exact⟨_,_,rfl⟩
  ·rintro i σ ⟨⟨hi,hE⟩,nz,e,hσ⟩
   rw[hσ]
   clear hσ σ
   dsimp only at hi hE⊢
   by_cases hin:i<f.code.length
   ·obtain⟨c1,c2,c3⟩:=hC.at hin
    have hsu:IntKind.i64.wrap ((i:Int)+1)=((i+1:Nat):Int):=zq hin q1.max
    simp only[go_sem,G3,G6,G7,G8,w02,hin,q1.at .i64 hin,q1.inA hin,hSt,hGt,hN _ c1 c2]
    have hix:idx (.int .i64 (i:Int)) f.code.length=some i:=zX .i64 i _ hin
    have hgi:=xN (s:=s1) (j:=i) (by omega)
    by_cases hn:NearP d f (inA f.code i)
    case neg=>
     simp only[go_sem,G3,G6,G9,G8,zS hn,show((16:Int) !=0)=true from rfl,evBuild]
     refine yL rfl ?_
     have he:insE d f i=16:=by unfold insE;rw[if_pos hn]
     refine qI ?_ (show(16:Int)≠0 by decide)
     rw[Zm h7 hmn hin hE (by rw[he];decide),he]
    simp only[go_sem,G6,G8,yB hn,show((0:Int) !=0)=false from rfl,z7,hix,w11,hRq,hgi]
    have hld:=hs1 i hin
    cases hsv:s1.getD i false
    ·have hnl: ¬ldP f i:=fun q=>by have:=hld.2 q;rw[hsv] at this;cases this
     simp only[go_sem,G3,G6,G9,G8,evBuild]
     refine yL rfl ?_
     have he:insE d f i=6:=by unfold insE;rw[if_neg (fun q=>q hn),if_pos hnl]
     refine qI ?_ (show(6:Int)≠0 by decide)
     rw[Zm h7 hmn hin hE (by rw[he];decide),he]
    have hl:ldP f i:=hld.1 hsv
    simp only[go_sem,G3,G6,G8,hGt,hT _ c1 hn]
    cases hty:typP d f (inA f.code i)
    ·simp only[go_sem,G3,G6,G9,G8,evBuild]
     refine yL rfl ?_
     have he:insE d f i=30:=by unfold insE;rw[if_neg (fun q=>q hn),if_neg (fun q=>q hl),if_neg (by rw[hty];decide)]
     refine qI ?_ (show(30:Int)≠0 by decide)
     rw[Zm h7 hmn hin hE (by rw[he];decide),he]
    ·have he:insE d f i=0:=by unfold insE;rw[if_neg (fun q=>q hn),if_neg (fun q=>q hl),if_pos hty]
     simp only[go_sem,G6,G8,hsu,hTk]
     refine⟨i+1,by omega,⟨hin,fun j hj=> ?_⟩,_,_,rfl⟩
     by_cases hji:j=i
     ·rw[hji];exact he
     ·exact hE j (by omega)
   ·have hie:i=f.code.length:=by omega
    subst hie
    simp only[go_sem,G3,G6,G7,G8,w02,hin]
    have hE': ∀j,j<f.code.length→insE d f j=0:=hE
    have hFP:=h.funP h7 hE'
    obtain⟨ys,bs2,k2,hsc,hsg⟩:=z65 d f hFP _ hnv ⟨stk++[cur],⟨nx,[ty,tx,fs]⟩::⟨nx+1,[.nils,.nils,.int .i64 0,.int .i64 0]⟩::⟨nx+1+1,[ty,tx,fs,.str f.name,.int .i64 f.params,.int .i64 f.result,w0,w1,w2,w3]⟩::bs,nz,e::live,fl⟩ hf'
    simp only[w26] at hsc hsg
    by_cases hscr:ScrP d f
    case neg=>
     simp only[go_sem,G3,G6,G9,G8,hsc,zS hscr,evBuild]
     refine yL rfl ?_
     exact qI (Te h7 hmn hE' hscr) (by decide)
    obtain⟨j2,st2,cs2,rfl,hj2,hl2,rfl⟩:=hsg hscr.1
    obtain⟨bs3,k3,j3,st3,cs3,hmc,hmj,hml,o,rfl,hol,hom⟩:=z9y f.code w1 q1 h.c h7 f.params f.slots.length h.p hFP.near16 ⟨stk++[cur],⟨nx,[ty,tx,fs]⟩::⟨nx+1,[.nils,.nils,.int .i64 0,.int .i64 0]⟩::⟨nx+1+1,[ty,tx,fs,.str f.name,.int .i64 f.params,.int .i64 f.result,w0,w1,w2,w3]⟩::(bs++bs2),k2,e::live,fl⟩ hf'
    have hoe:=z1N hol hom
    subst hoe
    simp only[w26] at hmc hmj hml
    simp only[go_sem,G3,G6,G8,hsc,yB hscr,q0.len,hmc,z0]
    obtain⟨p2,rfl⟩: ∃p,j2=p+3:=⟨j2-3,by simp at hl2;omega⟩
    obtain⟨p3,rfl⟩: ∃p,j3=p+3:=⟨j3-3,by simp at hml;omega⟩
    simp only[w4e] at hj2 hmj
    replace hj2:(bs++bs2++bs3)[p2]? =some ⟨st2,us ((labs d f).map (sumB d.types))⟩:=by rw[w1b (w13.1 hj2).1];exact hj2
    clear hRq hTk hGt hSt hRj
    generalize bs++bs2++bs3=R at*
    simp only[go_sem,q1.len]
    have hTk: ∀X,List.take R.length (R++X)=R:=fun X=>List.take_left ..
    have hGt: ∀x:Blk,(R++[x])[R.length]? =some x:=fun x=>by simp
    have hSt: ∀x y:Blk,(R++[x]).set R.length y=R++[y]:=fun x y=>by simp
    have hR3: ∀X,(R++X)[p3]? =some ⟨st3,us (msks f)⟩:=fun X=>by rw[w1b (w13.1 hmj).1];exact hmj
    clear hR3
    have hR3: ∀X,(R++X)[p3]? =some ⟨st3,us (msks f)⟩:=fun X=>by rw[w1b (w13.1 hmj).1];exact hmj
    have hmsl:=WU f
    refine zg (α:=Nat) (fun i σ=>(i≤f.code.length∧ ∀j,j<i→livE f j=0)∧ ∃nz e,heads [4,11,13,109,110,111] (R.length+3) σ=⟨tmps 162 [(4,.ptr (stk++[cur]).length 1 (nx+1) 0),(11,.arr (stk++[cur]).length (p2+3) st2 0 f.code.length),(13,.arr (stk++[cur]).length (p3+3) st3 0 f.code.length),(109,w1),(110,.int .i64 f.code.length),(111,.int .i64 i)],⟨stk++[cur],⟨nx,[ty,tx,fs]⟩::⟨nx+1,[.nils,.nils,.int .i64 0,.int .i64 0]⟩::⟨nx+1+1,[ty,tx,fs,.str f.name,.int .i64 f.params,.int .i64 f.result,w0,w1,w2,w3]⟩::R,nz,e::live,fl⟩⟩) (fun i=>f.code.length-i) 0 ?_ ?_
    ·refine⟨⟨w0e _,fun j hj=>absurd hj (w34 _)⟩,?_⟩
     simp only[go_sem,G6,G7,w0a]
     exact⟨_,_,rfl⟩
    ·clear hsc hsg hmc
     rintro i σ ⟨⟨hi,hL⟩,nz,e,hσ⟩
     rw[hσ]
     clear hσ σ
     dsimp only at hi hL⊢
     by_cases hin:i<f.code.length
     ·obtain⟨c1,c2,c3⟩:=hC.at hin
      have hsu:IntKind.i64.wrap ((i:Int)+1)=((i+1:Nat):Int):=zq hin q1.max
      have hrl:=z83 hFP h.p.2.2 hin
      have hr3:=z5r (inA f.code i)
      have hix:idx (.int .i64 (i:Int)) f.code.length=some i:=zX .i64 i _ hin
      have hgi:=qj (s:=msks f) (j:=i) (by omega)
      rw[TS hin] at hgi
      have hmlt:=z5y h.c (by have:=h.p;omega) i
      simp only[go_sem,G3,G6,G7,G8,w02,hin,q1.at .i64 hin,q1.inA hin,hSt,hGt]
      refine(z1p _ c2 c1 _ hf').xv fun r ts n1 ⟨y1,y2,hr,ho⟩=> ?_
      subst hr
      have hy1:=ho.l.sl (by omega)
      have hlive: ∃e',pushToks ts (e::live)=e'::live:=by cases ts<;>exact⟨_,rfl⟩
      obtain⟨e',he'⟩:=hlive
      simp only[go_sem,G6,G8,he',hy1.len]
      generalize hx0:(⟨nz,[.int .u8 (inA f.code i).op,.int .i64 (inA f.code i).a,.int .i64 (inA f.code i).b,.int .i64 (inA f.code i).c]⟩:Blk)=x0
      refine zg (α:=Nat) (fun k σ=>(k≤(rds (inA f.code i)).length∧ ∀s∈(rds (inA f.code i)).take k,(mskF f i>>>s.toNat)%2≠0)∧ ∃nz,heads [4,11,13,14,18,109,110,111,122,123,124] ((R++[x0]).length+3) σ=⟨tmps 162 [(4,.ptr (stk++[cur]).length 1 (nx+1) 0),(11,.arr (stk++[cur]).length (p2+3) st2 0 f.code.length),(13,.arr (stk++[cur]).length (p3+3) st3 0 f.code.length),(14,.int .i64 i),(18,.int .i64 0),(109,w1),(110,.int .i64 f.code.length),(111,.int .i64 i),(122,y1),(123,.int .i64 (rds (inA f.code i)).length),(124,.int .i64 k)],⟨stk++[cur],⟨nx,[ty,tx,fs]⟩::⟨nx+1,[.nils,.nils,.int .i64 0,.int .i64 0]⟩::⟨nx+1+1,[ty,tx,fs,.str f.name,.int .i64 f.params,.int .i64 f.result,w0,w1,w2,w3]⟩::(R++[x0]),nz,e'::live,fl⟩⟩) (fun k=>(rds (inA f.code i)).length-k) 0 ?_ ?_
      ·refine⟨⟨w0e _,fun s hs=>by cases hs⟩,?_⟩
       simp only[go_sem,G6,G7,w0a]
       exact⟨_,rfl⟩
      ·rintro k σ ⟨⟨hk,hK⟩,nz,hσ⟩
       rw[hσ]
       clear hσ σ
       dsimp only at hk hK⊢
       by_cases hkn:k<(rds (inA f.code i)).length
       ·have hmem:(rds (inA f.code i))[k]∈rds (inA f.code i):=w04 hkn
        have e1:nth y1 k= .int .i64 (rds (inA f.code i))[k]:=hy1.nth hkn
        have hatk:=hy1.at .i64 hkn
        have htk:=w0f hkn
        have hsk:=hrl _ hmem
        generalize (rds (inA f.code i))[k]=s at*
        have hsu2:IntKind.i64.wrap ((k:Int)+1)=((k+1:Nat):Int):=by rw[z6 (by omega) (by omega)];omega
        have hand0:=z4I (a:=mskF f i>>>s.toNat) (b:=1) (Nat.lt_of_le_of_lt (Nat.shiftRight_le _ _) hmlt) (by omega)
        rw[Nat.and_one_is_mod] at hand0
        have hand:evBits .and .u64 ((mskF f i>>>s.toNat:Nat):Int) 1=some (.int .u64 ((mskF f i>>>s.toNat%2:Nat):Int)):=hand0
        simp only[go_sem,G6,G7,G8,w02,hkn,hatk,e1,show((0:Int) !=0)=false from rfl,z7,hix,w11,hR3,hgi,z4H hsk,hand]
        by_cases hb:mskF f i>>>s.toNat%2=0
        ·have hb':(((mskF f i>>>s.toNat%2:Nat):Int)==0)=true:=by rw[hb];rfl
         simp only[go_sem,G3,G6,G9,G8,hb',evBuild]
         refine yL rfl ?_
         exact qI (Tf h7 hmn hE' hscr hin hL (z2L hmem hb)) (by decide)
        ·have hb':(((mskF f i>>>s.toNat%2:Nat):Int)==0)=false:=by rw[beq_eq_false_iff_ne];omega
         simp only[go_sem,G6,G8,hb',hsu2,w0a]
         refine⟨k+1,by omega,⟨hkn,fun q hq=> ?_⟩,_,rfl⟩
         rw[htk,w0b] at hq
         rcases hq with hq|hq
         ·exact hK q hq
         ·rw[w1c.1 hq];exact hb
       ·have hke:k=(rds (inA f.code i)).length:=by omega
        subst hke
        rw[w0a] at hK
        simp only[go_sem,G6,G7,G8,w02,hkn,hsu,hTk]
        refine⟨i+1,by omega,⟨hin,fun j hj=> ?_⟩,_,_,rfl⟩
        by_cases hji:j=i
        ·rw[hji];exact z5C hK
        ·exact hL j (by omega)
     ·have hie:i=f.code.length:=by omega
      subst hie
      simp only[go_sem,G6,G7,G8,w02,hin]
      have hv:((labs d f).map (sumB d.types)).length=f.code.length:=by rw[w58,z2W]
      have hR2: ∀X,(R++X)[p2]? =some ⟨st2,us ((labs d f).map (sumB d.types))⟩:=fun X=>by rw[w1b (w13.1 hj2).1];exact hj2
      have hM1:=fun b0 b1 b2 X nz lv=>z7E ((labs d f).map (sumB d.types)) (by rw[hv];exact hln) ⟨stk++[cur],b0::b1::b2::(R++X),nz,lv,fl⟩ (stk++[cur]).length (p2+3) st2 (w08 _) (by simp[Mem.blk,Mem.row,hR2])
      have hM2:=fun b0 b1 b2 X nz lv=>z7E (msks f) (by rw[hmsl];exact hln) ⟨stk++[cur],b0::b1::b2::(R++X),nz,lv,fl⟩ (stk++[cur]).length (p3+3) st3 (w08 _) (by simp[Mem.blk,Mem.row,hR3])
      rw[hv] at hM1
      rw[hmsl] at hM2
      refine(hM1 _ _ _ _ _ _).xv fun y1 ts n1 ho1=> ?_
      have hlive: ∃e',pushToks ts (e::live)=e'::live:=by cases ts<;>exact⟨_,rfl⟩
      obtain⟨e',he'⟩:=hlive
      have hz1:=ho1.one
      have hr1:(madeR ((labs d f).map (sumB d.types))).length≤200:=Nat.le_trans (jY _ _) (by rw[hv];exact hln.2)
      have hr2:(madeR (msks f)).length≤200:=Nat.le_trans (jY _ _) (by rw[hmsl];exact hln.2)
      simp only[go_sem,G3,G6,G9,G8,he',hSt,hGt,ho1.cells,hz1]
      refine(hM2 _ _ _ _ _ _).xv fun y2 ts2 n2 ho2=> ?_
      have hlive: ∃e'',pushToks ts2 (e'::live)=e''::live:=by cases ts2<;>exact⟨_,rfl⟩
      obtain⟨e'',he''⟩:=hlive
      simp only[go_sem,G3,G6,G9,G8,he'',hSt,hGt,ho2.cells,ho2.one,hz1]
      have hs1:=ho1.sl (by omega)
      have hs2:=ho2.sl (by omega)
      refine yL (by simp only[AV.refs,refsAny,hs1.refs,hs2.refs];rfl) ?_
      have hw:=X7 (g:=g) h7 hmn hE' hscr hL
      refine⟨y1,y2,by rw[hw],hs1.one,hs2.one,fun _=>⟨hs1,hs2⟩⟩
theorem z7K (d:DImage) (y:AV) (hy:IsImage d y) (hw:WfImage d) (m:Mem) (hf:m.floor≤m.stk.length+1):Okv tab 169 [y] m (faultV d):=by
 have hy':=hy
 obtain⟨ty,tx,fs,rfl,h0,h1,h2⟩:=hy
 refine zp (tT Z1) ?_
 obtain⟨stk,cur,nx,live,fl⟩:=m
 dsimp only at hf
 have hf':fl≤(stk++[cur]).length+1:=by simp;omega
 have hC:=fun c n lv=>(XI d _ hy' hw ⟨stk++[cur],c,n,lv,fl⟩ hf').eq
 simp only[Z1,go_sem,G3,G6,G8,hC]
 generalize callNx tab 82 _ _=nz
 by_cases he:err09 d=0
 case neg=>
  have he':(err09 d !=0)=true:=by simpa using he
  simp only[go_sem,G6,G8,he']
  rw[z4 rfl rfl,z5]
  exact⟨⟨_,rfl⟩,by unfold faultV;rw[Qd he]⟩
 have hfi:=z3g he
 simp only[go_sem,G6,G8,he,show((0:Int) !=0)=false from rfl,h2.len]
 refine zg (α:=Nat) (fun g σ=>(g≤d.funcs.length∧ ∀j,j<g→(wrongF d j).2=0)∧ ∃nz e,heads [1,15,16,17] 1 σ=⟨tmps 55 [(1,.ptr (stk++[cur]).length 0 nx 0),(15,fs),(16,.int .i64 d.funcs.length),(17,.int .i64 g)],⟨stk++[cur],[⟨nx,[ty,tx,fs]⟩],nz,e::live,fl⟩⟩) (fun g=>d.funcs.length-g) 0 ?_ ?_
 ·refine⟨⟨w0e _,fun j hj=>absurd hj (w34 _)⟩,?_⟩
  simp only[go_sem,G6,G7]
  exact⟨_,_,rfl⟩
 ·rintro g σ ⟨⟨hg,hp⟩,nz,e,hσ⟩
  rw[hσ]
  clear hσ σ
  dsimp only at hg hp⊢
  by_cases hgn:g<d.funcs.length
  ·have hsu:IntKind.i64.wrap ((g:Int)+1)=((g+1:Nat):Int):=zq hgn h2.max
   obtain⟨w0,w1,w2,w3,ef,q0,q1,q2,q3⟩:=h2.fnA hgn
   have hat:=h2.at .i64 hgn
   have hwr:wrongF d g=if(wrongS d g (fnA d.funcs g)).2=0∧tabF d (fnA d.funcs g)≠fnA d.funcs g then(-1,32) else wrongS d g (fnA d.funcs g):=by unfold wrongF;congr
   have hwp:=fun h=>z3H (d:=d) (g:=g) (f:=fnA d.funcs g) h
   simp only[go_sem,G3,G6,G7,G8,w02,hgn,hat,ef,q0.one,q1.one,q2.one,q3.one]
   refine(zb1 d _ hy' g hgn (.of hw hfi hgn) _ hf').xv fun r t1 n1 ⟨y1,y2,hr,hy1,hy2,hys⟩=> ?_
   subst hr
   have hlive: ∃e',pushToks t1 (e::live)=e'::live:=by cases t1<;>exact⟨_,rfl⟩
   obtain⟨e1,he1⟩:=hlive
   have hte:=z5h (d:=d) (f:=fnA d.funcs g)
   generalize fnA d.funcs g=f at*
   by_cases hz:(wrongS d g f).2=0
   ·obtain⟨hs1,hs2⟩:=hys hz
    rw[hwp hz] at hwr⊢
    have hE1:=fun m=>(va _ _ _ _ hs1 q2 m).eq
    have hE2:=fun m=>(va _ _ _ _ hs2 q3 m).eq
    have fin32: ¬(sizS d f=f.sizes∧livS f=f.lives)→wrongF d g=(-1,32):=fun hn=>by
     rw[hwr,if_pos ⟨rfl,fun q=>hn (hte.1 q)⟩]
    simp only[go_sem,G3,G6,G8,he1,hs1.one,hs2.one,show((0:Int)==0)=true from rfl,hE1]
    by_cases e1:sizS d f=f.sizes
    case neg=>
     have h32:=fin32 fun q=>e1 q.1
     simp only[go_sem,G3,G6,G9,G8,decide_eq_false e1,show((32:Int) !=0)=true from rfl]
     rw[z4 rfl rfl,z5]
     exact⟨⟨_,rfl⟩,by unfold faultV;rw[Xp he hgn hp (by rw[h32];decide),h32]⟩
    simp only[go_sem,G6,G8,decide_eq_true e1,hE2]
    by_cases e2:livS f=f.lives
    case neg=>
     have h32:=fin32 fun q=>e2 q.2
     simp only[go_sem,G3,G6,G9,G8,decide_eq_false e2,show((32:Int) !=0)=true from rfl]
     rw[z4 rfl rfl,z5]
     exact⟨⟨_,rfl⟩,by unfold faultV;rw[Xp he hgn hp (by rw[h32];decide),h32]⟩
    have hok:wrongF d g=(0,0):=by rw[hwr,if_neg fun q=>q.2 (hte.2 ⟨e1,e2⟩)]
    simp only[go_sem,G6,G8,decide_eq_true e2,show((0:Int) !=0)=false from rfl,hsu]
    refine⟨g+1,by omega,⟨hgn,fun j hj=> ?_⟩,_,_,rfl⟩
    by_cases hji:j=g
    ·rw[hji,hok]
    ·exact hp j (by omega)
   ·have hwf:wrongF d g=wrongS d g f:=by rw[hwr,if_neg fun q=>hz q.1]
    have hz1:((wrongS d g f).2==0)=false:=by simpa using hz
    have hz2:((wrongS d g f).2 !=0)=true:=by simpa using hz
    simp only[go_sem,G3,G6,G8,he1,hy1,hy2,hz1,hz2]
    rw[z4 rfl rfl,z5]
    exact⟨⟨_,rfl⟩,by unfold faultV;rw[Xp he hgn hp (by rw[hwf];exact hz),hwf]⟩
  ·have:g=d.funcs.length:=by omega
   subst this
   simp only[go_sem,G6,G7,G8,w02,hgn]
   rw[z4 rfl rfl,z5]
   exact⟨⟨_,rfl⟩,by unfold faultV;rw[VT he hp]⟩
theorem z7M (d:DImage) (y:AV) (hy:IsImage d y) (hw:WfImage d) (m:Mem) (hf:m.floor≤m.stk.length+1):Okv tab 89 [y] m (.int .i64 (faultS d).2.2):=by
 have hy':=hy
 obtain⟨ty,tx,fs,rfl,h0,h1,h2⟩:=hy
 refine zp (tT Z2) ?_
 obtain⟨stk,cur,nx,live,fl⟩:=m
 dsimp only at hf
 have hf':fl≤(stk++[cur]).length+1:=by simp;omega
 have hF:=fun c n lv=>(z7K d _ hy' hw ⟨stk++[cur],c,n,lv,fl⟩ hf').eq
 unfold faultV at hF
 simp only[Z2,go_sem,G3,G6,G8,hF]
 rw[z4 rfl rfl,z5]
 exact⟨⟨_,rfl⟩,rfl⟩
end Go.Proofs.W
end
section
namespace Go.Proofs.W
open Go.Vs
attribute [local go_sem high] zm zT
attribute [local go_sem ↓] w06 w0d
attribute [local go_sem low] Yc Yt Yf Yut Yuf yy yz yw yx
attribute [local go_sem 2000] zK
attribute [local go_sem] x6 x5 x9 x8 zR zu y7 zP zW zt yq yn ym hd kep yj w02 AV.bool.injEq AV.int.injEq not_true_eq_false not_false_eq_true true_implies false_implies and_true true_and implies_true zl zI zH zk zJ zw zc z8 zj zB zA zi zC zy zb z9 w07 zD zE zZ w18 evShift IntKind.bits zL zF zG z6 za zQ zx w0c yu yr allLen zd AV.tup.injEq List.cons.injEq AV.agg.injEq zV zU evBuild yo zN zn zM eqC0 eqC1 eqC2 zO w17 w16
attribute [go_sem] X4 kZ kY kX kW kV kU kT qW Y0
structure SmD (d:DDump):Prop where
 w:WfDump d
 r:d.routines.length≤20
 s:d.stacks.length≤20
 f:d.defers.length≤20
 p:d.panics.length≤20
 g:great09 d.image=false
theorem SmD.of {d:DDump} (hw:WfDump d) (hL:large28 d=false):SmD d:=by
 simp only[large28,great28,w28,decide_eq_false_iff_not] at hL
 obtain⟨⟨⟨⟨hL,_⟩,hd⟩,hp⟩,hg⟩:=hL
 exact⟨hw,by omega,by omega,(z5L hd).1,(z5L hp).1,hg⟩
def rowF (i:Nat):Nat:=[228,229,231,233,235,237,239].getD i 0
noncomputable def secO (d:DDump) (i:Nat):Bool:=[decide (err09 d.image=0),endedOk d.ended,heapOk d.heap,stacksOk d.stacks,headsOk d.routines,chainsOk d.defers,chainsOk d.panics].getD i false
noncomputable def secB (d:DDump) (i:Nat):List UInt8:=[codI d.image,endedB d.ended,regB d.heap,stacksB d.stacks,headsB d.routines,chainsB d.defers,chainsB d.panics].getD i []
theorem zbL (d:DDump) (v0 v1 v2 v3 v4 v5 v6 v7:AV) (h:DumpV d v0 v1 v2 v3 v4 v5 v6 v7) (hs:SmD d) (i:Nat) (hi:i<7) (m:Mem) (hf:m.floor≤m.stk.length+1):
  Okp IsByte 1 tab (rowF i) [dumpA d v0 v1 v2 v3 v4 v5 v6 v7] m (if secO d i then secB d i else []) (if secO d i then 0 else if i=0 then err09 d.image else 8):=by
 match i,hi with
 |0,_=>
  refine okpz (tT kZ) fun s c x v g e=> ?_
  subst e
  refine op (Ym d.image _ h.i hs.w.image _ (by simp at*;omega)) fun y t k ho=> ?_
  refine fp ho ?_
  simp[secO,secB]
 |1,_=>
  refine okpz (tT kY) fun s c x v g e=> ?_
  subst e
  refine op (W3 d.ended hs.w.ended _ (by simp at*;omega)) fun y t k ho=> ?_
  exact fp ho (nd rfl rfl)
 |2,_=>
  refine okpz (tT kX) fun s c x v g e=> ?_
  subst e
  refine op (W1 d.heap _ h.h _ (by simp at*;omega)) fun y t k ho=> ?_
  exact fp ho (nd rfl rfl)
 |3,_=>
  refine okpz (tT kW) fun s c x v g e=> ?_
  subst e
  refine op (Yk d.stacks _ h.s (by have:=hs.s;omega) _ (by simp at*;omega)) fun y t k ho=> ?_
  exact fp ho (nd rfl rfl)
 |4,_=>
  refine okpz (tT kV) fun s c x v g e=> ?_
  subst e
  refine op (W2 d.routines _ h.r (by have:=hs.r;omega) hs.w.routines _ (by simp at*;omega)) fun y t k ho=> ?_
  exact fp ho (nd rfl rfl)
 |5,_=>
  refine okpz (tT kU) fun s c x v g e=> ?_
  subst e
  refine op (ja d.defers _ h.f (by have:=hs.f;omega) hs.w.defers _ (by simp at*;omega)) fun y t k ho=> ?_
  exact fp ho (nd rfl rfl)
 |6,_=>
  refine okpz (tT kT) fun s c x v g e=> ?_
  subst e
  refine op (ja d.panics _ h.p (by have:=hs.p;omega) hs.w.panics _ (by simp at*;omega)) fun y t k ho=> ?_
  exact fp ho (nd rfl rfl)
abbrev rowA (i:Nat):AV:= .agg [.int .u8 (i+1:Nat),.fn (.func (rowF i)) [] []]
def rowsA:AV:= .list 2 .full ((List.range 7).map rowA)
theorem z2e (m:Mem):Okv tab 157 [] m rowsA:=by
 refine okz (tT X4) fun s c x v g e=> ?_
 rfl
theorem z9I (k:IntKind) (p:Int) (h0:0≤p) (h:p<7):evIaddr 2 rowsA (.int k p)=some (.ro (rowA p.toNat).cells):=by
 have:p=0∨p=1∨p=2∨p=3∨p=4∨p=5∨p=6:=by omega
 rcases this with rfl|rfl|rfl|rfl|rfl|rfl|rfl<;>rfl
noncomputable def secs (d:DDump):List DSection:=(List.range 7).map fun i=>⟨(i+1:Nat),secB d i⟩
noncomputable def secsOk (d:DDump):Bool:=(List.range 7).all (secO d)
theorem z6k (d:DDump):secsOk d=(decide (err09 d.image=0)&&partsOk d):=by
 simp[secsOk,secO,partsOk,List.range,List.range.loop,Bool.and_assoc]
theorem UG {l:List (List Int)} (hl:l.length≤20) (hw: ∀c∈l,U64 c) (h:chainsOk l=true):(chainsB l).length≤1000000:=by
 have hh:=z3B.1 (w3b.1 h).2
 have:=qO (f:=fun _=>chainB) (g:=0) (fun j hj=>Wn (hw _ (w04 hj)) (hh j hj)) l.length
 have:=T1 (l:=[(l.length:Int)]) (by simp[U64];omega)
 simp[chainsB] at*;omega
theorem z7V {d:DDump} (hs:SmD d) {i:Nat} (hi:i<7) (h:secO d i=true):(secB d i).length≤1000000:=by
 have hm:=fun n:Nat=>fun h:n≤1000000=> @zf n (by omega)
 match i,hi with
 |0,_=>
  have:err09 d.image=0:=by simpa [secO] using h
  unfold err09 at this
  show(codI d.image).length≤_
  split at this<;>(try split at this)<;>omega
 |1,_=>
  have h:endedOk d.ended=true:=h
  have:= @zf (zigzag d.ended.failing) (vP hs.w.ended.failing)
  have:=T1 (l:=[d.ended.steps]) (by simp[U64];grind [endedOk])
  simp[secB,endedB] at*;omega
 |2,_=>
  have:=z34 (show heapOk d.heap=true from h)
  have:=hm _ (show d.heap.bytes.length≤_ by omega)
  simp[secB,regB];omega
 |3,_=>
  obtain⟨h1,h2⟩:=jx (show stacksOk d.stacks=true from h)
  have:=qO (f:=fun _=>regB) (g:=0) (B:=5000) (fun j hj=>by have:=h2 j hj;have:=hm _ (show d.stacks[j].bytes.length≤_ by omega);simp[regB];omega) d.stacks.length
  have:=hm _ (show d.stacks.length≤_ by omega)
  simp[secB,stacksB] at*;omega
 |4,_=>
  have h:headsOk d.routines=true:=h
  have hh:=y8.1 (w3b.1 h).2
  have:=qO (fun j hj=>VR (hh j hj) (hs.w.routines _ (w04 (by simpa using hj)))) d.routines.length
  have:=T1 (l:=[(d.routines.length:Int)]) (by simp[U64];have:=hs.r;omega)
  have:=hs.r
  simp[secB,headsB] at*;omega
 |5,_=>exact UG hs.f hs.w.defers h
 |6,_=>exact UG hs.p hs.w.panics h
theorem UO (d:DDump) (y:AV) (hy:IsDump d y) (hs:SmD d) (m:Mem) (hf:m.floor≤m.stk.length+1):OkT tab 85 [y] m fun r _ _=> ∃z,r= .tup [z,.bool (secsOk d)]∧(secsOk d=true→IsSl IsSection 2 (secs d) z):=by
 obtain⟨v0,v1,v2,v3,v4,v5,v6,v7,rfl,h⟩:=IsDump.v hy
 have f:=nd (fun m=>(z2e m).eq) (nd (show evLen rowsA=some (.int .i64 7) from rfl) z9I)
 refine oktz (tT qW) fun s c x v g e=> ?_
 subst e
 refine xn 11 7 [4] (fun i v e=>Own IsSection 2 (v 4) ((secs d).take i) e∧ ∀j,j<i→secO d j=true) 0 ?_ fun i v e nz hi hp=> ?_
 ·exact nd (.nil _) (by omega)
 obtain⟨ho,hj⟩:=hp
 refine ifs (fun hi=> ?_) fun hi=> ?_
 ·have hi:i<7:=by omega
  have hr:=fun m hf=>zbL d _ _ _ _ _ _ _ _ h hs i hi m hf
  cases hq:secO d i<;>simp only[hq,if_true,w25,if_false] at hr
  ·have:(if i=0 then err09 d.image else 8)≠0:=by
    split
    ·subst i;simpa [secO] using hq
    ·decide
   have hS:secsOk d=false:=by rw[secsOk,List.all_eq_false];exact⟨i,by simpa using hi,by simp[hq]⟩
   refine op (hr _ (by simp at*;omega)) fun y t k hr=> ?_
   refine ifs (fun _=> ?_) fun h=>absurd this h
   exact⟨[],k,by simp[xl],.nils,by rw[hS],by simp[hS]⟩
  ·have:=z7V hs hi hq
   refine op (hr _ (by simp at*;omega)) fun y t k hr=> ?_
   refine oa (ho.push t) (yc (show IsSection ⟨(i+1:Nat),secB d i⟩ (.agg [.int .u8 (i+1:Nat),y]) from⟨_,rfl,hr.sl (by omega)⟩)) (by simp[secs];omega) fun y n e ho=> ?_
   refine nd hi (nd ?_ fun j hj'=> ?_)
   ·rw[w0f (by simpa [secs] using hi)];simpa [secs] using ho
   ·by_cases e:j=i
    ·rw[e];exact hq
    ·exact hj j (by omega)
 ·obtain rfl:i=7:=by omega
  have hS:secsOk d=true:=by rw[secsOk,w37];exact fun j h=>hj j (by simpa using h)
  rw[w35 (by simp[secs])] at ho
  refine ft ?_ fun _ _=>⟨_,by rw[hS],fun _=>ho.sl (by simp[secs])⟩
  rw[zw,z8,ho.refs];rfl
theorem WA (d:DDump) (y:AV) (hy:IsDump d y) (hs:SmD d) (m:Mem) (hf:m.floor≤m.stk.length+1):Okv tab 33 [y] m (.int .i64 (if ok28 d then 0 else 8)):=by
 have hS:=fun m h=>UO d y hy hs m h
 obtain⟨v0,v1,v2,v3,v4,v5,v6,v7,rfl,h⟩:=IsDump.v hy
 obtain⟨hw,_,_,_,_,hg⟩:=hs
 have hn:d.image.funcs.length≤40:=by simp[great09] at hg;omega
 obtain⟨q,hq⟩:=regs h.s
 have hR:=fun j (hj:j<d.routines.length)=>hw.routines _ (w04 hj)
 have f0:=nd h.s.z (nd h.r.z (nd h.f.z (nd h.p.z h.o)))
 have f:=nd f0 (nd (fun j hj=>nd (hq j hj).1 (hq j hj).2.1.z.1) (nd (nthH h.r) (nd (nthS h.f) (nd (nthS h.p) (nd (fun j (hj:j<d.defers.length) n m=>(XJ n _ _ (h.f.nth hj) m).eq) fun j (hj:j<d.panics.length) n m=>(XJ n _ _ (h.p.nth hj) m).eq)))))
 refine okz (tT Y0) fun s c x v g e=> ?_
 subst e
 simp at hf
 refine ot (hS _ (by simp;omega)) fun y t k hz=> ?_
 obtain⟨z,rfl,hz⟩:=hz
 refine st ?_
 have hq:=z6k d
 repeat' first|refine ow (z7M d.image _ h.i hw.image _ (by simp;omega)) ?_|refine ifs ?_ ?_|intro
 all_goals first|(clear f f0;grind [ok28,lensOk])|skip
 refine xn 56 d.routines.length [] (fun i _ _=> ∀j (hj:j<d.routines.length),j<i→rowOk d j d.routines[j]=true) 0 ?_ fun i v e nz hi hp=> ?_
 ·grind
 refine ifs (fun hi=> ?_) fun hi=> ?_
 ·have hP:headsOk d.routines=true∧stacksOk d.stacks=true∧d.stacks.length=d.routines.length:=by clear f f0;grind [partsOk]
  have h1:=y8.1 (w3b.1 hP.1).2 i hi
  have h2:=y8.1 (w3b.1 hP.2.1).2 i (by omega)
  have h3:stackB i≤d.routines[i].sp∧d.routines[i].sp≤stackB i+4096:=by grind [headOk]
  have h4:d.stacks[i].base=stackB i∧d.stacks[i].bytes.length≤4096:=by grind [fitR]
  refine st ?_
  have:=(hR i hi).sp
  unfold inU64 at this
  repeat' first|refine ow (Zq d.image _ h.i hw.image (by omega) _ (hR i hi).code _ (by simp;omega)) ?_|refine ifs ?_ ?_|intro
  all_goals clear f f0;grind [ok28,lensOk,y8,rowOk]
 ·clear f f0;grind [ok28,lensOk,y8]
attribute [go_sem] tK yX qc tp qB
abbrev wkA (d:DDump) (v0 v1 v2 v3 v4 v5 v6 v7:AV) (g:Nat) (b:Bool):List AV:=[v0,v1,v2,.int .u8 d.ended.outcome,.int .i64 d.ended.failing,.int .i64 d.ended.steps,.int .u64 d.heap.base,v3,v4,v5,v6,v7,.int .i64 (g:Int),.bool b]
theorem QI (d:DDump) (v0 v1 v2 v3 v4 v5 v6 v7:AV) (h:DumpV d v0 v1 v2 v3 v4 v5 v6 v7) (hl:d.stacks.length≤900) (g:Nat) (b:Bool) (n:Int) (hn:0≤n∧n<18446744073709551616) (L k q:Nat) (s:List (List Blk)) (c:List Blk) (x:Nat) (v:List (List Nat)) (fl:Nat) (hL:L≤s.length) (hk:((s++[c]).getD L [])[k]? =some ⟨q,wkA d v0 v1 v2 v3 v4 v5 v6 v7 g b⟩) (hf:fl≤s.length+1):
  Okv tab 197 [.ptr L k q 0,.int .u64 n] ⟨s,c,x,v,fl⟩ (.int .u64 (wordD d n)):=by
 have hW:=fun m hf=>qs d.heap d.stacks _ _ h.h h.s hl n hn m hf
 have hne:(L==(s++[c]).length)=false:=by simp;omega
 have f:=nd h.o (nd hne hk)
 refine oks (tT tK) ?_
 refine ow (hW _ (by simp;omega)) fun q=> ?_
 rfl
theorem Ti (d:DDump) (v0 v1 v2 v3 v4 v5 v6 v7:AV) (h:DumpV d v0 v1 v2 v3 v4 v5 v6 v7) (g:Nat) (hd:WalkD d g) (b:Bool) (cc en:Int) (hc:0≤cc∧cc<18446744073709551616) (he:stackB g≤en∧en≤stackB g+4096) (L k q:Nat) (s:List (List Blk)) (c:List Blk) (x:Nat) (v:List (List Nat)) (fl:Nat) (hL:L≤s.length) (hk:((s++[c]).getD L [])[k]? =some ⟨q,wkA d v0 v1 v2 v3 v4 v5 v6 v7 g b⟩) (hf:fl≤s.length+1):
  ∃r,Okv tab 135 [.ptr L k q 0,.int .u64 cc,.int .u64 en] ⟨s,c,x,v,fl⟩ (.tup [frA r,.bool (frameOk d (stackB g) cc en)])∧(frameOk d (stackB g) cc en=true→r=frameD d cc en):=by
 obtain⟨Q,hQ⟩:=regs h.s
 have hne:(L==(s++[c]).length)=false:=by simp;omega
 have hne2: ∀C:List Blk,(L==(s++[c]++[C]).length)=false:=fun C=>by simp;omega
 have hk2: ∀C,((s++[c]++[C]).getD L [])[k]? =some ⟨q,wkA d v0 v1 v2 v3 v4 v5 v6 v7 g b⟩:=fun C=>by
  rw[←hk];congr 1
  simp only[w03]
  rw[w1b (by simp;omega)]
 have hs1:(d.stacks[g]'hd.s).base=stackB g:=by rw[←hd.b];simp[w03,hd.s]
 have hB:stackB g=16777216*((g:Int)+1):=rfl
 have hgs:=hd.s
 have hgl:=hd.l
 have hsz:= @TF d.image hd.w.image cc hc.1
 have f:=nd h.o (nd hne (nd hk (nd h.s.z (nd (fun j hj=>nd (hQ j hj).1 (hQ j hj).2.1.z.1) (nd hd.s (nd hs1 (fun n hn c' x' v' fl' hf'=>(QI d v0 v1 v2 v3 v4 v5 v6 v7 h (by omega) g b n hn L k q (s++[c]) c' x' v' fl' (by simp;omega) (hk2 c') hf').eq)))))))
 have hlen:(s++[c]).length=s.length+1:=by simp
 have hI:=fun m hf=>Zq d.image _ h.i hd.w.image (by have:=hd.n;omega) cc hc m hf
 have hS:=fun m hf=>z1o d.image _ h.i hd.w.image (by have:=hd.n;omega) cc hc m hf
 by_cases hF:(findR d.image cc).2.2=0
 rotate_left
 ·refine⟨⟨0,0,0,0,0,0,0,0⟩,?_,fun hh=> ?_⟩
  ·have f:=nd f hF
   refine oks (tT yX) ?_
   refine ow (hI _ (by simp;omega)) fun k=> ?_
   simp[frameOk,sizeR,hF]
  ·simp[frameOk,sizeR,hF] at hh
 by_cases h2:(sizeR d.image cc).2=0
 rotate_left
 ·refine⟨⟨0,0,0,0,0,0,0,0⟩,?_,fun hh=> ?_⟩
  ·have f:=nd f (nd hF h2)
   refine oks (tT yX) ?_
   refine ow (hI _ (by simp;omega)) fun k=> ?_
   refine ow (hS _ (by simp;omega)) fun k=> ?_
   simp[frameOk,h2]
  ·simp[frameOk,h2] at hh
 obtain⟨_,hz1,hz2⟩:=hsz h2
 by_cases h3:(sizeR d.image cc).1≤en-stackB g
 rotate_left
 ·refine⟨⟨0,0,0,0,0,0,0,0⟩,?_,fun hh=> ?_⟩
  ·have f:=nd f (nd hF (nd h2 (show(sizeR d.image cc).1>en-stackB g by omega)))
   refine oks (tT yX) ?_
   refine ow (hI _ (by simp;omega)) fun k=> ?_
   refine ow (hS _ (by simp;omega)) fun k=> ?_
   simp[frameOk,h3]
  ·simp[frameOk,h3] at hh
 refine⟨frameD d cc en,?_,fun _=>rfl⟩
 have f:=nd f (nd hF (nd h2 (show¬(sizeR d.image cc).1>en-stackB g by omega)))
 refine oks (tT yX) ?_
 refine ow (hI _ (by simp;omega)) fun k=> ?_
 refine ow (hS _ (by simp;omega)) fun k=> ?_
 refine nd (by simp) (nd (nd rfl (nd rfl (nd rfl (nd rfl (nd rfl (nd rfl (nd rfl rfl))))))) ?_)
 rw[show frameOk d (stackB g) cc en=decide (wordD d (en-(sizeR d.image cc).1)=0↔en-(sizeR d.image cc).1=stackB g) by simp[frameOk,h2,h3,frameD]]
 by_cases hA:wordD d (en-(sizeR d.image cc).1)=0<;>by_cases hB2:en-(sizeR d.image cc).1=stackB g<;>simp[hA,hB2]
theorem z1c (L k q:Nat) (s:List (List Blk)) (c:List Blk) (x:Nat) (v:List (List Nat)) (g:Nat) (hL:L≤s.length):
  CALL tab 66 [.ptr L k q 0] ⟨s,c,x,v,g⟩=some (.fn (.func 134) [] [.ptr s.length c.length x 0],⟨s,c++[⟨x,[.ptr L k q 0]⟩],x+1,v,g⟩):=by
 have h:Does tab 66 [.ptr L k q 0] ⟨s,c,x,v,g⟩ fun r m=>r= .fn (.func 134) [] [.ptr s.length c.length x 0]∧m=⟨s,c++[⟨x,[.ptr L k q 0]⟩],x+1,v,g⟩:=by
  refine yD (tT qc) ?_ (Nat.le_of_ble_eq_true rfl)
  refine st ?_
  have: ¬L=s.length+1:=by omega
  simp[leave,AV.refs,refsAny,AV.shift,shiftAll,AV.toks,pushToks,z5,this]
 obtain⟨⟨r,m⟩,h1,rfl,rfl⟩:=h
 exact h1
abbrev wkC (d:DDump) (v0 v1 v2 v3 v4 v5 v6 v7:AV) (g x0 x1 x2 x3 x4 F:Nat) (y:AV) (b:Bool):List Blk:=[⟨x0,[v0,v1,v2,.int .u8 d.ended.outcome,.int .i64 d.ended.failing,.int .i64 d.ended.steps,.int .u64 d.heap.base,v3,v4,v5,v6,v7]⟩,⟨x1,[y]⟩,⟨x2,wkA d v0 v1 v2 v3 v4 v5 v6 v7 g b⟩,⟨x3,[.ptr F 2 x2 0]⟩,⟨x4,[.int .i64 0]⟩]
structure WS where
 n:Nat
 l:List DFrame
 c:Int
 e:Int
 y:AV
 t:List Nat
 o:List Nat
 a:DFrame
theorem zbj {Y:YC} (d:DDump) (v0 v1 v2 v3 v4 v5 v6 v7:AV) (h:DumpV d v0 v1 v2 v3 v4 v5 v6 v7) (g:Nat) (hd:WalkD d g) (x0 x1 x2 x3 x4:Nat) (S:List (List Blk)) (rest:List (List Nat)) (fl:Nat) (hf:fl≤S.length)
  (hy: ∀(x:DFrame) l y t nx e cur,Own IsFrame 8 y l (e++t)→l.length≤200→ ∃n y' t' e',YC.Y [.yld S.length 4 x4,frA x] ⟨S++[wkC d v0 v1 v2 v3 v4 v5 v6 v7 g x0 x1 x2 x3 x4 S.length y false],cur,nx,e::t::rest,fl⟩=some (.bool true,⟨S++[wkC d v0 v1 v2 v3 v4 v5 v6 v7 g x0 x1 x2 x3 x4 S.length y' false],cur,n,e'::t'::rest,fl⟩)∧Own IsFrame 8 y' (l++[x]) (e'++t')) (nx:Nat):
  Opt (ITER tab Y.Y (some 134) [.yld S.length 4 x4,.ptr S.length 3 x3 0] ⟨S,wkC d v0 v1 v2 v3 v4 v5 v6 v7 g x0 x1 x2 x3 x4 S.length .nils false,nx,[]::rest,fl⟩) fun r=> ∃n y l t b,r.2=⟨S,wkC d v0 v1 v2 v3 v4 v5 v6 v7 g x0 x1 x2 x3 x4 S.length y b,n,t::rest,fl⟩∧IsSl IsFrame 8 l y∧
   walkN d (stackB g) 200 (rtD d g).code (rtD d g).sp none=if b=true then none else some l:=by
 have hr1:d.routines[g]'hd.r=rtD d g:=by simp[rtD,w03,hd.r]
 have hln: ∀z:List Blk,(S++[z]).length=S.length+1:=fun z=>by simp
 have hne:(S.length==S.length+1)=false:=by simp
 have hg: ∀z:List Blk,(S++[z]).getD S.length []=z:=fun z=>by simp
 have hmod: ∀z f,(S++[z]).modify S.length f=S++[f z]:=fun z f=>by
  rw[w33 (by simp)];simp
 have f:=nd hln (nd hne (nd hg (nd hmod (nd h.o (nd h.r.z (nd (nthH h.r) (nd hd.r (nd hr1 (show decide (fl≤S.length)=true by simpa using hf)))))))))
 refine oiz (tT tp) (R:=fun _ m=> ∃n y l t b,m=⟨S,wkC d v0 v1 v2 v3 v4 v5 v6 v7 g x0 x1 x2 x3 x4 S.length y b,n,t::rest,fl⟩∧IsSl IsFrame 8 l y∧walkN d (stackB g) 200 (rtD d g).code (rtD d g).sp none=if b=true then none else some l) ?_
 refine xs [3,4,6] (fun(z:WS) v S' e b=>(Walking d g z.n z.l z.c z.e∧Own IsFrame 8 z.y z.l (z.o++z.t)∧(z.l=[]∨z.l.getLast? =some z.a))∧v 3= .int .u64 z.c∧v 4= .int .u64 z.e∧v 6= .bool z.l.isEmpty∧S'=S++[wkC d v0 v1 v2 v3 v4 v5 v6 v7 g x0 x1 x2 x3 x4 S.length z.y false]∧e=z.o::z.t::rest∧b=[⟨nx,[.int .u64 z.a.start,.int .i64 z.a.func,.int .i64 z.a.at_,.int .u64 z.a.code,.int .i64 z.a.size,.int .u64 z.a.mode,.int .u64 z.a.record,.int .u64 z.a.caller]⟩]) (fun z=>z.n) ⟨200,[],(rtD d g).code,(rtD d g).sp,.nils,[],[],⟨0,0,0,0,0,0,0,0⟩⟩ ?_ ?_
 ·exact nd (nd (Walking.start hd) (nd (.nil _) (.inl trivial))) rfl
 rintro⟨n,l,cc,en,y,t,o,a⟩ v S' e nz bs ⟨⟨hW,ho,ha⟩,h3,h4,h6,hS,he,hbs⟩
 dsimp only at*
 subst hS he hbs
 have hB:stackB g=16777216*((g:Int)+1):=rfl
 have hgs:=hd.s
 have hgl:=hd.l
 have hln':=hW.n
 have hen:=hW.e
 have hst:frameOk d (stackB g) cc en=false→stepR d (stackB g) cc en l.getLast? =none:=fun h=>by simp[stepR,h]
 obtain⟨r,hcall,hr⟩:=Ti d v0 v1 v2 v3 v4 v5 v6 v7 h g hd false cc en hW.c ⟨hen.1,hen.2.1⟩ S.length 2 x2 (S++[wkC d v0 v1 v2 v3 v4 v5 v6 v7 g x0 x1 x2 x3 x4 S.length y false]) [⟨nx,[.int .u64 a.start,.int .i64 a.func,.int .i64 a.at_,.int .u64 a.code,.int .i64 a.size,.int .u64 a.mode,.int .u64 a.record,.int .u64 a.caller]⟩] nz (o::t::rest) fl (by simp) (by simp) (by simp;omega)
 have f0:=nd hln (nd hne (nd hg (nd hmod (nd h.o (show decide (fl≤S.length)=true by simpa using hf)))))
 cases hfo:frameOk d (stackB g) cc en
 ·have f:=nd f0 hfo
  refine ow hcall fun k=> ?_
  rw[show∀j l,sink j [] l=l from fun _ _=>rfl,yg rfl rfl,z5]
  exact⟨_,y,l,t,true,rfl,ho.sl (by omega),hW.bad (hst hfo)⟩
 obtain rfl:=hr hfo
 obtain⟨hs2,_⟩:=of_decide_eq_true hfo
 obtain⟨hF,hz1,hz2⟩:=TF hd.w.image hW.c.1 hs2
 obtain⟨hi0,hi1,hi2,hi3,hi4⟩:=z1W hW.c.1 hF
 obtain⟨j,hj⟩: ∃j:Nat,(findR d.image cc).1=j:=⟨_,(w45 hi1).symm⟩
 have hjl:j<d.image.funcs.length:=by omega
 rw[hj,w07,←qb hjl] at hi4
 have hcl:=((V6 hi0).fn hjl).2.2.2.2.1
 have f0:=nd f0 hfo
 have hstep: ∀x,(∀a,l.getLast? =some a→fitsR d.image a (frameD d cc en).func (frameD d cc en).at_=true)→x=lower (frameD d cc en) (calledB l=true)→stepR d (stackB g) cc en l.getLast? =some x:=fun x h1 h3=>by
  subst h3
  unfold stepR calledB
  rw[if_pos hfo]
  cases hl:l.getLast? with
  |none=>simp[lower]
  |some a=>simp[h1 a hl,lower]
 have hat:(frameD d cc en).at_=(findR d.image cc).2.1:=rfl
 by_cases hl:l=[]
 ·subst hl
  have f:=nd f0 (show([]:List DFrame).isEmpty=true from rfl)
  refine ow hcall fun k=> ?_
  obtain⟨X,hXe,hx⟩: ∃X,X=frameD d cc en∧stepR d (stackB g) cc en ([]:List DFrame).getLast? =some X:=⟨_,rfl,hstep _ (by simp) (by simp[calledB,lower])⟩
  obtain⟨n1,y1,t1,e1,h1,ho1⟩:=hy X [] y t _ _ _ ho (by simp)
  rw[hXe] at h1
  refine oY h1 ?_
  refine ifs (fun hc=> ?_) fun hc=> ?_
  ·have hlast:=hW.last hx (by rw[hXe];exact hc)
   refine ifs (fun hm2=> ?_) fun hm2=> ?_
   all_goals
    rw[show∀j l,sink j [] l=l from fun _ _=>rfl,yg rfl rfl,z5]
    refine⟨_,y1,_,t1,_,rfl,ho1.sl (by simp;try omega),?_⟩
    rw[hlast,hXe]
    by_cases hr0:(frameD d cc en).record=0<;>simp_all
  ·obtain⟨n',rfl,hN⟩:=hW.next hd hx (by rw[hXe];exact hc)
   exact nd (by simp) ⟨⟨n',_,X.caller,X.start,y1,t1,e1,X⟩,by dsimp only;omega,⟨hN,ho1,.inr (by simp)⟩,by rw[hXe],by rw[hXe],by simp,rfl,⟨rfl,rfl⟩,by rw[hXe]⟩
 have ha:=ha.resolve_left hl
 have f:=nd f0 (nd (show l.isEmpty=false by simpa using hl) fun m=>(show Okv tab 136 _ m _ from by have:=z2a d.image _ h.i a (frameD d cc en) j hj hjl (frameD d cc en).at_ ⟨hi3,hi4⟩ (hW.m a (List.mem_of_getLast? ha)) m;rw[show((j:Nat):Int)=(frameD d cc en).func from hj.symm] at this;exact this).eq)
 refine ow hcall fun k=> ?_
 refine ifs (fun hfit=> ?_) fun hfit=> ?_
 rotate_left
 ·rw[show∀j l,sink j [] l=l from fun _ _=>rfl,yg rfl rfl,z5]
  exact⟨_,y,l,t,true,rfl,ho.sl (by omega),hW.bad (by unfold stepR;rw[if_pos hfo,ha];simp[hfit])⟩
 have hfit': ∀a,l.getLast? =some a→fitsR d.image a (frameD d cc en).func (frameD d cc en).at_=true:=fun a' h=>by rw[ha] at h;injection h with h;rw[←h];exact hfit
 refine ifs (fun hm=> ?_) fun hm=> ?_
 ·obtain⟨X,hXe,hx⟩: ∃X,X={frameD d cc en with at_:=(frameD d cc en).at_-1}∧stepR d (stackB g) cc en l.getLast? =some X:=⟨_,rfl,hstep _ hfit' (by simp[calledB,ha,hm,lower])⟩
  obtain⟨n1,y1,t1,e1,h1,ho1⟩:=hy X l y t _ _ _ ho (by omega)
  rw[hXe] at h1
  refine oY h1 ?_
  refine ifs (fun hc=> ?_) fun hc=> ?_
  ·have hlast:=hW.last hx (by rw[hXe];exact hc)
   refine ifs (fun hm2=> ?_) fun hm2=> ?_
   all_goals
    rw[show∀j l,sink j [] l=l from fun _ _=>rfl,yg rfl rfl,z5]
    refine⟨_,y1,_,t1,_,rfl,ho1.sl (by simp;try omega),?_⟩
    rw[hlast,hXe]
    by_cases hr0:(frameD d cc en).record=0<;>simp_all
  ·obtain⟨n',rfl,hN⟩:=hW.next hd hx (by rw[hXe];exact hc)
   exact nd (by simp) ⟨⟨n',_,X.caller,X.start,y1,t1,e1,X⟩,by dsimp only;omega,⟨hN,ho1,.inr (by simp)⟩,by rw[hXe],by rw[hXe],by simp,rfl,⟨rfl,rfl⟩,by rw[hXe]⟩
 ·obtain⟨X,hXe,hx⟩: ∃X,X=frameD d cc en∧stepR d (stackB g) cc en l.getLast? =some X:=⟨_,rfl,hstep _ hfit' (by simp[calledB,ha,hm,lower])⟩
  obtain⟨n1,y1,t1,e1,h1,ho1⟩:=hy X l y t _ _ _ ho (by omega)
  rw[hXe] at h1
  refine oY h1 ?_
  refine ifs (fun hc=> ?_) fun hc=> ?_
  ·have hlast:=hW.last hx (by rw[hXe];exact hc)
   refine ifs (fun hm2=> ?_) fun hm2=> ?_
   all_goals
    rw[show∀j l,sink j [] l=l from fun _ _=>rfl,yg rfl rfl,z5]
    refine⟨_,y1,_,t1,_,rfl,ho1.sl (by simp;try omega),?_⟩
    rw[hlast,hXe]
    by_cases hr0:(frameD d cc en).record=0<;>simp_all
  ·obtain⟨n',rfl,hN⟩:=hW.next hd hx (by rw[hXe];exact hc)
   exact nd (by simp) ⟨⟨n',_,X.caller,X.start,y1,t1,e1,X⟩,by dsimp only;omega,⟨hN,ho1,.inr (by simp)⟩,by rw[hXe],by rw[hXe],by simp,rfl,⟨rfl,rfl⟩,by rw[hXe]⟩
section
variable {Y : YC} {tab : Nat → Option AFunc} {ρ : List AV} {K : Kont} {a b : ACode}
theorem zc4 {g:Nat} {caps:List AV} {ps:List Nat} {s:List (List Blk)} {c:List Blk} {x fl:Nat} {lv:List (List Nat)} {R:AV×Mem→Prop}
  (h:Opt (ITER tab (RY tab a b ps ρ s.length c.length x).Y (some g) (.yld s.length c.length x::caps) ⟨s,c++[⟨x,[.int .i64 (.ofNat 0)]⟩],x+1,lv,fl⟩) R)
  (q: ∀v m,R (v,m)→ ∃n o,loopSt m s.length c.length x=some n∧jumpOut n=some o∧Xo tab K o ρ (m.put s.length c.length x [.int .i64 (.ofNat 1)])):Xr tab (.fn (.func g) [] caps) ps a b ρ ⟨s,c,x,lv,fl⟩ K:=by
 obtain⟨⟨r,m2⟩,h1,h0⟩:=h
 obtain⟨n,o,h2,h3,h4⟩:=q r m2 h0
 exact zaQ h1 h2 h3 h4
theorem zcc {ps:List Nat} {l k q:Nat} {args:List AV} {m:Mem} {G:Nat→AV→List Nat→List Nat→AV×Mem} {T:Nat→AV→List Nat→List Nat→Prop} (h:Opt (yieldV (EV tab a) (EV tab b) ps ρ l k q args m) fun r=> ∃n y t e,r=G n y t e∧T n y t e): ∃n y t e,(RY tab a b ps ρ l k q).Y args m=some (G n y t e)∧T n y t e:=by
 obtain⟨r,h1,n,y,t,e,rfl,h2⟩:=h
 exact⟨n,y,t,e,h1,h2⟩
end
theorem km (d:DDump) (y:AV) (hy:IsDump d y) (hs:SmD d) (g:Int) (m:Mem) (hf:m.floor≤m.stk.length+1):OkT tab 17 [y,.int .i64 g] m fun r _ _=> ∃y,r= .tup [y,.int .i64 (framesR d g).2]∧IsSl IsFrame 8 (framesR d g).1 y:=by
 have hC:=fun m hf=>WA d y hy hs m hf
 obtain⟨v0,v1,v2,v3,v4,v5,v6,v7,rfl,h⟩:=IsDump.v hy
 have hn:d.image.funcs.length≤40:=by have:=hs.g;simp[great09] at this;omega
 cases hk:ok28 d<;>rw[hk] at hC
 ·have f:=h.o
  refine oktz (tT qB) fun s c x v fl e=> ?_
  subst e
  refine ow (hC _ (by simp at*;omega)) fun k=> ?_
  exact ft0 fun _=>⟨.nils,by simp[framesR,hk],by simp[framesR,hk,IsSl.nil]⟩
 have f:=nd h.o (nd h.r.z (nthH h.r))
 refine oktz (tT qB) fun s c x v fl e=> ?_
 subst e
 refine ow (hC _ (by simp at*;omega)) fun k=> ?_
 refine ifs (fun h1=> ?_) fun h1=> ?_
 ·exact ft0 fun _=>⟨.nils,by simp[framesR,hk,h1],by simp[framesR,hk,h1,IsSl.nil]⟩
 refine ifs (fun h2=> ?_) fun h2=> ?_
 ·exact ft0 fun _=>⟨.nils,by simp[framesR,hk,h2],by simp[framesR,hk,h2,IsSl.nil]⟩
 obtain⟨j,rfl⟩: ∃j:Nat,g=j:=⟨g.toNat,by omega⟩
 have hjr:j<d.routines.length:=by omega
 have hrt:rtD d j=d.routines[j]:=by simp[rtD,w03,hjr]
 refine ifs (fun h3=> ?_) fun h3=> ?_
 ·simp only[w07] at h3
  have: ¬((d.routines.length:Int)≤j):=by omega
  have h0: ¬((j:Int)<0):=by omega
  exact ft0 fun _=>⟨.nils,by simp[framesR,hk,hrt,h3,this,h0],by simp[framesR,hk,hrt,h3,this,h0,IsSl.nil]⟩
 simp only[w07] at h3
 have hd:=WalkD.of hs.w hn hk hjr
 have hfr: ∀o,walkN d (stackB j) 200 (rtD d j).code (rtD d j).sp none=o→framesR d j=match o with|none=>([],12)|some l=>(l,0):=fun o ho=>by
  have: ¬((d.routines.length:Int)≤j):=by omega
  have h0: ¬((j:Int)<0):=by omega
  rw[hrt] at ho
  cases o<;>simp[framesR,hk,hrt,h3,this,h0,ho]
 refine oe (z1c _ _ _ _ _ _ _ _ (w08 _)) ?_
 refine zc4 (zbj d v0 v1 v2 v3 v4 v5 v6 v7 h j hd x k (k+1) (k+1+1) (k+1+1+1) (s++[c]) v fl (by simp at*;omega) ?_ _) ?_
 ·intro X l y t nx e cur ho hl
  refine zcc (z5Y ?_ rfl ?_ ?_ ?_)
  ·simp[loopSt,Mem.blk,Mem.row]
  ·simp at*;omega
  ·simp
  have hln:(s++[c]).length=s.length+1:=by simp
  have hg: ∀A B:List Blk,(s++[c]++[A]++[B]).getD (s.length+1) []=A:=fun A B=>by simp
  have hl3: ∀A B:List Blk,(s++[c]++[A]++[B]).length=s.length+3:=fun A B=>by simp
  have hne:(s.length+1==s.length+3)=false:=by simp
  have hm: ∀(A B:List Blk) f,(s++[c]++[A]++[B]).modify (s.length+1) f=s++[c]++[f A]++[B]:=modAt hln
  have f:=nd hln (nd hg (nd hl3 (nd hne (nd hm ho.co))))
  refine st ?_
  refine nd (by simp[loopSt,Mem.blk,Mem.row]) ?_
  refine oaw (i:=2) (rest:=v) ⟨[[],e,t],rfl,rfl,by simpa using ho⟩ (yc (show IsFrame X _ from rfl)) (by simp;omega) fun y' n l' hw=> ?_
  obtain⟨e0,l0,hs',hw⟩:=hw.sink
  obtain⟨pre,rfl,h4,ho'⟩:=hw
  have f:=nd f (nd (show decide (fl≤s.length+1)=true by simp at*;omega) (nd (show s.length+3-(s.length+1)=1+1 by omega) (nd hs' ho'.co)))
  refine st ?_
  match pre,h4 with
  | [p0,p1],_=>exact⟨by simp[loopSt,Mem.blk,Mem.row],0,rfl,Opt.of_eq qJ ⟨_,y',p1,e0++p0,rfl,ho'.mono (by simp;grind)⟩⟩
 ·rintro rv _ ⟨n,y,l,t,b,rfl,hsl,hwalk⟩
  have f:=nd f (nd (show(s++[c]).length=s.length+1 by simp) hsl.co)
  refine⟨0,.normal,by simp[loopSt,Mem.blk,Mem.row],rfl,?_⟩
  have hfr:=hfr _ hwalk
  cases b
  ·simp only[w25,if_false] at hfr
   refine st ?_
   refine ft ?_ fun _ _=>⟨y,by rw[hfr],by rw[hfr];exact hsl⟩
   refine st ?_
   trivial
  ·simp only[if_true] at hfr
   refine st ?_
   exact ft0 fun _=>⟨.nils,by rw[hfr],by rw[hfr];exact .nil _⟩
noncomputable def askedR (d:DDump) (g:Int):Int:=if ok28 d=false then 8 else if g<0∨g≥d.routines.length then 2 else 0
theorem ko (d:DDump) (y:AV) (hy:IsDump d y) (hw:WfDump d) (hL:large28 d=false) (g:Int) (m:Mem) (hf:m.floor≤m.stk.length+1):Okv tab 22 [y,.int .i64 g] m (.int .i64 (askedR d g)):=by
 have hC:=fun m hf=>QL d y hy hw hL m hf
 obtain⟨v0,v1,v2,v3,v4,v5,v6,v7,rfl,h⟩:=IsDump.v hy
 have f:=nd h.o h.r.z
 refine okz (tT vT) fun s c x v fl e=> ?_
 subst e
 refine ow (hC _ (by simp at*;omega)) fun k=> ?_
 cases hk:ok28 d
 ·have f:=hk
  refine st ?_
  simp[askedR,hk]
 ·have f:=nd f (show(if true=true then(0:Int) else 8)=0 from rfl)
  refine st ?_
  repeat' first|refine ifs ?_ ?_|intro
  all_goals simp only[askedR,hk];clear f;grind
theorem Qv {d:DDump} {g:Int} (h:askedR d g=0):ok28 d=true∧0≤g∧g<d.routines.length:=by
 unfold askedR at h
 split at h
 ·simp at h
 ·split at h
  ·simp at h
  ·rename_i h1 h2
   exact⟨by simpa using h1,by omega⟩
attribute [go_sem] jW xC
structure DDefer where
 at_:Int
 next:Int
 frame:Int
 func:Int
 has:Bool
 arg:Int
deriving DecidableEq
abbrev dfA (x:DDefer):AV:= .agg [.int .u64 x.at_,.int .u64 x.next,.int .u64 x.frame,.int .i64 x.func,.bool x.has,.int .u64 x.arg]
def IsDefer (x:DDefer) (y:AV):Prop:=y=dfA x
noncomputable def deferD (d:DDump) (a:Int):DDefer:=⟨a,W d a 0,W d a 1,W d a 2,decide (W d a 3=1),W d a 4⟩
noncomputable def deferOk (d:DDump) (fr:List DFrame) (last a:Int):Bool:=decide (last≤placeR fr (W d a 1)∧W d a 2<d.image.funcs.length∧W d a 3≤1∧(W d a 3=0→W d a 4=0))
noncomputable def lastI (d:DDump) (fr:List DFrame) (l:List Int):Nat→Int
 |0=>0
 |i+1=>placeR fr (W d (l.getD i 0) 1)
noncomputable def defersOk (d:DDump) (fr:List DFrame) (l:List Int):Bool:=linkedB d l&&allI (fun i a=>deferOk d fr (lastI d fr l i) a) 0 l
noncomputable def defersR (d:DDump) (g:Int):List DDefer×Int:=
 if(framesR d g).2≠0 then([],(framesR d g).2) else
 if recsE d 5 (d.defers.getD g.toNat [])≠0 then([],recsE d 5 (d.defers.getD g.toNat [])) else
 if defersOk d (framesR d g).1 (d.defers.getD g.toNat []) then((d.defers.getD g.toNat []).map (deferD d),0) else([],12)
theorem z4M {d:DDump} {fr:List DFrame} {l:List Int} {i:Nat} (h:i<l.length) (hb:W d l[i] 0=l.getD (i+1) 0→ ¬deferOk d fr (lastI d fr l i) l[i]=true):defersOk d fr l=false:=by
 rw[Bool.eq_false_iff]
 intro hq
 simp only[defersOk,w09,linkedB,y8,w1f,decide_eq_true_eq] at hq
 exact hb (hq.1 i h) (hq.2 i h)
theorem jk {d:DDump} {g:Int} (h:(framesR d g).2=0):ok28 d=true∧0≤g∧g<d.routines.length:=by
 unfold framesR at h
 split at h
 ·simp at h
 ·rename_i h1
  split at h
  ·simp at h
  ·rename_i h2
   exact⟨by simpa using h1,by omega,by omega⟩
theorem jp {l:List (List Int)} (h:chainsOk l=true) {j:Nat} (hj:j<l.length):l[j].length≤410∧ ∀a∈l[j],65536≤a∧a<81920∧a%8=0:=by
 have h:=z3B.1 (w3b.1 h).2 j hj
 simp only[chainOk,w09,decide_eq_true_eq,w37,linkOk] at h
 exact h
theorem qx {d:DDump} (h:ok28 d=true):d.defers.length=d.routines.length∧d.panics.length=d.routines.length∧d.stacks.length=d.routines.length∧chainsOk d.defers=true∧chainsOk d.panics=true∧d.routines.length≤16:=by
 simp only[ok28,w09,decide_eq_true_eq,partsOk,lensOk] at h
 obtain⟨⟨⟨⟨⟨⟨⟨_,_⟩,hs⟩,hh⟩,h5⟩,h6⟩,_⟩,h1,h2,h3,_⟩:=h.1
 have:=(jx hs).1
 exact⟨h2,h3,h1,h5,h6,by omega⟩
theorem z5K {d:DImage} {v0 v1 v2:AV} (h:IsImage d (.agg [v0,v1,v2])):IsSl IsFunc 7 d.funcs v2:=by
 obtain⟨_,_,_,he,_,_,h2⟩:=h
 simp only[AV.agg.injEq,List.cons.injEq] at he
 obtain⟨_,_,rfl,_⟩:=he
 exact h2
theorem qa (d:DDump) (y:AV) (hy:IsDump d y) (hs:SmD d) (g:Int) (m:Mem) (hf:m.floor≤m.stk.length+1):Okp IsDefer 6 tab 35 [y,.int .i64 g] m (defersR d g).1 (defersR d g).2:=by
 have hF:=fun m hf=>km d y hy hs g m hf
 obtain⟨v0,v1,v2,v3,v4,v5,v6,v7,rfl,h⟩:=IsDump.v hy
 have hnf:d.image.funcs.length≤40:=by have:=hs.g;simp[great09] at this;omega
 have f:=nd h.o (nd h.f.z (nthS h.f))
 refine okpz (tT jW) fun s c x v fl e=> ?_
 subst e
 simp at hf
 refine ot (hF _ (by simp;omega)) fun r t k hr=> ?_
 obtain⟨yf,rfl,hyf⟩:=hr
 have f:=nd f hyf.co
 refine st ?_
 refine ifs (fun h1=> ?_) fun h1=> ?_
 ·simp[defersR,h1]
 have h1:(framesR d g).2=0:=by simpa using h1
 obtain⟨hk,h2,h3⟩:=jk h1
 obtain⟨j,rfl⟩: ∃j:Nat,g=j:=⟨g.toNat,by omega⟩
 obtain⟨q1,q2,q3,q4,q5,q6⟩:=qx hk
 have hj:j<d.defers.length:=by omega
 obtain⟨hl,ha⟩:=jp q4 hj
 have hy6:=h.f.nth hj
 have hR:defersR d j=if recsE d 5 d.defers[j]≠0 then([],recsE d 5 d.defers[j]) else if defersOk d (framesR d j).1 d.defers[j] then(d.defers[j].map (deferD d),0) else([],12):=by
  simp[defersR,h1,w03,hj]
 rw[hR]
 generalize d.defers[j]=l at*
 generalize (framesR d j).1=fr at*
 have f:=nd f (nd hj hy6.co)
 refine st ?_
 refine op (Y4 d _ _ _ _ _ _ _ _ h (by omega) 5 (by omega) l _ hy6 (fun a h=>by have:=ha a h;omega) (by omega) _ (by simp;omega)) fun z t k hz=> ?_
 have f:=nd f hz.co
 refine st ?_
 refine ifs (fun h4=> ?_) fun h4=> ?_
 ·simp[h4]
 have h4:recsE d 5 l=0:=by simpa using h4
 rw[if_pos h4] at hz
 have hz:=hz.sl (by simp;omega)
 refine ow (Yp d 5 (by omega) l _ _ hy6 hz (by omega) _) fun k=> ?_
 refine ifs (fun h5=> ?_) fun h5=> ?_
 rotate_left
 ·simp[h4,defersOk,h5]
 have hrz:=recZ hz
 have hW:=fun j (hj:j<l.length) k=>W_u d l[j] k
 have hv2:=z5K h.i
 have f:=nd hrz (nd f (nd hy6.z (nd (nthK hy6) (nd hv2.z.1 fun n m=>(XK fr yf hyf n m).eq))))
 refine st ?_
 refine xn 46 l.length [9,10] (fun i v e=>Own IsDefer 6 (v 9) ((l.take i).map (deferD d)) e∧v 10= .int .i64 (lastI d fr l i)∧ ∀j (hj:j<l.length),j<i→deferOk d fr (lastI d fr l j) l[j]=true) 0 ?_ fun i v e nz hi ho=> ?_
 ·exact⟨.nil _,rfl,fun j hj hi=>by omega⟩
 obtain⟨ho,h10,hp⟩:=ho
 have hb:=fun(hi:i<l.length) (hb: ¬deferOk d fr (lastI d fr l i) l[i]=true)=>z4M (l:=l) hi fun _=>hb
 refine ifs (fun hi=> ?_) fun hi=> ?_
 ·have hb:=hb hi
  have:=hW i hi 2
  have:=hW i hi 3
  have hl':l.getD i 0=l[i]:=by simp[w03,hi]
  repeat' first|refine ifs ?_ ?_|intro
  all_goals first|(rw[hb (by simp only[deferOk,decide_eq_true_eq];omega)];exact⟨rfl,rfl⟩)|skip
  all_goals
   refine oa ho (yc (show IsDefer (deferD d l[i]) _ from ?_)) (by simp;omega) fun y n e ho=> ?_
   ·rfl
   exact nd hi (nd (by rw[z4l hi];exact ho) (nd (by simp only[lastI,Xl hi]) fun j hj hji=>by
    rcases Nat.lt_or_eq_of_le (Nat.le_of_lt_succ hji) with k|rfl
    ·exact hp j hj k
    ·simp only[deferOk,decide_eq_true_eq];omega))
 ·obtain rfl:i=l.length:=by omega
  have:defersOk d fr l=true:=by
   simp only[defersOk,h5,Bool.true_and,y8,w1f]
   exact fun i hi=>hp i hi hi
  rw[if_pos this]
  exact fp ho (nd (by simp) rfl)
attribute [go_sem] jT Z4 qg yh
structure DPanic where
 at_:Int
 next:Int
 tag:Int
 w0:Int
 w1:Int
 flags:Int
 call:Int
 from_:Int
deriving DecidableEq
abbrev pnA (x:DPanic):AV:= .agg [.int .u64 x.at_,.int .u64 x.next,.int .u64 x.tag,.int .u64 x.w0,.int .u64 x.w1,.int .u64 x.flags,.int .u64 x.call,.int .u64 x.from_]
def IsPanic (x:DPanic) (y:AV):Prop:=y=pnA x
noncomputable def panicD (d:DDump) (a:Int):DPanic:=⟨a,W d a 0,W d a 1,W d a 2,W d a 3,W d a 4,W d a 5,W d a 6⟩
def valuedR (x:DPanic):Bool:=decide (x.tag≤4∧x.flags≤7∧(x.flags/2%2=1↔x.tag=0)∧(x.tag=0→x.flags%2=0)∧(x.tag≠3→x.w1=0)∧(x.tag=0→x.w0=0)∧(x.tag=2→x.w0≤1)∧(x.tag=4→1≤x.w0∧x.w0≤3))
theorem iaA2 (l k st o:Nat):evIaddrA 2 1 (.ptr l k st o) (.int .i64 0)=some (.ptr l k st o)∧evIaddrA 2 1 (.ptr l k st o) (.int .i64 1)=some (.ptr l k st (o+1)):=⟨rfl,rfl⟩
theorem z7h (a:Int) (h0:0≤a) (h: ¬a>7):evBits .and .u64 a 1=some (.int .u64 (a%2))∧evBits .and .u64 a 2=some (.int .u64 (a/2%2*2)):=by
 have:a=0∨a=1∨a=2∨a=3∨a=4∨a=5∨a=6∨a=7:=by omega
 rcases this with rfl|rfl|rfl|rfl|rfl|rfl|rfl|rfl<;>exact⟨rfl,rfl⟩
theorem Ts (x:DPanic) (h0:0≤x.tag) (h1:0≤x.flags) (h2:0≤x.w0) (m:Mem):Okv tab 104 [pnA x] m (.bool (valuedR x)):=by
 have f:=nd iaA2 (z7h x.flags h1)
 refine okz (tT jT) fun s c n v g _=> ?_
 repeat' first|refine ifs ?_ ?_|intro
 all_goals clear f;simp only[valuedR,Bool.false_eq,Bool.true_eq,decide_eq_false_iff_not,decide_eq_true_eq,decide_eq_decide,Bool.not_eq_true,beq_iff_eq,Bool.not_eq_true',beq_eq_false_iff_ne,ne_eq] at*;omega
theorem TL (l:List DFrame) (n:Int): -1≤placeR l n∧placeR l n<l.length:=by
 unfold placeR fidx
 split
 ·rename_i h
  have:=List.findIdx_lt_length_of_exists (List.any_eq_true.1 h)
  omega
 ·omega
def frN (l:List DFrame) (p:Int):DFrame:=l.getD p.toNat ⟨0,0,0,0,0,0,0,0⟩
theorem nthP {l:List DFrame} {y:AV} (h:IsSl IsFrame 8 l y) (p:Int) (h0:0≤p) (h1:p<l.length):nth y p.toNat=frA (frN l p):=by
 rw[nthF h p.toNat (by omega)]
 simp[frN,w03,show p.toNat<l.length by omega]
def notedR (fr:List DFrame) (x:DPanic):Bool:=decide ((x.call=0∧x.from_=0)∨(0≤placeR fr x.call∧placeR fr x.call<placeR fr x.from_∧(frN fr (placeR fr x.call)).record=x.at_∧(frN fr (placeR fr x.call)).mode=if x.tag=0 then 3 else 2))
theorem z00 (l:List DFrame) (y:AV) (hy:IsSl IsFrame 8 l y) (x:DPanic) (m:Mem):Okv tab 105 [y,pnA x] m (.bool (notedR l x)):=by
 have h1:=TL l x.call
 have h2:=TL l x.from_
 have f:=nd hy.z (nd hy.co (nd (nthP hy) fun n m=>(XK l y hy n m).eq))
 refine okz (tT Z4) fun s c n v g _=> ?_
 repeat' first|refine ifs ?_ ?_|intro
 all_goals clear f;unfold notedR;by_cases ht:x.tag=0<;>simp only[ht,reduceIte,Bool.false_eq,Bool.true_eq,decide_eq_false_iff_not,decide_eq_true_eq,decide_eq_decide]<;>omega
attribute [go_sem] qg yh
def putE (k v:Int):List (Int×Int)→List (Int×Int)
 | []=>[(k,v)]
 |p::r=>if k=p.1 then(k,v)::r else p::putE k v r
def getE (k:Int):List (Int×Int)→Int
 | []=>0
 |p::r=>if k=p.1 then p.2 else getE k r
def entA (E:List (Int×Int)):List AV:=E.map fun p=> .tup [.int .u64 p.1,.int .u64 p.2]
theorem z36 (k k' v:Int): ∀E,getE k (putE k' v E)=if k=k' then v else getE k E
 | []=>rfl
 |p::r=>by
  unfold putE getE
  have:=z36 k k' v r
  grind [getE]
theorem z2J (k v:Int): ∀E,mapPut false (.int .u64 k) (.int .u64 v) (entA E)=some (entA (putE k v E))
 | []=>rfl
 |p::r=>by
  have:=z2J k v r
  unfold entA at*
  have hk:sameKind .u64 .u64=true:=rfl
  simp only[w30,mapPut,keyEq,putE,hk,if_true]
  by_cases h:k=p.1
  ·simp[h]
  ·simp[h,this,beq_eq_false_iff_ne.2 h]
theorem z2K (k:Int): ∀E,mapGet false (.int .u64 0) (.int .u64 k) (entA E)=some (.int .u64 (getE k E))
 | []=>rfl
 |p::r=>by
  have:=z2K k r
  unfold entA at*
  have hk:sameKind .u64 .u64=true:=rfl
  simp only[w30,mapGet,keyEq,getE,hk,if_true]
  by_cases h:k=p.1
  ·simp[h]
  ·simp[h,this,beq_eq_false_iff_ne.2 h]
theorem Th {d:DDump} {base:Int}: ∀{n:Nat} {c e:Int} {ab:Option DFrame} {l:List DFrame},walkN d base n c e ab=some l→ ∀f∈l,base≤f.start
 |0,_,_,_,_,h=>by simp[walkN] at h
 |n+1,c,e,ab,l,h=>by
  unfold walkN at h
  split at h
  ·cases h
  ·rename_i x hs
   obtain⟨h1,h2,_⟩:=TC hs
   simp only[frameOk,decide_eq_true_eq] at h1
   have h3:base≤x.start:=by rw[h2];show base≤e-_;omega
   split at h
   ·split at h
    ·cases h;simpa using h3
    ·cases h
   ·obtain⟨l',h4,rfl⟩:=w00.1 h
    intro f hf
    rcases w57.1 hf with rfl|hf
    ·exact h3
    ·exact Th h4 f hf
theorem z1V {d:DDump} {g:Int}: ∀f∈(framesR d g).1,0<f.start:=by
 unfold framesR
 intro f hf
 split at hf
 ·cases hf
 split at hf
 ·cases hf
 split at hf
 ·cases hf
 split at hf
 ·cases hf
 ·rename_i l h
  have:=Th h f hf
  unfold stackB at this
  omega
noncomputable def namedB (d:DDump) (fr:List DFrame) (l:List Int):Bool:=fr.all fun f=>decide (f.record=0)||l.any fun a=>decide (a=f.record∧W d a 5=f.start)
noncomputable def panicsOk (d:DDump) (fr:List DFrame) (l:List Int):Bool:=linkedB d l&&(l.all fun a=>valuedR (panicD d a)&&notedR fr (panicD d a))&&namedB d fr l
noncomputable def panicsR (d:DDump) (g:Int):List DPanic×Int:=
 if(framesR d g).2≠0 then([],(framesR d g).2) else
 if recsE d 7 (d.panics.getD g.toNat [])≠0 then([],recsE d 7 (d.panics.getD g.toNat [])) else
 if panicsOk d (framesR d g).1 (d.panics.getD g.toNat []) then((d.panics.getD g.toNat []).map (panicD d),0) else([],12)
theorem z4d {d:DDump} {fr:List DFrame} {l:List Int} {i:Nat} (h:i<l.length) (hb:W d l[i] 0=l.getD (i+1) 0→valuedR (panicD d l[i])=true→ ¬notedR fr (panicD d l[i])=true):panicsOk d fr l=false:=by
 rw[Bool.eq_false_iff]
 intro hq
 simp only[panicsOk,w09,linkedB,y8,w1f,decide_eq_true_eq,w37] at hq
 have:=hq.1.2 _ (w04 h)
 exact hb (hq.1.1 i h) this.1 this.2
theorem z7b {d:DDump} {fr:List DFrame} {l:List Int} {i:Nat} (h:i<fr.length) (hb:fr[i].record≠0∧ ¬(fr[i].record∈l∧W d fr[i].record 5=fr[i].start)):panicsOk d fr l=false:=by
 rw[Bool.eq_false_iff]
 intro hq
 simp only[panicsOk,w09,namedB,w37,w2f,decide_eq_true_eq,List.any_eq_true] at hq
 rcases hq.2 _ (w04 h) with h1|⟨a,ha,rfl,h2⟩
 ·exact hb.1 h1
 ·exact hb.2 ⟨ha,h2⟩
theorem z2y {d:DDump} {fr:List DFrame} {l:List Int} (h: ∀i (h:i<l.length),W d l[i] 0=l.getD (i+1) 0∧valuedR (panicD d l[i])=true∧notedR fr (panicD d l[i])=true) (h2: ∀i (h:i<fr.length),fr[i].record=0∨fr[i].record∈l∧W d fr[i].record 5=fr[i].start):panicsOk d fr l=true:=by
 simp only[panicsOk,w09,linkedB,y8,w1f,decide_eq_true_eq,namedB,w37,w2f,List.any_eq_true]
 refine⟨⟨fun i hi=>(h i hi).1,fun a ha=> ?_⟩,fun f hf=> ?_⟩
 ·obtain⟨i,hi,rfl⟩:=w49.1 ha
  exact(h i hi).2
 ·obtain⟨i,hi,rfl⟩:=w49.1 hf
  rcases h2 i hi with h3|⟨h3,h4⟩
  ·exact .inl h3
  ·exact .inr ⟨_,h3,rfl,h4⟩
noncomputable abbrev pnD (d:DDump) (a:Int):AV:= .agg [.int .u64 a,.int .u64 (W d a 0),.int .u64 (W d a 1),.int .u64 (W d a 2),.int .u64 (W d a 3),.int .u64 (W d a 4),.int .u64 (W d a 5),.int .u64 (W d a 6)]
theorem tZ (d:DDump) (y:AV) (hy:IsDump d y) (hs:SmD d) (g:Int) (m:Mem) (hf:m.floor≤m.stk.length+1):Okp IsPanic 8 tab 37 [y,.int .i64 g] m (panicsR d g).1 (panicsR d g).2:=by
 have hF:=fun m hf=>km d y hy hs g m hf
 obtain⟨v0,v1,v2,v3,v4,v5,v6,v7,rfl,h⟩:=IsDump.v hy
 have f:=nd h.o (nd h.p.z (nthS h.p))
 refine okpz (tT qg) fun s c x v fl e=> ?_
 subst e
 simp at hf
 refine ot (hF _ (by simp;omega)) fun r t k hr=> ?_
 obtain⟨yf,rfl,hyf⟩:=hr
 have f:=nd f hyf.co
 refine st ?_
 refine ifs (fun h1=> ?_) fun h1=> ?_
 ·simp[panicsR,h1]
 have h1:(framesR d g).2=0:=by simpa using h1
 obtain⟨hk,h2,h3⟩:=jk h1
 obtain⟨j,rfl⟩: ∃j:Nat,g=j:=⟨g.toNat,by omega⟩
 obtain⟨q1,q2,q3,q4,q5,q6⟩:=qx hk
 have hj:j<d.panics.length:=by omega
 obtain⟨hl,ha⟩:=jp q5 hj
 have hy6:=h.p.nth hj
 have hst:= @z1V d j
 have hR:panicsR d j=if recsE d 7 d.panics[j]≠0 then([],recsE d 7 d.panics[j]) else if panicsOk d (framesR d j).1 d.panics[j] then(d.panics[j].map (panicD d),0) else([],12):=by
  simp[panicsR,h1,w03,hj]
 rw[hR]
 clear hR
 generalize d.panics[j]=l at*
 generalize (framesR d j).1=fr at*
 have f:=nd f (nd hj hy6.co)
 refine st ?_
 refine op (Y4 d _ _ _ _ _ _ _ _ h (by omega) 7 (by omega) l _ hy6 (fun a h=>by have:=ha a h;omega) (by omega) _ (by simp;omega)) fun z t k hz=> ?_
 have f:=nd f hz.co
 refine st ?_
 refine ifs (fun h4=> ?_) fun h4=> ?_
 ·simp[h4]
 have h4:recsE d 7 l=0:=by simpa using h4
 rw[if_pos h4] at hz
 have hz:=hz.sl (by simp;omega)
 refine ow (Yp d 7 (by omega) l _ _ hy6 hz (by omega) _) fun k=> ?_
 refine ifs (fun h5=> ?_) fun h5=> ?_
 rotate_left
 ·simp[h4,panicsOk,h5]
 have hrz:=recZ hz
 have hln:=fun i (hi:i<l.length)=>by
  have:=y8.1 h5 i hi
  simp only[w1f,decide_eq_true_eq] at this
  exact this
 have f:=nd hrz (nd f (nd hy6.z (nd (nthK hy6) (nd hyf.z.1 (nd z2J (nd z2K (nd (fun a m=>(show Okv tab 104 [pnD d a] m (.bool (valuedR (panicD d a))) from Ts (panicD d a) (W_u d a 1).1 (W_u d a 4).1 (W_u d a 2).1 m).eq) fun a m=>(show Okv tab 105 [yf,pnD d a] m (.bool (notedR fr (panicD d a))) from z00 fr yf hyf (panicD d a) m).eq)))))))
 refine st ?_
 refine xg [9,49] (fun(z:Nat×List (Int×Int)) v e b=>z.1≤l.length∧v 49= .int .i64 (z.1:Int)∧Own IsPanic 8 (v 9) ((l.take z.1).map (panicD d)) e∧b=[⟨x,[v0,v1,v2,.int .u8 d.ended.outcome,.int .i64 d.ended.failing,.int .i64 d.ended.steps,.int .u64 d.heap.base,v3,v4,v5,v6,v7]⟩,⟨k,[.tup (entA z.2)]⟩]∧(∀q,getE q z.2=if q∈l.take z.1 then W d q 5 else 0)∧ ∀j (hj:j<l.length),j<z.1→valuedR (panicD d l[j])=true∧notedR fr (panicD d l[j])=true) (fun z=>l.length-z.1) (0,[]) ?_ ?_
 ·exact⟨by omega,rfl,.nil _,rfl,fun q=>by simp[getE],fun j hj hji=>by omega⟩
 rintro⟨i,E⟩ v e nz bs ⟨hi,h49,ho,hbs,hE,hp⟩
 dsimp only at*
 subst hbs
 have hb:=fun(hi:i<l.length) hb=>z4d (d:=d) (fr:=fr) (l:=l) hi hb
 refine ifs (fun hi=> ?_) fun hi=> ?_
 ·refine ifs (fun hv=> ?_) fun hv=> ?_
  ·refine ifs (fun hn=> ?_) fun hn=> ?_
   ·refine oa ho (yc (show IsPanic (panicD d l[i]) _ from rfl)) (by simp;omega) fun y n e ho=> ?_
    refine⟨(i+1,putE l[i] (W d l[i] 5) E),by dsimp only;omega,hi,rfl,by rw[z4l hi];exact ho,rfl,fun q=> ?_,fun j hj hji=> ?_⟩
    ·have hm:q∈l.take (i+1)↔q∈l.take i∨q=l[i]:=by rw[w0f hi,w0b,w1c]
     rw[z36,hE]
     by_cases hq:q=l[i]
     ·rw[if_pos hq,if_pos (hm.2 (.inr hq)),hq]
     ·rw[if_neg hq]
      simp only[hm,hq,or_false]
    ·rcases Nat.lt_or_eq_of_le (Nat.le_of_lt_succ hji) with k|rfl
     ·exact hp j hj k
     ·exact⟨hv,hn⟩
   ·rw[hb hi fun _ _=>hn];exact⟨rfl,rfl⟩
  ·rw[hb hi fun _ h=>absurd h hv];exact⟨rfl,rfl⟩
 ·obtain rfl:i=l.length:=by omega
  rw[w0a] at ho
  simp only[w0a] at hE
  have f:=nd f (nd hyf.z.2 (nthF hyf))
  refine xn 106 fr.length [] (fun i _ e=>Own IsPanic 8 (v 9) (l.map (panicD d)) e∧ ∀j (hj:j<fr.length),j<i→fr[j].record=0∨fr[j].record∈l∧W d fr[j].record 5=fr[j].start) 0 ?_ fun i w e nz hi ho=> ?_
  ·exact⟨ho,fun j hj hji=>by omega⟩
  obtain⟨ho,hq⟩:=ho
  refine ifs (fun hi=> ?_) fun hi=> ?_
  ·have:=hst _ (w04 hi)
   refine ifs (fun hr=> ?_) fun hr=> ?_
   ·refine ifs (fun hc=> ?_) fun hc=> ?_
    ·rw[z7b hi ⟨hr,fun⟨h1,h2⟩=>hc (by rw[hE,if_pos h1];exact h2)⟩];exact⟨rfl,rfl⟩
    ·have hc:getE fr[i].record E=fr[i].start:=by simpa using hc
     rw[hE] at hc
     have h1:fr[i].record∈l:=by
      refine Decidable.byContradiction fun h=> ?_
      rw[if_neg h] at hc
      omega
     rw[if_pos h1] at hc
     exact nd hi (nd (z6 (by omega) (by have:=hyf.max;omega)) (nd ho fun j hj hji=>by
      rcases Nat.lt_or_eq_of_le (Nat.le_of_lt_succ hji) with k|rfl
      ·exact hq j hj k
      ·exact .inr ⟨h1,hc⟩))
   ·exact nd hi (nd (z6 (by omega) (by have:=hyf.max;omega)) (nd ho fun j hj hji=>by
     rcases Nat.lt_or_eq_of_le (Nat.le_of_lt_succ hji) with k|rfl
     ·exact hq j hj k
     ·exact .inl (by simpa using hr)))
  ·obtain rfl:i=fr.length:=by omega
   rw[z2y (fun i hi=>⟨hln i hi,hp i hi hi⟩) fun i hi=>hq i hi hi]
   exact fp ho (nd rfl rfl)
end Go.Proofs.W
end
