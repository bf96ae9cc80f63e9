/-
  Part 4 of the proof, shared by claims of this seat: UZH3, UZM2, UZB1, UE1, UZR1, UZR2, USG, US16, US17, US18, US22, US2, MVr, US3, US4, US5, US6, US7, US8, US9, US10, US11, US12, US13, UC1, UC2, UC13, UC27, UZR3, US27, MVzy, US28.
-/
import Derived.Test.YtdmigejeekchiaaGreatJ2
set_option maxHeartbeats 64000000
set_option maxRecDepth 1000000
set_option linter.unusedVariables false
set_option linter.unusedSimpArgs false
open Nat renaming reduceMul → G2, reduceAdd → G3, reduceSub → G4, reduceEqDiff → G6, reduceBEq → G7, reduceLT → G8, reduceLeDiff → G9, reduceBNe → H8, le_refl → w08, zero_le → w0b, mul_one → w0d, min_eq_left → w18, zero_add → w26, not_lt_zero → w34, lt_succ_of_lt → w3b, add_assoc → w47, le_trans → w4c, pow_le_pow_right → w50, lt_of_lt_of_le → w58
open Int renaming reduceEq → H0, reduceLT → H1, reduceLE → H2, reduceAdd → H3, reduceSub → H4, reduceMul → H5, reducePow → H6, reduceToNat → H7, ofNat_lt → w02, toNat_natCast → w10, toNat_zero → w2b
open Option renaming map_some → w07, map_none → w19, getD_some → w33
open List renaming getElem_mem → w04, getD_eq_getElem?_getD → w05, take_length → w06, mem_append → w0a, take_succ_eq_append_getElem → w0c, length_append → w0e, take_succ_cons → w0f, drop_succ_cons → w11, getElem?_eq_some_iff → w13, take_zero → w15, append_assoc → w16, getElem?_eq_getElem → w17, mem_singleton → w1a, append_nil → w1b, mem_cons_self → w1d, getElem?_map → w1e, length_take → w1f, ext_getElem? → w20, cons_append → w22, flatMap_cons → w27, map_append → w28, mem_cons_of_mem → w2a, length_singleton → w2c, eq_nil_of_length_eq_zero → w2d, map_cons → w2e, nil_append → w2f, take_of_length_le → w32, mem_of_getElem? → w36, modify_eq_take_cons_drop → w37, flatten_cons → w3a, getElem?_eq_none → w3c, mem_map → w3d, all_eq_true → w3e, replicate_succ → w44, length_nil → w45, length_cons → w46, set_cons_succ → w48, getLast?_singleton → w4a, nodup_append → w4b, mem_append_left → w4f, set_cons_zero → w52, length_map → w53, mem_append_right → w56, getLast?_append → w59, dropLast_concat → w5a
open Bool renaming and_eq_true → w09, false_and → w24, and_false → w25, or_eq_false_iff → w29, or_eq_true → w31, and_eq_true_iff → w3f
section
namespace Go.Proofs.W
open Go.Vs
attribute [local go_sem high] zw y9
attribute [local go_sem ↓] w07 w19
attribute [local go_sem low] Yc Yt Yf Yut Yuf xA xB xy xz
attribute [local go_sem 2000] zP
attribute [local go_sem] ql qj qm qk ye zU yB zY yd zA xr xp xo hd kep xm w02 AV.bool.injEq AV.int.injEq not_true_eq_false not_false_eq_true true_implies false_implies and_true true_and implies_true zu zN zM zt zO zC zm zi zr zG zF zq zH zE zl zj w10 zI zJ yz w2b evShift IntKind.bits zQ zK zL z7 zf zV wrap_u32 w18 xx xu allLen zn AV.tup.injEq List.cons.injEq AV.agg.injEq yc ya evBuild xq zS zx zR eqC0 eqC1 eqC2 zT w25 w24
attribute [go_sem] qX vS vR vb
def catI {α β:Type} (f:Nat→α→List β):Nat→List α→List β
 |_,[]=>[]
 |g,x::r=>f g x++catI f (g+1) r
theorem tB {α β:Type} {f:Nat→α→List β}: ∀{l:List α} {i g:Nat} (h:i<l.length),catI f g (l.take (i+1))=catI f g (l.take i)++f (g+i) l[i]
 | [],_,_,h=>by simp at h
 |x::r,0,g,_=>by simp[catI]
 |x::r,i+1,g,h=>by
  have:=tB (f:=f) (l:=r) (i:=i) (g:=g+1) (by simpa using h)
  simp only[w0f,catI] at this⊢
  rw[this,←w16]
  simp[w47,Nat.add_comm 1]
theorem x7 {α β:Type} {f:Nat→α→List β} {B:Nat}: ∀{l:List α} {g:Nat},(∀j (hj:j<l.length),(f (g+j) l[j]).length≤B)→ ∀k,(catI f g (l.take k)).length≤B*l.length
 | [],_,_,k=>by simp[catI]
 |x::r,g,h,0=>by simp[catI]
 |x::r,g,h,k+1=>by
  have h1:=h 0 (by simp)
  have:=x7 (f:=f) (B:=B) (l:=r) (g:=g+1) (fun j hj=>by have:=h (j+1) (by simpa using hj);simpa [w47,Nat.add_comm 1] using this) k
  simp[catI,Nat.mul_add] at h1⊢;omega
def nums (l:List Int):List UInt8:=catI (fun _ n=>minimal n.toNat) 0 l
theorem z0j {l:List Int} {i:Nat} (h:i<l.length):nums (l.take (i+1))=nums (l.take i)++minimal l[i].toNat:=tB h
theorem qt {l:List Int} (h:U64 l) (k:Nat):(nums (l.take k)).length≤10*l.length:=x7 (fun j hj=>z9 (by have:=h _ (w04 hj);omega)) k
theorem Xm {l:List Int} (h:U64 l):(nums l).length≤10*l.length:=by simpa using qt h l.length
theorem vary (n:Int) (hn:0≤n∧n<18446744073709551616) (m:Mem) (hf:m.floor≤m.stk.length+1):Okl IsByte 1 tab 284 [.int .u64 n] m (minimal n.toNat):=by
 have:=vq n.toNat (by omega) m.stk m.cur m.nx m.floor m.live hf
 rwa [Int.toNat_of_nonneg hn.1] at this
theorem qf (l:List Int) (z:AV) (hz:IsSl (IsK .u64) 1 l z) (hl:U64 l) (xs:List UInt8) (hn:xs.length+10*l.length≤1000000) (y:AV) (e:List Nat) (ho:Own IsByte 1 y xs e) (stk:List (List Blk)) (cur:List Blk) (nx fl:Nat) (hf:fl≤stk.length+1) (rest:List (List Nat)):
  OkA IsByte 1 tab 289 [y,z] ⟨stk,cur,nx,e::rest,fl⟩ rest (xs++nums l):=by
 have f:=nd hz.z (nthK hz)
 have:=hz.max
 have h2:=qt hl
 refine okaz (tT qX) ?_
 refine xh [0,9] (fun i v e _=>i≤l.length∧v 9= .int .i64 (i:Int)∧Wr IsByte 1 1 (v 0) (xs++nums (l.take i)) e rest) (fun i=>l.length-i) 0 ?_ fun i v e nz bs hi=> ?_
 ·exact nd (w0b _) (by simpa [nums,catI] using (ho.wr rest).enter)
 obtain⟨hi,_,hw⟩:=hi
 refine ifs (fun hi=> ?_) fun hi=> ?_
 ·have:= @z9 l[i].toNat (by have:=hl _ (w04 hi);omega)
  have:=h2 i
  refine oc (vary l[i] (hl _ (w04 hi)) _ (by simp;omega)) fun y t k ho=> ?_
  refine obw (hw.push t) ho (by simp;omega) fun y k l ho=> ?_
  exact⟨i+1,by omega,by omega,rfl,by rw[z0j hi,←w16];exact ho⟩
 ·obtain rfl:i=l.length:=by omega
  exact fa hw (by simp)
theorem z3r {k:IntKind}: ∀l:List Int,All2 (IsK k) l (l.map (.int k))
 | []=>trivial
 |_::l=>⟨rfl,z3r l⟩
theorem slK {k:IntKind} (l:List Int) (tk:Tok) (h:l.length≤100:=by simp):IsSl (IsK k) 1 l (.list 1 tk (l.map (.int k))):= .mk (z3r l) (by omega)
theorem signed (n:Int) (hn:in64 n) (m:Mem) (hf:m.floor≤m.stk.length+1):Okl IsByte 1 tab 285 [.int .i64 n] m (minimal (zigzag n)):=ku n hn m.stk m.cur m.nx m.floor m.live hf
def endedB (d:DEnded):List UInt8:=UInt8.ofNat d.outcome.toNat::(minimal (zigzag d.failing)++nums [d.steps])
theorem Wb (d:DEnded) (hw:WfEnded d) (m:Mem) (hf:m.floor≤m.stk.length+1):Okp IsByte 1 tab 230 [.agg [.int .u8 d.outcome,.int .i64 d.failing,.int .i64 d.steps]] m (if endedOk d then endedB d else []) (if endedOk d then 0 else 8):=by
 have h0:=fun m=>(UQ d m).eq
 obtain⟨⟨_,_⟩,hg,_⟩:=hw
 have:= @z9 (zigzag d.failing) (x4 hg)
 cases h:endedOk d<;>have f:=nd h0 h
 ·refine okpz (tT vS) fun s c x v g _=> ?_
  trivial
 ·have:0≤d.steps∧d.steps≤5000:=by grind [endedOk]
  refine okpz (tT vS) fun s c x v g e=> ?_
  subst e
  refine oc (signed _ hg _ (by simp at*;omega)) fun y t k ho=> ?_
  refine ob (.full (byI (by omega)) _) ho (by simp;omega) fun y k e ho=> ?_
  refine oA (qf [d.steps] _ (slK _ _) (by simp[U64];omega) _ (by simp;omega) y e ho _ _ _ _ (by simp at*;omega) _) fun y e n ho=> ?_
  exact fp ho (nd (by simp[endedB]) rfl)
def headB (g:Nat) (x:DRoutine):List UInt8:=UInt8.ofNat x.status.toNat::(nums [x.code,(x.sp-stackB g)/8,x.defers/8,x.panics/8]++minimal (zigzag x.key))
def headsB (l:List DRoutine):List UInt8:=nums [(l.length:Int)]++catI headB 0 l
theorem TX {g:Nat} {d:DRoutine} (h:headOk g d=true) (hw:WfRoutine d):U64 [d.code,(d.sp-stackB g)/8,d.defers/8,d.panics/8]:=by
 obtain⟨_,h1,h2,h3,h4,_⟩:=hw
 unfold inU64 at*
 intro x hx
 grind [headOk]
theorem jy {g:Nat} {d:DRoutine} (h:headOk g d=true) (hw:WfRoutine d):(headB g d).length≤51:=by
 have:=qt (TX h hw) 4
 have:= @z9 (zigzag d.key) (x4 hw.key)
 simp[headB] at*;omega
theorem Wa (l:List DRoutine) (y:AV) (hy:IsSl IsRoutine 6 l y) (hl:l.length≤900) (hw: ∀x∈l,WfRoutine x) (m:Mem) (hf:m.floor≤m.stk.length+1):Okp IsByte 1 tab 236 [y] m (if headsOk l then headsB l else []) (if headsOk l then 0 else 8):=by
 have h0:=fun m=>(VG l y hy hl hw m).eq
 cases h:headsOk l<;>have f:=nd h0 (nd h (nd hy.z (nd (nthH hy) fun j (hj:j<l.length) m=>(WJ j (by omega) m).eq)))
 ·refine okpz (tT vR) fun s c x v g _=> ?_
  trivial
 ·refine okpz (tT vR) fun s c x v g e=> ?_
  subst e
  simp at hf
  refine oA (qf [(l.length:Int)] _ (slK _ _) (by simp[U64];omega) [] (by simp) .nils [] (.nil _) _ _ _ _ (by simp;omega) _) fun y e n ho=> ?_
  have hh:=yJ.1 (w3f.1 h).2
  have hn:=x7 (fun j hj=>jy (hh j hj) (hw _ (w04 (by simpa using hj))))
  have hm:=qt (l:=[(l.length:Int)]) (by simp[U64];omega) 1
  refine xn 17 l.length [4] (fun i v e=>Own IsByte 1 (v 4) (nums [(l.length:Int)]++catI headB 0 (l.take i)) e) 0 ?_ fun i v e nz hi ho=> ?_
  ·simpa [catI] using ho
  refine ifs (fun hi=> ?_) fun hi=> ?_
  ·have hk:=hh i hi
   have hw:=hw _ (w04 hi)
   rw[w26] at hk
   have hu:=TX hk hw
   have:stackB i≤l[i].sp∧l[i].sp≤stackB i+4096:=by grind [headOk]
   have hq:=jy hk hw
   have:=hn i
   obtain⟨h1,⟨_,_⟩,⟨_,_⟩,⟨_,_⟩,⟨_,_⟩,hg⟩:=hw
   simp[headB] at hq hm
   refine oa ho (byI h1) (by simp;omega) fun y k e ho=> ?_
   refine oA (qf _ _ (slK [l[i].code,(l[i].sp-stackB i)/8,l[i].defers/8,l[i].panics/8] _) hu _ (by simp;omega) y e ho _ _ _ _ (by simp;omega) _) fun y e n ho=> ?_
   refine oc (signed _ hg _ (by simp;omega)) fun y t k hs=> ?_
   refine ob ho hs (by simp;omega) fun y k e ho=> ?_
   exact nd hi (by rw[tB hi];simpa [headB] using ho)
  ·obtain rfl:i=l.length:=by omega
   exact fp ho (nd (by simp[headsB]) rfl)
def chainB (c:List Int):List UInt8:=nums [(c.length:Int)]++nums (c.map (· /8))
def chainsB (l:List (List Int)):List UInt8:=nums [(l.length:Int)]++catI (fun _=>chainB) 0 l
theorem z1O {c:List Int} (h:U64 c):U64 (c.map (· /8)):=by
 intro x hx
 obtain⟨n,hn,rfl⟩:=w3d.1 hx
 have:=h n hn
 omega
theorem ZM {c:List Int} (h:U64 c) (hc:chainOk c=true):(chainB c).length≤4110:=by
 have h1:=Xm (z1O h)
 simp[chainOk] at hc
 have h2:=qt (l:=[(c.length:Int)]) (by simp[U64];omega) 1
 simp[chainB] at*;omega
theorem jk (l:List (List Int)) (y:AV) (hy:IsSl (IsSl (IsK .u64) 1) 1 l y) (hl:l.length≤900) (hw: ∀c∈l,U64 c) (m:Mem) (hf:m.floor≤m.stk.length+1):Okp IsByte 1 tab 238 [y] m (if chainsOk l then chainsB l else []) (if chainsOk l then 0 else 8):=by
 have h0:=fun m=>(WK l y hy hw m).eq
 cases h:chainsOk l<;>have f:=nd h0 (nd h (nd hy.z (nd (nthS hy) fun j (hj:j<l.length)=>nd (hy.nth hj).z (nthK (hy.nth hj)))))
 ·refine okpz (tT vb) fun s c x v g _=> ?_
  trivial
 ·have hh:=z0R.1 (w3f.1 h).2
  have h1:=fun j (hj:j<l.length)=>hw _ (w04 hj)
  have hc: ∀j (hj:j<l.length),l[j].length≤410:=fun j hj=>by have:=hh j hj;simp[chainOk] at this;omega
  have hn:=x7 (f:=fun _=>chainB) (g:=0) fun j hj=>ZM (h1 j hj) (hh j hj)
  have hm:=qt (l:=[(l.length:Int)]) (by simp[U64];omega) 1
  simp at hm
  have:l.length≤16:=by simp[chainsOk] at h;omega
  refine okpz (tT vb) fun s c x v g e=> ?_
  subst e
  simp at hf
  refine oA (qf [(l.length:Int)] _ (slK _ _) (by simp[U64];omega) [] (by simp) .nils [] (.nil _) _ _ _ _ (by simp;omega) _) fun y e n ho=> ?_
  refine xn 19 l.length [4] (fun i v e=>Own IsByte 1 (v 4) (nums [(l.length:Int)]++catI (fun _=>chainB) 0 (l.take i)) e) 0 ?_ fun i v e nz hi ho=> ?_
  ·simpa [catI] using ho
  refine ifs (fun hi=> ?_) fun hi=> ?_
  ·have:=hn i
   have:=hc i hi
   have hq:=ZM (h1 i hi) (hh i hi)
   have hd:=qt (z1O (h1 i hi))
   have h2:=qt (l:=[(l[i].length:Int)]) (by simp[U64];omega) 1
   simp at h2 hd
   refine st ?_
   refine oA (qf [(l[i].length:Int)] _ (slK _ _) (by simp[U64];omega) _ (by simp;omega) (v 4) e ho _ _ _ _ (by simp;omega) _) fun y e n ho=> ?_
   refine xn 31 l[i].length [4] (fun k v e=>Own IsByte 1 (v 4) (nums [(l.length:Int)]++catI (fun _=>chainB) 0 (l.take i)++nums [(l[i].length:Int)]++nums ((l[i].map (· /8)).take k)) e) 0 ?_ fun k v e nz hk ho=> ?_
   ·simpa [nums,catI] using ho
   have:=hd k
   refine ifs (fun hk=> ?_) fun hk=> ?_
   ·have hb:=h1 i hi _ (w04 hk)
    refine st ?_
    refine oA (qf [l[i][k]/8] _ (slK _ _) (by simp[U64];omega) _ (by simp;omega) (v 4) e ho _ _ _ _ (by simp;omega) _) fun y e n ho=> ?_
    refine nd hk ?_
    rw[z0j (by simpa using hk)]
    simpa [nums,catI] using ho
   ·obtain rfl:k=l[i].length:=by omega
    rw[w32 (l:=l[i].map (· /8)) (by simp)] at ho
    exact nd hi (by rw[tB hi];simpa [chainB] using ho)
  ·obtain rfl:i=l.length:=by omega
   exact fp ho (nd (by simp[chainsB]) rfl)
theorem za9 {α:Type} {R:α→AV→Prop} {s i:Nat} {y:AV} {xs:List α} {live post:List (List Nat)} (t:List Nat) (h:Wr R s i y xs live post):Wr R s (i+1) y xs (t::live) post:=by
 obtain⟨pre,rfl,h2,h3⟩:=h
 exact⟨t::pre,rfl,by simp[h2],h3.push t⟩
theorem US (d:DRegion) (z:AV) (hz:IsBytes d.bytes z) (hd:d.bytes.length≤4096) (y:AV) (l:List UInt8) (hl:l.length≤100000) (S:List (List Blk)) (C:List Blk) (i nx fl:Nat) (e:List Nat) (rest:List (List Nat)) (hf:fl≤S.length) (ho:Own IsByte 1 y l e):
  Does tab 290 [.agg [.int .u64 d.base,z],.ptr S.length 0 i 0] ⟨S,⟨i,[y]⟩::C,nx,e::rest,fl⟩ fun v m'=> ∃y' n e',v= .tup []∧m'=⟨S,⟨i,[y']⟩::C,n,e'::rest,fl⟩∧Own IsByte 1 y' (l++regB d) e':=by
 refine yq (tT vP) ?_ (Nat.le_of_ble_eq_true rfl)
 have hln: ∀z:List Blk,(S++[z]).length=S.length+1:=fun z=>by simp
 have hne:(S.length==S.length+1)=false:=by simp
 have hg: ∀z:List Blk,(S++[z]).getD S.length []=z:=fun z=>by simp
 have hml:S.length+1-S.length=0+1:=by omega
 have hmod: ∀z f,(S++[z]).modify S.length f=S++[f z]:=fun z f=>by
  rw[w37 (by simp)];simp
 have f0:=nd hln (nd hne (nd hg (nd hmod (nd hml (nd hz.z (nd hz.co hf))))))
 have f:=f0
 have:= @z9 d.bytes.length (by omega)
 refine st ?_
 refine oc (vary d.bytes.length (by omega) _ (by simp;omega)) fun y1 t k h1=> ?_
 refine obw (za9 t (ho.wr rest)) h1 (by simp;omega) fun y2 k l2 hw=> ?_
 obtain⟨e0,l2,hs,hw⟩:=hw.sink
 obtain⟨e1,rfl,ho2⟩:=hw.own
 have f:=nd f0 (nd hs ho2.co)
 refine st ?_
 refine oaw (za9 e0 (ho2.wr rest)) hz.elems_any.choose_spec.2 (by simp;omega) ?_ hz.elems_any.choose_spec.1
 intro y3 k l3 hw
 obtain⟨e2,l4,hs,hw⟩:=hw.sink
 obtain⟨e3,rfl,ho3⟩:=hw.own
 rw[w26] at hs
 rw[hs,yH rfl rfl,z6]
 exact⟨y3,k,e3,rfl,rfl,by simpa [regB] using ho3⟩
theorem od {f:Nat} {args:List AV} {m:Mem} {R:AV→Mem→Prop} {F:AV×Mem→Prop} (h:Does tab f args m R) (q: ∀v m',R v m'→F (v,m')): @Cl (CALL tab f args m) ⟨F⟩:=Opt.mono h fun r hr=>q r.1 r.2 hr
def stacksB (l:List DRegion):List UInt8:=minimal l.length++catI (fun _=>regB) 0 l
attribute [go_sem] yQ
theorem Zs {l:List DRegion} (h:stacksOk l=true):l.length≤16∧ ∀j (hj:j<l.length),l[j].bytes.length≤4096:=by
 have h1:=yJ.1 (w3f.1 h).2
 simp[stacksOk] at h
 exact⟨by omega,fun j hj=>by have:=h1 j hj;simp[fitR] at this;omega⟩
theorem Yr (l:List DRegion) (y:AV) (hy:IsSl IsRegion 2 l y) (hl:l.length≤900) (m:Mem) (hf:m.floor≤m.stk.length+1):Okp IsByte 1 tab 234 [y] m (if stacksOk l then stacksB l else []) (if stacksOk l then 0 else 8):=by
 have h0:=fun m=>(W8 l y hy hl m).eq
 obtain⟨q,hq⟩:=regs hy
 cases h:stacksOk l<;>have f:=nd h0 (nd h (nd hy.z fun j hj=>nd (hq j hj).1 (hq j hj).2.2))
 ·refine okpz (tT yQ) fun s c x v g _=> ?_
  trivial
 ·obtain⟨h1,h2⟩:=Zs h
  refine okpz (tT yQ) fun s c x v g e=> ?_
  subst e
  simp at hf
  have hn:=x7 (f:=fun _=>regB) (g:=0) (B:=5000) fun j hj=>by have:=h2 j hj;have:= @z9 l[j].bytes.length (by omega);simp[regB];omega
  have:= @z9 l.length (by omega)
  refine oc (vary l.length (by omega) _ (by simp;omega)) fun y t k ho=> ?_
  refine xg [18] (fun(z:Nat×AV) v e b=>z.1≤l.length∧b=[⟨k,[z.2]⟩]∧v 18= .int .i64 (z.1:Int)∧Own IsByte 1 z.2 (minimal l.length++catI (fun _=>regB) 0 (l.take z.1)) e) (fun z=>l.length-z.1) (0,y) ?_ ?_
  ·simpa [catI] using ho
  rintro⟨i,y⟩ v e nz bs ⟨_,hb,_,ho⟩
  dsimp only at*
  subst hb
  have:=hn i
  refine ifs (fun hi=> ?_) fun hi=> ?_
  ·refine od (US l[i] _ (hq i hi).2.1 (h2 i hi) y _ (by simp;omega) (s++[c]) _ k _ _ e _ (by simp;omega) ho) ?_
   rintro _ _ ⟨y,n,e,rfl,rfl,ho⟩
   refine st ?_
   exact⟨(i+1,y),by dsimp only;omega,hi,rfl,by dsimp only;omega,by rw[tB hi,←w16];exact ho⟩
  ·obtain rfl:i=l.length:=by omega
   exact fp ho (nd (by simp[stacksB]) rfl)
attribute [go_sem] vh xF xc vy xa xE xb
theorem z06 {n:Int} (h0:0≤n) (h:n<18446744073709551616) (m:Mem):Okl IsByte 1 tab 219 [.int .u64 n] m (minimal n.toNat):=by
 obtain⟨k,rfl⟩:=Int.eq_ofNat_of_zero_le h0
 exact zh k (by omega) m
theorem Y6 (b:List UInt8) (z:AV) (hz:IsBytes b z) (hb:b.length≤100000) (m:Mem):Okl IsByte 1 tab 241 [z] m (minimal b.length++b):=by
 have f:=nd hz.z hz.co
 have:= @z9 b.length
 refine oklz (tT vh) fun s c x v g _=> ?_
 refine oc (zh b.length (by omega) _) fun y t k ho=> ?_
 refine ov ho hz (by omega) fun y n e ho=> ?_
 exact fo ho rfl
theorem WH (d:DRegion) (y:AV) (hy:IsRegion d y) (hb:d.bytes.length≤100000) (m:Mem):Okl IsByte 1 tab 160 [y] m (regB d):=by
 obtain⟨z,rfl,hz⟩:=hy
 have f:=hz.co
 refine oklz (tT xF) fun s c x v g _=> ?_
 refine oc (Y6 _ _ hz hb _) fun y t k ho=> ?_
 exact fo ho rfl
theorem W7 (l:List DRegion) (y:AV) (hy:IsSl IsRegion 2 l y) (h:stacksOk l=true) (m:Mem):Okl IsByte 1 tab 161 [y] m (stacksB l):=by
 obtain⟨z,hz⟩:=regs hy
 have hq:=Zs h
 have hn:=x7 (f:=fun _=>regB) (g:=0) (B:=4106) fun j hj=>by
  have:=hq.2 j hj
  have:= @z9 l[j].bytes.length
  simp[regB];omega
 have:= @z9 l.length
 have f:=nd hy.z (nd hy.co fun j hj=>nd (hz j hj).1 (hz j hj).2.1.co)
 refine oklz (tT xc) fun s c x v g _=> ?_
 refine oc (zh l.length (by omega) _) fun y t k ho=> ?_
 refine xn 4 l.length [3] (fun i v e=>Own IsByte 1 (v 3) (minimal l.length++catI (fun _=>regB) 0 (l.take i)) e) 0 ?_ fun i v e nz hi ho=> ?_
 ·simpa [catI] using ho
 refine ifs (fun hi=> ?_) fun hi=> ?_
 ·have h1:=hq.2 i hi
  have:=hn i
  have:= @z9 l[i].bytes.length
  have f:=nd f (nd hi ho.co)
  refine st ?_
  refine oc (Y6 _ _ (hz i hi).2.1 (by omega) _) fun y t k hs=> ?_
  refine ob ho hs (by simp;omega) fun y k e ho=> ?_
  rw[tB hi];simpa [regB] using ho
 ·obtain rfl:i=l.length:=by omega
  exact fo ho (by simp[stacksB])
theorem Yn (n:Int) (hn:in64 n) (m:Mem):Okl IsByte 1 tab 240 [.int .i64 n] m (minimal (zigzag n)):=by
 have h:=x4 hn
 have f:=fun m=>(vu n hn m).eq
 refine oklz (tT vy) fun s c x v g _=> ?_
 refine oc (zh _ h _) fun y t k ho=> ?_
 exact fo ho rfl
theorem W6 (d:DEnded) (hw:WfEnded d) (h:endedOk d=true) (m:Mem):Okl IsByte 1 tab 159 [.agg [.int .u8 d.outcome,.int .i64 d.failing,.int .i64 d.steps]] m (endedB d):=by
 obtain⟨⟨_,_⟩,hg,_⟩:=hw
 have:= @z9 (zigzag d.failing) (x4 hg)
 have hs:0≤d.steps∧d.steps≤5000:=by grind [endedOk]
 refine oklz (tT xa) fun s c x v g _=> ?_
 refine oc (Yn _ hg _) fun y t k ho=> ?_
 refine ob (.full (byI (by omega)) _) ho (by simp;omega) fun y k e ho=> ?_
 refine oc (z06 hs.1 (by omega) _) fun y t k h1=> ?_
 refine ob ho h1 (by have:= @z9 d.steps.toNat (by omega);simp;omega) fun y k e ho=> ?_
 exact fo ho (by simp[endedB,nums,catI])
theorem WE (l:List DRoutine) (y:AV) (hy:IsSl IsRoutine 6 l y) (hw: ∀x∈l,WfRoutine x) (h:headsOk l=true) (m:Mem):Okl IsByte 1 tab 162 [y] m (headsB l):=by
 have hl:l.length≤16:=by simp[headsOk] at h;omega
 have hh:=yJ.1 (w3f.1 h).2
 have hn:=x7 (fun j hj=>jy (hh j hj) (hw _ (w04 (by simpa using hj))))
 have:= @z9 l.length
 have f:=nd hy.z (nd hy.co (nd (nthH hy) fun j (hj:j<l.length) m=>(WF j (by omega) m).eq))
 refine oklz (tT xE) fun s c x v g _=> ?_
 refine oc (zh l.length (by omega) _) fun y t k ho=> ?_
 refine xn 4 l.length [3] (fun i v e=>Own IsByte 1 (v 3) (minimal l.length++catI headB 0 (l.take i)) e) 0 ?_ fun i v e nz hi ho=> ?_
 ·simpa [catI] using ho
 refine ifs (fun hi=> ?_) fun hi=> ?_
 ·have hk:=hh i hi
  have hw:=hw _ (w04 hi)
  rw[w26] at hk
  have hu:=TX hk hw
  have hb:stackB i≤l[i].sp∧l[i].sp≤stackB i+4096:=by grind [headOk]
  have hq:=jy hk hw
  have:=hn i
  obtain⟨h1,⟨_,_⟩,⟨_,_⟩,⟨_,_⟩,⟨_,_⟩,hg⟩:=hw
  simp[headB,nums,catI] at hq
  have f:=nd f (nd hi ho.co)
  refine st ?_
  refine oa ho (byI h1) (by simp;omega) fun y k e ho=> ?_
  refine oc (z06 (by omega) (by omega) _) fun y t k hs=> ?_
  refine ob ho hs (by simp;omega) fun y k e ho=> ?_
  refine oc (z06 (n:=(l[i].sp-stackB i)/8) (by omega) (by omega) _) fun y t k hs=> ?_
  refine ob ho hs (by simp;omega) fun y k e ho=> ?_
  refine oc (z06 (by omega) (by omega) _) fun y t k hs=> ?_
  refine ob ho hs (by simp;omega) fun y k e ho=> ?_
  refine oc (z06 (by omega) (by omega) _) fun y t k hs=> ?_
  refine ob ho hs (by simp;omega) fun y k e ho=> ?_
  refine oc (Yn _ hg _) fun y t k hs=> ?_
  refine ob ho hs (by simp;omega) fun y k e ho=> ?_
  rw[tB hi];simpa [headB,nums,catI] using ho
 ·obtain rfl:i=l.length:=by omega
  exact fo ho (by simp[headsB,nums,catI])
theorem jH (l:List (List Int)) (y:AV) (hy:IsSl (IsSl (IsK .u64) 1) 1 l y) (hw: ∀c∈l,U64 c) (h:chainsOk l=true) (m:Mem):Okl IsByte 1 tab 163 [y] m (chainsB l):=by
 have hh:=z0R.1 (w3f.1 h).2
 have h1:=fun j (hj:j<l.length)=>hw _ (w04 hj)
 have hc: ∀j (hj:j<l.length),l[j].length≤410:=fun j hj=>by have:=hh j hj;simp[chainOk] at this;omega
 have hn:=x7 (f:=fun _=>chainB) (g:=0) fun j hj=>ZM (h1 j hj) (hh j hj)
 have:l.length≤16:=by simp[chainsOk] at h;omega
 have:= @z9 l.length
 have f:=nd hy.z (nd hy.co (nd (nthS hy) fun j (hj:j<l.length)=>nd (hy.nth hj).z (nd (hy.nth hj).co (nthK (hy.nth hj)))))
 refine oklz (tT xb) fun s c x v g _=> ?_
 refine oc (zh l.length (by omega) _) fun y t k ho=> ?_
 refine xn 4 l.length [3] (fun i v e=>Own IsByte 1 (v 3) (minimal l.length++catI (fun _=>chainB) 0 (l.take i)) e) 0 ?_ fun i v e nz hi ho=> ?_
 ·simpa [catI] using ho
 refine ifs (fun hi=> ?_) fun hi=> ?_
 ·have h3:=h1 i hi
  have h4:=hc i hi
  have:=hn i
  have:= @z9 l[i].length
  have hd:=qt (z1O h3)
  have f:=nd f (nd hi ho.co)
  refine st ?_
  refine oc (zh l[i].length (by omega) _) fun y t k hs=> ?_
  refine ob ho hs (by simp;omega) fun y k e ho=> ?_
  refine xn 5 l[i].length [3] (fun j v e=>Own IsByte 1 (v 3) (minimal l.length++catI (fun _=>chainB) 0 (l.take i)++minimal l[i].length++nums ((l[i].map (· /8)).take j)) e) 0 ?_ fun j v e nz hj ho=> ?_
  ·simpa [catI,nums] using ho
  refine ifs (fun hj=> ?_) fun hj=> ?_
  ·have:=h3 _ (w04 hj)
   have:=hd j
   have f:=nd f (nd hj ho.co)
   refine st ?_
   refine oc (z06 (n:=l[i][j]/8) (by omega) (by omega) _) fun y t k hs=> ?_
   refine ob ho hs (by have:= @z9 (l[i][j]/8).toNat (by omega);simp at*;omega) fun y k e ho=> ?_
   unfold nums at*
   rw[tB (by simpa using hj)];simpa using ho
  ·obtain rfl:j=l[i].length:=by omega
   rw[tB hi]
   simpa [chainB,nums,catI,w32] using ho
 ·obtain rfl:i=l.length:=by omega
  exact fo ho (by simp[chainsB,nums,catI])
attribute [go_sem] yL xe tl th vO xW xT xG te
theorem qY {α:Type} {a b:List α} (hl:a.length=b.length) (h: ∀j,j<a.length→a[j]? =b[j]?):a=b:=by
 apply w20
 intro j
 by_cases hj:j<a.length
 ·exact h j hj
 ·rw[w3c (by omega),w3c (by omega)]
theorem fieldV {l:List DField} {y:AV} (h:IsSl IsField 2 l y) (j:Nat) (hj:j<l.length):nth y j= .agg [.str l[j].name,.int .i64 l[j].typ]:=h.nth hj
theorem instrV {l:List DInstr} {y:AV} (h:IsSl IsInstr 4 l y) (j:Nat) (hj:j<l.length):nth y j= .agg [.int .u8 l[j].op,.int .i64 l[j].a,.int .i64 l[j].b,.int .i64 l[j].c]:=h.nth hj
theorem runV {l:List DRun} {y:AV} (h:IsSl IsRun 2 l y) (j:Nat) (hj:j<l.length):nth y j= .agg [.int .i64 l[j].frm,.int .u64 l[j].value]:=h.nth hj
theorem intV {l:List Int} {y:AV} (h:IsSl (IsK .i64) 1 l y) (j:Nat) (hj:j<l.length):nth y j= .int .i64 l[j]:=h.nth hj
theorem strV {l:List (List UInt8)} {y:AV} (h:IsSl IsStr 1 l y) (j:Nat) (hj:j<l.length):nth y j= .str l[j]:=h.nth hj
theorem z88 (x y:DField):x=y↔x.name=y.name∧x.typ=y.typ:=by cases x;cases y;simp
theorem z80 (x y:DInstr):x=y↔x.op=y.op∧x.a=y.a∧x.b=y.b∧x.c=y.c:=by cases x;cases y;simp
theorem z7u (x y:DRun):x=y↔x.frm=y.frm∧x.value=y.value:=by cases x;cases y;simp
theorem vc (xs ys:List DRun) (x y:AV) (hx:IsSl IsRun 2 xs x) (hy:IsSl IsRun 2 ys y) (m:Mem):Okv tab 251 [x,y] m (.bool (decide (xs=ys))):=by
 have f:=nd hx.z (nd hy.z (nd (runV hx) (runV hy)))
 have:=hx.max
 refine okz (tT yL) fun s c x v g _=> ?_
 repeat' first|refine ifs ?_ ?_|intro
 any_goals refine xn 13 xs.length [] (fun i _ _=> ∀j,j<i→xs[j]? =ys[j]?) 0 ?_ fun i v e nz hi hp=> ?_
 repeat' first|refine ifs ?_ ?_|intro
 all_goals clear f;grind [qY,z7u]
theorem uO (xs ys:List DField) (x y:AV) (hx:IsSl IsField 2 xs x) (hy:IsSl IsField 2 ys y) (m:Mem):Okv tab 201 [x,y] m (.bool (decide (xs=ys))):=by
 have f:=nd hx.z (nd hy.z (nd (fieldV hx) (fieldV hy)))
 have:=hx.max
 refine okz (tT xe) fun s c x v g _=> ?_
 repeat' first|refine ifs ?_ ?_|intro
 any_goals refine xn 5 xs.length [] (fun i _ _=> ∀j,j<i→xs[j]? =ys[j]?) 0 ?_ fun i v e nz hi hp=> ?_
 repeat' first|refine ifs ?_ ?_|intro
 all_goals clear f;grind [qY,z88]
theorem Yk (xs ys:List DInstr) (x y:AV) (hx:IsSl IsInstr 4 xs x) (hy:IsSl IsInstr 4 ys y) (m:Mem):Okv tab 202 [x,y] m (.bool (decide (xs=ys))):=by
 have f:=nd hx.z (nd hy.z (nd (instrV hx) (instrV hy)))
 have:=hx.max
 refine okz (tT tl) fun s c x v g _=> ?_
 repeat' first|refine ifs ?_ ?_|intro
 any_goals refine xn 5 xs.length [] (fun i _ _=> ∀j,j<i→xs[j]? =ys[j]?) 0 ?_ fun i v e nz hi hp=> ?_
 repeat' first|refine ifs ?_ ?_|intro
 all_goals clear f;grind [qY,z80]
theorem qQ (xs ys:List DRun) (x y:AV) (hx:IsSl IsRun 2 xs x) (hy:IsSl IsRun 2 ys y) (m:Mem):Okv tab 203 [x,y] m (.bool (decide (xs=ys))):=by
 have f:=nd hx.z (nd hy.z (nd (runV hx) (runV hy)))
 have:=hx.max
 refine okz (tT th) fun s c x v g _=> ?_
 repeat' first|refine ifs ?_ ?_|intro
 any_goals refine xn 5 xs.length [] (fun i _ _=> ∀j,j<i→xs[j]? =ys[j]?) 0 ?_ fun i v e nz hi hp=> ?_
 repeat' first|refine ifs ?_ ?_|intro
 all_goals clear f;grind [qY,z7u]
theorem Zq (xs ys:List Int) (x y:AV) (hx:IsSl (IsK .i64) 1 xs x) (hy:IsSl (IsK .i64) 1 ys y) (m:Mem):Okv tab 352 [x,y] m (.bool (decide (xs=ys))):=by
 have f:=nd hx.z (nd hy.z (nd (intV hx) (intV hy)))
 have:=hx.max
 refine okz (tT vO) fun s c x v g _=> ?_
 repeat' first|refine ifs ?_ ?_|intro
 any_goals refine xn 13 xs.length [] (fun i _ _=> ∀j,j<i→xs[j]? =ys[j]?) 0 ?_ fun i v e nz hi hp=> ?_
 repeat' first|refine ifs ?_ ?_|intro
 all_goals clear f;grind [qY]
theorem tM (xs ys:List Int) (x y:AV) (hx:IsSl (IsK .i64) 1 xs x) (hy:IsSl (IsK .i64) 1 ys y) (m:Mem):Okv tab 384 [x,y] m (.bool (decide (xs=ys))):=by
 have f:=nd hx.z (nd hy.z (nd (intV hx) (intV hy)))
 have:=hx.max
 refine okz (tT xW) fun s c x v g _=> ?_
 repeat' first|refine ifs ?_ ?_|intro
 any_goals refine xn 5 xs.length [] (fun i _ _=> ∀j,j<i→xs[j]? =ys[j]?) 0 ?_ fun i v e nz hi hp=> ?_
 repeat' first|refine ifs ?_ ?_|intro
 all_goals clear f;grind [qY]
theorem z9D (x y:DFunc):x=y↔x.name=y.name∧x.params=y.params∧x.result=y.result∧x.slots=y.slots∧x.code=y.code∧x.sizes=y.sizes∧x.lives=y.lives:=by cases x;cases y;simp
theorem z9I (x y:DTyp):x=y↔x.kind=y.kind∧x.elem=y.elem∧x.len=y.len∧x.fields=y.fields:=by cases x;cases y;simp
theorem tL (a b:DFunc) (x y:AV) (hx:IsFunc a x) (hy:IsFunc b y) (m:Mem):Okv tab 141 [x,y] m (.bool (decide (a=b))):=by
 obtain⟨v0,v1,v2,v3,rfl,h0,h1,h2,h3⟩:=hx
 obtain⟨w0,w1,w2,w3,rfl,k0,k1,k2,k3⟩:=hy
 have f:=nd h0.co (nd h1.co (nd h2.co (nd h3.co (nd k0.co (nd k1.co (nd k2.co (nd k3.co (nd (fun m=>(uO _ _ _ _ h0 k0 m).eq) (nd (fun m=>(Yk _ _ _ _ h1 k1 m).eq) (nd (fun m=>(qQ _ _ _ _ h2 k2 m).eq) fun m=>(qQ _ _ _ _ h3 k3 m).eq))))))))))
 refine okz (tT xT) fun s c x v g _=> ?_
 repeat' first|refine ifs ?_ ?_|intro
 all_goals clear f;grind [z9D]
theorem typesV {l:List DTyp} {y:AV} (h:IsSl IsTyp 4 l y): ∃z:Nat→AV,∀j (hj:j<l.length),nth y j= .agg [.int .u8 l[j].kind,.int .i64 l[j].elem,.int .i64 l[j].len,z j]∧IsSl IsField 2 l[j].fields (z j):=by
 have h:=fun j hj=>h.nth (i:=j) hj
 exact⟨fun j=>if hj:j<l.length then(h j hj).choose else .undef,fun j hj=>by simp only[dif_pos hj];exact(h j hj).choose_spec⟩
theorem ka (xs ys:List DTyp) (x y:AV) (hx:IsSl IsTyp 4 xs x) (hy:IsSl IsTyp 4 ys y) (m:Mem):Okv tab 140 [x,y] m (.bool (decide (xs=ys))):=by
 obtain⟨z,hz⟩:=typesV hx
 obtain⟨w,hw⟩:=typesV hy
 have f:=nd hx.z (nd hy.z (nd (fun j hj=>nd (hz j hj).1 (hz j hj).2.co) (nd (fun j hj=>nd (hw j hj).1 (hw j hj).2.co) fun i (hi:i<xs.length) (hj:i<ys.length) m=>(uO _ _ _ _ (hz i hi).2 (hw i hj).2 m).eq)))
 have:=hx.max
 refine okz (tT xG) fun s c x v g _=> ?_
 repeat' first|refine ifs ?_ ?_|intro
 any_goals refine xn 5 xs.length [] (fun i _ _=> ∀j,j<i→xs[j]? =ys[j]?) 0 ?_ fun i v e nz hi hp=> ?_
 repeat' first|refine ifs ?_ ?_|intro
 all_goals clear f;grind [qY,z9I]
theorem fnsV {l:List DFunc} {y:AV} (h:IsSl IsFunc 7 l y): ∃s c z v:Nat→AV,∀j (hj:j<l.length),nth y j= .agg [.str l[j].name,.int .i64 l[j].params,.int .i64 l[j].result,s j,c j,z j,v j]∧IsSl IsField 2 l[j].slots (s j)∧IsSl IsInstr 4 l[j].code (c j)∧IsSl IsRun 2 l[j].sizes (z j)∧IsSl IsRun 2 l[j].lives (v j):=by
 have h:=fun j hj=>h.nth (i:=j) hj
 exact⟨fun j=>if hj:j<l.length then(h j hj).choose else .undef,fun j=>if hj:j<l.length then(h j hj).choose_spec.choose else .undef,fun j=>if hj:j<l.length then(h j hj).choose_spec.choose_spec.choose else .undef,
  fun j=>if hj:j<l.length then(h j hj).choose_spec.choose_spec.choose_spec.choose else .undef,fun j hj=>by simp only[dif_pos hj];exact(h j hj).choose_spec.choose_spec.choose_spec.choose_spec⟩
theorem zaO (x y:DImage):x=y↔x.types=y.types∧x.texts=y.texts∧x.funcs=y.funcs:=by cases x;cases y;simp
theorem Yj (a b:DImage) (x y:AV) (hx:IsImage a x) (hy:IsImage b y) (m:Mem):Okv tab 68 [x,y] m (.bool (decide (a=b))):=by
 obtain⟨x0,x1,x2,rfl,p0,p1,p2⟩:=hx
 obtain⟨y0,y1,y2,rfl,q0,q1,q2⟩:=hy
 obtain⟨_,_,_,_,hp⟩:=fnsV p2
 obtain⟨_,_,_,_,hq⟩:=fnsV q2
 have f:=nd p0.co (nd p1.co (nd p2.co (nd q0.co (nd q1.co (nd q2.co (nd p1.z (nd p2.z (nd q1.z (nd q2.z (nd (strV p1) (nd (strV q1) (nd (fun j hj=>(hp j hj).1) (nd (fun j hj=>(hq j hj).1) (nd (fun m=>(ka _ _ _ _ p0 q0 m).eq) fun i (hi:i<a.funcs.length) (hj:i<b.funcs.length) m=>(tL _ _ _ _ ⟨_,_,_,_,rfl,(hp i hi).2⟩ ⟨_,_,_,_,rfl,(hq i hj).2⟩ m).eq))))))))))))))
 have:=p1.max
 have:=p2.max
 refine okz (tT te) fun s c x v g _=> ?_
 repeat' first|refine ifs ?_ ?_|intro
 any_goals refine xn 5 a.texts.length [] (fun i _ _=> ∀j,j<i→a.texts[j]? =b.texts[j]?) 0 ?_ fun i v e nz hi hp=> ?_
 repeat' first|refine ifs ?_ ?_|intro
 any_goals refine xn 6 a.funcs.length [] (fun i _ _=> ∀j,j<i→a.funcs[j]? =b.funcs[j]?) 0 ?_ fun i v e nz hi hp=> ?_
 repeat' first|refine ifs ?_ ?_|intro
 all_goals clear f;grind [qY,zaO]
attribute [go_sem] uZ vA ud ub xP xk xd yT xR x9 xD
theorem z14 (d:DRegion) (y:AV) (hy:IsRegion d y) (m:Mem):Okv tab 92 [y] m (.bool (heapOk d)):=by
 obtain⟨z,rfl,hz⟩:=hy
 have f:=hz.z
 refine okz (tT uZ) fun s c x v g _=> ?_
 repeat' first|refine ifs ?_ ?_|intro
 all_goals clear f;grind [heapOk,fitR]
theorem Tl (l:List DRegion) (y:AV) (hy:IsSl IsRegion 2 l y) (hl:l.length≤900) (m:Mem):Okv tab 93 [y] m (.bool (stacksOk l)):=by
 obtain⟨z,hz⟩:=regs hy
 have f:=nd hy.z fun j hj=>nd (hz j hj).1 (hz j hj).2.1.z
 refine okz (tT vA) fun s c x v g _=> ?_
 repeat' first|refine ifs ?_ ?_|intro
 any_goals refine xn 3 l.length [] (fun i _ _=> ∀j (hj:j<l.length),j<i→fitR l[j] (stackB j) 4096=true) 0 ?_ fun i v e nz hi hp=> ?_
 repeat' first|refine ifs ?_ ?_|intro
 all_goals clear f;grind [stacksOk,yJ,fitR,stackB]
def sumL {α:Type} (f:α→Nat):List α→Nat
 | []=>0
 |x::r=>f x+sumL f r
theorem VN {α:Type} {f:α→Nat}: ∀{l:List α} {i:Nat} (h:i<l.length),sumL f (l.take (i+1))=sumL f (l.take i)+f l[i]
 | [],_,h=>by simp at h
 |x::r,0,_=>by simp[sumL]
 |x::r,i+1,h=>by
  have:=VN (f:=f) (l:=r) (i:=i) (by simpa using h)
  simp only[w0f,sumL] at this⊢
  simp;omega
def gr {α:Type} (f:α→Nat) (a b:Nat) (l:List α):Bool:=(l.take 21).any (fun x=>decide (a<f x))||decide (20<l.length)||decide (b<sumL f (l.take 21))
theorem TZ {α:Type} {f:α→Nat} {a b:Nat} {l:List α} (h:gr f a b l=false):l.length≤20∧ ∀x∈l,f x≤a:=by
 simp only[gr,w29,decide_eq_false_iff_not,List.any_eq_false,decide_eq_true_eq] at h
 obtain⟨⟨h1,h2⟩,_⟩:=h
 refine⟨by omega,fun x hx=> ?_⟩
 rw[w32 (by omega)] at h1
 have:=h1 x hx
 omega
theorem z82 {α:Type} {f:α→Nat} {a b i:Nat} {l:List α} (hi:i<l.length) (h:i≤20) (h1:a<f l[i]):gr f a b l=true:=by
 have:(l.take 21).any (fun x=>decide (a<f x))=true:=List.any_eq_true.2 ⟨l[i],List.mem_take_iff_getElem.2 ⟨i,by omega,rfl⟩,by simpa using h1⟩
 simp[gr,this]
theorem z83 {α:Type} {f:α→Nat} {a b:Nat} {l:List α} (h: ∀j (hj:j<l.length),j<21→f l[j]≤a):gr f a b l=(decide (20<l.length)||decide (b<sumL f (l.take 21))):=by
 have:(l.take 21).any (fun x=>decide (a<f x))=false:=by
  rw[List.any_eq_false]
  intro x hx
  obtain⟨j,hj,rfl⟩:=List.mem_take_iff_getElem.1 hx
  have:=h j (by omega) (by omega)
  simpa using this
 simp[gr,this]
theorem QK (l:List DRegion) (y:AV) (hy:IsSl IsRegion 2 l y) (m:Mem):Okv tab 131 [y] m (.bool (gr (·.bytes.length) 20000 40000 l)):=by
 obtain⟨z,hz⟩:=regs hy
 have f:=nd hy.z fun j hj=>nd (hz j hj).1 (hz j hj).2.1.z
 have:=hy.max
 refine okz (tT ud) fun s c x v g _=> ?_
 refine xn 4 l.length [3] (fun i v _=>i≤21∧v 3= .int .i64 (sumL (·.bytes.length) (l.take i):Nat)∧sumL (·.bytes.length) (l.take i)≤20000*i∧ ∀j (hj:j<l.length),j<i→l[j].bytes.length≤20000) 0 ?_ fun i v e nz hi hp=> ?_
 ·simp[sumL]
 obtain⟨h2,h5,h6,h4⟩:=hp
 repeat' first|refine ifs ?_ ?_|intro
 all_goals first|omega|(clear f;grind [z82,z83,VN])
theorem XM (l:List (List Int)) (y:AV) (hy:IsSl (IsSl (IsK .u64) 1) 1 l y) (m:Mem):Okv tab 61 [y] m (.bool (gr List.length 420 1000 l)):=by
 have f:=nd hy.z (nd (nthS hy) fun j (hj:j<l.length)=>(hy.nth hj).z)
 have:=hy.max
 refine okz (tT ub) fun s c x v g _=> ?_
 refine xn 4 l.length [3] (fun i v _=>i≤21∧v 3= .int .i64 (sumL List.length (l.take i):Nat)∧sumL List.length (l.take i)≤420*i∧ ∀j (hj:j<l.length),j<i→l[j].length≤420) 0 ?_ fun i v e nz hi hp=> ?_
 ·simp[sumL]
 obtain⟨h2,h5,h6,h4⟩:=hp
 repeat' first|refine ifs ?_ ?_|intro
 all_goals first|omega|(clear f;grind [z82,z83,VN])
theorem jI (a b:DRegion) (x y:AV) (hx:IsRegion a x) (hy:IsRegion b y) (m:Mem):Okv tab 69 [x,y] m (.bool (decide (a=b))):=by
 obtain⟨z,rfl,hz⟩:=hx
 obtain⟨w,rfl,hw⟩:=hy
 have f:=nd (fun m=>IsBytes.toStr m hz) fun m=>IsBytes.toStr m hw
 refine okz (tT xd) fun s c x v g _=> ?_
 repeat' first|refine ifs ?_ ?_|intro
 all_goals clear f;cases a;cases b;grind
theorem VC (a b:List Int) (x y:AV) (hx:IsSl (IsK .u64) 1 a x) (hy:IsSl (IsK .u64) 1 b y) (m:Mem):Okv tab 110 [x,y] m (.bool (decide (a=b))):=by
 have f:=nd hx.z (nd hy.z (nd (nthK hx) (nthK hy)))
 have:=hx.max
 refine okz (tT xR) fun s c x v g _=> ?_
 repeat' first|refine ifs ?_ ?_|intro
 any_goals refine xn 5 a.length [] (fun i _ _=> ∀j,j<i→a[j]? =b[j]?) 0 ?_ fun i v e nz hi hp=> ?_
 repeat' first|refine ifs ?_ ?_|intro
 all_goals clear f;grind [qY]
theorem WD (a b:List DRoutine) (x y:AV) (hx:IsSl IsRoutine 6 a x) (hy:IsSl IsRoutine 6 b y) (m:Mem):Okv tab 71 [x,y] m (.bool (decide (a=b))):=by
 have f:=nd hx.z (nd hy.z (nd (nthH hx) (nthH hy)))
 have:=hx.max
 have hd:=fun x y:DRoutine=>(show x=y↔x.status=y.status∧x.code=y.code∧x.sp=y.sp∧x.defers=y.defers∧x.panics=y.panics∧x.key=y.key by cases x;cases y;simp)
 refine okz (tT xD) fun s c x v g _=> ?_
 repeat' first|refine ifs ?_ ?_|intro
 any_goals refine xn 5 a.length [] (fun i _ _=> ∀j,j<i→a[j]? =b[j]?) 0 ?_ fun i v e nz hi hp=> ?_
 repeat' first|refine ifs ?_ ?_|intro
 all_goals clear f;grind [qY]
theorem XF (a b:List DRegion) (x y:AV) (hx:IsSl IsRegion 2 a x) (hy:IsSl IsRegion 2 b y) (m:Mem):Okv tab 70 [x,y] m (.bool (decide (a=b))):=by
 obtain⟨z,hz⟩:=regs hx
 obtain⟨w,hw⟩:=regs hy
 have f:=nd hx.z (nd hy.z (nd (fun j hj=>(hz j hj).1) (nd (fun j hj=>(hw j hj).1) fun i (hi:i<a.length) (hj:i<b.length) m=>(jI a[i] b[i] _ _ ⟨_,rfl,(hz i hi).2.1⟩ ⟨_,rfl,(hw i hj).2.1⟩ m).eq)))
 have:=hx.max
 refine okz (tT yT) fun s c x v g _=> ?_
 repeat' first|refine ifs ?_ ?_|intro
 any_goals refine xn 5 a.length [] (fun i _ _=> ∀j,j<i→a[j]? =b[j]?) 0 ?_ fun i v e nz hi hp=> ?_
 repeat' first|refine ifs ?_ ?_|intro
 all_goals clear f;grind [qY]
theorem jG (a b:List (List Int)) (x y:AV) (hx:IsSl (IsSl (IsK .u64) 1) 1 a x) (hy:IsSl (IsSl (IsK .u64) 1) 1 b y) (m:Mem):Okv tab 72 [x,y] m (.bool (decide (a=b))):=by
 have f:=nd hx.z (nd hy.z (nd (nthS hx) (nd (nthS hy) fun i (hi:i<a.length) (hj:i<b.length) m=>(VC a[i] b[i] _ _ (hx.nth hi) (hy.nth hj) m).eq)))
 have:=hx.max
 refine okz (tT x9) fun s c x v g _=> ?_
 repeat' first|refine ifs ?_ ?_|intro
 any_goals refine xn 5 a.length [] (fun i _ _=> ∀j,j<i→a[j]? =b[j]?) 0 ?_ fun i v e nz hi hp=> ?_
 repeat' first|refine ifs ?_ ?_|intro
 all_goals clear f;grind [qY]
attribute [go_sem] xP xk vx Z0 u6 xl
theorem WG (l:List DRegion) (y:AV) (hy:IsSl IsRegion 2 l y) (hl:l.length≤900) (hb: ∀r∈l,r.bytes.length≤100000) (m:Mem):Okl IsRegion 2 tab 64 [y] m l:=by
 obtain⟨z,hz⟩:=regs hy
 have f:=nd hy.z fun j hj=>(hz j hj).1
 refine oklz (tT xP) fun s c x v g _=> ?_
 refine xn 4 l.length [3] (fun i v e=>Own IsRegion 2 (v 3) (l.take i) e) 0 ?_ fun i v e nz hi ho=> ?_
 ·exact .nil _
 refine ifs (fun hi=> ?_) fun hi=> ?_
 ·have:=hb _ (w04 hi)
  have hq:=(hz i hi).2.1
  refine o0 hq (by omega) fun y n e' hy he=> ?_
  refine oa (ho.mono he) (show All2 IsRegion [l[i]] [.agg [.int .u64 l[i].base,y]] from⟨⟨_,rfl,hy.sl (by omega)⟩,trivial⟩) (by simp;omega) fun y n e ho=> ?_
  exact nd hi (by rw[w0c hi];exact ho)
 ·obtain rfl:i=l.length:=by omega
  exact fo ho (by simp)
theorem XK (l:List (List Int)) (y:AV) (hy:IsSl (IsSl (IsK .u64) 1) 1 l y) (hl:l.length≤900) (hb: ∀r∈l,r.length≤100000) (m:Mem):Okl (IsSl (IsK .u64) 1) 1 tab 65 [y] m l:=by
 have f:=nd hy.z (nthS hy)
 refine oklz (tT xk) fun s c x v g _=> ?_
 refine xn 4 l.length [3] (fun i v e=>Own (IsSl (IsK .u64) 1) 1 (v 3) (l.take i) e) 0 ?_ fun i v e nz hi ho=> ?_
 ·exact .nil _
 refine ifs (fun hi=> ?_) fun hi=> ?_
 ·have:=hb _ (w04 hi)
  refine o0 (hy.nth hi) (by omega) fun y n e' hy he=> ?_
  refine oa (ho.mono he) (show All2 (IsSl (IsK .u64) 1) [l[i]] [y] from⟨hy.sl (by omega),trivial⟩) (by simp;omega) fun y n e ho=> ?_
  exact nd hi (by rw[w0c hi];exact ho)
 ·obtain rfl:i=l.length:=by omega
  exact fo ho (by simp)
def headed (h:Int) (l:List Int):Bool:=decide (h=l.headD 0)
theorem XT (h:Int) (l:List Int) (y:AV) (hy:IsSl (IsK .u64) 1 l y) (m:Mem):Okv tab 90 [.int .u64 h,y] m (.bool (headed h l)):=by
 have f:=nd hy.z (nthK hy)
 refine okz (tT Z0) fun s c x v g _=> ?_
 repeat' first|refine ifs ?_ ?_|intro
 all_goals clear f;cases l<;>grind [headed]
theorem Ym (h:Int) (l:List Int) (y:AV) (hy:IsSl (IsK .u64) 1 l y) (m:Mem):Okv tab 97 [.int .u64 h,y] m (.bool (headed h l)):=by
 have f:=nd hy.z (nthK hy)
 refine okz (tT vx) fun s c x v g _=> ?_
 repeat' first|refine ifs ?_ ?_|intro
 all_goals clear f;cases l<;>grind [headed]
def great28 (h:DRegion) (l:List DRegion) (r:List DRoutine):Bool:=decide (20<r.length∨20<l.length)||gr (·.bytes.length) 20000 40000 (h::l)
theorem QG (h:DRegion) (l:List DRegion) (r:List DRoutine) (x y z:AV) (hx:IsRegion h x) (hy:IsSl IsRegion 2 l y) (hz:IsSl IsRoutine 6 r z) (m:Mem):Okv tab 60 [x,y,z] m (.bool (great28 h l r)):=by
 obtain⟨w,rfl,hw⟩:=hx
 have f:=nd hw.one (nd hy.z hz.z)
 refine okz (tT u6) fun s c x v g _=> ?_
 repeat' first|refine ifs ?_ ?_|intro
 rotate_right
 ·refine ov (.full (show All2 IsRegion [h] [.agg [.int .u64 h.base,w]] from⟨⟨_,rfl,hw⟩,trivial⟩) _) hy (by simp;omega) fun y n e ho=> ?_
  refine ow (QK _ _ (ho.sl (by simp;omega)) _) fun n=> ?_
  grind [great28]
 all_goals grind [great28]
end Go.Proofs.W
end
section
namespace Go.Proofs.W
open Go.Vs
def great04 (l:List DTyp):Bool:=decide (40<l.length)||l.any fun t=>decide (20<t.fields.length)||t.fields.any fun f=>decide (100<f.name.length)
theorem Ye (xs:List DTyp) (x:AV) (hx:IsSl IsTyp 4 xs x) (m:Mem):Okv tab 132 [x] m (.bool (great04 xs)):=by
 refine ze (tT uC) ?_
 obtain⟨stk,cur,nx,live,fl⟩:=m
 simp only[uC,go_sem,G6,G8,hx.len]
 by_cases h40:(xs.length:Int)>40
 ·simp only[go_sem,G6,G8,h40]
  rw[z5 rfl rfl,z6]
  exact⟨⟨_,rfl⟩,by simp[great04,show 40<xs.length by omega]⟩
 ·simp only[go_sem,h40]
  refine za (α:=Nat) (fun i σ=>(i≤xs.length∧ ∀t∈xs.take i,(decide (20<t.fields.length)||t.fields.any fun f=>decide (100<f.name.length))=false)∧heads [0,3] 0 σ=⟨tmps 42 [(0,x),(3,.int .i64 i)],⟨stk++[cur],[],nx,[]::live,fl⟩⟩) (fun i=>xs.length-i) 0 ?_ ?_
  ·refine⟨⟨w0b _,by simp⟩,?_⟩
   simp only[go_sem,G6,G7]
   rfl
  ·rintro i σ ⟨⟨hi,hs⟩,hσ⟩
   rw[hσ]
   dsimp only at hi hs⊢
   by_cases h:i<xs.length
   ·obtain⟨v,e1,e2⟩:=hx.nth h
    have hany: ∀(hb:(decide (20<xs[i].fields.length)||xs[i].fields.any fun f=>decide (100<f.name.length))=true),great04 xs=true:=fun hb=>by
     have:(xs.any fun t=>decide (20<t.fields.length)||t.fields.any fun f=>decide (100<f.name.length))=true:=List.any_eq_true.2 ⟨xs[i],w04 h,hb⟩
     simp only[great04,this,Bool.or_true]
    by_cases h20:(xs[i].fields.length:Int)>20
    ·simp only[go_sem,G6,G7,G8,w02,h,hx.len,hx.at _ h,e1,e2.len,h20]
     rw[z5 rfl rfl,z6]
     exact⟨⟨_,rfl⟩,by rw[hany (by simp[show 20<xs[i].fields.length by omega])]⟩
    ·simp only[go_sem,G6,G7,G8,w02,h,hx.len,hx.at _ h,e1,e2.len,h20]
     refine za (α:=Nat) (fun k σ=>(k≤xs[i].fields.length∧ ∀f∈xs[i].fields.take k,f.name.length≤100)∧heads [0,3,4] 0 σ=⟨tmps 42 [(0,x),(3,.int .i64 i),(4,.int .i64 k)],⟨stk++[cur],[],nx,[]::live,fl⟩⟩) (fun k=>xs[i].fields.length-k) 0 ?_ ?_
     ·refine⟨⟨w0b _,by simp⟩,?_⟩
      simp only[go_sem,G6,G7]
      rfl
     ·rintro k σ ⟨⟨hk,hks⟩,hσ⟩
      rw[hσ]
      dsimp only at hk hks⊢
      by_cases hkl:k<xs[i].fields.length
      ·have e3:nth v k= .agg [.str xs[i].fields[k].name,.int .i64 xs[i].fields[k].typ]:=e2.nth hkl
       by_cases hn:(xs[i].fields[k].name.length:Int)>100
       ·simp only[go_sem,G6,G7,G8,w02,hx.at _ h,e1,e2.len,hkl,e2.at _ hkl,e3,hn]
        rw[z5 rfl rfl,z6]
        refine⟨⟨_,rfl⟩,?_⟩
        rw[hany]
        have:(xs[i].fields.any fun f=>decide (100<f.name.length))=true:=List.any_eq_true.2 ⟨_,w04 hkl,by simp;omega⟩
        rw[this,Bool.or_true]
       ·simp only[go_sem,G6,G7,G8,w02,hx.at _ h,e1,e2.len,hkl,e2.at _ hkl,e3,hn,zc hkl e2.max]
        exact⟨k+1,by omega,⟨hkl,zB (P:=fun f=>f.name.length≤100) hkl hks (by omega)⟩,rfl⟩
      ·have:k=xs[i].fields.length:=by omega
       subst this
       rw[w06] at hks
       simp only[go_sem,G6,G7,G8,w02,hx.at _ h,e1,e2.len,hkl,zc h hx.max]
       refine⟨i+1,by omega,⟨h,zB (P:=fun t=>(decide (20<t.fields.length)||t.fields.any fun f=>decide (100<f.name.length))=false) h hs ?_⟩,rfl⟩
       have:(xs[i].fields.any fun f=>decide (100<f.name.length))=false:=List.any_eq_false.2 fun f hf=>by simpa using hks f hf
       rw[this,Bool.or_false]
       simp;omega
   ·have:i=xs.length:=by omega
    subst this
    rw[w06] at hs
    simp only[go_sem,G6,G7,G8,w02,h,hx.len]
    rw[z5 rfl rfl,z6]
    refine⟨⟨_,rfl⟩,?_⟩
    have:(xs.any fun t=>decide (20<t.fields.length)||t.fields.any fun f=>decide (100<f.name.length))=false:=List.any_eq_false.2 fun t ht=>by rw[hs t ht];simp
    simp only[great04,this,Bool.or_false]
    congr 1
    simp;omega
def greatF (f:DFunc):Bool:=decide (100<f.name.length)||decide (20<f.slots.length)||decide (210<f.code.length)||decide (210<f.sizes.length)||decide (210<f.lives.length)||f.slots.any fun s=>decide (100<s.name.length)
def sumCode (l:List DFunc):Nat:=(l.map fun f=>f.code.length).sum
theorem z1m (l:List DFunc) (i:Nat) (h:i<l.length):sumCode (l.take (i+1))=sumCode (l.take i)+l[i].code.length:=by
 unfold sumCode
 rw[w0c h,w28,List.sum_append];rfl
theorem UU (l:List DFunc) (i:Nat):sumCode (l.take i)≤sumCode l:=by
 have:sumCode l=sumCode (l.take i)+sumCode (l.drop i):=by
  conv=>lhs;rw[←List.take_append_drop i l]
  unfold sumCode
  rw[w28,List.sum_append]
 omega
def great09 (m:DImage):Bool:=great04 m.types||decide (40<m.texts.length)||decide (40<m.funcs.length)||m.texts.any (fun t=>decide (100<t.length))||m.funcs.any greatF||decide (1000<sumCode m.funcs)
theorem Yb (d:DImage) (x:AV) (hx:IsImage d x) (m:Mem):Okv tab 62 [x] m (.bool (great09 d)):=by
 refine ze (tT uo) ?_
 obtain⟨stk,cur,nx,live,fl⟩:=m
 obtain⟨types,texts,funcs⟩:=d
 obtain⟨v0,v1,v2,rfl,h0,h1,h2⟩:=hx
 dsimp only at h0 h1 h2
 obtain⟨K,hK⟩:=Okv.all (Ye _ _ h0)
 simp only[uo,go_sem,G3,G6,G8,hK]
 have done: ∀{b c:Bool} {stk':List (List Blk)} {cur':List Blk} {k:Nat},b=c→((∃k',(⟨stk,cur,k,live,fl⟩:Mem)=(⟨stk,cur,nx,live,fl⟩:Mem).bump k')∧AV.bool b=AV.bool c):=fun h=>⟨⟨_,rfl⟩,by rw[h]⟩
 cases hg:great04 types
 case true=>
  simp only[go_sem,G6,G8]
  rw[z5 rfl rfl,z6]
  exact⟨⟨_,rfl⟩,by simp[great09,hg]⟩
 by_cases ht:(texts.length:Int)>40
 ·simp only[go_sem,G6,G8,h1.len,ht]
  rw[z5 rfl rfl,z6]
  exact⟨⟨_,rfl⟩,by simp[great09,show 40<texts.length by omega]⟩
 by_cases hf:(funcs.length:Int)>40
 ·simp only[go_sem,G6,G8,h1.len,h2.len,ht,hf]
  rw[z5 rfl rfl,z6]
  exact⟨⟨_,rfl⟩,by simp[great09,show 40<funcs.length by omega]⟩
 simp only[go_sem,G6,G8,h1.len,h2.len,ht,hf]
 refine za (α:=Nat) (fun i σ=>(i≤texts.length∧ ∀t∈texts.take i,t.length≤100)∧heads [1,3] 1 σ=⟨tmps 101 [(1,.ptr (stk++[cur]).length 0 nx 0),(3,.int .i64 i)],⟨stk++[cur],[⟨nx,[v0,v1,v2]⟩],K ⟨stk++[cur],[⟨nx,[v0,v1,v2]⟩],nx+1,[]::live,fl⟩,[]::live,fl⟩⟩) (fun i=>texts.length-i) 0 ?_ ?_
 ·refine⟨⟨w0b _,by simp⟩,?_⟩
  simp only[go_sem,G6,G7]
  rfl
 ·rintro i σ ⟨⟨hi,hs⟩,hσ⟩
  rw[hσ]
  dsimp only at hi hs⊢
  by_cases h:i<texts.length
  ·have e1:nth v1 i= .str texts[i]:=h1.nth h
   by_cases hn:(texts[i].length:Int)>100
   ·simp only[go_sem,G6,G7,G8,w02,h,h1.len,h1.at _ h,e1,hn]
    rw[z5 rfl rfl,z6]
    have:texts.any (fun t=>decide (100<t.length))=true:=List.any_eq_true.2 ⟨_,w04 h,by simp;omega⟩
    exact⟨⟨_,rfl⟩,by simp only[great09,this,Bool.or_true,Bool.true_or]⟩
   ·simp only[go_sem,G6,G7,G8,w02,h,h1.len,h1.at _ h,e1,hn,zc h h1.max]
    exact⟨i+1,by omega,⟨h,zB (P:=fun t=>t.length≤100) h hs (by omega)⟩,rfl⟩
  ·have:i=texts.length:=by omega
   subst this
   rw[w06] at hs
   have htx:texts.any (fun t=>decide (100<t.length))=false:=List.any_eq_false.2 fun t ht=>by simpa using hs t ht
   clear hσ σ
   simp only[go_sem,G6,G7,G8,w02,h,h1.len]
   refine za (α:=Nat×Nat) (fun z σ=>(z.1≤funcs.length∧(∀f∈funcs.take z.1,greatF f=false)∧sumCode (funcs.take z.1)≤1000)∧heads [1,4,5] 1 σ=⟨tmps 101 [(1,.ptr (stk++[cur]).length 0 nx 0),(4,.int .i64 (sumCode (funcs.take z.1):Nat)),(5,.int .i64 z.1)],⟨stk++[cur],[⟨nx,[v0,v1,v2]⟩],z.2,[]::live,fl⟩⟩) (fun z=>funcs.length-z.1) (0,K ⟨stk++[cur],[⟨nx,[v0,v1,v2]⟩],nx+1,[]::live,fl⟩) ?_ ?_
   ·refine⟨⟨w0b _,by simp,by simp[sumCode]⟩,?_⟩
    simp only[go_sem,G6,G7,sumCode]
    rfl
   ·rintro⟨i,z⟩ σ ⟨⟨hi,hs,hsum⟩,hσ⟩
    rw[hσ]
    dsimp only at hi hs hsum⊢
    by_cases h:i<funcs.length
    ·obtain⟨w0,w1,w2,w3,e1,q0,q1,q2,q3⟩:=h2.nth h
     have hst:=z1m funcs i h
     have hany: ∀(hb:greatF funcs[i]=true),great09 ⟨types,texts,funcs⟩=true:=fun hb=>by
      have:funcs.any greatF=true:=List.any_eq_true.2 ⟨_,w04 h,hb⟩
      simp only[great09,this,Bool.or_true,Bool.true_or]
     have hcm:=q1.max
     simp only[go_sem,G3,G6,G7,G8,w02,h,h2.len,h2.at _ h,e1,q0.one,q1.one,q2.one,q3.one,q1.len]
     by_cases c1:(funcs[i].name.length:Int)>100
     ·simp only[go_sem,G6,G8,c1]
      rw[z5 rfl rfl,z6]
      exact⟨⟨_,rfl⟩,by rw[hany (by simp[greatF,show 100<funcs[i].name.length by omega])]⟩
     simp only[go_sem,G6,G8,c1,q0.len]
     by_cases c2:(funcs[i].slots.length:Int)>20
     ·simp only[go_sem,G6,G8,c2]
      rw[z5 rfl rfl,z6]
      exact⟨⟨_,rfl⟩,by rw[hany (by simp[greatF,show 20<funcs[i].slots.length by omega])]⟩
     simp only[go_sem,G6,G8,c2,q1.len]
     by_cases c3:(funcs[i].code.length:Int)>210
     ·simp only[go_sem,G6,G8,c3]
      rw[z5 rfl rfl,z6]
      exact⟨⟨_,rfl⟩,by rw[hany (by simp[greatF,show 210<funcs[i].code.length by omega])]⟩
     have ew:IntKind.i64.wrap ((sumCode (funcs.take i):Int)+funcs[i].code.length)=((sumCode (funcs.take (i+1)):Nat):Int):=by
      rw[z7 (by omega) (by omega)];omega
     simp only[go_sem,G6,G8,c3,q2.len,ew]
     by_cases c4:(funcs[i].sizes.length:Int)>210
     ·simp only[go_sem,G6,G8,c4]
      rw[z5 rfl rfl,z6]
      exact⟨⟨_,rfl⟩,by rw[hany (by simp[greatF,show 210<funcs[i].sizes.length by omega])]⟩
     simp only[go_sem,G6,G8,c4,q3.len]
     by_cases c5:(funcs[i].lives.length:Int)>210
     ·simp only[go_sem,G6,G8,c5]
      rw[z5 rfl rfl,z6]
      exact⟨⟨_,rfl⟩,by rw[hany (by simp[greatF,show 210<funcs[i].lives.length by omega])]⟩
     simp only[go_sem,G6,G8,c5]
     by_cases c6:(sumCode (funcs.take (i+1)):Int)>1000
     ·simp only[go_sem,G6,G8,c6]
      rw[z5 rfl rfl,z6]
      have:=UU funcs (i+1)
      exact⟨⟨_,rfl⟩,by simp[great09,show 1000<sumCode funcs by omega]⟩
     simp only[go_sem,G3,c6]
     refine za (α:=Nat) (fun k σ=>(k≤funcs[i].slots.length∧ ∀s∈funcs[i].slots.take k,s.name.length≤100)∧heads [1,4,5,6,7] 2 σ=⟨tmps 101 [(1,.ptr (stk++[cur]).length 0 nx 0),(4,.int .i64 (sumCode (funcs.take (i+1)):Nat)),(5,.int .i64 i),(6,.ptr (stk++[cur]).length 1 z 0),(7,.int .i64 k)],
      ⟨stk++[cur],[⟨nx,[v0,v1,v2]⟩,⟨z,[.str funcs[i].name,.int .i64 funcs[i].params,.int .i64 funcs[i].result,w0,w1,w2,w3]⟩],z+1,[]::live,fl⟩⟩) (fun k=>funcs[i].slots.length-k) 0 ?_ ?_
     ·refine⟨⟨w0b _,by simp⟩,?_⟩
      simp only[go_sem,G6,G7]
      rfl
     ·rintro k σ ⟨⟨hk,hks⟩,hσ⟩
      rw[hσ]
      dsimp only at hk hks⊢
      by_cases hkl:k<funcs[i].slots.length
      ·have e3:nth w0 k= .agg [.str funcs[i].slots[k].name,.int .i64 funcs[i].slots[k].typ]:=q0.nth hkl
       by_cases hn:(funcs[i].slots[k].name.length:Int)>100
       ·simp only[go_sem,G6,G7,G8,w02,q0.len,hkl,q0.at _ hkl,e3,hn]
        rw[z5 rfl rfl,z6]
        refine⟨⟨_,rfl⟩,?_⟩
        rw[hany]
        have:(funcs[i].slots.any fun s=>decide (100<s.name.length))=true:=List.any_eq_true.2 ⟨_,w04 hkl,by simp;omega⟩
        simp only[greatF,this,Bool.or_true]
       ·simp only[go_sem,G6,G7,G8,w02,q0.len,hkl,q0.at _ hkl,e3,hn,zc hkl q0.max]
        exact⟨k+1,by omega,⟨hkl,zB (P:=fun f=>f.name.length≤100) hkl hks (by omega)⟩,rfl⟩
      ·have:k=funcs[i].slots.length:=by omega
       subst this
       rw[w06] at hks
       simp only[go_sem,G6,G7,G8,w02,q0.len,hkl,zc h h2.max]
       refine⟨(i+1,_),by dsimp only;omega,⟨h,zB (P:=fun f=>greatF f=false) h hs ?_,by dsimp only;omega⟩,rfl⟩
       have:(funcs[i].slots.any fun s=>decide (100<s.name.length))=false:=List.any_eq_false.2 fun f hf=>by simpa using hks f hf
       simp only[greatF,this,Bool.or_false]
       simp;omega
    ·have:i=funcs.length:=by omega
     subst this
     rw[w06] at hs hsum
     simp only[go_sem,G6,G7,G8,w02,h,h2.len]
     rw[z5 rfl rfl,z6]
     refine⟨⟨_,rfl⟩,?_⟩
     have:funcs.any greatF=false:=List.any_eq_false.2 fun f hf=>by rw[hs f hf];simp
     simp only[great09,hg,htx,this,Bool.or_false,Bool.false_or]
     congr 1
     simp;omega
def shp (op:Int):List UInt8:=
 if op=1 then [119,110,45] else if op=2 then [119,116,45] else if op=3 then [119,98,45] else if op=4∨op=15 then [119,45,45]
 else if op=5∨op=12∨op=16∨op=18∨op=21∨op=33 then [119,114,45]
 else if op=6∨op=7∨op=8∨op=9∨op=10∨op=11∨op=19 then [119,114,114]
 else if op=13 then [119,114,102] else if op=14 then [114,102,114] else if op=17 then [114,114,45] else if op=20 then [114,114,114]
 else if op=22 then [105,45,45] else if op=23 then [114,105,45] else if op=24∨op=28∨op=32 then [114,45,45] else if op=25 then [103,99,45]
 else if op=26∨op=27 then [99,45,45] else if op=29 then [119,119,45] else if op=30∨op=31 then [45,45,45] else if op=34 then [101,45,45] else []
theorem UX (op:Int) (m:Mem):Okv tab 279 [.int .u8 op] m (.str (shp op)):=by
 refine ze (tT uw) ?_
 obtain⟨stk,cur,nx,live,fl⟩:=m
 simp only[uw,go_sem,G6,G8]
 repeat' (((first|refine uN ?_ ?_|refine yY ?_ ?_|refine yZ ?_ ?_|refine yW ?_ ?_|refine yX ?_ ?_)<;>intro hq)<;>simp only[go_sem,G6,G8,hq])
 all_goals
  rw[z5 rfl rfl,z6]
  refine⟨⟨_,rfl⟩,?_⟩
  simp only[beq_iff_eq,beq_eq_false_iff_ne] at*
  unfold shp
  first|(subst op;rfl)|(simp[*];done)
theorem z1U {tab:Nat→Option AFunc} {f:Nat} {args:List AV} {m m':Mem} {v:AV} {d:Option Nat} {l:List AOper} {ρ:List AV} {k:Kont} (h:CALL tab f args m=some (v,m')) (q:Xs tab l (setDst ρ d v) m' k):Xv tab (CALL tab f args m) d l ρ k:=by
 rw[h,vW];exact q
def U (lo hi:Int) (r w:Bool):List AV:=[.int .i64 lo,.int .i64 hi,.bool r,.bool w]
theorem YB (j:Nat) (l:List (List Nat)):sink j [] l=l:=rfl
theorem zar (m:Mem):Okv tab 373 [] m (.agg (U 0 15 true false)):=by
 refine ze (tT Ww) ?_
 obtain⟨stk,cur,nx,live,fl⟩:=m
 simp only[Ww,go_sem,reduceCtorEq,G3,G9,G8,evBuild]
 rw[z5 rfl rfl,z6]
 exact⟨⟨_,rfl⟩,rfl⟩
theorem z8N (m:Mem):Okv tab 370 [] m (.agg (U 0 15 false true)):=by
 refine ze (tT X1) ?_
 obtain⟨stk,cur,nx,live,fl⟩:=m
 simp only[X1,go_sem,reduceCtorEq,G3,G9,G8,evBuild]
 rw[z5 rfl rfl,z6]
 exact⟨⟨_,rfl⟩,rfl⟩
theorem z8O (m:Mem):Okv tab 371 [] m (.agg (U (-9223372036854775808) 9223372036854775807 false false)):=by
 refine ze (tT X2) ?_
 obtain⟨stk,cur,nx,live,fl⟩:=m
 simp only[X2,go_sem,reduceCtorEq,G3,G9,G8,evBuild]
 rw[z5 rfl rfl,z6]
 exact⟨⟨_,rfl⟩,rfl⟩
theorem UW (n:Int) (hn:0≤n∧n≤1000) (m:Mem):Okv tab 372 [.int .i64 n] m (.agg (U 0 (n-1) false false)):=by
 refine ze (tT X4) ?_
 obtain⟨stk,cur,nx,live,fl⟩:=m
 simp only[X4,go_sem,reduceCtorEq,G3,G6,G9,G8,evBuild,z7 (n:=n-1) (by omega) (by omega)]
 rw[z5 rfl rfl,z6]
 exact⟨⟨_,rfl⟩,rfl⟩
theorem z3D (a b:Int) (c d:Bool) (stk:List (List Blk)) (st st2 nx fl:Nat) (live:List (List Nat)) (hf:fl≤stk.length):
  CALL tab 369 [.list 4 .full [.agg (U a b c d)],.ptr stk.length 0 st 0,.ptr stk.length 1 st2 0] ⟨stk,[⟨st,U 0 0 false false++U 0 0 false false++U 0 0 false false⟩,⟨st2,[.int .i64 0]⟩],nx,live,fl⟩=
   some (.tup [],⟨stk,[⟨st,U a b c d++U 0 0 false false++U 0 0 false false⟩,⟨st2,[.int .i64 1]⟩],callNx tab 369 [.list 4 .full [.agg (U a b c d)],.ptr stk.length 0 st 0,.ptr stk.length 1 st2 0] ⟨stk,[⟨st,U 0 0 false false++U 0 0 false false++U 0 0 false false⟩,⟨st2,[.int .i64 0]⟩],nx,live,fl⟩,live,fl⟩):=by
 suffices h: ∃k,CALL tab 369 [.list 4 .full [.agg (U a b c d)],.ptr stk.length 0 st 0,.ptr stk.length 1 st2 0] ⟨stk,[⟨st,U 0 0 false false++U 0 0 false false++U 0 0 false false⟩,⟨st2,[.int .i64 0]⟩],nx,live,fl⟩=some (.tup [],⟨stk,[⟨st,U a b c d++U 0 0 false false++U 0 0 false false⟩,⟨st2,[.int .i64 1]⟩],k,live,fl⟩) by
  obtain⟨k,h⟩:=h
  rw[h];unfold callNx;rw[h]
 suffices h:Does tab 369 [.list 4 .full [.agg (U a b c d)],.ptr stk.length 0 st 0,.ptr stk.length 1 st2 0] ⟨stk,[⟨st,U 0 0 false false++U 0 0 false false++U 0 0 false false⟩,⟨st2,[.int .i64 0]⟩],nx,live,fl⟩ fun v m'=> ∃k,v= .tup []∧m'=⟨stk,[⟨st,U a b c d++U 0 0 false false++U 0 0 false false⟩,⟨st2,[.int .i64 1]⟩],k,live,fl⟩ by
  obtain⟨x,h1,k,h2,h3⟩:=h
  grind
 refine yq (tT xX) ?_ (Nat.le_of_ble_eq_true rfl)
 have hne: ∀z:List Blk,(stk.length==(stk++[z]).length)=false:=fun z=>by simp
 have hg: ∀z:List Blk,(stk++[z]).getD stk.length []=z:=fun z=>by simp
 have hmod: ∀z f,(stk++[z]).modify stk.length f=stk++[f z]:=fun z f=>by
  rw[w37 (by simp)];simp
 simp only[xX,go_sem,reduceCtorEq,G3,G4,G6,G8,hne,hg,evSliceA,evCopy0,AV.asArr,bound,U,zd,w27,List.flatMap_nil,hf,hmod,w52,w48,Nat.zero_mul,G2,YB,show min 1 3=1 from rfl,Nat.succ_ne_zero]
 rw[yH rfl rfl,z6]
 simp
theorem z3C (a b a2 b2:Int) (c d c2 d2:Bool) (stk:List (List Blk)) (st st2 nx fl:Nat) (live:List (List Nat)) (hf:fl≤stk.length):
  CALL tab 369 [.list 4 .full [.agg (U a b c d),.agg (U a2 b2 c2 d2)],.ptr stk.length 0 st 0,.ptr stk.length 1 st2 0] ⟨stk,[⟨st,U 0 0 false false++U 0 0 false false++U 0 0 false false⟩,⟨st2,[.int .i64 0]⟩],nx,live,fl⟩=
   some (.tup [],⟨stk,[⟨st,U a b c d++U a2 b2 c2 d2++U 0 0 false false⟩,⟨st2,[.int .i64 2]⟩],callNx tab 369 [.list 4 .full [.agg (U a b c d),.agg (U a2 b2 c2 d2)],.ptr stk.length 0 st 0,.ptr stk.length 1 st2 0] ⟨stk,[⟨st,U 0 0 false false++U 0 0 false false++U 0 0 false false⟩,⟨st2,[.int .i64 0]⟩],nx,live,fl⟩,live,fl⟩):=by
 suffices h: ∃k,CALL tab 369 [.list 4 .full [.agg (U a b c d),.agg (U a2 b2 c2 d2)],.ptr stk.length 0 st 0,.ptr stk.length 1 st2 0] ⟨stk,[⟨st,U 0 0 false false++U 0 0 false false++U 0 0 false false⟩,⟨st2,[.int .i64 0]⟩],nx,live,fl⟩=some (.tup [],⟨stk,[⟨st,U a b c d++U a2 b2 c2 d2++U 0 0 false false⟩,⟨st2,[.int .i64 2]⟩],k,live,fl⟩) by
  obtain⟨k,h⟩:=h
  rw[h];unfold callNx;rw[h]
 suffices h:Does tab 369 [.list 4 .full [.agg (U a b c d),.agg (U a2 b2 c2 d2)],.ptr stk.length 0 st 0,.ptr stk.length 1 st2 0] ⟨stk,[⟨st,U 0 0 false false++U 0 0 false false++U 0 0 false false⟩,⟨st2,[.int .i64 0]⟩],nx,live,fl⟩ fun v m'=> ∃k,v= .tup []∧m'=⟨stk,[⟨st,U a b c d++U a2 b2 c2 d2++U 0 0 false false⟩,⟨st2,[.int .i64 2]⟩],k,live,fl⟩ by
  obtain⟨x,h1,k,h2,h3⟩:=h
  grind
 refine yq (tT xX) ?_ (Nat.le_of_ble_eq_true rfl)
 have hne: ∀z:List Blk,(stk.length==(stk++[z]).length)=false:=fun z=>by simp
 have hg: ∀z:List Blk,(stk++[z]).getD stk.length []=z:=fun z=>by simp
 have hmod: ∀z f,(stk++[z]).modify stk.length f=stk++[f z]:=fun z f=>by
  rw[w37 (by simp)];simp
 simp only[xX,go_sem,reduceCtorEq,G3,G4,G6,G8,hne,hg,evSliceA,evCopy0,AV.asArr,bound,U,zd,w27,List.flatMap_nil,hf,hmod,w52,w48,Nat.zero_mul,G2,YB,show min 2 3=2 from rfl,Nat.succ_ne_zero]
 rw[yH rfl rfl,z6]
 simp
theorem z3B (a b a2 b2 a3 b3:Int) (c d c2 d2 c3 d3:Bool) (stk:List (List Blk)) (st st2 nx fl:Nat) (live:List (List Nat)) (hf:fl≤stk.length):
  CALL tab 369 [.list 4 .full [.agg (U a b c d),.agg (U a2 b2 c2 d2),.agg (U a3 b3 c3 d3)],.ptr stk.length 0 st 0,.ptr stk.length 1 st2 0] ⟨stk,[⟨st,U 0 0 false false++U 0 0 false false++U 0 0 false false⟩,⟨st2,[.int .i64 0]⟩],nx,live,fl⟩=
   some (.tup [],⟨stk,[⟨st,U a b c d++U a2 b2 c2 d2++U a3 b3 c3 d3⟩,⟨st2,[.int .i64 3]⟩],callNx tab 369 [.list 4 .full [.agg (U a b c d),.agg (U a2 b2 c2 d2),.agg (U a3 b3 c3 d3)],.ptr stk.length 0 st 0,.ptr stk.length 1 st2 0] ⟨stk,[⟨st,U 0 0 false false++U 0 0 false false++U 0 0 false false⟩,⟨st2,[.int .i64 0]⟩],nx,live,fl⟩,live,fl⟩):=by
 suffices h: ∃k,CALL tab 369 [.list 4 .full [.agg (U a b c d),.agg (U a2 b2 c2 d2),.agg (U a3 b3 c3 d3)],.ptr stk.length 0 st 0,.ptr stk.length 1 st2 0] ⟨stk,[⟨st,U 0 0 false false++U 0 0 false false++U 0 0 false false⟩,⟨st2,[.int .i64 0]⟩],nx,live,fl⟩=some (.tup [],⟨stk,[⟨st,U a b c d++U a2 b2 c2 d2++U a3 b3 c3 d3⟩,⟨st2,[.int .i64 3]⟩],k,live,fl⟩) by
  obtain⟨k,h⟩:=h
  rw[h];unfold callNx;rw[h]
 suffices h:Does tab 369 [.list 4 .full [.agg (U a b c d),.agg (U a2 b2 c2 d2),.agg (U a3 b3 c3 d3)],.ptr stk.length 0 st 0,.ptr stk.length 1 st2 0] ⟨stk,[⟨st,U 0 0 false false++U 0 0 false false++U 0 0 false false⟩,⟨st2,[.int .i64 0]⟩],nx,live,fl⟩ fun v m'=> ∃k,v= .tup []∧m'=⟨stk,[⟨st,U a b c d++U a2 b2 c2 d2++U a3 b3 c3 d3⟩,⟨st2,[.int .i64 3]⟩],k,live,fl⟩ by
  obtain⟨x,h1,k,h2,h3⟩:=h
  grind
 refine yq (tT xX) ?_ (Nat.le_of_ble_eq_true rfl)
 have hne: ∀z:List Blk,(stk.length==(stk++[z]).length)=false:=fun z=>by simp
 have hg: ∀z:List Blk,(stk++[z]).getD stk.length []=z:=fun z=>by simp
 have hmod: ∀z f,(stk++[z]).modify stk.length f=stk++[f z]:=fun z f=>by
  rw[w37 (by simp)];simp
 simp only[xX,go_sem,reduceCtorEq,G3,G4,G6,G8,hne,hg,evSliceA,evCopy0,AV.asArr,bound,U,zd,w27,List.flatMap_nil,hf,hmod,w52,w48,Nat.zero_mul,G2,YB,show min 3 3=3 from rfl,Nat.succ_ne_zero]
 rw[yH rfl rfl,z6]
 simp
def lo (c:UInt8):Int:=if c=110 then-9223372036854775808 else if c=103∨c=101 then-1 else 0
def hi (c:UInt8):Int:=if c=110 then 9223372036854775807 else if c=45 then 0 else if c=116∨c=99 then 31 else if c=98 then 1 else if c=102 then 7 else if c=105 then 199 else 15
def rd (c:UInt8):Bool:=c==114||c==101
def wt (c:UInt8):Bool:=c==119||c==103
def useOf (c:UInt8):List AV:=U (lo c) (hi c) (rd c) (wt c)
def cnt (s:List UInt8):Int:=((s.filter fun c=>c !=45).length:Nat)
noncomputable def shapeOf (op:Int):AV:=
 if shp op=[] then .tup [.agg (U 0 0 false false++U 0 0 false false++U 0 0 false false),.int .i64 (-1)] else .tup [.agg ((shp op).flatMap useOf),.int .i64 (cnt (shp op))]
theorem Yq (op:Int) (m:Mem) (hf:m.floor≤m.stk.length+1):Okv tab 329 [.int .u8 op] m (shapeOf op):=by
 refine ze (tT X3) ?_
 obtain⟨stk,cur,nx,live,fl⟩:=m
 dsimp only at hf
 have hf':fl≤(stk++[cur]).length:=by simp;omega
 have i0:idx (.int .i64 0) 3=some 0:=rfl
 have i1:idx (.int .i64 1) 3=some 1:=rfl
 have i2:idx (.int .i64 2) 3=some 2:=rfl
 simp only[X3,go_sem,reduceCtorEq,G6,G8]
 repeat' first|(((first|refine uN ?_ ?_|refine yY ?_ ?_|refine yZ ?_ ?_|refine yW ?_ ?_|refine yX ?_ ?_)<;>intro hq)<;>simp only[go_sem,reduceCtorEq,G3,G6,G9,G8,hq,bne_self_eq_false,H8,YB,w52,w48])|((first|(refine(zar _).xv fun n=> ?_)|(refine(z8N _).xv fun n=> ?_)|(refine(z8O _).xv fun n=> ?_)|(refine(UW 32 (by decide) _).xv fun n=> ?_)|(refine(UW 2 (by decide) _).xv fun n=> ?_)|(refine(UW 8 (by decide) _).xv fun n=> ?_)|(refine(UW 200 (by decide) _).xv fun n=> ?_)|(refine z1U (z3D _ _ _ _ _ _ _ _ _ _ hf') ?_)|(refine z1U (z3C _ _ _ _ _ _ _ _ _ _ _ _ _ _ hf') ?_)|(refine z1U (z3B _ _ _ _ _ _ _ _ _ _ _ _ _ _ _ _ _ _ hf') ?_))<;>simp only[go_sem,reduceCtorEq,G3,G6,G9,G8,U,bne_self_eq_false,H8,evIaddrA,i0,i1,i2,G2,YB,w52,w48])
 all_goals
  simp only[beq_iff_eq,beq_eq_false_iff_ne] at*
  rw[z5 rfl rfl,z6]
  refine⟨⟨_,rfl⟩,?_⟩
  first|(subst op;rfl)|(have hs:shp op=[]:=(by unfold shp;simp[*]);unfold shapeOf;rw[if_pos hs];first|done|rfl)
def shapes:List (List UInt8):=[[119,110,45],[119,116,45],[119,98,45],[119,45,45],[119,114,45],[119,114,114],[119,114,102],[114,102,114],[114,114,45],[114,114,114],[105,45,45],[114,105,45],[114,45,45],[103,99,45],[99,45,45],[119,119,45],[45,45,45],[101,45,45],[]]
theorem z58 (op:Int):shp op∈shapes:=by
 by_cases h:0≤op∧op≤34
 ·have hall: ∀k:Fin 35,shp (k.val:Int)∈shapes:=by decide+kernel
  have:=hall ⟨op.toNat,by omega⟩
  grind
 ·have:shp op=[]:=by
   unfold shp
   repeat rw[if_neg (by omega)]
  rw[this];decide
theorem z59 (op:Int):shp op=[]∨ ∃a b c,shp op=[a,b,c]:=by
 have h: ∀s∈shapes,s=[]∨s.length=3:=by decide
 rcases h _ (z58 op) with h|h
 ·exact .inl h
 ·right
  match hs:shp op,h with
  | [a,b,c],_=>exact⟨a,b,c,rfl⟩
def letterOk (c:UInt8):Prop:=c=45∨c=119∨c=114∨c=103∨c=101∨c=110∨c=116∨c=98∨c=102∨c=105∨c=99
instance (c:UInt8):Decidable (letterOk c):=by unfold letterOk;exact inferInstance
def lettersB (s:List UInt8):Bool:=match s with
 | [a,b,c]=>decide (letterOk a∧letterOk b∧letterOk c∧(cnt [a,b,c]≤0↔a=45)∧(cnt [a,b,c]≤1↔b=45)∧(cnt [a,b,c]≤2↔c=45))
 |_=>true
theorem Um {op:Int} {a b c:UInt8} (h:shp op=[a,b,c]):letterOk a∧letterOk b∧letterOk c∧(cnt [a,b,c]≤0↔a=45)∧(cnt [a,b,c]≤1↔b=45)∧(cnt [a,b,c]≤2↔c=45):=by
 have hall: ∀s∈shapes,lettersB s=true:=by decide
 have:=hall _ (z58 op)
 rw[h] at this
 exact of_decide_eq_true this
def opn (x:DInstr):Nat→Int
 |0=>x.a
 |1=>x.b
 |_=>x.c
def fitsK (c:UInt8) (n:Int):Prop:=lo c≤n∧n≤hi c
def InstrP (x:DInstr):Prop:= ∃a b c,shp x.op=[a,b,c]∧fitsK a x.a∧fitsK b x.b∧fitsK c x.c
noncomputable def err06 (x:DInstr):Int:=if pb (InstrP x) then 0 else 8
theorem xJ {x:DInstr} (h: ¬InstrP x):err06 x=8:=by unfold err06;rw[zk h];rfl
theorem jP {x:DInstr} (h:InstrP x):err06 x=0:=by unfold err06;rw[yn h];rfl
theorem VJ (c:UInt8) (hc:letterOk c) (n:Int) (hn:in64 n) (m:Mem):Okv tab 325 [.int .u8 c.toNat,.int .i64 n] m (.bool (pb (fitsK c n))):=by
 refine ze (tT tp) ?_
 obtain⟨stk,cur,nx,live,fl⟩:=m
 have hk: ∀k:UInt8,(((c.toNat:Int))=(k.toNat:Int))↔c=k:=fun k=>by
  rw[Int.ofNat_inj,UInt8.toNat_inj]
 have e45:=hk 45
 have e119:=hk 119
 have e114:=hk 114
 have e103:=hk 103
 have e101:=hk 101
 have e116:=hk 116
 have e99:=hk 99
 have e98:=hk 98
 have e102:=hk 102
 have e105:=hk 105
 simp only[tp,go_sem,G3,G6,G8]
 repeat' (((first|refine uN ?_ ?_|refine yY ?_ ?_|refine yZ ?_ ?_|refine yW ?_ ?_|refine yX ?_ ?_)<;>intro hq)<;>simp only[go_sem,G6,G8,hq])
 all_goals
  rw[z5 rfl rfl,z6]
  refine⟨⟨_,rfl⟩,congrArg AV.bool (Za ?_)⟩
  unfold in64 at hn
  simp only[decide_eq_true_eq,decide_eq_false_iff_not,beq_iff_eq,beq_eq_false_iff_ne,ne_eq] at*
  unfold letterOk at hc
  rcases hc with rfl|rfl|rfl|rfl|rfl|rfl|rfl|rfl|rfl|rfl|rfl<;>first|(exfalso;simp_all;done)|(unfold fitsK;simp only[lo,hi];simp;omega)
theorem qr (x:DInstr) (m:Mem):Okv tab 280 [.agg [.int .u8 x.op,.int .i64 x.a,.int .i64 x.b,.int .i64 x.c]] m (.agg [.int .i64 x.a,.int .i64 x.b,.int .i64 x.c]):=by
 refine ze (tT xU) ?_
 obtain⟨stk,cur,nx,live,fl⟩:=m
 simp only[xU,go_sem,G3,G6,G9,G8,evBuild]
 rw[z5 rfl rfl,z6]
 simp
theorem jJ (x:DInstr) (m:Mem):Okv tab 330 [.agg [.int .u8 x.op,.int .i64 x.a,.int .i64 x.b,.int .i64 x.c]] m (.agg [.int .i64 x.a,.int .i64 x.b,.int .i64 x.c]):=by
 refine ze (tT jT) ?_
 obtain⟨stk,cur,nx,live,fl⟩:=m
 simp only[jT,go_sem,G3,G6,G9,G8,evBuild]
 rw[z5 rfl rfl,z6]
 simp
theorem i0:idx (.int .i64 0) 3=some 0:=rfl
theorem i1:idx (.int .i64 1) 3=some 1:=rfl
theorem i2:idx (.int .i64 2) 3=some 2:=rfl
theorem w01:IntKind.i64.wrap (0+1)=1:=rfl
theorem w12:IntKind.i64.wrap (1+1)=2:=rfl
theorem w23:IntKind.i64.wrap (2+1)=3:=rfl
theorem l03:((0:Int)<3)=True:=eq_true (by decide)
theorem l13:((1:Int)<3)=True:=eq_true (by decide)
theorem l23:((2:Int)<3)=True:=eq_true (by decide)
theorem l33:((3:Int)<3)=False:=eq_false (by decide)
theorem xI {x:DInstr} {a b c:UInt8} (h:shp x.op=[a,b,c]):InstrP x↔fitsK a x.a∧fitsK b x.b∧fitsK c x.c:=by
 unfold InstrP
 grind
def WfI (x:DInstr):Prop:=in64 x.a∧in64 x.b∧in64 x.c
theorem XQ (x:DInstr) (hw:WfI x) (m:Mem):Okv tab 278 [.agg [.int .u8 x.op,.int .i64 x.a,.int .i64 x.b,.int .i64 x.c]] m (.int .i64 (err06 x)):=by
 refine ze (tT uy) ?_
 obtain⟨stk,cur,nx,live,fl⟩:=m
 simp only[uy,go_sem,G3,G6,G8]
 rcases z59 x.op with hs|⟨a,b,c,hs⟩
 ·simp only[go_sem,G3,G6,G8,(UX x.op _).eq,(qr x _).eq,hs,show((((0:Nat)):Int) !=3)=true from rfl]
  rw[z5 rfl rfl,z6]
  exact⟨⟨_,rfl⟩,by rw[xJ];rintro⟨a,b,c,h,_⟩;rw[hs] at h;cases h⟩
 ·obtain⟨ha,hb,hc,_⟩:=Um hs
  simp only[go_sem,G3,G6,G8,(UX x.op _).eq,(qr x _).eq,hs,show((((3:Nat)):Int) !=3)=false from rfl]
  rw[yG]
  simp only[go_sem,G3,G6,G7,G8,l03,i0,evIaddrA,Nat.zero_mul]
  by_cases hf1:fitsK a x.a
  case neg=>
   simp only[go_sem,G6,G8,(VJ a ha x.a hw.1 _).eq,zk hf1]
   rw[z5 rfl rfl,z6]
   exact⟨⟨_,rfl⟩,by rw[xJ fun h'=>hf1 ((xI hs).1 h').1]⟩
  simp only[go_sem,G6,G8,(VJ a ha x.a hw.1 _).eq,yn hf1,w01]
  rw[yG]
  simp only[go_sem,G3,G6,G7,G8,l13,i1,evIaddrA,w0d]
  by_cases hf2:fitsK b x.b
  case neg=>
   simp only[go_sem,G6,G8,(VJ b hb x.b hw.2.1 _).eq,zk hf2]
   rw[z5 rfl rfl,z6]
   exact⟨⟨_,rfl⟩,by rw[xJ fun h'=>hf2 ((xI hs).1 h').2.1]⟩
  simp only[go_sem,G6,G8,(VJ b hb x.b hw.2.1 _).eq,yn hf2,w12]
  rw[yG]
  simp only[go_sem,G3,G6,G7,G8,l23,i2,evIaddrA,w0d]
  by_cases hf3:fitsK c x.c
  case neg=>
   simp only[go_sem,G6,G8,(VJ c hc x.c hw.2.2 _).eq,zk hf3]
   rw[z5 rfl rfl,z6]
   exact⟨⟨_,rfl⟩,by rw[xJ fun h'=>hf3 ((xI hs).1 h').2.2]⟩
  simp only[go_sem,G6,G8,(VJ c hc x.c hw.2.2 _).eq,yn hf3,w23]
  rw[yG]
  simp only[go_sem,G6,G7,G8,l33]
  rw[z5 rfl rfl,z6]
  exact⟨⟨_,rfl⟩,by rw[jP ((xI hs).2 ⟨hf1,hf2,hf3⟩)]⟩
theorem TG {op:Int} {a b c:UInt8} (h:shp op=[a,b,c]):shapeOf op= .tup [.agg [.int .i64 (lo a),.int .i64 (hi a),.bool (rd a),.bool (wt a),.int .i64 (lo b),.int .i64 (hi b),.bool (rd b),.bool (wt b),.int .i64 (lo c),.int .i64 (hi c),.bool (rd c),.bool (wt c)],.int .i64 (cnt [a,b,c])]:=by
 unfold shapeOf;rw[h];rfl
theorem z5W {op:Int} (h:shp op=[]):shapeOf op= .tup [.agg [.int .i64 0,.int .i64 0,.bool false,.bool false,.int .i64 0,.int .i64 0,.bool false,.bool false,.int .i64 0,.int .i64 0,.bool false,.bool false],.int .i64 (-1)]:=by
 unfold shapeOf;rw[if_pos h];rfl
theorem z4D (s:List UInt8): ¬cnt s<0:=by unfold cnt;omega
theorem kh (x:DInstr) (m:Mem) (hf:m.floor≤m.stk.length+1):Okv tab 327 [.agg [.int .u8 x.op,.int .i64 x.a,.int .i64 x.b,.int .i64 x.c]] m (.int .i64 (err06 x)):=by
 refine ze (tT X6) ?_
 obtain⟨stk,cur,nx,live,fl⟩:=m
 dsimp only at hf
 have hS:=fun c nz lv=>(Yq x.op ⟨stk++[cur],c,nz,lv,fl⟩ (by simp;omega)).eq
 simp only[X6,go_sem,G3,G6,G8,hS]
 rcases z59 x.op with hs|⟨a,b,c,hs⟩
 ·simp only[go_sem,G3,G6,G8,z5W hs,show((-1:Int)<0)=True from eq_true (by decide)]
  rw[z5 rfl rfl,z6]
  exact⟨⟨_,rfl⟩,by rw[xJ];rintro⟨a,b,c,h,_⟩;rw[hs] at h;cases h⟩
 ·simp only[go_sem,G3,G6,G8,TG hs,z4D,(jJ x _).eq]
  rw[yG]
  simp only[go_sem,G6,G7,G8,l03,i0,evIaddrA,Nat.zero_mul]
  by_cases hl1:x.a<lo a
  ·simp only[go_sem,G6,G8,hl1]
   rw[z5 rfl rfl,z6]
   exact⟨⟨_,rfl⟩,by rw[xJ fun h'=>by have:=((xI hs).1 h').1;unfold fitsK at this;omega]⟩
  by_cases hh1:x.a>hi a
  ·simp only[go_sem,G6,G8,hl1,i0,evIaddrA,Nat.zero_mul,hh1]
   rw[z5 rfl rfl,z6]
   exact⟨⟨_,rfl⟩,by rw[xJ fun h'=>by have:=((xI hs).1 h').1;unfold fitsK at this;omega]⟩
  simp only[go_sem,G6,G8,hl1,i0,evIaddrA,Nat.zero_mul,hh1,w01]
  rw[yG]
  simp only[go_sem,G6,G7,G8,l13,i1,evIaddrA,G2,w0d]
  by_cases hl2:x.b<lo b
  ·simp only[go_sem,G6,G8,hl2]
   rw[z5 rfl rfl,z6]
   exact⟨⟨_,rfl⟩,by rw[xJ fun h'=>by have:=((xI hs).1 h').2.1;unfold fitsK at this;omega]⟩
  by_cases hh2:x.b>hi b
  ·simp only[go_sem,G3,G6,G8,hl2,i1,evIaddrA,G2,hh2]
   rw[z5 rfl rfl,z6]
   exact⟨⟨_,rfl⟩,by rw[xJ fun h'=>by have:=((xI hs).1 h').2.1;unfold fitsK at this;omega]⟩
  simp only[go_sem,G3,G6,G8,hl2,i1,evIaddrA,G2,hh2,w12]
  rw[yG]
  simp only[go_sem,G6,G7,G8,l23,i2,evIaddrA,G2,w0d]
  by_cases hl3:x.c<lo c
  ·simp only[go_sem,G6,G8,hl3]
   rw[z5 rfl rfl,z6]
   exact⟨⟨_,rfl⟩,by rw[xJ fun h'=>by have:=((xI hs).1 h').2.2;unfold fitsK at this;omega]⟩
  by_cases hh3:x.c>hi c
  ·simp only[go_sem,G3,G6,G8,hl3,i2,evIaddrA,G2,hh3]
   rw[z5 rfl rfl,z6]
   exact⟨⟨_,rfl⟩,by rw[xJ fun h'=>by have:=((xI hs).1 h').2.2;unfold fitsK at this;omega]⟩
  simp only[go_sem,G3,G6,G8,hl3,i2,evIaddrA,G2,hh3,w23]
  rw[yG]
  simp only[go_sem,G6,G7,G8,l33]
  rw[z5 rfl rfl,z6]
  exact⟨⟨_,rfl⟩,by rw[jP ((xI hs).2 ⟨⟨by omega,by omega⟩,⟨by omega,by omega⟩,⟨by omega,by omega⟩⟩)]⟩
def codeOf (c:UInt8) (n:Int):List UInt8:=if c=45 then [] else if c=110∨c=103∨c=101 then minimal (zigzag n) else minimal n.toNat
def sk (x:DInstr) (k:Nat):UInt8:=(shp x.op).getD k 45
def cod6k (x:DInstr):Nat→List UInt8
 |0=>[UInt8.ofNat x.op.toNat]
 |k+1=>cod6k x k++codeOf (sk x k) (opn x k)
def cod6 (x:DInstr):List UInt8:=cod6k x 3
theorem z4g {c:UInt8} (h:letterOk c):lo c<0↔(c=110∨c=103∨c=101):=by
 unfold letterOk at h
 rcases h with rfl|rfl|rfl|rfl|rfl|rfl|rfl|rfl|rfl|rfl|rfl<;>decide
theorem Tt (c:UInt8) (m:Mem):Okv tab 281 [.int .u8 c.toNat] m (.bool (decide (c=110∨c=103∨c=101))):=by
 refine ze (tT vI) ?_
 obtain⟨stk,cur,nx,live,fl⟩:=m
 have hk: ∀k:UInt8,(((c.toNat:Int))=(k.toNat:Int))↔c=k:=fun k=>by
  rw[Int.ofNat_inj,UInt8.toNat_inj]
 have e110:=hk 110
 have e103:=hk 103
 have e101:=hk 101
 simp only[vI,go_sem,G6,G8]
 repeat' (((first|refine uN ?_ ?_|refine yY ?_ ?_|refine yZ ?_ ?_|refine yW ?_ ?_|refine yX ?_ ?_)<;>intro hq)<;>simp only[go_sem,G6,G8,hq])
 all_goals
  rw[z5 rfl rfl,z6]
  refine⟨⟨_,rfl⟩,congrArg AV.bool ?_⟩
  simp only[beq_iff_eq,beq_eq_false_iff_ne,ne_eq] at*
  rw[Bool.eq_iff_iff]
  simp_all
theorem TV {a:Int} (h:0≤a∧a<256):IsByte (UInt8.ofNat a.toNat) (.int .u8 a):=by
 have:=vf (a:=a.toNat) (by omega)
 grind
theorem Wu {c:UInt8} {n:Int} (hc:letterOk c) (hf:fitsK c n) (hn:in64 n):(codeOf c n).length≤10:=by
 unfold codeOf
 split
 ·simp
 ·split
  ·exact z9 (x4 hn)
  ·exact z9 (by unfold in64 at hn;omega)
theorem z2Y {c:UInt8} {n:Int} (hc:letterOk c) (hf:fitsK c n) (hs: ¬(c=110∨c=103∨c=101)):0≤n:=by
 have h1: ¬lo c<0:=fun h=>hs ((z4g hc).1 h)
 unfold fitsK at hf;omega
theorem three {k:Nat} (h:k<3):k=0∨k=1∨k=2:=by omega
theorem jN {x:DInstr} {a b c:UInt8} (hs:shp x.op=[a,b,c]) (h:InstrP x) (hw:WfI x) {k:Nat} (hk:k<3):letterOk (sk x k)∧fitsK (sk x k) (opn x k)∧in64 (opn x k)∧(cnt [a,b,c]≤k↔sk x k=45)∧[a,b,c][k]? =some (sk x k):=by
 obtain⟨f1,f2,f3⟩:=(xI hs).1 h
 obtain⟨l1,l2,l3,c1,c2,c3⟩:=Um hs
 obtain⟨w1,w2,w3⟩:=hw
 unfold sk
 rw[hs]
 rcases three hk with rfl|rfl|rfl
 ·trivial
 ·trivial
 ·trivial
theorem XC {x:DInstr} {a b c:UInt8} (hs:shp x.op=[a,b,c]) (h:InstrP x) (hw:WfI x): ∀k,k≤3→(cod6k x k).length≤1+10*k
 |0,_=>by simp[cod6k]
 |k+1,hk=>by
  have ih:=XC hs h hw k (by omega)
  obtain⟨h1,h2,h3,_⟩:=jN hs h hw (show k<3 by omega)
  have:=Wu h1 h2 h3
  simp only[cod6k,w0e];omega
theorem cell3 (x:DInstr) {k:Nat} (h:k<3):takeV false 1 (([AV.int .i64 x.a,.int .i64 x.b,.int .i64 x.c]).drop k)=some (.int .i64 (opn x k)):=by
 rcases three h with rfl|rfl|rfl<;>rfl
theorem cell12 {x:DInstr} {a b c:UInt8} (hs:shp x.op=[a,b,c]) {k:Nat} (h:k<3):takeV false 1 (([.int .i64 (lo a),.int .i64 (hi a),.bool (rd a),.bool (wt a),.int .i64 (lo b),.int .i64 (hi b),.bool (rd b),.bool (wt b),.int .i64 (lo c),.int .i64 (hi c),.bool (rd c),.bool (wt c)]:List AV).drop (k*4))=some (.int .i64 (lo (sk x k))):=by
 unfold sk;rw[hs]
 rcases three h with rfl|rfl|rfl<;>rfl
theorem QN (x:DInstr) (hop:inU8 x.op) (hw:WfI x) (hx:InstrP x) (m:Mem):Okl IsByte 1 tab 221 [.agg [.int .u8 x.op,.int .i64 x.a,.int .i64 x.b,.int .i64 x.c]] m (cod6 x):=by
 refine tF (tT ux) ?_
 obtain⟨stk,cur,nx,live,fl⟩:=m
 have hx':=hx
 obtain⟨a,b,c,hs,_⟩:=hx'
 simp only[ux,go_sem,G3,G6,G8,(UX x.op _).eq,(qr x _).eq,hs]
 refine za (α:=Nat) (fun k σ=>k≤3∧ ∃nz y e,Own IsByte 1 y (cod6k x k) e∧heads [3,4,5,6] 2 σ=⟨tmps 42 [(3,y),(4,.str [a,b,c]),(5,.ptr (stk++[cur]).length 1 (nx+1) 0),(6,.int .i64 k)],⟨stk++[cur],[⟨nx,[.int .u8 x.op,.int .i64 x.a,.int .i64 x.b,.int .i64 x.c]⟩,⟨nx+1,[.int .i64 x.a,.int .i64 x.b,.int .i64 x.c]⟩],nz,e::live,fl⟩⟩) (fun k=>3-k) 0 ?_ ?_
 ·refine⟨w0b _,?_⟩
  simp only[go_sem,G6,G7]
  exact⟨_,_,[],.full (zZ (TV hop)) _,rfl⟩
 ·rintro k σ ⟨hk,nz,y,e,ho,hσ⟩
  rw[hσ]
  clear hσ σ
  dsimp only at hk⊢
  by_cases h:k<3
  ·skip
   obtain⟨hlt,hfit,hin,hcnt,hget⟩:=jN hs hx hw h
   have hix:idx (.int .i64 (k:Int)) 3=some k:=zo .i64 k 3 h
   have hc3:=cell3 x h
   have hlen:=XC hs hx hw k (by omega)
   have hcl:=Wu hlt hfit hin
   have hlt3:((k:Int)<3)=True:=eq_true (by omega)
   have hsucc:IntKind.i64.wrap ((k:Int)+1)=((k+1:Nat):Int):=by rw[z7 (by omega) (by omega)];omega
   simp only[go_sem,G3,G6,G7,G8,hlt3,hix,hget]
   by_cases h45:sk x k=45
   ·have h45':(((sk x k).toNat:Int)==45)=true:=by rw[h45];rfl
    simp only[go_sem,G6,G8,h45',hsucc]
    refine⟨k+1,by omega,h,nz,y,e,?_,rfl⟩
    rw[cod6k,codeOf,if_pos h45,w1b];exact ho
   ·have h45':(((sk x k).toNat:Int)==45)=false:=by
     rw[beq_eq_false_iff_ne];intro e;apply h45;apply UInt8.toNat_inj.1;show(sk x k).toNat=45;omega
    by_cases hsg:sk x k=110∨sk x k=103∨sk x k=101
    ·have hcode:codeOf (sk x k) (opn x k)=minimal (zigzag (opn x k)):=by unfold codeOf;rw[if_neg h45,if_pos hsg]
     simp only[go_sem,G3,G6,G8,h45',hix,hget,(Tt _ _).eq,hsg,evIaddrA,w0d,hc3,(vu _ hin _).eq]
     refine(zh _ (x4 hin) _).xv fun y1 t1 k1 ho1=> ?_
     simp only[go_sem,G6,G8]
     obtain⟨z1,hz1,hc1⟩:=ho1.elems
     rw[←hcode] at hc1
     refine(ho.push t1).xv hz1 hc1 (by omega) fun y2 k2 e2 ho2=> ?_
     simp only[go_sem,G6,G8,hsucc]
     exact⟨k+1,by omega,h,k2,y2,e2,ho2,rfl⟩
    ·have hpos:=z2Y hlt hfit hsg
     have hcode:codeOf (sk x k) (opn x k)=minimal (opn x k).toNat:=by unfold codeOf;rw[if_neg h45,if_neg hsg]
     have ew:IntKind.u64.wrap (opn x k)=(((opn x k).toNat:Nat):Int):=by unfold in64 at hin;rw[zf (by omega) (by omega)];omega
     simp only[go_sem,G3,G6,G8,h45',hix,hget,(Tt _ _).eq,hsg,evIaddrA,w0d,hc3,ew]
     refine(zh _ (by unfold in64 at hin;omega) _).xv fun y1 t1 k1 ho1=> ?_
     simp only[go_sem,G6,G8]
     obtain⟨z1,hz1,hc1⟩:=ho1.elems
     rw[←hcode] at hc1
     refine(ho.push t1).xv hz1 hc1 (by omega) fun y2 k2 e2 ho2=> ?_
     simp only[go_sem,G6,G8,hsucc]
     exact⟨k+1,by omega,h,k2,y2,e2,ho2,rfl⟩
  ·have:k=3:=by omega
   subst this
   simp only[go_sem,G4,G6,G7,G8,show(((3:Nat):Int)<3)=False from eq_false (by decide)]
   exact xN ho
theorem z17 (x:DInstr) (hop:inU8 x.op) (hw:WfI x) (hx:InstrP x) (m:Mem) (hf:m.floor≤m.stk.length+1):Okp IsByte 1 tab 286 [.agg [.int .u8 x.op,.int .i64 x.a,.int .i64 x.b,.int .i64 x.c]] m (cod6 x) 0:=by
 refine We (tT ZS) ?_
 obtain⟨stk,cur,nx,live,fl⟩:=m
 dsimp only at hf
 have hf':fl≤(stk++[cur]).length+1:=by simp;omega
 have hx':=hx
 obtain⟨a,b,c,hs,_⟩:=hx'
 have hS:=fun c nz lv=>(Yq x.op ⟨stk++[cur],c,nz,lv,fl⟩ hf').eq
 have hC:=fun c nz lv=>(kh x ⟨stk++[cur],c,nz,lv,fl⟩ hf').eq
 rw[jP hx] at hC
 simp only[ZS,go_sem,G3,G6,G8,hC,show((0:Int) !=0)=false from rfl,hS,TG hs,(jJ x _).eq]
 refine za (α:=Nat) (fun k σ=>k≤3∧ ∃nz st y e,Own IsByte 1 y (cod6k x k) e∧heads [5,6,7,25,26] 2 σ=⟨tmps 51 [(5,.ptr (stk++[cur]).length 1 st 0),(6,.int .i64 (cnt [a,b,c])),(7,y),(25,.agg [.int .i64 x.a,.int .i64 x.b,.int .i64 x.c]),(26,.int .i64 k)],⟨stk++[cur],[⟨nx,[.int .u8 x.op,.int .i64 x.a,.int .i64 x.b,.int .i64 x.c]⟩,⟨st,[.int .i64 (lo a),.int .i64 (hi a),.bool (rd a),.bool (wt a),.int .i64 (lo b),.int .i64 (hi b),.bool (rd b),.bool (wt b),.int .i64 (lo c),.int .i64 (hi c),.bool (rd c),.bool (wt c)]⟩],nz,e::live,fl⟩⟩) (fun k=>3-k) 0 ?_ ?_
 ·refine⟨w0b _,?_⟩
  simp only[go_sem,G6,G7]
  exact⟨_,_,_,[],.full (zZ (TV hop)) _,rfl⟩
 ·rintro k σ ⟨hk,nz,st,y,e,ho,hσ⟩
  rw[hσ]
  clear hσ σ
  dsimp only at hk⊢
  by_cases h:k<3
  ·skip
   obtain⟨hlt,hfit,hin,hcnt,hget⟩:=jN hs hx hw h
   have hix:idx (.int .i64 (k:Int)) 3=some k:=zo .i64 k 3 h
   have hc3:=cell3 x h
   have hlen:=XC hs hx hw k (by omega)
   have hcl:=Wu hlt hfit hin
   have hlt3:((k:Int)<3)=True:=eq_true (by omega)
   have hsucc:IntKind.i64.wrap ((k:Int)+1)=((k+1:Nat):Int):=by rw[z7 (by omega) (by omega)];omega
   have hc12:=cell12 hs h
   by_cases h45:sk x k=45
   ·have hge:(k:Int)≥cnt [a,b,c]:=hcnt.2 h45
    simp only[go_sem,G6,G7,G8,hlt3,hix,w0d,hc3,hge,hsucc]
    refine⟨k+1,by omega,h,nz,st,y,e,?_,rfl⟩
    rw[cod6k,codeOf,if_pos h45,w1b];exact ho
   ·have hge: ¬((k:Int)≥cnt [a,b,c]):=fun e=>h45 (hcnt.1 e)
    by_cases hsg:sk x k=110∨sk x k=103∨sk x k=101
    ·have hcode:codeOf (sk x k) (opn x k)=minimal (zigzag (opn x k)):=by unfold codeOf;rw[if_neg h45,if_pos hsg]
     have hneg:=(z4g hlt).2 hsg
     simp only[go_sem,G6,G7,G8,hlt3,hix,w0d,hc3,hge,evIaddrA,hc12,hneg]
     refine(ku _ hin _ _ _ _ _ hf').xv fun y1 t1 k1 ho1=> ?_
     simp only[go_sem,G6,G8]
     obtain⟨z1,hz1,hc1⟩:=ho1.elems
     rw[←hcode] at hc1
     refine(ho.push t1).xv hz1 hc1 (by omega) fun y2 k2 e2 ho2=> ?_
     simp only[go_sem,G6,G8,hsucc]
     exact⟨k+1,by omega,h,k2,st,y2,e2,ho2,rfl⟩
    ·have hpos:=z2Y hlt hfit hsg
     have hneg: ¬lo (sk x k)<0:=fun e=>hsg ((z4g hlt).1 e)
     have hcode:codeOf (sk x k) (opn x k)=minimal (opn x k).toNat:=by unfold codeOf;rw[if_neg h45,if_neg hsg]
     have ew:IntKind.u64.wrap (opn x k)=(((opn x k).toNat:Nat):Int):=by unfold in64 at hin;rw[zf (by omega) (by omega)];omega
     simp only[go_sem,G6,G7,G8,hlt3,hix,w0d,hc3,hge,evIaddrA,hc12,hneg,ew]
     refine(vq _ (by unfold in64 at hin;omega) _ _ _ _ _ hf').xv fun y1 t1 k1 ho1=> ?_
     simp only[go_sem,G6,G8]
     obtain⟨z1,hz1,hc1⟩:=ho1.elems
     rw[←hcode] at hc1
     refine(ho.push t1).xv hz1 hc1 (by omega) fun y2 k2 e2 ho2=> ?_
     simp only[go_sem,G6,G8,hsucc]
     exact⟨k+1,by omega,h,k2,st,y2,e2,ho2,rfl⟩
  ·have:k=3:=by omega
   subst this
   simp only[go_sem,G4,G6,G7,G8,show(((3:Nat):Int)<3)=False from eq_false (by decide)]
   exact tS ho
def letter (c:Nat):Bool:=(decide (97≤c)&&decide (c≤122))||(decide (65≤c)&&decide (c≤90))
def alnum (c:Nat):Bool:=letter c||(decide (48≤c)&&decide (c≤57))
def named (s:List UInt8):Bool:=decide (1≤s.length)&&decide (s.length≤16)&&letter (s.headD 0).toNat&&s.all fun c=>alnum c.toNat
theorem VV {s:List UInt8} {i:Nat} (h:i<s.length) (hc:alnum s[i].toNat=false):named s=false:=by
 have:(s.all fun c=>alnum c.toNat)=false:=by
  grind
 simp[named,this]
theorem U0 {s:List UInt8} (h:0<s.length):s.headD 0=s[0]:=by
 cases s with
 |nil=>simp at h
 |cons a r=>rfl
theorem z2C {s:List UInt8} (h1:0<s.length) (h2:s.length≤16) (h3:letter s[0].toNat=true) (h4: ∀c∈s,alnum c.toNat=true):named s=true:=by
 have:(s.all fun c=>alnum c.toNat)=true:=w3e.2 h4
 have h5:1≤s.length:=h1
 unfold named
 rw[this,U0 h1,h3,decide_eq_true h2,decide_eq_true h5];rfl
theorem qp (c:Nat) (m:Mem):Okv tab 324 [.int .u8 c] m (.bool (letter c)):=by
 refine ze (tT vK) ?_
 obtain⟨stk,cur,nx,live,fl⟩:=m
 simp only[vK,go_sem,G6,G8]
 repeat' (((first|refine uN ?_ ?_|refine yY ?_ ?_|refine yZ ?_ ?_|refine yW ?_ ?_|refine yX ?_ ?_)<;>intro hq)<;>simp only[go_sem,G6,G8,hq])
 all_goals
  rw[z5 rfl rfl,z6]
  refine⟨⟨_,rfl⟩,?_⟩
  simp only[decide_eq_true_eq,decide_eq_false_iff_not] at*
  unfold letter
  congr 1
  grind
theorem qy (s:List UInt8) (hs:s.length≤9223372036854775807) (m:Mem):Okv tab 276 [.str s] m (.bool (named s)):=by
 refine ze (tT uB) ?_
 obtain⟨stk,cur,nx,live,fl⟩:=m
 have hL: ∃K:Nat→Mem→Nat,∀(c:Nat) m,CALL tab 324 [.int .u8 c] m=some (.bool (letter c),m.bump (K c m)):=
  ⟨fun c m=>(qp c m).choose,fun c m=>(qp c m).choose_spec⟩
 obtain⟨K,hK⟩:=hL
 simp only[uB,go_sem,G6,G8]
 by_cases h0:s.length<1
 ·have h0':(s.length:Int)<1:=by omega
  simp only[go_sem,G6,G8,h0']
  rw[z5 rfl rfl,z6]
  exact⟨⟨_,rfl⟩,by simp[named,show¬1≤s.length by omega]⟩
 have h0': ¬(s.length:Int)<1:=by omega
 by_cases h1:s.length>16
 ·have h1':(s.length:Int)>16:=by omega
  simp only[go_sem,G6,G8,h0',h1']
  rw[z5 rfl rfl,z6]
  exact⟨⟨_,rfl⟩,by simp[named,show¬s.length≤16 by omega]⟩
 have h1': ¬(s.length:Int)>16:=by omega
 have hi0:idx (.int .i64 0) s.length=some 0:=zo .i64 0 _ (by omega)
 have hg0:s[0]? =some s[0]:=w17 (by omega)
 cases h2:letter s[0].toNat
 ·simp only[go_sem,G6,G8,h0',h1',hi0,hg0,hK,h2]
  rw[z5 rfl rfl,z6]
  exact⟨⟨_,rfl⟩,by simp only[named,U0 (show 0<s.length by omega),h2];simp⟩
 ·simp only[go_sem,G6,G8,h0',h1',hi0,hg0,hK,h2]
  refine za (α:=Nat) (fun i σ=>(i≤s.length∧ ∀c∈s.take i,alnum c.toNat=true)∧ ∃nz,heads [0,3] 0 σ=⟨tmps 41 [(0,.str s),(3,.int .i64 i)],⟨stk++[cur],[],nz,[]::live,fl⟩⟩) (fun i=>s.length-i) 0 ?_ ?_
  ·refine⟨⟨w0b _,by simp⟩,?_⟩
   simp only[go_sem,G6,G7]
   simp
  ·rintro i σ ⟨⟨hi,ht⟩,nz,hσ⟩
   rw[hσ]
   clear hσ σ
   dsimp only at hi ht⊢
   by_cases h:i<s.length
   ·have hg:s[i]? =some s[i]:=w17 h
    cases hc:alnum s[i].toNat
    ·have hc':=hc
     simp only[alnum,w29] at hc'
     simp only[go_sem,G6,G7,G8,w02,h,zo,hg,hK,hc'.1]
     have hidx:=zo .i64 i _ h
     repeat' (((first|refine uN ?_ ?_|refine yY ?_ ?_|refine yZ ?_ ?_|refine yW ?_ ?_|refine yX ?_ ?_)<;>intro hq)<;>simp only[go_sem,G6,G8,hq,hidx,hg])
     all_goals first
      |(rw[z5 rfl rfl,z6];exact⟨⟨_,rfl⟩,by rw[VV h hc]⟩)
      |(exfalso;simp only[decide_eq_false_iff_not,Bool.and_eq_false_iff] at*;omega)
    ·have hn:=zB (P:=fun c:UInt8=>alnum c.toNat=true) h ht hc
     have hc':=hc
     simp only[alnum] at hc'
     cases hl:letter s[i].toNat
     ·rw[hl] at hc'
      simp only[Bool.false_or,w09,decide_eq_true_eq] at hc'
      simp only[go_sem,G6,G7,G8,w02,h,zo,hg,hK,hl,show¬(s[i].toNat:Int)<48 by omega,show¬(s[i].toNat:Int)>57 by omega,zc h hs]
      exact⟨i+1,by omega,⟨h,hn⟩,_,rfl⟩
     ·simp only[go_sem,G6,G7,G8,w02,h,zo,hg,hK,hl,zc h hs]
      exact⟨i+1,by omega,⟨h,hn⟩,_,rfl⟩
   ·have:i=s.length:=by omega
    subst this
    rw[w06] at ht
    simp only[go_sem,G6,G7,G8,w02,h]
    rw[z5 rfl rfl,z6]
    exact⟨⟨_,rfl⟩,by rw[z2C (by omega) (by omega) h2 ht]⟩
theorem z2R: ∀c:Fin 256,((decide (IntKind.u8.wrap ((BitVec.ofInt 8 (c.val:Int)|||BitVec.ofInt 8 32).toNat:Int)<97)||decide (IntKind.u8.wrap ((BitVec.ofInt 8 (c.val:Int)|||BitVec.ofInt 8 32).toNat:Int)>122)||(IntKind.u8.wrap ((BitVec.ofInt 8 (c.val:Int)&&&BitVec.ofInt 8 64).toNat:Int)==0))&&(decide ((c.val:Int)<48)||decide ((c.val:Int)>57)))= !(alnum c.val):=by decide+kernel
theorem z4m {c:Nat} (hc:c<256): ∃a b:Int,evBits .or .u8 (c:Int) 32=some (.int .u8 a)∧evBits .and .u8 (c:Int) 64=some (.int .u8 b)∧
  ((decide (a<97)||decide (a>122)||(b==0))&&(decide ((c:Int)<48)||decide ((c:Int)>57)))= !(alnum c):=⟨_,_,rfl,rfl,z2R ⟨c,hc⟩⟩
theorem Vv {c:Nat} (h:alnum c=true):letter c=decide (57<c):=by
 unfold alnum letter at*
 grind
theorem kz (s:List UInt8) (m:Mem):Okv tab 322 [.str s] m (.bool (named s)):=by
 refine ze (tT kM) ?_
 obtain⟨stk,cur,nx,live,fl⟩:=m
 simp only[kM,go_sem,G6,G8]
 by_cases h0:(s.length:Int)=0
 ·have h0':((s.length:Int)==0)=true:=by simp[h0]
  simp only[go_sem,G6,G8,h0']
  rw[z5 rfl rfl,z6]
  exact⟨⟨_,rfl⟩,by simp[named,show¬1≤s.length by omega]⟩
 have h0':((s.length:Int)==0)=false:=by simpa using h0
 by_cases h1:s.length>16
 ·have h1':(s.length:Int)>16:=by omega
  simp only[go_sem,G6,G8,h0',h1']
  rw[z5 rfl rfl,z6]
  exact⟨⟨_,rfl⟩,by simp[named,show¬s.length≤16 by omega]⟩
 have h1': ¬(s.length:Int)>16:=by omega
 have hp:0<s.length:=by omega
 have hi0:idx (.int .i64 0) s.length=some 0:=zo .i64 0 _ (by omega)
 have hg0:s[0]? =some s[0]:=w17 (by omega)
 by_cases h2:(s[0].toNat:Int)≤57
 ·simp only[go_sem,G6,G8,h0',h1',hi0,hg0,h2]
  rw[z5 rfl rfl,z6]
  refine⟨⟨_,rfl⟩,?_⟩
  cases ha:alnum s[0].toNat
  ·rw[VV hp ha]
  ·have:=Vv ha
   rw[decide_eq_false (by omega)] at this
   simp only[named,U0 hp,this];simp
 ·simp only[go_sem,G6,G8,h0',h1',hi0,hg0,h2,show s.length≤140737488355328 by omega]
  have hs:IsSl IsByte 1 s (.list 1 (.id nx) (ofBytes s)):= .mk (js s) (by omega)
  simp only[go_sem,hs.len]
  refine za (α:=Nat) (fun i σ=>(i≤s.length∧ ∀c∈s.take i,alnum c.toNat=true)∧ ∃nz,heads [19,20,21] 0 σ=⟨tmps 47 [(19,.list 1 (.id nx) (ofBytes s)),(20,.int .i64 s.length),(21,.int .i64 i)],⟨stk++[cur],[],nz,[nx]::live,fl⟩⟩) (fun i=>s.length-i) 0 ?_ ?_
  ·refine⟨⟨w0b _,by simp⟩,?_⟩
   simp only[go_sem,G6,G7]
   simp
  ·rintro i σ ⟨⟨hi,ht⟩,nz,hσ⟩
   rw[hσ]
   clear hσ σ
   dsimp only at hi ht⊢
   by_cases h:i<s.length
   ·have e1:nth (.list 1 (.id nx) (ofBytes s)) i= .int .u8 s[i].toNat:=hs.nth h
    obtain⟨a,b,q1,q2,q3⟩:=z4m (UInt8.toNat_lt s[i])
    simp only[go_sem,G6,G7,G8,w02,h,hs.at _ h,e1,q1]
    cases hc:alnum s[i].toNat
    ·rw[hc] at q3
     have hat:=hs.at .i64 h
     repeat' (((first|refine uN ?_ ?_|refine yY ?_ ?_|refine yZ ?_ ?_|refine yW ?_ ?_|refine yX ?_ ?_)<;>intro hq)<;>simp only[go_sem,G6,G8,hq,q1,q2])
     all_goals first
      |(rw[z5 rfl rfl,z6];exact⟨⟨_,rfl⟩,by rw[VV (by assumption) hc]⟩)
      |(exfalso;simp_all;done)
    ·have hn:=zB (P:=fun c:UInt8=>alnum c.toNat=true) h ht hc
     have hsucc:=zc h hs.max
     rw[hc] at q3
     have hat:=hs.at .i64 h
     repeat' (((first|refine uN ?_ ?_|refine yY ?_ ?_|refine yZ ?_ ?_|refine yW ?_ ?_|refine yX ?_ ?_)<;>intro hq)<;>simp only[go_sem,G6,G8,hq,q1,q2,hsucc])
     all_goals first
      |exact⟨i+1,by omega,⟨by assumption,hn⟩,_,rfl⟩
      |(exfalso;simp_all;done)
   ·have:i=s.length:=by omega
    subst this
    rw[w06] at ht
    simp only[go_sem,G6,G7,G8,w02,h]
    rw[z5 rfl rfl,z6]
    refine⟨⟨_,rfl⟩,?_⟩
    have:=Vv (ht s[0] (w04 hp))
    rw[decide_eq_true (by omega)] at this
    rw[z2C hp (by omega) this ht]
end Go.Proofs.W
end
section
namespace Go.Vs
section
variable {P : Program} {n t : Nat} {xs : List AV}
def fieldI (P:Program) (t i:Nat):Option (Nat×Nat):=
 match P.underlying t with
 |some (.struct fs)=>(fs[i]?).map fun f=>(f.type,f.offset)
 |_=>none
theorem zg {i ft off c:Nat} (h:Typed P (n+1) t xs) (e:fieldI P t i=some (ft,off)) (hc:P.cellsOf ft=c):Typed P n ft ((xs.drop off).take c):=by
 unfold fieldI at e
 split at e
 ·rename_i fs hu
  simp only[Typed,hu] at h
  grind
 ·cases e
theorem vX {c:Nat} (h:Typed P (n+1) t xs) (e:(fieldI P t 0).isSome=true) (hc:P.cellsOf t=c):xs.length=c:=by
 unfold fieldI at e
 split at e
 ·rename_i fs hu
  simp only[Typed,hu] at h
  omega
 ·cases e
theorem Z7 {k:IntKind} (h:Typed P (n+1) t xs) (hu:P.underlying t=some (.int k)): ∃i,xs=[.int k i]∧(Lit.int k i).wf=true:=by
 simp only[Typed,hu] at h
 exact h
theorem z5S (h:Typed P (n+1) t xs) (hu:P.underlying t=some .string): ∃s,xs=[.str s]∧s.length≤maxLen:=by
 simp only[Typed,hu] at h
 exact h
theorem yN {α:Type} {R:α→AV→Prop} {e s:Nat} (h:Typed P (n+1) t xs) (hu:P.underlying t=some (.slice e)) (hs:P.cellsOf e=s) (hR: ∀y,IsElem P e y→Typed P n e y.cells→ ∃d,R d y): ∃d y,xs=[y]∧IsSl R s d y:=by
 simp only[Typed,hu] at h
 rcases h with rfl|⟨ys,rfl,hl,hy⟩
 ·exact⟨[],_,rfl,.nil s⟩
 ·obtain⟨d,hd⟩:=All2.of_each (R:=R) ys fun y hm=>hR y (hy y hm).1 (hy y hm).2
  refine⟨d,_,rfl,?_⟩
  rw[hs]
  exact .mk hd (by rw[←hd.len];exact hl)
theorem z5w {n:Int} (h:(Lit.int .i64 n).wf=true):in64 n:=by
 simp[Lit.wf,IntKind.min,IntKind.max,IntKind.signed,IntKind.bits] at h
 trivial
theorem z81 {n:Int} (h:(Lit.int .u64 n).wf=true):inU64 n:=by
 simp[Lit.wf,IntKind.min,IntKind.max,IntKind.signed,IntKind.bits] at h
 unfold inU64;omega
theorem z9C {n:Int} (h:(Lit.int .u8 n).wf=true):inU8 n:=by
 simp[Lit.wf,IntKind.min,IntKind.max,IntKind.signed,IntKind.bits] at h
 unfold inU8;omega
theorem ve {α:Type} {R:α→AV→Prop} {W:α→Prop} {s:Nat} {xs:List α} {y:AV} (h:IsSl (fun d y=>R d y∧W d) s xs y):IsSl R s xs y∧ ∀x∈xs,W x:=by
 refine⟨h.mono fun _ _ _ h=>h.1,fun x hx=> ?_⟩
 obtain⟨i,hi,rfl⟩:=List.mem_iff_getElem.1 hx
 exact(h.nth hi).2
theorem zp: ¬Typed P 0 t xs:=fun h=>h
theorem qV {e:Nat} {y:AV} (h:IsElem P e y) (ha:aggT P e=some true): ∃cs,y= .agg cs:=by
 unfold IsElem at h;rw[if_pos ha] at h;exact h
theorem Vl {e:Nat} {y:AV} (h:IsElem P e y) (ha:aggT P e=some false):y.cells=[y]:=by
 unfold IsElem at h;rw[if_neg (by rw[ha];simp)] at h;exact h
end
end Go.Vs
end
section
namespace Go.Proofs.W
open Go.Vs
theorem Tp (n:Int) (m:Mem):Okv tab 366 [.int .i64 n] m (.bool (n !=0)):=by
 refine ze (tT jV) ?_
 obtain⟨stk,cur,nx,live,fl⟩:=m
 simp only[jV,go_sem,G6,G8]
 rw[z5 rfl rfl,z6]
 simp
theorem UT (xs:List Int) (x:AV) (hx:IsSl (IsK .i64) 1 xs x) (m:Mem):
  Ok tab 376 [x,.fn (.func 366) [] []] m (fun r=> ∃n:Int,r= .int .i64 n∧decide (n≥0)=xs.any (· !=0)):=by
 refine z2x (tT yh) ?_
 obtain⟨stk,cur,nx,live,fl⟩:=m
 simp only[yh,go_sem,G3,G6,G8,hx.len]
 refine za (α:=Nat) (fun i σ=>(i≤xs.length∧ ∀c∈xs.take i,(c !=0)=false)∧ ∃nz,heads [0,1,7,8] 0 σ=⟨tmps 19 [(0,x),(1,.fn (.func 366) [] []),(7,.int .i64 xs.length),(8,.int .i64 i)],⟨stk++[cur],[],nz,[]::live,fl⟩⟩) (fun i=>xs.length-i) 0 ?_ ?_
 ·refine⟨⟨w0b _,by simp⟩,?_⟩
  simp only[go_sem,G6,G7]
  simp
 ·rintro i σ ⟨⟨hi,ht⟩,nz,hσ⟩
  rw[hσ]
  clear hσ σ
  dsimp only at hi ht⊢
  by_cases h:i<xs.length
  ·have e1:nth x i= .int .i64 xs[i]:=hx.nth h
   simp only[go_sem,G6,G7,G8,w02,h,hx.at _ h,e1,(Tp _ _).eq]
   cases hc:(xs[i] !=0)
   ·simp only[go_sem,G6,G8,zc h hx.max]
    exact⟨i+1,by omega,⟨h,zB (P:=fun c=>(c !=0)=false) h ht hc⟩,_,rfl⟩
   ·simp only[go_sem,G6,G8]
    rw[z5 rfl rfl,z6]
    refine⟨⟨_,rfl⟩,_,rfl,?_⟩
    rw[List.any_eq_true.2 ⟨_,w04 h,hc⟩]
    simp
  ·have:i=xs.length:=by omega
   subst this
   rw[w06] at ht
   simp only[go_sem,G6,G7,G8,w02,h]
   rw[z5 rfl rfl,z6]
   grind
theorem Wc (xs:List Int) (x:AV) (hx:IsSl (IsK .i64) 1 xs x) (m:Mem):
  Okv tab 343 [x,.fn (.func 366) [] []] m (.bool (xs.any (· !=0))):=by
 refine ze (tT y7) ?_
 obtain⟨stk,cur,nx,live,fl⟩:=m
 simp only[y7,go_sem,G3,G6,G8]
 obtain⟨r,k,h1,n,rfl,h2⟩:=UT xs x hx ⟨stk++[cur],[],nx,[]::live,fl⟩
 simp only[go_sem,G6,G8,h1,h2]
 rw[z5 rfl rfl,z6]
 simp
theorem Zr (xs:List Int) (x:AV) (hx:IsSl (IsK .i64) 1 xs x) (m:Mem):Okv tab 321 [x] m (.bool (!xs.any (· !=0))):=by
 refine ze (tT ZU) ?_
 obtain⟨stk,cur,nx,live,fl⟩:=m
 simp only[ZU,go_sem,G6,G8,(Wc xs x hx _).eq]
 rw[z5 rfl rfl,z6]
 simp
theorem z8M (a:Int) (m:Mem):Okv tab 321 [.list 1 .full [.int .i64 a]] m (.bool (pb (a=0))):=by
 have hh:IsSl (IsK .i64) 1 [a] (.list 1 .full [.int .i64 a]):= .mk (ys:=[.int .i64 a]) ⟨rfl,trivial⟩ (by simp)
 have:=Zr [a] _ hh m
 have e:(!([a]:List Int).any (· !=0))=pb (a=0):=Za (by simp)
 rw[e] at this;exact this
theorem z8L (a b:Int) (m:Mem):Okv tab 321 [.list 1 .full [.int .i64 a,.int .i64 b]] m (.bool (pb (a=0∧b=0))):=by
 have hh:IsSl (IsK .i64) 1 [a,b] (.list 1 .full [.int .i64 a,.int .i64 b]):= .mk (ys:=[.int .i64 a,.int .i64 b]) ⟨rfl,rfl,trivial⟩ (by simp)
 have:=Zr [a,b] _ hh m
 have e:(!([a,b]:List Int).any (· !=0))=pb (a=0∧b=0):=Za (by simp)
 rw[e] at this;exact this
theorem z8K (a b c:Int) (m:Mem):Okv tab 321 [.list 1 .full [.int .i64 a,.int .i64 b,.int .i64 c]] m (.bool (pb (a=0∧b=0∧c=0))):=by
 have hh:IsSl (IsK .i64) 1 [a,b,c] (.list 1 .full [.int .i64 a,.int .i64 b,.int .i64 c]):= .mk (ys:=[.int .i64 a,.int .i64 b,.int .i64 c]) ⟨rfl,rfl,rfl,trivial⟩ (by simp)
 have:=Zr [a,b,c] _ hh m
 have e:(!([a,b,c]:List Int).any (· !=0))=pb (a=0∧b=0∧c=0):=Za (by simp)
 rw[e] at this;exact this
theorem Tr (a b:Int) (m:Mem):Okv tab 320 [.int .i64 a,.int .i64 b] m (.bool (pb (0≤a∧a<b))):=by
 refine ze (tT jX) ?_
 obtain⟨stk,cur,nx,live,fl⟩:=m
 simp only[jX,go_sem,G3,G6,G8]
 repeat' (((first|refine uN ?_ ?_|refine yY ?_ ?_|refine yZ ?_ ?_|refine yW ?_ ?_|refine yX ?_ ?_)<;>intro hq)<;>simp only[go_sem,G6,G8,hq])
 all_goals
  rw[z5 rfl rfl,z6]
  refine⟨⟨_,rfl⟩,?_⟩
  refine congrArg AV.bool (Za ?_)
  grind
def FieldsP (l:List DField) (most:Int):Prop:=(l.length:Int)≤most∧(∀f∈l,named f.name=true)∧(l.map DField.name).Nodup
theorem TN {α:Type} {l:List α} {i:Nat} (h:i<l.length) (h1:(l.take i).Nodup) (h2: ∀x∈l.take i,x≠l[i]):(l.take (i+1)).Nodup:=by
 rw[w0c h,w4b]
 grind
theorem VT {α:Type} {l:List α} {i k:Nat} (hk:k<i) (h:i<l.length) (he:l[k]=l[i]): ¬l.Nodup:=fun hn=>by
 have:=(List.nodup_iff_pairwise_ne.1 hn)
 rw[List.pairwise_iff_getElem] at this
 grind
theorem qq (xs:List DField) (most:Int) (x:AV) (hx:IsSl IsField 2 xs x) (hm: ∀f∈xs,f.name.length≤9223372036854775807) (m:Mem):Okv tab 277 [x,.int .i64 most] m (.bool (pb (FieldsP xs most))):=by
 refine ze (tT vL) ?_
 obtain⟨stk,cur,nx,live,fl⟩:=m
 simp only[vL,go_sem,G3,G6,G8,hx.len]
 by_cases hb:(xs.length:Int)>most
 ·simp only[go_sem,G6,G8,hb]
  rw[z5 rfl rfl,z6]
  exact⟨⟨_,rfl⟩,by rw[zk fun h=>by have:=h.1;omega]⟩
 simp only[go_sem,hb]
 have hml:(xs.map DField.name).length=xs.length:=by simp
 refine za (α:=Nat) (fun i σ=>(i≤xs.length∧(∀c∈xs.take i,named c.name=true)∧((xs.map DField.name).take i).Nodup)∧ ∃nz,heads [0,5] 0 σ=⟨tmps 40 [(0,x),(5,.int .i64 i)],⟨stk++[cur],[],nz,[]::live,fl⟩⟩) (fun i=>xs.length-i) 0 ?_ ?_
 ·refine⟨⟨w0b _,by simp,by simp⟩,?_⟩
  simp only[go_sem,G6,G7]
  simp
 ·rintro i σ ⟨⟨hi,ht,hd⟩,nz,hσ⟩
  rw[hσ]
  clear hσ σ
  dsimp only at hi ht hd⊢
  by_cases h:i<xs.length
  ·have e1:nth x i= .agg [.str xs[i].name,.int .i64 xs[i].typ]:=hx.nth h
   simp only[go_sem,G6,G7,G8,w02,h,hx.len,hx.at _ h,e1,(qy _ (hm _ (w04 h)) _).eq]
   cases hc:named xs[i].name
   ·simp only[go_sem,G6,G8]
    rw[z5 rfl rfl,z6]
    exact⟨⟨_,rfl⟩,by rw[zk fun h'=>by have:=h'.2.1 _ (w04 h);rw[hc] at this;cases this]⟩
   ·simp only[go_sem]
    refine za (α:=Nat) (fun k σ=>(k≤i∧ ∀c∈(xs.map DField.name).take k,c≠xs[i].name)∧ ∃nz,heads [0,5,6] 0 σ=⟨tmps 40 [(0,x),(5,.int .i64 i),(6,.int .i64 k)],⟨stk++[cur],[],nz,[]::live,fl⟩⟩) (fun k=>i-k) 0 ?_ ?_
    ·refine⟨⟨w0b _,by simp⟩,?_⟩
     simp only[go_sem,G6,G7]
     simp
    ·rintro k σ ⟨⟨hk,hks⟩,nz,hσ⟩
     rw[hσ]
     clear hσ σ
     dsimp only at hk hks⊢
     by_cases hki:k<i
     ·have hkl:k<xs.length:=by omega
      have e2:nth x k= .agg [.str xs[k].name,.int .i64 xs[k].typ]:=hx.nth hkl
      simp only[go_sem,G6,G7,G8,w02,hki,hx.at _ hkl,e2,hx.at _ h,e1,evStr]
      by_cases hq:xs[k].name=xs[i].name
      ·have hq':(xs[k].name==xs[i].name)=true:=by simp[hq]
       simp only[go_sem,G6,G8,hq']
       rw[z5 rfl rfl,z6]
       exact⟨⟨_,rfl⟩,by rw[zk fun h'=>VT hki (by rw[hml];exact h) (by simpa using hq) h'.2.2]⟩
      ·have hq':(xs[k].name==xs[i].name)=false:=by simpa using hq
       simp only[go_sem,G6,G8,hq',zc hkl hx.max]
       exact⟨k+1,by omega,⟨hki,zB (P:=fun c=>c≠xs[i].name) (by rw[hml];exact hkl) hks (by simpa using hq)⟩,_,rfl⟩
     ·have:k=i:=by omega
      subst this
      simp only[go_sem,G6,G7,G8,w02,hki,zc h hx.max]
      refine⟨k+1,by omega,⟨h,zB (P:=fun c=>named c.name=true) h ht hc,?_⟩,_,rfl⟩
      exact TN (by rw[hml];exact h) hd (by simpa using hks)
  ·have:i=xs.length:=by omega
   subst this
   rw[w06] at ht
   rw[←hml,w06] at hd
   simp only[go_sem,G6,G7,G8,w02,h,hx.len]
   rw[z5 rfl rfl,z6]
   exact⟨⟨_,rfl⟩,by rw[yn ⟨by omega,ht,hd⟩]⟩
def StructP (i:Nat) (t:DTyp):Prop:=(∀f∈t.fields,0≤f.typ∧f.typ<i)∧t.elem=0∧t.len=0∧0<t.fields.length∧FieldsP t.fields 8
def FineT (n i:Nat) (t:DTyp):Prop:=
 ((t.kind=1∨t.kind=2∨t.kind=3)∧t.elem=0∧t.len=0∧t.fields.length=0)∨((t.kind=4∨t.kind=7)∧0≤t.elem∧t.elem<n∧t.len=0∧t.fields.length=0)∨
 (t.kind=6∧0≤t.elem∧t.elem<i∧1≤t.len∧t.len≤16∧t.fields.length=0)∨(t.kind=5∧StructP i t)
theorem uQ {n i:Nat} {t:DTyp} (h:t.kind=5):FineT n i t↔StructP i t:=by
 unfold FineT;rw[h];simp
theorem b51:((5:Int)==1)=false:=rfl
theorem b52:((5:Int)==2)=false:=rfl
theorem b53:((5:Int)==3)=false:=rfl
theorem b54:((5:Int)==4)=false:=rfl
theorem b56:((5:Int)==6)=false:=rfl
theorem b57:((5:Int)==7)=false:=rfl
def NamesOk (l:List DField):Prop:= ∀f∈l,f.name.length≤9223372036854775807
theorem Yl (xs:List DTyp) (x:AV) (hx:IsSl IsTyp 4 xs x) (i:Nat) (hi:i<xs.length) (hn:NamesOk xs[i].fields) (m:Mem):
  Okv tab 273 [x,.int .i64 i] m (.bool (pb (FineT xs.length i xs[i]))):=by
 refine ze (tT tr) ?_
 obtain⟨stk,cur,nx,live,fl⟩:=m
 obtain⟨v,e1,q1⟩:=hx.nth hi
 have hlen:=hx.len
 have hat:=hx.at .i64 hi
 have hm:=hx.max
 generalize ht:xs[i]=t at*
 clear ht
 generalize hxn:xs.length=n at*
 obtain⟨kind,elem,len,fields⟩:=t
 dsimp only at e1 q1 hn
 simp only[tr,go_sem,G3,G6,G8,hat,e1,q1.one]
 by_cases hk:kind=5
 ·subst hk
  simp only[go_sem,G6,G8,b51,b52,b53,b54,b56,b57]
  refine za (α:=Nat) (fun k σ=>(k≤fields.length∧ ∀f∈fields.take k,0≤f.typ∧f.typ<i)∧ ∃nz,heads [1,5,6] 1 σ=⟨tmps 127 [(1,.int .i64 i),(5,.ptr (stk++[cur]).length 0 nx 0),(6,.int .i64 k)],⟨stk++[cur],[⟨nx,[.int .u8 5,.int .i64 elem,.int .i64 len,v]⟩],nz,[]::live,fl⟩⟩) (fun k=>fields.length-k) 0 ?_ ?_
  ·refine⟨⟨w0b _,by simp⟩,?_⟩
   simp only[go_sem,G6,G7]
   simp
  ·rintro k σ ⟨⟨hk,hks⟩,nz,hσ⟩
   rw[hσ]
   clear hσ σ
   dsimp only at hk hks⊢
   by_cases h:k<fields.length
   ·have e2:nth v k= .agg [.str fields[k].name,.int .i64 fields[k].typ]:=q1.nth h
    have hat2:=q1.at .i64 h
    have hlen2:=q1.len
    have hsucc:=zc h q1.max
    simp only[go_sem,G6,G7,G8,w02,h,hlen2,hat2,e2]
    by_cases hf:0≤fields[k].typ∧fields[k].typ<i
    ·have hkn:=zB (P:=fun f=>0≤f.typ∧f.typ<i) h hks hf
     simp only[go_sem,G6,G8,show¬fields[k].typ<0 by omega,show¬fields[k].typ≥i by omega,hat2,e2,hsucc]
     exact⟨k+1,by omega,⟨h,hkn⟩,_,rfl⟩
    ·repeat' (((first|refine uN ?_ ?_|refine yY ?_ ?_|refine yZ ?_ ?_|refine yW ?_ ?_|refine yX ?_ ?_)<;>intro hq)<;>simp only[go_sem,G6,G8,hq,hat2,e2])
     all_goals first
      |(rw[z5 rfl rfl,z6];exact⟨⟨_,rfl⟩,by rw[zk fun h'=>hf (((uQ rfl).1 h').1 _ (w04 h))]⟩)
      |(exfalso;simp only[decide_eq_false_iff_not] at*;omega)
   ·have:k=fields.length:=by omega
    subst this
    rw[w06] at hks
    have hF: ∀m,CALL tab 277 [v,.int .i64 8] m=_:=fun m=>(qq fields 8 v q1 hn m).eq
    simp only[go_sem,G6,G7,G8,w02,h,q1.len]
    repeat' (((first|refine uN ?_ ?_|refine yY ?_ ?_|refine yZ ?_ ?_|refine yW ?_ ?_|refine yX ?_ ?_)<;>intro hq)<;>simp only[go_sem,G6,G8,hq,q1.len,hF])
    all_goals
     rw[z5 rfl rfl,z6]
     refine⟨⟨_,rfl⟩,congrArg AV.bool (Za ?_)⟩
     rw[uQ rfl]
     unfold StructP
     simp only[decide_eq_true_eq,decide_eq_false_iff_not,beq_iff_eq,beq_eq_false_iff_ne,u4] at*
     grind
 ·have hk5:(kind==5)=false:=by simpa using hk
  repeat' (((first|refine uN ?_ ?_|refine yY ?_ ?_|refine yZ ?_ ?_|refine yW ?_ ?_|refine yX ?_ ?_)<;>intro hq)<;>simp only[go_sem,G6,G8,hq,hlen,q1.len,hk5])
  all_goals
   rw[z5 rfl rfl,z6]
   refine⟨⟨_,rfl⟩,congrArg AV.bool (Za ?_)⟩
   unfold FineT
   clear hat hlen e1 q1 hn
   simp only[decide_eq_true_eq,decide_eq_false_iff_not,beq_iff_eq,beq_eq_false_iff_ne] at*
   grind
def ents (ns:List (List UInt8)):List AV:=ns.map fun s=> .tup [.str s,.bool true]
theorem ZA (s:List UInt8): ∀ns,mapGet true (.bool false) (.str s) (ents ns)=some (.bool (pb (s∈ns)))
 | []=>by rw[zk (by simp)];rfl
 |n::r=>by
  have ih:=ZA s r
  simp only[ents,w2e,mapGet,keyEq] at ih⊢
  by_cases h:s=n
  ·subst h;rw[yn w1d];simp
  ·grind
theorem jp (s:List UInt8): ∀ns,s∉ns→mapPut true (.str s) (.bool true) (ents ns)=some (ents (ns++[s]))
 | [],_=>rfl
 |n::r,h=>by
  have ih:=jp s r (fun h'=>h (w2a _ h'))
  have hne:(s==n)=false:=by simp only[beq_eq_false_iff_ne];intro e;exact h (e▸w1d)
  simp only[ents,w2e,w22,mapPut,keyEq,hne] at ih⊢
  rw[ih];rfl
theorem qI {α β:Type} (f:α→β) {l:List α} {i:Nat} (h:i<l.length):(l.map f).take (i+1)=(l.map f).take i++[f l[i]]:=by
 rw[w0c (by simpa using h)];simp
theorem z19 (xs:List DTyp) (x:AV) (hx:IsSl IsTyp 4 xs x) (i:Nat) (hi:i<xs.length) (hw:WfTyp xs[i]) (m:Mem):
  Okv tab 270 [x,.int .i64 i] m (.bool (pb (FineT xs.length i xs[i]))):=by
 refine ze (tT ZV) ?_
 obtain⟨stk,cur,nx,live,fl⟩:=m
 obtain⟨v,e1,q1⟩:=hx.nth hi
 have hlen:=hx.len
 have hat:=hx.at .i64 hi
 have hm:=hx.max
 generalize ht:xs[i]=t at*
 clear ht
 generalize hxn:xs.length=n at*
 obtain⟨kind,elem,len,fields⟩:=t
 dsimp only at e1 q1
 have hlm:=q1.max
 have ew:(0≤IntKind.i64.wrap (len-1)∧IntKind.i64.wrap (len-1)<16)↔(1≤len∧len≤16):=by
  have:=hw.len
  unfold in64 at this
  dsimp only at this
  by_cases hh:len= -9223372036854775808
  ·subst hh;decide
  ·rw[z7 (by omega) (by omega)];omega
 have hW: ∀a b m,CALL tab 320 [.int .i64 a,.int .i64 b] m=_:=fun a b m=>(Tr a b m).eq
 have hz1: ∀a m,CALL tab 321 [.list 1 .full [.int .i64 a]] m=_:=fun a m=>(z8M a m).eq
 have hz2: ∀a b m,CALL tab 321 [.list 1 .full [.int .i64 a,.int .i64 b]] m=_:=fun a b m=>(z8L a b m).eq
 have hz3: ∀a b c m,CALL tab 321 [.list 1 .full [.int .i64 a,.int .i64 b,.int .i64 c]] m=_:=fun a b c m=>(z8K a b c m).eq
 simp only[ZV,go_sem,G3,G6,G8,hat,e1,q1.one]
 by_cases hk:kind=5
 ·subst hk
  have hlen2:=q1.len
  simp only[go_sem,G3,G6,G8,b51,b52,b53,b54,b56,b57,hlen2]
  refine za (α:=Nat) (fun k σ=>(k≤fields.length∧(∀f∈fields.take k,0≤f.typ∧f.typ<i)∧(∀f∈fields.take k,named f.name=true)∧((fields.map DField.name).take k).Nodup)∧ ∃nz,heads [1,5,6,7,72,73,74] 2 σ=⟨tmps 118 [(1,.int .i64 i),(5,.ptr (stk++[cur]).length 0 nx 0),(6,.fn (.func 320) [] []),(7,.mapR (stk++[cur]).length 1 (nx+1)),(72,v),(73,.int .i64 fields.length),(74,.int .i64 k)],
   ⟨stk++[cur],[⟨nx,[.int .u8 5,.int .i64 elem,.int .i64 len,v]⟩,⟨nx+1,[.tup (ents ((fields.map DField.name).take k))]⟩],nz,[]::live,fl⟩⟩) (fun k=>fields.length-k) 0 ?_ ?_
  ·refine⟨⟨w0b _,by simp,by simp,by simp⟩,?_⟩
   simp only[go_sem,G6,G7]
   exact⟨_,rfl⟩
  ·rintro k σ ⟨⟨hk,hks,hkn,hkd⟩,nz,hσ⟩
   rw[hσ]
   clear hσ σ
   dsimp only at hk hks hkn hkd⊢
   have hml:(fields.map DField.name).length=fields.length:=by simp
   by_cases h:k<fields.length
   ·have e2:nth v k= .agg [.str fields[k].name,.int .i64 fields[k].typ]:=q1.nth h
    have hat2:=q1.at .i64 h
    have hsucc:=zc h q1.max
    have hN: ∀m,CALL tab 322 [.str fields[k].name] m=_:=fun m=>(kz fields[k].name m).eq
    simp only[go_sem,G3,G6,G7,G8,w02,h,hat2,e2,hN]
    by_cases hc:named fields[k].name=true
    case neg=>
     have hc':named fields[k].name=false:=by simpa using hc
     simp only[go_sem,G6,G8,hc']
     rw[z5 rfl rfl,z6]
     refine⟨⟨_,rfl⟩,congrArg AV.bool (zk fun h'=> ?_).symm⟩
     exact hc ((((uQ rfl).1 h').2.2.2.2).2.1 _ (w04 h))
    simp only[go_sem,G6,G8,hc,ZA]
    by_cases hs:fields[k].name∈(fields.map DField.name).take k
    ·simp only[go_sem,G6,G8,yn hs]
     rw[z5 rfl rfl,z6]
     refine⟨⟨_,rfl⟩,congrArg AV.bool (zk fun h'=> ?_).symm⟩
     have hnd:=(((uQ rfl).1 h').2.2.2.2).2.2
     obtain⟨j,hj,he⟩:=List.mem_take_iff_getElem.1 hs
     refine VT (l:=fields.map DField.name) (i:=k) (k:=j) (by omega) (by rw[hml];exact h) ?_ hnd
     rw[he];simp
    simp only[go_sem,G6,G8,zk hs,hW]
    by_cases hf:0≤fields[k].typ∧fields[k].typ<i
    case neg=>
     simp only[go_sem,G6,G8,zk hf]
     rw[z5 rfl rfl,z6]
     exact⟨⟨_,rfl⟩,by rw[zk fun h'=>hf (((uQ rfl).1 h').1 _ (w04 h))]⟩
    simp only[go_sem,G6,G8,yn hf,jp _ _ hs,hsucc,w0e]
    have htk:=qI DField.name h
    rw[←htk]
    refine⟨k+1,by omega,⟨h,zB (P:=fun f=>0≤f.typ∧f.typ<i) h hks hf,zB (P:=fun f=>named f.name=true) h hkn hc,?_⟩,_,rfl⟩
    grind
   ·have:k=fields.length:=by omega
    subst this
    rw[w06] at hks hkn
    rw[←hml,w06] at hkd
    simp only[go_sem,G6,G7,G8,w02,h,hz2]
    repeat' (((first|refine uN ?_ ?_|refine yY ?_ ?_|refine yZ ?_ ?_|refine yW ?_ ?_|refine yX ?_ ?_)<;>intro hq)<;>simp only[go_sem,G6,G8,hq,q1.len])
    all_goals
     rw[z5 rfl rfl,z6]
     refine⟨⟨_,rfl⟩,congrArg AV.bool (Za ?_)⟩
     rw[uQ rfl]
     unfold StructP FieldsP
     clear hz1 hz2 hz3 hW ew
     simp only[decide_eq_true_eq,decide_eq_false_iff_not,u4,uM] at*
     grind
 ·have hk5:(kind==5)=false:=by simpa using hk
  repeat' (((first|refine uN ?_ ?_|refine yY ?_ ?_|refine yZ ?_ ?_|refine yW ?_ ?_|refine yX ?_ ?_)<;>intro hq)<;>simp only[go_sem,G6,G8,hq,hlen,q1.len,hk5,hW,hz1,hz2,hz3])
  all_goals
   rw[z5 rfl rfl,z6]
   refine⟨⟨_,rfl⟩,congrArg AV.bool (Za ?_)⟩
   unfold FineT
   clear hat hlen e1 q1 hz1 hz2 hz3 hW
   simp only[beq_iff_eq,beq_eq_false_iff_ne,u4,uM] at*
   grind
def IsN (n:Nat) (y:AV):Prop:=y= .int .i64 (n:Int)
def ValidT (l:List DTyp):Prop:= ∀i (h:i<l.length),FineT l.length i l[i]
def contrib (t:DTyp) (below out:List Nat):Nat:=
 if t.kind=4 then below.getD t.elem.toNat 0 else if t.kind=7 then 16*below.getD t.elem.toNat 0 else if t.kind=6 then t.len.toNat*out.getD t.elem.toNat 0 else 0
def fsum (fs:List DField) (out:List Nat):Nat:=(fs.map fun f=>out.getD f.typ.toNat 0).sum
def w1 (t:DTyp) (below out:List Nat):Nat:=min 5001 (1+contrib t below out+fsum t.fields out)
def rnd (below:List Nat) (l:List DTyp):List Nat:=l.foldl (fun out t=>out++[w1 t below out]) []
def rounds (l:List DTyp):Nat→List Nat
 |0=>List.replicate l.length 0
 |r+1=>rnd (rounds l r) l
theorem WY (b:List Nat) (l:List DTyp) {i:Nat} (h:i<l.length):rnd b (l.take (i+1))=rnd b (l.take i)++[w1 l[i] b (rnd b (l.take i))]:=by
 unfold rnd
 rw[w0c h,List.foldl_append];rfl
theorem T2 (b:List Nat) (l:List DTyp): ∀i,i≤l.length→(rnd b (l.take i)).length=i
 |0,_=>by simp[rnd]
 |i+1,h=>by rw[WY b l h,w0e,T2 b l i (by omega)];rfl
theorem z1u (b:List Nat) (l:List DTyp): ∀i,i≤l.length→ ∀x∈rnd b (l.take i),x≤5001
 |0,_=>by simp[rnd]
 |i+1,h=>by
  rw[WY b l h]
  intro x hx
  rcases w0a.1 hx with hx|hx
  ·exact z1u b l i (by omega) x hx
  ·simp at hx;subst hx;unfold w1;omega
theorem jK (l:List DTyp): ∀r,(rounds l r).length=l.length
 |0=>by simp[rounds]
 |r+1=>by have:=T2 (rounds l r) l l.length (w08 _);rw[w06] at this;exact this
theorem z0h (l:List DTyp): ∀r,∀x∈rounds l r,x≤5001
 |0,x,h=>by simp[rounds] at h;omega
 |r+1,x,h=>by have:=z1u (rounds l r) l l.length (w08 _) x;rw[w06] at this;exact this h
theorem ZE {l:List Nat} {c:Nat} (h: ∀x∈l,x≤c) (i:Nat):l.getD i 0≤c:=by
 rw[w05]
 cases hq:l[i]? with
 |none=>simp
 |some x=>simp only[w33];exact h x (w36 hq)
theorem YK {l:List Nat} {i:Nat} (h:i<l.length):l.getD i 0=l[i]:=by simp[w05,h]
theorem z6w {fs:List DField} {k:Nat} (h:k<fs.length) (out:List Nat):fsum (fs.take (k+1)) out=fsum (fs.take k) out+out.getD fs[k].typ.toNat 0:=by
 unfold fsum
 rw[w0c h,w28,List.sum_append];simp
theorem z5x {fs:List DField} {out:List Nat} {c:Nat} (h: ∀x∈out,x≤c):fsum fs out≤c*fs.length:=by
 unfold fsum
 induction fs with
 |nil=>simp
 |cons f r ih=>
  have:=ZE h f.typ.toNat
  simp only[w2e,List.sum_cons,w46,Nat.mul_add,w0d];omega
def parts (t:DTyp):List Int:=(if t.kind=6 then [t.elem] else [])++t.fields.map DField.typ
theorem Yd (t:DTyp) (x:AV) (hx:IsTyp t x) (hl:t.fields.length≤100) (m:Mem):Okl (IsK .i64) 1 tab 323 [x] m (parts t):=by
 refine tF (tT uA) ?_
 obtain⟨stk,cur,nx,live,fl⟩:=m
 obtain⟨kind,elem,len,fields⟩:=t
 obtain⟨v,rfl,q1⟩:=hx
 dsimp only at q1 hl
 unfold parts
 dsimp only
 simp only[uA,go_sem,G3,G6,G8]
 by_cases hk:kind=6
 ·have hk':(kind==6)=true:=by simpa using hk
  rw[if_pos hk]
  simp only[go_sem,G6,G8,hk']
  refine(Own.nil (R:=IsK .i64) (s:=1) []).xv (zd · _ _ _) (zZ (R:=IsK .i64) (x:=elem) rfl) (by simp) fun y' n' e' ho'=> ?_
  simp only[go_sem,G6,G8]
  rw[w2f] at ho'
  refine za (α:=Nat) (fun k σ=>k≤fields.length∧ ∃nz y e,Own (IsK .i64) 1 y ([elem]++(fields.map DField.typ).take k) e∧heads [1,3,4] 1 σ=⟨tmps 30 [(1,.ptr (stk++[cur]).length 0 nx 0),(3,y),(4,.int .i64 k)],⟨stk++[cur],[⟨nx,[.int .u8 kind,.int .i64 elem,.int .i64 len,v]⟩],nz,e::live,fl⟩⟩) (fun k=>fields.length-k) 0 ?_ ?_
  ·refine⟨w0b _,n',y',e',by simpa using ho',?_⟩
   rfl
  ·rintro k σ ⟨hk,nz,y,e,ho,hσ⟩
   rw[hσ]
   clear hσ σ
   dsimp only at hk⊢
   by_cases h:k<fields.length
   ·have e2:nth v k= .agg [.str fields[k].name,.int .i64 fields[k].typ]:=q1.nth h
    have hat2:=q1.at .i64 h
    simp only[go_sem,G6,G7,G8,w02,h,q1.len,hat2,e2]
    refine ho.xv (zd · _ _ _) (zZ (R:=IsK .i64) (x:=fields[k].typ) rfl) (by simp;omega) fun y' n' e' ho'=> ?_
    simp only[go_sem,G6,G8,zc h q1.max]
    rw[w16,←qI DField.typ h] at ho'
    exact⟨k+1,by omega,h,_,y',e',ho',rfl⟩
   ·have:k=fields.length:=by omega
    subst this
    rw[show(fields.map DField.typ).take fields.length=fields.map DField.typ by rw[show fields.length=(fields.map DField.typ).length by simp,w06]] at ho
    simp only[go_sem,G6,G7,G8,w02,h,q1.len]
    exact xN ho
 ·have hk':(kind==6)=false:=by simpa using hk
  rw[if_neg hk]
  simp only[go_sem,hk']
  refine za (α:=Nat) (fun k σ=>k≤fields.length∧ ∃nz y e,Own (IsK .i64) 1 y ([]++(fields.map DField.typ).take k) e∧heads [1,3,4] 1 σ=⟨tmps 30 [(1,.ptr (stk++[cur]).length 0 nx 0),(3,y),(4,.int .i64 k)],⟨stk++[cur],[⟨nx,[.int .u8 kind,.int .i64 elem,.int .i64 len,v]⟩],nz,e::live,fl⟩⟩) (fun k=>fields.length-k) 0 ?_ ?_
  ·refine⟨w0b _,nx+1,.nils,[],by simpa using Own.nil (R:=IsK .i64) (s:=1) [],?_⟩
   rfl
  ·rintro k σ ⟨hk,nz,y,e,ho,hσ⟩
   rw[hσ]
   clear hσ σ
   dsimp only at hk⊢
   by_cases h:k<fields.length
   ·have e2:nth v k= .agg [.str fields[k].name,.int .i64 fields[k].typ]:=q1.nth h
    have hat2:=q1.at .i64 h
    simp only[go_sem,G6,G7,G8,w02,h,q1.len,hat2,e2]
    refine ho.xv (zd · _ _ _) (zZ (R:=IsK .i64) (x:=fields[k].typ) rfl) (by simp;omega) fun y' n' e' ho'=> ?_
    simp only[go_sem,G6,G8,zc h q1.max]
    rw[w16,←qI DField.typ h] at ho'
    exact⟨k+1,by omega,h,_,y',e',ho',rfl⟩
   ·have:k=fields.length:=by omega
    subst this
    rw[show(fields.map DField.typ).take fields.length=fields.map DField.typ by rw[show fields.length=(fields.map DField.typ).length by simp,w06]] at ho
    simp only[go_sem,G6,G7,G8,w02,h,q1.len]
    exact xN ho
end Go.Proofs.W
end
section
namespace Go.Proofs.W
open Go.Vs
attribute [local go_sem high] zw y9
attribute [local go_sem ↓] w07 w19
attribute [local go_sem low] Yc Yt Yf Yut Yuf xA xB xy xz
attribute [local go_sem 2000] zP
attribute [local go_sem] ql qj qm qk ye zU yB zY yd zA xr xp xo hd kep xm w02 AV.bool.injEq AV.int.injEq not_true_eq_false not_false_eq_true true_implies false_implies and_true true_and implies_true zu zN zM zt zO zC zm zi zr zG zF zq zH zE zl zj w10 zI zJ yz w2b evShift IntKind.bits zQ zK zL z7 zf zV wrap_u32 w18 xx xu allLen zn AV.tup.injEq List.cons.injEq AV.agg.injEq yc ya evBuild xq zS zx zR eqC0 eqC1 eqC2 zT w25 w24
attribute [go_sem] vJ
theorem z7A {n i:Nat} {t:DTyp} (h:FineT n i t): ∀p∈parts t,0≤p∧p<i:=by
 intro p hp
 unfold parts at hp
 rcases h with⟨h1,_,_,h4⟩|⟨h1,_,_,_,h4⟩|⟨h1,h2,h3,_,_,h4⟩|⟨h1,h2⟩
 ·grind
 ·grind
 ·grind
 ·rw[if_neg (by omega)] at hp
  simp only[w2f,w3d] at hp
  obtain⟨f,hf,rfl⟩:=hp
  exact h2.1 f hf
def partBy (t:DTyp):Nat:=if t.kind=6 then t.len.toNat else 1
def psum (t:DTyp) (out:List Nat) (k:Nat):Nat:=(((parts t).take k).map fun p=>partBy t*out.getD p.toNat 0).sum
theorem z63 {t:DTyp} {k:Nat} (h:k<(parts t).length) (out:List Nat):psum t out (k+1)=psum t out k+partBy t*out.getD (parts t)[k].toNat 0:=by
 unfold psum
 rw[w0c h,w28,List.sum_append];simp
theorem z7y {n i:Nat} {t:DTyp} (h:FineT n i t) (out:List Nat):psum t out (parts t).length=(if t.kind=6 then t.len.toNat*out.getD t.elem.toNat 0 else 0)+fsum t.fields out:=by
 unfold psum
 rw[w06]
 unfold parts partBy fsum
 by_cases h6:t.kind=6
 ·have hf:t.fields=[]:=by
   rcases h with⟨h1,_,_,h4⟩|⟨h1,_,_,_,h4⟩|⟨h1,h2,h3,_,_,h4⟩|⟨h1,h2⟩<;>first|omega|exact w2d h4
  simp[h6,hf]
 ·simp[h6,List.map_map,Function.comp_def]
theorem tR {n i:Nat} {t:DTyp} (h:FineT n i t):t.fields.length≤8∧(t.kind=6→1≤t.len∧t.len≤16)∧((t.kind=4∨t.kind=7)→0≤t.elem∧t.elem<n∧t.fields=[])∧(t.kind=6→0≤t.elem∧t.elem<i∧t.fields=[])∧(t.kind≠5→t.fields=[])∧(∀f∈t.fields,0≤f.typ∧f.typ<i):=by
 rcases h with⟨h1,h2,h3,h4⟩|⟨h1,h2,h3,h5,h4⟩|⟨h1,h2,h3,h5,h6,h4⟩|⟨h1,h2⟩
 ·grind
 ·grind
 ·grind
 ·exact⟨by have:=h2.2.2.2.2.1;omega,by omega,by omega,by omega,fun h=>absurd h1 h,h2.1⟩
theorem z66 {n i:Nat} {t:DTyp} (h:FineT n i t):partBy t≤16:=by
 have:=(tR h).2.1
 unfold partBy;split
 ·omega
 ·omega
theorem min5001 (a:Nat):(if(5001:Int)<(a:Int) then(5001:Int) else(a:Int))=((min 5001 a:Nat):Int):=by split<;>omega
theorem toNat_lt {p:Int} {i:Nat} (h:0≤p∧p<i):p.toNat<i:=by omega
theorem Zw {a b:Nat} (ha:a≤16) (hb:b≤5001):a*b≤80016:=w4c (Nat.mul_le_mul ha hb) (by decide)
theorem typV {l:List DTyp} {y:AV} (h:IsSl IsTyp 4 l y): ∃z:Nat→AV,∀j (hj:j<l.length),nth y j= .agg [.int .u8 l[j].kind,.int .i64 l[j].elem,.int .i64 l[j].len,z j]∧IsSl IsField 2 l[j].fields (z j):=by
 have h:=fun j hj=>h.nth (i:=j) hj
 exact⟨fun j=>if hj:j<l.length then(h j hj).choose else .undef,fun j hj=>by simp only[dif_pos hj];exact(h j hj).choose_spec⟩
theorem Tk (l:List DTyp) (x:AV) (hx:IsSl IsTyp 4 l x) (hv:ValidT l) (hl:l.length≤100) (d:Nat) (hd:d≤3) (ih:0<d→ ∀m,Okl IsN 1 tab 274 [x,.int .i64 ((d:Int)-1)] m (rounds l d)) (m:Mem):Okl IsN 1 tab 274 [x,.int .i64 (d:Nat)] m (rounds l (d+1)):=by
 obtain⟨z,ht⟩:=typV hx
 have f0:=nd hx.z<|nd hx.co<|fun j hj=>nd (ht j hj).1 (ht j hj).2.co
 have f:=f0
 have m0:=hx.max
 have hrr:rounds l (d+1)=rnd (rounds l d) l:=rfl
 have hbel:=z0h l d
 have hblen:=jK l d
 have h0:d=0→ ∀j,(rounds l d).getD j 0=0:=fun h j=>by
  subst h
  simp only[rounds,w05,List.getElem?_replicate];split<;>rfl
 rw[hrr]
 refine oklz (tT vJ) fun s c g v e _=> ?_
 generalize rounds l d=R at*
 refine ifs (fun h=> ?_) fun h=> ?_
 rotate_left
 have f0:=nd f0 h
 rotate_left
 refine oc (ih (by omega) _) fun B t k hB=> ?_
 have hs:=hB.sl (by omega)
 have f0:=nd f0<|nd h<|nd hs.z<|nd hs.co fun j (hj:j<R.length)=>show nth B j= .int .i64 (R[j]:Nat) from hs.nth hj
 all_goals
  have f:=f0
  refine st ?_
  refine xn 7 l.length [6] (fun i v e=>Own IsN 1 (v 6) (rnd R (l.take i)) e) 0 ?_ fun i v e nz hi ho=> ?_
  ·simpa [rnd] using Own.nil _
  have hol:=T2 R l i hi
  refine ifs (fun hi'=> ?_) fun hi'=> ?_
  ·have hi:i<l.length:=by omega
   have hfine:=hv i hi
   have hsucc:=WY R l hi
   have hle:=z1u R l i (by omega)
   have hflen:=tR hfine
   have hpok:=z7A hfine
   have hb:=z66 hfine
   generalize rnd R (l.take i)=A at*
   have hs:=ho.sl (by omega)
   have f:=nd f0<|nd hs.z<|nd hs.co fun j (hj:j<A.length)=>show nth (v 6) j= .int .i64 (A[j]:Nat) from hs.nth hj
   refine st ?_
   refine oc (Yd l[i] _ ⟨_,rfl,(ht i hi).2⟩ (by omega) _) fun yp ts np hp=> ?_
   have hplen:(parts l[i]).length≤9:=by unfold parts;rw[w0e,w53];split<;>simp<;>omega
   have hps:=hp.sl (by omega)
   have f:=nd f<|nd hps.z<|nd hps.co fun j (hj:j<(parts l[i]).length)=>show nth yp j= .int .i64 (parts l[i])[j] from hps.nth hj
   refine st ?_
   refine xn 10 (parts l[i]).length [8] (fun k v e'=>v 8= .int .i64 (min 5001 (1+psum l[i] A k):Nat)∧e'=ts++e) 0 ?_ fun k v e' nz hk hp=> ?_
   ·simp[psum]
   obtain⟨h8,rfl⟩:=hp
   have f:=nd f h8
   refine st ?_
   refine ifs (fun hk'=> ?_) fun hk'=> ?_
   ·have hk:k<(parts l[i]).length:=by omega
    have hpk:=hpok _ (w04 hk)
    have hc:=ZE hle (parts l[i])[k].toNat
    have hmul:=Zw hb hc
    have hps:=z63 hk A
    rw[YK (by omega)] at hc hmul hps
    have hm:l[i].kind=6→l[i].len*((A[(parts l[i])[k].toNat]:Nat):Int)=((partBy l[i]*A[(parts l[i])[k].toNat]:Nat):Int):=fun h6=>by
     have:=hflen.2.1 h6
     rw[Int.natCast_mul];unfold partBy;rw[if_pos h6,Int.toNat_of_nonneg (by omega)]
    have hn:l[i].kind≠6→partBy l[i]=1:=fun h6=>by unfold partBy;rw[if_neg h6]
    generalize partBy l[i]=q at*
    have f:=nd f<|nd hm<|nd Int.one_mul min5001
    refine ifs (fun h6=> ?_) fun h6=> ?_
    ·exact⟨hk,by rw[hps];split<;>omega⟩
    ·exact⟨hk,by rw[hps,hn h6];split<;>omega⟩
   ·obtain rfl:k=(parts l[i]).length:=by omega
    have hps:=z7y hfine A
    generalize psum l[i] A (parts l[i]).length=ps at*
    have hfs:=z5x (fs:=l[i].fields) hle
    have hps5:ps≤200000:=by
     rw[hps]
     have:=Nat.mul_le_mul (w08 5001) hflen.1
     split
     ·rename_i h6
      have h16:=hflen.2.1 h6
      have:=Zw (a:=l[i].len.toNat) (by omega) (ZE hle l[i].elem.toNat)
      omega
     ·omega
    by_cases h47:l[i].kind=4∨l[i].kind=7
    ·obtain⟨q1,q2,_⟩:=hflen.2.2.1 h47
     have hc:=ZE hbel l[i].elem.toNat
     rw[YK (by omega)] at hc
     have hz:0<d∨R[l[i].elem.toNat]=0:=by
      rcases Nat.eq_zero_or_pos d with h|h
      ·have:=h0 h l[i].elem.toNat
       rw[YK (by omega)] at this
       exact .inr this
      ·exact .inl h
     have h6: ¬l[i].kind=6:=by omega
     rw[if_neg h6] at hps
     have h74:l[i].kind=4→(l[i].kind=7)=False:=fun h=>by simp[h]
     have f:=nd f h74
     refine st ?_
     try refine ifs (fun h4=> ?_) fun h4=> ?_
     try any_goals refine ifs (fun h7=> ?_) fun h7=> ?_
     try any_goals omega
     all_goals
      refine oa ho (zZ (R:=IsN) (x:=w1 l[i] R A) ?_) (by simp;omega) fun y k e ho=> ?_
      ·refine congrArg (AV.int .i64) ?_
       unfold w1 contrib
       rw[YK (by omega),if_neg h6]
       generalize R[l[i].elem.toNat]=r at*
       clear f f0 ih h74
       repeat' split
       all_goals omega
      ·exact⟨hi,by rw[hsucc];exact ho⟩
    ·have f:=nd f<|nd (show(l[i].kind=4)=False by simp;omega) (show(l[i].kind=7)=False by simp;omega)
     refine st ?_
     refine oa ho (zZ (R:=IsN) (x:=w1 l[i] R A) ?_) (by simp;omega) fun y k e ho=> ?_
     ·refine congrArg (AV.int .i64) ?_
      unfold w1 contrib
      rw[if_neg (fun h=>h47 (.inl h)),if_neg (fun h=>h47 (.inr h))]
      omega
     ·exact⟨hi,by rw[hsucc];exact ho⟩
  ·obtain rfl:i=l.length:=by omega
   rw[w06] at ho
   exact fo ho rfl
theorem qo (l:List DTyp) (x:AV) (hx:IsSl IsTyp 4 l x) (hv:ValidT l) (hl:l.length≤100): ∀(d:Nat),d≤3→ ∀m,Okl IsN 1 tab 274 [x,.int .i64 (d:Nat)] m (rounds l (d+1))
 |0,hd=>Tk l x hx hv hl 0 hd fun h=>absurd h (Nat.lt_irrefl 0)
 |d+1,hd=>Tk l x hx hv hl (d+1) hd fun _ m=>by
  rw[show((d+1:Nat):Int)-1=(d:Nat) by omega]
  exact qo l x hx hv hl d (by omega) m
end Go.Proofs.W
end
section
namespace Go.Proofs.W
open Go.Vs
theorem WU {A:List Nat} {n i v:Nat} (h:A.length=i) (hi:i<n):(A++List.replicate (n-i) 0).set i v=A++[v]++List.replicate (n-(i+1)) 0:=by
 rw[List.set_append,if_neg (by omega)]
 rw[show n-i=(n-(i+1))+1 by omega,w44,show i-A.length=0 by omega]
 simp
theorem z84 {A B:List Nat} {j:Nat} (h:j<A.length):(A++B).getD j 0=A.getD j 0:=by
 grind
theorem Tq (l:List DTyp) (x:AV) (hx:IsSl IsTyp 4 l x) (hv:ValidT l) (hl:l.length≤100) (stk:List (List Blk)) (cur:List Blk) (nx fl:Nat) (live:List (List Nat)):
  ∃bs j st k,CALL tab 271 [x] ⟨stk,cur,nx,live,fl⟩=some (.arr stk.length (cur.length+j) st 0 l.length,⟨stk,cur++bs,k,live,fl⟩)∧bs[j]? =some ⟨st,ints (rounds l 4)⟩:=by
 suffices h:Does tab 271 [x] ⟨stk,cur,nx,live,fl⟩ fun v m'=> ∃bs j st k,v= .arr stk.length (cur.length+j) st 0 l.length∧m'=⟨stk,cur++bs,k,live,fl⟩∧bs[j]? =some ⟨st,ints (rounds l 4)⟩ by
  obtain⟨z,h1,bs,j,st,k,h2,h3,h4⟩:=h
  grind
 refine yq (tT jW) ?_ (Nat.le_of_ble_eq_true rfl)
 have hmk: ∀m:Mem,evMake m 1 8 [.int .i64 0] (.int .i64 l.length) (.int .i64 l.length)=some (.arr m.stk.length m.cur.length m.nx 0 l.length,{m with cur:=m.cur++[⟨m.nx,ints (List.replicate l.length 0)⟩],nx:=m.nx+1}):=fun m=>by
  unfold evMake
  simp only
  rw[if_pos ⟨trivial,by omega,by omega,by omega,rfl⟩,w10,z2V]
 simp only[jW,go_sem,G6,G8,hx.len,hmk]
 refine za (α:=Nat) (fun r σ=>r≤4∧ ∃L k st nz,k<L.length∧L[k]? =some ⟨st,ints (rounds l r)⟩∧heads [0,3,13,999999] 1 σ=⟨tmps 82 [(0,x),(3,.arr (stk++[cur]).length k st 0 l.length),(13,.int .i64 r),(999999,.undef)],⟨stk++[cur],L,nz,[]::live,fl⟩⟩) (fun r=>4-r) 0 ?_ ?_
 ·refine⟨by omega,[⟨nx,ints (List.replicate l.length 0)⟩],0,nx,nx+1,by simp,rfl,?_⟩
  rfl
 ·rintro r σ ⟨hr,L,kb,st,nz,hkb,hLk,hσ⟩
  rw[hσ]
  clear hσ σ
  dsimp only at hr⊢
  by_cases h4:r<4
  ·have h4':(r:Int)<4:=by omega
   have hr1:IntKind.i64.wrap ((r:Int)+1)=((r+1:Nat):Int):=by rw[z7 (by omega) (by omega)];omega
   simp only[go_sem,G6,G7,G8,yS,h4',hx.len,hmk]
   have hbel:=z0h l r
   have hblen:=jK l r
   have hrr:rounds l (r+1)=rnd (rounds l r) l:=rfl
   generalize rounds l r=bel at*
   refine za (α:=Nat) (fun i σ=>i≤l.length∧ ∃nz',heads [0,3,4,13,18,19,20] (L.length+1) σ=⟨tmps 82 [(0,x),(3,.arr (stk++[cur]).length kb st 0 l.length),(4,.arr (stk++[cur]).length L.length nz 0 l.length),(13,.int .i64 r),(18,x),(19,.int .i64 l.length),(20,.int .i64 i)],⟨stk++[cur],L++[⟨nz,ints (rnd bel (l.take i)++List.replicate (l.length-i) 0)⟩],nz',[]::live,fl⟩⟩) (fun i=>l.length-i) 0 ?_ ?_
   ·refine⟨w0b _,?_⟩
    simp only[go_sem,G6,G7,xO,rnd,Nat.sub_zero]
    simp
   ·rintro i σ ⟨hi,nz',hσ⟩
    rw[hσ]
    clear hσ σ
    dsimp only at hi⊢
    by_cases h:i<l.length
    ·have hfine:=hv i h
     obtain⟨v,e1,q1⟩:=hx.nth h
     have hat:=hx.at .i64 h
     have hAl:=T2 bel l i hi
     have hrs:=WY bel l h
     have hle:=z1u bel l i hi
     have hflen:=tR hfine
     generalize hout:rnd bel (l.take i)=A at*
     have hmax:=hx.max
     generalize ht:l[i]=t at*
     clear ht
     generalize hn:l.length=n at*
     obtain⟨kind,elem,len,fields⟩:=t
     dsimp only at e1 q1 hflen
     have hgA: ∀j,j<i→takeV false 1 ((ints (A++List.replicate (n-i) 0)).drop j)=some (.int .i64 ((A.getD j 0:Nat):Int)):=fun j hj=>by
      rw[Vc (by simp;omega),z84 (by omega)]
     have hgB: ∀j,j<n→takeV false 1 ((ints bel).drop j)=some (.int .i64 ((bel.getD j 0:Nat):Int)):=fun j hj=>Vc (by omega)
     have hcB:=ZE hbel elem.toNat
     have hcA:=ZE hle elem.toNat
     simp only[go_sem,G3,G6,G7,G8,yS,Vq,z9N,w02,h,hat,e1,q1.one]
     by_cases k4:kind=4
     ·subst k4
      have hel:=hflen.2.2.1 (.inl rfl)
      have hf:=hel.2.2
      have hix:=tG .i64 (p:=elem) (n:=n) ⟨hel.1,hel.2.1⟩
      have ew:IntKind.i64.wrap (1+((bel.getD elem.toNat 0:Nat):Int))=((1+bel.getD elem.toNat 0:Nat):Int):=by rw[z7 (by omega) (by omega)];omega
      have hV:min 5001 (1+bel.getD elem.toNat 0)=w1 ⟨4,elem,len,fields⟩ bel A:=by unfold w1 contrib fsum;simp[hf]
      simp only[go_sem,G6,G8,yS,Vq,w0d,z8,hix,z3m _ _ _ hkb,hLk,hgB _ (show elem.toNat<n by omega),ew,q1.len]
      have hf0:((fields.length:Nat):Int)=0:=by rw[hf];rfl
      rw[yG]
      simp only[go_sem,G6,G7,G8,kr,Vo,hf0,(by decide: ¬(0:Int)<0)]
      have hsucc:=zc h hmax
      have hix:=tG .i64 (p:=(i:Int)) (n:=n) (by omega)
      rw[w10] at hix
      have hset:=YJ (ws:=A++List.replicate (n-i) 0) (j:=i) (min 5001 (1+bel.getD elem.toNat 0)) (by simp;omega)
      rw[WU hAl h,hV,←hrs] at hset
      have hcl:decide (i+1≤(A++List.replicate (n-i) 0).length)=true:=by simp;omega
      simp only[go_sem,G6,G8,Vr,Tf,kr,Ze,w0d,z8,hix,min5001,hcl,hset,hV,hsucc]
      exact⟨i+1,by omega,h,_,rfl⟩
     have k4':(kind==4)=false:=by simpa using k4
     by_cases k7:kind=7
     ·subst k7
      have hel:=hflen.2.2.1 (.inr rfl)
      have hf:=hel.2.2
      have hix:=tG .i64 (p:=elem) (n:=n) ⟨hel.1,hel.2.1⟩
      have ew:IntKind.i64.wrap (1+IntKind.i64.wrap (16*((bel.getD elem.toNat 0:Nat):Int)))=((1+16*bel.getD elem.toNat 0:Nat):Int):=by
       rw[z7 (n:=16*_) (by omega) (by omega),z7 (by omega) (by omega)];omega
      have hV:min 5001 (1+16*bel.getD elem.toNat 0)=w1 ⟨7,elem,len,fields⟩ bel A:=by unfold w1 contrib fsum;simp[hf]
      simp only[go_sem,G6,G8,yS,Vq,w0d,k4',z8,hix,z3m _ _ _ hkb,hLk,hgB _ (show elem.toNat<n by omega),ew,q1.len]
      have hf0:((fields.length:Nat):Int)=0:=by rw[hf];rfl
      rw[yG]
      simp only[go_sem,G6,G7,G8,kr,Vo,hf0,(by decide: ¬(0:Int)<0)]
      have hsucc:=zc h hmax
      have hix:=tG .i64 (p:=(i:Int)) (n:=n) (by omega)
      rw[w10] at hix
      have hset:=YJ (ws:=A++List.replicate (n-i) 0) (j:=i) (min 5001 (1+16*bel.getD elem.toNat 0)) (by simp;omega)
      rw[WU hAl h,hV,←hrs] at hset
      have hcl:decide (i+1≤(A++List.replicate (n-i) 0).length)=true:=by simp;omega
      simp only[go_sem,G6,G8,Vr,Tf,kr,Ze,w0d,z8,hix,min5001,hcl,hset,hV,hsucc]
      exact⟨i+1,by omega,h,_,rfl⟩
     have k7':(kind==7)=false:=by simpa using k7
     by_cases k6:kind=6
     ·subst k6
      have hel:=hflen.2.2.2.1 rfl
      have hf:=hel.2.2
      have hlen:=hflen.2.1 rfl
      have hmul:=Zw (a:=len.toNat) (by omega) hcA
      have hix:=tG .i64 (p:=elem) (n:=n) ⟨hel.1,by omega⟩
      have ew:IntKind.i64.wrap (1+IntKind.i64.wrap (len*((A.getD elem.toNat 0:Nat):Int)))=((1+len.toNat*A.getD elem.toNat 0:Nat):Int):=by
       have:len*((A.getD elem.toNat 0:Nat):Int)=((len.toNat*A.getD elem.toNat 0:Nat):Int):=by
        grind
       rw[this,z7 (n:=((len.toNat*A.getD elem.toNat 0:Nat):Int)) (by omega) (by omega),z7 (by omega) (by omega)];omega
      have hV:min 5001 (1+len.toNat*A.getD elem.toNat 0)=w1 ⟨6,elem,len,fields⟩ bel A:=by unfold w1 contrib fsum;simp[hf]
      simp only[go_sem,G6,G8,yS,Vr,Vq,w0d,k4',k7',z8,hix,hgA _ (show elem.toNat<i by omega),ew,q1.len]
      have hf0:((fields.length:Nat):Int)=0:=by rw[hf];rfl
      rw[yG]
      simp only[go_sem,G6,G7,G8,kr,Vo,hf0,(by decide: ¬(0:Int)<0)]
      have hsucc:=zc h hmax
      have hix:=tG .i64 (p:=(i:Int)) (n:=n) (by omega)
      rw[w10] at hix
      have hset:=YJ (ws:=A++List.replicate (n-i) 0) (j:=i) (min 5001 (1+len.toNat*A.getD elem.toNat 0)) (by simp;omega)
      rw[WU hAl h,hV,←hrs] at hset
      have hcl:decide (i+1≤(A++List.replicate (n-i) 0).length)=true:=by simp;omega
      simp only[go_sem,G6,G8,Vr,Tf,kr,Ze,w0d,z8,hix,min5001,hcl,hset,hV,hsucc]
      exact⟨i+1,by omega,h,_,rfl⟩
     have k6':(kind==6)=false:=by simpa using k6
     simp only[go_sem,G6,G8,yS,Vq,k4',k7',k6',q1.len]
     refine za (α:=Nat) (fun k σ=>k≤fields.length∧ ∃nz'',heads [0,3,4,5,7,13,18,19,20,59,60,61] (L.length+2) σ=⟨tmps 82 [(0,x),(3,.arr (stk++[cur]).length kb st 0 n),(4,.arr (stk++[cur]).length L.length nz 0 n),(5,.int .i64 i),(7,.int .i64 ((1+fsum (fields.take k) A:Nat):Int)),(13,.int .i64 r),(18,x),(19,.int .i64 n),(20,.int .i64 i),(59,v),(60,.int .i64 fields.length),(61,.int .i64 k)],
      ⟨stk++[cur],L++[⟨nz,ints (A++List.replicate (n-i) 0)⟩]++[⟨nz',[.int .u8 kind,.int .i64 elem,.int .i64 len,v]⟩],nz'',[]::live,fl⟩⟩) (fun k=>fields.length-k) 0 ?_ ?_
     ·refine⟨w0b _,?_⟩
      simp only[go_sem,G6,G7,Vo,fsum]
      simp
     ·rintro k σ ⟨hk,nz'',hσ⟩
      rw[hσ]
      clear hσ σ
      dsimp only at hk⊢
      have hfs:=z5x (fs:=fields.take k) hle
      have hfl:(fields.take k).length≤8:=by rw[w1f];omega
      have hfs8:fsum (fields.take k) A≤40008:=w4c hfs (by omega)
      by_cases hkl:k<fields.length
      ·have e2:nth v k= .agg [.str fields[k].name,.int .i64 fields[k].typ]:=q1.nth hkl
       have hat2:=q1.at .i64 hkl
       have htk:=hflen.2.2.2.2.2 _ (w04 hkl)
       have hix:=tG .i64 (p:=fields[k].typ) (n:=n) ⟨htk.1,by omega⟩
       have hcA:=ZE hle fields[k].typ.toNat
       have hsu:=z6w hkl A
       have ew:IntKind.i64.wrap (((1+fsum (fields.take k) A:Nat):Int)+((A.getD fields[k].typ.toNat 0:Nat):Int))=((1+fsum (fields.take (k+1)) A:Nat):Int):=by rw[z7 (by omega) (by omega)];omega
       simp only[go_sem,G3,G6,G7,G8,yS,z9P,z9O,z9M,z9L,w0d,w02,hkl,hat2,e2,z8,hix,hgA _ (show fields[k].typ.toNat<i by omega),ew,zc hkl q1.max]
       exact⟨k+1,by omega,hkl,_,rfl⟩
      ·have:k=fields.length:=by omega
       subst this
       rw[w06] at hfs8⊢
       have hV:min 5001 (1+fsum fields A)=w1 ⟨kind,elem,len,fields⟩ bel A:=by unfold w1 contrib;rw[if_neg k4,if_neg k7,if_neg k6]
       simp only[go_sem,G6,G7,G8,kr,w02,hkl]
       have hsucc:=zc h hmax
       have hix:=tG .i64 (p:=(i:Int)) (n:=n) (by omega)
       rw[w10] at hix
       have hset:=YJ (ws:=A++List.replicate (n-i) 0) (j:=i) (min 5001 (1+fsum fields A)) (by simp;omega)
       rw[WU hAl h,hV,←hrs] at hset
       have hcl:decide (i+1≤(A++List.replicate (n-i) 0).length)=true:=by simp;omega
       simp only[go_sem,G6,G8,Vr,Tf,kr,Ze,w0d,z8,hix,min5001,hcl,hset,hV,hsucc]
       exact⟨i+1,by omega,h,_,rfl⟩
    ·have:i=l.length:=by omega
     subst this
     rw[w06,Nat.sub_self,List.replicate_zero,w1b]
     simp only[go_sem,G6,G7,G8,w02,h,hr1]
     exact⟨r+1,by omega,h4,_,L.length,nz,_,by simp,by rw[hrr];simp,rfl⟩
  ·have:r=4:=by omega
   subst this
   simp only[go_sem,G4,G6,G7,G8,(by decide: ¬(((4:Nat):Int)<4))]
   obtain⟨bs,hbs,hg⟩:=z6i (m0:=⟨stk,cur,nx,live,fl⟩) (stk:=stk) (cur:=cur) (c':=L) (nx':=nz) (own:=[]) (live':=live) (fl':=fl) (k:=kb) (st:=st) (off:=0) (len:=l.length)
   rw[hbs,z6]
   grind
def CheckP (l:List DTyp):Prop:=l.length≤32∧ValidT l∧ ∀w∈rounds l 4,w≤5000
noncomputable def err04 (l:List DTyp):Int:=if pb (CheckP l) then 0 else 8
theorem ZK {l:List DTyp} (h: ¬CheckP l):err04 l=8:=by unfold err04;rw[zk h];rfl
theorem Qb {l:List DTyp} (h:CheckP l):err04 l=0:=by unfold err04;rw[yn h];rfl
def WfTypes (l:List DTyp):Prop:= ∀t∈l,WfTyp t
theorem WfTypes.names {l:List DTyp} (h:WfTypes l) {i:Nat} (hi:i<l.length):NamesOk l[i].fields:=fun f hf=>((h _ (w04 hi)).fields f hf).name
theorem kA (l:List DTyp) (x:AV) (hx:IsSl IsTyp 4 l x) (hw:WfTypes l) (m:Mem):Okv tab 204 [x] m (.int .i64 (err04 l)):=by
 refine ze (tT kN) ?_
 obtain⟨stk,cur,nx,live,fl⟩:=m
 simp only[kN,go_sem,G6,G8,hx.len]
 by_cases hl:(l.length:Int)>32
 ·simp only[go_sem,G6,G8,hl]
  rw[z5 rfl rfl,z6]
  exact⟨⟨_,rfl⟩,by rw[ZK fun h'=>by have:=h'.1;omega]⟩
 simp only[go_sem,G6,G8,hl,hx.len]
 refine za (α:=Nat) (fun i σ=>(i≤l.length∧ ∀j (h:j<l.length),j<i→FineT l.length j l[j])∧ ∃nz,heads [0,10,11] 0 σ=⟨tmps 29 [(0,x),(10,.int .i64 l.length),(11,.int .i64 i)],⟨stk++[cur],[],nz,[]::live,fl⟩⟩) (fun i=>l.length-i) 0 ?_ ?_
 ·refine⟨⟨w0b _,fun j _ h=>absurd h (w34 _)⟩,?_⟩
  simp only[go_sem,G6,G7]
  simp
 ·rintro i σ ⟨⟨hi,hv⟩,nz,hσ⟩
  rw[hσ]
  clear hσ σ
  dsimp only at hi hv⊢
  by_cases h:i<l.length
  ·have hF:=fun m=>z19 l x hx i h (hw _ (w04 h)) m
   by_cases hf:FineT l.length i l[i]
   ·rw[yn hf] at hF
    have hFe:=fun m=>(hF m).eq
    simp only[go_sem,G6,G7,G8,w02,h,hFe,zc h hx.max]
    refine⟨i+1,by omega,⟨h,fun j hj hji=> ?_⟩,_,rfl⟩
    grind
   ·rw[zk hf] at hF
    have hFe:=fun m=>(hF m).eq
    simp only[go_sem,G6,G7,G8,w02,h,hFe]
    rw[z5 rfl rfl,z6]
    exact⟨⟨_,rfl⟩,by rw[ZK fun h'=>hf (h'.2.1 i h)]⟩
  ·have:i=l.length:=by omega
   subst this
   have hval:ValidT l:=fun j hj=>hv j hj hj
   simp only[go_sem,G6,G7,G8,w02,h]
   obtain⟨bs,j,st,k,hcall,hbs⟩:=Tq l x hx hval (by omega) (stk++[cur]) [] nz fl ([]::live)
   simp only[go_sem,G6,G8,hcall,evLen]
   have hwl:=jK l 4
   refine za (α:=Nat) (fun i σ=>(i≤l.length∧ ∀w∈(rounds l 4).take i,w≤5000)∧ ∃nz,heads [20,21,22] bs.length σ=⟨tmps 29 [(20,.arr (stk++[cur]).length j st 0 l.length),(21,.int .i64 l.length),(22,.int .i64 i)],⟨stk++[cur],bs,nz,[]::live,fl⟩⟩) (fun i=>l.length-i) 0 ?_ ?_
   ·refine⟨⟨w0b _,by simp⟩,?_⟩
    simp only[go_sem,G6,G7,w06]
    simp
   ·rintro i σ ⟨⟨hi,hws⟩,nz,hσ⟩
    rw[hσ]
    clear hσ σ
    dsimp only at hi hws⊢
    by_cases h:i<l.length
    ·have hix:=tG .i64 (p:=(i:Int)) (n:=l.length) (by omega)
     rw[w10] at hix
     have hg:=Vc (ws:=rounds l 4) (j:=i) (by omega)
     rw[YK (by omega)] at hg
     by_cases hw:(rounds l 4)[i]≤5000
     ·simp only[go_sem,G6,G7,G8,w02,h,z8,hix,w0d,hbs,hg,show¬(((rounds l 4)[i]:Nat):Int)>5000 by omega,zc h hx.max,w06]
      exact⟨i+1,by omega,⟨h,zB (P:=fun w=>w≤5000) (by omega) hws hw⟩,_,rfl⟩
     ·simp only[go_sem,G6,G7,G8,w02,h,z8,hix,w0d,hbs,hg,show(((rounds l 4)[i]:Nat):Int)>5000 by omega]
      rw[z5 rfl rfl,z6]
      exact⟨⟨_,rfl⟩,by rw[ZK fun h'=>hw (h'.2.2 _ (w04 (by omega)))]⟩
    ·have:i=l.length:=by omega
     subst this
     rw[←hwl,w06] at hws
     simp only[go_sem,G6,G7,G8,w02,h]
     rw[z5 rfl rfl,z6]
     exact⟨⟨_,rfl⟩,by rw[Qb ⟨by omega,hval,hws⟩]⟩
theorem Yg (l:List DTyp) (x:AV) (hx:IsSl IsTyp 4 l x) (hw:WfTypes l) (m:Mem):Okv tab 213 [x] m (.int .i64 (err04 l)):=by
 refine ze (tT uD) ?_
 obtain⟨stk,cur,nx,live,fl⟩:=m
 simp only[uD,go_sem,G6,G8,hx.len]
 by_cases hl:(l.length:Int)>32
 ·simp only[go_sem,G6,G8,hl]
  rw[z5 rfl rfl,z6]
  exact⟨⟨_,rfl⟩,by rw[ZK fun h'=>by have:=h'.1;omega]⟩
 simp only[go_sem,hl]
 refine za (α:=Nat) (fun i σ=>(i≤l.length∧ ∀j (h:j<l.length),j<i→FineT l.length j l[j])∧ ∃nz,heads [0,3] 0 σ=⟨tmps 32 [(0,x),(3,.int .i64 i)],⟨stk++[cur],[],nz,[]::live,fl⟩⟩) (fun i=>l.length-i) 0 ?_ ?_
 ·refine⟨⟨w0b _,fun j _ h=>absurd h (w34 _)⟩,?_⟩
  simp only[go_sem,G6,G7]
  simp
 ·rintro i σ ⟨⟨hi,hv⟩,nz,hσ⟩
  rw[hσ]
  clear hσ σ
  dsimp only at hi hv⊢
  by_cases h:i<l.length
  ·have hF:=fun m=>Yl l x hx i h (hw.names h) m
   by_cases hf:FineT l.length i l[i]
   ·rw[yn hf] at hF
    have hFe:=fun m=>(hF m).eq
    simp only[go_sem,G6,G7,G8,w02,h,hx.len,hFe,zc h hx.max]
    refine⟨i+1,by omega,⟨h,fun j hj hji=> ?_⟩,_,rfl⟩
    grind
   ·rw[zk hf] at hF
    have hFe:=fun m=>(hF m).eq
    simp only[go_sem,G6,G7,G8,w02,h,hx.len,hFe]
    rw[z5 rfl rfl,z6]
    exact⟨⟨_,rfl⟩,by rw[ZK fun h'=>hf (h'.2.1 i h)]⟩
  ·have:i=l.length:=by omega
   subst this
   have hval:ValidT l:=fun j hj=>hv j hj hj
   simp only[go_sem,G6,G7,G8,w02,h,hx.len]
   refine(qo l x hx hval (by omega) 3 (by omega) _).xv fun y ts n ho=> ?_
   simp only[go_sem,G6,G8]
   have hwl:=jK l 4
   refine za (α:=Nat) (fun i σ=>(i≤l.length∧ ∀w∈(rounds l 4).take i,w≤5000)∧ ∃nz,heads [0,4,5] 0 σ=⟨tmps 32 [(0,x),(4,y),(5,.int .i64 i)],⟨stk++[cur],[],nz,ts::live,fl⟩⟩) (fun i=>l.length-i) 0 ?_ ?_
   ·refine⟨⟨w0b _,by simp⟩,?_⟩
    simp only[go_sem,G6,G7]
    simp
   ·rintro i σ ⟨⟨hi,hws⟩,nz,hσ⟩
    rw[hσ]
    clear hσ σ
    dsimp only at hi hws⊢
    by_cases h:i<l.length
    ·have hiw:i<(rounds l (3+1)).length:=by rw[jK];exact h
     have e1:nth y i= .int .i64 ((rounds l (3+1))[i]:Nat):=ho.nth hiw
     by_cases hw:(rounds l (3+1))[i]≤5000
     ·simp only[go_sem,G3,G6,G7,G8,w02,h,hx.len,ho.at _ hiw,e1,show¬(((rounds l (3+1))[i]:Nat):Int)>5000 by omega,zc h hx.max]
      exact⟨i+1,by omega,⟨h,zB (P:=fun w=>w≤5000) (by omega) hws hw⟩,_,rfl⟩
     ·simp only[go_sem,G3,G6,G7,G8,w02,h,hx.len,ho.at _ hiw,e1,show(((rounds l (3+1))[i]:Nat):Int)>5000 by omega]
      rw[z5 rfl rfl,z6]
      exact⟨⟨_,rfl⟩,by rw[ZK fun h'=>hw (h'.2.2 _ (w04 hiw))]⟩
    ·have:i=l.length:=by omega
     subst this
     rw[←hwl,w06] at hws
     simp only[go_sem,G6,G7,G8,w02,h,hx.len]
     rw[z5 rfl rfl,z6]
     exact⟨⟨_,rfl⟩,by rw[Qb ⟨by omega,hval,hws⟩]⟩
def up (n a:Nat):Nat:=(n+a-1)/a*a
theorem z3O (n:Nat):up n 1=n:=by unfold up;simp
theorem Ty (n:Nat):up n 8=(n+7)/8*8:=rfl
def is18 (a:Nat):Prop:=a=1∨a=8
theorem Tw {n a:Nat} (h:is18 a):n≤up n a∧up n a≤n+7:=by
 rcases h with rfl|rfl
 ·rw[z3O];omega
 ·rw[Ty];omega
theorem z7Y {a b:Nat} (ha:is18 a) (hb:is18 b):is18 (max a b):=by unfold is18 at*;omega
theorem z8q (x:BitVec 64):(x&&& ~~~(7#64)).toNat=x.toNat/8*8:=by
 apply Nat.eq_of_testBit_eq
 intro i
 rw[BitVec.testBit_toNat,BitVec.getLsbD_and,BitVec.getLsbD_not,show(8:Nat)=2^3 from rfl,Nat.testBit_mul_two_pow,Nat.testBit_div_two_pow,BitVec.testBit_toNat]
 by_cases h3:3≤i
 ·have:(7#64).getLsbD i=false:=by
   rw[←BitVec.testBit_toNat]
   exact Nat.testBit_lt_two_pow (w58 (by decide:(7#64).toNat<2^3) (w50 (by omega) h3))
  grind
 ·have:i=0∨i=1∨i=2:=by omega
  grind
theorem z0Q {n a:Nat} (h:is18 a) (hn:n≤4194304):evBits .andNot .i64 (IntKind.i64.wrap (IntKind.i64.wrap ((n:Int)+(a:Int))-1)) (IntKind.i64.wrap ((a:Int)-1))=some (.int .i64 ((up n a:Nat):Int)):=by
 have e0:(a:Int)=1∨(a:Int)=8:=by unfold is18 at h;omega
 have e1:IntKind.i64.wrap ((n:Int)+(a:Int))=n+a:=z7 (by omega) (by omega)
 have e2:IntKind.i64.wrap ((n:Int)+a-1)=n+a-1:=z7 (by omega) (by omega)
 have e3:IntKind.i64.wrap ((a:Int)-1)=a-1:=z7 (by omega) (by omega)
 rw[e1,e2,e3]
 have hx: ∀y:Nat,y≤5000000→(BitVec.ofInt 64 (y:Int)).toNat=y:=fun y hy=>by
  grind
 refine congrArg (fun z=>some (AV.int .i64 z)) (?_:IntKind.i64.wrap ((BitVec.ofInt 64 ((n:Int)+a-1)&&& ~~~BitVec.ofInt 64 ((a:Int)-1)).toNat:Int)=((up n a:Nat):Int))
 rcases h with rfl|rfl
 ·have:BitVec.ofInt 64 (((1:Nat):Int)-1)=0#64:=rfl
  rw[this]
  have h2:(BitVec.ofInt 64 ((n:Int)+((1:Nat):Int)-1)&&& ~~~(0#64))=BitVec.ofInt 64 (n:Int):=by
   rw[show(n:Int)+((1:Nat):Int)-1=n by omega,show~~~(0#64)=BitVec.allOnes 64 from by decide,BitVec.and_allOnes]
  rw[h2,hx n (by omega),z3O,z7 (by omega) (by omega)]
 ·have:BitVec.ofInt 64 (((8:Nat):Int)-1)=7#64:=rfl
  rw[this,z8q,show(n:Int)+((8:Nat):Int)-1=((n+7:Nat):Int) by omega,hx _ (by omega),Ty,z7 (by omega) (by omega)]
def togStep (far:Nat) (out:List (Nat×Nat)) (s:List Nat×Nat×Nat) (f:DField):List Nat×Nat×Nat:=
 (s.1++[up s.2.1 (out.getD f.typ.toNat (0,0)).2],min far (up s.2.1 (out.getD f.typ.toNat (0,0)).2+(out.getD f.typ.toNat (0,0)).1),max s.2.2 (out.getD f.typ.toNat (0,0)).2)
def tog (far:Nat) (out:List (Nat×Nat)) (fs:List DField):List Nat×Nat×Nat:=fs.foldl (togStep far out) ([],0,1)
def togEnd (far:Nat) (out:List (Nat×Nat)) (fs:List DField):Nat×Nat:=(min far (up (tog far out fs).2.1 (tog far out fs).2.2),(tog far out fs).2.2)
def ext1 (far:Nat) (out:List (Nat×Nat)) (t:DTyp):Nat×Nat:=
 if t.kind=1 then(1,1) else if t.kind=3 then(16,8) else if t.kind=7 then(24,8) else if t.kind=6 then(min far (t.len.toNat*(out.getD t.elem.toNat (0,0)).1),(out.getD t.elem.toNat (0,0)).2)
 else if t.kind=5 then togEnd far out t.fields else(8,8)
def exts (far:Nat) (l:List DTyp):List (Nat×Nat):=l.foldl (fun out t=>out++[ext1 far out t]) []
theorem Yz (far:Nat) (out:List (Nat×Nat)) {fs:List DField} {k:Nat} (h:k<fs.length):tog far out (fs.take (k+1))=togStep far out (tog far out (fs.take k)) fs[k]:=by
 unfold tog;rw[w0c h,List.foldl_append];rfl
theorem jz (far:Nat) {l:List DTyp} {i:Nat} (h:i<l.length):exts far (l.take (i+1))=exts far (l.take i)++[ext1 far (exts far (l.take i)) l[i]]:=by
 unfold exts;rw[w0c h,List.foldl_append];rfl
theorem vg (far:Nat) (l:List DTyp): ∀i,i≤l.length→(exts far (l.take i)).length=i
 |0,_=>by simp[exts]
 |i+1,h=>by rw[jz far h,w0e,vg far l i (by omega)];rfl
def GoodP (out:List (Nat×Nat)):Prop:= ∀p∈out,p.1≤1048576∧is18 p.2
theorem GoodP.get {out:List (Nat×Nat)} (h:GoodP out) {j:Nat} (hj:j<out.length):(out.getD j (0,0)).1≤1048576∧is18 (out.getD j (0,0)).2:=by
 have:out.getD j (0,0)=out[j]:=by simp[w05,hj]
 rw[this];exact h _ (w04 hj)
theorem Z8 {far:Nat} (hfar:far≤1048576) {out:List (Nat×Nat)} (h:GoodP out) {fs:List DField} (hf: ∀f∈fs,0≤f.typ∧f.typ<out.length): ∀k,k≤fs.length→(tog far out (fs.take k)).1.length=k∧(tog far out (fs.take k)).2.1≤1048576∧is18 (tog far out (fs.take k)).2.2
 |0,_=>by simp[tog,is18]
 |k+1,hk=>by
  obtain⟨h1,h2,h3⟩:=Z8 hfar h hf k (by omega)
  have hfk:=hf _ (w04 (show k<fs.length by omega))
  have hg:=h.get (j:=fs[k].typ.toNat) (by omega)
  rw[Yz far out (show k<fs.length by omega)]
  exact⟨by simp[togStep,h1],by simp only[togStep];omega,z7Y h3 hg.2⟩
theorem z6y {far:Nat} (hfar:far≤1048576) {out:List (Nat×Nat)} (h:GoodP out) {n i:Nat} {t:DTyp} (hf:FineT n i t) (hi:out.length=i):(ext1 far out t).1≤1048576∧is18 (ext1 far out t).2:=by
 have hl:=tR hf
 unfold ext1
 split
 ·simp[is18]
 ·split
  ·simp[is18]
  ·split
   ·simp[is18]
   ·split
    ·rename_i h6
     have:=hl.2.2.2.1 h6
     exact⟨by simp only;omega,(h.get (by omega)).2⟩
    ·split
     ·have:=Z8 hfar h (fs:=t.fields) (by rw[hi];exact hl.2.2.2.2.2) t.fields.length (w08 _)
      rw[w06] at this
      exact⟨by simp only[togEnd];omega,this.2.2⟩
     ·simp[is18]
theorem Xz {far:Nat} (hfar:far≤1048576) {l:List DTyp} (hv:ValidT l): ∀i,i≤l.length→GoodP (exts far (l.take i))
 |0,_=>by simp[exts,GoodP]
 |i+1,h=>by
  have ih:=Xz hfar hv i (by omega)
  rw[jz far h]
  intro p hp
  rcases w0a.1 hp with hp|hp
  ·exact ih p hp
  ·simp at hp;subst hp;exact z6y hfar ih (hv i (by omega)) (vg far l i (by omega))
def prs (ws:List (Nat×Nat)):List AV:=ws.flatMap fun p=>[.int .i64 (p.1:Int),.int .i64 (p.2:Int)]
theorem z9e (ws:List (Nat×Nat)):(prs ws).length=ws.length*2:=by
 induction ws with
 |nil=>rfl
 |cons w r ih=>simp only[prs,w27,w0e,w46,w45] at ih⊢;omega
theorem V2: ∀(ws:List (Nat×Nat)) (j:Nat),j<ws.length→(prs ws).drop (j*2)= .int .i64 ((ws.getD j (0,0)).1:Int):: .int .i64 ((ws.getD j (0,0)).2:Int)::(prs ws).drop (j*2+2)
 | [],_,h=>by simp at h
 |w::r,0,_=>rfl
 |w::r,j+1,h=>by
  have:=V2 r j (by simpa using h)
  simp only[prs,w27,show(j+1)*2=j*2+2 by omega,w22,w2f,w11,List.getD_cons_succ] at this⊢
  exact this
theorem z9d (n:Nat):flatRep [.int .i64 0,.int .i64 0] n=prs (List.replicate n (0,0)):=by
 induction n with
 |zero=>rfl
 |succ n ih=>rw[flatRep,ih,w44];rfl
theorem kl: ∀(ws:List (Nat×Nat)) (j a b:Nat),j<ws.length→(prs ws).take (j*2)++[.int .i64 (a:Int),.int .i64 (b:Int)]++(prs ws).drop (j*2+2)=prs (ws.set j (a,b))
 | [],_,_,_,h=>by simp at h
 |w::r,0,a,b,_=>rfl
 |w::r,j+1,a,b,h=>by
  have:=kl r j a b (by simpa using h)
  simp only[prs,w27,show(j+1)*2=j*2+2 by omega,w22,w2f,w11,w0f,w48] at this⊢
  rw[this]
theorem z2r {ws:List (Nat×Nat)} {j:Nat} (h:j<ws.length):takeV true 2 ((prs ws).drop (j*2))=some (.agg [.int .i64 ((ws.getD j (0,0)).1:Int),.int .i64 ((ws.getD j (0,0)).2:Int)]):=by
 rw[V2 ws j h];simp[takeV]
theorem z0e (l l' k:Nat) (ws:List (Nat×Nat)):shiftAll l l' k (prs ws)=prs ws:=by
 induction ws with
 |nil=>rfl
 |cons w r ih=>simp only[prs,w27,w22,w2f,shiftAll,AV.shift] at ih⊢;rw[ih]
theorem z5n (a:Nat):(if(a:Int)<(1048576:Int) then(a:Int) else(1048576:Int))=((min 1048576 a:Nat):Int):=by split<;>omega
theorem z1G (a:Nat):(if(a:Int)<(1000000:Int) then(a:Int) else(1000000:Int))=((min 1000000 a:Nat):Int):=by split<;>omega
theorem z9p (a b:Nat):(if(b:Int)>(a:Int) then(b:Int) else(a:Int))=((max a b:Nat):Int):=by split<;>omega
theorem zay {n a:Nat} (ha:is18 a) (h:n≤1048576):min 1048576 (up n a)=up n a:=by
 rcases ha with rfl|rfl
 ·rw[z3O];omega
 ·rw[Ty];omega
theorem z7L (a b:Nat):(if a<b then(b:Int) else(a:Int))=((max a b:Nat):Int):=by split<;>omega
theorem z6h {m0:Mem} {stk:List (List Blk)} {cur c':List Blk} {nx' fl':Nat} {own:List Nat} {live':List (List Nat)} {k st off len:Nat} {a b:Int}:
  ∃bs:List Blk,leave m0 ⟨stk++[cur],c',nx',own::live',fl'⟩ (.tup [.arr (stk++[cur]).length k st off len,.agg [.int .i64 a,.int .i64 b]])=some (.tup [.arr stk.length (k+cur.length) st off len,.agg [.int .i64 a,.int .i64 b]],⟨stk,cur++bs,nx',live',m0.floor⟩)∧
   ∀ws,c'[k]? =some ⟨st,ints ws⟩→bs[k]? =some ⟨st,ints ws⟩:=by
 have e:own.filter (fun _=>false)=[]:=by simp
 refine⟨c'.map fun b=>⟨b.st,shiftAll (stk++[cur]).length ((stk++[cur]).length-1) cur.length b.cs⟩,?_,?_⟩
 ·unfold leave
  simp only[w59,w4a,Option.some_or,AV.refs,refsAny,beq_self_eq_true,Bool.true_or,if_true,AV.toks,toksAll,w1b,List.contains_nil,e,pushToks,w5a,AV.shift,shiftAll]
  simp
 ·intro ws h
  rw[w1e,h,w07,Wd]
theorem z18 (ws W:List (Nat×Nat)) (hg:GoodP ws) (hle:ws.length≤W.length) (hW: ∀j,j<ws.length→W.getD j (0,0)=ws.getD j (0,0)) (fields:List DField) (v:AV) (q1:IsSl IsField 2 fields v) (hf: ∀f∈fields,0≤f.typ∧f.typ<ws.length) (hlen:fields.length≤100)
  (stk:List (List Blk)) (cur:List Blk) (nx fl:Nat) (live:List (List Nat)) (lv kb st:Nat) (hlv:lv≤stk.length) (hb:((stk++[cur]).getD lv [])[kb]? =some ⟨st,prs W⟩):
  ∃bs j s k,CALL tab 206 [.arr lv kb st 0 W.length,v] ⟨stk,cur,nx,live,fl⟩=some (.tup [.arr stk.length (cur.length+j) s 0 fields.length,.agg [.int .i64 ((togEnd 1048576 ws fields).1:Nat),.int .i64 ((togEnd 1048576 ws fields).2:Nat)]],⟨stk,cur++bs,k,live,fl⟩)∧bs[j]? =some ⟨s,ints (tog 1048576 ws fields).1⟩:=by
 suffices h:Does tab 206 [.arr lv kb st 0 W.length,v] ⟨stk,cur,nx,live,fl⟩ fun r m'=> ∃bs j s k,r= .tup [.arr stk.length (cur.length+j) s 0 fields.length,.agg [.int .i64 ((togEnd 1048576 ws fields).1:Nat),.int .i64 ((togEnd 1048576 ws fields).2:Nat)]]∧m'=⟨stk,cur++bs,k,live,fl⟩∧bs[j]? =some ⟨s,ints (tog 1048576 ws fields).1⟩ by
  obtain⟨z,h1,bs,j,s,k,h2,h3,h4⟩:=h
  grind
 refine yq (tT ZT) ?_ (Nat.le_of_ble_eq_true rfl)
 have hmk: ∀m:Mem,evMake m 1 8 [.int .i64 0] (.int .i64 fields.length) (.int .i64 fields.length)=some (.arr m.stk.length m.cur.length m.nx 0 fields.length,{m with cur:=m.cur++[⟨m.nx,ints (List.replicate fields.length 0)⟩],nx:=m.nx+1}):=fun m=>by
  unfold evMake
  simp only
  rw[if_pos ⟨trivial,by omega,by omega,by omega,rfl⟩,w10,z2V]
 have hne:(lv==(stk++[cur]).length)=false:=by simp;omega
 simp only[ZT,go_sem,G3,G6,G9,G8,q1.len,hmk,evBuild]
 refine za (α:=Nat) (fun k σ=>k≤fields.length∧ ∃nz,heads [0,5,6,7,15,16,17] 3 σ=⟨tmps 68 [(0,.arr lv kb st 0 W.length),(5,.ptr (stk++[cur]).length 0 nx 0),(6,.arr (stk++[cur]).length 1 (nx+1) 0 fields.length),(7,.ptr (stk++[cur]).length 2 (nx+1+1) 0),(15,v),(16,.int .i64 fields.length),(17,.int .i64 k)],
  ⟨stk++[cur],[⟨nx,[.int .i64 0,.int .i64 0]⟩,⟨nx+1,ints ((tog 1048576 ws (fields.take k)).1++List.replicate (fields.length-k) 0)⟩,⟨nx+1+1,[.int .i64 ((tog 1048576 ws (fields.take k)).2.1:Nat),.int .i64 ((tog 1048576 ws (fields.take k)).2.2:Nat)]⟩],nz,[]::live,fl⟩⟩) (fun k=>fields.length-k) 0 ?_ ?_
 ·refine⟨w0b _,?_⟩
  simp only[go_sem,G6,G7,tog,w15,List.foldl_nil,Nat.sub_zero]
  simp
 ·rintro k σ ⟨hk,nz,hσ⟩
  rw[hσ]
  clear hσ σ
  dsimp only at hk⊢
  obtain⟨g1,g2,g3⟩:=Z8 (far:=1048576) (w08 _) hg hf k hk
  by_cases h:k<fields.length
  ·have e2:nth v k= .agg [.str fields[k].name,.int .i64 fields[k].typ]:=q1.nth h
   have hat2:=q1.at .i64 h
   have hfk:=hf _ (w04 h)
   have hgk:=hg.get (j:=fields[k].typ.toNat) (by omega)
   have hix:=tG .i64 (p:=fields[k].typ) (n:=W.length) ⟨hfk.1,by omega⟩
   have hld:=z2r (ws:=W) (j:=fields[k].typ.toNat) (by omega)
   rw[hW _ (by omega)] at hld
   have hts:=Yz 1048576 ws h
   unfold togStep at hts
   generalize tog 1048576 ws (fields.take k)=s at*
   obtain⟨offs,en,mo⟩:=s
   dsimp only at g1 g2 g3
   generalize ws.getD fields[k].typ.toNat (0,0)=pr at*
   have hix2:=tG .i64 (p:=(k:Int)) (n:=fields.length) (by omega)
   rw[w10] at hix2
   have hsz:offs.length=k:=g1
   have hcl:decide (k+1≤(ints (offs++List.replicate (fields.length-k) 0)).length)=true:=by rw[Ze];simp;omega
   have hset:=YJ (ws:=offs++List.replicate (fields.length-k) 0) (j:=k) (up en pr.2) (by simp;omega)
   rw[WU hsz h] at hset
   have hg2:=Vc (ws:=offs++[up en pr.2]++List.replicate (fields.length-(k+1)) 0) (j:=k) (by simp;omega)
   have hv2:(offs++[up en pr.2]++List.replicate (fields.length-(k+1)) 0).getD k 0=up en pr.2:=by
    grind
   rw[hv2] at hg2
   have hup:=Tw (n:=en) hgk.2
   have ew:IntKind.i64.wrap ((up en pr.2:Nat)+(pr.1:Nat))=((up en pr.2+pr.1:Nat):Int):=by rw[z7 (by omega) (by omega)];omega
   simp only[go_sem,G3,G6,G9,G7,G8,w02,h,hat2,e2,z8,hix,hne,hb,hld,z0Q hgk.2 (show en≤4194304 by omega),hix2,w0d,hcl,hset,hg2,ew,z5n,z7L,evBuild,zc h q1.max]
   refine⟨k+1,by omega,h,nz+1+1,?_⟩
   rw[hts]
  ·have:k=fields.length:=by omega
   subst this
   rw[w06,Nat.sub_self,List.replicate_zero,w1b] at*
   have hup:=Tw (n:=(tog 1048576 ws fields).2.1) g3
   have hfar:=zay g3 g2
   simp only[go_sem,G3,G6,G9,G7,G8,w02,h,z0Q g3 (show(tog 1048576 ws fields).2.1≤4194304 by omega)]
   obtain⟨bs,hbs,hgb⟩:=z6h (m0:=⟨stk,cur,nx,live,fl⟩) (stk:=stk) (cur:=cur) (c':=[⟨nx,[.int .i64 ((up (tog 1048576 ws fields).2.1 (tog 1048576 ws fields).2.2:Nat):Int),.int .i64 ((tog 1048576 ws fields).2.2:Nat)]⟩,⟨nx+1,ints (tog 1048576 ws fields).1⟩,⟨nx+1+1,[.int .i64 ((up (tog 1048576 ws fields).2.1 (tog 1048576 ws fields).2.2:Nat):Int),.int .i64 ((tog 1048576 ws fields).2.2:Nat)]⟩]) (nx':=nz) (own:=[]) (live':=live) (fl':=fl) (k:=1) (st:=nx+1) (off:=0) (len:=fields.length) (a:=((up (tog 1048576 ws fields).2.1 (tog 1048576 ws fields).2.2:Nat):Int)) (b:=((tog 1048576 ws fields).2.2:Nat))
   rw[hbs,z6]
   refine⟨bs,1,nx+1,nz,?_,rfl,hgb _ rfl⟩
   unfold togEnd
   grind
theorem jL {A:List (Nat×Nat)} {n i:Nat} {v:Nat×Nat} (h:A.length=i) (hi:i<n):(A++List.replicate (n-i) (0,0)).set i v=A++[v]++List.replicate (n-(i+1)) (0,0):=by
 rw[List.set_append,if_neg (by omega)]
 rw[show n-i=(n-(i+1))+1 by omega,w44,show i-A.length=0 by omega]
 simp
theorem Xk {A B:List (Nat×Nat)} {j:Nat} (h:j<A.length):(A++B).getD j (0,0)=A.getD j (0,0):=by
 grind
theorem z4k {m0:Mem} {stk:List (List Blk)} {cur c':List Blk} {nx' fl':Nat} {own:List Nat} {live':List (List Nat)} {k st off len:Nat}:
  ∃bs:List Blk,leave m0 ⟨stk++[cur],c',nx',own::live',fl'⟩ (.arr (stk++[cur]).length k st off len)=some (.arr stk.length (k+cur.length) st off len,⟨stk,cur++bs,nx',live',m0.floor⟩)∧
   ∀ws,c'[k]? =some ⟨st,prs ws⟩→bs[k]? =some ⟨st,prs ws⟩:=by
 have e:own.filter (fun _=>false)=[]:=by simp
 refine⟨c'.map fun b=>⟨b.st,shiftAll (stk++[cur]).length ((stk++[cur]).length-1) cur.length b.cs⟩,?_,?_⟩
 ·unfold leave
  simp only[w59,w4a,Option.some_or,AV.refs,beq_self_eq_true,if_true,AV.toks,List.contains_nil,e,pushToks,w5a,AV.shift]
  simp
 ·intro ws h
  rw[w1e,h,w07,z0e]
theorem Z6 (l:List DTyp) (x:AV) (hx:IsSl IsTyp 4 l x) (hv:ValidT l) (hl:l.length≤100) (stk:List (List Blk)) (cur:List Blk) (nx fl:Nat) (live:List (List Nat)):
  ∃bs j st k,CALL tab 205 [x] ⟨stk,cur,nx,live,fl⟩=some (.arr stk.length (cur.length+j) st 0 l.length,⟨stk,cur++bs,k,live,fl⟩)∧bs[j]? =some ⟨st,prs (exts 1048576 l)⟩:=by
 suffices h:Does tab 205 [x] ⟨stk,cur,nx,live,fl⟩ fun v m'=> ∃bs j st k,v= .arr stk.length (cur.length+j) st 0 l.length∧m'=⟨stk,cur++bs,k,live,fl⟩∧bs[j]? =some ⟨st,prs (exts 1048576 l)⟩ by
  obtain⟨z,h1,bs,j,st,k,h2,h3,h4⟩:=h
  grind
 refine yq (tT qD) ?_ (Nat.le_of_ble_eq_true rfl)
 have hmk: ∀m:Mem,evMake m 2 16 [.int .i64 0,.int .i64 0] (.int .i64 l.length) (.int .i64 l.length)=some (.arr m.stk.length m.cur.length m.nx 0 l.length,{m with cur:=m.cur++[⟨m.nx,prs (List.replicate l.length (0,0))⟩],nx:=m.nx+1}):=fun m=>by
  unfold evMake
  simp only
  rw[if_pos ⟨trivial,by omega,by omega,by omega,rfl⟩,w10,z9d]
 simp only[qD,go_sem,G6,G8,hx.len,hmk]
 refine za (α:=Nat) (fun i σ=>i≤l.length∧ ∃nz,heads [3,10,11,12] 1 σ=⟨tmps 77 [(3,.arr (stk++[cur]).length 0 nx 0 l.length),(10,x),(11,.int .i64 l.length),(12,.int .i64 i)],
  ⟨stk++[cur],[⟨nx,prs (exts 1048576 (l.take i)++List.replicate (l.length-i) (0,0))⟩],nz,[]::live,fl⟩⟩) (fun i=>l.length-i) 0 ?_ ?_
 ·refine⟨w0b _,?_⟩
  simp only[go_sem,G6,G7,exts,w15,List.foldl_nil,Nat.sub_zero]
  simp
 ·rintro i σ ⟨hi,nz,hσ⟩
  rw[hσ]
  clear hσ σ
  dsimp only at hi⊢
  by_cases h:i<l.length
  ·have hfine:=hv i h
   obtain⟨v,e1,q1⟩:=hx.nth h
   have hat:=hx.at .i64 h
   have hsucc:=zc h hx.max
   have hAl:=vg 1048576 l i hi
   have hrs:=jz 1048576 h
   have hgood:=Xz (far:=1048576) (w08 _) hv i hi
   have hflen:=tR hfine
   generalize hout:exts 1048576 (l.take i)=A at*
   generalize ht:l[i]=t at*
   clear ht
   generalize hn:l.length=n at*
   obtain⟨kind,elem,len,fields⟩:=t
   dsimp only at e1 q1 hflen
   have hix2:=tG .i64 (p:=(i:Int)) (n:=n) (by omega)
   rw[w10] at hix2
   have hcl:decide (i*2+2≤(prs (A++List.replicate (n-i) (0,0))).length)=true:=by rw[z9e];simp;omega
   simp only[go_sem,G3,G6,G7,G8,w02,h,hat,e1,q1.one]
   by_cases k1:kind=1
   ·subst k1
    have hV:((1:Nat),(1:Nat))=ext1 1048576 A ⟨1,elem,len,fields⟩:=rfl
    simp only[go_sem,G6,G8]
    have hset:(prs (A++List.replicate (n-i) (0,0))).take (i*2)++[.int .i64 1,.int .i64 1]++(prs (A++List.replicate (n-i) (0,0))).drop (i*2+2)=prs ((A++List.replicate (n-i) (0,0)).set i (1,1)):=kl (A++List.replicate (n-i) (0,0)) i 1 1 (by simp;omega)
    rw[jL hAl h] at hset
    simp only[go_sem,G3,G6,G9,G8,evBuild,z8,hix2,hcl,hset,hsucc]
    refine⟨i+1,by omega,h,?_⟩
    simp_all
   have k1':(kind==1)=false:=by simpa using k1
   by_cases k2:kind=2
   ·subst k2
    have hV:((8:Nat),(8:Nat))=ext1 1048576 A ⟨2,elem,len,fields⟩:=rfl
    simp only[go_sem,G6,G8,k1']
    have hset:(prs (A++List.replicate (n-i) (0,0))).take (i*2)++[.int .i64 8,.int .i64 8]++(prs (A++List.replicate (n-i) (0,0))).drop (i*2+2)=prs ((A++List.replicate (n-i) (0,0)).set i (8,8)):=kl (A++List.replicate (n-i) (0,0)) i 8 8 (by simp;omega)
    rw[jL hAl h] at hset
    simp only[go_sem,G3,G6,G9,G8,evBuild,z8,hix2,hcl,hset,hsucc]
    refine⟨i+1,by omega,h,?_⟩
    simp_all
   have k2':(kind==2)=false:=by simpa using k2
   by_cases k4:kind=4
   ·subst k4
    have hV:((8:Nat),(8:Nat))=ext1 1048576 A ⟨4,elem,len,fields⟩:=rfl
    simp only[go_sem,G6,G8,k1',k2']
    have hset:(prs (A++List.replicate (n-i) (0,0))).take (i*2)++[.int .i64 8,.int .i64 8]++(prs (A++List.replicate (n-i) (0,0))).drop (i*2+2)=prs ((A++List.replicate (n-i) (0,0)).set i (8,8)):=kl (A++List.replicate (n-i) (0,0)) i 8 8 (by simp;omega)
    rw[jL hAl h] at hset
    simp only[go_sem,G3,G6,G9,G8,evBuild,z8,hix2,hcl,hset,hsucc]
    refine⟨i+1,by omega,h,?_⟩
    simp_all
   have k4':(kind==4)=false:=by simpa using k4
   by_cases k3:kind=3
   ·subst k3
    have hV:((16:Nat),(8:Nat))=ext1 1048576 A ⟨3,elem,len,fields⟩:=rfl
    simp only[go_sem,G6,G8,k1',k2',k4']
    have hset:(prs (A++List.replicate (n-i) (0,0))).take (i*2)++[.int .i64 16,.int .i64 8]++(prs (A++List.replicate (n-i) (0,0))).drop (i*2+2)=prs ((A++List.replicate (n-i) (0,0)).set i (16,8)):=kl (A++List.replicate (n-i) (0,0)) i 16 8 (by simp;omega)
    rw[jL hAl h] at hset
    simp only[go_sem,G3,G6,G9,G8,evBuild,z8,hix2,hcl,hset,hsucc]
    refine⟨i+1,by omega,h,?_⟩
    simp_all
   have k3':(kind==3)=false:=by simpa using k3
   by_cases k7:kind=7
   ·subst k7
    have hV:((24:Nat),(8:Nat))=ext1 1048576 A ⟨7,elem,len,fields⟩:=rfl
    simp only[go_sem,G6,G8,k1',k2',k4',k3']
    have hset:(prs (A++List.replicate (n-i) (0,0))).take (i*2)++[.int .i64 24,.int .i64 8]++(prs (A++List.replicate (n-i) (0,0))).drop (i*2+2)=prs ((A++List.replicate (n-i) (0,0)).set i (24,8)):=kl (A++List.replicate (n-i) (0,0)) i 24 8 (by simp;omega)
    rw[jL hAl h] at hset
    simp only[go_sem,G3,G6,G9,G8,evBuild,z8,hix2,hcl,hset,hsucc]
    refine⟨i+1,by omega,h,?_⟩
    simp_all
   have k7':(kind==7)=false:=by simpa using k7
   by_cases k6:kind=6
   ·subst k6
    have hel:=hflen.2.2.2.1 rfl
    have hle:=hflen.2.1 rfl
    have hge:=hgood.get (j:=elem.toNat) (by omega)
    have hix:=tG .i64 (p:=elem) (n:=n) ⟨hel.1,by omega⟩
    have hld:=z2r (ws:=A++List.replicate (n-i) (0,0)) (j:=elem.toNat) (by simp;omega)
    rw[Xk (by omega)] at hld
    have hV:(min 1048576 (len.toNat*(A.getD elem.toNat (0,0)).1),(A.getD elem.toNat (0,0)).2)=ext1 1048576 A ⟨6,elem,len,fields⟩:=rfl
    generalize A.getD elem.toNat (0,0)=pr at*
    have hmul:len.toNat*pr.1≤16*1048576:=Nat.mul_le_mul (by omega) hge.1
    have ew:IntKind.i64.wrap (len*(pr.1:Int))=((len.toNat*pr.1:Nat):Int):=by
     have:len*(pr.1:Int)=((len.toNat*pr.1:Nat):Int):=by rw[Int.natCast_mul,Int.toNat_of_nonneg (by omega)]
     rw[this,z7 (by omega) (by omega)]
    simp only[go_sem,G3,G6,G9,G8,k1',k2',k4',k3',k7',z8,hix,hld,ew,z5n,evBuild]
    have hset:=kl (A++List.replicate (n-i) (0,0)) i (min 1048576 (len.toNat*pr.1)) (pr.2) (by simp;omega)
    rw[jL hAl h] at hset
    simp only[go_sem,G3,G6,G8,hix2,hcl,hset,hsucc]
    refine⟨i+1,by omega,h,?_⟩
    simp_all
   have k6':(kind==6)=false:=by simpa using k6
   have k5:kind=5:=by
    rcases hfine with⟨h1,_⟩|⟨h1,_⟩|⟨h1,_⟩|⟨h1,_⟩<;>dsimp only at h1<;>omega
   subst k5
   have hV:togEnd 1048576 A fields=ext1 1048576 A ⟨5,elem,len,fields⟩:=rfl
   obtain⟨bs,j,s,k,hcall,_⟩:=z18 A (A++List.replicate (n-i) (0,0)) hgood (by simp) (fun j hj=>Xk hj) fields v q1 (by rw[hAl];exact hflen.2.2.2.2.2) (by omega) (stk++[cur])
    [⟨nx,prs (A++List.replicate (n-i) (0,0))⟩,⟨nz,[.int .u8 5,.int .i64 elem,.int .i64 len,v]⟩] (nz+1) fl ([]::live) (stk++[cur]).length 0 nx (w08 _) (by simp)
   have hlW:List.length (A++List.replicate (n-i) ((0:Nat),(0:Nat)))=n:=by simp;omega
   rw[hlW] at hcall
   simp only[go_sem,G3,G6,G8,k1',k2',k4',k3',k7',k6',hcall]
   generalize togEnd 1048576 A fields=pr at*
   have hset:=kl (A++List.replicate (n-i) (0,0)) i (pr.1) (pr.2) (by simp;omega)
   rw[jL hAl h] at hset
   simp only[go_sem,G3,G6,G8,z8,hix2,hcl,hset,hsucc]
   refine⟨i+1,by omega,h,?_⟩
   simp_all
  ·have:i=l.length:=by omega
   subst this
   rw[w06,Nat.sub_self,List.replicate_zero,w1b]
   simp only[go_sem,G6,G7,G8,w02,h]
   obtain⟨bs,hbs,hgb⟩:=z4k (m0:=⟨stk,cur,nx,live,fl⟩) (stk:=stk) (cur:=cur) (c':=[⟨nx,prs (exts 1048576 l)⟩]) (nx':=nz) (own:=[]) (live':=live) (fl':=fl) (k:=0) (st:=nx) (off:=0) (len:=l.length)
   rw[hbs,z6]
   grind
theorem z9K {tab:Nat→Option AFunc} {f:Nat} {args:List AV} {m m':Mem} {r:AV} (h:CALL tab f args m=some (r,m')) (hf:m.floor≤m.stk.length+1):m.nx≤m'.nx:=by
 obtain⟨n,h⟩:=Xf.1 h
 exact(z3j n _ _ _ _ _ h hf).nx
structure Own2 {α β:Type} (R1:α→AV→Prop) (s1:Nat) (y1:AV) (a:List α) (R2:β→AV→Prop) (s2:Nat) (y2:AV) (b:List β) (e:List Nat) (nx:Nat):Prop where
 l:Own R1 s1 y1 a e
 r:Own R2 s2 y2 b e
 dj: ∀t∈y1.toks,t∉y2.toks
 bl: ∀t∈y1.toks,t<nx
 br: ∀t∈y2.toks,t<nx
section
variable {α β : Type} {R1 : α → AV → Prop} {s1 : Nat} {y1 : AV} {a : List α} {R2 : β → AV → Prop} {s2 : Nat} {y2 : AV} {b : List β} {e : List Nat} {nx : Nat}
theorem Own2.symm (h:Own2 R1 s1 y1 a R2 s2 y2 b e nx):Own2 R2 s2 y2 b R1 s1 y1 a e nx:=⟨h.r,h.l,fun t h1 h2=>h.dj t h2 h1,h.br,h.bl⟩
theorem Own2.nil (e:List Nat) (nx:Nat):Own2 R1 s1 .nils [] R2 s2 .nils [] e nx:=⟨.nil e,.nil e,fun t h=>by simp[AV.toks] at h,fun t h=>by simp[AV.toks] at h,fun t h=>by simp[AV.toks] at h⟩
theorem Own2.mono {e':List Nat} {nx':Nat} (h:Own2 R1 s1 y1 a R2 s2 y2 b e nx) (k: ∀t∈e,t∈e') (hn:nx≤nx'):Own2 R1 s1 y1 a R2 s2 y2 b e' nx':=
 ⟨h.l.mono k,h.r.mono k,h.dj,fun t ht=>w58 (h.bl t ht) hn,fun t ht=>w58 (h.br t ht) hn⟩
theorem z67 {α:Type} {R:α→AV→Prop} {s:Nat} {y:AV} {xs:List α} {e:List Nat} {t:Nat} (h:Own R s y xs e) (ht:t∉y.toks):Own R s y xs (e.erase t):=by
 rcases h with h|⟨tk,ys,h1,h2,h3|⟨u,h3,h4⟩⟩
 ·exact .inl h
 ·exact .inr ⟨tk,ys,h1,h2,.inl h3⟩
 ·refine .inr ⟨tk,ys,h1,h2,.inr ⟨u,(List.mem_erase_of_ne ?_).2 h3,h4⟩⟩
  rintro rfl
  exact ht (by rw[h1,h4];simp[AV.toks])
theorem Own2.app {cs:List α} {z:AV} {zs:List AV} {bytes:Nat} (h:Own2 R1 s1 y1 a R2 s2 y2 b e nx) (hz: ∀m:Mem,m.elems s1 z=some zs) (hc:All2 R1 cs zs) (hl:(a.length+cs.length)*bytes≤140737488355328)
  (stk:List (List Blk)) (cur:List Blk) (rest:List (List Nat)) (fl:Nat):
  ∃y' n e',evApp ⟨stk,cur,nx,e::rest,fl⟩ s1 bytes y1 z=some (y',⟨stk,cur,n,e'::rest,fl⟩)∧Own2 R1 s1 y' (a++cs) R2 s2 y2 b e' n:=by
 have new: ∀ys (e':List Nat),All2 R1 (a++cs) ys→Own R2 s2 y2 b e'→nx∈e'→Own2 R1 s1 (.list s1 (.id nx) ys) (a++cs) R2 s2 y2 b e' (nx+1):=fun ys e' q ho hn=>
  ⟨.inr ⟨_,ys,rfl,q,.inr ⟨nx,hn,rfl⟩⟩,ho,fun t ht h2=>by
   simp only[AV.toks,w1a] at ht
   subst ht
   exact Nat.lt_irrefl _ (h.br _ h2),fun t ht=>by
   simp only[AV.toks,w1a] at ht
   omega,fun t ht=>w3b (h.br t ht)⟩
 rcases Own.app (m:=⟨stk,cur,nx,e::rest,fl⟩) (h.l.mono fun t h=>by simp only[w3a,w0a];exact .inl h) (hz _) hc hl with⟨hcs,q⟩|⟨ys,q,eq⟩|⟨t,ys,q0,hy,_,q,eq⟩
 ·grind
 ·exact⟨_,_,nx::e,eq,new ys _ q (h.r.mono fun t h=>w2a _ h) w1d⟩
 ·have ht:t∈e:=by
   rcases h.l with⟨h1,_⟩|⟨tk,ys',e1,_,e2|⟨t',e3,e2⟩⟩
   ·grind
   ·grind
   ·grind
  have hd:dropTok t (e::rest)=e.erase t::rest:=by
   simp only[dropTok];rw[if_pos (by simpa using ht)]
  rw[show(Mem.live ⟨stk,cur,nx,e::rest,fl⟩)=e::rest from rfl,hd] at eq
  refine⟨_,_,nx::e.erase t,eq,new ys _ q ((z67 h.r (h.dj t (by rw[hy];simp[AV.toks]))).mono fun t h=>w2a _ h) w1d⟩
variable {tab : Nat → Option AFunc} {ρ : List AV} {k : Kont} {l : List AOper} {d : Option Nat}
theorem Own2.xv1 {cs:List α} {z:AV} {zs:List AV} {bytes fl:Nat} {stk:List (List Blk)} {cur:List Blk} {rest:List (List Nat)} (h:Own2 R1 s1 y1 a R2 s2 y2 b e nx) (hz: ∀m:Mem,m.elems s1 z=some zs) (hc:All2 R1 cs zs) (hl:(a.length+cs.length)*bytes≤140737488355328)
  (q: ∀y' n e',Own2 R1 s1 y' (a++cs) R2 s2 y2 b e' n→Xs tab l (setDst ρ d y') ⟨stk,cur,n,e'::rest,fl⟩ k):Xv tab (evApp ⟨stk,cur,nx,e::rest,fl⟩ s1 bytes y1 z) d l ρ k:=by
 obtain⟨y',n,e',h1,h2⟩:=h.app hz hc hl stk cur rest fl
 rw[h1,vW];exact q y' n e' h2
theorem Own2.xv2 {cs:List β} {z:AV} {zs:List AV} {bytes fl:Nat} {stk:List (List Blk)} {cur:List Blk} {rest:List (List Nat)} (h:Own2 R1 s1 y1 a R2 s2 y2 b e nx) (hz: ∀m:Mem,m.elems s2 z=some zs) (hc:All2 R2 cs zs) (hl:(b.length+cs.length)*bytes≤140737488355328)
  (q: ∀y' n e',Own2 R1 s1 y1 a R2 s2 y' (b++cs) e' n→Xs tab l (setDst ρ d y') ⟨stk,cur,n,e'::rest,fl⟩ k):Xv tab (evApp ⟨stk,cur,nx,e::rest,fl⟩ s2 bytes y2 z) d l ρ k:=by
 obtain⟨y',n,e',h1,h2⟩:=h.symm.app hz hc hl stk cur rest fl
 rw[h1,vW];exact q y' n e' h2.symm
end
theorem zap {n a:Nat} (ha:is18 a) (hn:n≤4194304) (m:Mem):Okv tab 316 [.int .i64 n,.int .i64 a] m (.int .i64 (up n a:Nat)):=by
 refine ze (tT qc) ?_
 obtain⟨stk,cur,nx,live,fl⟩:=m
 have e1:IntKind.i64.wrap ((n:Int)+(a:Int))=((n+a:Nat):Int):=by unfold is18 at ha;rw[z7 (by omega) (by omega)];omega
 have e2:IntKind.i64.wrap (((n+a:Nat):Int)-1)=((n+a-1:Nat):Int):=by unfold is18 at ha;rw[z7 (by omega) (by omega)];omega
 have e3:IntKind.i64.wrap (((n+a-1:Nat):Int).tdiv (a:Int))=(((n+a-1)/a:Nat):Int):=by
  rw[z7l]
  have:(n+a-1)/a≤n+a-1:=Nat.div_le_self _ _
  unfold is18 at ha
  generalize (n+a-1)/a=q at*
  rw[z7 (by omega) (by omega)]
 have e4:IntKind.i64.wrap ((((n+a-1)/a:Nat):Int)*(a:Int))=((up n a:Nat):Int):=by
  rw[←Int.natCast_mul]
  have:=Tw (n:=n) ha
  show IntKind.i64.wrap ((up n a:Nat):Int)=_
  rw[z7 (by omega) (by omega)]
 have e0: ¬((a:Int)=0):=by unfold is18 at ha;omega
 simp only[qc,go_sem,G3,G6,G8,e1,e2,e0,e3,e4]
 rw[z5 rfl rfl,z6]
 simp
def szs (ws:List (Nat×Nat)):List Nat:=ws.map Prod.fst
def als (ws:List (Nat×Nat)):List Nat:=ws.map Prod.snd
theorem z1l {ws:List (Nat×Nat)} {j:Nat} (h:j<ws.length):(szs ws)[j]'(by simpa [szs] using h)=(ws.getD j (0,0)).1:=by simp[szs,w05,h]
theorem z5D {ws:List (Nat×Nat)} {j:Nat} (h:j<ws.length):(als ws)[j]'(by simpa [als] using h)=(ws.getD j (0,0)).2:=by simp[als,w05,h]
theorem z3z (ws:List (Nat×Nat)) (hg:GoodP ws) (y1 y2:AV) (h1:IsSl IsN 1 (szs ws) y1) (h2:IsSl IsN 1 (als ws) y2) (fields:List DField) (v:AV) (q1:IsSl IsField 2 fields v) (hf: ∀f∈fields,0≤f.typ∧f.typ<ws.length) (hlen:fields.length≤100) (m:Mem):
  ∃y ts k,CALL tab 275 [y1,y2,v] m=some (.tup [y,.int .i64 ((togEnd 1000000 ws fields).1:Nat),.int .i64 ((togEnd 1000000 ws fields).2:Nat)],{m with nx:=k,live:=pushToks ts m.live})∧Own IsN 1 y (tog 1000000 ws fields).1 ts:=by
 suffices h:Does tab 275 [y1,y2,v] m fun r m'=> ∃y ts k,r= .tup [y,.int .i64 ((togEnd 1000000 ws fields).1:Nat),.int .i64 ((togEnd 1000000 ws fields).2:Nat)]∧m'={m with nx:=k,live:=pushToks ts m.live}∧Own IsN 1 y (tog 1000000 ws fields).1 ts by
  obtain⟨z,e1,y,ts,k,e2,e3,e4⟩:=h
  grind
 refine yq (tT xV) ?_ (Nat.le_of_ble_eq_true rfl)
 obtain⟨stk,cur,nx,live,fl⟩:=m
 simp only[xV,go_sem,G3]
 refine za (α:=Nat) (fun k σ=>k≤fields.length∧ ∃nz y e,Own IsN 1 y (tog 1000000 ws (fields.take k)).1 e∧heads [0,1,2,9,10,11,12] 0 σ=⟨tmps 55 [(0,y1),(1,y2),(2,v),(9,y),(10,.int .i64 ((tog 1000000 ws (fields.take k)).2.1:Nat)),(11,.int .i64 ((tog 1000000 ws (fields.take k)).2.2:Nat)),(12,.int .i64 k)],⟨stk++[cur],[],nz,e::live,fl⟩⟩) (fun k=>fields.length-k) 0 ?_ ?_
 ·refine⟨w0b _,nx,.nils,[],.nil _,?_⟩
  rfl
 ·rintro k σ ⟨hk,nz,y,e,ho,hσ⟩
  rw[hσ]
  clear hσ σ
  dsimp only at hk⊢
  obtain⟨g1,g2,g3⟩:=Z8 (far:=1000000) (by omega) hg hf k hk
  by_cases h:k<fields.length
  ·have e2:nth v k= .agg [.str fields[k].name,.int .i64 fields[k].typ]:=q1.nth h
   have hat2:=q1.at .i64 h
   have hfk:=hf _ (w04 h)
   have hj:fields[k].typ.toNat<ws.length:=by omega
   have hgk:=hg.get hj
   have ht1:fields[k].typ.toNat<(szs ws).length:=by simpa [szs] using hj
   have ht2:fields[k].typ.toNat<(als ws).length:=by simpa [als] using hj
   have s1:nth y1 fields[k].typ.toNat= .int .i64 ((szs ws)[fields[k].typ.toNat]:Nat):=h1.nth ht1
   have s2:nth y2 fields[k].typ.toNat= .int .i64 ((als ws)[fields[k].typ.toNat]:Nat):=h2.nth ht2
   have a1:=h1.at .i64 ht1
   have a2:=h2.at .i64 ht2
   rw[Int.toNat_of_nonneg hfk.1] at a1 a2
   rw[z1l hj] at s1
   rw[z5D hj] at s2
   have hts:=Yz 1000000 ws h
   unfold togStep at hts
   generalize tog 1000000 ws (fields.take k)=s at*
   obtain⟨offs,en,mo⟩:=s
   dsimp only at g1 g2 g3 ho
   generalize ws.getD fields[k].typ.toNat (0,0)=pr at*
   have hup:=Tw (n:=en) hgk.2
   have ew:IntKind.i64.wrap ((up en pr.2:Nat)+(pr.1:Nat))=((up en pr.2+pr.1:Nat):Int):=by rw[z7 (by omega) (by omega)];omega
   simp only[go_sem,G6,G7,G8,w02,h,q1.len,hat2,e2,a2,s2,(zap hgk.2 (show en≤4194304 by omega) _).eq]
   refine ho.xv (zd · _ _ _) (zZ (R:=IsN) (x:=up en pr.2) rfl) (by simp;omega) fun y' n' e' ho'=> ?_
   simp only[go_sem,G6,G8,a1,s1,a2,s2,ew,z1G,z9p,zc h q1.max]
   refine⟨k+1,by omega,h,n',y',e',?_,?_⟩
   ·grind
   ·rw[hts]
  ·have:k=fields.length:=by omega
   subst this
   rw[w06] at*
   have hup:=Tw (n:=(tog 1000000 ws fields).2.1) g3
   simp only[go_sem,G6,G7,G8,w02,h,q1.len,(zap g3 (show(tog 1000000 ws fields).2.1≤4194304 by omega) _).eq,z1G]
   rw[jw (by simp only[AV.refs,refsAny,ho.refs];rfl),z6]
   refine⟨y,_,_,rfl,rfl,?_⟩
   simp only[AV.toks,toksAll,w1b]
   exact ho.filter
theorem Te {p q:Prop} [Decidable p] [Decidable q] (h:p↔q):AV.bool (decide p)=AV.bool (decide q):=congrArg AV.bool (decide_eq_decide.2 h)
theorem Qq {q:Prop} [Decidable q] (h: ¬q):AV.bool false=AV.bool (decide q):=congrArg AV.bool (decide_eq_false h).symm
theorem zaS {b:Bool} {q:Prop} [Decidable q] (h:b=true↔q):AV.bool b=AV.bool (decide q):=congrArg AV.bool (by rw[Bool.eq_iff_iff,decide_eq_true_eq];exact h)
def t00:DTyp:=⟨0,0,0,[]⟩
def f00:DField:=⟨[],0⟩
def tyA (l:List DTyp) (t:Int):DTyp:=l.getD t.toNat t00
def fdA (l:List DField) (i:Int):DField:=l.getD i.toNat f00
theorem z92 {l:List DTyp} {k:Nat} (h:k<l.length):tyA l k=l[k]:=by simp[tyA,w05,h]
theorem Vh {l:List DField} {k:Nat} (h:k<l.length):fdA l k=l[k]:=by simp[fdA,w05,h]
def kindI (l:List DTyp) (t:Int):Int:=if t<0 then 0 else(tyA l t).kind
def slotT (f:DFunc) (s:Int):Int:=if 0≤s∧s<f.slots.length then(fdA f.slots s).typ else-1
def called (x:DInstr):Int:=if x.op=25 then x.b else if x.op=26∨x.op=27 then x.a else-1
def NV (d:DImage) (f:DFunc) (y:AV):Prop:= ∃ty tx fs w0 w1 w2 w3,y= .agg [ty,tx,fs,.str f.name,.int .i64 f.params,.int .i64 f.result,w0,w1,w2,w3]∧IsSl IsTyp 4 d.types ty∧IsSl IsStr 1 d.texts tx∧IsSl IsFunc 7 d.funcs fs∧
 IsSl IsField 2 f.slots w0∧IsSl IsInstr 4 f.code w1∧IsSl IsRun 2 f.sizes w2∧IsSl IsRun 2 f.lives w3
theorem _root_.Go.Vs.IsSl.tyA {l:List DTyp} {x:AV} (hx:IsSl IsTyp 4 l x) {j:Nat} (h:j<l.length): ∃v0,nth x j= .agg [.int .u8 (tyA l j).kind,.int .i64 (tyA l j).elem,.int .i64 (tyA l j).len,v0]∧IsSl IsField 2 (tyA l j).fields v0:=by
 obtain⟨v0,h1,h2⟩:=hx.nth h
 rw[←z92 h] at h1 h2
 exact⟨v0,h1,h2⟩
theorem _root_.Go.Vs.IsSl.fdA {l:List DField} {x:AV} (hx:IsSl IsField 2 l x) {j:Nat} (h:j<l.length):nth x j= .agg [.str (fdA l j).name,.int .i64 (fdA l j).typ]:=by
 rw[Vh h];exact hx.fld h
theorem tZ {α:Type} {R:α→AV→Prop} {s:Nat} (l:List α) (x:AV) (hx:IsSl R s l x) (i:Int) (m:Mem):Okv tab 338 [x,.int .i64 i] m (.bool (decide (0≤i∧i<l.length))):=by
 refine ze (tT xY) ?_
 obtain⟨stk,cur,nx,live,fl⟩:=m
 generalize hr:decide (0≤i∧i<(l.length:Int))=r
 simp only[xY,go_sem,G3,G6,G8]
 by_cases h:i≥0
 ·simp only[go_sem,G6,G8,h,hx.len]
  rw[z5 rfl rfl,z6]
  exact⟨⟨_,rfl⟩,by rw[←hr];exact Te (by omega)⟩
 ·simp only[go_sem,G6,G8,h]
  rw[z5 rfl rfl,z6]
  exact⟨⟨_,rfl⟩,by rw[←hr];exact Qq (by omega)⟩
theorem Y3 {α:Type} {R:α→AV→Prop} {s:Nat} (l:List α) (x:AV) (hx:IsSl R s l x) (i:Int) (m:Mem):Okv tab 340 [x,.int .i64 i] m (.bool (decide (0≤i∧i<l.length))):=by
 refine ze (tT uI) ?_
 obtain⟨stk,cur,nx,live,fl⟩:=m
 generalize hr:decide (0≤i∧i<(l.length:Int))=r
 simp only[uI,go_sem,G3,G6,G8]
 by_cases h:i≥0
 ·simp only[go_sem,G6,G8,h,hx.len]
  rw[z5 rfl rfl,z6]
  exact⟨⟨_,rfl⟩,by rw[←hr];exact Te (by omega)⟩
 ·simp only[go_sem,G6,G8,h]
  rw[z5 rfl rfl,z6]
  exact⟨⟨_,rfl⟩,by rw[←hr];exact Qq (by omega)⟩
theorem Yv (x:DInstr) (m:Mem):Okv tab 339 [.agg [.int .u8 x.op,.int .i64 x.a,.int .i64 x.b,.int .i64 x.c]] m (.int .i64 (called x)):=by
 refine ze (tT k9) ?_
 obtain⟨stk,cur,nx,live,fl⟩:=m
 simp only[k9,go_sem,G3,G6,G8]
 repeat' (((first|refine uN ?_ ?_|refine yY ?_ ?_|refine yZ ?_ ?_|refine yW ?_ ?_|refine yX ?_ ?_)<;>intro hq)<;>simp only[go_sem,G6,G8,hq])
 all_goals
  rw[z5 rfl rfl,z6]
  refine⟨⟨_,rfl⟩,?_⟩
  unfold called
  simp only[beq_iff_eq,beq_eq_false_iff_ne,ne_eq] at*
  simp[*]
theorem qn (x:DInstr) (m:Mem):Okv tab 391 [.agg [.int .u8 x.op,.int .i64 x.a,.int .i64 x.b,.int .i64 x.c]] m (.int .i64 (called x)):=by
 refine ze (tT vD) ?_
 obtain⟨stk,cur,nx,live,fl⟩:=m
 simp only[vD,go_sem,G3,G6,G8]
 repeat' (((first|refine uN ?_ ?_|refine yY ?_ ?_|refine yZ ?_ ?_|refine yW ?_ ?_|refine yX ?_ ?_)<;>intro hq)<;>simp only[go_sem,G6,G8,hq])
 all_goals
  rw[z5 rfl rfl,z6]
  refine⟨⟨_,rfl⟩,?_⟩
  unfold called
  simp only[beq_iff_eq,beq_eq_false_iff_ne,ne_eq] at*
  simp[*]
theorem z6Y (d:DImage) (f:DFunc) (y:AV) (hy:NV d f y) (s:Int) (m:Mem):Okv tab 341 [y,.int .i64 s] m (.int .i64 (slotT f s)):=by
 obtain⟨ty,tx,fs,w0,w1,w2,w3,rfl,h0,h1,h2,h3,h4,h5,h6⟩:=hy
 refine ze (tT uJ) ?_
 obtain⟨stk,cur,nx,live,fl⟩:=m
 simp only[uJ,go_sem,G3,G6,G8,(tZ _ _ h3 _ _).eq]
 by_cases h:0≤s∧s<f.slots.length
 ·obtain⟨k,rfl⟩: ∃k:Nat,s=k:=⟨s.toNat,by omega⟩
  have hk:k<f.slots.length:=by omega
  have hd:decide ((0:Int)≤k∧(k:Int)<f.slots.length)=true:=by simpa using h
  simp only[go_sem,G3,G6,G8,hd,h3.at _ hk,h3.fdA hk]
  rw[z5 rfl rfl,z6]
  exact⟨⟨_,rfl⟩,by unfold slotT;rw[if_pos h]⟩
 ·simp only[go_sem,G6,G8,h]
  rw[z5 rfl rfl,z6]
  exact⟨⟨_,rfl⟩,by unfold slotT;rw[if_neg h]⟩
theorem z3E (d:DImage) (y:AV) (hy:IsImage d y) (t:Int) (ht:t<d.types.length) (m:Mem):Okv tab 393 [y,.int .i64 t] m (.int .u8 (kindI d.types t)):=by
 obtain⟨ty,tx,fs,rfl,h0,h1,h2⟩:=hy
 refine ze (tT t9) ?_
 obtain⟨stk,cur,nx,live,fl⟩:=m
 simp only[t9,go_sem,G3,G6,G8]
 by_cases h:t<0
 ·simp only[go_sem,G6,G8,h]
  rw[z5 rfl rfl,z6]
  exact⟨⟨_,rfl⟩,by unfold kindI;rw[if_pos h]⟩
 ·obtain⟨k,rfl⟩: ∃k:Nat,t=k:=⟨t.toNat,by omega⟩
  have hk:k<d.types.length:=by omega
  obtain⟨v0,e1,e2⟩:=h0.tyA hk
  simp only[go_sem,G6,G8,h,h0.at _ hk,e1]
  rw[z5 rfl rfl,z6]
  exact⟨⟨_,rfl⟩,by unfold kindI;rw[if_neg h]⟩
theorem z3M (l:List Int) (x:AV) (hx:IsSl (IsK .u8) 1 l x) (v:Int) (m:Mem):Ok tab 390 [x,.int .u8 v] m (fun r=> ∃i,r= .int .i64 i∧(0≤i↔v∈l)):=by
 refine z2x (tT xi) ?_
 obtain⟨stk,cur,nx,live,fl⟩:=m
 simp only[xi,go_sem,G3,G6,G8,hx.len]
 refine za (α:=Nat) (fun k σ=>(k≤l.length∧v∉l.take k)∧ ∃nz,heads [0,1,7,8] 0 σ=⟨tmps 19 [(0,x),(1,.int .u8 v),(7,.int .i64 l.length),(8,.int .i64 k)],⟨stk++[cur],[],nz,[]::live,fl⟩⟩) (fun k=>l.length-k) 0 ?_ ?_
 ·refine⟨⟨w0b _,by simp⟩,?_⟩
  simp only[go_sem,G6,G7]
  exact⟨_,rfl⟩
 ·rintro k σ ⟨⟨hk,hv⟩,nz,hσ⟩
  rw[hσ]
  clear hσ σ
  dsimp only at hk hv⊢
  by_cases h:k<l.length
  ·have e1:nth x k= .int .u8 l[k]:=hx.nth h
   have hat:=hx.at .i64 h
   have hsucc:=zc h hx.max
   by_cases hq:v=l[k]
   ·have hq':(v==l[k])=true:=by simpa using hq
    simp only[go_sem,G6,G7,G8,w02,h,hat,e1,hq']
    rw[z5 rfl rfl,z6]
    exact⟨⟨_,rfl⟩,_,rfl,⟨fun _=>hq▸w04 h,fun _=>by omega⟩⟩
   ·have hq':(v==l[k])=false:=by simpa using hq
    simp only[go_sem,G6,G7,G8,w02,h,hat,e1,hq',hsucc]
    refine⟨k+1,by omega,⟨h,?_⟩,_,rfl⟩
    rw[w0c h]
    simp only[w0a,w1a,not_or];exact⟨hv,hq⟩
  ·have:k=l.length:=by omega
   subst this
   rw[w06] at hv
   simp only[go_sem,G6,G7,G8,w02,h]
   rw[z5 rfl rfl,z6]
   exact⟨⟨_,rfl⟩,_,rfl,⟨fun h=>absurd h (by decide),fun h=>absurd h hv⟩⟩
theorem QT (l:List Int) (x:AV) (hx:IsSl (IsK .u8) 1 l x) (v:Int) (m:Mem):Okv tab 377 [x,.int .u8 v] m (.bool (decide (v∈l))):=by
 refine ze (tT yP) ?_
 obtain⟨stk,cur,nx,live,fl⟩:=m
 simp only[yP,go_sem,G3,G6,G8]
 refine(z3M l x hx v _).xv fun y n ⟨i,hy,hi⟩=> ?_
 subst hy
 simp only[go_sem,G6,G8]
 rw[z5 rfl rfl,z6]
 exact⟨⟨_,rfl⟩,Te hi⟩
theorem isL1 (a:Int) (tk:Tok):IsSl (IsK .u8) 1 [a] (.list 1 tk [.int .u8 a]):= .mk ⟨rfl,trivial⟩ (by simp)
theorem isL2 (a b:Int) (tk:Tok):IsSl (IsK .u8) 1 [a,b] (.list 1 tk [.int .u8 a,.int .u8 b]):= .mk ⟨rfl,rfl,trivial⟩ (by simp)
theorem isL3 (a b c:Int) (tk:Tok):IsSl (IsK .u8) 1 [a,b,c] (.list 1 tk [.int .u8 a,.int .u8 b,.int .u8 c]):= .mk ⟨rfl,rfl,rfl,trivial⟩ (by simp)
def isT (d:DImage) (t:Int) (ks:List Int):Bool:=decide (0≤t∧kindI d.types t∈ks)
theorem z3F (d:DImage) (f:DFunc) (y:AV) (hy:NV d f y) (t:Int) (ht:t<d.types.length) (ks:List Int) (x:AV) (hx:IsSl (IsK .u8) 1 ks x) (m:Mem):Okv tab 345 [y,.int .i64 t,x] m (.bool (isT d t ks)):=by
 obtain⟨ty,tx,fs,w0,w1,w2,w3,rfl,h0,h1,h2,h3,h4,h5,h6⟩:=hy
 refine ze (tT tK) ?_
 obtain⟨stk,cur,nx,live,fl⟩:=m
 simp only[tK,go_sem,G3,G6,G8]
 by_cases h:t≥0
 ·obtain⟨k,rfl⟩: ∃k:Nat,t=k:=⟨t.toNat,by omega⟩
  have hk:k<d.types.length:=by omega
  obtain⟨v0,e1,e2⟩:=h0.tyA hk
  simp only[go_sem,G6,G8,h,h0.at _ hk,e1,(QT _ _ hx _ _).eq]
  rw[z5 rfl rfl,z6]
  exact⟨⟨_,rfl⟩,by unfold isT kindI;rw[if_neg (by omega)];exact Te ⟨fun h=>⟨by omega,h⟩,fun h=>h.2⟩⟩
 ·simp only[go_sem,G6,G8,h]
  rw[z5 rfl rfl,z6]
  exact⟨⟨_,rfl⟩,by unfold isT;exact Qq (fun h'=>h (by omega))⟩
theorem z72 (d:DImage) (f:DFunc) (y:AV) (hy:NV d f y) (t e:Int) (ht:t<d.types.length) (ks:List Int) (x:AV) (hx:IsSl (IsK .u8) 1 ks x) (m:Mem):Okv tab 348 [y,.int .i64 t,.int .i64 e,x] m (.bool (isT d t ks&&decide ((tyA d.types t).elem=e))):=by
 have hy':=hy
 obtain⟨ty,tx,fs,w0,w1,w2,w3,rfl,h0,h1,h2,h3,h4,h5,h6⟩:=hy
 refine ze (tT uL) ?_
 obtain⟨stk,cur,nx,live,fl⟩:=m
 simp only[uL,go_sem,G3,G6,G8,(z3F d f _ hy' t ht ks x hx _).eq]
 by_cases h:isT d t ks=true
 ·have h':=h
  unfold isT at h'
  simp only[decide_eq_true_eq] at h'
  obtain⟨k,rfl⟩: ∃k:Nat,t=k:=⟨t.toNat,by omega⟩
  have hk:k<d.types.length:=by omega
  obtain⟨v0,e1,e2⟩:=h0.tyA hk
  simp only[go_sem,G6,G8,h,h0.at _ hk,e1]
  rw[z5 rfl rfl,z6]
  exact⟨⟨_,rfl⟩,rfl⟩
 ·have h2:isT d t ks=false:=by simpa using h
  simp only[go_sem,G6,G8,h2]
  rw[z5 rfl rfl,z6]
  exact⟨⟨_,rfl⟩,rfl⟩
def memT (d:DImage) (t k:Int):Int:=if 0≤t∧kindI d.types t=5∧0≤k∧k<(tyA d.types t).fields.length then(fdA (tyA d.types t).fields k).typ else-1
def memB (d:DImage) (t k e:Int):Bool:=decide (0≤t∧kindI d.types t=5∧0≤k∧k<(tyA d.types t).fields.length∧(fdA (tyA d.types t).fields k).typ=e)
theorem z5O (d:DImage) (f:DFunc) (y:AV) (hy:NV d f y) (t i e:Int) (ht:t<d.types.length) (m:Mem):Okv tab 347 [y,.int .i64 t,.int .i64 i,.int .i64 e] m (.bool (memB d t i e)):=by
 have hy':=hy
 obtain⟨ty,tx,fs,w0,w1,w2,w3,rfl,h0,h1,h2,h3,h4,h5,h6⟩:=hy
 refine ze (tT vp) ?_
 obtain⟨stk,cur,nx,live,fl⟩:=m
 simp only[vp,go_sem,G3,G6,G8,(z3F d f _ hy' t ht [5] _ (isL1 5 _) _).eq]
 by_cases h:isT d t [5]=true
 ·have h':=h
  unfold isT at h'
  simp only[decide_eq_true_eq,w1a] at h'
  obtain⟨k,rfl⟩: ∃k:Nat,t=k:=⟨t.toNat,by omega⟩
  have hk:k<d.types.length:=by omega
  obtain⟨v0,e1,e2⟩:=h0.tyA hk
  simp only[go_sem,G6,G8,h,h0.at _ hk,e1,(tZ _ _ e2 _ _).eq]
  by_cases hi:0≤i∧i<(tyA d.types k).fields.length
  ·obtain⟨j,rfl⟩: ∃j:Nat,i=j:=⟨i.toNat,by omega⟩
   have hj:j<(tyA d.types k).fields.length:=by omega
   have hd:decide ((0:Int)≤j∧(j:Int)<(tyA d.types k).fields.length)=true:=by simpa using hi
   simp only[go_sem,G6,G8,hd,h0.at _ hk,e1,e2.at _ hj,e2.fdA hj]
   rw[z5 rfl rfl,z6]
   refine⟨⟨_,rfl⟩,?_⟩
   unfold memB
   exact zaS (by rw[beq_iff_eq];exact⟨fun q=>⟨h'.1,h'.2,hi.1,hi.2,q⟩,fun q=>q.2.2.2.2⟩)
  ·have hd:decide (0≤i∧i<(tyA d.types k).fields.length)=false:=by simpa using hi
   simp only[go_sem,G6,G8,hd]
   rw[z5 rfl rfl,z6]
   exact⟨⟨_,rfl⟩,by unfold memB;exact Qq (fun q=>hi ⟨q.2.2.1,q.2.2.2.1⟩)⟩
 ·have h2:isT d t [5]=false:=by simpa using h
  simp only[go_sem,G6,G8,h2]
  rw[z5 rfl rfl,z6]
  exact⟨⟨_,rfl⟩,by unfold memB;exact Qq (fun q=>h (by unfold isT;simpa using ⟨q.1,q.2.1⟩))⟩
theorem z5N (d:DImage) (y:AV) (hy:IsImage d y) (t i:Int) (ht:t<d.types.length) (m:Mem):Okv tab 395 [y,.int .i64 t,.int .i64 i] m (.int .i64 (memT d t i)):=by
 have hy':=hy
 obtain⟨ty,tx,fs,rfl,h0,h1,h2⟩:=hy
 refine ze (tT vB) ?_
 obtain⟨stk,cur,nx,live,fl⟩:=m
 simp only[vB,go_sem,G3,G6,G8,(z3E d _ hy' t ht _).eq]
 by_cases h:0≤t∧kindI d.types t=5
 ·obtain⟨k,rfl⟩: ∃k:Nat,t=k:=⟨t.toNat,by omega⟩
  have hk:k<d.types.length:=by omega
  obtain⟨v0,e1,e2⟩:=h0.tyA hk
  have h5:(kindI d.types k !=5)=false:=by simpa using h.2
  by_cases hi:0≤i∧i<(tyA d.types k).fields.length
  ·obtain⟨j,rfl⟩: ∃j:Nat,i=j:=⟨i.toNat,by omega⟩
   have hj:j<(tyA d.types k).fields.length:=by omega
   simp only[go_sem,G6,G8,h5,show¬((j:Int)<0) by omega,h0.at _ hk,e1,e2.len,show¬((j:Int)≥(tyA d.types k).fields.length) by omega,e2.at _ hj,e2.fdA hj]
   rw[z5 rfl rfl,z6]
   exact⟨⟨_,rfl⟩,by unfold memT;rw[if_pos ⟨h.1,h.2,hi⟩]⟩
  ·have hm:memT d k i= -1:=by unfold memT;rw[if_neg fun q=>hi q.2.2]
   by_cases hi0:i<0
   ·simp only[go_sem,G6,G8,h5,hi0]
    rw[z5 rfl rfl,z6]
    exact⟨⟨_,rfl⟩,by rw[hm]⟩
   ·simp only[go_sem,G6,G8,h5,hi0,h0.at _ hk,e1,e2.len,show i≥(tyA d.types k).fields.length by omega]
    rw[z5 rfl rfl,z6]
    exact⟨⟨_,rfl⟩,by rw[hm]⟩
 ·have h5:(kindI d.types t !=5)=true:=by
   rw[bne_iff_ne];intro e
   by_cases ht0:0≤t
   ·exact h ⟨ht0,e⟩
   ·unfold kindI at e;rw[if_pos (by omega)] at e;omega
  simp only[go_sem,G6,G8,h5]
  rw[z5 rfl rfl,z6]
  exact⟨⟨_,rfl⟩,by unfold memT;rw[if_neg fun q=>h ⟨q.1,q.2.1⟩]⟩
def ofT (d:DImage) (t a b:Int):Int:=if 0≤t∧(kindI d.types t=a∨kindI d.types t=b) then(tyA d.types t).elem else-1
theorem zbd (d:DImage) (y:AV) (hy:IsImage d y) (t a b:Int) (ht:t<d.types.length) (m:Mem):Okv tab 396 [y,.int .i64 t,.int .u8 a,.int .u8 b] m (.int .i64 (ofT d t a b)):=by
 have hy':=hy
 obtain⟨ty,tx,fs,rfl,h0,h1,h2⟩:=hy
 refine ze (tT qb) ?_
 obtain⟨stk,cur,nx,live,fl⟩:=m
 simp only[qb,go_sem,G3,G6,G8,(z3E d _ hy' t ht _).eq]
 by_cases h:t<0
 ·simp only[go_sem,G6,G8,h]
  rw[z5 rfl rfl,z6]
  exact⟨⟨_,rfl⟩,by unfold ofT;rw[if_neg (by omega)]⟩
 ·obtain⟨k,rfl⟩: ∃k:Nat,t=k:=⟨t.toNat,by omega⟩
  have hk:k<d.types.length:=by omega
  obtain⟨v0,e1,e2⟩:=h0.tyA hk
  simp only[go_sem,G6,G8,h]
  have fine:kindI d.types k=a∨kindI d.types k=b→ofT d k a b=(tyA d.types k).elem:=fun q=>by unfold ofT;rw[if_pos ⟨by omega,q⟩]
  by_cases ha:kindI d.types k=a
  ·have ha':(kindI d.types k !=a)=false:=by simpa using ha
   simp only[go_sem,G6,G8,ha',h0.at _ hk,e1]
   rw[z5 rfl rfl,z6]
   exact⟨⟨_,rfl⟩,by rw[fine (.inl ha)]⟩
  ·have ha':(kindI d.types k !=a)=true:=by simpa using ha
   by_cases hb:kindI d.types k=b
   ·have hb':(kindI d.types k !=b)=false:=by simpa using hb
    simp only[go_sem,G6,G8,ha',hb',h0.at _ hk,e1]
    rw[z5 rfl rfl,z6]
    exact⟨⟨_,rfl⟩,by rw[fine (.inr hb)]⟩
   ·have hb':(kindI d.types k !=b)=true:=by simpa using hb
    simp only[go_sem,G6,G8,ha',hb']
    rw[z5 rfl rfl,z6]
    exact⟨⟨_,rfl⟩,by unfold ofT;rw[if_neg fun q=>q.2.elim ha hb]⟩
abbrev IsI:Int→AV→Prop:=IsK .i64
def rdsk (x:DInstr) (k:Nat):List Int:=((List.range k).filter fun j=>rd (sk x j)&&decide (0≤opn x j)).map (opn x)
def wrsk (x:DInstr) (k:Nat):List Int:=((List.range k).filter fun j=>wt (sk x j)&&decide (0≤opn x j)).map (opn x)
def rds (x:DInstr):List Int:=rdsk x 3
def wrs (x:DInstr):List Int:=wrsk x 3
theorem z1v {x:DInstr} {k:Nat} (h:rd (sk x k)=true) (h':0≤opn x k):rdsk x (k+1)=rdsk x k++[opn x k]:=by
 unfold rdsk;rw[List.range_succ,List.filter_append,w28];simp[h,h']
theorem TJ {x:DInstr} {k:Nat} (h: ¬(rd (sk x k)=true∧0≤opn x k)):rdsk x (k+1)=rdsk x k:=by
 unfold rdsk;rw[List.range_succ,List.filter_append,w28];simp at h⊢;exact h
theorem z0W {x:DInstr} {k:Nat} (h:wt (sk x k)=true) (h':0≤opn x k):wrsk x (k+1)=wrsk x k++[opn x k]:=by
 unfold wrsk;rw[List.range_succ,List.filter_append,w28];simp[h,h']
theorem Tg {x:DInstr} {k:Nat} (h: ¬(wt (sk x k)=true∧0≤opn x k)):wrsk x (k+1)=wrsk x k:=by
 unfold wrsk;rw[List.range_succ,List.filter_append,w28];simp at h⊢;exact h
theorem YF (x:DInstr) (k:Nat):(rdsk x k).length≤k:=by unfold rdsk;rw[w53];exact w4c (List.length_filter_le _ _) (by simp)
theorem Z3 (x:DInstr) (k:Nat):(wrsk x k).length≤k:=by unfold wrsk;rw[w53];exact w4c (List.length_filter_le _ _) (by simp)
theorem ZQ (a:Int):All2 IsI [a] [.int .i64 a]:=⟨rfl,trivial⟩
theorem z2v {y1 y2:AV} {a b:List Int} {own:List Nat} {nx:Nat} (h:Own2 IsI 1 y1 a IsI 1 y2 b own nx) {r:AV} (hr: ∀t,t∈y1.toks∨t∈y2.toks→t∈r.toks):Own2 IsI 1 y1 a IsI 1 y2 b (own.filter fun t=>r.toks.contains t) nx:=by
 have key: ∀{y:AV} {xs:List Int},Own IsI 1 y xs own→(∀t∈y.toks,t∈r.toks)→Own IsI 1 y xs (own.filter fun t=>r.toks.contains t):=by
  intro y xs h k
  rcases h with h|⟨tk,ys,rfl,h2,h3|⟨t,h3,rfl⟩⟩
  ·exact .inl h
  ·exact .inr ⟨tk,ys,rfl,h2,.inl h3⟩
  ·exact .inr ⟨_,ys,rfl,h2,.inr ⟨t,List.mem_filter.2 ⟨h3,by simpa using k t (by simp[AV.toks])⟩,rfl⟩⟩
 exact⟨key h.l fun t ht=>hr t (.inl ht),key h.r fun t ht=>hr t (.inr ht),h.dj,h.bl,h.br⟩
theorem VH (x:DInstr) (hw:WfI x) (hx:InstrP x) (m:Mem):OkT tab 361 [.agg [.int .u8 x.op,.int .i64 x.a,.int .i64 x.b,.int .i64 x.c]] m (fun r ts n=> ∃y1 y2,r= .tup [y1,y2]∧Own2 IsI 1 y1 (rds x) IsI 1 y2 (wrs x) ts n):=by
 refine Zv (tT vk) ?_
 obtain⟨stk,cur,nx,live,fl⟩:=m
 have hx':=hx
 obtain⟨a,b,c,hs,_⟩:=hx'
 simp only[vk,go_sem,G3,G6,G8,(UX x.op _).eq,(qr x _).eq,hs]
 refine za (α:=Nat) (fun k σ=>k≤3∧ ∃nz y1 y2 e,Own2 IsI 1 y1 (rdsk x k) IsI 1 y2 (wrsk x k) e nz∧heads [4,5,6,7,8] 2 σ=⟨tmps 64 [(4,y1),(5,y2),(6,.str [a,b,c]),(7,.ptr (stk++[cur]).length 1 (nx+1) 0),(8,.int .i64 k)],⟨stk++[cur],[⟨nx,[.int .u8 x.op,.int .i64 x.a,.int .i64 x.b,.int .i64 x.c]⟩,⟨nx+1,[.int .i64 x.a,.int .i64 x.b,.int .i64 x.c]⟩],nz,e::live,fl⟩⟩) (fun k=>3-k) 0 ?_ ?_
 ·refine⟨w0b _,?_⟩
  simp only[go_sem,G6,G7]
  exact⟨_,_,_,[],.nil _ _,rfl⟩
 ·rintro k σ ⟨hk,nz,y1,y2,e,ho,hσ⟩
  rw[hσ]
  clear hσ σ
  dsimp only at hk⊢
  by_cases h:k<3
  ·obtain⟨hlt,hfit,hin,hcnt,hget⟩:=jN hs hx hw h
   have hix:idx (.int .i64 (k:Int)) 3=some k:=zo .i64 k 3 h
   have hc3:=cell3 x h
   have hlt3:((k:Int)<3)=True:=eq_true (by omega)
   have hsucc:IntKind.i64.wrap ((k:Int)+1)=((k+1:Nat):Int):=by rw[z7 (by omega) (by omega)];omega
   have hl1:=YF x k
   have hl2:=Z3 x k
   have q: ∀c:UInt8,(((sk x k).toNat:Int)==(c.toNat:Int))=(sk x k==c):=fun c=>by
    rw[Bool.eq_iff_iff,beq_iff_eq,beq_iff_eq,Int.ofNat_inj,UInt8.toNat_inj]
   have q114:=q 114
   have q101:=q 101
   have q119:=q 119
   have q103:=q 103
   change (((sk x k).toNat:Int)==114)=_ at q114
   change (((sk x k).toNat:Int)==101)=_ at q101
   change (((sk x k).toNat:Int)==119)=_ at q119
   change (((sk x k).toNat:Int)==103)=_ at q103
   by_cases hr:rd (sk x k)=true∧0≤opn x k
   ·obtain⟨hr,hp⟩:=hr
    have hw':wt (sk x k)=false:=by
     unfold rd at hr;unfold wt
     grind
    have hge:opn x k≥0:=hp
    have w1:(sk x k==119)=false:=by unfold wt at hw';simp only[w29] at hw';exact hw'.1
    have w2:(sk x k==103)=false:=by unfold wt at hw';simp only[w29] at hw';exact hw'.2
    by_cases r1:(sk x k==114)=true
    ·simp only[go_sem,G3,G6,G7,G8,hlt3,hix,hget,q114,r1,evIaddrA,w0d,hc3,hge]
     refine ho.xv1 (zd · 1 .full [.int .i64 (opn x k)]) (ZQ _) (by simp;omega) fun y' n' e' ho'=> ?_
     simp only[go_sem,G3,G6,G8,hix,hget,q119,q103,w1,w2,hsucc]
     ·refine⟨k+1,by omega,by omega,_,_,_,_,?_,rfl⟩
      rw[z1v hr hp,Tg (by simp[hw'])];assumption
    ·have r1:(sk x k==114)=false:=by simpa using r1
     have r2:(sk x k==101)=true:=by unfold rd at hr;rw[r1] at hr;simpa using hr
     simp only[go_sem,G3,G6,G7,G8,hlt3,hix,hget,q114,q101,r1,r2,evIaddrA,w0d,hc3,hge]
     refine ho.xv1 (zd · 1 .full [.int .i64 (opn x k)]) (ZQ _) (by simp;omega) fun y' n' e' ho'=> ?_
     simp only[go_sem,G3,G6,G8,hix,hget,q119,q103,w1,w2,hsucc]
     ·refine⟨k+1,by omega,by omega,_,_,_,_,?_,rfl⟩
      rw[z1v hr hp,Tg (by simp[hw'])];assumption
   ·by_cases hwp:wt (sk x k)=true∧0≤opn x k
    ·obtain⟨hwt,hp⟩:=hwp
     have hge:opn x k≥0:=hp
     have hr':rd (sk x k)=false:=by
      grind
     have r1:(sk x k==114)=false:=by unfold rd at hr';simp only[w29] at hr';exact hr'.1
     have r2:(sk x k==101)=false:=by unfold rd at hr';simp only[w29] at hr';exact hr'.2
     by_cases w1:(sk x k==119)=true
     ·simp only[go_sem,G3,G6,G7,G8,hlt3,hix,hget,q114,q101,q119,r1,r2,w1,evIaddrA,w0d,hc3,hge]
      refine ho.xv2 (zd · 1 .full [.int .i64 (opn x k)]) (ZQ _) (by simp;omega) fun y' n' e' ho'=> ?_
      simp only[go_sem,G6,G8,hsucc]
      ·refine⟨k+1,by omega,by omega,_,_,_,_,?_,rfl⟩
       rw[TJ hr,z0W hwt hp];assumption
     ·have w1:(sk x k==119)=false:=by simpa using w1
      have w2:(sk x k==103)=true:=by unfold wt at hwt;rw[w1] at hwt;simpa using hwt
      simp only[go_sem,G3,G6,G7,G8,hlt3,hix,hget,q114,q101,q119,q103,r1,r2,w1,w2,evIaddrA,w0d,hc3,hge]
      refine ho.xv2 (zd · 1 .full [.int .i64 (opn x k)]) (ZQ _) (by simp;omega) fun y' n' e' ho'=> ?_
      simp only[go_sem,G6,G8,hsucc]
      ·refine⟨k+1,by omega,by omega,_,_,_,_,?_,rfl⟩
       rw[TJ hr,z0W hwt hp];assumption
    ·simp only[go_sem,G3,G6,G7,G8,hlt3,hix,hget,q114]
     repeat' (((first|refine uN ?_ ?_|refine yY ?_ ?_|refine yZ ?_ ?_|refine yW ?_ ?_|refine yX ?_ ?_)<;>intro hq)<;>simp only[go_sem,G3,G6,G8,hq,hix,hget,q101,q119,q103,evIaddrA,w0d,hc3,hsucc])
     all_goals first
      |(refine⟨k+1,by omega,by omega,_,_,_,_,?_,rfl⟩;rw[TJ hr,Tg hwp];exact ho)
      |(exfalso;simp only[rd,wt,w31,decide_eq_true_eq] at*;simp_all)
  ·have:k=3:=by omega
   subst this
   simp only[go_sem,G4,G6,G7,G8,show(((3:Nat):Int)<3)=False from eq_false (by decide)]
   refine yo ?_ ⟨y1,y2,rfl,z2v ho fun t ht=> ?_⟩
   ·simp only[AV.refs,refsAny,ho.l.refs,ho.r.refs];rfl
   ·simp only[AV.toks,toksAll,w0a,List.not_mem_nil,or_false];exact ht
theorem cellR {x:DInstr} {a b c:UInt8} (hs:shp x.op=[a,b,c]) {k:Nat} (h:k<3):takeV false 1 (([.bool (rd a),.bool (wt a),.int .i64 (lo b),.int .i64 (hi b),.bool (rd b),.bool (wt b),.int .i64 (lo c),.int .i64 (hi c),.bool (rd c),.bool (wt c)]:List AV).drop (k*4))=some (.bool (rd (sk x k))):=by
 unfold sk;rw[hs]
 rcases three h with rfl|rfl|rfl<;>rfl
theorem cellW {x:DInstr} {a b c:UInt8} (hs:shp x.op=[a,b,c]) {k:Nat} (h:k<3):takeV false 1 (([.bool (wt a),.int .i64 (lo b),.int .i64 (hi b),.bool (rd b),.bool (wt b),.int .i64 (lo c),.int .i64 (hi c),.bool (rd c),.bool (wt c)]:List AV).drop (k*4))=some (.bool (wt (sk x k))):=by
 unfold sk;rw[hs]
 rcases three h with rfl|rfl|rfl<;>rfl
theorem z1e (x:DInstr) (hw:WfI x) (hx:InstrP x) (m:Mem) (hf:m.floor≤m.stk.length+1):OkT tab 303 [.agg [.int .u8 x.op,.int .i64 x.a,.int .i64 x.b,.int .i64 x.c]] m (fun r ts n=> ∃y1 y2,r= .tup [y1,y2,.int .i64 0]∧Own2 IsI 1 y1 (rds x) IsI 1 y2 (wrs x) ts n):=by
 refine Zv (tT X5) ?_
 obtain⟨stk,cur,nx,live,fl⟩:=m
 dsimp only at hf
 have hf':fl≤(stk++[cur]).length+1:=by simp;omega
 have hx':=hx
 obtain⟨a,b,c,hs,_⟩:=hx'
 have hS:=fun c nz lv=>(Yq x.op ⟨stk++[cur],c,nz,lv,fl⟩ hf').eq
 have hC:=fun c nz lv=>(kh x ⟨stk++[cur],c,nz,lv,fl⟩ hf').eq
 rw[jP hx] at hC
 simp only[X5,go_sem,G3,G6,G8,hC,show((0:Int) !=0)=false from rfl,hS,TG hs,(jJ x _).eq]
 refine za (α:=Nat) (fun k σ=>k≤3∧ ∃nz st y1 y2 e,Own2 IsI 1 y1 (rdsk x k) IsI 1 y2 (wrsk x k) e nz∧heads [2,3,6,22,23] 2 σ=⟨tmps 54 [(2,y1),(3,y2),(6,.ptr (stk++[cur]).length 1 st 0),(22,.agg [.int .i64 x.a,.int .i64 x.b,.int .i64 x.c]),(23,.int .i64 k)],⟨stk++[cur],[⟨nx,[.int .u8 x.op,.int .i64 x.a,.int .i64 x.b,.int .i64 x.c]⟩,⟨st,[.int .i64 (lo a),.int .i64 (hi a),.bool (rd a),.bool (wt a),.int .i64 (lo b),.int .i64 (hi b),.bool (rd b),.bool (wt b),.int .i64 (lo c),.int .i64 (hi c),.bool (rd c),.bool (wt c)]⟩],nz,e::live,fl⟩⟩) (fun k=>3-k) 0 ?_ ?_
 ·refine⟨w0b _,?_⟩
  simp only[go_sem,G6,G7]
  exact⟨_,_,_,_,[],.nil _ _,rfl⟩
 ·rintro k σ ⟨hk,nz,st,y1,y2,e,ho,hσ⟩
  rw[hσ]
  clear hσ σ
  dsimp only at hk⊢
  by_cases h:k<3
  ·have hix:idx (.int .i64 (k:Int)) 3=some k:=zo .i64 k 3 h
   have hc3:=cell3 x h
   have hcr:=cellR hs h
   have hcw:=cellW hs h
   have hlt3:((k:Int)<3)=True:=eq_true (by omega)
   have hsucc:IntKind.i64.wrap ((k:Int)+1)=((k+1:Nat):Int):=by rw[z7 (by omega) (by omega)];omega
   have hl1:=YF x k
   have hl2:=Z3 x k
   simp only[go_sem,G6,G7,G8,hlt3,hix,w0d,hc3,evIaddrA,hcr]
   by_cases hr:rd (sk x k)=true∧0≤opn x k
   ·obtain⟨hr,hp⟩:=hr
    have hge:opn x k≥0:=hp
    simp only[go_sem,G6,G8,hr,hge]
    refine ho.xv1 (zd · 1 .full [.int .i64 (opn x k)]) (ZQ _) (by simp;omega) fun y' n' e' ho'=> ?_
    simp only[go_sem,G6,G8,hix,evIaddrA,hcw]
    by_cases hwt:wt (sk x k)=true
    ·simp only[go_sem,G6,G8,hwt,hge]
     refine ho'.xv2 (zd · 1 .full [.int .i64 (opn x k)]) (ZQ _) (by simp;omega) fun y2' n2 e2 ho2=> ?_
     simp only[go_sem,G6,G8,hsucc]
     refine⟨k+1,by omega,by omega,_,_,_,_,_,?_,rfl⟩
     rw[z1v hr hp,z0W hwt hp];exact ho2
    ·have hwt':wt (sk x k)=false:=by simpa using hwt
     simp only[go_sem,G6,G8,hwt',hsucc]
     refine⟨k+1,by omega,by omega,_,_,_,_,_,?_,rfl⟩
     rw[z1v hr hp,Tg (fun q=>hwt q.1)];exact ho'
   ·by_cases hwp:wt (sk x k)=true∧0≤opn x k
    ·obtain⟨hwt,hp⟩:=hwp
     have hge:opn x k≥0:=hp
     have hr':rd (sk x k)=false:=by
      grind
     simp only[go_sem,G6,G8,hr',hix,evIaddrA,hcw,hwt,hge]
     refine ho.xv2 (zd · 1 .full [.int .i64 (opn x k)]) (ZQ _) (by simp;omega) fun y2' n2 e2 ho2=> ?_
     simp only[go_sem,G6,G8,hsucc]
     refine⟨k+1,by omega,by omega,_,_,_,_,_,?_,rfl⟩
     rw[TJ hr,z0W hwt hp];exact ho2
    ·repeat' (((first|refine uN ?_ ?_|refine yY ?_ ?_|refine yZ ?_ ?_|refine yW ?_ ?_|refine yX ?_ ?_)<;>intro hq)<;>simp only[go_sem,G6,G8,hq,hix,evIaddrA,hcw,hsucc])
     all_goals first
      |(refine⟨k+1,by omega,by omega,_,_,_,_,_,?_,rfl⟩;rw[TJ hr,Tg hwp];exact ho)
      |(exfalso;simp only[decide_eq_true_eq] at*;simp_all)
  ·have:k=3:=by omega
   subst this
   simp only[go_sem,G4,G6,G7,G8,show(((3:Nat):Int)<3)=False from eq_false (by decide)]
   refine yo ?_ ⟨y1,y2,rfl,z2v ho fun t ht=> ?_⟩
   ·simp only[AV.refs,refsAny,ho.l.refs,ho.r.refs];rfl
   ·simp only[AV.toks,toksAll,w0a,List.not_mem_nil,or_false];exact ht
theorem z7v {x:DInstr}: ∀s∈rds x,0≤s:=by
 intro s h
 unfold rds rdsk at h
 grind
theorem zao {x:DInstr}: ∀s∈wrs x,0≤s:=by
 intro s h
 unfold wrs wrsk at h
 grind
def NearP (d:DImage) (f:DFunc) (x:DInstr):Prop:=(∀s∈rds x++wrs x,s<f.slots.length)∧called x<d.funcs.length∧(x.op=2→x.b<d.texts.length)
theorem zaB {x:DInstr} (h:InstrP x) (e:x.op=2):0≤x.b:=by
 obtain⟨a,b,c,hs,f1,f2,f3⟩:=h
 rw[e] at hs
 have:shp 2=[119,116,45]:=by decide
 rw[this] at hs
 injection hs with _ hs
 injection hs with hs _
 subst hs
 have:lo 116=0:=by decide
 unfold fitsK at f2;omega
theorem zas (d:DImage) (f:DFunc) (y:AV) (hy:NV d f y) (x:DInstr) (hx:InstrP x) (hw:WfI x) (m:Mem) (hf:m.floor≤m.stk.length+1):
  Okv tab 299 [y,.agg [.int .u8 x.op,.int .i64 x.a,.int .i64 x.b,.int .i64 x.c]] m (.int .i64 (if pb (NearP d f x) then 0 else 16)):=by
 obtain⟨ty,tx,fs,w0,w1,w2,w3,rfl,h0,h1,h2,h3,h4,h5,h6⟩:=hy
 refine ze (tT uK) ?_
 obtain⟨stk,cur,nx,live,fl⟩:=m
 dsimp only at hf
 have hf':fl≤(stk++[cur]).length+1:=by simp;omega
 simp only[uK,go_sem,G3,G6,G8]
 refine(z1e x hw hx _ hf').xv fun r ts n1 ⟨y1,y2,hr,ho⟩=> ?_
 subst hr
 have hl1:=YF x 3
 have hl2:=Z3 x 3
 have hlive: ∃e,pushToks ts ([]::live)=e::live∧Own2 IsI 1 y1 (rds x) IsI 1 y2 (wrs x) e n1:=by
  cases ts with
  |nil=>exact⟨[],rfl,ho⟩
  |cons t ts=>exact⟨_,rfl,by simpa using ho⟩
 obtain⟨e,he,ho⟩:=hlive
 simp only[he]
 simp only[go_sem,G6,G8,show((0:Int) !=0)=false from rfl]
 obtain⟨z2,hz2,hc2⟩:=ho.r.elems
 refine ho.l.xv hz2 hc2 (by unfold rds wrs;omega) fun y3 n3 e3 ho3=> ?_
 have hy3:=ho3.sl (by rw[w0e];unfold rds wrs;omega)
 have hlen3:(rds x++wrs x).length≤6:=by rw[w0e];unfold rds wrs;omega
 have hnn: ∀s∈rds x++wrs x,0≤s:=fun s hs=>by
  rcases w0a.1 hs with q|q
  ·exact z7v s q
  ·exact zao s q
 have hNP:NearP d f x↔(∀s∈rds x++wrs x,s<f.slots.length)∧called x<d.funcs.length∧(x.op=2→x.b<d.texts.length):=Iff.rfl
 generalize hL:rds x++wrs x=l at*
 simp only[go_sem,G3,G6,G8,hy3.len]
 refine za (α:=Nat) (fun k σ=>(k≤l.length∧ ∀j,(hj:j<k)→(hl:j<l.length)→l[j]<f.slots.length)∧ ∃nz e,heads [2,3,22,23,24] 2 σ=⟨tmps 57 [(2,.ptr (stk++[cur]).length 0 nx 0),(3,.ptr (stk++[cur]).length 1 (nx+1) 0),(22,y3),(23,.int .i64 l.length),(24,.int .i64 k)],⟨stk++[cur],[⟨nx,[ty,tx,fs,.str f.name,.int .i64 f.params,.int .i64 f.result,w0,w1,w2,w3]⟩,⟨nx+1,[.int .u8 x.op,.int .i64 x.a,.int .i64 x.b,.int .i64 x.c]⟩],nz,e::live,fl⟩⟩) (fun k=>l.length-k) 0 ?_ ?_
 ·refine⟨⟨w0b _,fun j h=>absurd h (w34 _)⟩,?_⟩
  simp only[go_sem,G6,G7]
  simp
 ·rintro k σ ⟨⟨hk,ht⟩,nz,e4,hσ⟩
  rw[hσ]
  clear hσ σ
  dsimp only at hk ht⊢
  by_cases h:k<l.length
  ·have e1:nth y3 k= .int .i64 l[k]:=hy3.nth h
   have hsucc:=zc h hy3.max
   have hnn':=hnn _ (w04 h)
   simp only[go_sem,G3,G6,G7,G8,w02,h,hy3.at _ h,e1,(tZ _ _ h3 _ _).eq]
   by_cases hq:l[k]<f.slots.length
   ·have hd:decide (0≤l[k]∧l[k]<f.slots.length)=true:=decide_eq_true ⟨hnn',hq⟩
    simp only[go_sem,G6,G8,hd,hsucc]
    refine⟨k+1,by omega,⟨h,fun j hj hl=> ?_⟩,_,_,rfl⟩
    grind
   ·have hd:decide (0≤l[k]∧l[k]<f.slots.length)=false:=decide_eq_false fun q=>hq q.2
    simp only[go_sem,G6,G8,hd]
    rw[z5 rfl rfl,z6]
    refine⟨⟨_,rfl⟩,?_⟩
    rw[zk fun q=>hq ((hNP.1 q).1 _ (w04 h))];rfl
  ·have hke:k=l.length:=by omega
   subst hke
   have hall: ∀s∈l,s<f.slots.length:=fun s hs=>by
    obtain⟨j,hj,rfl⟩:=List.mem_iff_getElem.1 hs
    grind
   simp only[go_sem,G3,G6,G7,G8,w02,h,(Yv x _).eq,h2.len]
   by_cases hcl:called x≥d.funcs.length
   ·simp only[go_sem,G6,G8,hcl]
    rw[z5 rfl rfl,z6]
    refine⟨⟨_,rfl⟩,?_⟩
    rw[zk fun q=>by have:=(hNP.1 q).2.1;omega];rfl
   ·by_cases h2o:x.op=2
    ·have h2b:(x.op==2)=true:=by simpa using h2o
     have hnn2:=zaB hx h2o
     by_cases hb:x.b<d.texts.length
     ·have hd:decide (0≤x.b∧x.b<d.texts.length)=true:=decide_eq_true ⟨hnn2,hb⟩
      simp only[go_sem,G6,G8,hcl,h2b,(Y3 _ _ h1 _ _).eq,hd]
      rw[z5 rfl rfl,z6]
      refine⟨⟨_,rfl⟩,?_⟩
      rw[yn (hNP.2 ⟨hall,by omega,fun _=>hb⟩)];rfl
     ·have hd:decide (0≤x.b∧x.b<d.texts.length)=false:=decide_eq_false fun q=>hb q.2
      simp only[go_sem,G6,G8,hcl,h2b,(Y3 _ _ h1 _ _).eq,hd]
      rw[z5 rfl rfl,z6]
      refine⟨⟨_,rfl⟩,?_⟩
      rw[zk fun q=>hb ((hNP.1 q).2.2 h2o)];rfl
    ·have h2b:(x.op==2)=false:=by simpa using h2o
     simp only[go_sem,G6,G8,hcl,h2b]
     rw[z5 rfl rfl,z6]
     refine⟨⟨_,rfl⟩,?_⟩
     rw[yn (hNP.2 ⟨hall,by omega,fun q=>absurd q h2o⟩)];rfl
def fn00:DFunc:=⟨[],0,0,[],[],[],[]⟩
def fnA (l:List DFunc) (k:Nat):DFunc:=l.getD k fn00
theorem Vf {l:List DFunc} {j:Nat} (h:j<l.length):l[j]=fnA l j:=by simp[fnA,w05,h]
theorem _root_.Go.Vs.IsSl.fnA {l:List DFunc} {x:AV} (hx:IsSl IsFunc 7 l x) {j:Nat} (h:j<l.length): ∃w0 w1 w2 w3,Vs.nth x j= .agg [.str (fnA l j).name,.int .i64 (fnA l j).params,.int .i64 (fnA l j).result,w0,w1,w2,w3]∧
  IsSl IsField 2 (fnA l j).slots w0∧IsSl IsInstr 4 (fnA l j).code w1∧IsSl IsRun 2 (fnA l j).sizes w2∧IsSl IsRun 2 (fnA l j).lives w3:=by
 rw[←Vf h];exact hx.nth h
theorem zax (d:DImage) (y:AV) (hy:IsImage d y) (g:Nat) (hg:g<d.funcs.length) (x:DInstr) (hx:InstrP x) (hw:WfI x) (m:Mem):
  Okv tab 381 [y,.int .i64 g,.agg [.int .u8 x.op,.int .i64 x.a,.int .i64 x.b,.int .i64 x.c]] m (.bool (pb (NearP d (fnA d.funcs g) x))):=by
 obtain⟨ty,tx,fs,rfl,h0,h1,h2⟩:=hy
 obtain⟨w0,w1,w2,w3,ef,h3,h4,h5,h6⟩:=h2.fnA hg
 have hatg:=h2.at .i64 hg
 refine ze (tT tc) ?_
 obtain⟨stk,cur,nx,live,fl⟩:=m
 simp only[tc,go_sem,G3,G6,G8]
 refine(VH x hw hx _).xv fun r ts n1 ⟨y1,y2,hr,ho⟩=> ?_
 subst hr
 have hl1:=YF x 3
 have hl2:=Z3 x 3
 have hlive: ∃e,pushToks ts ([]::live)=e::live∧Own2 IsI 1 y1 (rds x) IsI 1 y2 (wrs x) e n1:=by
  cases ts with
  |nil=>exact⟨[],rfl,ho⟩
  |cons t ts=>exact⟨_,rfl,by simpa using ho⟩
 obtain⟨e,he,ho⟩:=hlive
 simp only[he]
 simp only[go_sem,G6,G8]
 obtain⟨z1,hz1,hc1⟩:=ho.l.elems
 obtain⟨z2,hz2,hc2⟩:=ho.r.elems
 have hn:Own IsI 1 (.list 1 .full []) [] e:=Own.full (R:=IsI) (xs:=[]) (ys:=[]) trivial e
 refine hn.xv hz1 hc1 (by unfold rds;simp;omega) fun y3 n3 e3 ho3=> ?_
 simp only[go_sem,G6,G8]
 rw[w2f] at ho3
 refine ho3.xv hz2 hc2 (by unfold rds wrs;omega) fun y4 n4 e4 ho4=> ?_
 have hy3:=ho4.sl (by rw[w0e];unfold rds wrs;omega)
 have hNP:NearP d (fnA d.funcs g) x↔(∀s∈rds x++wrs x,s<(fnA d.funcs g).slots.length)∧called x<d.funcs.length∧(x.op=2→x.b<d.texts.length):=Iff.rfl
 generalize fnA d.funcs g=f at*
 generalize hL:rds x++wrs x=l at*
 simp only[go_sem,G3,G6,G8]
 refine za (α:=Nat) (fun k σ=>(k≤l.length∧ ∀j,(hj:j<k)→(hl:j<l.length)→l[j]<f.slots.length)∧ ∃nz e,heads [1,3,5,9,10] 2 σ=⟨tmps 60 [(1,.int .i64 g),(3,.ptr (stk++[cur]).length 0 nx 0),(5,.ptr (stk++[cur]).length 1 (nx+1) 0),(9,y4),(10,.int .i64 k)],⟨stk++[cur],[⟨nx,[ty,tx,fs]⟩,⟨nx+1,[.int .u8 x.op,.int .i64 x.a,.int .i64 x.b,.int .i64 x.c]⟩],nz,e::live,fl⟩⟩) (fun k=>l.length-k) 0 ?_ ?_
 ·refine⟨⟨w0b _,fun j h=>absurd h (w34 _)⟩,?_⟩
  simp only[go_sem,G6,G7]
  simp
 ·rintro k σ ⟨⟨hk,ht⟩,nz,e5,hσ⟩
  rw[hσ]
  clear hσ σ
  dsimp only at hk ht⊢
  by_cases h:k<l.length
  ·have e1:nth y4 k= .int .i64 l[k]:=hy3.nth h
   have hsucc:=zc h hy3.max
   by_cases hq:l[k]<f.slots.length
   ·simp only[go_sem,G6,G7,G8,w02,h,hy3.len,hy3.at _ h,e1,hatg,ef,h3.len,show¬l[k]≥f.slots.length by omega,hsucc]
    refine⟨k+1,by omega,⟨h,fun j hj hl=> ?_⟩,_,_,rfl⟩
    grind
   ·simp only[go_sem,G6,G7,G8,w02,h,hy3.len,hy3.at _ h,e1,hatg,ef,h3.len,show l[k]≥f.slots.length by omega]
    rw[z5 rfl rfl,z6]
    refine⟨⟨_,rfl⟩,?_⟩
    rw[zk fun q=>hq ((hNP.1 q).1 _ (w04 h))]
  ·have hke:k=l.length:=by omega
   subst hke
   have hall: ∀s∈l,s<f.slots.length:=fun s hs=>by
    obtain⟨j,hj,rfl⟩:=List.mem_iff_getElem.1 hs
    grind
   simp only[go_sem,G3,G6,G7,G8,w02,h,hy3.len,(qn x _).eq,h2.len]
   by_cases hcl:called x<d.funcs.length
   ·by_cases h2o:x.op=2
    ·have h2b:(x.op !=2)=false:=by simpa using h2o
     simp only[go_sem,G6,G8,hcl,h2b,h1.len]
     rw[z5 rfl rfl,z6]
     refine⟨⟨_,rfl⟩,congrArg AV.bool (Za ?_)⟩
     grind
    ·have h2b:(x.op !=2)=true:=by simpa using h2o
     simp only[go_sem,G6,G8,hcl,h2b]
     rw[z5 rfl rfl,z6]
     refine⟨⟨_,rfl⟩,?_⟩
     rw[yn (hNP.2 ⟨hall,hcl,fun q=>absurd q h2o⟩)]
   ·simp only[go_sem,G6,G8,hcl]
    rw[z5 rfl rfl,z6]
    refine⟨⟨_,rfl⟩,?_⟩
    rw[zk fun q=>hcl (hNP.1 q).2.1]
theorem jC {α:Type} {R:α→AV→Prop} {s bytes:Nat} {stk:List (List Blk)} {cur:List Blk} {nx fl:Nat} {e:List Nat} {rest:List (List Nat)} {xs:List α} {z:AV} (hz:IsSl R s xs z) (hl:xs.length*bytes≤140737488355328):
  ∃y n e',evApp ⟨stk,cur,nx,e::rest,fl⟩ s bytes (.list s .full []) z=some (y,⟨stk,cur,n,e'::rest,fl⟩)∧IsSl R s xs y∧ ∀t∈e,t∈e':=by
 obtain⟨zs,h1,h2⟩:=hz.elems_any
 have ho:Own R s (.list s .full []) ([]:List α) (Mem.live ⟨stk,cur,nx,e::rest,fl⟩).flatten:=Own.full (show All2 R [] [] from trivial) _
 have hmx:=hz.max
 rcases ho.app (m:=⟨stk,cur,nx,e::rest,fl⟩) (h1 _) h2 (by simpa using hl) with⟨hcs,q⟩|⟨ys,q,eq⟩|⟨t,ys,q0,hy,_,q,eq⟩
 ·subst hcs;exact⟨_,_,_,q,.mk (show All2 R [] [] from trivial) (by simp),fun t h=>h⟩
 ·exact⟨_,_,_,eq,.mk q hmx,fun t h=>w2a _ h⟩
 ·cases hy
theorem z75 (l:List DTyp) (x:AV) (hx:IsSl IsTyp 4 l x) (hs:l.length≤1000∧ ∀t∈l,t.fields.length≤1000) (m:Mem):Okl IsTyp 4 tab 133 [x] m l:=by
 refine tF (tT tt) ?_
 obtain⟨stk,cur,nx,live,fl⟩:=m
 dsimp only[tt,fnOf];simp only[go_sem]
 refine za (α:=Nat) (fun k σ=>k≤l.length∧ ∃nz y e,Own IsTyp 4 y (l.take k) e∧heads [0,3,4] 0 σ=⟨tmps 29 [(0,x),(3,y),(4,.int .i64 k)],⟨stk++[cur],[],nz,e::live,fl⟩⟩) (fun k=>l.length-k) 0 ?_ ?_
 ·refine⟨w0b _,?_⟩
  simp only[go_sem,G6,G7]
  exact⟨_,_,[],.nil _,rfl⟩
 ·rintro k σ ⟨hk,nz,y,e,ho,hσ⟩
  rw[hσ]
  clear hσ σ
  dsimp only at hk⊢
  by_cases h:k<l.length
  ·have hsucc:=zc h hx.max
   obtain⟨v0,e1,e2⟩:=hx.nth h
   have hat:=hx.at .i64 h
   have htk:=w0c h
   have hfl:=hs.2 _ (w04 h)
   have hkl:(l.take k).length=k:=by rw[w1f];omega
   simp only[go_sem,G3,G6,G7,G8,hx.len,w02,h,hat,e1,e2.one]
   obtain⟨y',n',e',ha,hy',hm⟩:=jC (stk:=stk++[cur]) (cur:=[⟨nz,[.int .u8 l[k].kind,.int .i64 l[k].elem,.int .i64 l[k].len,v0]⟩]) (nx:=nz+1) (fl:=fl) (e:=e) (rest:=live) (bytes:=24) e2 (by omega)
   simp only[go_sem,G3,G6,G8,ha,hy'.one,hy'.refs_cells]
   have ho':=ho.mono hm
   refine ho'.xv (cs:=[l[k]]) (zd · 4 .full [.agg [.int .u8 l[k].kind,.int .i64 l[k].elem,.int .i64 l[k].len,y']]) (show All2 IsTyp [l[k]] [.agg [.int .u8 l[k].kind,.int .i64 l[k].elem,.int .i64 l[k].len,y']] from⟨⟨y',rfl,hy'⟩,trivial⟩) (by rw[hkl,w2c];omega) fun y2 n2 e2 ho2=> ?_
   simp only[go_sem,G6,G8,hsucc]
   exact⟨k+1,by omega,h,n2,y2,e2,by rw[htk];exact ho2,rfl⟩
  ·have:k=l.length:=by omega
   subst this
   rw[w06] at ho
   simp only[go_sem,G6,G7,G8,hx.len,w02,h]
   exact xN ho
structure SmallI (d:DImage):Prop where
 t:d.types.length≤1000∧ ∀t∈d.types,t.fields.length≤1000
 x:d.texts.length≤1000
 f:d.funcs.length≤1000∧ ∀f∈d.funcs,f.slots.length≤1000∧f.code.length≤1000∧f.sizes.length≤1000∧f.lives.length≤1000
theorem SmallI.of {d:DImage} (h:great09 d=false):SmallI d:=by
 unfold great09 great04 greatF at h
 simp only[w29,List.any_eq_false,decide_eq_false_iff_not,Bool.not_eq_true,Nat.not_lt] at h
 obtain⟨⟨⟨⟨⟨⟨h1,h2⟩,h3⟩,h4⟩,h5⟩,h6⟩,h7⟩:=h
 exact⟨⟨by omega,fun t ht=>by have:=(h2 t ht).1;omega⟩,by omega,by omega,fun f hf=>by have:=h6 f hf;omega⟩
theorem z28 (d:DImage) (y:AV) (hy:IsImage d y) (hs:SmallI d) (m:Mem) (hf:m.floor≤m.stk.length+1):OkT tab 63 [y] m (fun r _ _=>IsImage d r):=by
 obtain⟨ty,tx,fs,rfl,h0,h1,h2⟩:=hy
 refine Zv (tT td) ?_
 obtain⟨stk,cur,nx,live,fl⟩:=m
 obtain⟨z0,t0,k0,hc,hz⟩:=z75 d.types ty h0 hs.t ⟨stk++[cur],[⟨nx,[ty,tx,fs]⟩,⟨nx+1,[.nils,.nils,.nils]⟩,⟨nx+1+1,[.nils,.nils,.nils]⟩],nx+1+1+1,[]::live,max fl ((stk++[cur]).length+1)⟩
 have hlive: ∃e',pushToks t0 ([]::live)=e'::live:=by cases t0<;>exact⟨_,rfl⟩
 obtain⟨e0,he0⟩:=hlive
 simp only[he0] at hc
 have hzs:=hz.sl h0.max
 obtain⟨z1,k1,e1,ha1,hz1,hm1⟩:=jC (stk:=stk++[cur]) (cur:=[⟨nx,[ty,tx,fs]⟩,⟨nx+1,[.nils,.nils,.nils]⟩,⟨nx+1+1,[.nils,.nils,.nils]⟩]) (nx:=k0) (fl:=max fl ((stk++[cur]).length+1)) (e:=e0) (rest:=live) (bytes:=16) h1 (by have:=hs.x;omega)
 simp only[td,go_sem,G3,G6,G9,G8,hc,ha1,hzs.one,hz1.one,hzs.refs_cells,hz1.refs_cells,evBuild]
 refine za (α:=Nat) (fun k σ=>k≤d.funcs.length∧ ∃nz y e,Own IsFunc 7 y (d.funcs.take k) e∧heads [1,2,3,4] 3 σ=⟨tmps 53 [(1,.ptr (stk++[cur]).length 0 nx 0),(2,.ptr (stk++[cur]).length 1 (nx+1) 0),(3,.ptr (stk++[cur]).length 2 (nx+1+1) 0),(4,.int .i64 k)],⟨stk++[cur],[⟨nx,[ty,tx,fs]⟩,⟨nx+1,[.nils,.nils,.nils]⟩,⟨nx+1+1,[z0,z1,y]⟩],nz,e::live,fl⟩⟩) (fun k=>d.funcs.length-k) 0 ?_ ?_
 ·refine⟨w0b _,?_⟩
  simp only[go_sem,G6,G7]
  exact⟨_,_,_,.nil _,rfl⟩
 ·rintro k σ ⟨hk,nz,y,e,ho,hσ⟩
  rw[hσ]
  clear hσ σ
  dsimp only at hk⊢
  by_cases h:k<d.funcs.length
  ·have hsucc:=zc h h2.max
   obtain⟨w0,w1,w2,w3,ef,q0,q1,q2,q3⟩:=h2.nth h
   have hat:=h2.at .i64 h
   have htk:=w0c h
   obtain⟨f0,f1,f2,f3⟩:=hs.f.2 _ (w04 h)
   have hfn:=hs.f.1
   have hkl:(d.funcs.take k).length=k:=by rw[w1f];omega
   have o3:=q0.one
   have o4:=q1.one
   have o5:=q2.one
   have o6:=q3.one
   simp only[go_sem,G3,G6,G7,G8,h2.len,w02,h,hat,ef,o3,o4,o5,o6]
   generalize d.funcs[k]=f at*
   obtain⟨v0,n0,e0,a0,p0,m0⟩:=jC (stk:=stk++[cur]) (cur:=[⟨nx,[ty,tx,fs]⟩,⟨nx+1,[.nils,.nils,.nils]⟩,⟨nx+1+1,[z0,z1,y]⟩,⟨nz,[.str f.name,.int .i64 f.params,.int .i64 f.result,w0,w1,w2,w3]⟩]) (nx:=nz+1) (fl:=fl) (e:=e) (rest:=live) (bytes:=24) q0 (by omega)
   simp only[go_sem,G3,G6,G9,G8,a0,p0.one,p0.refs_cells]
   obtain⟨v1,n1,e1,a1,p1,m1⟩:=jC (stk:=stk++[cur]) (cur:=[⟨nx,[ty,tx,fs]⟩,⟨nx+1,[.nils,.nils,.nils]⟩,⟨nx+1+1,[z0,z1,y]⟩,⟨nz,[.str f.name,.int .i64 f.params,.int .i64 f.result,v0,w1,w2,w3]⟩]) (nx:=n0) (fl:=fl) (e:=e0) (rest:=live) (bytes:=32) q1 (by omega)
   simp only[go_sem,G3,G6,G9,G8,a1,p1.one,p1.refs_cells]
   obtain⟨v2,n2,e2,a2,p2,m2⟩:=jC (stk:=stk++[cur]) (cur:=[⟨nx,[ty,tx,fs]⟩,⟨nx+1,[.nils,.nils,.nils]⟩,⟨nx+1+1,[z0,z1,y]⟩,⟨nz,[.str f.name,.int .i64 f.params,.int .i64 f.result,v0,v1,w2,w3]⟩]) (nx:=n1) (fl:=fl) (e:=e1) (rest:=live) (bytes:=16) q2 (by omega)
   simp only[go_sem,G3,G6,G9,G8,a2,p2.one,p2.refs_cells]
   obtain⟨v3,n3,e3,a3,p3,m3⟩:=jC (stk:=stk++[cur]) (cur:=[⟨nx,[ty,tx,fs]⟩,⟨nx+1,[.nils,.nils,.nils]⟩,⟨nx+1+1,[z0,z1,y]⟩,⟨nz,[.str f.name,.int .i64 f.params,.int .i64 f.result,v0,v1,v2,w3]⟩]) (nx:=n2) (fl:=fl) (e:=e2) (rest:=live) (bytes:=16) q3 (by omega)
   simp only[go_sem,G3,G6,G8,a3,p0.one,p1.one,p2.one,p3.one,p3.refs_cells]
   have ho':=((((ho.mono m0).mono m1).mono m2).mono m3)
   refine ho'.xv (cs:=[f]) (zd · 7 .full [.agg [.str f.name,.int .i64 f.params,.int .i64 f.result,v0,v1,v2,v3]]) (show All2 IsFunc [f] [.agg [.str f.name,.int .i64 f.params,.int .i64 f.result,v0,v1,v2,v3]] from⟨⟨v0,v1,v2,v3,rfl,p0,p1,p2,p3⟩,trivial⟩) (by rw[hkl,w2c];omega) fun y2 n2 e2 ho2=> ?_
   simp only[go_sem,G3,G6,G8,hsucc,ho2.one,ho2.cells]
   exact⟨k+1,by omega,h,n2,y2,e2,by rw[htk];exact ho2,rfl⟩
  ·have:k=d.funcs.length:=by omega
   subst this
   rw[w06] at ho
   have hos:=ho.sl h2.max
   simp only[go_sem,G3,G6,G7,G8,h2.len,w02,h,hzs.one,hz1.one,hos.one]
   refine yo (by simp only[AV.refs,refsAny,hzs.refs,hz1.refs,hos.refs];rfl) ?_
   exact⟨_,_,_,rfl,hzs,hz1,hos⟩
end Go.Proofs.W
end
section
namespace Go.Proofs.W
open Go.Vs
attribute [local go_sem high] zw y9
attribute [local go_sem ↓] w07 w19
attribute [local go_sem low] Yc Yt Yf Yut Yuf xA xB xy xz
attribute [local go_sem 2000] zP
attribute [local go_sem] ql qj qm qk ye zU yB zY yd zA xr xp xo hd kep xm w02 AV.bool.injEq AV.int.injEq not_true_eq_false not_false_eq_true true_implies false_implies and_true true_and implies_true zu zN zM zt zO zC zm zi zr zG zF zq zH zE zl zj w10 zI zJ yz w2b evShift IntKind.bits zQ zK zL z7 zf zV wrap_u32 w18 xx xu allLen zn AV.tup.injEq List.cons.injEq AV.agg.injEq yc ya evBuild xq zS zx zR eqC0 eqC1 eqC2 zT w25 w24
attribute [go_sem] xl uV uW
def large28 (d:DDump):Bool:=great28 d.heap d.stacks d.routines||gr List.length 420 1000 d.defers||gr List.length 420 1000 d.panics||great09 d.image
structure DumpV (d:DDump) (v0 v1 v2 v3 v4 v5 v6 v7:AV):Prop where
 i:IsImage d.image (.agg [v0,v1,v2])
 h:IsRegion d.heap (.agg [.int .u64 d.heap.base,v3])
 hb:IsBytes d.heap.bytes v3
 s:IsSl IsRegion 2 d.stacks v4
 r:IsSl IsRoutine 6 d.routines v5
 f:IsSl (IsSl (IsK .u64) 1) 1 d.defers v6
 p:IsSl (IsSl (IsK .u64) 1) 1 d.panics v7
 o:v0.one=true∧v1.one=true∧v2.one=true∧v3.one=true∧v4.one=true∧v5.one=true∧v6.one=true∧v7.one=true
abbrev dumpA (d:DDump) (v0 v1 v2 v3 v4 v5 v6 v7:AV):AV:= .agg [v0,v1,v2,.int .u8 d.ended.outcome,.int .i64 d.ended.failing,.int .i64 d.ended.steps,.int .u64 d.heap.base,v3,v4,v5,v6,v7]
theorem IsDump.v {d:DDump} {y:AV} (h:IsDump d y): ∃v0 v1 v2 v3 v4 v5 v6 v7,y=dumpA d v0 v1 v2 v3 v4 v5 v6 v7∧DumpV d v0 v1 v2 v3 v4 v5 v6 v7:=by
 obtain⟨v0,v1,v2,v3,v4,v5,v6,v7,rfl,h0,h1,h2,h3,h4,h5,h6,h7⟩:=h
 exact⟨v0,v1,v2,v3,v4,v5,v6,v7,rfl,⟨_,_,_,rfl,h0,h1,h2⟩,⟨_,rfl,h3⟩,h3,h4,h5,h6,h7,h0.one,h1.one,h2.one,h3.one,h4.one,h5.one,h6.one,h7.one⟩
theorem QF (d:DDump) (y:AV) (hy:IsDump d y) (m:Mem):Okv tab 15 [y] m (.bool (large28 d)):=by
 obtain⟨v0,v1,v2,v3,v4,v5,v6,v7,rfl,h⟩:=IsDump.v hy
 have f:=nd (fun m=>(QG _ _ _ _ _ _ h.h h.s h.r m).eq) (nd (fun m=>(XM _ _ h.f m).eq) (nd (fun m=>(XM _ _ h.p m).eq) fun m=>(Yb _ _ h.i m).eq))
 refine okz (tT xl) fun s c x v g _=> ?_
 repeat' first|refine ifs ?_ ?_|intro
 all_goals clear f;grind [large28]
theorem z11 (a b:DDump) (x y:AV) (hx:IsDump a x) (hy:IsDump b y) (m:Mem):Okv tab 20 [x,y] m (.bool (decide (a=b))):=by
 obtain⟨v0,v1,v2,v3,v4,v5,v6,v7,rfl,h⟩:=IsDump.v hx
 obtain⟨w0,w1,w2,w3,w4,w5,w6,w7,rfl,k⟩:=IsDump.v hy
 have f:=nd (fun m=>(Yj _ _ _ _ h.i k.i m).eq) (nd (fun m=>(jI _ _ _ _ h.h k.h m).eq) (nd (fun m=>(XF _ _ _ _ h.s k.s m).eq) (nd (fun m=>(WD _ _ _ _ h.r k.r m).eq) (nd (fun m=>(jG _ _ _ _ h.f k.f m).eq) fun m=>(jG _ _ _ _ h.p k.p m).eq))))
 refine okz (tT uW) fun s c x v g _=> ?_
 repeat' first|refine ifs ?_ ?_|intro
 all_goals clear f;obtain⟨_,⟨_,_,_⟩,_,_,_,_,_⟩:=a;obtain⟨_,⟨_,_,_⟩,_,_,_,_,_⟩:=b;grind
theorem z10 (d:DDump) (y:AV) (hy:IsDump d y) (hs:SmallI d.image) (hg:great28 d.heap d.stacks d.routines=false) (hd:gr List.length 420 1000 d.defers=false) (hp:gr List.length 420 1000 d.panics=false) (m:Mem) (hf:m.floor≤m.stk.length+1):OkT tab 16 [y] m fun r _ _=>IsDump d r:=by
 obtain⟨v0,v1,v2,v3,v4,v5,v6,v7,rfl,h⟩:=IsDump.v hy
 simp only[great28,w29,decide_eq_false_iff_not] at hg
 obtain⟨hg,hh⟩:=hg
 have hh:=(TZ hh).2
 have hd:=TZ hd
 have hp:=TZ hp
 have f:=h.o
 refine oktz (tT uV) fun s c x v g e=> ?_
 subst e
 refine ot (z28 _ _ h.i hs _ (by simp at*;omega)) fun y ts n hI=> ?_
 obtain⟨u0,u1,u2,rfl,j0,j1,j2⟩:=hI
 refine st ?_
 refine oc (WG [d.heap] _ (.mk (zZ h.h) (by simp)) (by simp) (by simp;have:=hh d.heap (by simp);omega) _) fun y ts n ho=> ?_
 obtain⟨q,hq⟩:=regs (ho.sl (by simp))
 have f:=nd h.o (nd (show evIaddr 2 y (.int .i64 0)=some (.ro (Vs.nth y 0).cells) from ho.at .i64 (i:=0) (by simp)) (nd (hq 0 (by simp)).1 (hq 0 (by simp)).2.2))
 refine st ?_
 refine oc (WG d.stacks _ h.s (by omega) (fun r hr=>by have:=hh r (by simp[hr]);omega) _) fun y ts n h4=> ?_
 refine o0 h.r (by omega) fun y n e' h5 _=> ?_
 refine oc (XK d.defers _ h.f (by omega) (fun r hr=>by have:=hd.2 r hr;omega) _) fun y ts n h6=> ?_
 refine oc (XK d.panics _ h.p (by omega) (fun r hr=>by have:=hp.2 r hr;omega) _) fun y ts n h7=> ?_
 have f:=nd h4.co (nd h5.co (nd h6.co (nd h7.co (nd j0.co (nd j1.co (nd j2.co (nd (hq 0 (by simp)).2.1.co (show [d.heap][0]=d.heap from rfl))))))))
 refine st ?_
 refine ft ?_ fun _ _=>⟨u0,u1,u2,q 0,_,_,_,_,rfl,j0,j1,j2,(hq 0 (by simp)).2.1,h4.sl (by omega),h5.sl (by omega),h6.sl (by omega),h7.sl (by omega)⟩
 refine st ?_
 trivial
end Go.Proofs.W
end
section
namespace Go.Proofs.W
open Go.Vs
def rw' (stk:List (List Blk)) (cur:List Blk) (lv k st:Nat) (y:AV):List (List Blk):=(stk++[cur]).modify lv fun f=>f.set k ⟨st,[y]⟩
section
variable {stk : List (List Blk)} {cur : List Blk} {lv k st : Nat} {y y' : AV}
theorem kB:(rw' stk cur lv k st y).length=(stk++[cur]).length:=by simp[rw']
theorem z1t (h:lv≤stk.length) (hk:k<((stk++[cur]).getD lv []).length):((rw' stk cur lv k st y).getD lv [])[k]? =some ⟨st,[y]⟩:=by
 have hl:lv<(stk++[cur]).length:=by simp;omega
 unfold rw'
 grind
theorem z3X:(rw' stk cur lv k st y).modify lv (fun f=>f.set k ⟨st,[y']⟩)=rw' stk cur lv k st y':=by
 unfold rw'
 apply w20
 intro j
 simp only[List.getElem?_modify]
 cases (stk++[cur])[j]? with
 |none=>simp
 |some f=>
  simp_all
theorem zab (h:((stk++[cur]).getD lv [])[k]? =some ⟨st,[y]⟩):stk++[cur]=rw' stk cur lv k st y:=by
 unfold rw'
 apply w20
 intro j
 simp only[List.getElem?_modify]
 by_cases e:lv=j
 ·subst e
  simp only[w05] at h
  cases hq:(stk++[cur])[lv]? with
  |none=>rfl
  |some f=>
   rw[hq] at h
   simp only[w33] at h
   simp only[if_true,Option.map_eq_map,w07,Option.some.injEq]
   apply w20
   grind
 ·simp[e]
def wrote (m:Mem) (lv k st:Nat) (y:AV) (n:Nat) (l:List (List Nat)):Mem:={m.put lv k st [y] with nx:=n,live:=l}
theorem z5K {c:List Blk} {nx fl n:Nat} {live l:List (List Nat)} (h:lv≤stk.length):wrote ⟨rw' stk cur lv k st y,c,nx,live,fl⟩ lv k st y' n l=⟨rw' stk cur lv k st y',c,n,l,fl⟩:=by
 unfold wrote Mem.put
 rw[if_neg (by rw[kB];simp;omega)]
 simp only[z3X]
theorem Z4 {nx fl n:Nat} {live l:List (List Nat)}:wrote ⟨stk,cur,nx,live,fl⟩ stk.length k st y' n l=⟨stk,cur.set k ⟨st,[y']⟩,n,l,fl⟩:=by
 unfold wrote Mem.put
 simp
theorem z2L {m0:Mem} {c':List Blk} {nx' fl':Nat} {own:List Nat} {live':List (List Nat)} {r:AV} (hlv:lv≤stk.length) (h1:r.refs (stk++[cur]).length=false) (h2:r.toks=[]) (nx:Nat) (live:List (List Nat)):
  leave m0 ⟨rw' stk cur lv k st y,c',nx',own::live',fl'⟩ r=some (r,wrote ⟨stk,cur,nx,live,m0.floor⟩ lv k st y nx' live'):=by
 unfold wrote
 by_cases e:lv=stk.length
 ·have:rw' stk cur lv k st y=stk++[cur.set k ⟨st,[y]⟩]:=by
   unfold rw';subst e
   rw[w37 (by simp)];simp
  rw[this,yH (by simpa using h1) h2]
  unfold Mem.put
  simp[e]
 ·have:rw' stk cur lv k st y=(stk.modify lv fun f=>f.set k ⟨st,[y]⟩)++[cur]:=by
   unfold rw'
   apply w20
   grind
  rw[this,yH (by simpa using h1) h2]
  unfold Mem.put
  simp[e]
end
theorem z5e {S:List (List Blk)} {C:List Blk} {nx fl:Nat} {live:List (List Nat)} {lv k st:Nat} {cs:List AV} (h:Mem.blk ⟨S,C,nx,live,fl⟩ lv k st=some cs) (hlv:lv≤S.length):((S++[C]).getD lv [])[k]? =some ⟨st,cs⟩:=by
 unfold Mem.blk at h
 split at h
 ·rename_i b hb
  split at h
  ·rename_i e
   injection h with h
   have hb':b=⟨st,cs⟩:=by rw[←h,←eq_of_beq e]
   subst hb'
   unfold Mem.row at hb
   grind
  ·cases h
 ·cases h
theorem zaT {stk:List (List Blk)} {cur c:List Blk} {lv k st nx fl:Nat} {live:List (List Nat)} {y:AV} (hlv:lv≤stk.length) (hk:k<((stk++[cur]).getD lv []).length):Mem.blk ⟨rw' stk cur lv k st y,c,nx,live,fl⟩ lv k st=some [y]:=by
 unfold Mem.blk Mem.row
 simp only
 rw[if_neg (by rw[kB];simp;omega),z1t hlv hk]
 simp
theorem jA {s bytes:Nat} {y z:AV} {zs:List AV} (hz: ∀m:Mem,m.elems s z=some zs) {nx:Nat} {live:List (List Nat)} {y':AV} {n:Nat} {live':List (List Nat)} (h:evApp ⟨[],[],nx,live,0⟩ s bytes y z=some (y',⟨[],[],n,live',0⟩)) (stk:List (List Blk)) (cur:List Blk) (fl:Nat):
  evApp ⟨stk,cur,nx,live,fl⟩ s bytes y z=some (y',⟨stk,cur,n,live',fl⟩):=by
 unfold evApp at h⊢
 rw[hz] at h⊢
 cases zs with
 |nil=>
  grind
 |cons a r=>
  simp only at h⊢
  cases y<;>first|(cases h;done)|skip
  ·grind
  ·grind
  ·exfalso
   rename_i s' l k st len
   have:Mem.blk ⟨[],[],nx,live,0⟩ l k st=none:=by
    unfold Mem.blk Mem.row
    simp
   grind
def WrL (i:Nat) (y:AV) (b:List UInt8) (live post:List (List Nat)):Prop:= ∃pre l,live=pre++l::post∧pre.length=i∧Own IsByte 1 y b l
theorem WrL.enter {i:Nat} {y:AV} {b:List UInt8} {live post:List (List Nat)} (h:WrL i y b live post):WrL (i+1) y b ([]::live) post:=by
 obtain⟨pre,l,rfl,h2,h3⟩:=h
 exact⟨[]::pre,l,rfl,by simp[h2],h3⟩
theorem WrL.push {i:Nat} {y:AV} {b:List UInt8} {live post:List (List Nat)} (ts:List Nat) (h:WrL i y b live post):WrL i y b (pushToks ts live) post:=by
 obtain⟨pre,l,rfl,h2,h3⟩:=h
 cases pre with
 |nil=>exact⟨[],ts++l,by rw[w2f,zy];rfl,h2,h3.push ts⟩
 |cons o r=>exact⟨(ts++o)::r,l,by rw[w22,zy];rfl,h2,h3⟩
theorem WrL.tail {i:Nat} {y:AV} {b:List UInt8} {live post:List (List Nat)} (h:WrL (i+1) y b live post): ∃o l',live=o::l'∧WrL i y b l' post:=by
 obtain⟨pre,l,rfl,h2,h3⟩:=h
 match pre,h2 with
 |o::r,h2=>exact⟨o,r++l::post,rfl,r,l,rfl,by simpa using h2,h3⟩
theorem WrL.own {y:AV} {b:List UInt8} {live post:List (List Nat)} (h:WrL 0 y b live post): ∃e,live=e::post∧Own IsByte 1 y b e:=by
 obtain⟨pre,l,rfl,h2,h3⟩:=h
 grind
theorem Ud {t:Nat}: ∀{j:Nat} {pre:List (List Nat)} (l:List Nat) (post:List (List Nat)),pre.length=j→addAt t j (pre++l::post)=pre++(t::l)::post
 |0,[],l,post,_=>rfl
 |0,_::_,_,_,h=>by simp at h
 |j+1,[],_,_,h=>by simp at h
 |j+1,a::r,l,post,h=>by simp only[w22,addAt];rw[Ud l post (by simpa using h)]
theorem WrL.app {i:Nat} {y:AV} {b c:List UInt8} {live post:List (List Nat)} {z:AV} {zs:List AV} (h:WrL (i+1) y b live post) (hz: ∀m:Mem,m.elems 1 z=some zs) (hc:All2 IsByte c zs) (hl:b.length+c.length≤140737488355328) (nx:Nat):
  ∃y' n live' o l2,(∀stk cur fl,evApp ⟨stk,cur,nx,live,fl⟩ 1 1 y z=some (y',⟨stk,cur,n,live',fl⟩))∧y'.cells=[y']∧y'.one=true∧sink (i+1) y'.toks live'=o::l2∧WrL i y' (b++c) l2 post:=by
 obtain⟨pre,l,rfl,h2,h3⟩:=h
 have hnew: ∀(ys:List AV) (o:List Nat) (r:List (List Nat)) (l':List Nat),r.length=i→All2 IsByte (b++c) ys→
   ∃o2 l2,sink (i+1) (AV.list 1 (.id nx) ys).toks ((nx::o)::(r++l'::post))=o2::l2∧WrL i (.list 1 (.id nx) ys) (b++c) l2 post:=fun ys o r l' hr hq=>by
  simp only[AV.toks,sink,sink1,List.contains_cons,beq_self_eq_true,Bool.true_or,if_true,List.erase_cons_head,Nat.add_sub_cancel]
  exact⟨o,_,rfl,r,nx::l',Ud l' post hr,hr,.inr ⟨_,ys,rfl,hq,.inr ⟨nx,w1d,rfl⟩⟩⟩
 match pre,h2 with
 |o::r,h2=>
  have hr:r.length=i:=by simpa using h2
  have hfl:Own IsByte 1 y b ((o::r++l::post).flatten):=h3.mono fun t ht=>by
   grind
  rcases Own.app (m:=⟨[],[],nx,o::r++l::post,0⟩) (bytes:=1) hfl (hz _) hc (by omega) with⟨hcs,e⟩|⟨ys,q,e⟩|⟨t,ys,q0,hy,ht,q,e⟩
  ·subst hcs
   rw[w1b]
   rcases h3 with⟨rfl,rfl⟩|⟨tk,ys,rfl,hq,hk⟩
   ·exact⟨_,_,_,o,_,jA hz e,rfl,rfl,rfl,r,l,rfl,hr,.inl ⟨rfl,rfl⟩⟩
   ·rcases hk with rfl|⟨t,ht,rfl⟩
    ·exact⟨_,_,_,o,_,jA hz e,rfl,rfl,rfl,r,l,rfl,hr,.inr ⟨_,ys,rfl,hq,.inl rfl⟩⟩
    ·by_cases hto:o.contains t=true
     ·refine⟨_,_,_,o.erase t,addAt t i (r++l::post),jA hz e,rfl,rfl,?_,r,t::l,Ud l post hr,hr,.inr ⟨_,ys,rfl,hq,.inr ⟨t,w1d,rfl⟩⟩⟩
      simp only[AV.toks,sink,sink1,w22,hto,if_true,Nat.add_sub_cancel]
     ·refine⟨_,_,_,o,r++l::post,jA hz e,rfl,rfl,?_,r,l,rfl,hr,.inr ⟨_,ys,rfl,hq,.inr ⟨t,ht,rfl⟩⟩⟩
      simp only[AV.toks,sink,sink1,w22]
      grind
  ·obtain⟨o2,l2,hs,hw⟩:=hnew ys o r l hr q
   exact⟨_,_,_,o2,l2,jA hz e,rfl,rfl,hs,hw⟩
  ·have htl:t∈l:=by
    rcases h3 with⟨rfl,_⟩|⟨tk,ys',e1,_,e2|⟨t',e3,e2⟩⟩
    ·cases hy
    ·grind
    ·grind
   have hd:dropTok t (o::r++l::post)=dropTok t (o::r++[l])++post:=by
    have:=YQ (t:=t) (l:=o::r++[l]) (r:=post) (by simp only[List.flatten_append,w0a];exact .inr (by simpa using htl))
    grind
   have hdl:(dropTok t (o::r++[l])).length=i+2:=by rw[kp];simp[hr]
   obtain⟨o3,r3,l3,he,hr3⟩: ∃o3 r3 l3,dropTok t (o::r++[l])=o3::(r3++[l3])∧r3.length=i:=by
    match hq:dropTok t (o::r++[l]),hdl with
    |o3::rest,hdl=>
     have hrl:rest.length=i+1:=by simpa using hdl
     have hne:rest≠[]:=by intro e;subst e;simp at hrl
     exact⟨o3,rest.dropLast,rest.getLast hne,by rw[List.dropLast_concat_getLast],by rw[List.length_dropLast];omega⟩
   rw[show(Mem.live ⟨[],[],nx,o::r++l::post,0⟩)=o::r++l::post from rfl,hd,he] at e
   obtain⟨o2,l2,hs,hw⟩:=hnew ys o3 r3 l3 hr3 q
   refine⟨_,_,_,o2,l2,jA hz e,rfl,rfl,?_,hw⟩
   rw[←hs];simp[addTok]
theorem z9R {α:Type} {R:α→AV→Prop} {s:Nat} {xs:List α} {f:Nat} {args:List AV} {m m0 mm:Mem} {fl:Nat} {ws:Watch} {d:Option Nat} {l:List AOper} {ρ:List AV} {k:Kont} (h:Okl R s tab f args m xs)
  (q: ∀y ts n,Own R s y xs ts→Xd tab fl m0 ws l (setDst ρ d y) {m with nx:=n,live:=pushToks ts m.live} k):Xw tab (CALL tab f args m) 2 fl m0 ws d l ρ mm k:=by
 obtain⟨y,ts,n,h1,h2⟩:=h
 rw[h1,zaU];exact q y ts n h2
def Writes (f:Nat) (args:List AV) (lv k st i:Nat) (y:AV) (b c:List UInt8) (post:List (List Nat)) (r:AV) (m:Mem):Prop:=
 ∃y' n live',CALL tab f args m=some (r,wrote m lv k st y' n live')∧WrL i y' (b++c) live' post
structure At (m:Mem) (lv k st i:Nat) (y:AV) (b:List UInt8) (post:List (List Nat)):Prop where
 level:lv+i=m.stk.length
 cell:m.blk lv k st=some [y]
 low:m.floor≤lv
 w:WrL i y b m.live post
theorem qR (n:Nat) (hn:n<9223372036854775808) (m:Mem) {lv k st i:Nat} {y:AV} {b:List UInt8} {post:List (List Nat)} (ha:At m lv k st i y b post) (hb:b.length≤1000000):
  Writes 225 [.ptr lv k st 0,.int .i64 n] lv k st i y b (minimal n) post (.tup []) m:=by
 suffices h:Does tab 225 [.ptr lv k st 0,.int .i64 n] m fun v m'=> ∃y' n' live',v= .tup []∧m'=wrote m lv k st y' n' live'∧WrL i y' (b++minimal n) live' post by
  obtain⟨z,h1,y',n',l',h2,h3,h4⟩:=h
  exact⟨y',n',l',by rw[h1,←h2,←h3],h4⟩
 refine yq (tT uG) ?_ (Nat.le_of_ble_eq_true rfl)
 obtain⟨stk,cur,nx,live,fl⟩:=m
 obtain⟨hlv,hblk,hfl,hW⟩:=ha
 dsimp only at hlv hfl hW
 have hrow:=z5e hblk (by omega)
 have hk:k<((stk++[cur]).getD lv []).length:=(w13.1 hrow).1
 have hid:=zab hrow
 have hlv':lv≤stk.length:=by omega
 have hne:(lv==(stk++[cur]).length)=false:=by simp;omega
 have hsub:(stk++[cur]).length-lv=i+1:=by simp;omega
 have e:IntKind.u64.wrap (n:Int)=n:=zf (by omega) (by omega)
 simp only[uG,go_sem,G3,G6,G8]
 simp only[hid]
 simp only[go_sem,G6,G8,kB,hne,z1t hlv' hk,e]
 have hfv:max fl ((stk++[cur]).length+1)≤(rw' stk cur lv k st y).length+1:=by rw[kB];simp;omega
 refine z9R (vq n (by omega) _ _ _ _ _ hfv) fun yv ts nv hov=> ?_
 simp only[go_sem,G6,G8]
 obtain⟨zs,hz,hc⟩:=hov.elems
 have hm:=z9 (n:=n) (by omega)
 obtain⟨y',n',live',o,l2,happ,hcell,hone,hs,hW2⟩:=WrL.app ((WrL.enter hW).push ts) hz hc (by omega) nv
 rw[zy,w1b] at happ
 simp only[go_sem,G6,G8,happ,kB,hne,z1t hlv' hk,hcell,hone,hfl,hsub,hs,z3X]
 rw[z2L hlv' rfl rfl nx live,z6]
 grind
end Go.Proofs.W
end
section
namespace Go.Vs
attribute [local go_sem high] zw y9
attribute [local go_sem ↓] w07 w19
attribute [local go_sem low] Yc Yt Yf Yut Yuf xA xB xy xz
attribute [local go_sem 2000] zP
attribute [local go_sem] ql qj qm qk ye zU yB zY yd zA xr xp xo hd kep xm w02 AV.bool.injEq AV.int.injEq not_true_eq_false not_false_eq_true true_implies false_implies and_true true_and implies_true zu zN zM zt zO zC zm zi zr zG zF zq zH zE zl zj w10 zI zJ yz w2b evShift IntKind.bits zQ zK zL z7 zf zV wrap_u32 w18 xx xu allLen zn AV.tup.injEq List.cons.injEq AV.agg.injEq yc ya evBuild xq zS zx zR eqC0 eqC1 eqC2 zT w25 w24
section
variable {Y : YC} {tab : Nat → Option AFunc} {ρ : List AV} {m : Mem} {k : Kont} {a b : ACode} {l : List AOper} {d : Option Nat}
def Xr [YC] (tab:Nat→Option AFunc) (v:AV) (ps:List Nat) (a b:ACode) (ρ:List AV) (m:Mem) (k:Kont):Prop:=Opt (rangeEv (ITER tab) (EV tab a) (EV tab b) v ps ⟨ρ,m⟩) fun r=>Xo tab k r.1 r.2.ρ r.2.m
theorem z8x (f:Opd) (ps:List Nat):X tab (.rangeF f ps a b) ρ m k=Xr tab (f.ev ρ) ps a b ρ m k:=by unfold X Xr Run;rw[z6T];rfl
theorem zaZ (F:Out→St→Prop) (o:Out):Xo tab (.any F) o ρ m=F o ⟨ρ,m⟩:=rfl
theorem zbz {args:List AV}:Xv tab (YC.Y args m) d l ρ k= @Cl (YC.Y args m) ⟨fun r=>Xs tab l (setDst ρ d r.1) r.2 k⟩:=rfl
end
theorem z5Y (n:Nat) (df:AV) (l:List (Nat×AV)) (p:Nat) (ps:List Nat) (x:AV) (xs:List AV):setAll (mk n df l) (p::ps) (x::xs)=setAll (mk n df ((p,x)::l)) ps xs:=by rw[setAll,z3T]
theorem z3U (ρ:List AV) (xs:List AV):setAll ρ [] xs=ρ:=by unfold setAll;rfl
class IS where
 I:(Nat→AV)→List (List Blk)→List (List Nat)→List Blk→Prop
section
variable {Y : YC} {tab : Nat → Option AFunc} {live ch : List Nat} {nb N : Nat} {df : AV} {l0 : List (Nat × AV)} {stk : List (List Blk)} {cur : List Blk} {nx fl : Nat} {ml : List (List Nat)} {a : ACode} {k : Kont}
def Is (N:Nat) (live ch:List Nat) (nb:Nat) (l0:List (Nat×AV)) (df:AV) (fl:Nat) [B:IS] (σ:St):Prop:=
 σ.ρ.length=N∧kep σ.ρ ch l0 df live∧B.I (gt σ.ρ) σ.m.stk σ.m.live (cut live nb σ.m.cur)∧σ.m.floor=fl
theorem zbx {df':AV} {I:(Nat→AV)→List (List Blk)→List (List Nat)→List Blk→Prop} {l:List (Nat×AV)} {c:List Blk} {n:Nat}: @Is N live ch nb l0 df fl ⟨I⟩ ⟨mk N df' l,⟨stk,c,n,ml,fl⟩⟩=(kep (mk N df' l) ch l0 df live∧I (gt (mk N df' l)) stk ml (cut live nb c)):=by
 unfold Is
 simp[jv]
theorem xs (ch:List Nat) {α:Type} (I:α→(Nat→AV)→List (List Blk)→List (List Nat)→List Blk→Prop) (μ:α→Nat) (x0:α) {H:Prop} {Q: ∀x v S e,Nat→ ∀bs,I x v S e bs→Prop} (h0:H) (h: ∀x v S e nz bs z,Q x v S e nz bs z)
  (eh:I x0 (gt (mk N df l0)) stk ml (cut live nb cur)=H:=by exact SE)
  (q: ∀(x:α) (v:Nat→AV) (S:List (List Blk)) (e:List (List Nat)) (nz:Nat) (bs:List Blk) (z:I x v S e bs),X tab a (mk N .undef (hd v ch l0 df live)) ⟨S,bs,nz,e,fl⟩ (.again (@Jb ⟨fun σ=> @Is N live ch nb l0 df fl ⟨fun v S e b=> ∃y,μ y<μ x∧I y v S e b⟩ σ⟩) k)=Q x v S e nz bs z:=by intro _ _ _ _ _ _ z;(try dsimp only at z);exact SEz) (hl:live.all (fun i=>decide (i<N))=true:=by rfl):
  XL tab live nb a (mk N df l0) ⟨stk,cur,nx,ml,fl⟩ k:=by
 replace h0:=eh▸h0
 have h00:kep (mk N df l0) ch l0 df live:=by
  clear h h0 q eh
  induction live with
  |nil=>trivial
  |cons i r ih=>
   simp only[List.all_cons,w09,decide_eq_true_eq] at hl
   refine⟨?_,ih hl.2⟩
   split
   ·trivial
   ·rw[Ve,if_pos hl.1]
 refine za (fun x σ=> @Is N live ch nb l0 df fl ⟨I x⟩ σ) μ x0 ⟨jv _ _ _,h00,h0,rfl⟩ ?_
 rintro x ⟨ρ,stk',cur',nz,live',fl'⟩ ⟨h1,h2,h5,h6⟩
 dsimp only at h1 h2 h5 h6
 subst h6
 have:=(q x _ _ _ nz _ h5).mpr (h x _ _ _ nz _ h5)
 simp only[heads]
 rw[Ql h1 (T7 h2)]
 refine Opt.mono this fun r hr=> ?_
 obtain⟨o,σ⟩:=r
 cases o
 ·obtain⟨g1,g2,⟨y,g5,g6⟩,g8⟩:=hr
  exact⟨y,g5,g1,g2,g6,g8⟩
 all_goals exact hr
end
attribute [go_sem] z8x zaZ z4Y zbz z5Y z3U zbx
end Go.Vs
end
section
namespace Go.Proofs.W
open Go.Vs
def f0:DField:=⟨[],0⟩
def fldAt (l:List DField) (k:Nat):DField:=l.getD k f0
theorem Zg {l:List DField} {j:Nat} (h:j<l.length):l[j]=fldAt l j:=by simp[fldAt,w05,h]
def flds (l:List DField):Nat→List UInt8
 |0=>minimal l.length
 |k+1=>flds l k++(said (fldAt l k).name++minimal (fldAt l k).typ.toNat)
def FOk (l:List DField):Prop:=l.length≤16∧ ∀f∈l,f.name.length≤16∧0≤f.typ∧f.typ<1000
theorem FOk.at {l:List DField} (h:FOk l) {k:Nat} (hk:k<l.length):(fldAt l k).name.length≤16∧0≤(fldAt l k).typ∧(fldAt l k).typ<1000:=by rw[←Zg hk];exact h.2 _ (w04 hk)
theorem qS {s:List UInt8} (h:s.length≤1000):(said s).length≤s.length+10:=by
 have:=z9 (n:=s.length) (by omega)
 unfold said;rw[w0e];omega
theorem qU {l:List DField} (h:FOk l): ∀k,k≤l.length→(flds l k).length≤10+36*k
 |0,_=>z9 (by have:=h.1;omega)
 |k+1,hk=>by
  have ih:=qU h k (by omega)
  obtain⟨h1,h2,h3⟩:=h.at (show k<l.length by omega)
  have m1:=qS (s:=(fldAt l k).name) (by omega)
  have m2:=z9 (n:=(fldAt l k).typ.toNat) (by omega)
  simp only[flds,w0e];omega
attribute [local go_sem high] zw y9
attribute [local go_sem ↓] w07 w19
attribute [local go_sem low] Yc Yt Yf Yut Yuf xA xB xy xz
attribute [local go_sem 2000] zP
attribute [local go_sem] ql qj qm qk ye zU yB zY yd zA xr xp xo hd kep xm w02 AV.bool.injEq AV.int.injEq not_true_eq_false not_false_eq_true true_implies false_implies and_true true_and implies_true zu zN zM zt zO zC zm zi zr zG zF zq zH zE zl zj w10 zI zJ yz w2b evShift IntKind.bits zQ zK zL z7 zf zV wrap_u32 w18 xx xu allLen zn AV.tup.injEq List.cons.injEq AV.agg.injEq yc ya evBuild xq zS zx zR eqC0 eqC1 eqC2 zT w25 w24
theorem WrL.cons {i:Nat} {y:AV} {b:List UInt8} {live post:List (List Nat)} (o:List Nat) (h:WrL i y b live post):WrL (i+1) y b (o::live) post:=by
 obtain⟨pre,l,rfl,h2,h3⟩:=h
 exact⟨o::pre,l,rfl,by simp[h2],h3⟩
def FinW (m:Mem) (lv k st i:Nat) (b:List UInt8) (post:List (List Nat)) (r v:AV) (m':Mem):Prop:= ∃y' n l,v=r∧m'=wrote m lv k st y' n l∧WrL i y' b l post
def Wf (stk:List (List Blk)) (cur:List Blk) (lv k st i fl:Nat):Prop:=
 (∀y,(rw' stk cur lv k st y).length=(stk++[cur]).length)∧(lv==(stk++[cur]).length)=false∧(stk++[cur]).length-lv=i+1∧(∀y,((rw' stk cur lv k st y).getD lv [])[k]? =some ⟨st,[y]⟩)∧(∀y y',(rw' stk cur lv k st y).modify lv (fun f=>f.set k ⟨st,[y']⟩)=rw' stk cur lv k st y')∧fl≤lv
section
variable {f : Nat} {fn : AFunc} {args : List AV} {m : Mem} {lv k st i nx fl n : Nat} {y r : AV} {b B : List UInt8} {live L post : List (List Nat)} {stk : List (List Blk)} {cur bs : List Blk}
theorem wz (ht:tab f=some fn) (ha:At m lv k st i y b post) {Q:List (List Blk)→List Blk→Nat→List (List Nat)→Nat→Prop}
  (hx: ∀s c n l g,Wf s c lv k st i g→lv≤s.length→k<((s++[c]).getD lv []).length→WrL (i+1) y b ([]::l) post→Q s c n l g)
  (e: ∀s c n l g,Wf s c lv k st i g→X tab fn.body (mk fn.ntmps (.tup []) (numb 0 args)) ⟨rw' s c lv k st y,[],n,[]::l,g⟩ (.fin fn.res ⟨s,c,n,l,g⟩ (FinW ⟨s,c,n,l,g⟩ lv k st i (b++B) post r))=Q s c n l g:=by intro _ _ _ _ _ f;unfold Wf at f;exact SE)
  (hn:args.length≤fn.ntmps:=by exact Nat.le_of_ble_eq_true rfl):Writes f args lv k st i y b B post r m:=by
 obtain⟨stk,cur,nx,live,fl⟩:=m
 obtain⟨hlv,hblk,hfl,hW⟩:=ha
 dsimp only at hlv hfl hW
 have hrow:=z5e hblk (by omega)
 have hk:k<((stk++[cur]).getD lv []).length:=(w13.1 hrow).1
 have hid:=zab hrow
 have hlv':lv≤stk.length:=by omega
 have hw:Wf stk cur lv k st i fl:=⟨fun _=>kB,by simp;omega,by simp;omega,fun y=>z1t hlv' hk,fun _ _=>z3X,hfl⟩
 have h:=(e stk cur nx live fl hw).mpr (hx stk cur nx live fl hw hlv' hk hW.enter)
 rw[←hid] at h
 obtain⟨z,h1,y',n',l',h2,h3,h4⟩:=yq (m:=⟨stk,cur,nx,live,fl⟩) ht h hn
 exact⟨y',n',l',by rw[h1,←h2,←h3],h4⟩
theorem Wf.at (h:Wf stk cur lv k st i fl) (hlv:lv≤stk.length) (hk:k<((stk++[cur]).getD lv []).length) (hW:WrL (i+1) y b L post):At ⟨rw' stk cur lv k st y,bs,nx,L,fl⟩ lv k st (i+1) y b post:=by
 obtain⟨h1,h2,h3,h4,h5,h6⟩:=h
 exact⟨by dsimp only;rw[h1];omega,zaT hlv hk,h6,hW⟩
theorem oW {F:AV×Mem→Prop} {Q:AV→Nat→List (List Nat)→Prop} (hlv:lv≤stk.length) (h:Writes f args lv k st (i+1) y b B post r ⟨rw' stk cur lv k st y,bs,nx,L,fl⟩) (q: ∀y n L,WrL (i+1) y (b++B) L post→Q y n L)
  (eq: ∀y n L,F (r,⟨rw' stk cur lv k st y,bs,n,L,fl⟩)=Q y n L:=by intros;exact SE): @Cl (CALL tab f args ⟨rw' stk cur lv k st y,bs,nx,L,fl⟩) ⟨F⟩:=by
 obtain⟨y',n,L',h1,h2⟩:=h
 rw[z5K hlv] at h1
 exact⟨_,h1,(eq y' n L').mpr (q y' n L' h2)⟩
theorem aW {S:List (List Blk)} {z:AV} {zs:List AV} {F:AV×Mem→Prop} {Q:AV→Nat→List Nat→List (List Nat)→Prop} (h:WrL (i+1) y b L post) (hc:All2 IsByte B zs) (hl:b.length+B.length≤140737488355328) (q: ∀y n o L,WrL (i+1) y (b++B) (o::L) post→Q y n o L)
  (hz: ∀m:Mem,m.elems 1 z=some zs:=by(first|exact(zd · _ _ _)|exact(XA · _)|assumption))
  (eq: ∀y' n l o l2,(y'.cells=[y']∧y'.one=true)→sink (i+1) y'.toks l=o::l2→F (y',⟨S,bs,n,l,fl⟩)=Q y' n o l2:=by intro _ _ _ _ _ w1 w2;exact SEw): @Cl (evApp ⟨S,bs,nx,L,fl⟩ 1 1 y z) ⟨F⟩:=by
 obtain⟨y',n,l,o,l2,h1,h2,h3,h4,h5⟩:=h.app hz hc hl nx
 exact⟨_,h1 _ _ _,(eq y' n l o l2 ⟨h2,h3⟩ h4).mpr (q y' n o l2 (WrL.cons o h5))⟩
theorem eW {fl':Nat} {b':List UInt8} (hlv:lv≤stk.length) (h:WrL (i+1) y b' L post) (hq:b'=b) (h1:r.refs (stk++[cur]).length=false:=by rfl) (h3:r.toks=[]:=by rfl):Opt (leave ⟨stk,cur,nx,live,fl⟩ ⟨rw' stk cur lv k st y,bs,n,L,fl'⟩ r) fun q=>FinW ⟨stk,cur,nx,live,fl⟩ lv k st i b post r q.1 q.2:=by
 subst hq
 obtain⟨o,l,rfl,h2⟩:=h.tail
 rw[z2L hlv h1 h3 nx live,z6]
 exact⟨y,n,l,rfl,rfl,h2⟩
end
attribute [go_sem] tI uH
theorem z3A (s:List UInt8) (hs:s.length≤1000) (m:Mem) {lv k sp i:Nat} {y:AV} {b:List UInt8} {post:List (List Nat)} (ha:At m lv k sp i y b post) (hb:b.length≤900000):
  Writes 226 [.ptr lv k sp 0,.str s] lv k sp i y b (said s) post (.tup []) m:=by
 have hm:=z9 (n:=s.length) (by omega)
 refine wz (tT tI) ha fun S C n l g f hlv hk hW=> ?_
 refine oW hlv (qR s.length (by omega) _ (f.at hlv hk hW) (by omega)) fun y n L hW=> ?_
 have f0:=f
 unfold Wf at f
 refine st ?_
 refine aW hW (js s) (by simp;omega) fun y n o L hW=> ?_
 exact eW hlv hW (w16 _ _ _)
theorem z22 (l:List DField) (v:AV) (hv:IsSl IsField 2 l v) (hf:FOk l) (m:Mem) {lv k sp i:Nat} {y:AV} {b:List UInt8} {post:List (List Nat)} (ha:At m lv k sp i y b post) (hb:b.length≤800000):
  Writes 283 [.ptr lv k sp 0,v] lv k sp i y b (flds l l.length) post (.tup []) m:=by
 have f0:=nd hv.z<|nd hv.co fun j (hj:j<l.length)=>show nth v j= .agg [.str l[j].name,.int .i64 l[j].typ] from hv.nth hj
 have h16:=hf.1
 have m0:=hv.max
 have f:=f0
 refine wz (tT uH) ha fun S C n e g fw hlv hk hW=> ?_
 have f:=nd f0 fw
 unfold Wf at f
 refine st ?_
 refine oW hlv (qR l.length (by omega) _ (fw.at hlv hk hW) (by omega)) fun y n L hW=> ?_
 refine xs [12] (fun(z:Nat×AV) v S' e c=>S'=rw' S C lv k sp z.2∧z.1≤l.length∧v 12= .int .i64 (z.1:Int)∧c=[]∧WrL (i+1) z.2 (b++flds l z.1) e post) (fun z=>l.length-z.1) (0,y) ?_ ?_
 ·simpa [flds] using hW
 rintro⟨j,y⟩ v S' e nz c ⟨rfl,hj,h12,rfl,hW⟩
 dsimp only at*
 refine ifs (fun h=> ?_) fun h=> ?_
 ·obtain⟨h1,h2,h3⟩:=hf.at (k:=j) (by omega)
  have hL:=qU hf j hj
  rw[←Zg (by omega)] at h1 h2 h3
  have m1:=qS (s:=l[j].name) (by omega)
  have hi:l[j].typ=(l[j].typ.toNat:Int):=by omega
  refine oW hlv (z3A l[j].name (by omega) _ (fw.at hlv hk hW) (by simp;omega)) fun y n L hW=> ?_
  rw[hi]
  refine oW hlv (qR l[j].typ.toNat (by omega) _ (fw.at hlv hk hW) (by simp;omega)) fun y n L hW=> ?_
  refine⟨(j+1,y),by dsimp only;omega,rfl,by dsimp only;omega,by dsimp only;omega,?_⟩
  rw[flds,←Zg (by omega),←w16,←w16]
  exact hW
 ·obtain rfl:j=l.length:=by omega
  exact eW hlv hW rfl
end Go.Proofs.W
end
