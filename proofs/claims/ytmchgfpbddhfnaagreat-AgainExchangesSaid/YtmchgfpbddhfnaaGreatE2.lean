/-
  Part 3 of the proof, shared by claims of this seat: NVss, NVst, NVsu, NVsx, NVsy, X2Code, NVsv, NVsw, NVd, NVb, NDt, NVba, X2A1.
-/
import Derived.Test.YtmchgfpbddhfnaaGreatE1
import Derived.DataReads
import Derived.Carry
import Derived.ChangeOld
import Derived.ProofKit
set_option maxHeartbeats 64000000
set_option linter.unusedVariables false
set_option linter.unusedSimpArgs false
open Nat renaming reduceAdd → G0, reduceSub → G1, reduceEqDiff → G2, reduceLeDiff → G3, reduceBEq → G4, reduceLT → G5, le_refl → w0f, zero_le → w10, zero_add → w20, add_mul → w25
open Int renaming reduceBNe → G6, ofNat_lt → w0b
open Option renaming map_eq_some_iff → w00, bind_eq_some_iff → w01, map_some → w04, bind_some → w19, getD_some → w1c, isSome_iff_exists → w39
open List renaming getD_eq_getElem?_getD → w02, getElem?_eq_some_iff → w05, mem_append → w06, getElem?_eq_getElem → w09, getElem?_append_left → w0a, append_assoc → w0c, getElem?_append_right → w0e, mem_cons_of_mem → w11, eq_nil_of_length_eq_zero → w12, mem_cons_self → w13, length_append → w14, getElem?_map → w15, append_nil → w16, length_take → w18, getElem?_eq_none → w1a, length_drop → w1e, mem_cons → w1f, map_cons → w21, map_append → w22, length_cons → w24, all_eq_true → w28, take_succ_eq_append_getElem → w2a, mem_singleton → w2b, mem_of_getElem? → w2c, cons_append → w2d, flatten_cons → w2e, nodup_append → w2f, take_length → w30, take_of_length_le → w31, mem_map → w32, mem_append_right → w33, getElem?_range → w34, getElem?_cons_zero → w35, drop_eq_getElem_cons → w36, mem_append_left → w37, mem_range → w38
open Bool renaming and_eq_true → w03, false_eq_true → w08, or_eq_true → w1b
open Array renaming getElem?_eq_some_iff → w1d
section
namespace Go.Vs
open Go.RowKit
def Out.exit':Out→Exit
 | .normal=> .normal
 | .exit id=> .exit id
 | .ret=> .ret
 | .goto l=> .goto l
theorem x7 (l l' k:Nat): ∀(xs:List AV) (j:Nat),(shiftAll l l' k xs)[j]? =(xs[j]?).map fun x=>x.shift l l' k
 | [],j=>by simp[shiftAll]
 |x::r,0=>by simp[shiftAll]
 |x::r,j+1=>by simpa [shiftAll] using x7 l l' k r j
theorem zE (l l' k:Nat): ∀(xs:List AV),(shiftAll l l' k xs).length=xs.length
 | []=>rfl
 |x::r=>by simp[shiftAll,zE l l' k r]
theorem Rep.shift {g:G} {w:World} {x:AV} {v:Value} (l l' k:Nat) (h:Rep g w x v):Rep g w (x.shift l l' k) v:=by
 induction h with
 |bool b=>exact .bool b
 |int k n=>exact .int k n
 |str s b h=>exact .str s b h
 |nils=>exact .nils
 |list s tk xs b o cap f hs hcap htk hc hr ih=>exact .list s tk xs b o cap f hs hcap htk hc hr
 |empty s tk a cap h=>exact .empty s tk a cap h
 |arr a i st off len b o e' cap hb hcap=>
  simp only[AV.shift]
  split
  ·exact .arr _ _ _ _ _ _ _ _ _ hb hcap
  ·exact .arr _ _ _ _ _ _ _ _ _ hb hcap
 |arr0 a i st off ad cap=>
  simp only[AV.shift]
  split
  ·exact .arr0 _ _ _ _ _ _
  ·exact .arr0 _ _ _ _ _ _
 |grow s a i st len b o e' cap hb hcap he=>
  simp only[AV.shift]
  split
  ·exact .grow _ _ _ _ _ _ _ _ _ hb hcap he
  ·exact .grow _ _ _ _ _ _ _ _ _ hb hcap he
 |ptr a i st off b o e' hb=>
  simp only[AV.shift]
  split
  ·exact .ptr _ _ _ _ _ _ _ hb
  ·exact .ptr _ _ _ _ _ _ _ hb
 |ro cs b o f hc hr ih=>exact .ro cs b o f hc hr
 |nilptr=>exact .nilptr
 |mapR a i st b h=>
  simp only[AV.shift]
  split
  ·exact .mapR _ _ _ _ h
  ·exact .mapR _ _ _ _ h
 |yld a i st b h=>
  simp only[AV.shift]
  split
  ·exact .yld _ _ _ _ h
  ·exact .yld _ _ _ _ h
 |fn f first caps first' caps' h1 h2 h3 h4 ih3 ih4=>
  refine .fn f _ _ _ _ (by rw[zE];exact h1) (by rw[zE];exact h2) (fun j c v a1 a2=> ?_) (fun j c v a1 a2=> ?_)
  ·rw[x7,w00] at a1
   obtain⟨y,hy,rfl⟩:=a1
   exact ih3 j y v hy a2
  ·rw[x7,w00] at a1
   obtain⟨y,hy,rfl⟩:=a1
   exact ih4 j y v hy a2
 |nilfn=>exact .nilfn
 |agg cs vs hl h ih=>
  refine .agg _ _ (by rw[zE];exact hl) (fun j c v a1 a2=> ?_)
  rw[x7,w00] at a1
  obtain⟨y,hy,rfl⟩:=a1
  exact ih j y v hy a2
 |tup cs vs hl h ih=>
  refine .tup _ _ (by rw[zE];exact hl) (fun j c v a1 a2=> ?_)
  rw[x7,w00] at a1
  obtain⟨y,hy,rfl⟩:=a1
  exact ih j y v hy a2
 |undef v=>exact .undef v
theorem Reps.shift {g:G} {w:World} {xs:List AV} {vs:List Value} (l l' k:Nat) (h:Reps g w xs vs):Reps g w (shiftAll l l' k xs) vs:=by
 refine⟨by rw[zE];exact h.1,fun j c v a1 a2=> ?_⟩
 rw[x7,w00] at a1
 obtain⟨y,hy,rfl⟩:=a1
 exact(h.2 j y v hy a2).shift l l' k
theorem T3 (l l' k:Nat) {x:AV} {v:Value} (h:PRep x v):x.shift l l' k=x:=by
 cases h<;>rfl
theorem z8J (l l' k:Nat) {ps:List AV} {es:List MapEntry} (h:EntsOk ps es):shiftAll l l' k ps=ps:=by
 induction h with
 |nil=>rfl
 |cons h1 h2 _ ih=>simp only[shiftAll,AV.shift,T3 l l' k h1,T3 l l' k h2,ih]
theorem z4u (m:Mem):(enter m).all=m.all:=by simp[enter,Mem.all]
theorem z4t {g:G} {w:World} {m:Mem} (I:Inv g w m):Inv g w (enter m):=
 I.sub (fun bl h=>by rw[z4u] at h;exact h) (by rw[z4u];exact I.nd) (w0f _) (by simp[enter])
theorem T6 {g:G} {w:World} {m0 m m':Mem} {r r':AV} {v:Value} (I:Inv g w m) (h:leave m0 m r=some (r',m')) (hr:Rep g w r v):Inv g w m'∧Rep g w r' v:=by
 unfold leave at h
 simp only at h
 split at h
 ·cases h
 ·cases h
 ·rename_i c own rest hc hown
  have hstk:m.stk=m.stk.dropLast++[c]:=by
   obtain⟨hne,hl⟩:=List.getLast?_eq_some_iff.1 hc|>fun⟨ys,h⟩=>(⟨by rw[h];simp,⟨ys,h⟩⟩:m.stk≠[]∧ ∃ys,m.stk=ys++[c])
   obtain⟨ys,hys⟩:=hl
   rw[hys];simp
  have hlive:(pushToks (own.filter fun t=>r.toks.contains t) rest).flatten.Sublist m.live.flatten:=by
   rw[Ww,hown]
   exact List.Sublist.append List.filter_sublist (List.Sublist.refl _)
  have hall:m.all=m.stk.dropLast.flatten++c++m.cur:=by
   unfold Mem.all
   rw[hstk];simp
  split at h
  ·injection h with h
   injection h with h1 h2
   subst h1;subst h2
   refine⟨⟨fun bl hb hrs=> ?_,?_,I.stlt,I.tklt,fun t ht=>I.live t (hlive.subset ht),I.ownb,I.hbase,I.lnd.sublist hlive,I.rsv,I.mpk⟩,hr.shift _ _ _⟩
   ·simp only[Mem.all,w06,w32] at hb
    rcases hb with hb|hb|⟨b0,hb0,rfl⟩
    ·exact I.blk bl (by rw[hall];simp only[w06];exact .inl (.inl hb)) hrs
    ·exact I.blk bl (by rw[hall];simp only[w06];exact .inl (.inr hb)) hrs
    ·rcases I.blk b0 (by rw[hall];simp only[w06];exact .inr hb0) hrs with⟨b,o,e,k1,k2,k3,vs,k4,k5⟩|⟨b,ps,es,clock,k1,k2,k3,k4,k5⟩|⟨b,r,n,k1,k2,k3,k4,k5⟩
     rotate_left
     ·exact .inr (.inl ⟨b,ps,es,clock,k1,k2,by simp only[k3,shiftAll,AV.shift,z8J _ _ _ k5],k4,k5⟩)
     ·exact .inr (.inr ⟨b,r,n,k1,k2,by simp only[k3,shiftAll,AV.shift],k4,k5⟩)
     exact .inl ⟨b,o,e,k1,by simp only[zE];exact k2,k3,vs,k4.shift _ _ _,k5⟩
   ·have:=I.nd
    rw[hall] at this
    simp only[Mem.all,w22,List.map_map] at this⊢
    simpa [w0c,Function.comp_def] using this
  ·injection h with h
   injection h with h1 h2
   subst h1;subst h2
   refine⟨I.sub (fun bl hb=> ?_) ?_ (w0f _) hlive,hr⟩
   ·simp only[Mem.all,w06] at hb
    rw[hall]
    simp only[w06]
    exact .inl hb
   ·have:=I.nd
    rw[hall] at this
    refine List.Nodup.sublist ?_ this
    simp only[Mem.all]
    exact(List.sublist_append_left _ _).map _
theorem Tv {F:Fence} {N:Nat} {P:Program} {c:Code} {Q:Exit→Act→World→Prop} (R:Nat→Act→World→Prop) (round: ∀n a w,R n a w→c.wpIn F N P (Exit.then (fun a' w'=> ∃m,m<n∧R m a' w') Q) a w) {n:Nat} {a:Act} {w:World} (h:R n a w):
  (Code.loop c).wpIn F N P Q a w:=by
 intro b k cs hro hb hr
 have key: ∀n a w,R n a w→ ∃e a' w',Q e a' w'∧ArrivesIn (Machine.fenced P F) P (lone (b.atR a (.code c:: .inLoop c::k)) cs w) b k cs e a' w':=by
  intro n
  induction n using Nat.strongRecOn with
  |_ n ih=>
   intro a w hI
   obtain⟨e,a₁,w₁,hq,harr⟩:=round n a w hI b (.inLoop c::k) cs hro hb hr
   cases e with
   |normal=>
    obtain⟨m,hlt,hI₁⟩:=hq
    obtain⟨e₂,a₂,w₂,hq₂,harr₂⟩:=ih m hlt a₁ w₁ hI₁
    exact⟨e₂,a₂,w₂,hq₂,.of_steps (StepsIn.trans harr (.one (fenced_calm hb hr rfl) stepR_inLoop)) harr₂⟩
   |exit id=>exact⟨_,a₁,w₁,hq,.pass (x:= .inLoop c) rfl (fun _ _=> .inl (by simp)) harr⟩
   |goto l=>exact⟨_,a₁,w₁,hq,.pass (x:= .inLoop c) rfl (fun _ _=> .inl (by simp)) harr⟩
   |ret=>exact⟨_,a₁,w₁,hq,.pass (x:= .inLoop c) rfl (fun _ _=> .inl (by simp)) harr⟩
   |panic ch=>exact⟨_,a₁,w₁,hq,.pass (x:= .inLoop c) rfl (fun _ _=> .inl (by simp)) harr⟩
   |outgrown=>exact⟨_,a₁,w₁,hq,.pass (x:= .inLoop c) rfl (fun _ _=> .inl (by simp)) harr⟩
 obtain⟨e,a',w',hq,harr⟩:=key n a w h
 exact⟨e,a',w',hq,.of_steps (.one (fenced_calm hb hr rfl) stepR_loop) harr⟩
theorem z6p {P:Program} {b:Frame} {a:Act} {k:List Item} {cs:List Frame} {w:World} {c:Code}:step P (lone (b.atR a (.code (.scope c)::k)) cs w)= .next (lone (b.atR a (.code c:: .inScope c::k)) cs w):=
 step_lone_go (by simp[stepG,stepG.exec,Frame.atR])
theorem z1V {P:Program} {b:Frame} {a:Act} {k:List Item} {cs:List Frame} {w:World} {c:Code}:step P (lone (b.atR a (.inScope c::k)) cs w)= .next (lone (b.atR a k) cs w):=
 step_lone_go (by simp[stepG,stepG.exec,Frame.atR])
theorem Uj {F:Fence} {N:Nat} {P:Program} {c:Code} {Q:Exit→Act→World→Prop} (R:Nat→Option Nat→Act→World→Prop)
  (round: ∀n s a w,R n s a w→ ∀x,(match s with|none=>x=c|some l=>findLabel c l=some x)→x.wpIn F N P (fun e a' w'=>match e with
   | .goto l=>if(findLabel c l).isSome then∃m,m<n∧R m (some l) a' w' else Q (.goto l) a' w'
   |e=>Q e a' w') a w) {n:Nat} {a:Act} {w:World} (h:R n none a w):
  (Code.scope c).wpIn F N P Q a w:=by
 intro b k cs hro hb hr
 have key: ∀n s a w,R n s a w→ ∀x,(match s with|none=>x=c|some l=>findLabel c l=some x)→
   ∃e a' w',Q e a' w'∧ArrivesIn (Machine.fenced P F) P (lone (b.atR a (.code x:: .inScope c::k)) cs w) b k cs e a' w':=by
  intro n
  induction n using Nat.strongRecOn with
  |_ n ih=>
   intro s a w hI x hx
   obtain⟨e,a₁,w₁,hq,harr⟩:=round n s a w hI x hx b (.inScope c::k) cs hro hb hr
   cases e with
   |normal=>exact⟨.normal,a₁,w₁,hq,StepsIn.trans harr (.one (fenced_calm hb hr rfl) z1V)⟩
   |exit id=>exact⟨.exit id,a₁,w₁,hq,fun k' hk=>harr.1 k' (by simpa [exitTo] using hk),fun h1 h2=>harr.2 h1 (by simpa [exitTo] using h2)⟩
   |goto l=>
    simp only at hq
    split at hq
    ·rename_i hl
     obtain⟨m,hlt,hI₁⟩:=hq
     obtain⟨y,hy⟩:=w39.1 hl
     obtain⟨e₂,a₂,w₂,hq₂,harr₂⟩:=ih m hlt (some l) a₁ w₁ hI₁ y hy
     exact⟨e₂,a₂,w₂,hq₂,.of_steps (harr.1 _ (by simp[gotoIn,hy])) harr₂⟩
    ·rename_i hl
     have hn:findLabel c l=none:=by cases h:findLabel c l with|none=>rfl|some y=>rw[h] at hl;exact absurd rfl hl
     exact⟨.goto l,a₁,w₁,hq,fun k' hk=>harr.1 k' (by simpa [gotoIn,hn] using hk),fun h1 h2=>harr.2 h1 (by simpa [gotoIn,hn] using h2)⟩
   |ret=>exact⟨_,a₁,w₁,hq,harr⟩
   |panic ch=>exact⟨_,a₁,w₁,hq,harr⟩
   |outgrown=>exact⟨_,a₁,w₁,hq,harr⟩
 obtain⟨e,a',w',hq,harr⟩:=key n none a w h c rfl
 exact⟨e,a',w',hq,.of_steps (.one (fenced_calm hb hr rfl) z6p) harr⟩
theorem Tq (live:List Nat) (nb:Nat) (σ:St) (h:σ.m.floor≤σ.m.stk.length):Above σ.m (heads live nb σ).m:=by
 refine⟨rfl,rfl,fun l k st cs hl hb=>yR hb fun x hx=> ?_,w0f _⟩
 unfold Mem.row heads at*
 simp only at hx⊢
 have: ¬(l==σ.m.stk.length)=true:=by simp;omega
 rw[if_neg this] at hx⊢
 exact hx
theorem z0A {f:St→Option (Out×St)} {live:List Nat} {nb:Nat} (hf: ∀σ out σ',σ.m.floor≤σ.m.stk.length→f σ=some (out,σ')→Above σ.m σ'.m):
  ∀(n:Nat) (σ:St) (out:Out) (σ':St),σ.m.floor≤σ.m.stk.length→iter f (heads live nb) n σ=some (out,σ')→Above σ.m σ'.m
 |0,σ,out,σ',_,h=>by simp[iter] at h
 |n+1,σ,out,σ',hl,h=>by
  simp only[iter] at h
  have k0:=Tq live nb σ hl
  split at h
  ·rename_i σ1 h1
   have k1:=hf _ _ _ (by rw[k0.len,k0.floor];exact hl) h1
   have k01:=k0.trans k1
   exact k01.trans (z0A hf n σ1 out σ' (by rw[k01.len,k01.floor];exact hl) h)
  ·exact k0.trans (hf _ _ _ (by rw[k0.len,k0.floor];exact hl) h)
theorem z6K {O:Ora} {n:Nat} {x:Option ACode} {σ:St} {r:Out×St} (h:ev O n (orBad x) σ=some r): ∃c,x=some c∧ev O n c σ=some r:=by
 cases x with
 |none=>simp[orBad,ev] at h
 |some c=>exact⟨c,rfl,h⟩
theorem Tl (m:Mem) (hf:m.floor≤m.stk.length+1): ∀l k st cs,l<m.floor→m.blk l k st=some cs→(enter m).blk l k st=some cs:=by
 intro l k st cs hl hb
 refine yR hb fun x hx=> ?_
 unfold Mem.row enter at*
 simp only[w14,w24,List.length_nil,w20]
 rw[if_neg (by simp;omega),w02]
 by_cases h:l=m.stk.length
 ·subst h
  rw[if_pos (by simp)] at hx
  rw[w0e (w0f _)]
  simpa using hx
 ·rw[if_neg (by simpa using h),w02] at hx
  rw[w0a (by omega)]
  exact hx
theorem T8 {m0 m m':Mem} {r r':AV} (hlen:m.stk.length=m0.stk.length+1) (hf:m0.floor≤m0.stk.length+1) (hk: ∀l k st cs,l<m0.floor→m0.blk l k st=some cs→m.blk l k st=some cs) (hnx:m0.nx≤m.nx) (h:leave m0 m r=some (r',m')):Above m0 m':=by
 unfold leave at h
 simp only at h
 split at h
 ·cases h
 ·cases h
 ·rename_i c own rest hc hown
  have hlast:m.stk[m0.stk.length]? =some c:=by
   rw[List.getLast?_eq_getElem?,hlen] at hc
   simpa using hc
  have key: ∀(extra:List Blk) (nx:Nat) (live:List (List Nat)),m0.nx≤nx→Above m0 {stk:=m.stk.dropLast,cur:=c++extra,nx:=nx,live:=live,floor:=m0.floor}:=by
   intro extra nx live hn
   refine⟨by simp[hlen],rfl,fun l k st cs hl hb=>yR (hk l k st cs hl hb) fun x hx=> ?_,hn⟩
   unfold Mem.row at hx⊢
   have hl1: ¬(l==m.stk.length)=true:=by simp;omega
   rw[if_neg hl1,w02] at hx
   simp only[List.length_dropLast,hlen,Nat.add_sub_cancel]
   by_cases hl2:l=m0.stk.length
   ·subst hl2
    rw[hlast,w1c] at hx
    rw[if_pos (by simp)]
    have hk':k<c.length:=(w05.1 hx).1
    rw[w0a hk'];exact hx
   ·rw[if_neg (by simpa using hl2),w02,List.getElem?_dropLast]
    rw[if_pos (by omega)]
    exact hx
  split at h
  ·injection h with h
   injection h with _ h2
   subst h2
   exact key _ _ _ hnx
  ·injection h with h
   injection h with _ h2
   subst h2
   have:=key [] m.nx (pushToks (own.filter fun t=>r.toks.contains t) rest) hnx
   simpa using this
def YAbove (Y:YH):Prop:= ∀args m r m',Y args m=some (r,m')→m.floor≤m.stk.length+1→Above m m'
def OraAbove (O:Ora):Prop:=OracleAbove O.call∧ ∀Y,YAbove Y→OracleAbove (O.iter Y)
theorem Vx {RA RB:St→Option (Out×St)} (hA: ∀σ out σ',σ.m.floor≤σ.m.stk.length→RA σ=some (out,σ')→Above σ.m σ'.m) (hB: ∀σ out σ',σ.m.floor≤σ.m.stk.length→RB σ=some (out,σ')→Above σ.m σ'.m)
  {ps:List Nat} {ρ:List AV} {l k st:Nat} {aS:List AV} {m m':Mem} {r:AV} (h:roundV RA RB ps ρ l k st aS m=some (r,m')) (hf:m.floor≤m.stk.length+1):Above m m':=by
 unfold roundV at h
 split at h
 ·rename_i hc
  obtain⟨_,_,hfl,_⟩:=hc
  split at h
  ·rename_i σ1 h1
   have k1:=hA _ _ _ (by simp only[enter];simp;exact hf) h1
   split at h
   ·split at h
    ·rename_i out σ2 h2
     have k2:=y6 σ1.m l k st [.int .i64 (.ofNat 1)] (by rw[k1.floor];exact hfl)
     have k3:=hB _ _ _ (by simp only;rw[k2.len,k2.floor,k1.len,k1.floor];simp only[enter];simp;exact hf) h2
     split at h
     ·split at h
      ·rename_i n _
       have k4:=y6 σ2.m l k st [.int .i64 (.ofNat n)] (by rw[k3.floor,k2.floor,k1.floor];exact hfl)
       have kk:=((k1.trans k2).trans k3).trans k4
       have hl:=kk.len
       simp only[enter,w14,w24,List.length_nil,w20] at hl
       exact T8 hl hf (fun l i st cs hl hb=>kk.blk l i st cs hl (Tl m hf l i st cs hl hb)) kk.nx h
      ·cases h
     ·cases h
    ·cases h
   ·cases h
  ·cases h
 ·cases h
theorem z1X {I:YH→Oracle} (hI: ∀Y,YAbove Y→OracleAbove (I Y)) {RA RB:St→Option (Out×St)} (hA: ∀σ out σ',σ.m.floor≤σ.m.stk.length→RA σ=some (out,σ')→Above σ.m σ'.m) (hB: ∀σ out σ',σ.m.floor≤σ.m.stk.length→RB σ=some (out,σ')→Above σ.m σ'.m)
  {f:AV} {ps:List Nat} {σ σ':St} {out:Out} (h:rangeEv I RA RB f ps σ=some (out,σ')) (hf:σ.m.floor≤σ.m.stk.length):Above σ.m σ'.m:=by
 unfold rangeEv at h
 split at h
 ·split at h
  ·rename_i m2 h1
   have k0:=xI σ.m [⟨σ.m.nx,[.int .i64 (.ofNat 0)]⟩] (σ.m.nx+1) σ.m.live
   have k1:=hI _ (fun args m r m' hy hf=>by
    unfold yieldV at hy
    split at hy
    ·split at hy
     ·exact Vx hA hB hy hf
     ·cases hy
    ·cases hy) _ _ _ _ _ h1 (by simp only;omega)
   split at h
   ·simp only[w00,Prod.mk.injEq] at h
    obtain⟨o,_,_,rfl⟩:=h
    have k01:=k0.trans k1
    exact k01.trans (y6 _ _ _ _ _ (by rw[k01.floor];exact hf))
   ·cases h
  ·cases h
 ·cases h
theorem Wv {run:St→Option (Out×St)} {from_:Nat→St→Option (Out×St)} {has:Nat→Bool} (hr: ∀σ out σ',σ.m.floor≤σ.m.stk.length→run σ=some (out,σ')→Above σ.m σ'.m) (hs: ∀l σ out σ',σ.m.floor≤σ.m.stk.length→from_ l σ=some (out,σ')→Above σ.m σ'.m):
  ∀(n:Nat) (s:Option Nat) (σ:St) (out:Out) (σ':St),σ.m.floor≤σ.m.stk.length→scopeIt run from_ has n s σ=some (out,σ')→Above σ.m σ'.m
 |0,s,σ,out,σ',_,h=>by simp[scopeIt] at h
 |n+1,s,σ,out,σ',hf,h=>by
  have one: ∀out σ',(match s with|none=>run σ|some l=>from_ l σ)=some (out,σ')→Above σ.m σ'.m:=by
   intro out σ' h
   cases s with
   |none=>exact hr _ _ _ hf h
   |some l=>exact hs _ _ _ _ hf h
  simp only[scopeIt] at h
  split at h
  ·rename_i l σ1 h1
   have k1:=one _ _ h1
   split at h
   ·exact k1.trans (Wv hr hs n (some l) σ1 out σ' (by rw[k1.len,k1.floor];exact hf) h)
   ·injection h with h;injection h with _ h;rw[←h];exact k1
  ·exact one _ _ h
theorem V5 {f:Mem→AV→Option (AV×Mem)} (hf: ∀{m x x' m'},f m x=some (x',m')→Above m m'): ∀{cs cs':List AV} {m m':Mem},frzL f m cs=some (cs',m')→Above m m'
 | [],cs',m,m',h=>by
  simp only[frzL,Option.some.injEq,Prod.mk.injEq] at h
  rw[←h.2];exact Above.refl _
 |c::r,cs',m,m',h=>by
  simp only[frzL,w01,w00] at h
  obtain⟨⟨c',m1⟩,h1,⟨r',m2⟩,h2,h3⟩:=h
  simp only[Prod.mk.injEq] at h3
  obtain⟨_,rfl⟩:=h3
  exact(hf h1).trans (V5 hf h2)
theorem z0G: ∀(n:Nat) {m:Mem} {x x':AV} {m':Mem},frzV n m x=some (x',m')→Above m m':=by
 intro n
 induction n with
 |zero=>
  intro m x x' m' h
  unfold frzV at h
  split at h
  ·cases h
  ·rename_i h0;cases h0
  ·injection h with h;injection h with h1 h2;subst h2;exact Above.refl _
 |succ n ih=>
  intro m x x' m' h
  unfold frzV at h
  split at h
  ·cases h
  ·rename_i n' s l k st len hn
   injection hn with hn;subst hn
   split at h
   ·split at h
    ·rename_i hc
     simp only[w01] at h
     obtain⟨⟨cs',m1⟩,h1,h⟩:=h
     simp only at h
     split at h
     ·injection h with h;injection h with e1 e2
      subst e2
      have kk:=V5 ih h1
      exact kk.trans (z16 m1 l k m1.nx [] _ (by rw[kk.floor];exact hc.1))
     ·cases h
    ·cases h
   ·cases h
  ·injection h with h;injection h with h1 h2;subst h2;exact Above.refl _
theorem jT: ∀(ts:List Nat) {σ σ':St},frzT ts σ=some σ'→Above σ.m σ'.m
 | [],σ,σ',h=>by
  simp only[frzT,Option.some.injEq] at h
  rw[h];exact Above.refl _
 |t::r,σ,σ',h=>by
  simp only[frzT] at h
  split at h
  ·split at h
   ·split at h
    ·rename_i hl
     simp only[w01] at h
     obtain⟨⟨cs',m1⟩,h1,h⟩:=h
     simp only at h
     split at h
     ·have k:=V5 (z0G 3) h1
      exact(k.trans (y6 _ _ _ _ _ (by rw[k.floor];exact hl))).trans (jT r h)
     ·cases h
    ·cases h
   ·cases h
  ·simp only[w01] at h
   obtain⟨⟨v',m1⟩,h1,h⟩:=h
   exact(z0G 3 h1).trans (jT r h)
theorem z9H {O:Ora} {n:Nat} {ts:List Nat} {l:List AOper} {σ:St} {r:Out×St} (h:ev O n (regOps ts l) σ=some r): ∃σ0,frzT ts σ=some σ0∧ev O n (.ops l) σ0=some r:=by
 cases ts with
 |nil=>exact⟨σ,rfl,h⟩
 |cons t ts=>
  simp only[regOps,ev] at h
  cases hq:frzT (t::ts) σ with
  |none=>rw[hq] at h;simp at h
  |some σ0=>
   rw[hq] at h
   exact⟨σ0,rfl,by simpa [ev] using h⟩
theorem z2H (ts:List Nat) (al:List AOper) (l:Nat):hasLbl (regOps ts al) l=false:=by cases ts<;>rfl
theorem Xh {O:Ora} (hA:OraAbove O) {n:Nat}: ∀(c:ACode),(∀(σ:St) (out:Out) (σ':St),σ.m.floor≤σ.m.stk.length→ev O n c σ=some (out,σ')→Above σ.m σ'.m)∧
  ∀(l:Nat) (σ:St) (out:Out) (σ':St),σ.m.floor≤σ.m.stk.length→evF O n c l σ=some (out,σ')→Above σ.m σ'.m:=by
 intro c
 induction c with
 |bad=>exact⟨(by intro σ out σ' _ h;simp[ev] at h),fun l σ out σ' _ h=>by simp[evF] at h⟩
 |const v=>exact⟨(by
   intro σ out σ' _ h
   simp only[ev] at h
   split at h
   ·injection h with h;injection h with _ h;rw[←h];exact Above.refl _
   ·cases h),fun l σ out σ' _ h=>by simp[evF] at h⟩
 |skip=>exact⟨(by intro σ out σ' _ h;simp[ev] at h;rw[←h.2];exact Above.refl _),fun l σ out σ' _ h=>by simp[evF] at h⟩
 |ret=>exact⟨(by intro σ out σ' _ h;simp[ev] at h;rw[←h.2];exact Above.refl _),fun l σ out σ' _ h=>by simp[evF] at h⟩
 |exit id=>exact⟨(by intro σ out σ' _ h;simp[ev] at h;rw[←h.2];exact Above.refl _),fun l σ out σ' _ h=>by simp[evF] at h⟩
 |ops l=>exact⟨(by
   intro σ out σ' hf h
   simp only[ev,w00,Prod.mk.injEq] at h
   obtain⟨σ1,h1,_,rfl⟩:=h
   exact Tg hA.1 hf h1),fun l σ out σ' _ h=>by simp[evF] at h⟩
 |draw l=>exact⟨(by
   intro σ out σ' hf h
   simp only[ev,w00,Prod.mk.injEq] at h
   obtain⟨σ1,h1,_,rfl⟩:=h
   obtain⟨a1,a2,a3⟩:=uC hA.1 (σ:=⟨σ.ρ,{σ.m with floor:=max σ.m.floor (σ.m.stk.length+1)}⟩) hf rfl (by simp only;rw[Nat.max_eq_right (by omega)]) h1
   exact⟨a1,rfl,a2,a3⟩),fun l σ out σ' _ h=>by simp[evF] at h⟩
 |seq a b iha ihb=>exact⟨(by
   intro σ out σ' hf h
   simp only[ev] at h
   split at h
   ·rename_i σ1 h1
    have k:=iha.1 σ _ σ1 hf h1
    exact k.trans (ihb.1 σ1 out σ' (by rw[k.len,k.floor];exact hf) h)
   ·exact iha.1 σ out σ' hf h),fun l σ out σ' hf h=>by
   simp only[evF] at h
   split at h
   ·split at h
    ·rename_i σ1 h1
     have k:=iha.2 l σ _ σ1 hf h1
     exact k.trans (ihb.1 σ1 out σ' (by rw[k.len,k.floor];exact hf) h)
    ·exact iha.2 l σ out σ' hf h
   ·exact ihb.2 l σ out σ' hf h⟩
 |cond c a b iha ihb=>exact⟨(by
   intro σ out σ' hf h
   simp only[ev] at h
   split at h
   ·split at h
    ·exact iha.1 σ out σ' hf h
    ·exact ihb.1 σ out σ' hf h
   ·cases h),fun l σ out σ' _ h=>by simp[evF] at h⟩
 |block id a iha=>exact⟨(by
   intro σ out σ' hf h
   simp only[ev] at h
   split at h
   ·rename_i i σ1 h1
    have k:=iha.1 σ _ σ1 hf h1
    split at h
    ·injection h with h;injection h with _ h;rw[←h];exact k
    ·injection h with h;injection h with _ h;rw[←h];exact k
   ·exact iha.1 σ out σ' hf h),fun l σ out σ' _ h=>by simp[evF] at h⟩
 |loop live a iha=>exact⟨(by
   intro σ out σ' hf h
   simp only[ev] at h
   exact z0A (fun σ out σ' hl h=>iha.1 σ out σ' hl h) n σ out σ' hf h),fun l σ out σ' _ h=>by simp[evF] at h⟩
 |scope a iha=>exact⟨fun σ out σ' hf h=>by
   simp only[ev] at h
   exact Wv iha.1 iha.2 n none σ out σ' hf h,fun l σ out σ' _ h=>by simp[evF] at h⟩
 |label l=>exact⟨fun σ out σ' _ h=>by simp[ev] at h;rw[←h.2];exact Above.refl _,fun l σ out σ' _ h=>by simp[evF] at h;rw[←h.2];exact Above.refl _⟩
 |goto l=>exact⟨fun σ out σ' _ h=>by simp[ev] at h;rw[←h.2];exact Above.refl _,fun l σ out σ' _ h=>by simp[evF] at h⟩
 |rangeF f ps a b iha ihb=>exact⟨fun σ out σ' hf h=>by
   simp only[ev] at h
   exact z1X hA.2 iha.1 ihb.1 h hf,fun l σ out σ' _ h=>by simp[evF] at h⟩
 |frz ts=>exact⟨fun σ out σ' _ h=>by
   simp only[ev,w00,Prod.mk.injEq] at h
   obtain⟨σ1,h1,_,rfl⟩:=h
   exact jT ts h1,fun l σ out σ' _ h=>by simp[evF] at h⟩
theorem ja {O:Ora} (hA:OraAbove O) {n:Nat} (c:ACode) (σ:St) (out:Out) (σ':St) (hf:σ.m.floor≤σ.m.stk.length) (h:ev O n c σ=some (out,σ')):Above σ.m σ'.m:=(Xh hA c).1 σ out σ' hf h
section
variable {P : Program} {O : Ora}
theorem z0C {g:G} {w:World} {live:List Nat} {ρ:List AV} {vs:List Value} (h:Reps g w ρ vs):Reps g w (clean live ρ) vs:=by
 refine⟨by simp[clean,h.1],fun j c v h1 h2=> ?_⟩
 unfold clean at h1
 rw[w15,List.getElem?_zipIdx] at h1
 cases hq:ρ[j]? with
 |none=>rw[hq] at h1;simp at h1
 |some x=>
  rw[hq] at h1
  simp only[w04,w20,Option.some.injEq] at h1
  split at h1
  ·subst h1;exact h.2 j x v hq h2
  ·subst h1;exact .undef v
theorem z9u (live:List Nat) (nb:Nat) (cur:List Blk):(cut live nb cur).Sublist cur:=by
 unfold cut
 split
 ·exact List.Sublist.refl _
 ·exact List.take_sublist _ _
theorem z4g {g:G} {w:World} {live:List Nat} {nb:Nat} {σ:St} (I:Inv g w σ.m):Inv g w (heads live nb σ).m:=by
 refine I.sub (fun bl hb=> ?_) ?_ (w0f _) (List.Sublist.refl _)
 ·simp only[heads,Mem.all,w06] at hb⊢
  rcases hb with hb|hb
  ·exact .inl hb
  ·exact .inr ((z9u _ _ _).subset hb)
 ·refine List.Nodup.sublist ?_ I.nd
  simp only[heads,Mem.all]
  exact((List.Sublist.refl _).append (z9u _ _ _)).map _
def markD (D:Nat):Deferred:={target:= .collected D,args:= #[]}
def Marks (w:World) (ds:List Deferred) (w':World):Prop:= ∃Ds:List Nat,ds=Ds.map markD∧Ds.Nodup∧ ∀D∈Ds,w.heap.size≤D∧w'.heap[D]? =some (.deferred (some []))
theorem Marks.nil (w w':World):Marks w [] w':=⟨[],rfl,List.nodup_nil,fun D h=>by cases h⟩
theorem ExtW.size {g g':G} {w w':World} (h:ExtW g w g' w'):w.heap.size≤w'.heap.size:=h.below.size
theorem Marks.trans {g1 g2:G} {w w1 w2:World} {d1 d2:List Deferred} (h1:Marks w d1 w1) (hx:ExtW g1 w1 g2 w2) (hs:w.heap.size≤w1.heap.size) (h2:Marks w1 d2 w2):Marks w (d2++d1) w2:=by
 obtain⟨D1,rfl,n1,a1⟩:=h1
 obtain⟨D2,rfl,n2,a2⟩:=h2
 refine⟨D2++D1,by simp,w2f.2 ⟨n2,n1,fun x hx2 y hy e=> ?_⟩,fun D hD=> ?_⟩
 ·have:=(a2 x hx2).1
  have h3:=(w1d.1 (a1 y hy).2).1
  omega
 ·rcases w06.1 hD with h|h
  ·exact⟨by have:=(a2 D h).1;omega,(a2 D h).2⟩
  ·exact⟨(a1 D h).1,hx.oth _ _ (a1 D h).2⟩
def GoesD (g:G) (w:World) (a:Act) (ρ:List AV) (m:Mem) (K:Act→World→Prop):Prop:=
 ∀g' a' w' ds,Ext g w g' w'→Inv g' w' m→Reps g' w' ρ a'.tmps.toList→a'.defers=ds++a.defers→Marks w ds w'→K a' w'
theorem GoesD.goes {g:G} {w:World} {a:Act} {ρ:List AV} {m:Mem} {K:Act→World→Prop} (h:GoesD g w a ρ m K):Goes g w a ρ m K:=
 fun g' a' w' h1 h2 h3 h4=>h g' a' w' [] h1 h2 h3 h4 (Marks.nil _ _)
theorem GoesD.step {g g1:G} {w w1:World} {a a1:Act} {ρ:List AV} {m:Mem} {K:Act→World→Prop} (h:GoesD g w a ρ m K) (hx:Ext g w g1 w1) {d:List Deferred} (hd:a1.defers=d++a.defers) (hm:Marks w d w1):GoesD g1 w1 a1 ρ m K:=
 fun g' a' w' ds h1 h2 h3 h4 h5=>h g' a' w' (ds++d) (hx.trans h1) h2 h3 (by rw[h4,hd,w0c]) (hm.trans h1.toExtW hx.toExtW.size h5)
theorem Tc: ∀(c:Code) (ann:List (List Nat)) (ac:ACode) (rest:List (List Nat)),comp P c ann=some (ac,rest)→ ∀l,hasLbl ac l=(findLabel c l).isSome:=by
 have bad: ∀(x:Option ACode),(∀c,x=some c→ ∀l,hasLbl c l=false)→ ∀l,hasLbl (orBad x) l=false:=by
  intro x h l
  cases x with
  |none=>rfl
  |some c=>exact h c rfl l
 intro c
 induction c with
 |skip=>intro ann ac rest hc l;simp[comp] at hc;rw[←hc.1];rfl
 |ret=>intro ann ac rest hc l;simp[comp] at hc;rw[←hc.1];rfl
 |exit id=>intro ann ac rest hc l;simp[comp] at hc;rw[←hc.1];rfl
 |goto id=>intro ann ac rest hc l;simp[comp] at hc;rw[←hc.1];rfl
 |refuse id=>intro ann ac rest hc l;simp[comp] at hc;rw[←hc.1];rfl
 |label l'=>intro ann ac rest hc l;simp[comp] at hc;rw[←hc.1];simp only[hasLbl,findLabel];cases l'==l<;>rfl
 |region id ops draw=>
  intro ann ac rest hc l
  cases draw with
  |false=>
   simp only[comp,Option.some.injEq,Prod.mk.injEq] at hc
   obtain⟨rfl,rfl⟩:=hc
   rw[bad _ (fun c h l=>by simp only[w00] at h;obtain⟨_,_,rfl⟩:=h;exact z2H _ _ _)];rfl
  |true=>
   simp only[comp,Option.some.injEq,Prod.mk.injEq] at hc
   obtain⟨rfl,rfl⟩:=hc
   rw[bad _ (fun c h l=>by simp only[w00] at h;obtain⟨_,_,rfl⟩:=h;rfl)];rfl
 |seq x y ihx ihy=>
  intro ann ac rest hc l
  simp only[comp,w01,w00,Prod.mk.injEq] at hc
  obtain⟨⟨ax,r1⟩,hx,⟨ay,r2⟩,hy,rfl,rfl⟩:=hc
  simp only[hasLbl,findLabel,ihx _ _ _ hx l,ihy _ _ _ hy l]
  cases findLabel x l<;>simp
 |cond c x y ihx ihy=>
  intro ann ac rest hc l
  simp only[comp,w01,w00,Prod.mk.injEq] at hc
  obtain⟨d,hd,⟨ax,r1⟩,hx,⟨ay,r2⟩,hy,rfl,rfl⟩:=hc
  rfl
 |block id x ihx=>
  intro ann ac rest hc l
  simp only[comp,w00,Prod.mk.injEq] at hc
  obtain⟨_,_,rfl,_⟩:=hc
  rfl
 |scope x ihx=>
  intro ann ac rest hc l
  simp only[comp,w00,Prod.mk.injEq] at hc
  obtain⟨_,_,rfl,_⟩:=hc
  rfl
 |loop x ihx=>
  intro ann ac rest hc l
  cases ann with
  |nil=>simp[comp] at hc
  |cons live ann'=>
   simp only[comp,w00,Prod.mk.injEq] at hc
   obtain⟨_,_,rfl,_⟩:=hc
   rfl
 |rangeFunc f ps x y ihx ihy=>
  intro ann ac rest hc l
  simp only[comp,w01,w00,Prod.mk.injEq] at hc
  obtain⟨⟨ax,r1⟩,hx,⟨ay,r2⟩,hy,rfl,rfl⟩:=hc
  simp only[findLabel]
  split
  ·split<;>rfl
  ·rfl
theorem T1 {g:G} {w:World}: ∀(ps:List Nat) (aS:List AV) (vs:List Value) (ρ:List AV) (tm:Array Value),Reps g w ρ tm.toList→Reps g w aS vs→
  Reps g w (setAll ρ ps aS) ((ps.zip vs).foldl (fun tmps (t,a)=>tmps.setIfInBounds t a) tm).toList
 | [],aS,vs,ρ,tm,h,_=>by simp[setAll];exact h
 |p::ps,[],vs,ρ,tm,h,ha=>by
  have:vs=[]:=w12 ha.1
  subst this;simp[setAll];exact h
 |p::ps,x::aS,vs,ρ,tm,h,ha=>by
  obtain⟨v,r,rfl,h1,h2⟩:=ha.head
  simp only[setAll,List.zip_cons_cons,List.foldl_cons]
  refine T1 ps aS r _ _ ?_ h2
  rw[Array.toList_setIfInBounds]
  exact h.set h1 p
theorem jP {m:Mem} {l k st n:Nat} (h:loopSt m l k st=some n):m.blk l k st=some [.int .i64 (.ofNat n)]:=by
 unfold loopSt at h
 split at h
 ·rename_i n' hb;injection h with h;subst h;exact hb
 ·cases h
theorem z0m {g:G} {w:World} {m:Mem} (I:Inv g w m) {l k st n L:Nat} (h:loopSt m l k st=some n) (hm:g.mp st=some L): ∃r,w.heap[L]? =some (.loop r)∧LoopSt n r:=by
 have hb:=jP h
 obtain⟨b,r,n',h1,h2,h3,h4,h5⟩:=I.loop (zg hb) hm rfl
 simp only at h1 h3
 rw[hm] at h1
 injection h1 with h1;subst h1
 have:n=n':=by injection h3 with h3 _;injection h3 with _ h3;injection h3
 subst this
 exact⟨r,h4,h5⟩
def OraOk (P:Program) (O:Ora):Prop:= ∀C Y,(∀args m r m',Y args m=some (r,m')→m.floor≤m.stk.length+1→YieldOk P C args m r m')→YAbove Y→
 ∀f args m r m',O.iter Y (some f) args m=some (r,m')→m.floor≤m.stk.length+1→CallOk P C f args m r m'
def loopCtx (C:Ctx) (st L:Nat) (ρ:List AV) (r0:Loop):Ctx where
 Z g w:=C.Z g w∧g.mp st=some L∧Reps g w ρ r0.tmps.toList∧ ∃s p,w.heap[L]? =some (.loop {r0 with state:=s,pending:=p})
 mono:=fun{g w g' w'} hx ⟨h1,h2,h3,s,p,h4⟩=>⟨C.mono hx h1,hx.mp _ _ h2,h3.monoW hx,by
  obtain⟨s',p',h5⟩:=hx.oth _ _ h4
  exact⟨s',p',h5⟩⟩
theorem z4F {RA RB:St→Option (Out×St)} (hA: ∀σ out σ',σ.m.floor≤σ.m.stk.length→RA σ=some (out,σ')→Above σ.m σ'.m) (hB: ∀σ out σ',σ.m.floor≤σ.m.stk.length→RB σ=some (out,σ')→Above σ.m σ'.m)
  {ps:List Nat} {ρ:List AV} {l k st:Nat}:YAbove (yieldV RA RB ps ρ l k st):=by
 intro args m r m' hy hf
 unfold yieldV at hy
 split at hy
 ·split at hy
  ·exact Vx hA hB hy hf
  ·cases hy
 ·cases hy
theorem z9F {C:Ctx} {x y:Code} {RA RB:St→Option (Out×St)} {L:Nat} (hA0: ∀σ out σ',σ.m.floor≤σ.m.stk.length→RA σ=some (out,σ')→Above σ.m σ'.m)
  (hA: ∀{σ:St} {out:Out} {σ':St} {g:G} {w:World} {a:Act} {Q:Exit→Act→World→Prop},C.Z g w→RA σ=some (out,σ')→σ.m.floor≤σ.m.stk.length→Reps g w σ.ρ a.tmps.toList→Inv g w σ.m→GoesD g w a σ'.ρ σ'.m (Q out.exit')→x.wpIn (FW (some L)) 0 P Q a w)
  (hB: ∀{σ:St} {out:Out} {σ':St} {g:G} {w:World} {a:Act} {Q:Exit→Act→World→Prop},C.Z g w→RB σ=some (out,σ')→σ.m.floor≤σ.m.stk.length→Reps g w σ.ρ a.tmps.toList→Inv g w σ.m→GoesD g w a σ'.ρ σ'.m (Q out.exit')→y.wpIn (FW (some L)) 0 P Q a w)
  {ρ:List AV} {l k st:Nat} {r0:Loop} (hr1:r0.assign=x) (hr2:r0.body=y) {args:List AV} {m m':Mem} {r:AV} (h:yieldV RA RB r0.params.toList ρ l k st args m=some (r,m')) (hf:m.floor≤m.stk.length+1):YieldOk P (loopCtx C st L ρ r0) args m r m':=by
 intro yv aS hargs g w v vs hZ I hv hvs
 subst hargs
 unfold yieldV at h
 split at h
 rotate_left
 ·cases h
 rename_i l' k' st' as' heq
 injection heq with e1 e2
 subst e1;subst e2
 split at h
 rotate_left
 ·cases h
 rename_i hc
 obtain⟨q1,q2,q3⟩:=hc
 replace q1:=q1.symm;replace q2:=q2.symm;replace q3:=q3.symm
 subst q1;subst q2;subst q3
 obtain⟨hz,hmp,hρ,s,p,hL⟩:=hZ
 have hvL:v= .func (.yield L) #[] #[]:=by
  cases hv with
  |yld _ _ _ b hb=>rw[hmp] at hb;injection hb with hb;subst hb;rfl
 unfold roundV at h
 split at h
 rotate_left
 ·cases h
 rename_i hcond
 obtain⟨hst0,hlen,hfl,hl⟩:=hcond
 obtain⟨r1,hr1',hs1⟩:=z0m I hst0 hmp
 rw[hL] at hr1'
 injection hr1' with hr1';injection hr1' with hr1';subst hr1'
 split at h
 rotate_left
 ·cases h
 rename_i σ1 hRA
 split at h
 rotate_left
 ·cases h
 rename_i hst1
 split at h
 rotate_left
 ·cases h
 rename_i out σ2 hRB
 split at h
 rotate_left
 ·cases h
 rename_i hst2
 split at h
 rotate_left
 ·cases h
 rename_i n hn
 have hvsl:vs.toArray.size=r0.params.size:=by
  have:=hvs.1;simp only[List.size_toArray];rw[this,hlen];simp
 refine⟨L,_,_,_,_,hvL,run_yield hL hvsl,?_⟩
 have hzip:(r0.params.zip vs.toArray).foldl (fun tmps (t,a)=>tmps.setIfInBounds t a) r0.tmps=(r0.params.toList.zip vs).foldl (fun tmps (t,a)=>tmps.setIfInBounds t a) r0.tmps:=by
  rw[←Array.foldl_toList];simp
 have hreps:=T1 r0.params.toList aS vs ρ r0.tmps hρ hvs
 rw[←hzip] at hreps
 have hflE:(enter m).floor≤(enter m).stk.length:=by simp only[enter];simp;exact hf
 have k1:=hA0 _ _ _ hflE hRA
 refine roundIn_of_wpIn (F:=Fence.wide) trivial ?_
 simp only[hr1,hr2]
 refine hA (σ:=⟨setAll ρ r0.params.toList aS,enter m⟩) hz hRA hflE hreps (z4t I) fun g1 a1 w1 ds1 hx1 I1 hR1 _ _=> ?_
 obtain⟨s1,p1,hL1⟩:=hx1.toExtW.oth _ _ hL
 have hmp1:=hx1.mp _ _ hmp
 obtain⟨r1,hr1',hs1'⟩:=z0m I1 hst1 hmp1
 rw[hL1] at hr1'
 injection hr1' with hr1';injection hr1' with hr1';subst hr1'
 have hready:s1= .ready:=by
  rcases hs1' with⟨_,h,_⟩|⟨h,_⟩|⟨h,_⟩|⟨_,h,_⟩
  ·exact h
  ·cases h
  ·cases h
  ·omega
 refine⟨_,run_beginRound hL1 hready,?_⟩
 obtain⟨e2,I2⟩:=I1.put_loop (n':=1) (s':= .busy) (p':=p1) (jP hst1) hmp1 hL1 (.inr (.inl ⟨rfl,.inl rfl⟩))
 refine hB (σ:=⟨σ1.ρ,σ1.m.put l k st [.int .i64 (.ofNat 1)]⟩) (C.mono e2.toExtW (C.mono hx1.toExtW hz)) hRB ?_ (hR1.mono e2) I2 fun g3 a3 w3 ds3 hx3 I3 hR3 _ _=> ?_
 ·have k2:=y6 σ1.m l k st [.int .i64 (.ofNat 1)] (by rw[k1.floor];exact hfl)
  simp only
  rw[k2.len,k2.floor,k1.len,k1.floor];exact hflE
 have hL2:(setMap w1 L (.loop {r0 with state:= .busy,pending:=p1})).heap[L]? =some (.loop {r0 with state:= .busy,pending:=p1}):=by
  have:L<w1.heap.size:=(w1d.1 hL1).1
  simp[setMap,this]
 obtain⟨s3,p3,hL3⟩:=hx3.toExtW.oth _ _ hL2
 have hmp3:=hx3.mp _ _ (e2.mp _ _ hmp1)
 have fin: ∀(jump:Option Code),LoopSt n {r0 with state:=(if jump.isNone then .ready else .done),pending:=jump}→(n==0)=jump.isNone→
   ∃v w',(Instr.endRound L jump).run P w3= .ok v w'∧ ∃v' g',Ending.returned v= .returned v'∧Ext g w g' w'∧Inv g' w' m'∧Rep g' w' r v':=by
  intro jump hst hj
  obtain⟨e4,I4⟩:=I3.put_loop (n':=n) (s':=if jump.isNone then .ready else .done) (p':=jump) (jP hst2) hmp3 hL3 hst
  obtain⟨I5,hr5⟩:=T6 I4 h (.bool (n==0))
  refine⟨_,_,run_endRound jump hL3,_,g3,rfl,((hx1.trans e2).trans hx3).trans e4,I5,?_⟩
  rw[hj] at hr5;exact hr5
 cases out with
 |normal=>
  injection hn with hn;subst hn
  exact fin none (.inl ⟨rfl,rfl,rfl⟩) rfl
 |ret=>
  injection hn with hn;subst hn
  exact fin (some .ret) (.inr (.inr (.inl ⟨rfl,rfl,rfl⟩))) rfl
 |exit id=>
  injection hn with hn;subst hn
  exact fin (some (.exit id)) (.inr (.inr (.inr ⟨id,rfl,rfl,rfl⟩))) (by simp)
 |goto l=>cases hn
theorem z8h {C:Ctx} {x y:Code} {RA RB:St→Option (Out×St)} (hO:OraOk P O) (hA0: ∀σ out σ',σ.m.floor≤σ.m.stk.length→RA σ=some (out,σ')→Above σ.m σ'.m) (hB0: ∀σ out σ',σ.m.floor≤σ.m.stk.length→RB σ=some (out,σ')→Above σ.m σ'.m)
  (hA: ∀(L:Nat) {σ:St} {out:Out} {σ':St} {g:G} {w:World} {a:Act} {Q:Exit→Act→World→Prop},C.Z g w→RA σ=some (out,σ')→σ.m.floor≤σ.m.stk.length→Reps g w σ.ρ a.tmps.toList→Inv g w σ.m→GoesD g w a σ'.ρ σ'.m (Q out.exit')→x.wpIn (FW (some L)) 0 P Q a w)
  (hB: ∀(L:Nat) {σ:St} {out:Out} {σ':St} {g:G} {w:World} {a:Act} {Q:Exit→Act→World→Prop},C.Z g w→RB σ=some (out,σ')→σ.m.floor≤σ.m.stk.length→Reps g w σ.ρ a.tmps.toList→Inv g w σ.m→GoesD g w a σ'.ρ σ'.m (Q out.exit')→y.wpIn (FW (some L)) 0 P Q a w)
  {f:Operand} {d:Opd} (hd:compOpd f=some d) {ps:Array Tmp} {N:Nat} {σ σ':St} {out:Out} {g:G} {w:World} {a:Act} {Q:Exit→Act→World→Prop} (hz:C.Z g w) (h:rangeEv O.iter RA RB (d.ev σ.ρ) ps.toList σ=some (out,σ'))
  (hf:σ.m.floor≤σ.m.stk.length) (hR:Reps g w σ.ρ a.tmps.toList) (I:Inv g w σ.m) (hK:GoesD g w a σ'.ρ σ'.m (Q out.exit')):(Code.rangeFunc f ps x y).wpIn (FW none) N P Q a w:=by
 unfold rangeEv at h
 split at h
 rotate_left
 ·cases h
 rename_i gi caps hfe
 split at h
 rotate_left
 ·cases h
 rename_i v2 m2 hcall
 split at h
 rotate_left
 ·cases h
 rename_i n hn
 simp only[w00,Prod.mk.injEq] at h
 obtain⟨o,hjump,rfl,rfl⟩:=h
 obtain⟨f1,c1,hv,k1,k2⟩:=z4x hR hd hfe
 have hf1:f1=[]:=w12 k1.1
 subst hf1
 refine wpIn_rangeFunc fun fn _=> ?_
 have hI1:=(I.alloc_sealed (.deferred (some []))).2
 have hx0:=(I.alloc_sealed (.deferred (some []))).1
 let r0:Loop:={state:= .ready,pending:=none,fn,tmps:=a.tmps,params:=ps,assign:=x,body:=y,defers:=w.heap.size}
 obtain⟨g1,hx1,I1,hmp1⟩:=hI1.alloc_loop r0 (.inl ⟨rfl,rfl,rfl⟩)
 have hsz:(w.alloc (.deferred (some []))).heap.size=w.heap.size+1:=by simp
 rw[hsz] at hmp1
 have hx01:=hx0.trans hx1
 have hL1:((w.alloc (.deferred (some []))).alloc (.loop r0)).heap[w.heap.size+1]? =some (.loop r0):=by
  have:=xW (w.alloc (.deferred (some []))) (.loop r0);rwa [hsz] at this
 have hD0:(w.alloc (.deferred (some []))).heap[w.heap.size]? =some (.deferred (some [])):=xW w _
 have hC:=hO (loopCtx C σ.m.nx (w.heap.size+1) σ.ρ r0) _ (fun args m r m' hy hfl=>z9F (P:=P) (C:=C) (r0:=r0) (L:=w.heap.size+1) (x:=x) (y:=y) hA0 (hA _) (hB _) rfl rfl hy hfl) (z4F hA0 hB0) gi _ _ _ _ hcall (by simp only;omega)
 obtain⟨⟨fn',hfn,hname,hbody⟩,hcalls⟩:=hC
 have hargs:Reps g1 ((w.alloc (.deferred (some []))).alloc (.loop r0)) (.yld σ.m.stk.length σ.m.cur.length σ.m.nx::caps) (.func (.yield (w.heap.size+1)) #[] #[]::c1):=
  Reps.cons (.yld _ _ _ _ hmp1) (k2.mono hx01)
 have hcall1:=hcalls g1 _ _ ⟨C.mono hx01.toExtW hz,hmp1,hR.mono hx01,.ready,none,hL1⟩ I1 hargs
 refine⟨w.heap.size+1,[markD w.heap.size],_,{target:= .fn (.func gi) c1.toArray,args:= #[.func (.yield (w.heap.size+1)) #[] #[]]},(w.alloc (.deferred (some []))).alloc (.loop r0),gi,(.func (.yield (w.heap.size+1)) #[] #[]::c1).toArray,_,run_enterLoop_outer _ _ _ _ _,?_,fun _ _=>trivial,?_,fun h=>by simp[FW,Fence.wide] at h,(z0R hcall1).mono ?_⟩
 ·simp only[resolve,rangeCall,hv]
  simp[Deferred.ofValue,Act.eval]
  try rfl
 ·have harr: #[Value.func (Fn.yield (w.heap.size+1)) #[] #[]]++c1.toArray=(Value.func (Fn.yield (w.heap.size+1)) #[] #[]::c1).toArray:=by simp
  simp only[invoke,callFunc,Sem.run_bind,Result.andThen_ok,run_program,hfn,hname,hbody,w08,if_false,harr]
  rfl
 rintro e w3 ⟨v,g3,rfl,hx3,I3,_⟩
 have hmp3:=hx3.mp _ _ hmp1
 obtain⟨r3,hr3,hs3⟩:=z0m I3 hn hmp3
 obtain⟨s3,p3,hL3⟩:=hx3.toExtW.oth _ _ hL1
 rw[hL3] at hr3
 injection hr3 with hr3;injection hr3 with hr3;subst hr3
 have hb3:({r0 with state:=s3,pending:=p3}:Loop).state≠ .busy:=by
  intro e
  have e:s3= .busy:=e
  subst e
  rcases hs3 with⟨_,h,_⟩|⟨h,_⟩|⟨_,h,_⟩|⟨_,_,h,_⟩
  ·cases h
  ·subst h;cases hjump
  ·cases h
  ·cases h
 obtain⟨e4,I4⟩:=I3.put_loop (n':=1) (s':= .exhausted) (p':=p3) (jP hn) hmp3 hL3 (.inr (.inl ⟨rfl,.inr rfl⟩))
 have hxx:=(hx01.trans hx3).trans e4
 have hfinal: ∀w4,w4=setMap w3 (w.heap.size+1) (.loop {r0 with state:= .exhausted,pending:=p3})→Q o.exit' {a with defers:=[markD w.heap.size]++a.defers} w4:=by
  rintro w4 rfl
  refine hK g3 {a with defers:=[markD w.heap.size]++a.defers} _ [markD w.heap.size] hxx I4 (hR.mono hxx) rfl ⟨[w.heap.size],rfl,by simp,fun D hD=> ?_⟩
  simp only[w2b] at hD
  subst hD
  refine⟨w0f _,?_⟩
  have h1:((w.alloc (.deferred (some []))).alloc (.loop r0)).heap[w.heap.size]? =some (.deferred (some [])):=hx1.toExtW.oth _ _ hD0
  exact e4.toExtW.oth _ _ (hx3.toExtW.oth _ _ h1)
 refine⟨p3,_,run_endLoop hL3 hb3,?_⟩
 rcases hs3 with⟨rfl,_,hp⟩|⟨rfl,_⟩|⟨rfl,_,hp⟩|⟨id,rfl,_,hp⟩
 ·have hp:p3=none:=hp
  have ho:o= .normal:=by injection hjump with h;exact h.symm
  subst ho
  have:=hfinal _ rfl
  subst hp
  exact this
 ·cases hjump
 ·have hp:p3=some .ret:=hp
  have ho:o= .ret:=by injection hjump with h;exact h.symm
  subst ho
  have:=hfinal _ rfl
  subst hp
  exact wpIn_ret this
 ·have hp:p3=some (.exit id):=hp
  have ho:o= .exit id:=by
   rw[show 3+id=id+3 by omega] at hjump
   injection hjump with h;exact h.symm
  subst ho
  have:=hfinal _ rfl
  subst hp
  exact wpIn_exit this
theorem zdx (hM:P.follows .mixedOrders=true) (hI:OraOk P O) (hA:OraAbove O) (n:Nat): ∀(c:Code) (ann:List (List Nat)) (ac:ACode) (rest:List (List Nat)),comp P c ann=some (ac,rest)→
  (∀{C:Ctx} {rr:Option Nat} {N:Nat},OracleOk P C O.call→(rr=none∨noRange ac=true)→ ∀(σ:St) (out:Out) (σ':St) (g:G) (w:World) (a:Act) (Q:Exit→Act→World→Prop),C.Z g w→ev O n ac σ=some (out,σ')→σ.m.floor≤σ.m.stk.length→Reps g w σ.ρ a.tmps.toList→Inv g w σ.m→
   GoesD g w a σ'.ρ σ'.m (Q out.exit')→c.wpIn (FW rr) N P Q a w)∧
  (∀{C:Ctx} {rr:Option Nat} {N:Nat},OracleOk P C O.call→(rr=none∨noRange ac=true)→ ∀(l:Nat) (cl:Code),findLabel c l=some cl→ ∀(σ:St) (out:Out) (σ':St) (g:G) (w:World) (a:Act) (Q:Exit→Act→World→Prop),C.Z g w→evF O n ac l σ=some (out,σ')→σ.m.floor≤σ.m.stk.length→Reps g w σ.ρ a.tmps.toList→Inv g w σ.m→
   GoesD g w a σ'.ρ σ'.m (Q out.exit')→cl.wpIn (FW rr) N P Q a w):=by
 intro c
 induction c with
 |skip=>
  intro ann ac rest hc
  simp[comp] at hc
  obtain⟨rfl,rfl⟩:=hc
  refine⟨?_,fun _ _ l cl h=>by simp[findLabel] at h⟩
  intro C rr N hO _ σ out σ' g w a Q hz he _ hR I hK
  simp[ev] at he
  obtain⟨rfl,rfl⟩:=he
  exact wpIn_skip (hK.goes g a w (Ext.refl g w) I hR rfl)
 |ret=>
  intro ann ac rest hc
  simp[comp] at hc
  obtain⟨rfl,rfl⟩:=hc
  refine⟨?_,fun _ _ l cl h=>by simp[findLabel] at h⟩
  intro C rr N hO _ σ out σ' g w a Q hz he _ hR I hK
  simp[ev] at he
  obtain⟨rfl,rfl⟩:=he
  exact wpIn_ret (hK.goes g a w (Ext.refl g w) I hR rfl)
 |exit id=>
  intro ann ac rest hc
  simp[comp] at hc
  obtain⟨rfl,rfl⟩:=hc
  refine⟨?_,fun _ _ l cl h=>by simp[findLabel] at h⟩
  intro C rr N hO _ σ out σ' g w a Q hz he _ hR I hK
  simp[ev] at he
  obtain⟨rfl,rfl⟩:=he
  exact wpIn_exit (hK.goes g a w (Ext.refl g w) I hR rfl)
 |goto id=>
  intro ann ac rest hc
  simp[comp] at hc
  obtain⟨rfl,rfl⟩:=hc
  refine⟨?_,fun _ _ l cl h=>by simp[findLabel] at h⟩
  intro C rr N hO _ σ out σ' g w a Q hz he _ hR I hK
  simp[ev] at he
  obtain⟨rfl,rfl⟩:=he
  exact wpIn_goto (hK.goes g a w (Ext.refl g w) I hR rfl)
 |label id=>
  intro ann ac rest hc
  simp[comp] at hc
  obtain⟨rfl,rfl⟩:=hc
  refine⟨?_,?_⟩
  ·intro C rr N hO _ σ out σ' g w a Q hz he _ hR I hK
   simp[ev] at he
   obtain⟨rfl,rfl⟩:=he
   exact wpIn_label (hK.goes g a w (Ext.refl g w) I hR rfl)
  ·intro C rr N hO _ l cl h σ out σ' g w a Q hz he _ hR I hK
   simp[evF] at he
   obtain⟨rfl,rfl⟩:=he
   simp only[findLabel] at h
   split at h
   ·injection h with h;subst h
    exact wpIn_skip (hK.goes g a w (Ext.refl g w) I hR rfl)
   ·cases h
 |refuse why=>
  intro ann ac rest hc
  simp[comp] at hc
  obtain⟨rfl,rfl⟩:=hc
  refine⟨?_,fun _ _ l cl h=>by simp[findLabel] at h⟩
  intro C rr N hO _ σ out σ' g w a Q hz he
  simp[ev] at he
 |region id ops draw=>
  intro ann ac rest hc
  refine⟨?_,fun _ _ l cl h=>by simp[findLabel] at h⟩
  intro C rr N hO _ σ out σ' g w a Q hz he hf hR I hK
  cases draw with
  |false=>
   simp only[comp,Option.some.injEq,Prod.mk.injEq] at hc
   obtain⟨rfl,rfl⟩:=hc
   obtain⟨c,hc,he⟩:=z6K he
   simp only[w00] at hc
   obtain⟨l,hl,rfl⟩:=hc
   obtain⟨σ0,hfz,he⟩:=z9H he
   obtain⟨g1,x1,I1,r1⟩:=jS _ hfz I hR
   have kf:=jT _ hfz
   simp only[ev,w00,Prod.mk.injEq] at he
   obtain⟨σ1,h1,rfl,rfl⟩:=he
   exact wpIn_region_list (z4W hO hA.1 (C.mono x1.toExtW hz) hl (by rw[kf.floor,kf.len];exact hf) h1 r1 I1 (hK.step x1 (a1:=a) (d:=[]) rfl (Marks.nil _ _)).goes)
  |true=>
   simp only[comp,Option.some.injEq,Prod.mk.injEq] at hc
   obtain⟨rfl,rfl⟩:=hc
   obtain⟨c,hc,he⟩:=z6K he
   simp only[w00] at hc
   obtain⟨l,hl,rfl⟩:=hc
   simp only[ev,w00,Prod.mk.injEq] at he
   obtain⟨σ1,h1,rfl,rfl⟩:=he
   exact zcN hM hO hA.1 hl hf h1 hz hR I (fun g' a' w' hx hI hR' hd'=>hK.goes g' a' w' hx (Xf _ hI) hR' hd')
 |seq x y ihx ihy=>
  intro ann ac rest hc
  have hlx: ∀l,(∀ax,∀r1,comp P x ann=some (ax,r1)→hasLbl ax l=(findLabel x l).isSome):=fun l ax r1 h=>Tc x ann ax r1 h l
  simp only[comp,w01,w00,Prod.mk.injEq] at hc
  obtain⟨⟨ax,r1⟩,hx,⟨ay,r2⟩,hy,rfl,rfl⟩:=hc
  have hsplit: ∀{rr:Option Nat},(rr=none∨noRange (.seq ax ay)=true)→(rr=none∨noRange ax=true)∧(rr=none∨noRange ay=true):=by
   intro rr h
   rcases h with h|h
   ·exact⟨.inl h,.inl h⟩
   ·simp only[noRange,w03] at h
    exact⟨.inr h.1,.inr h.2⟩
  have two: ∀{C:Ctx} {rr:Option Nat} {N:Nat},OracleOk P C O.call→(rr=none∨noRange ay=true)→ ∀(z:Code) (r:Option (Out×St)) (σ:St) (out:Out) (σ':St) (g:G) (w:World) (a:Act) (Q:Exit→Act→World→Prop),C.Z g w→σ.m.floor≤σ.m.stk.length→
    (match r with|some (.normal,σ1)=>ev O n ay σ1|r=>r)=some (out,σ')→(∀out σ1,r=some (out,σ1)→Above σ.m σ1.m)→
    (∀out σ1 (Q:Exit→Act→World→Prop),r=some (out,σ1)→GoesD g w a σ1.ρ σ1.m (Q out.exit')→z.wpIn (FW rr) N P Q a w)→GoesD g w a σ'.ρ σ'.m (Q out.exit')→(Code.seq z y).wpIn (FW rr) N P Q a w:=by
   intro C rr N hO hr z r σ out σ' g w a Q hz hf he hab hz1 hK
   refine wpIn_seq ?_
   split at he
   ·rename_i σ1
    have k:=hab _ _ rfl
    refine hz1 _ _ _ rfl fun g1 a1 w1 d1 hx1 hI1 hR1 hd1 hm1=> ?_
    exact(ihy _ _ _ hy).1 hO hr σ1 out σ' g1 w1 a1 Q (C.mono hx1.toExtW hz) he (by rw[k.len,k.floor];exact hf) hR1 hI1 (hK.step hx1 hd1 hm1)
   ·rename_i hne
    refine hz1 _ _ _ he fun g1 a1 w1 d1 hx1 hI1 hR1 hd1 hm1=> ?_
    cases out with
    |normal=>exact absurd he (hne σ')
    |exit id=>exact hK g1 a1 w1 d1 hx1 hI1 hR1 hd1 hm1
    |ret=>exact hK g1 a1 w1 d1 hx1 hI1 hR1 hd1 hm1
    |goto l=>exact hK g1 a1 w1 d1 hx1 hI1 hR1 hd1 hm1
  refine⟨?_,?_⟩
  ·intro C rr N hO hr σ out σ' g w a Q hz he hf hR I hK
   obtain⟨hr1,hr2⟩:=hsplit hr
   simp only[ev] at he
   exact two hO hr2 x (ev O n ax σ) σ out σ' g w a Q hz hf he (fun o σ1 h=>ja hA ax σ o σ1 hf h) (fun o σ1 Q h hk=>(ihx _ _ _ hx).1 hO hr1 σ o σ1 g w a Q hz h hf hR I hk) hK
  ·intro C rr N hO hr l cl h σ out σ' g w a Q hz he hf hR I hK
   obtain⟨hr1,hr2⟩:=hsplit hr
   simp only[evF,hlx l _ _ hx] at he
   simp only[findLabel] at h
   cases hq:findLabel x l with
   |none=>
    rw[hq] at h he
    simp only[Option.isSome_none,w08,if_false] at he
    exact(ihy _ _ _ hy).2 hO hr2 l cl h σ out σ' g w a Q hz he hf hR I hK
   |some z=>
    rw[hq] at h he
    simp only[Option.isSome_some,if_true] at he
    injection h with h;subst h
    exact two hO hr2 z (evF O n ax l σ) σ out σ' g w a Q hz hf he (fun o σ1 h=>(Xh hA ax).2 l σ o σ1 hf h) (fun o σ1 Q h hk=>(ihx _ _ _ hx).2 hO hr1 l z hq σ o σ1 g w a Q hz h hf hR I hk) hK
 |cond c x y ihx ihy=>
  intro ann ac rest hc
  simp only[comp,w01,w00,Prod.mk.injEq] at hc
  obtain⟨d,hd,⟨ax,r1⟩,hx,⟨ay,r2⟩,hy,rfl,rfl⟩:=hc
  refine⟨?_,fun _ _ l cl h=>by simp[findLabel] at h⟩
  intro C rr N hO hr σ out σ' g w a Q hz he hf hR I hK
  have hr1:rr=none∨noRange ax=true:=hr.imp id fun h=>by simp only[noRange,w03] at h;exact h.1
  have hr2:rr=none∨noRange ay=true:=hr.imp id fun h=>by simp only[noRange,w03] at h;exact h.2
  simp only[ev] at he
  have h1:=z7 hR hd
  split at he
  ·rename_i t ht
   rw[ht] at h1
   refine wpIn_cond h1.inv_bool ?_
   split at he
   ·rename_i htt
    rw[if_pos htt]
    exact(ihx _ _ _ hx).1 hO hr1 σ out σ' g w a Q hz he hf hR I hK
   ·rename_i htt
    rw[if_neg htt]
    exact(ihy _ _ _ hy).1 hO hr2 σ out σ' g w a Q hz he hf hR I hK
  ·cases he
 |block id x ihx=>
  intro ann ac rest hc
  simp only[comp,w00,Prod.mk.injEq] at hc
  obtain⟨⟨ax,r1⟩,hx,rfl,rfl⟩:=hc
  refine⟨?_,fun _ _ l cl h=>by simp[findLabel] at h⟩
  intro C rr N hO hr σ out σ' g w a Q hz he hf hR I hK
  simp only[ev] at he
  refine wpIn_block ?_
  split at he
  ·rename_i i σ1 h1
   refine(ihx _ _ _ hx).1 hO hr σ (.exit i) σ1 g w a _ hz h1 hf hR I fun g1 a1 w1 d1 hx1 hI1 hR1 hd1 hm1=> ?_
   simp only[Out.exit',Exit.inBlock]
   split at he
   ·rename_i hi
    injection he with he
    injection he with e1 e2
    subst e1;subst e2
    rw[if_pos hi]
    exact hK g1 a1 w1 d1 hx1 hI1 hR1 hd1 hm1
   ·rename_i hi
    injection he with he
    injection he with e1 e2
    subst e1;subst e2
    rw[if_neg hi]
    exact hK g1 a1 w1 d1 hx1 hI1 hR1 hd1 hm1
  ·rename_i hne
   refine(ihx _ _ _ hx).1 hO hr σ out σ' g w a _ hz he hf hR I fun g1 a1 w1 d1 hx1 hI1 hR1 hd1 hm1=> ?_
   cases out with
   |normal=>exact hK g1 a1 w1 d1 hx1 hI1 hR1 hd1 hm1
   |exit i=>exact absurd he (hne i σ')
   |ret=>exact hK g1 a1 w1 d1 hx1 hI1 hR1 hd1 hm1
   |goto l=>exact hK g1 a1 w1 d1 hx1 hI1 hR1 hd1 hm1
 |loop x ihx=>
  intro ann ac rest hc
  refine⟨?_,fun _ _ l cl h=>by simp[findLabel] at h⟩
  intro C rr N hO hr σ out σ' g w a Q hz he hf hR I hK
  cases ann with
  |nil=>simp[comp] at hc
  |cons live ann'=>
   simp only[comp,w00,Prod.mk.injEq] at hc
   obtain⟨⟨ax,r1⟩,hx,rfl,rfl⟩:=hc
   simp only[ev] at he
   refine Tv (fun k a1 w1=> ∃σ1 g1 d1,iter (ev O n ax) (heads live σ.m.cur.length) k σ1=some (out,σ')∧σ1.m.floor≤σ1.m.stk.length∧Ext g w g1 w1∧Inv g1 w1 σ1.m∧Reps g1 w1 σ1.ρ a1.tmps.toList∧a1.defers=d1++a.defers∧Marks w d1 w1) ?_ (n:=n)
    ⟨σ,g,[],he,hf,Ext.refl g w,I,hR,rfl,Marks.nil _ _⟩
   rintro k a1 w1 ⟨σ1,g1,d1,hit,hf1,hx1,hI1,hR1,hd1,hm1⟩
   cases k with
   |zero=>simp[iter] at hit
   |succ k=>
    simp only[iter] at hit
    have k0:=Tq live σ.m.cur.length σ1 hf1
    have hf0:(heads live σ.m.cur.length σ1).m.floor≤(heads live σ.m.cur.length σ1).m.stk.length:=by rw[k0.len,k0.floor];exact hf1
    split at hit
    ·rename_i σ2 h2
     have k1:=ja hA ax _ _ _ hf0 h2
     refine(ihx _ _ _ hx).1 hO hr (heads live σ.m.cur.length σ1) .normal σ2 g1 w1 a1 _ (C.mono hx1.toExtW hz) h2 hf0 (z0C hR1) (z4g hI1) fun g2 a2 w2 d2 hx2 hI2 hR2 hd2 hm2=> ?_
     exact⟨k,Nat.lt_succ_self k,σ2,g2,d2++d1,hit,by rw[k1.len,k1.floor];exact hf0,hx1.trans hx2,hI2,hR2,by rw[hd2,hd1,w0c],hm1.trans hx2.toExtW hx1.toExtW.size hm2⟩
    ·rename_i hne
     refine(ihx _ _ _ hx).1 hO hr (heads live σ.m.cur.length σ1) out σ' g1 w1 a1 _ (C.mono hx1.toExtW hz) hit hf0 (z0C hR1) (z4g hI1) fun g2 a2 w2 d2 hx2 hI2 hR2 hd2 hm2=> ?_
     have fin:=(hK.step hx1 hd1 hm1) g2 a2 w2 d2 hx2 hI2 hR2 hd2 hm2
     cases out with
     |normal=>exact absurd hit (hne σ')
     |exit i=>exact fin
     |ret=>exact fin
     |goto l=>exact fin
 |scope x ihx=>
  intro ann ac rest hc
  have hl: ∀ax r1,comp P x ann=some (ax,r1)→ ∀l,hasLbl ax l=(findLabel x l).isSome:=fun ax r1 h l=>Tc x ann ax r1 h l
  simp only[comp,w00,Prod.mk.injEq] at hc
  obtain⟨⟨ax,r1⟩,hx,rfl,rfl⟩:=hc
  refine⟨?_,fun _ _ l cl h=>by simp[findLabel] at h⟩
  intro C rr N hO hr σ out σ' g w a Q hz he hf hR I hK
  simp only[ev] at he
  refine Uj (fun k s a1 w1=> ∃σ1 g1 d1,scopeIt (ev O n ax) (evF O n ax) (hasLbl ax) k s σ1=some (out,σ')∧σ1.m.floor≤σ1.m.stk.length∧Ext g w g1 w1∧Inv g1 w1 σ1.m∧Reps g1 w1 σ1.ρ a1.tmps.toList∧a1.defers=d1++a.defers∧Marks w d1 w1) ?_ (n:=n)
   ⟨σ,g,[],he,hf,Ext.refl g w,I,hR,rfl,Marks.nil _ _⟩
  rintro k s a1 w1 ⟨σ1,g1,d1,hit,hf1,hx1,hI1,hR1,hd1,hm1⟩ z hzc
  cases k with
  |zero=>simp[scopeIt] at hit
  |succ k=>
   simp only[scopeIt] at hit
   have one: ∀o σ2 (Q:Exit→Act→World→Prop),(match s with|none=>ev O n ax σ1|some l=>evF O n ax l σ1)=some (o,σ2)→GoesD g1 w1 a1 σ2.ρ σ2.m (Q o.exit')→z.wpIn (FW rr) N P Q a1 w1:=by
    intro o σ2 Q h hk
    cases s with
    |none=>subst hzc;exact(ihx _ _ _ hx).1 hO hr σ1 o σ2 g1 w1 a1 Q (C.mono hx1.toExtW hz) h hf1 hR1 hI1 hk
    |some l=>exact(ihx _ _ _ hx).2 hO hr l z hzc σ1 o σ2 g1 w1 a1 Q (C.mono hx1.toExtW hz) h hf1 hR1 hI1 hk
   have ab: ∀o σ2,(match s with|none=>ev O n ax σ1|some l=>evF O n ax l σ1)=some (o,σ2)→Above σ1.m σ2.m:=by
    intro o σ2 h
    cases s with
    |none=>exact(Xh hA ax).1 _ _ _ hf1 h
    |some l=>exact(Xh hA ax).2 _ _ _ _ hf1 h
   split at hit
   ·rename_i l σ2 h2
    have k1:=ab _ _ h2
    refine one _ _ _ h2 fun g2 a2 w2 d2 hx2 hI2 hR2 hd2 hm2=> ?_
    simp only[Out.exit']
    rw[←hl ax r1 hx l]
    split at hit
    ·rename_i hh
     rw[if_pos hh]
     exact⟨k,Nat.lt_succ_self k,σ2,g2,d2++d1,hit,by rw[k1.len,k1.floor];exact hf1,hx1.trans hx2,hI2,hR2,by rw[hd2,hd1,w0c],hm1.trans hx2.toExtW hx1.toExtW.size hm2⟩
    ·rename_i hh
     rw[if_neg hh]
     injection hit with hit
     injection hit with e1 e2
     subst e1;subst e2
     exact(hK.step hx1 hd1 hm1) g2 a2 w2 d2 hx2 hI2 hR2 hd2 hm2
   ·rename_i hne
    refine one _ _ _ hit fun g2 a2 w2 d2 hx2 hI2 hR2 hd2 hm2=> ?_
    have fin:=(hK.step hx1 hd1 hm1) g2 a2 w2 d2 hx2 hI2 hR2 hd2 hm2
    cases out with
    |normal=>exact fin
    |exit i=>exact fin
    |ret=>exact fin
    |goto l=>exact absurd hit (hne l σ')
 |rangeFunc f ps x y ihx ihy=>
  intro ann ac rest hc
  simp only[comp,w01,w00,Prod.mk.injEq] at hc
  obtain⟨⟨ax,r1⟩,hx,⟨ay,r2⟩,hy,rfl,rfl⟩:=hc
  refine⟨?_,fun _ _ l cl h=>by simp[findLabel] at h⟩
  intro C rr N hO hr σ out σ' g w a Q hz he hf hR I hK
  split at he
  rotate_left
  ·simp[ev] at he
  rename_i d hd
  split at he
  rotate_left
  ·simp[ev] at he
  rename_i hnr
  simp only[w03] at hnr
  have hrr:rr=none:=by
   rcases hr with h|h
   ·exact h
   ·rw[hd] at h
    simp only[hnr.1,hnr.2,Bool.and_self,if_true,noRange] at h
    cases h
  subst hrr
  simp only[ev] at he
  exact z8h (C:=C) hI (fun σ o σ' hf h=>ja hA ax σ o σ' hf h) (fun σ o σ' hf h=>ja hA ay σ o σ' hf h)
   (fun L {σ out σ' g w a Q} hz h hf hR I hk=>(ihx _ _ _ hx).1 hO (.inr hnr.1) σ out σ' g w a Q hz h hf hR I hk)
   (fun L {σ out σ' g w a Q} hz h hf hR I hk=>(ihy _ _ _ hy).1 hO (.inr hnr.2) σ out σ' g w a Q hz h hf hR I hk) hd hz he hf hR I hK
end
theorem QF {g:G} {w w':World} {m:Mem} (I:Inv g w m) (hb:Below w.heap.size w w'):Ext g w g w'∧Inv g w' m:=by
 have hc: ∀b o v,w.cell? ⟨b,o,none⟩=some v→w'.cell? ⟨b,o,none⟩=some v:=fun b o v h=>by
  have:b<w.heap.size:=World.block_lt_of_cell? _ _ h
  rw[hb.cell (p:=⟨b,o,none⟩) this];exact h
 have e:Ext g w g w':=⟨⟨fun _ _ h=>h,fun _ _ h=>h,fun b o v h1 h2=>⟨hc b o v h1,h2⟩,rfl,fun _ _ h=>h,hb.mono I.hbase,fun b ob h=>by rw[hb.block b (w1d.1 h).1,h];exact OthKept.refl ob⟩,rfl⟩
 have hh: ∀{x b p q},Held g w x b p q→Held g w' x b p q:=fun{x b p q} h j h1 h2=>by
  obtain⟨k1,k2,k3⟩:=h j h1 h2
  have hlt:b<w.heap.size:=(I.ownb b j x k1).2
  obtain⟨v,hv⟩:=w39.1 k3
  exact⟨k1,by rw[hb.frozen (p:=⟨b,j,none⟩) hlt];exact k2,by rw[hc b j v hv];rfl⟩
 refine⟨e,⟨fun bl h hrs=> ?_,I.nd,I.stlt,I.tklt,fun t h=> ?_,fun b o x h=> ?_,Nat.le_trans I.hbase hb.size,I.lnd,I.rsv,I.mpk⟩⟩
 ·rcases I.blk bl h hrs with⟨b,o,q,k1,k2,k3,vs,k4,k5⟩|⟨b,ps,es,clock,k1,k2,k3,k4,k5⟩|⟨b,r,n,k1,k2,k3,k4,k5⟩
  ·exact .inl ⟨b,o,q,k1,k2,hh k3,vs,k4.mono e,fun j v h=>hc _ _ _ (k5 j v h)⟩
  ·refine .inr (.inl ⟨b,ps,es,clock,k1,k2,k3,?_,k5⟩)
   rw[hb.block b (I.ownb b 0 _ (k2 0)).2];exact k4
  ·refine .inr (.inr ⟨b,r,n,k1,k2,k3,?_,k5⟩)
   rw[hb.block b (I.ownb b 0 _ (k2 0)).2];exact k4
 ·obtain⟨b,p,q,k1,k2⟩:=I.live t h
  exact⟨b,p,q,k1,hh k2⟩
 ·obtain⟨k1,k2⟩:=I.ownb b o x h
  exact⟨k1,Nat.lt_of_lt_of_le k2 hb.size⟩
def Known (P:Program) (f:Nat) (b:Bool):Prop:=
 (∃fn,P.funcs[f]? =some fn∧(fn.name== "runtime.NumGoroutine")=false∧fn.body.isNone=false)∧
 ∀w,Calls P f #[] w fun e w'=>e= .returned (.bool b)∧Below w.heap.size w w'
def constFn (b:Bool):AFunc:=⟨0,[.tmp 0],.const (.bool b)⟩
def TabOk (P:Program) (tab:Nat→Option AFunc):Prop:= ∀f afn,tab f=some afn→(∃fn ann,P.funcs[f]? =some fn∧compFn P fn ann=some afn)∨ ∃b,afn=constFn b∧Known P f b
theorem T7 (m:Mem) (b:Bool):leave m (enter m) (.bool b)=some (.bool b,m):=by
 simp[leave,enter,AV.refs,AV.toks,pushToks]
theorem z7u {O:Ora} {n:Nat} {b:Bool} {args:List AV} {m m':Mem} {r:AV} (h:evFn O n (constFn b) args m=some (r,m')):args=[]∧r= .bool b∧m'=m:=by
 cases args with
 |cons x l=>simp[evFn,constFn,ev] at h
 |nil=>
  simp only[evFn,constFn,ev,List.length_nil,Nat.sub_self,List.replicate_zero,w16,evRess,evRes,w19,w04,w02,w35,w1c,packRes] at h
  rw[T7] at h
  injection h with h;injection h with h1 h2
  exact⟨rfl,h1.symm,h2.symm⟩
theorem z0o {P:Program} {C:Ctx} {f:Nat} {b:Bool} (h:Known P f b) (m:Mem):CallOk P C f [] m (.bool b) m:=by
 refine⟨h.1,fun g w vs _ I hA=> ?_⟩
 obtain rfl:vs=[]:=w12 hA.1
 refine(h.2 w).mono fun e w' ⟨he,hb⟩=> ?_
 obtain⟨k1,k2⟩:=QF I hb
 exact⟨.bool b,g,he,k1,k2,.bool b⟩
theorem Va {O:Ora} (hA:OraAbove O) {n:Nat} {fn:AFunc} {args:List AV} {m m':Mem} {r:AV} (h:evFn O n fn args m=some (r,m')) (hf:m.floor≤m.stk.length+1):Above m m':=by
 unfold evFn at h
 split at h
 ·cases h
 ·cases h
 ·rename_i out σ hne hne2 he
  simp only[w01] at h
  obtain⟨vs,_,h⟩:=h
  have k:=ja hA fn.body _ _ _ (by simp only[enter];simp;exact hf) he
  have hl:=k.len
  simp only[enter,w14,w24,List.length_nil,w20] at hl
  exact T8 hl hf (fun l i st cs hl hb=>k.blk l i st cs hl (Tl m hf l i st cs hl hb)) k.nx h
 ·cases h
theorem tN {O:Oracle} {Y:YH} (hO:OracleAbove O) (hY:YAbove Y):OracleAbove (withY O Y):=by
 intro c args m r m' h hf
 unfold withY at h
 cases c with
 |some f=>exact hO _ _ _ _ _ h hf
 |none=>exact hY _ _ _ _ h hf
theorem xH {tab:Nat→Option AFunc}: ∀n,OraAbove (callB tab n)
 |0=>⟨fun c args m r m' h=>by simp[callB] at h,fun Y hY c args m r m' h=>by simp[callB] at h⟩
 |n+1=>by
  refine⟨fun c args m r m' h hf=> ?_,fun Y hY c args m r m' h hf=> ?_⟩
  ·simp only[callB] at h
   split at h
   ·split at h
    ·exact Va (xH n) h hf
    ·cases h
   ·cases h
  ·simp only[callB] at h
   split at h
   ·split at h
    ·exact Va (O:=⟨withY (callB tab n).call Y,(callB tab n).iter⟩) ⟨tN (xH n).1 hY,(xH n).2⟩ h hf
    ·cases h
   ·cases h
section
variable {P : Program}
def oneRes (tmps:Array Value):ResultVar→Sem Value
 | .tmp t=>pure (tmps.getD t Go.undef)
 | .cell ad t=>do loadVar t (←asAddr (tmps.getD ad Go.undef))
theorem QG (fn:Func) (tmps:Array Value):results fn tmps=(fn.results.mapM (oneRes tmps))>>=fun vs=>pure (if h:vs.size=1 then vs[0] else .tuple vs):=by
 unfold results
 congr 1
theorem Ye {g:G} {w:World} {σ:St} {a:Act} (hR:Reps g w σ.ρ a.tmps.toList) (I:Inv g w σ.m): ∀{l:List ResultVar} {al:List ARes} {vs:List AV},compRes P l=some al→evRess σ al=some vs→
  ∃us:List Value,(l.mapM (oneRes a.tmps)).run P w= .ok us w∧Reps g w vs us
 | [],al,vs,hc,he=>by
  simp[compRes] at hc;subst hc
  simp[evRess] at he;subst he
  exact⟨[],rfl,Reps.nil g w⟩
 | .tmp t::l,al,vs,hc,he=>by
  simp only[compRes,w00] at hc
  obtain⟨al',h1,rfl⟩:=hc
  simp only[evRess,evRes,w01,w00,Option.some.injEq] at he
  obtain⟨v,rfl,vs',h2,rfl⟩:=he
  obtain⟨us,k1,k2⟩:=Ye hR I h1 h2
  refine⟨a.tmps.getD t Go.undef::us,?_,Reps.cons (jR hR t) k2⟩
  rw[List.mapM_cons]
  simp only[oneRes,Sem.run_bind,Sem.run_pure,Result.andThen_ok,k1]
 | .cell ad t::l,al,vs,hc,he=>by
  simp only[compRes] at hc
  split at hc
  ·rename_i b n al' hb hn h1
   split at hc
   ·injection hc with hc;subst hc
    simp only[evRess,evRes,w01,w00] at he
    obtain⟨v,⟨cs,hcs,htk⟩,vs',h2,rfl⟩:=he
    obtain⟨us,k1,k2⟩:=Ye hR I h1 h2
    obtain⟨u,k3,k4⟩:=Wy (P:=P) I (jR hR ad) hb hn hcs htk
    obtain⟨bb,oo,us',hv,_,_⟩:=z7D I (jR hR ad) hcs
    refine⟨u::us,?_,Reps.cons k4 k2⟩
    rw[hv] at k3
    have k5:(loadVar t ⟨bb,oo,none⟩).run P w= .ok u w:=by simpa [Instr.loadAt,Instr.sureAddr] using k3
    rw[List.mapM_cons]
    simp only[oneRes,Sem.run_bind,Sem.run_pure,Result.andThen_ok,hv,asAddr,k5,k1]
   ·cases hc
  ·cases hc
theorem z9C {w:World} {D:Nat} {x:Option (List Deferred)} (hD:w.heap[D]? =some (.deferred x)) (b j:Nat):(setMap w D (.deferred none)).cell? ⟨b,j,none⟩=w.cell? ⟨b,j,none⟩:=by
 by_cases h:b=D
 ·subst h
  have hlt:b<w.heap.size:=(w1d.1 hD).1
  have h1:(setMap w b (.deferred none)).heap[b]? =some (.deferred none):=by simp[setMap,hlt]
  unfold World.cell?
  simp only[h1,hD]
 ·exact uY _ _ _ h j
theorem z6u {w:World} {D:Nat} {x:Option (List Deferred)} (hD:w.heap[D]? =some (.deferred x)) (b j:Nat):(setMap w D (.deferred none)).frozen? ⟨b,j,none⟩=w.frozen? ⟨b,j,none⟩:=by
 by_cases h:b=D
 ·subst h
  have hlt:b<w.heap.size:=(w1d.1 hD).1
  have h1:(setMap w b (.deferred none)).heap[b]? =some (.deferred none):=by simp[setMap,hlt]
  unfold World.frozen?
  simp only[h1,hD]
 ·exact jU _ _ _ h j
theorem zbZ {g0:G} {w0:World} {m0:Mem} (I0:Inv g0 w0 m0) {g:G} {w:World} {m:Mem} (hx:Ext g0 w0 g w) (I:Inv g w m) {D:Nat} {x:Option (List Deferred)} (hD:w.heap[D]? =some (.deferred x)) (hs:w0.heap.size≤D):
  Ext g0 w0 g (setMap w D (.deferred none))∧Inv g (setMap w D (.deferred none)) m∧ ∀ρ vs,Reps g w ρ vs→Reps g (setMap w D (.deferred none)) ρ vs:=by
 have hc:=z9C hD
 have hfz:=z6u hD
 have eV:ExtV g w g (setMap w D (.deferred none)):=⟨fun _ _ h=>h,fun _ _ h=>h,fun b o v h1 h2=>⟨by rw[hc];exact h1,h2⟩,fun _ _ h=>h⟩
 have hoth: ∀{b:Nat} {ob:Obj},w.heap[b]? =some ob→b≠D→(setMap w D (.deferred none)).heap[b]? =some ob:=fun{b ob} h hne=>by rw[zu _ _ _ hne];exact h
 have hh: ∀{y b p q},Held g w y b p q→Held g (setMap w D (.deferred none)) y b p q:=fun{y b p q} h j h1 h2=>by
  obtain⟨k1,k2,k3⟩:=h j h1 h2
  exact⟨k1,by rw[hfz];exact k2,by rw[hc];exact k3⟩
 have hne: ∀{b:Nat} {ob:Obj},w.heap[b]? =some ob→(∀d,ob≠ .deferred d)→b≠D:=fun{b ob} h hn e=>by subst e;rw[hD] at h;injection h with h;exact hn _ h.symm
 refine⟨⟨⟨hx.bt,hx.tk,fun b o v h1 h2=> ?_,hx.base,hx.mp,?_,fun b ob h=> ?_⟩,hx.rs⟩,⟨fun bl h hrs=> ?_,I.nd,I.stlt,I.tklt,fun t h=> ?_,fun b o y h=> ?_,?_,I.lnd,I.rsv,I.mpk⟩,fun ρ vs h=>⟨h.1,fun j c v a b=>(h.2 j c v a b).monoV eV⟩⟩
 ·have:=hx.seal_ b o v h1 h2
  exact⟨by rw[hc];exact this.1,this.2⟩
 ·have hb:g0.base≤D:=Nat.le_trans I0.hbase hs
  exact hx.below.trans ⟨rfl,rfl,rfl,by simp[setMap],fun q hq=>zu _ _ _ (by omega)⟩
 ·have hlt:b<w0.heap.size:=(w1d.1 h).1
  rw[zu _ _ _ (by omega)]
  exact hx.oth b ob h
 ·rcases I.blk bl h hrs with⟨b,o,q,k1,k2,k3,vs,k4,k5⟩|⟨b,ps,es,clock,k1,k2,k3,k4,k5⟩|⟨b,r,n,k1,k2,k3,k4,k5⟩
  ·exact .inl ⟨b,o,q,k1,k2,hh k3,vs,⟨k4.1,fun j c v a b=>(k4.2 j c v a b).monoV eV⟩,fun j v h=>by rw[hc];exact k5 j v h⟩
  ·exact .inr (.inl ⟨b,ps,es,clock,k1,k2,k3,hoth k4 (hne k4 (fun d e=>by cases e)),k5⟩)
  ·exact .inr (.inr ⟨b,r,n,k1,k2,k3,hoth k4 (hne k4 (fun d e=>by cases e)),k5⟩)
 ·obtain⟨b,p,q,k1,k2⟩:=I.live t h
  exact⟨b,p,q,k1,hh k2⟩
 ·have:=I.ownb b o y h
  exact⟨this.1,by simp[setMap];exact this.2⟩
 ·simp[setMap];exact I.hbase
theorem VN {F:Fence} {N:Nat} {fn:Func} {tmps:Array Value} {R:Ending→World→Prop} {g0:G} {w0:World} {m0:Mem} (I0:Inv g0 w0 m0): ∀(Ds:List Nat) {g:G} {w:World} {m:Mem},Ds.Nodup→(∀D∈Ds,w0.heap.size≤D∧w.heap[D]? =some (.deferred (some [])))→Ext g0 w0 g w→Inv g w m→
  (∀w',Ext g0 w0 g w'→Inv g w' m→(∀ρ vs,Reps g w ρ vs→Reps g w' ρ vs)→LeavesIn F N P fn tmps R [] .returning w')→LeavesInM F N P fn tmps R (Ds.map markD) .returning w
 | [],g,w,m,_,_,hx,I,h=>h w hx I (fun _ _ h=>h)
 |D::Ds,g,w,m,hn,hD,hx,I,h=>by
  obtain⟨h1,h2⟩:=hD D w13
  obtain⟨n1,n2⟩:=List.nodup_cons.1 hn
  obtain⟨e1,e2,e3⟩:=zbZ I0 hx I h2 h1
  refine⟨by simp,.inl ⟨D,_,rfl,run_takeDeferred h2,VN I0 Ds n2 (fun D' hD'=> ?_) e1 e2 (fun w' a b c=>h w' a b (fun ρ vs q=>c ρ vs (e3 ρ vs q)))⟩⟩
  obtain⟨q1,q2⟩:=hD D' (w11 _ hD')
  exact⟨q1,(zu _ _ _ (fun e:D'=D=>n1 (by rw[←e];exact hD'))).trans q2⟩
noncomputable def bodyV (O:Ora) (n:Nat) (fn:AFunc) (args:List AV) (m1:Mem) (fin:Mem→AV→Option (AV×Mem)):Option (AV×Mem):=
 match ev O n fn.body ⟨args++List.replicate (fn.ntmps-args.length) (.tup []),m1⟩ with
 |some (.exit _,_)=>none
 |some (.goto _,_)=>none
 |some (_,σ)=>(evRess σ fn.res).bind fun vs=>fin σ.m (packRes vs)
 |none=>none
theorem zd7 (hM:P.follows .mixedOrders=true) {C:Ctx} {O:Ora} (hO:OracleOk P C O.call) (hI:OraOk P O) (hA0:OraAbove O) {n f:Nat} {fn:Func} {ann:List (List Nat)} {afn:AFunc} (hfn:P.funcs[f]? =some fn) (hcomp:compFn P fn ann=some afn)
  {args:List AV} {m m1 m':Mem} {r:AV} {fin:Mem→AV→Option (AV×Mem)} (h:bodyV O n afn args m1 fin=some (r,m')) (hf:m1.floor≤m1.stk.length) (hE: ∀{g w},Inv g w m→Inv g w m1)
  (hL: ∀{g w m2 v u r' m3},Inv g w m2→fin m2 v=some (r',m3)→Rep g w v u→Inv g w m3∧Rep g w r' u):CallOk P C f args m r m':=by
 unfold compFn at hcomp
 split at hcomp
 ·rename_i c hbody
  split at hcomp
  ·rename_i b rest res hc hres
   split at hcomp
   ·cases hcomp
   ·rename_i hname
    injection hcomp with hcomp
    subst hcomp
    refine⟨⟨fn,hfn,by simpa using hname,by rw[hbody];rfl⟩,fun g w vs hz I hA=> ?_⟩
    unfold bodyV at h
    simp only at h
    have fin_: ∀(out:Out) (σ:St),(out= .normal∨out= .ret)→ev O n b ⟨args++List.replicate (fn.ntmps-args.length) (.tup []),m1⟩=some (out,σ)→((evRess σ res).bind fun vs=>fin σ.m (packRes vs))=some (r,m')→
      Calls P f vs.toArray w fun e w'=> ∃v g',e= .returned v∧Ext g w g' w'∧Inv g' w' m'∧Rep g' w' r v:=by
     intro out σ hout he hlv
     simp only[w01] at hlv
     obtain⟨rs,hrs,hlv⟩:=hlv
     refine z7A (rr:=none) (N:=0) (callsIn_of_wp_marks hfn hbody trivial ((zdx hM hI hA0 n c ann b rest hc).1 (rr:=none) (N:=0) hO (.inl rfl) _ out σ g w _ _ hz he hf ?_ (hE I) fun g1 a1 w1 ds hx1 hI1 hR1 hd1 hm1=> ?_))
     ·have hl:vs.length=args.length:=hA.1
      have:(vs.toArray++Array.replicate (fn.ntmps-vs.toArray.size) Go.undef).toList=vs++List.replicate (fn.ntmps-args.length) Go.undef:=by
       simp[hl]
      rw[this]
      refine hA.append ⟨by simp,fun j x v h1 h2=> ?_⟩
      have e1:=List.eq_of_mem_replicate (w2c h1)
      have e2:=List.eq_of_mem_replicate (w2c h2)
      subst e1;subst e2
      exact zS g w
     ·obtain⟨Ds,rfl,hnd,hDs⟩:=hm1
      have hdd:a1.defers=Ds.map markD:=by rw[hd1];simp
      have key:LeavesInM (FW none) 0 P fn a1.tmps (fun e w'=> ∃v g',e= .returned v∧Ext g w g' w'∧Inv g' w' m'∧Rep g' w' r v) a1.defers .returning w1:=by
       rw[hdd]
       refine VN I Ds hnd hDs hx1 hI1 fun w2 hx2 hI2 hRR=> ?_
       have hR2:=hRR _ _ hR1
       obtain⟨us,k1,k2⟩:=Ye (P:=P) hR2 hI2 hres hrs
       have hval: ∃v,(results fn a1.tmps).run P w2= .ok v w2∧Rep g1 w2 (packRes rs) v:=by
        have hm:(fn.results.mapM (oneRes a1.tmps)).run P w2= .ok us.toArray w2:=by
         rw[Array.mapM_eq_mapM_toList]
         simp only[Functor.map,Sem.run_bind',k1,Result.andThen_ok]
         rfl
        by_cases h1:us.length=1
        ·obtain⟨u,rfl⟩:=List.length_eq_one_iff.1 h1
         have hr1:rs.length=1:=by rw[←k2.1];rfl
         obtain⟨x,rfl⟩:=List.length_eq_one_iff.1 hr1
         refine⟨u,?_,k2.2 0 x u rfl rfl⟩
         rw[QG,Sem.run_bind,hm]
         rfl
        ·refine⟨.tuple us.toArray,?_,?_⟩
         ·rw[QG,Sem.run_bind,hm]
          simp only[Result.andThen_ok,List.size_toArray,h1,dif_neg,not_false_eq_true,Sem.run_pure]
         ·have:packRes rs= .tup rs:=by
           unfold packRes
           split
           ·rename_i x
            have:=k2.1
            exact absurd this h1
           ·rfl
          rw[this]
          exact k2.tup
       obtain⟨v,hv,hrep⟩:=hval
       obtain⟨hI3,hr3⟩:=hL hI2 hlv hrep
       exact⟨v,hv,v,g1,rfl,hx2,hI3,hr3⟩
      rcases hout with rfl|rfl
      ·exact key
      ·exact key
    split at h
    ·cases h
    ·cases h
    ·rename_i out σ hne hne2 he
     refine fin_ out σ ?_ he h
     cases out with
     |normal=>exact .inl rfl
     |ret=>exact .inr rfl
     |exit id=>exact absurd rfl (hne id)
     |goto l=>exact absurd rfl (hne2 l)
    ·cases h
  ·cases hcomp
 ·cases hcomp
theorem z9t (hM:P.follows .mixedOrders=true) {C:Ctx} {O:Ora} (hO:OracleOk P C O.call) (hI:OraOk P O) (hA0:OraAbove O) {n f:Nat} {fn:Func} {ann:List (List Nat)} {afn:AFunc} (hfn:P.funcs[f]? =some fn) (hcomp:compFn P fn ann=some afn)
  {args:List AV} {m m':Mem} {r:AV} (h:evFn O n afn args m=some (r,m')) (hf:m.floor≤m.stk.length+1):CallOk P C f args m r m':=
 zd7 hM hO hI hA0 hfn hcomp (m1:=enter m) (fin:=fun m2 v=>leave m m2 v) (by rw[←h];rfl) (by simp only[enter];simp;exact hf) z4t T6
theorem z6c {C:Ctx} {O:Oracle} {Y:YH} (hO: ∀C,OracleOk P C O) (hY: ∀args m r m',Y args m=some (r,m')→m.floor≤m.stk.length+1→YieldOk P C args m r m'):OracleOk P C (withY O Y):=by
 intro c args m r m' h hf
 unfold withY at h
 cases c with
 |some f=>exact hO C (some f) _ _ _ _ h hf
 |none=>exact hY _ _ _ _ h hf
theorem z7B (hM:P.follows .mixedOrders=true) {tab:Nat→Option AFunc} (hT:TabOk P tab): ∀n,(∀C,OracleOk P C (callB tab n).call)∧OraOk P (callB tab n)
 |0=>⟨fun C c args m r m' h=>by simp[callB] at h,fun C Y hY hYA f args m r m' h=>by simp[callB] at h⟩
 |n+1=>by
  have ih:=z7B hM hT n
  have one: ∀(C:Ctx) (O:Ora),OracleOk P C O.call→OraOk P O→OraAbove O→ ∀f afn args m r m',tab f=some afn→evFn O n afn args m=some (r,m')→m.floor≤m.stk.length+1→CallOk P C f args m r m':=by
   intro C O hO hI hA f afn args m r m' htab h hf
   rcases hT f afn htab with⟨fn,ann,hfn,hcomp⟩|⟨b,rfl,hk⟩
   ·exact z9t hM hO hI hA hfn hcomp h hf
   ·obtain⟨rfl,rfl,rfl⟩:=z7u h
    exact z0o hk m'
  refine⟨fun C c args m r m' h hf=> ?_,fun C Y hY hYA f args m r m' h hf=> ?_⟩
  ·simp only[callB] at h
   split at h
   ·split at h
    ·rename_i htab
     exact one C _ (ih.1 C) ih.2 (xH n) _ _ _ _ _ _ htab h hf
    ·cases h
   ·cases h
  ·simp only[callB] at h
   split at h
   ·rename_i htab
    exact one C ⟨withY (callB tab n).call Y,(callB tab n).iter⟩ (z6c ih.1 hY) ih.2 ⟨tN (xH n).1 hYA,(xH n).2⟩ _ _ _ _ _ _ htab h hf
   ·cases h
theorem zbE (hM:P.follows .mixedOrders=true) {tab:Nat→Option AFunc} (hT:TabOk P tab) (n:Nat) (C:Ctx):OracleOk P C (callN tab n):=(z7B hM hT n).1 C
end
end Go.Vs
end
section
namespace Go.Vs
def Le (O O':Oracle):Prop:= ∀f a m r,O f a m=some r→O' f a m=some r
theorem Le.refl (O:Oracle):Le O O:=fun _ _ _ _ h=>h
theorem zaj {O O':Oracle} (h:Le O O') {ρ:List AV} {m:Mem} {op:AOp} {r:AV×Mem} (he:evOp O ρ m op=some r):evOp O' ρ m op=some r:=by
 cases op<;>try exact he
 rename_i f args
 simp only[evOp,evCall] at he⊢
 split at he
 ·exact h _ _ _ _ he
 ·exact h _ _ _ _ he
 ·cases he
theorem xF {O O':Oracle} (h:Le O O') {o:AOper} {σ σ':St} (he:evOper O o σ=some σ'):evOper O' o σ=some σ':=by
 unfold evOper at he⊢
 split at he
 ·simp only[w00] at he⊢
  obtain⟨r,h1,h2⟩:=he
  exact⟨r,zaj h h1,h2⟩
 ·exact he
 ·cases he
theorem uX {O O':Oracle} (h:Le O O'): ∀{l:List AOper} {σ σ':St},evOps O l σ=some σ'→evOps O' l σ=some σ'
 | [],σ,σ',he=>he
 |o::l,σ,σ',he=>by
  simp only[evOps,w01] at he⊢
  obtain⟨σ1,h1,h2⟩:=he
  exact⟨σ1,xF h h1,uX h h2⟩
theorem yP {O O':Oracle} (h:Le O O') {m0:Mem}: ∀{l:List AOper} {ws:Watch} {σ σ':St},evDraw O m0 ws l σ=some σ'→evDraw O' m0 ws l σ=some σ'
 | [],ws,σ,σ',he=>he
 |o::l,ws,σ,σ',he=>by
  simp only[evDraw] at he⊢
  split at he
  ·split at he
   ·rename_i q hq;rw[xF h hq];exact yP h he
   ·cases he
  ·split at he
   ·split at he
    ·split at he
     ·rename_i q hq;rw[V9 (xF h (xd hq).1) (xd hq).2];exact yP h he
     ·cases he
    ·cases he
   ·split at he
    ·rename_i q hq;rw[xF h hq];exact yP h he
    ·cases he
theorem qY {f f':St→Option (Out×St)} {hd:St→St} (h: ∀σ r,f σ=some r→f' σ=some r): ∀{n n':Nat} {σ:St} {r:Out×St},n≤n'→iter f hd n σ=some r→iter f' hd n' σ=some r
 |0,n',σ,r,_,he=>by simp[iter] at he
 |n+1,0,σ,r,hn,he=>by omega
 |n+1,n'+1,σ,r,hn,he=>by
  simp only[iter] at he⊢
  split at he
  ·rename_i σ1 h1
   rw[h _ _ h1]
   exact qY h (by omega) he
  ·rename_i hne
   rw[h _ _ he]
   split
   ·rename_i σ1 h1;injection h1 with h1;rw[h1] at he;exact absurd he (hne σ1)
   ·rfl
def YLe (Y Y':YH):Prop:= ∀a m r,Y a m=some r→Y' a m=some r
structure OraLe (O O':Ora):Prop where
 call:Le O.call O'.call
 iter: ∀Y Y',YLe Y Y'→Le (O.iter Y) (O'.iter Y')
theorem z6B {RA RB RA' RB':St→Option (Out×St)} (hA: ∀σ r,RA σ=some r→RA' σ=some r) (hB: ∀σ r,RB σ=some r→RB' σ=some r) {ps:List Nat} {ρ:List AV} {l k st:Nat} {aS:List AV} {m:Mem} {r:AV×Mem}
  (h:roundV RA RB ps ρ l k st aS m=some r):roundV RA' RB' ps ρ l k st aS m=some r:=by
 unfold roundV at h⊢
 split at h
 ·rename_i hc
  rw[if_pos hc]
  split at h
  ·rename_i σ1 h1
   rw[hA _ _ h1]
   simp only
   split at h
   ·rename_i hs
    rw[if_pos hs]
    split at h
    ·rename_i out σ2 h2
     rw[hB _ _ h2]
     exact h
    ·cases h
   ·cases h
  ·cases h
 ·cases h
theorem z4O {I I':YH→Oracle} (hI: ∀Y Y',YLe Y Y'→Le (I Y) (I' Y')) {RA RB RA' RB':St→Option (Out×St)} (hA: ∀σ r,RA σ=some r→RA' σ=some r) (hB: ∀σ r,RB σ=some r→RB' σ=some r) {f:AV} {ps:List Nat} {σ:St} {r:Out×St}
  (h:rangeEv I RA RB f ps σ=some r):rangeEv I' RA' RB' f ps σ=some r:=by
 unfold rangeEv at h⊢
 split at h
 ·split at h
  ·rename_i v m2 h1
   rw[hI _ (yieldV RA' RB' ps σ.ρ σ.m.stk.length σ.m.cur.length σ.m.nx) (fun a m r hy=>by
    unfold yieldV at hy⊢
    split at hy
    ·split at hy
     ·rename_i hc
      rw[if_pos hc]
      exact z6B hA hB hy
     ·cases hy
    ·cases hy) _ _ _ _ h1]
   exact h
  ·cases h
 ·cases h
theorem Vv {run run':St→Option (Out×St)} {from_ from_':Nat→St→Option (Out×St)} {has:Nat→Bool} (h1: ∀σ r,run σ=some r→run' σ=some r) (h2: ∀l σ r,from_ l σ=some r→from_' l σ=some r):
  ∀{n n':Nat} {s:Option Nat} {σ:St} {r:Out×St},n≤n'→scopeIt run from_ has n s σ=some r→scopeIt run' from_' has n' s σ=some r
 |0,n',s,σ,r,_,he=>by simp[scopeIt] at he
 |n+1,0,s,σ,r,hn,he=>by omega
 |n+1,n'+1,s,σ,r,hn,he=>by
  have key: ∀x x':Option (Out×St),(∀r,x=some r→x'=some r)→(match x with|some (.goto l,σ')=>if has l then scopeIt run from_ has n (some l) σ' else some (.goto l,σ')|r=>r)=some r→
    (match x' with|some (.goto l,σ')=>if has l then scopeIt run' from_' has n' (some l) σ' else some (.goto l,σ')|r=>r)=some r:=by
   intro x x' one he
   split at he
   ·rename_i l σ1
    rw[one _ rfl]
    simp only
    split at he
    ·rename_i hl;rw[if_pos hl];exact Vv h1 h2 (by omega) he
    ·rename_i hl;rw[if_neg hl];exact he
   ·rename_i hne
    rw[one _ he]
    split
    ·rename_i l σ1 hq;injection hq with hq;rw[hq] at he;exact absurd he (hne l σ1)
    ·rfl
  simp only[scopeIt] at he⊢
  cases s with
  |none=>exact key _ _ (h1 σ) he
  |some l=>exact key _ _ (h2 l σ) he
theorem zbs {O O':Ora} (h:OraLe O O') {n n':Nat} (hn:n≤n'): ∀(c:ACode),(∀{σ:St} {r:Out×St},ev O n c σ=some r→ev O' n' c σ=some r)∧ ∀{l:Nat} {σ:St} {r:Out×St},evF O n c l σ=some r→evF O' n' c l σ=some r:=by
 intro c
 induction c with
 |bad=>exact⟨(by
   intro σ r he
   cases he),fun he=>by simp[evF] at he⟩
 |const v=>exact⟨(by
   intro σ r he
   exact he),fun he=>by simp[evF] at he⟩
 |skip=>exact⟨(by
   intro σ r he
   exact he),fun he=>by simp[evF] at he⟩
 |ret=>exact⟨(by
   intro σ r he
   exact he),fun he=>by simp[evF] at he⟩
 |exit id=>exact⟨(by
   intro σ r he
   exact he),fun he=>by simp[evF] at he⟩
 |ops l=>exact⟨(by
   intro σ r he
   simp only[ev,w00] at he⊢
   obtain⟨σ1,h1,h2⟩:=he
   exact⟨σ1,uX h.call h1,h2⟩),fun he=>by simp[evF] at he⟩
 |draw l=>exact⟨(by
   intro σ r he
   simp only[ev,w00] at he⊢
   obtain⟨σ1,h1,h2⟩:=he
   exact⟨σ1,yP h.call h1,h2⟩),fun he=>by simp[evF] at he⟩
 |seq a b iha ihb=>exact⟨(by
   intro σ r he
   simp only[ev] at he⊢
   split at he
   ·rename_i σ1 h1;rw[iha.1 h1];exact ihb.1 he
   ·rename_i hne
    rw[iha.1 he]
    split
    ·rename_i σ1 h1;injection h1 with h1;rw[h1] at he;exact absurd he (hne σ1)
    ·rfl),fun he=>by
   simp only[evF] at he⊢
   split at he
   ·rename_i hl
    rw[if_pos hl]
    split at he
    ·rename_i σ1 h1;rw[iha.2 h1];exact ihb.1 he
    ·rename_i hne
     rw[iha.2 he]
     split
     ·rename_i σ1 h1;injection h1 with h1;rw[h1] at he;exact absurd he (hne σ1)
     ·rfl
   ·rename_i hl;rw[if_neg hl];exact ihb.2 he⟩
 |cond c a b iha ihb=>exact⟨(by
   intro σ r he
   simp only[ev] at he⊢
   split at he
   ·split at he
    ·rename_i ht;rw[if_pos ht];exact iha.1 he
    ·rename_i ht;rw[if_neg ht];exact ihb.1 he
   ·cases he),fun he=>by simp[evF] at he⟩
 |block id a iha=>exact⟨(by
   intro σ r he
   simp only[ev] at he⊢
   split at he
   ·rename_i i σ1 h1;rw[iha.1 h1];exact he
   ·rename_i hne
    rw[iha.1 he]
    split
    ·rename_i i σ1 h1;injection h1 with h1;rw[h1] at he;exact absurd he (hne i σ1)
    ·rfl),fun he=>by simp[evF] at he⟩
 |loop live a iha=>exact⟨(by
   intro σ r he
   simp only[ev] at he⊢
   exact qY (fun σ r h=>iha.1 h) hn he),fun he=>by simp[evF] at he⟩
 |scope a iha=>exact⟨(by
   intro σ r he
   simp only[ev] at he⊢
   exact Vv (fun _ _ h=>iha.1 h) (fun _ _ _ h=>iha.2 h) hn he),fun he=>by simp[evF] at he⟩
 |label l=>exact⟨fun he=>he,fun he=>he⟩
 |goto l=>exact⟨fun he=>he,fun he=>by simp[evF] at he⟩
 |rangeF f ps a b iha ihb=>exact⟨(by
   intro σ r he
   simp only[ev] at he⊢
   exact z4O h.iter (fun _ _ h=>iha.1 h) (fun _ _ h=>ihb.1 h) he),fun he=>by simp[evF] at he⟩
 |frz ts=>exact⟨fun he=>he,fun he=>by simp[evF] at he⟩
theorem z5u {O O':Ora} (h:OraLe O O') {n n':Nat} (hn:n≤n') (c:ACode) {σ:St} {r:Out×St} (he:ev O n c σ=some r):ev O' n' c σ=some r:=(zbs h hn c).1 he
theorem UC {O O':Ora} (h:OraLe O O') {n n':Nat} (hn:n≤n') {fn:AFunc} {args:List AV} {m:Mem} {r:AV×Mem} (he:evFn O n fn args m=some r):evFn O' n' fn args m=some r:=by
 unfold evFn at he⊢
 split at he
 ·cases he
 ·cases he
 ·rename_i o σ hne hne2 h1
  rw[z5u h hn _ h1]
  cases o with
  |exit id=>exact absurd rfl (hne id)
  |goto l=>exact absurd rfl (hne2 l)
  |normal=>exact he
  |ret=>exact he
 ·cases he
theorem Qt {O O':Oracle} {Y Y':YH} (h:Le O O') (hy:YLe Y Y'):Le (withY O Y) (withY O' Y'):=by
 intro c a m r he
 unfold withY at he⊢
 cases c with
 |some f=>exact h _ _ _ _ he
 |none=>exact hy _ _ _ he
theorem z0U (tab:Nat→Option AFunc): ∀n,OraLe (callB tab n) (callB tab (n+1))
 |0=>⟨fun c a m r h=>by simp[callB] at h,fun Y Y' _ c a m r h=>by simp[callB] at h⟩
 |n+1=>by
  have ih:=z0U tab n
  refine⟨fun c a m r h=> ?_,fun Y Y' hy c a m r h=> ?_⟩
  ·rw[callB] at h⊢
   simp only at h⊢
   split at h
   ·split at h
    ·exact UC ih (Nat.le_succ n) h
    ·cases h
   ·cases h
  ·rw[callB] at h⊢
   simp only at h⊢
   split at h
   ·split at h
    ·exact UC (O:=⟨withY (callB tab n).call Y,(callB tab n).iter⟩) (O':=⟨withY (callB tab (n+1)).call Y',(callB tab (n+1)).iter⟩) ⟨Qt ih.call hy,ih.iter⟩ (Nat.le_succ n) h
    ·cases h
   ·cases h
theorem OraLe.trans {A B C:Ora} (h:OraLe A B) (k:OraLe B C):OraLe A C:=⟨fun c a m r q=>k.call _ _ _ _ (h.call _ _ _ _ q),fun Y Y' hy c a m r q=>k.iter _ _ (fun _ _ _ z=>z) _ _ _ _ (h.iter _ _ hy _ _ _ _ q)⟩
theorem z0V (tab:Nat→Option AFunc): ∀n,OraLe (callB tab n) (callB tab n)
 |0=>⟨Le.refl _,fun Y Y' _ c a m r h=>by simp[callB] at h⟩
 |n+1=>by
  have ih:=z0V tab n
  refine⟨Le.refl _,fun Y Y' hy c a m r h=> ?_⟩
  rw[callB] at h⊢
  simp only at h⊢
  split at h
  ·split at h
   ·exact UC (O:=⟨withY (callB tab n).call Y,(callB tab n).iter⟩) (O':=⟨withY (callB tab n).call Y',(callB tab n).iter⟩) ⟨Qt ih.call hy,ih.iter⟩ (w0f n) h
   ·cases h
  ·cases h
theorem z0W (tab:Nat→Option AFunc) {n n':Nat} (h:n≤n'):OraLe (callB tab n) (callB tab n'):=by
 induction h with
 |refl=>exact z0V tab n
 |step _ ih=>exact ih.trans (z0U tab _)
theorem YB (tab:Nat→Option AFunc) {n n':Nat} (h:n≤n'):Le (callN tab n) (callN tab n'):=(z0W tab h).call
noncomputable def lim {α:Type} (F:Nat→Option α):Option α:=open Classical in if h: ∃n r,F n=some r then F h.choose else none
theorem z5n {α:Type} {F:Nat→Option α} (hF: ∀n n' r,n≤n'→F n=some r→F n'=some r) {r:α}:lim F=some r↔ ∃n,F n=some r:=by
 unfold lim
 constructor
 ·intro h
  split at h
  ·exact⟨_,h⟩
  ·cases h
 ·rintro⟨n,hn⟩
  have hex: ∃n r,F n=some r:=⟨n,r,hn⟩
  rw[dif_pos hex]
  obtain⟨r',hr'⟩:=hex.choose_spec
  have h1:=hF _ (max hex.choose n) r' (Nat.le_max_left _ _) hr'
  have h2:=hF _ (max hex.choose n) r (Nat.le_max_right _ _) hn
  rw[h1] at h2
  rw[hr',h2]
noncomputable def CALLO (tab:Nat→Option AFunc):Oracle:=fun f args m=>lim fun n=>callN tab n f args m
noncomputable def CALL (tab:Nat→Option AFunc) (f:Nat) (args:List AV) (m:Mem):Option (AV×Mem):=CALLO tab (some f) args m
theorem z97 (tab:Nat→Option AFunc) (f:Nat) (args:List AV) (m:Mem):CALLO tab (some f) args m=CALL tab f args m:=rfl
noncomputable def EV (tab:Nat→Option AFunc) (c:ACode) (σ:St):Option (Out×St):=lim fun n=>ev (callB tab n) n c σ
section
variable {tab : Nat → Option AFunc}
theorem Xn {f:Option Nat} {args:List AV} {m:Mem} {r:AV×Mem}:CALLO tab f args m=some r↔ ∃n,callN tab n f args m=some r:=
 z5n fun _ _ _ h h1=>YB tab h _ _ _ _ h1
theorem z1R {f:Nat} {args:List AV} {m:Mem} {r:AV×Mem}:CALL tab f args m=some r↔ ∃n,callN tab n (some f) args m=some r:=Xn
theorem zy {c:ACode} {σ:St} {r:Out×St}:EV tab c σ=some r↔ ∃n,ev (callB tab n) n c σ=some r:=
 z5n fun _ _ _ h h1=>z5u (z0W tab h) h c h1
theorem z0S (n:Nat):Le (callN tab n) (CALLO tab):=fun _ _ _ _ h=>Xn.2 ⟨n,h⟩
theorem zbt {ρ:List AV} {m:Mem} {op:AOp} {r:AV×Mem} (h:evOp (CALLO tab) ρ m op=some r): ∃n,evOp (callN tab n) ρ m op=some r:=by
 cases op<;>try exact⟨0,h⟩
 rename_i f args
 simp only[evOp,evCall] at h⊢
 split at h
 ·exact Xn.1 h
 ·exact Xn.1 h
 ·cases h
theorem z0H {o:AOper} {σ σ':St} (h:evOper (CALLO tab) o σ=some σ'): ∃n,evOper (callN tab n) o σ=some σ':=by
 unfold evOper at h⊢
 split at h
 ·simp only[w00] at h⊢
  obtain⟨r,h1,h2⟩:=h
  obtain⟨n,hn⟩:=zbt h1
  exact⟨n,r,hn,h2⟩
 ·exact⟨0,h⟩
 ·cases h
theorem z4m: ∀{l:List AOper} {σ σ':St},evOps (CALLO tab) l σ=some σ'→ ∃n,evOps (callN tab n) l σ=some σ'
 | [],σ,σ',h=>⟨0,h⟩
 |o::l,σ,σ',h=>by
  simp only[evOps,w01] at h⊢
  obtain⟨σ1,h1,h2⟩:=h
  obtain⟨n,hn⟩:=z0H h1
  obtain⟨k,hk⟩:=z4m h2
  exact⟨max n k,σ1,xF (YB tab (Nat.le_max_left _ _)) hn,uX (YB tab (Nat.le_max_right _ _)) hk⟩
theorem z0I {m0:Mem}: ∀{l:List AOper} {ws:Watch} {σ σ':St},evDraw (CALLO tab) m0 ws l σ=some σ'→ ∃n,evDraw (callN tab n) m0 ws l σ=some σ'
 | [],ws,σ,σ',h=>⟨0,h⟩
 |o::l,ws,σ,σ',h=>by
  have key: ∀{ws:Watch} {τ q q':St},evOper (CALLO tab) o τ=some q→evDraw (CALLO tab) m0 ws l q'=some σ'→ ∃n,evOper (callN tab n) o τ=some q∧evDraw (callN tab n) m0 ws l q'=some σ':=by
   intro ws τ q q' h1 h2
   obtain⟨n,hn⟩:=z0H h1
   obtain⟨k,hk⟩:=z0I h2
   exact⟨max n k,xF (YB tab (Nat.le_max_left _ _)) hn,yP (YB tab (Nat.le_max_right _ _)) hk⟩
  simp only[evDraw] at h⊢
  split at h
  ·split at h
   ·rename_i q hq
    obtain⟨n,a,b⟩:=key hq h
    exact⟨n,by rw[a];exact b⟩
   ·cases h
  ·split at h
   ·split at h
    ·split at h
     ·rename_i q hq
      obtain⟨n,a,b⟩:=key (xd hq).1 h
      exact⟨n,by rw[V9 a (xd hq).2];exact b⟩
     ·cases h
    ·cases h
   ·split at h
    ·rename_i q hq
     obtain⟨n,a,b⟩:=key hq h
     exact⟨n,by rw[a];exact b⟩
    ·cases h
theorem tQ {α:Type} {a b:Option α} (h: ∀r,a=some r↔b=some r):a=b:=by
 cases a with
 |none=>
  cases b with
  |none=>rfl
  |some y=>have:=(h y).2 rfl;cases this
 |some x=>exact((h x).1 rfl).symm
theorem zcZ (σ:St):EV tab .skip σ=some (.normal,σ):=zy.2 ⟨0,rfl⟩
theorem zdM (σ:St):EV tab .ret σ=some (.ret,σ):=zy.2 ⟨0,rfl⟩
theorem zd1 (id:Nat) (σ:St):EV tab (.exit id) σ=some (.exit id,σ):=zy.2 ⟨0,rfl⟩
theorem zdO (ts:List Nat) (σ:St):EV tab (.frz ts) σ=(frzT ts σ).map fun σ'=>(.normal,σ'):=by
 refine tQ fun r=> ?_
 rw[zy]
 exact⟨fun⟨_,h⟩=>h,fun h=>⟨0,h⟩⟩
theorem zdN (l:List AOper) (σ:St):EV tab (.ops l) σ=(evOps (CALLO tab) l σ).map fun σ'=>(.normal,σ'):=by
 refine tQ fun r=> ?_
 rw[zy]
 simp only[ev,w00]
 constructor
 ·rintro⟨n,σ1,h1,h2⟩;exact⟨σ1,uX (z0S n) h1,h2⟩
 ·rintro⟨σ1,h1,h2⟩;obtain⟨n,hn⟩:=z4m h1;exact⟨n,σ1,hn,h2⟩
theorem zd2 (l:List AOper) (σ:St):EV tab (.draw l) σ=(evDraw (CALLO tab) σ.m [] l ⟨σ.ρ,{σ.m with floor:=max σ.m.floor (σ.m.stk.length+1)}⟩).map fun σ'=>(.normal,⟨σ'.ρ,{σ'.m with floor:=σ.m.floor}⟩):=by
 refine tQ fun r=> ?_
 rw[zy]
 simp only[ev,w00]
 constructor
 ·rintro⟨n,σ1,h1,h2⟩;exact⟨σ1,yP (z0S n) h1,h2⟩
 ·rintro⟨σ1,h1,h2⟩;obtain⟨n,hn⟩:=z0I h1;exact⟨n,σ1,hn,h2⟩
theorem z4l {n n':Nat} (h:n≤n') {c:ACode} {σ:St} {r:Out×St} (he:ev (callB tab n) n c σ=some r):ev (callB tab n') n' c σ=some r:=z5u (z0W tab h) h c he
theorem zdL (a b:ACode) (σ:St):EV tab (.seq a b) σ=match EV tab a σ with|some (.normal,σ')=>EV tab b σ'|r=>r:=by
 refine tQ fun r=> ?_
 rw[zy]
 constructor
 ·rintro⟨n,h⟩
  simp only[ev] at h
  split at h
  ·rename_i σ1 h1
   rw[zy.2 ⟨n,h1⟩]
   exact zy.2 ⟨n,h⟩
  ·rename_i hne
   rw[zy.2 ⟨n,h⟩]
   split
   ·rename_i σ1 h1;injection h1 with h1;rw[h1] at h;exact absurd h (hne σ1)
   ·rfl
 ·intro h
  split at h
  ·rename_i σ1 h1
   obtain⟨n,hn⟩:=zy.1 h1
   obtain⟨k,hk⟩:=zy.1 h
   refine⟨max n k,?_⟩
   simp only[ev]
   rw[z4l (Nat.le_max_left n k) hn]
   exact z4l (Nat.le_max_right n k) hk
  ·rename_i hne
   obtain⟨n,hn⟩:=zy.1 h
   refine⟨n,?_⟩
   simp only[ev]
   rw[hn]
   split
   ·rename_i σ1 h1;injection h1 with h1;rw[h1] at h;exact absurd h (hne σ1)
   ·rfl
theorem z9x (c:Opd) (a b:ACode) (σ:St):EV tab (.cond c a b) σ=match c.ev σ.ρ with| .bool t=>if t then EV tab a σ else EV tab b σ|_=>none:=by
 refine tQ fun r=> ?_
 rw[zy]
 simp only[ev]
 cases hv:c.ev σ.ρ with
 |bool t=>
  cases t with
  |true=>simp only[if_true];exact zy.symm
  |false=>simp only[w08,if_false];exact zy.symm
 |_=>simp
theorem zbT (id:Nat) (a:ACode) (σ:St):EV tab (.block id a) σ=match EV tab a σ with|some (.exit i,σ')=>if i=id then some (.normal,σ') else some (.exit i,σ')|r=>r:=by
 refine tQ fun r=> ?_
 rw[zy]
 constructor
 ·rintro⟨n,h⟩
  simp only[ev] at h
  split at h
  ·rename_i i σ1 h1
   rw[zy.2 ⟨n,h1⟩]
   exact h
  ·rename_i hne
   rw[zy.2 ⟨n,h⟩]
   split
   ·rename_i i σ1 h1;injection h1 with h1;rw[h1] at h;exact absurd h (hne i σ1)
   ·rfl
 ·intro h
  split at h
  ·rename_i i σ1 h1
   obtain⟨n,hn⟩:=zy.1 h1
   refine⟨n,?_⟩
   simp only[ev]
   rw[hn];exact h
  ·rename_i hne
   obtain⟨n,hn⟩:=zy.1 h
   refine⟨n,?_⟩
   simp only[ev]
   rw[hn]
   split
   ·rename_i i σ1 h1;injection h1 with h1;rw[h1] at h;exact absurd h (hne i σ1)
   ·rfl
noncomputable def LOOP (tab:Nat→Option AFunc) (live:List Nat) (nb:Nat) (a:ACode) (σ:St):Option (Out×St):=lim fun n=>iter (ev (callB tab n) n a) (heads live nb) n σ
theorem z1B {live:List Nat} {nb:Nat} {a:ACode} {σ:St} {r:Out×St}:LOOP tab live nb a σ=some r↔ ∃n,iter (ev (callB tab n) n a) (heads live nb) n σ=some r:=
 z5n (F:=fun n=>iter (ev (callB tab n) n a) (heads live nb) n σ) fun _ _ _ h h1=>qY (fun _ _ h2=>z4l h h2) h h1
theorem zd0 (live:List Nat) (a:ACode) (σ:St):EV tab (.loop live a) σ=LOOP tab live σ.m.cur.length a σ:=rfl
theorem zcY (live:List Nat) (nb:Nat) (a:ACode) (σ:St):LOOP tab live nb a σ=match EV tab a (heads live nb σ) with|some (.normal,σ')=>LOOP tab live nb a σ'|r=>r:=by
 refine tQ fun r=> ?_
 rw[z1B]
 constructor
 ·rintro⟨n,h⟩
  cases n with
  |zero=>simp[iter] at h
  |succ n=>
   simp only[iter] at h
   split at h
   ·rename_i σ1 h1
    rw[zy.2 ⟨n+1,h1⟩]
    refine z1B.2 ⟨n+1,?_⟩
    exact qY (fun _ _ h=>h) (Nat.le_succ n) h
   ·rename_i hne
    rw[zy.2 ⟨n+1,h⟩]
    split
    ·rename_i σ1 h1;injection h1 with h1;rw[h1] at h;exact absurd h (hne σ1)
    ·rfl
 ·intro h
  split at h
  ·rename_i σ1 h1
   obtain⟨n,hn⟩:=zy.1 h1
   obtain⟨k,hk⟩:=z1B.1 h
   refine⟨max n k+1,?_⟩
   simp only[iter]
   rw[z4l (n':=max n k+1) (by have:=Nat.le_max_left n k;omega) hn]
   exact qY (fun _ _ h2=>z4l (by have:=Nat.le_max_right n k;omega) h2) (Nat.le_max_right n k) hk
  ·rename_i hne
   obtain⟨n,hn⟩:=zy.1 h
   refine⟨n+1,?_⟩
   simp only[iter]
   rw[z4l (n':=n+1) (Nat.le_succ n) hn]
   split
   ·rename_i σ1 h1;injection h1 with h1;rw[h1] at h;exact absurd h (hne σ1)
   ·rfl
theorem zd4 {f:Nat} {fn:AFunc} (h:tab f=some fn) (args:List AV) (m:Mem):CALL tab f args m=match EV tab fn.body ⟨args++List.replicate (fn.ntmps-args.length) (.tup []),enter m⟩ with
  |some (.exit _,_)=>none
  |some (.goto _,_)=>none
  |some (_,σ)=>(evRess σ fn.res).bind fun vs=>leave m σ.m (packRes vs)
  |none=>none:=by
 refine tQ fun r=> ?_
 rw[z1R]
 constructor
 ·rintro⟨n,hn⟩
  cases n with
  |zero=>simp[callN,callB] at hn
  |succ n=>
   simp only[callN,callB,h,evFn] at hn
   split at hn
   ·cases hn
   ·cases hn
   ·rename_i o σ hne hne2 h1
    rw[zy.2 ⟨n,h1⟩]
    cases o with
    |exit id=>exact absurd rfl (hne id)
    |goto l=>exact absurd rfl (hne2 l)
    |normal=>exact hn
    |ret=>exact hn
   ·cases hn
 ·intro hr
  split at hr
  ·cases hr
  ·cases hr
  ·rename_i o σ hne hne2 h1
   obtain⟨n,hn⟩:=zy.1 h1
   refine⟨n+1,?_⟩
   simp only[callN,callB,h,evFn]
   rw[hn]
   cases o with
   |exit id=>exact absurd rfl (hne id)
   |goto l=>exact absurd rfl (hne2 l)
   |normal=>exact hr
   |ret=>exact hr
  ·cases hr
theorem zd3 {P:Program} (hM:P.follows .mixedOrders=true) (hT:TabOk P tab) {C:Ctx} {f:Nat} {args:List AV} {m m':Mem} {r:AV} (h:CALL tab f args m=some (r,m')) (hf:m.floor≤m.stk.length+1):CallOk P C f args m r m':=by
 obtain⟨n,hn⟩:=z1R.1 h
 exact zbE hM hT n C (some f) args m r m' hn hf
end
def Opt {α:Type} (o:Option α) (Q:α→Prop):Prop:= ∃x,o=some x∧Q x
theorem z9 {α:Type} (x:α) (Q:α→Prop):Opt (some x) Q=Q x:=by
 apply propext;constructor
 ·rintro⟨y,h,hq⟩;injection h with h;rw[h];exact hq
 ·exact fun h=>⟨x,rfl,h⟩
theorem zbR {α:Type} (Q:α→Prop):Opt none Q=False:=by
 apply propext;constructor
 ·rintro⟨y,h,_⟩;cases h
 ·exact False.elim
theorem Opt.mono {α:Type} {o:Option α} {Q R:α→Prop} (h:Opt o Q) (k: ∀x,Q x→R x):Opt o R:=let ⟨x,h1,h2⟩:=h;⟨x,h1,k x h2⟩
theorem U8 {α β:Type} (o:Option α) (f:α→β) (Q:β→Prop):Opt (o.map f) Q=Opt o (fun x=>Q (f x)):=by cases o<;>simp[Opt]
theorem z1A {α β:Type} (o:Option α) (f:α→Option β) (Q:β→Prop):Opt (o.bind f) Q=Opt o (fun x=>Opt (f x) Q):=by cases o<;>simp[Opt]
section
variable (tab : Nat → Option AFunc)
def Run (c:ACode) (σ:St) (Q:Out→St→Prop):Prop:=Opt (EV tab c σ) (fun r=>Q r.1 r.2)
def RunL (live:List Nat) (nb:Nat) (a:ACode) (σ:St) (Q:Out→St→Prop):Prop:=Opt (LOOP tab live nb a σ) (fun r=>Q r.1 r.2)
def RunOps (l:List AOper) (σ:St) (Q:St→Prop):Prop:=Opt (evOps (CALLO tab) l σ) Q
def Step (o:AOper) (σ:St) (Q:St→Prop):Prop:=Opt (evOper (CALLO tab) o σ) Q
def Out.ends:Out→Prop
 | .normal| .ret=>True
 |_=>False
def onNormal (Q:Out→St→Prop) (R:St→Prop):Out→St→Prop
 | .normal,σ=>R σ
 |o,σ=>Q o σ
def onExit (id:Nat) (Q:Out→St→Prop):Out→St→Prop
 | .exit i,σ=>if i=id then Q .normal σ else Q (.exit i) σ
 |o,σ=>Q o σ
theorem zbN (σ:St) (Q:Out→St→Prop):Run tab .skip σ Q=Q .normal σ:=by unfold Run;rw[zcZ,z9]
theorem zcV (σ:St) (Q:Out→St→Prop):Run tab .ret σ Q=Q .ret σ:=by unfold Run;rw[zdM,z9]
theorem zbP (i:Nat) (σ:St) (Q:Out→St→Prop):Run tab (.exit i) σ Q=Q (.exit i) σ:=by unfold Run;rw[zd1,z9]
theorem zcW (l:List AOper) (σ:St) (Q:Out→St→Prop):Run tab (.ops l) σ Q=RunOps tab l σ (Q .normal):=by unfold Run RunOps;rw[zdN,U8]
theorem zcX (ts:List Nat) (σ:St) (Q:Out→St→Prop):Run tab (.frz ts) σ Q=Opt (frzT ts σ) (Q .normal):=by unfold Run;rw[zdO,U8]
theorem zcU (a b:ACode) (σ:St) (Q:Out→St→Prop):Run tab (.seq a b) σ Q=Run tab a σ (onNormal Q fun σ'=>Run tab b σ' Q):=by
 unfold Run;rw[zdL]
 cases EV tab a σ with
 |none=>simp[Opt]
 |some r=>obtain⟨o,σ'⟩:=r;cases o<;>simp[Opt,onNormal]
theorem zbQ (c:Opd) (a b:ACode) (σ:St) (Q:Out→St→Prop) (t:Bool) (h:c.ev σ.ρ= .bool t):Run tab (.cond c a b) σ Q=if t=true then Run tab a σ Q else Run tab b σ Q:=by
 unfold Run;rw[z9x,h];cases t<;>rfl
theorem zaA (id:Nat) (a:ACode) (σ:St) (Q:Out→St→Prop):Run tab (.block id a) σ Q=Run tab a σ (onExit id Q):=by
 unfold Run;rw[zbT]
 cases EV tab a σ with
 |none=>simp[Opt]
 |some r=>
  obtain⟨o,σ'⟩:=r
  cases o with
  |exit i=>simp only[z9,onExit];split<;>rw[z9]
  |normal=>simp[Opt,onExit]
  |ret=>simp[Opt,onExit]
  |goto l=>simp[Opt,onExit]
theorem zbO (live:List Nat) (a:ACode) (σ:St) (Q:Out→St→Prop):Run tab (.loop live a) σ Q=RunL tab live σ.m.cur.length a σ Q:=by unfold Run RunL;rw[zd0]
theorem z9w (live:List Nat) (nb:Nat) (a:ACode) (σ:St) (Q:Out→St→Prop):RunL tab live nb a σ Q=Run tab a (heads live nb σ) (onNormal Q fun σ'=>RunL tab live nb a σ' Q):=by
 unfold RunL Run;rw[zcY]
 cases EV tab a (heads live nb σ) with
 |none=>simp[Opt]
 |some r=>obtain⟨o,σ'⟩:=r;cases o<;>simp[Opt,onNormal]
theorem z96 (σ:St) (Q:St→Prop):RunOps tab [] σ Q=Q σ:=by unfold RunOps;simp[evOps,Opt]
theorem Ts (o:AOper) (l:List AOper) (σ:St) (Q:St→Prop):RunOps tab (o::l) σ Q=Step tab o σ (fun σ'=>RunOps tab l σ' Q):=by
 unfold RunOps Step;rw[evOps,z1A]
theorem z94 (d:Option Nat) (op:AOp) (f:Bool) (σ:St) (Q:St→Prop):Step tab ⟨d,op,none,f⟩ σ Q=Opt (evOp (CALLO tab) σ.ρ σ.m op) (fun r=>Q ⟨setDst σ.ρ d r.1,r.2⟩):=by
 unfold Step evOper;simp only[wanted];rw[U8]
theorem z95 (d:Option Nat) (op:AOp) (g:Nat) (w f t:Bool) (σ:St) (Q:St→Prop) (h:σ.ρ.getD g .undef= .bool t):
  Step tab ⟨d,op,some (g,w),f⟩ σ Q=if t=w then Opt (evOp (CALLO tab) σ.ρ σ.m op) (fun r=>Q ⟨setDst σ.ρ d r.1,r.2⟩) else Q ⟨setDst σ.ρ d (.tup []),σ.m⟩:=by
 unfold Step evOper;simp only[wanted,h]
 cases t<;>cases w<;>simp[U8,z9]
theorem z93 (d:Option Nat) (op:AOp) (g:Nat) (w f:Bool) (σ:St) (Q:St→Prop) (h:σ.ρ.getD g .undef= .tup []):
  Step tab ⟨d,op,some (g,w),f⟩ σ Q=Q ⟨setDst σ.ρ d (.tup []),σ.m⟩:=by
 unfold Step evOper;simp only[wanted,h];simp[Opt]
theorem zbS {f:Nat} {fn:AFunc} (h:tab f=some fn) (args:List AV) (m:Mem) (Q:AV×Mem→Prop):
  Opt (CALL tab f args m) Q=Run tab fn.body ⟨args++List.replicate (fn.ntmps-args.length) (.tup []),enter m⟩ (fun o σ=>o.ends∧Opt (evRess σ fn.res) fun vs=>Opt (leave m σ.m (packRes vs)) Q):=by
 unfold Run;rw[zd4 h]
 cases EV tab fn.body _ with
 |none=>simp[Opt]
 |some r=>
  obtain⟨o,σ⟩:=r
  cases o with
  |exit i=>simp[Opt,Out.ends]
  |goto l=>simp[Opt,Out.ends]
  |normal=>simp only[z9];rw[z1A];simp[Out.ends]
  |ret=>simp only[z9];rw[z1A];simp[Out.ends]
end
section
variable {tab : Nat → Option AFunc}
theorem zaB {live:List Nat} {nb:Nat} {a:ACode} {σ:St} {Q:Out→St→Prop} {α:Type} (I:α→St→Prop) (r:α→Nat) (x0:α) (h0:I x0 σ)
  (h: ∀x σ,I x σ→Run tab a (heads live nb σ) (onNormal Q fun σ'=> ∃y,r y<r x∧I y σ')):RunL tab live nb a σ Q:=by
 have key: ∀n x σ,r x≤n→I x σ→RunL tab live nb a σ Q:=by
  intro n
  induction n with
  |zero=>
   intro x σ hx hI
   rw[z9w]
   obtain⟨⟨o,σ'⟩,h1,h2⟩:=h x σ hI
   refine⟨⟨o,σ'⟩,h1,?_⟩
   cases o with
   |normal=>obtain⟨y,hy,_⟩:=h2;omega
   |exit i=>exact h2
   |goto i=>exact h2
   |ret=>exact h2
  |succ n ih=>
   intro x σ hx hI
   rw[z9w]
   obtain⟨⟨o,σ'⟩,h1,h2⟩:=h x σ hI
   refine⟨⟨o,σ'⟩,h1,?_⟩
   cases o with
   |normal=>obtain⟨y,hy,hI'⟩:=h2;exact ih y σ' (by omega) hI'
   |exit i=>exact h2
   |goto i=>exact h2
   |ret=>exact h2
 exact key _ x0 σ (w0f _) h0
end
def Mem.bump (m:Mem) (k:Nat):Mem:={m with nx:=k}
def look:List (Nat×AV)→Nat→AV→AV
 | [],_,df=>df
 |(i,v)::r,j,df=>if i=j then v else look r j df
def mk (n:Nat) (df:AV) (l:List (Nat×AV)):List AV:=(List.range n).map fun j=>look l j df
def tmps (n:Nat) (l:List (Nat×AV)):List AV:=mk n .undef l
theorem zaY (j:Nat) (df:AV):look [] j df=df:=rfl
theorem z9Q (i:Nat) (v:AV) (r:List (Nat×AV)) (j:Nat) (df:AV):look ((i,v)::r) j df=if i=j then v else look r j df:=rfl
theorem zaJ (n:Nat) (df:AV) (l:List (Nat×AV)) (d:Nat) (v:AV):(mk n df l).set d v=mk n df ((d,v)::l):=by
 apply List.ext_getElem?
 intro j
 rw[List.getElem?_set]
 simp only[mk,List.length_map,List.length_range,w15,List.getElem?_range']
 by_cases hj:j<n
 ·rw[w34 hj]
  by_cases hd:d=j
  ·subst hd;simp[look,hj]
  ·simp[look,hd]
 ·rw[w1a (by simp;omega)]
  by_cases hd:d=j
  ·subst hd;simp[hj]
  ·simp[hd]
theorem z9D (n:Nat) (df:AV) (l:List (Nat×AV)) (d:Nat) (v:AV):setDst (mk n df l) (some d) v=mk n df ((d,v)::l):=zaJ n df l d v
theorem z6w (ρ:List AV) (v:AV):setDst ρ none v=ρ:=rfl
theorem zcE (n:Nat) (df:AV) (l:List (Nat×AV)) (j:Nat) (x:AV):(mk n df l).getD j x=if j<n then look l j df else x:=by
 rw[w02]
 simp only[mk,w15]
 by_cases hj:j<n
 ·rw[w34 hj,if_pos hj];rfl
 ·rw[w1a (by simp;omega),if_neg hj];rfl
theorem z9P (live:List Nat) (l:List (Nat×AV)) (df:AV) (j:Nat):look (live.map fun i=>(i,look l i df)) j .undef=if live.contains j then look l j df else .undef:=by
 induction live with
 |nil=>rfl
 |cons i r ih=>
  simp only[w21,look,ih,List.contains_cons]
  by_cases h:i=j
  ·subst h;simp
  ·simp only[h,if_false]
   have:(j==i)=false:=by simp;exact fun e=>h e.symm
   rw[this,Bool.false_or]
theorem zbB (live:List Nat) (n:Nat) (df:AV) (l:List (Nat×AV)):clean live (mk n df l)=mk n .undef (live.map fun i=>(i,look l i df)):=by
 apply List.ext_getElem?
 intro j
 unfold clean
 rw[w15,List.getElem?_zipIdx]
 simp only[mk,w15]
 by_cases hj:j<n
 ·rw[w34 hj]
  simp only[w04,w20,z9P]
 ·rw[w1a (by simp;omega)];rfl
def numb:Nat→List AV→List (Nat×AV)
 |_,[]=>[]
 |i,a::r=>(i,a)::numb (i+1) r
theorem z47: ∀(args:List AV) (i j:Nat) (df:AV),look (numb i args) j df=if i≤j then args.getD (j-i) df else df
 | [],i,j,df=>by simp[numb,look]
 |a::r,i,j,df=>by
  simp only[numb,look,z47 r]
  by_cases h:i=j
  ·subst h;simp
  ·by_cases h2:i≤j
   ·have:i+1≤j:=by omega
    simp only[h,h2,this,if_true,if_false]
    rw[show j-i=(j-(i+1))+1 by omega,List.getD_cons_succ]
   ·have: ¬i+1≤j:=by omega
    simp[h,h2,this]
theorem zcB (n:Nat) (args:List AV) (h:args.length≤n):args++List.replicate (n-args.length) (.tup [])=mk n (.tup []) (numb 0 args):=by
 apply List.ext_getElem?
 intro j
 simp only[mk,w15,z47,w10,if_true,Nat.sub_zero]
 by_cases hj:j<n
 ·rw[w34 hj,w04]
  by_cases ha:j<args.length
  ·rw[w0a ha,w02,w09 ha];rfl
  ·rw[w0e (by omega),List.getElem?_replicate,if_pos (by omega),w02,w1a (by omega)];rfl
 ·rw[w1a (by simp;omega),w1a (by simp;omega)];rfl
theorem z9M (i:Nat) (a:AV) (r:List AV):numb i (a::r)=(i,a)::numb (i+1) r:=rfl
theorem zaU (i:Nat):numb i []=[]:=rfl
theorem zbX (n:Nat) (l:List (Nat×AV)):tmps n l=mk n .undef l:=rfl
theorem zas (cs:List AV):(AV.agg cs).cells=cs:=rfl
theorem z8U (b:Bool):(AV.bool b).cells=[.bool b]:=rfl
theorem zaq (k:IntKind) (n:Int):(AV.int k n).cells=[.int k n]:=rfl
theorem zao (s:List UInt8):(AV.str s).cells=[.str s]:=rfl
theorem z8R:AV.nils.cells=[.nils]:=rfl
theorem z8T (s:Nat) (tk:Tok) (xs:List AV):(AV.list s tk xs).cells=[.list s tk xs]:=rfl
theorem zar (l k st off len:Nat):(AV.arr l k st off len).cells=[.arr l k st off len]:=rfl
theorem z8S (l k st:Nat):(AV.mapR l k st).cells=[.mapR l k st]:=rfl
theorem zaR (l k st:Nat):(AV.mapR l k st).one=true:=rfl
theorem zap (l k st off:Nat):(AV.ptr l k st off).cells=[.ptr l k st off]:=rfl
theorem zbC (cs:List AV):(AV.ro cs).cells=[.ro cs]:=rfl
theorem z5A:AV.nilptr.cells=[.nilptr]:=rfl
theorem zbD (f:Fn) (a b:List AV):(AV.fn f a b).cells=[.fn f a b]:=rfl
theorem z7z:AV.nilfn.cells=[.nilfn]:=rfl
theorem zaT (b:Bool):(AV.bool b).one=true:=rfl
theorem zc9 (k:IntKind) (n:Int):(AV.int k n).one=true:=rfl
theorem zc7 (s:List UInt8):(AV.str s).one=true:=rfl
theorem zaQ:AV.nils.one=true:=rfl
theorem zaS (s:Nat) (tk:Tok) (xs:List AV):(AV.list s tk xs).one=true:=rfl
theorem zca (l k st off len:Nat):(AV.arr l k st off len).one=true:=rfl
theorem zc8 (l k st off:Nat):(AV.ptr l k st off).one=true:=rfl
theorem zdi (cs:List AV):(AV.ro cs).one=true:=rfl
theorem z8m:AV.nilptr.one=true:=rfl
theorem zdj (f:Fn) (a b:List AV):(AV.fn f a b).one=true:=rfl
theorem z9K:AV.nilfn.one=true:=rfl
theorem z6n (c:AV) (r:List AV):takeV false 1 (c::r)=some c:=by simp[takeV]
theorem z99 (n:Nat) (cs:List AV) (h:n≤cs.length):takeV true n cs=some (.agg (cs.take n)):=by simp[takeV,h]
theorem za6 (n:Nat) (a x:Opd):(AOp.store n a x).isStore=true:=rfl
theorem zcv (e:XOp):(AOp.ext e).isStore=e.isPut:=rfl
theorem zcs (x:Opd):(AOp.mov x).isStore=false:=rfl
theorem zbg (c a b:Opd):(AOp.pick c a b).isStore=false:=rfl
theorem zae (z:List AV):(AOp.alloc z).isStore=false:=rfl
theorem zcw (n:Nat) (x:Opd):(AOp.box n x).isStore=false:=rfl
theorem zad (z:List AV) (ps:List (Nat×Nat×Opd)):(AOp.build z ps).isStore=false:=rfl
theorem zct (s:Nat) (ps:List Opd):(AOp.lit s ps).isStore=false:=rfl
theorem zbj (g:Bool) (n:Nat) (a:Opd):(AOp.load g n a).isStore=false:=rfl
theorem zcx (o:BinOp) (x y:Opd):(AOp.bin o x y).isStore=false:=rfl
theorem zcy (g:Bool) (x y:Opd):(AOp.beq g x y).isStore=false:=rfl
theorem zdr (o:UnOp) (x:Opd):(AOp.un o x).isStore=false:=rfl
theorem zbl (k:IntKind) (x:Opd):(AOp.conv k x).isStore=false:=rfl
theorem zab (x:Opd):(AOp.convS x).isStore=false:=rfl
theorem za5 (x:Opd):(AOp.toStr x).isStore=false:=rfl
theorem z7h (x:Opd):(AOp.toBytes x).isStore=false:=rfl
theorem zbh (f:Fn) (a b:List Opd):(AOp.mkfn f a b).isStore=false:=rfl
theorem zaa (n:Nat) (a:Opd):(AOp.faddr n a).isStore=false:=rfl
theorem za9 (g:Bool) (n o:Nat) (x:Opd):(AOp.field g n o x).isStore=false:=rfl
theorem za8 (s:Nat) (x i:Opd):(AOp.iaddr s x i).isStore=false:=rfl
theorem z8F (n s:Nat) (x i:Opd):(AOp.iaddrA n s x i).isStore=false:=rfl
theorem z8D (x i:Opd):(AOp.indexS x i).isStore=false:=rfl
theorem z8E (n s:Nat) (g:Bool) (x i:Opd):(AOp.indexA n s g x i).isStore=false:=rfl
theorem zcu (x:Opd):(AOp.len x).isStore=false:=rfl
theorem zbk (x:Opd):(AOp.lenS x).isStore=false:=rfl
theorem zcz (s b:Nat) (x y:Opd):(AOp.app s b x y).isStore=false:=rfl
theorem zds (x y:Opd):(AOp.mx x y).isStore=false:=rfl
theorem zdt (x y:Opd):(AOp.mn x y).isStore=false:=rfl
theorem za7 (s:Nat) (x:Opd) (lo hi t:Option Opd):(AOp.slice s x lo hi t).isStore=false:=rfl
theorem z8C (n s:Nat) (x:Opd) (lo hi:Option Opd):(AOp.sliceA n s x lo hi).isStore=false:=rfl
theorem z8B (x:Opd) (lo hi:Option Opd):(AOp.sliceS x lo hi).isStore=false:=rfl
theorem zbi (s b:Nat) (z:List AV) (n c:Opd):(AOp.make s b z n c).isStore=false:=rfl
theorem z7i (x:Opd) (i:Nat):(AOp.extract x i).isStore=false:=rfl
theorem zbm (f:Fn) (x y:List AV) (a:List Opd):(AOp.call (.c (.fn f x y)) a).isStore=false:=rfl
theorem zac (i:Nat) (a:List Opd):(AOp.call (.t i) a).isStore=false:=rfl
theorem zdb (f:Fn) (x y:List AV):unS (.c (.fn f x y))= .c (.fn f x y):=rfl
theorem zdQ (i:Nat):unS (.t i)= .t i:=rfl
theorem zaf (n:Nat) (a x:Opd):(AOp.store n a x).isC=false:=rfl
theorem zcA (e:XOp):(AOp.ext e).isC=false:=rfl
theorem z8G (t:Nat) (h:List Nat) (r:List (List Nat)):hasTok t ((t::h)::r)=true:=by simp[hasTok]
theorem z7r (t:Nat) (h:List Nat) (r:List (List Nat)):dropTok t ((t::h)::r)=h::r:=by simp[dropTok]
theorem VA (l:List (List Nat)):pushToks [] l=l:=by cases l<;>rfl
theorem zc (ts h:List Nat) (r:List (List Nat)):pushToks ts (h::r)=(ts++h)::r:=by cases ts<;>rfl
inductive Kont where
 |fin (res:List ARes) (m0:Mem) (R:AV→Mem→Prop)
 |seq (b:ACode) (k:Kont)
 |block (id:Nat) (k:Kont)
 |again (J:St→Prop) (k:Kont)
def Kont.go (tab:Nat→Option AFunc):Kont→Out→St→Prop
 | .fin res m0 R=>fun o σ=>o.ends∧Opt (evRess σ res) fun vs=>Opt (leave m0 σ.m (packRes vs)) fun r=>R r.1 r.2
 | .seq b k=>onNormal (k.go tab) fun σ=>Run tab b σ (k.go tab)
 | .block id k=>onExit id (k.go tab)
 | .again J k=>onNormal (k.go tab) J
section
variable (tab : Nat → Option AFunc)
def X (c:ACode) (ρ:List AV) (m:Mem) (k:Kont):Prop:=Run tab c ⟨ρ,m⟩ (k.go tab)
def Xs (l:List AOper) (ρ:List AV) (m:Mem) (k:Kont):Prop:=RunOps tab l ⟨ρ,m⟩ (k.go tab .normal)
def XL (live:List Nat) (nb:Nat) (a:ACode) (ρ:List AV) (m:Mem) (k:Kont):Prop:=RunL tab live nb a ⟨ρ,m⟩ (k.go tab)
def Xv (r:Option (AV×Mem)) (d:Option Nat) (l:List AOper) (ρ:List AV) (k:Kont):Prop:=Opt r fun r=>Xs tab l (setDst ρ d r.1) r.2 k
def Xg (c:AV) (w:Bool) (d:Option Nat) (op:AOp) (l:List AOper) (ρ:List AV) (m:Mem) (k:Kont):Prop:=
 match c with
 | .bool t=>if t=w then Xv tab (evOp (CALLO tab) ρ m op) d l ρ k else Xs tab l (setDst ρ d (.tup [])) m k
 | .tup []=>Xs tab l (setDst ρ d (.tup [])) m k
 |_=>False
def Xc (c:AV) (a b:ACode) (ρ:List AV) (m:Mem) (k:Kont):Prop:=
 match c with
 | .bool t=>if t=true then X tab a ρ m k else X tab b ρ m k
 |_=>False
def Xo (k:Kont) (o:Out) (ρ:List AV) (m:Mem):Prop:=k.go tab o ⟨ρ,m⟩
def Xd (fl:Nat) (m0:Mem) (ws:Watch) (l:List AOper) (ρ:List AV) (m:Mem) (k:Kont):Prop:=Opt (evDraw (CALLO tab) m0 ws l ⟨ρ,m⟩) fun σ=>Xo tab k .normal σ.ρ {σ.m with floor:=fl}
def Xw (r:Option (AV×Mem)) (w:Nat) (fl:Nat) (m0:Mem) (ws:Watch) (d:Option Nat) (l:List AOper) (ρ:List AV) (m:Mem) (k:Kont):Prop:=
 Opt r fun r=>Xd tab fl m0 ws l (setDst ρ d r.1) (match w with|0=>m|1=>{r.2 with floor:=m.floor}|_=>r.2) k
def Xu (c:AV) (w:Bool) (d:Option Nat) (op:AOp) (f:Bool) (fl:Nat) (m0:Mem) (ws:Watch) (l:List AOper) (ρ:List AV) (m:Mem) (k:Kont):Prop:=
 match c with
 | .bool t=>if t=w then Xd tab fl m0 ws (⟨d,op,none,f⟩::l) ρ m k else Xd tab fl m0 ws l (setDst ρ d (.tup [])) m k
 | .tup []=>Xd tab fl m0 ws l (setDst ρ d (.tup [])) m k
 |_=>False
variable (ρ : List AV) (m : Mem) (k : Kont) (a b : ACode) (l : List AOper) (d : Option Nat) (op : AOp)
theorem zdG:X tab .skip ρ m k=Xo tab k .normal ρ m:=by unfold X;rw[zbN];rfl
theorem ze7:X tab .ret ρ m k=Xo tab k .ret ρ m:=by unfold X;rw[zcV];rfl
theorem zdI (i:Nat):X tab (.exit i) ρ m k=Xo tab k (.exit i) ρ m:=by unfold X;rw[zbP];rfl
theorem ze8:X tab (.ops l) ρ m k=Xs tab l ρ m k:=by unfold X Xs;rw[zcW]
theorem ze9 (ts:List Nat):X tab (.frz ts) ρ m k=Opt (frzT ts ⟨ρ,m⟩) fun σ=>Xo tab k .normal σ.ρ σ.m:=by unfold X;rw[zcX];rfl
theorem ze6:X tab (.seq a b) ρ m k=X tab a ρ m (.seq b k):=by unfold X;rw[zcU];rfl
theorem zcT (id:Nat):X tab (.block id a) ρ m k=X tab a ρ m (.block id k):=by unfold X;rw[zaA];rfl
theorem zdH (live:List Nat):X tab (.loop live a) ρ m k=XL tab live m.cur.length a ρ m k:=by unfold X XL;rw[zbO]
theorem zdK (c:Opd):X tab (.cond c a b) ρ m k=Xc tab (c.ev ρ) a b ρ m k:=by
 unfold X Xc
 split
 ·rename_i t h;rw[zbQ tab c a b ⟨ρ,m⟩ _ t h];rfl
 ·rename_i hne
  unfold Run;rw[z9x]
  split
  ·rename_i t h;exact absurd h (hne t)
  ·simp[Opt]
theorem zcS:Xc tab (.bool true) a b ρ m k=X tab a ρ m k:=_root_.id rfl
theorem zbM:Xc tab (.bool false) a b ρ m k=X tab b ρ m k:=_root_.id rfl
theorem zdA:Xs tab [] ρ m k=Xo tab k .normal ρ m:=by unfold Xs;rw[z96];rfl
theorem zcP (f:Bool):Xs tab (⟨d,op,none,f⟩::l) ρ m k=Xv tab (evOp (CALLO tab) ρ m op) d l ρ k:=by unfold Xs;rw[Ts,z94];rfl
theorem zbH (g:Nat) (w f:Bool):Xs tab (⟨d,op,some (g,w),f⟩::l) ρ m k=Xg tab (ρ.getD g .undef) w d op l ρ m k:=by
 unfold Xs Xg;rw[Ts]
 split
 ·rename_i t h
  rw[z95 tab d op g w f t ⟨ρ,m⟩ _ h];rfl
 ·rename_i h
  rw[z93 tab d op g w f ⟨ρ,m⟩ _ h];rfl
 ·rename_i h1 h2
  unfold Step evOper
  simp only[wanted]
  rw[zbR]
theorem ze2:Xg tab (.bool true) true d op l ρ m k=Xv tab (evOp (CALLO tab) ρ m op) d l ρ k:=_root_.id rfl
theorem ze5:Xg tab (.bool false) false d op l ρ m k=Xv tab (evOp (CALLO tab) ρ m op) d l ρ k:=_root_.id rfl
theorem ze3:Xg tab (.bool true) false d op l ρ m k=Xs tab l (setDst ρ d (.tup [])) m k:=by simp[Xg]
theorem ze4:Xg tab (.bool false) true d op l ρ m k=Xs tab l (setDst ρ d (.tup [])) m k:=by simp[Xg]
theorem ze1 (w:Bool):Xg tab (.tup []) w d op l ρ m k=Xs tab l (setDst ρ d (.tup [])) m k:=_root_.id rfl
theorem va (v:AV):Xv tab (some (v,m)) d l ρ k=Xs tab l (setDst ρ d v) m k:=by unfold Xv;rw[z9]
theorem zdB (b:ACode):Xo tab (.seq b k) .normal ρ m=X tab b ρ m k:=_root_.id rfl
theorem z91 (b:ACode):Xo tab (.seq b k) .ret ρ m=Xo tab k .ret ρ m:=_root_.id rfl
theorem z7Z (b:ACode) (i:Nat):Xo tab (.seq b k) (.exit i) ρ m=Xo tab k (.exit i) ρ m:=_root_.id rfl
theorem zbI (id:Nat):Xo tab (.block id k) .normal ρ m=Xo tab k .normal ρ m:=_root_.id rfl
theorem z5Z (id:Nat):Xo tab (.block id k) .ret ρ m=Xo tab k .ret ρ m:=_root_.id rfl
theorem z3t (id i:Nat):Xo tab (.block id k) (.exit i) ρ m=if i=id then Xo tab k .normal ρ m else Xo tab k (.exit i) ρ m:=_root_.id rfl
theorem zbJ (J:St→Prop):Xo tab (.again J k) .normal ρ m=J ⟨ρ,m⟩:=_root_.id rfl
theorem z60 (J:St→Prop):Xo tab (.again J k) .ret ρ m=Xo tab k .ret ρ m:=_root_.id rfl
theorem z3u (J:St→Prop) (i:Nat):Xo tab (.again J k) (.exit i) ρ m=Xo tab k (.exit i) ρ m:=_root_.id rfl
theorem zdC (res:List ARes) (m0:Mem) (R:AV→Mem→Prop):Xo tab (.fin res m0 R) .ret ρ m=Opt (evRess ⟨ρ,m⟩ res) fun vs=>Opt (leave m0 m (packRes vs)) fun r=>R r.1 r.2:=by
 unfold Xo Kont.go;simp[Out.ends]
theorem zdD (res:List ARes) (m0:Mem) (R:AV→Mem→Prop):Xo tab (.fin res m0 R) .normal ρ m=Opt (evRess ⟨ρ,m⟩ res) fun vs=>Opt (leave m0 m (packRes vs)) fun r=>R r.1 r.2:=by
 unfold Xo Kont.go;simp[Out.ends]
variable (ws : Watch)
theorem zdJ:X tab (.draw l) ρ m k=Xd tab m.floor m [] l ρ {m with floor:=max m.floor (m.stk.length+1)} k:=by
 unfold X Xd Run;rw[zd2,U8];rfl
theorem zdE (fl:Nat) (m0:Mem):Xd tab fl m0 ws [] ρ m k=Xo tab k .normal ρ {m with floor:=fl}:=by unfold Xd;rw[evDraw,z9]
theorem zbL (fl:Nat) (m0:Mem) (g:Nat) (w f:Bool):Xd tab fl m0 ws (⟨d,op,some (g,w),f⟩::l) ρ m k=Xu tab (ρ.getD g .undef) w d op f fl m0 ws l ρ m k:=by
 have skip:wanted ρ (some (g,w))=some false→Xd tab fl m0 ws (⟨d,op,some (g,w),f⟩::l) ρ m k=Xd tab fl m0 ws l (setDst ρ d (.tup [])) m k:=by
  intro h
  unfold Xd
  simp only[evDraw,evOperS,keptG,evOper,watchG,clearG,h]
  cases f
  ·simp only
   cases op.isStore<;>simp
  ·simp only
 have go:wanted ρ (some (g,w))=some true→Xd tab fl m0 ws (⟨d,op,some (g,w),f⟩::l) ρ m k=Xd tab fl m0 ws (⟨d,op,none,f⟩::l) ρ m k:=by
  intro h
  have h':wanted ρ none=some true:=rfl
  unfold Xd
  simp only[evDraw,evOperS,keptG,evOper,watchG,clearG,h,h']
 have no:wanted ρ (some (g,w))=none→Xd tab fl m0 ws (⟨d,op,some (g,w),f⟩::l) ρ m k=False:=by
  intro h
  unfold Xd
  simp only[evDraw,evOperS,keptG,evOper,watchG,clearG,h]
  cases f
  ·simp only
   cases op.isStore<;>simp[Opt]
  ·simp[Opt]
 unfold Xu
 split
 ·rename_i t h
  simp only[wanted,h] at skip go
  cases t<;>cases w<;>simp at skip go⊢ <;>first|exact skip|exact go
 ·rename_i h;exact skip (by simp only[wanted,h])
 ·rename_i h1 h2
  refine no ?_
  simp only[wanted]
theorem zdX (f:Bool) (fl:Nat) (m0:Mem):Xu tab (.bool true) true d op f fl m0 ws l ρ m k=Xd tab fl m0 ws (⟨d,op,none,f⟩::l) ρ m k:=_root_.id rfl
theorem ze0 (f:Bool) (fl:Nat) (m0:Mem):Xu tab (.bool false) false d op f fl m0 ws l ρ m k=Xd tab fl m0 ws (⟨d,op,none,f⟩::l) ρ m k:=_root_.id rfl
theorem zdY (f:Bool) (fl:Nat) (m0:Mem):Xu tab (.bool true) false d op f fl m0 ws l ρ m k=Xd tab fl m0 ws l (setDst ρ d (.tup [])) m k:=by simp[Xu]
theorem zdZ (f:Bool) (fl:Nat) (m0:Mem):Xu tab (.bool false) true d op f fl m0 ws l ρ m k=Xd tab fl m0 ws l (setDst ρ d (.tup [])) m k:=by simp[Xu]
theorem zdW (w f:Bool) (fl:Nat) (m0:Mem):Xu tab (.tup []) w d op f fl m0 ws l ρ m k=Xd tab fl m0 ws l (setDst ρ d (.tup [])) m k:=_root_.id rfl
theorem zdF (fl:Nat) (m0:Mem):Xd tab fl m0 ws (⟨d,op,none,true⟩::l) ρ m k=Xw tab (evOp (CALLO tab) ρ m0 op) 0 fl m0 (watch ρ m0 op ws) d l ρ m k:=by
 unfold Xd Xw evDraw
 simp only[evOper,watchG,wanted]
 cases evOp (CALLO tab) ρ m0 op<;>simp[Opt,Xd]
def Xi (s:Bool) (fl:Nat) (m0:Mem) (ws:Watch) (d:Option Nat) (op:AOp) (l:List AOper) (ρ:List AV) (m:Mem) (k:Kont):Prop:=
 match s with
 |true=>clear ρ op ws=true∧(match op.isC with
  |false=>Xw tab (evOp (CALLO tab) ρ {m with floor:=m0.floor} op) 1 fl m0 ws d l ρ m k
  |true=>Opt (evOp (CALLO tab) ρ {m with floor:=m0.floor} op) fun r=>kept op m0 ws m r.2=true∧Xd tab fl m0 ws l (setDst ρ d r.1) {r.2 with floor:=m.floor} k)
 |false=>Xw tab (evOp (CALLO tab) ρ m op) 2 fl m0 ws d l ρ m k
theorem zcQ (fl:Nat) (m0:Mem) (h:op.isC=false):Xi tab true fl m0 ws d op l ρ m k=(clear ρ op ws=true∧Xw tab (evOp (CALLO tab) ρ {m with floor:=m0.floor} op) 1 fl m0 ws d l ρ m k):=by unfold Xi;simp only[h]
theorem zbK (fl:Nat) (m0:Mem):Xi tab false fl m0 ws d op l ρ m k=Xw tab (evOp (CALLO tab) ρ m op) 2 fl m0 ws d l ρ m k:=_root_.id rfl
theorem zcR (fl:Nat) (m0:Mem):Xd tab fl m0 ws (⟨d,op,none,false⟩::l) ρ m k=Xi tab op.isStore fl m0 ws d op l ρ m k:=by
 unfold Xd Xi evDraw
 cases h:op.isStore
 ·simp only[evOper,clearG,wanted,Xw,h]
  cases evOp (CALLO tab) ρ m op<;>simp[Opt,Xd]
 ·simp only[clearG,wanted,h]
  cases hc:clear ρ op ws
  ·simp[Opt]
  ·cases hC:op.isC
   ·simp only[WA (o:=⟨d,op,none,false⟩) hC,evOper,wanted,Xw]
    cases evOp (CALLO tab) ρ {m with floor:=m0.floor} op<;>simp[Opt,Xd]
   ·simp only[evOperS,evOper,keptG,wanted]
    cases evOp (CALLO tab) ρ {m with floor:=m0.floor} op with
    |none=>simp[Opt]
    |some r=>
     simp only[w04,z9]
     cases hk:kept op m0 ws m r.2<;>simp[Opt,Xd]
theorem Xw_0 (v:AV) (m1 m0:Mem) (fl:Nat):Xw tab (some (v,m1)) 0 fl m0 ws d l ρ m k=Xd tab fl m0 ws l (setDst ρ d v) m k:=by unfold Xw;rw[z9];rfl
theorem Xw_1 (v:AV) (m1 m0:Mem) (fl:Nat):Xw tab (some (v,m1)) 1 fl m0 ws d l ρ m k=Xd tab fl m0 ws l (setDst ρ d v) {m1 with floor:=m.floor} k:=by unfold Xw;rw[z9];rfl
theorem Xw_2 (v:AV) (m1 m0:Mem) (fl:Nat):Xw tab (some (v,m1)) 2 fl m0 ws d l ρ m k=Xd tab fl m0 ws l (setDst ρ d v) m1 k:=by unfold Xw;rw[z9];rfl
theorem z0Q (ρ:List AV) (p:Bool) (s b:Nat) (x y:Opd):clear ρ (.ext (.appB p s b x y)) []=true:=by unfold clear;simp only;split<;>rfl
theorem zan (ρ:List AV) (n:Nat) (a x:Opd):clear ρ (.store n a x) []=true:=by unfold clear;simp only;split<;>rfl
theorem z88 (ρ:List AV) (m0:Mem) (g:Bool) (n:Nat) (a:Opd) (ws:Watch):watch ρ m0 (.load g n a) ws=ws:=rfl
theorem z6d (ρ:List AV) (m0:Mem) (g:Bool) (n:Nat) (a:Opd) (ws:Watch):watch ρ m0 (.ext (.wload g n a)) ws=match a.ev ρ with| .ptr l k st off=>(l,k,off,n,((m0.at (.ptr l k st off)).getD []).take n)::ws|_=>ws:=rfl
theorem z8Q (ρ:List AV) (n:Nat) (a x:Opd) (w:Nat×Nat×Nat×Nat×List AV) (ws:Watch):clear ρ (.store n a x) (w::ws)=match a.ev ρ with| .ptr l k _ off=>((w.1 !=l||w.2.1 !=k||decide (off+n≤w.2.2.1)||decide (w.2.2.1+w.2.2.2.1≤off)||(decide (off=w.2.2.1)&&same (x.ev ρ).cells w.2.2.2.2))&&ws.all fun w=>w.1 !=l||w.2.1 !=k||decide (off+n≤w.2.2.1)||decide (w.2.2.1+w.2.2.2.1≤off)||(decide (off=w.2.2.1)&&same (x.ev ρ).cells w.2.2.2.2))|_=>true:=by unfold clear;rfl
theorem X_fn {f:Nat} {fn:AFunc} (h:tab f=some fn) (args:List AV) (m:Mem) (R:AV→Mem→Prop):
  Opt (CALL tab f args m) (fun r=>R r.1 r.2)=X tab fn.body (args++List.replicate (fn.ntmps-args.length) (.tup [])) (enter m) (.fin fn.res m R):=by
 rw[zbS tab h];rfl
end
section
variable {tab : Nat → Option AFunc} {ρ : List AV} {m : Mem} {k : Kont} {a : ACode}
theorem zt {live:List Nat} {nb:Nat} {α:Type} (I:α→St→Prop) (r:α→Nat) (x0:α) (h0:I x0 ⟨ρ,m⟩)
  (h: ∀x σ,I x σ→X tab a (heads live nb σ).ρ (heads live nb σ).m (.again (fun σ'=> ∃y,r y<r x∧I y σ') k)):XL tab live nb a ρ m k:=
 zaB I r x0 h0 h
def Does (tab:Nat→Option AFunc) (f:Nat) (args:List AV) (m:Mem) (R:AV→Mem→Prop):Prop:=Opt (CALL tab f args m) fun r=>R r.1 r.2
theorem jW {f:Nat} {fn:AFunc} (h:tab f=some fn) {args:List AV} {m:Mem} {R:AV→Mem→Prop} (hx:X tab fn.body (mk fn.ntmps (.tup []) (numb 0 args)) (enter m) (.fin fn.res m R)) (hn:args.length≤fn.ntmps):Does tab f args m R:=by
 unfold Does;rw[X_fn tab h,zcB _ _ hn];exact hx
theorem z8 {stk:List (List Blk)} {cur c':List Blk} {nx nx' fl fl':Nat} {live live':List (List Nat)} {own:List Nat} {r:AV} (h1:r.refs (stk++[cur]).length=false) (h2:r.toks=[]):
  leave ⟨stk,cur,nx,live,fl⟩ ⟨stk++[cur],c',nx',own::live',fl'⟩ r=some (r,⟨stk,cur,nx',live',fl⟩):=by
 have e:own.filter (fun _=>false)=[]:=by simp
 unfold leave
 simp only[List.getLast?_append,List.getLast?_singleton,Option.some_or,h1,w08,if_false,h2,List.contains_nil,e,pushToks,List.dropLast_concat]
theorem z48 {stk:List (List Blk)} {cur c':List Blk} {nx nx' fl fl':Nat} {live live':List (List Nat)} {own:List Nat} {r:AV} (h1:r.refs (stk++[cur]).length=false):
  leave ⟨stk,cur,nx,live,fl⟩ ⟨stk++[cur],c',nx',own::live',fl'⟩ r=some (r,⟨stk,cur,nx',pushToks (own.filter fun t=>r.toks.contains t) live',fl⟩):=by
 unfold leave
 simp only[List.getLast?_append,List.getLast?_singleton,Option.some_or,h1,w08,if_false,List.dropLast_concat]
end
attribute [go_sem] z9E z6d z0Q z8Q List.all_nil w1c zan z88 true_and List.set_cons_succ List.set_cons_zero List.getD_cons_succ List.getD_cons_zero List.replicate_succ List.replicate_zero zaY z9Q z9D z6w zcE zbB z9M zaU zbX Bool.not_true Bool.not_false ne_eq not_true_eq_false not_false_eq_true Bool.false_and Bool.and_false Bool.not_not zdG ze7 zdI ze8 ze9 ze6 zcT zdH zdK zcS zbM zdA zcP zbH ze2 ze5 ze3 ze4 ze1 va zdB z91 z7Z zbI z5Z z3t
 zbJ z60 z3u zdC zdD zdJ zdE zbL zdX ze0 zdY zdZ zdW zdF zcQ zbK zcR Xw_0 Xw_1 Xw_2 za6 zcs zbg zae zcw
 zad zct zbj zcx zcy zdr zbl zab za5 z7h zbh zaa za9 za8 z8F z8D z8E zcu zbk zcz zds
 zdt za7 z8C z8B zbi z7i zbm zac zdb zdQ zaf zcA evOp evCall z97 Opd.ev zas z8U
 zaq zao z8R z8T zar zap zbC z5A zbD z7z Mem.bump zaT zc9 zc7 zaQ zaS zca zc8 zdi z8m zdj z9K allOne w24 List.length_nil
 w2d List.nil_append w16 w20 Nat.add_zero beq_self_eq_true if_true if_false ite_true ite_false w08 Mem.new enter Mem.at Mem.blk Mem.row Mem.put Mem.putS evFaddr
 z6n z99 evStore splice List.take_succ_cons List.take_zero List.drop_succ_cons List.drop_zero List.drop_nil List.take_nil List.getElem?_cons_succ w35 w04
 w19 Option.map_none Option.bind_none w21 List.map_nil List.head?_cons w0f decide_true decide_false Bool.and_self Bool.and_true Bool.true_and evBin evInt sameKind evMax
 evMin evUn heads cut List.contains_cons List.contains_nil Bool.or_false Bool.or_true Bool.false_or Bool.true_or evRess evRes packRes z8 z9
 AV.refs AV.toks z8G z7r addTok VA zc zcv XOp.isPut evX nilOf nilChkV Mem.ents evMput evCopy isKey isPlain mapGet mapPut keyEq zaR z8S
end Go.Vs
end
section
namespace Go.Vs.U
open Go.Vs
@[go_sem] def m (d s:Nat):AOper:=⟨some d,.mov (.t s),none,false⟩
@[go_sem] def o (d:Nat) (op:AOp):AOper:=⟨some d,op,none,false⟩
@[go_sem] def y (d g:Nat) (op:AOp):AOper:=⟨some d,op,some (g,true),false⟩
@[go_sem] def z (d g:Nat) (op:AOp):AOper:=⟨some d,op,some (g,false),false⟩
@[go_sem] def w (d:Nat) (op:AOp):AOper:=⟨some d,op,none,true⟩
@[go_sem] def s (n a:Nat) (x:Opd):AOper:=⟨none,.store n (.t a) x,none,false⟩
@[go_sem] def ld (n a:Nat):AOp:= .load false n (.t a)
@[go_sem] def lg (n a:Nat):AOp:= .load true n (.t a)
@[go_sem] def fa (n a:Nat):AOp:= .faddr n (.t a)
@[go_sem] def ia (n a b:Nat):AOp:= .iaddr n (.t a) (.t b)
@[go_sem] def le (a:Nat):AOp:= .len (.t a)
@[go_sem] def v (x:Opd):AOp:= .mov x
@[go_sem] def mt (a:Nat):AOp:= .mov (.t a)
@[go_sem] def ki (n:Int):Opd:= .c (.int .i64 n)
@[go_sem] def ku (n:Int):Opd:= .c (.int .u8 n)
@[go_sem] def kf:Opd:= .c (.bool false)
@[go_sem] def kt:Opd:= .c (.bool true)
@[go_sem] def kn:Opd:= .c .nils
@[go_sem] def b (op:BinOp) (x y:Nat):AOp:= .bin op (.t x) (.t y)
@[go_sem] def bi (op:BinOp) (x:Nat) (n:Int):AOp:= .bin op (.t x) (.c (.int .i64 n))
@[go_sem] def bu (op:BinOp) (x:Nat) (n:Int):AOp:= .bin op (.t x) (.c (.int .u8 n))
@[go_sem] def ex (a i:Nat):AOp:= .extract (.t a) i
@[go_sem] def cf (f:Nat) (l:List Opd):AOp:= .call (.c (.fn (.func f) [] [])) l
@[go_sem] def cg (f:Nat) (l:List Nat):AOp:= .call (.c (.fn (.func f) [] [])) (l.map .t)
@[go_sem] def pf (a b:Nat):AOp:= .pick (.t a) (.t b) (.c (.bool false))
@[go_sem] def pt (a b:Nat):AOp:= .pick (.t a) (.c (.bool true)) (.t b)
@[go_sem] def ap (n k a b:Nat):AOp:= .app n k (.t a) (.t b)
@[go_sem] def bx (n a:Nat):AOp:= .box n (.t a)
@[go_sem] def li (n:Nat) (l:List Nat):AOp:= .lit n (l.map .t)
@[go_sem] def q (a b:ACode):ACode:= .seq a b
@[go_sem] def p (l:List AOper):ACode:= .ops l
@[go_sem] def c (t:Nat) (a b:ACode):ACode:= .cond (.t t) a b
@[go_sem] def k:ACode:= .skip
@[go_sem] def r:ACode:= .ret
@[go_sem] def bl (i:Nat) (a:ACode):ACode:= .block i a
@[go_sem] def lo (l:List Nat) (a:ACode):ACode:= .loop l a
@[go_sem] def e (i:Nat):ACode:= .exit i
@[go_sem] def iz:AV:= .int .i64 0
@[go_sem] def g (l:List AOper) (a:ACode):ACode:= .seq (.ops l) a
@[go_sem] def V (d:Nat) (x:Int):AOper:=o d (v (ki x))
@[go_sem] def W (d:Nat) (x:Opd):AOper:=o d (v x)
end Go.Vs.U
namespace Go.Vs
theorem tab1 {P:Go.Program} {f:Nat} {fn:Go.Func} {n:List (List Nat)} {a afn:AFunc} (hf:P.funcs[f]? =some fn) (hc:compFn P fn n=some a) (h:some a=some afn):(∃fn n,P.funcs[f]? =some fn∧compFn P fn n=some afn)∨ ∃b,afn=constFn b∧Known P f b:=by
 injection h with h;subst h;exact .inl ⟨fn,n,hf,hc⟩
theorem tab2 {P:Go.Program} {f:Nat} {b:Bool} {afn:AFunc} (hk:Known P f b) (h:some (constFn b)=some afn):(∃fn n,P.funcs[f]? =some fn∧compFn P fn n=some afn)∨ ∃b,afn=constFn b∧Known P f b:=by
 injection h with h;subst h;exact .inr ⟨b,rfl,hk⟩
end Go.Vs
end
section
namespace Go.Proofs.W
open Go.Vs Go.Vs.U
set_option maxRecDepth 100000
def y8:Nat:=5
def F_again_Exchange:Nat:=18
def yu:Nat:=19
def yF:Nat:=22
def yG:Nat:=23
def F_wreckageref25_Bytes:Nat:=24
def tz:Nat:=25
def F_parse_Dump:Nat:=26
def F_section_Read:Nat:=27
def F_again_find:Nat:=48
def F_section_Write:Nat:=49
def zl:Nat:=50
def zD:Nat:=53
def zI:Nat:=54
def yE:Nat:=55
def F_wreckageref25_four:Nat:=56
def F_wreckageref01_On:Nat:=57
def F_section_Check:Nat:=58
def F_bytes_Clone:Nat:=59
def F_bytes_HasPrefix:Nat:=66
def F_crc_Table:Nat:=67
def F_crc_Sum:Nat:=68
def F_section_number:Nat:=69
def F_section_ordered:Nat:=70
def F_slices_IndexFunc_api_Section_api_Section:Nat:=101
def F_again_find_1:Nat:=102
def F_section_fixed:Nat:=103
def F_wreckageref02_Little:Nat:=113
def F_wreckageref01_Table:Nat:=114
def F_section_length:Nat:=115
def F_bytes_Equal:Nat:=142
def F_crc_turn:Nat:=143
def F_crc_Next:Nat:=144
def F_wire_Fixed:Nat:=173
def F_wreckageref01_Element:Nat:=178
def F_crc_check:Nat:=194
def F_crc_steps:Nat:=195
def F_wire_wide:Nat:=242
def F_wreckagelaw35_alive:Nat:=21
def F_dump_Check:Nat:=37
def F_image_Decode:Nat:=60
def F_heads_ReadEnded:Nat:=61
def F_memory_ReadHeap:Nat:=62
def F_memory_ReadStacks:Nat:=63
def F_heads_ReadHeads:Nat:=64
def F_heads_ReadChains:Nat:=65
def ze:AFunc:=⟨211,[.tmp 8],(g [W 8 kf] (g [o 29 (cg F_wreckagelaw35_alive []),m 9 29] (q (g [m 30 0,o 31 (cg yF [30]),m 32 31,z 33 32 (mt 0),z 34 32 (cg yG [33]),z 35 32 (bi .neq 34 0),o 36 (pt 32 35),m 37 36,z 38 37 (mt 2),z 39 37 (le 38),z 40 37 (bi .gtr 39 1000),o 41 (pt 37 40),m 42 41,z 43 42 (mt 3),z 44 42 (le 43),z 45 42 (bi .gtr 44 1000),o 46 (pt 42 45),m 47 46,z 48 47 (mt 9),z 49 47 (.un .not (.t 48)),o 50 (pt 47 49)] (c 50 (g [m 51 9,m 8 51] r) k)) (g [m 52 0,o 53 (cg F_wreckageref25_Bytes [52]),m 10 53] (g [m 55 0,m 56 1,o 57 (cg tz [55,56]),m 54 57,o 58 (ex 54 0),o 59 (ex 54 1),m 11 58,m 12 59] (g [m 61 10,m 62 1,m 63 11,o 64 (cg F_again_Exchange [61,62,63]),m 60 64,o 65 (ex 60 0),o 66 (ex 60 1),m 13 65,m 14 66] (g [m 68 10,m 69 1,m 70 2,o 71 (cg F_again_Exchange [68,69,70]),m 67 71,o 72 (ex 67 0),o 73 (ex 67 1),m 15 72,m 16 73] (g [m 75 15,m 76 1,m 77 3,o 78 (cg F_again_Exchange [75,76,77]),m 74 78,o 79 (ex 74 0),o 80 (ex 74 1),m 17 79,m 18 80] (g [m 82 10,m 83 1,m 84 3,o 85 (cg F_again_Exchange [82,83,84]),m 81 85,o 86 (ex 81 0),o 87 (ex 81 1),m 19 86,m 20 87] (g [m 89 10,m 90 1,o 91 (cg yu [89,90]),m 88 91,o 92 (ex 88 0),o 93 (ex 88 1),m 21 92,m 22 93] (g [m 95 21,o 96 (cg F_parse_Dump [95]),m 94 96,o 97 (ex 94 0),o 98 (ex 94 1),o 23 (.alloc [.nils,.nils,.nils,.int .u8 (0),iz,iz,.int .u64 (0),.nils,.nils,.nils,.nils,.nils]),s 12 23 (.t 97),m 24 98] (q (g [m 99 12,o 100 (bi .neq 99 0)] (c 100 (g [m 101 9,m 102 101,y 103 102 (mt 14),y 104 102 (bi .eql 103 6),o 105 (pf 102 104),m 106 105,y 107 106 (mt 16),y 108 106 (bi .eql 107 6),o 109 (pf 106 108),m 110 109,y 111 110 (mt 20),y 112 110 (bi .eql 111 6),o 113 (pf 110 112),m 114 113,y 115 114 (mt 22),y 116 114 (bi .eql 115 6),o 117 (pf 114 116),m 8 117] r) k)) (q (g [m 118 14,o 119 (bi .neq 118 0),m 120 119,z 121 120 (mt 13),z 122 120 (.toStr (.t 121)),z 123 120 (mt 10),z 124 120 (.toStr (.t 123)),z 125 120 (b .neq 122 124),o 126 (pt 120 125),m 127 126,z 128 127 (mt 16),z 129 127 (bi .neq 128 0),o 130 (pt 127 129),m 131 130,z 132 131 (mt 18),z 133 131 (bi .neq 132 0),o 134 (pt 131 133),m 135 134,z 136 135 (mt 20),z 137 135 (bi .neq 136 0),o 138 (pt 135 137),m 139 138,z 140 139 (mt 17),z 141 139 (.toStr (.t 140)),z 142 139 (mt 19),z 143 139 (.toStr (.t 142)),z 144 139 (b .neq 141 143),o 145 (pt 139 144),m 146 145,z 147 146 (mt 22),z 148 146 (bi .neq 147 0),o 149 (pt 146 148),m 150 149,z 151 150 (mt 24),z 152 150 (bi .neq 151 12),o 153 (pt 150 152)] (c 153 (g [W 8 kf] r) k)) (g [m 155 19,o 156 (cg F_section_Read [155]),m 154 156,o 157 (ex 154 0),o 158 (ex 154 1),m 25 157,m 26 158] (q (g [m 159 26,o 160 (bi .neq 159 0),m 161 160,z 162 161 (mt 25),z 163 161 (le 162),z 164 161 (mt 0),z 165 161 (le 164),z 166 161 (b .neq 163 165),o 167 (pt 161 166)] (c 167 (g [W 8 kf] r) k)) (q (g [V 27 0] (bl 0 (lo [0,1,3,9,25,27] (q (g [m 168 27,m 169 0,o 170 (le 169),o 171 (b .lss 168 170)] (c 171 k (e 0))) (q (bl 1 (g [m 174 0,m 175 27,o 176 (ia 2 174 175),o 177 (fa 1 176),o 178 (ld 1 177),o 179 (.toStr (.t 178)),m 28 179] (q (g [m 180 0,m 181 27,o 182 (ia 2 180 181),o 183 (fa 0 182),o 184 (ld 1 183),m 185 1,o 186 (b .eql 184 185)] (c 186 (p [m 187 3,o 188 (.toStr (.t 187)),m 28 188]) k)) (q (.draw [m 189 25,m 190 27,o 191 (ia 2 189 190),o 192 (fa 0 191),o 193 (ld 1 192),m 194 0,m 195 27,o 196 (ia 2 194 195),o 197 (fa 0 196),o 198 (ld 1 197),o 199 (b .neq 193 198),m 200 199,z 201 200 (mt 25),z 202 200 (mt 27),z 203 200 (ia 2 201 202),z 204 200 (fa 1 203),z 205 200 (ld 1 204),z 206 200 (.toStr (.t 205)),z 207 200 (mt 28),z 208 200 (b .neq 206 207),o 209 (pt 200 208)]) (c 209 (g [W 8 kf] r) k))))) (p [m 172 27,o 173 (bi .add 172 1),m 27 173])))))) (g [m 210 9,m 8 210] r)))))))))))))))))⟩
def vD:List (List Nat):=[[0,1,3,9,25,27],[777777,654321]]
def a_again_Exchange:AFunc:=⟨30,[.tmp 6,.tmp 7],(g [W 6 kn,V 7 0] (g [m 12 0,m 13 1,o 14 (cg F_again_find [12,13]),m 11 14,o 15 (ex 11 0),o 16 (ex 11 1),o 17 (ex 11 2),m 8 15,m 9 16,m 10 17] (q (g [m 18 10,o 19 (bi .neq 18 0)] (c 19 (g [m 20 10,W 6 kn,m 7 20] r) k)) (g [m 21 8,m 22 9,m 23 2,o 24 (ia 2 21 22),o 25 (fa 1 24),s 1 25 (.t 23)] (g [m 26 8,o 27 (cg F_section_Write [26]),o 28 (ex 27 0),o 29 (ex 27 1),m 6 28,m 7 29] r)))))⟩
def n_again_Exchange:List (List Nat):=[]
def ul:AFunc:=⟨27,[.tmp 4,.tmp 5],(g [W 4 kn,V 5 0] (g [m 10 0,m 11 1,o 12 (cg F_again_find [10,11]),m 9 12,o 13 (ex 9 0),o 14 (ex 9 1),o 15 (ex 9 2),m 6 13,m 7 14,m 8 15] (q (g [m 16 8,o 17 (bi .neq 16 0)] (c 17 (g [m 18 8,W 4 kn,m 5 18] r) k)) (g [m 19 6,m 20 7,m 21 7,o 22 (bi .add 21 1),o 23 (cg zl [19,20,22]),o 24 (cg F_section_Write [23]),o 25 (ex 24 0),o 26 (ex 24 1),m 4 25,m 5 26] r))))⟩
def TQ:List (List Nat):=[]
def yA:AFunc:=⟨42,[.tmp 2],(g [W 2 kf] (q (g [V 3 0] (bl 0 (lo [0,3] (q (g [m 4 3,m 5 0,o 6 (le 5),o 7 (b .lss 4 6),m 8 7,y 9 8 (mt 3),y 10 8 (bi .leq 9 20),o 11 (pf 8 10)] (c 11 k (e 0))) (q (bl 1 (g [m 14 0,m 15 3,o 16 (ia 2 14 15),o 17 (fa 1 16),o 18 (ld 1 17),o 19 (le 18),o 20 (bi .gtr 19 1500),m 21 20,y 22 21 (mt 0),y 23 21 (mt 3),y 24 21 (ia 2 22 23),y 25 21 (fa 1 24),y 26 21 (ld 1 25),y 27 21 (le 26),y 28 21 (bi .leq 27 200000),o 29 (pf 21 28),m 30 29,z 31 30 (mt 0),z 32 30 (mt 3),z 33 30 (ia 2 31 32),z 34 30 (fa 1 33),z 35 30 (ld 1 34),z 36 30 (le 35),z 37 30 (bi .gtr 36 200100),o 38 (pt 30 37)] (c 38 (g [W 2 kt] r) k))) (p [m 12 3,o 13 (bi .add 12 1),m 3 13])))))) (g [m 39 0,o 40 (le 39),o 41 (bi .gtr 40 20),m 2 41] r)))⟩
def Za:List (List Nat):=[[0,3]]
def yB:AFunc:=⟨10,[.tmp 2],(g [V 2 0] (q (g [m 3 0,o 4 (cg zD [3]),o 5 (.un .not (.t 4))] (c 5 (g [V 2 8] r) k)) (q (g [m 6 0,o 7 (cg yE [6]),o 8 (cg zI [7]),o 9 (bi .lss 8 0)] (c 9 (g [V 2 4] r) k)) (g [V 2 0] r))))⟩
def Zb:List (List Nat):=[]
def a_wreckageref25_Bytes:AFunc:=⟨80,[.tmp 2],(g [W 2 kn] (g [m 7 0,o 8 (le 7),o 9 (.conv .u8 (.t 8)),o 10 (.lit 1 [(ku 87),(ku 82),(ku 67),(ku 75),(ku 1),(.t 9)]),m 3 10] (g [m 11 0,o 12 (le 11),o 13 (.bin .mul (ki 13) (.t 12)),o 14 (.bin .add (ki 10) (.t 13)),m 4 14] (q (g [V 5 0] (bl 0 (lo [0,3,4,5] (q (g [m 15 5,m 16 0,o 17 (le 16),o 18 (b .lss 15 17)] (c 18 k (e 0))) (q (bl 1 (g [m 21 3,m 22 0,m 23 5,o 24 (ia 2 22 23),o 25 (fa 0 24),o 26 (ld 1 25),o 27 (li 1 [26]),o 28 (ap 1 1 21 27),m 3 28] (g [m 29 3,m 30 4,o 31 (.conv .u32 (.t 30)),o 32 (cg F_wreckageref25_four [31]),o 33 (ap 1 1 29 32),m 3 33] (g [m 34 3,m 35 0,m 36 5,o 37 (ia 2 35 36),o 38 (fa 1 37),o 39 (ld 1 38),o 40 (le 39),o 41 (.conv .u32 (.t 40)),o 42 (cg F_wreckageref25_four [41]),o 43 (ap 1 1 34 42),m 3 43] (g [m 44 3,m 45 0,m 46 5,o 47 (ia 2 45 46),o 48 (fa 1 47),o 49 (ld 1 48),o 50 (cf F_wreckageref01_On [(.c (.int .u32 (0))),(.t 49)]),o 51 (cg F_wreckageref25_four [50]),o 52 (ap 1 1 44 51),m 3 52] (p [m 53 4,m 54 0,m 55 5,o 56 (ia 2 54 55),o 57 (fa 1 56),o 58 (ld 1 57),o 59 (le 58),o 60 (b .add 53 59),m 4 60])))))) (p [m 19 5,o 20 (bi .add 19 1),m 5 20])))))) (g [m 61 3,m 62 3,o 63 (cf F_wreckageref01_On [(.c (.int .u32 (0))),(.t 62)]),o 64 (cg F_wreckageref25_four [63]),o 65 (ap 1 1 61 64),m 3 65] (q (g [V 6 0] (bl 2 (lo [0,3,6] (q (g [m 66 6,m 67 0,o 68 (le 67),o 69 (b .lss 66 68)] (c 69 k (e 2))) (q (bl 3 (p [m 72 3,m 73 0,m 74 6,o 75 (ia 2 73 74),o 76 (fa 1 75),o 77 (ld 1 76),o 78 (ap 1 1 72 77),m 3 78])) (p [m 70 6,o 71 (bi .add 70 1),m 6 71])))))) (g [m 79 3,m 2 79] r)))))))⟩
def n_wreckageref25_Bytes:List (List Nat):=[[0,3,4,5],[0,3,6]]
def tj:AFunc:=⟨28,[.tmp 4,.tmp 5],(g [W 4 kn,V 5 0] (q (g [m 9 0,o 10 (cg F_section_Check [9]),m 6 10] (g [m 11 6,o 12 (bi .neq 11 0)] (c 12 (g [m 13 6,W 4 kn,m 5 13] r) k))) (q (g [m 14 0,o 15 (le 14),V 16 0] (bl 0 (lo [1,14,15,16] (g [o 17 (b .lss 16 15)] (q (c 17 k (e 0)) (q (bl 1 (g [o 18 (ia 2 14 16),o 19 (lg 2 18),o 8 (.alloc [.int .u8 (0),.nils]),s 2 8 (.t 19)] (g [o 20 (fa 0 8),o 21 (ld 1 20),m 22 1,o 23 (b .eql 21 22)] (c 23 (g [o 24 (fa 1 8),o 25 (ld 1 24),o 26 (cg F_bytes_Clone [25]),m 4 26,V 5 0] r) k)))) (p [o 27 (bi .add 16 1),m 16 27]))))))) (g [W 4 kn,V 5 6] r))))⟩
def QQ:List (List Nat):=[[1,14,15,16]]
def a_parse_Dump:AFunc:=⟨109,[.cell 2 true 12,.tmp 3],(g [o 2 (.alloc [.nils,.nils,.nils,.int .u8 (0),iz,iz,.int .u64 (0),.nils,.nils,.nils,.nils,.nils]),V 3 0] (g [m 12 0,o 13 (cg F_section_Read [12]),m 11 13,o 14 (ex 11 0),o 15 (ex 11 1),m 4 14,m 5 15] (q (g [m 16 5,o 17 (bi .neq 16 0)] (c 17 (g [o 18 (.build [.nils,.nils,.nils,.int .u8 (0),iz,iz,.int .u64 (0),.nils,.nils,.nils,.nils,.nils] []),m 19 5,s 12 2 (.t 18),m 3 19] r) k)) (q (g [m 20 4,o 21 (le 20),o 22 (bi .neq 21 7)] (c 22 (g [o 23 (.build [.nils,.nils,.nils,.int .u8 (0),iz,iz,.int .u64 (0),.nils,.nils,.nils,.nils,.nils] []),s 12 2 (.t 23),V 3 12] r) k)) (g [o 6 (.alloc [.nils,.nils,.nils,.int .u8 (0),iz,iz,.int .u64 (0),.nils,.nils,.nils,.nils,.nils])] (g [o 7 (.alloc [iz,iz,iz,iz,iz,iz,iz])] (g [m 25 4,o 26 (.iaddr 2 (.t 25) (ki 0)),o 27 (fa 1 26),o 28 (ld 1 27),o 29 (cg F_image_Decode [28]),m 24 29,o 30 (ex 24 0),o 31 (ex 24 1),o 32 (fa 0 6),s 3 32 (.t 30),o 33 (.iaddrA 7 1 (.t 7) (ki 0)),s 1 33 (.t 31)] (g [m 35 4,o 36 (.iaddr 2 (.t 35) (ki 1)),o 37 (fa 1 36),o 38 (ld 1 37),o 39 (cg F_heads_ReadEnded [38]),m 34 39,o 40 (ex 34 0),o 41 (ex 34 1),o 42 (fa 3 6),s 3 42 (.t 40),o 43 (.iaddrA 7 1 (.t 7) (ki 1)),s 1 43 (.t 41)] (g [m 45 4,o 46 (.iaddr 2 (.t 45) (ki 2)),o 47 (fa 1 46),o 48 (ld 1 47),o 49 (cg F_memory_ReadHeap [48]),m 44 49,o 50 (ex 44 0),o 51 (ex 44 1),o 52 (fa 6 6),s 2 52 (.t 50),o 53 (.iaddrA 7 1 (.t 7) (ki 2)),s 1 53 (.t 51)] (g [m 55 4,o 56 (.iaddr 2 (.t 55) (ki 3)),o 57 (fa 1 56),o 58 (ld 1 57),o 59 (cg F_memory_ReadStacks [58]),m 54 59,o 60 (ex 54 0),o 61 (ex 54 1),o 62 (fa 8 6),s 1 62 (.t 60),o 63 (.iaddrA 7 1 (.t 7) (ki 3)),s 1 63 (.t 61)] (g [m 65 4,o 66 (.iaddr 2 (.t 65) (ki 4)),o 67 (fa 1 66),o 68 (ld 1 67),o 69 (cg F_heads_ReadHeads [68]),m 64 69,o 70 (ex 64 0),o 71 (ex 64 1),o 72 (fa 9 6),s 1 72 (.t 70),o 73 (.iaddrA 7 1 (.t 7) (ki 4)),s 1 73 (.t 71)] (g [m 75 4,o 76 (.iaddr 2 (.t 75) (ki 5)),o 77 (fa 1 76),o 78 (ld 1 77),o 79 (cg F_heads_ReadChains [78]),m 74 79,o 80 (ex 74 0),o 81 (ex 74 1),o 82 (fa 10 6),s 1 82 (.t 80),o 83 (.iaddrA 7 1 (.t 7) (ki 5)),s 1 83 (.t 81)] (g [m 85 4,o 86 (.iaddr 2 (.t 85) (ki 6)),o 87 (fa 1 86),o 88 (ld 1 87),o 89 (cg F_heads_ReadChains [88]),m 84 89,o 90 (ex 84 0),o 91 (ex 84 1),o 92 (fa 11 6),s 1 92 (.t 90),o 93 (.iaddrA 7 1 (.t 7) (ki 6)),s 1 93 (.t 91)] (q (g [o 94 (lg 7 7),V 95 0] (bl 0 (lo [2,6,94,95] (g [o 96 (bi .lss 95 7)] (q (c 96 k (e 0)) (q (bl 1 (g [o 97 (.indexA 7 1 false (.t 94) (.t 95)),m 9 97] (g [m 98 9,o 99 (bi .neq 98 0)] (c 99 (g [o 100 (.build [.nils,.nils,.nils,.int .u8 (0),iz,iz,.int .u64 (0),.nils,.nils,.nils,.nils,.nils] []),s 12 2 (.t 100),V 3 12] r) k)))) (p [o 101 (bi .add 95 1),m 95 101]))))))) (q (g [o 102 (lg 12 6),o 103 (cg F_dump_Check [102]),m 10 103] (g [m 104 10,o 105 (bi .neq 104 0)] (c 105 (g [o 106 (.build [.nils,.nils,.nils,.int .u8 (0),iz,iz,.int .u64 (0),.nils,.nils,.nils,.nils,.nils] []),m 107 10,s 12 2 (.t 106),m 3 107] r) k))) (g [o 108 (lg 12 6),s 12 2 (.t 108),V 3 0] r))))))))))))))))⟩
def n_parse_Dump:List (List Nat):=[[2,6,94,95]]
def a_section_Read:AFunc:=⟨151,[.tmp 2,.tmp 3],(g [W 2 kn,V 3 0] (q (bl 0 (g [m 19 0,o 20 (le 19),o 21 (bi .gtr 20 200000),m 18 21] (c 18 (g [W 2 kn,V 3 4] r) (g [m 23 0,o 24 (le 23),o 25 (bi .lss 24 10),m 22 25] (c 22 (g [W 2 kn,V 3 24] r) (g [m 27 0,o 28 (.lit 1 [(ku 87),(ku 82),(ku 67),(ku 75)]),o 29 (.slice 1 (.t 28) none none none),o 30 (.lit 1 [(ku 1)]),o 31 (ap 1 1 29 30),o 32 (cg F_bytes_HasPrefix [27,31]),o 33 (.un .not (.t 32)),m 34 33,z 35 34 (mt 0),z 36 34 (.iaddr 1 (.t 35) (ki 5)),z 37 34 (ld 1 36),z 38 34 (bu .gtr 37 7),o 39 (pt 34 38),m 26 39] (c 26 (g [W 2 kn,V 3 12] r) k))))))) (g [m 40 0,o 41 (.iaddr 1 (.t 40) (ki 5)),o 42 (ld 1 41),o 43 (.conv .i64 (.t 42)),m 4 43] (g [m 44 4,o 45 (.bin .mul (ki 13) (.t 44)),o 46 (.bin .add (ki 6) (.t 45)),m 5 46] (q (g [m 47 0,o 48 (le 47),m 49 5,o 50 (bi .add 49 4),o 51 (b .lss 48 50)] (c 51 (g [W 2 kn,V 3 24] r) k)) (g [o 52 (cg F_crc_Table []),o 6 (.alloc (List.replicate 256 (.int .u32 (0)))),s 256 6 (.t 52)] (q (q (.draw [o 54 (lg 256 6),m 55 0,m 56 5,o 57 (.slice 1 (.t 55) none (some (.t 56)) none),o 58 (cg F_crc_Sum [54,57]),m 53 58,o 59 (ex 53 0),o 60 (ex 53 1),m 7 59,m 8 60]) (g [m 61 0,m 62 5,o 63 (.slice 1 (.t 61) (some (.t 62)) none none),o 64 (cg F_section_number [63]),m 65 7,o 66 (.conv .u64 (.t 65)),o 67 (b .neq 64 66)] (c 67 (g [W 2 kn,V 3 22] r) k))) (g [W 9 kn] (g [W 10 kn] (g [m 68 0,m 69 5,o 70 (bi .add 69 4),o 71 (.slice 1 (.t 68) (some (.t 70)) none none),m 11 71] (q (g [m 72 0,m 73 5,o 74 (.slice 1 (.t 72) (some (ki 6)) (some (.t 73)) none),m 12 74] (bl 1 (lo [0,6,9,10,11,12,999999] (q (g [m 75 12,o 76 (le 75),o 77 (bi .gtr 76 0)] (c 77 k (e 1))) (q (bl 2 (g [m 80 12,o 81 (.slice 1 (.t 80) (some (ki 5)) none none),o 82 (cg F_section_number [81]),m 13 82] (q (g [m 83 12,o 84 (.slice 1 (.t 83) (some (ki 1)) none none),o 85 (cg F_section_number [84]),m 86 0,o 87 (le 86),m 88 11,o 89 (le 88),o 90 (b .sub 87 89),o 91 (.conv .u64 (.t 90)),o 92 (b .neq 85 91),m 93 92,z 94 93 (mt 13),z 95 93 (mt 11),z 96 93 (le 95),z 97 93 (.conv .u64 (.t 96)),z 98 93 (b .gtr 94 97),o 99 (pt 93 98)] (c 99 (g [W 2 kn,V 3 12] r) k)) (q (.draw [m 100 9,m 101 12,o 102 (.iaddr 1 (.t 101) (ki 0)),o 103 (ld 1 102),m 104 11,m 105 13,o 106 (.slice 1 (.t 104) none (some (.t 105)) none),o 107 (cg F_bytes_Clone [106]),o 108 (.build [.int .u8 (0),.nils] [(0,1,(.t 103)),(1,1,(.t 107))]),o 109 (li 2 [108]),o 110 (.ext (.appB true 2 32 (.t 100) (.t 109))),m 9 110]) (g [m 111 10,m 112 12,o 113 (.slice 1 (.t 112) (some (ki 9)) none none),o 114 (cg F_section_number [113]),o 115 (li 1 [114]),o 116 (ap 1 8 111 115),m 10 116] (p [m 117 11,m 118 13,o 119 (.slice 1 (.t 117) (some (.t 118)) none none),m 11 119])))))) (p [m 78 12,o 79 (.slice 1 (.t 78) (some (ki 13)) none none),m 12 79])))))) (q (g [m 120 9,o 121 (cg F_section_ordered [120]),o 122 (.un .not (.t 121)),m 123 122,z 124 123 (mt 11),z 125 123 (le 124),z 126 123 (bi .gtr 125 0),o 127 (pt 123 126)] (c 127 (g [W 2 kn,V 3 12] r) k)) (q (g [m 128 9,o 129 (le 128),V 130 0] (bl 3 (lo [6,9,10,128,129,130] (g [o 131 (b .lss 130 129)] (q (c 131 k (e 3)) (q (bl 4 (g [m 132 130,o 133 (ia 2 128 130),o 134 (lg 2 133),o 15 (.alloc [.int .u8 (0),.nils]),m 14 132,s 2 15 (.t 134)] (g [o 136 (lg 256 6),o 137 (fa 1 15),o 138 (ld 1 137),o 139 (cg F_crc_Sum [136,138]),m 135 139,o 140 (ex 135 0),o 141 (ex 135 1),m 16 140,m 17 141] (g [m 142 16,o 143 (.conv .u64 (.t 142)),m 144 10,m 145 14,o 146 (ia 1 144 145),o 147 (ld 1 146),o 148 (b .neq 143 147)] (c 148 (g [W 2 kn,V 3 22] r) k))))) (p [o 149 (bi .add 130 1),m 130 149]))))))) (g [m 150 9,m 2 150,V 3 0] r))))))))))))))⟩
def n_section_Read:List (List Nat):=[[0,6,9,10,11,12,999999],[6,9,10,128,129,130],[777777,654321,110]]
def a_again_find:AFunc:=⟨25,[.tmp 4,.tmp 5,.tmp 6],(g [o 3 (bx 1 1),W 4 kn,V 5 0,V 6 0] (g [m 11 0,o 12 (cg F_section_Read [11]),m 10 12,o 13 (ex 10 0),o 14 (ex 10 1),m 7 13,m 8 14] (q (g [m 15 8,o 16 (bi .neq 15 0)] (c 16 (g [m 17 8,W 4 kn,V 5 0,m 6 17] r) k)) (g [m 18 7,o 19 (.mkfn (.func F_again_find_1) [] [(.t 3)]),o 20 (cg F_slices_IndexFunc_api_Section_api_Section [18,19]),m 9 20] (q (g [m 21 9,o 22 (bi .lss 21 0)] (c 22 (g [W 4 kn,V 5 0,V 6 6] r) k)) (g [m 23 7,m 24 9,m 4 23,m 5 24,V 6 0] r))))))⟩
def n_again_find:List (List Nat):=[]
def a_section_Write:AFunc:=⟨98,[.tmp 2,.tmp 3],(g [W 2 kn,V 3 0] (q (q (q (.frz [0]) (p [m 18 0,o 19 (cg F_section_Check [18]),m 4 19])) (g [m 20 4,o 21 (bi .neq 20 0)] (c 21 (g [m 22 4,W 2 kn,m 3 22] r) k))) (g [o 23 (cg F_crc_Table []),o 5 (.alloc (List.replicate 256 (.int .u32 (0)))),s 256 5 (.t 23)] (g [o 24 (.lit 1 [(ku 87),(ku 82),(ku 67),(ku 75)]),o 25 (.slice 1 (.t 24) none none none),m 26 0,o 27 (le 26),o 28 (.conv .u8 (.t 27)),o 29 (.lit 1 [(ku 1),(.t 28)]),o 30 (ap 1 1 25 29),m 6 30] (g [m 31 0,o 32 (le 31),o 33 (.bin .mul (ki 13) (.t 32)),o 34 (.bin .add (ki 6) (.t 33)),o 35 (bi .add 34 4),m 7 35] (q (g [m 36 0,o 37 (le 36),V 38 0] (bl 0 (lo [0,5,6,7,36,37,38] (g [o 39 (b .lss 38 37)] (q (c 39 k (e 0)) (q (bl 1 (g [o 40 (ia 2 36 38),o 41 (lg 2 40),o 9 (.alloc [.int .u8 (0),.nils]),s 2 9 (.t 41)] (g [o 43 (lg 256 5),o 44 (fa 1 9),o 45 (ld 1 44),o 46 (cg F_crc_Sum [43,45]),m 42 46,o 47 (ex 42 0),o 48 (ex 42 1),m 10 47,m 11 48] (g [m 49 6,o 50 (fa 0 9),o 51 (ld 1 50),o 52 (li 1 [51]),o 53 (ap 1 1 49 52),m 6 53] (q (g [m 54 7,o 55 (.conv .u32 (.t 54)),o 56 (fa 1 9),o 57 (ld 1 56),o 58 (le 57),o 59 (.conv .u32 (.t 58)),m 60 10,o 61 (.build [.int .u32 (0),.int .u32 (0),.int .u32 (0)] [(0,1,(.t 55)),(1,1,(.t 59)),(2,1,(.t 60))]),V 62 0] (bl 2 (lo [0,5,6,7,9,36,37,38,61,62] (g [o 63 (bi .lss 62 3)] (q (c 63 k (e 2)) (q (bl 3 (g [o 64 (.indexA 3 1 false (.t 61) (.t 62)),m 13 64] (p [m 65 6,m 66 13,o 67 (cg F_section_fixed [66]),o 68 (ap 1 1 65 67),m 6 68]))) (p [o 69 (bi .add 62 1),m 62 69]))))))) (p [m 70 7,o 71 (fa 1 9),o 72 (ld 1 71),o 73 (le 72),o 74 (b .add 70 73),m 7 74])))))) (p [o 75 (bi .add 38 1),m 38 75]))))))) (g [o 77 (lg 256 5),m 78 6,o 79 (cg F_crc_Sum [77,78]),m 76 79,o 80 (ex 76 0),o 81 (ex 76 1),m 14 80,m 15 81] (g [m 82 6,m 83 14,o 84 (cg F_section_fixed [83]),o 85 (ap 1 1 82 84),m 6 85] (q (g [m 86 0,o 87 (le 86),V 88 0] (bl 4 (lo [6,86,87,88] (g [o 89 (b .lss 88 87)] (q (c 89 k (e 4)) (q (bl 5 (g [o 90 (ia 2 86 88),o 91 (lg 2 90),o 17 (.alloc [.int .u8 (0),.nils]),s 2 17 (.t 91)] (p [m 92 6,o 93 (fa 1 17),o 94 (ld 1 93),o 95 (ap 1 1 92 94),m 6 95]))) (p [o 96 (bi .add 88 1),m 88 96]))))))) (g [m 97 6,m 2 97,V 3 0] r))))))))))⟩
def n_section_Write:List (List Nat):=[[0,5,6,7,36,37,38],[0,5,6,7,9,36,37,38,61,62],[6,86,87,88],[888888,18,0]]
def zr:AFunc:=⟨33,[.tmp 6],(g [W 6 kn] (g [m 8 0,m 9 1,m 10 2,m 11 0,o 12 (le 11),o 13 (.slice 2 (.t 8) (some (.t 9)) (some (.t 10)) (some (.t 12)))] (q (g [m 14 1,m 15 2,o 16 (b .eql 14 15)] (c 16 (g [m 17 0,m 6 17] r) k)) (g [m 18 0,o 19 (le 18),m 7 19] (q (.draw [m 20 0,m 21 1,o 22 (.slice 2 (.t 20) none (some (.t 21)) none),m 23 0,m 24 2,o 25 (.slice 2 (.t 23) (some (.t 24)) none none),o 26 (.ext (.appK 2 (.t 22) (.t 25))),m 0 26]) (g [m 27 0,m 28 0,o 29 (le 28),m 30 7,o 31 (.ext (.slcB 2 (.t 27) (some (.t 29)) (some (.t 30)))),⟨none,.ext (.clr [.int .u8 (0),.nils] (.t 31)),none,false⟩] (g [m 32 0,m 6 32] r)))))))⟩
def yK:List (List Nat):=[[777777,654321,500026,31]]
def y7:AFunc:=⟨45,[.tmp 2],(g [W 2 kf] (q (g [V 3 0] (bl 0 (lo [0,3] (q (g [m 4 3,m 5 0,o 6 (le 5),o 7 (b .lss 4 6)] (c 7 k (e 0))) (q (bl 1 (q (.draw [m 10 0,m 11 3,o 12 (ia 2 10 11),o 13 (fa 0 12),o 14 (ld 1 13),o 15 (bu .lss 14 1),m 16 15,z 17 16 (mt 0),z 18 16 (mt 3),z 19 16 (ia 2 17 18),z 20 16 (fa 0 19),z 21 16 (ld 1 20),z 22 16 (bu .gtr 21 7),o 23 (pt 16 22),m 24 23,z 25 24 (mt 3),z 26 24 (bi .gtr 25 0),z 27 24 (mt 26),y 28 27 (mt 0),y 29 27 (mt 3),y 30 27 (bi .sub 29 1),y 31 27 (ia 2 28 30),y 32 27 (fa 0 31),y 33 27 (ld 1 32),y 34 27 (mt 0),y 35 27 (mt 3),y 36 27 (ia 2 34 35),y 37 27 (fa 0 36),y 38 27 (ld 1 37),y 39 27 (b .geq 33 38),z 40 24 (pf 27 39),o 41 (pt 24 40)]) (c 41 (g [W 2 kf] r) k))) (p [m 8 3,o 9 (bi .add 8 1),m 3 9])))))) (g [m 42 0,o 43 (le 42),o 44 (bi .leq 43 7),m 2 44] r)))⟩
def qQ:List (List Nat):=[[0,3],[777777,654321]]
def yi:AFunc:=⟨29,[.tmp 2],(g [V 2 0] (g [m 5 0,o 6 (le 5),o 7 (.bin .mul (ki 13) (.t 6)),o 8 (.bin .add (ki 10) (.t 7)),m 3 8] (q (g [V 4 0] (bl 0 (lo [0,3,4] (q (g [m 9 4,m 10 0,o 11 (le 10),o 12 (b .lss 9 11)] (c 12 k (e 0))) (q (bl 1 (q (g [m 15 0,m 16 4,o 17 (ia 1 15 16),o 18 (ld 1 17),m 19 3,o 20 (.bin .sub (ki 200000) (.t 19)),o 21 (b .gtr 18 20)] (c 21 (g [V 2 (-1)] r) k)) (p [m 22 3,m 23 0,m 24 4,o 25 (ia 1 23 24),o 26 (ld 1 25),o 27 (b .add 22 26),m 3 27]))) (p [m 13 4,o 14 (bi .add 13 1),m 4 14])))))) (g [m 28 3,m 2 28] r))))⟩
def jy:List (List Nat):=[[0,3,4]]
def yz:AFunc:=⟨21,[.tmp 2],(g [W 2 kn] (g [W 3 kn] (q (g [V 4 0] (bl 0 (lo [0,3,4] (q (g [m 5 4,m 6 0,o 7 (le 6),o 8 (b .lss 5 7)] (c 8 k (e 0))) (q (bl 1 (p [m 11 3,m 12 0,m 13 4,o 14 (ia 2 12 13),o 15 (fa 1 14),o 16 (ld 1 15),o 17 (le 16),o 18 (li 1 [17]),o 19 (ap 1 8 11 18),m 3 19])) (p [m 9 4,o 10 (bi .add 9 1),m 4 10])))))) (g [m 20 3,m 2 20] r))))⟩
def Z9:List (List Nat):=[[0,3,4]]
def a_wreckageref25_four:AFunc:=⟨6,[.tmp 2],(g [W 2 kn] (g [m 3 0,o 4 (.conv .u64 (.t 3)),o 5 (cf F_wreckageref02_Little [(.t 4),(ki 4)]),m 2 5] r))⟩
def n_wreckageref25_four:List (List Nat):=[]
def a_wreckageref01_On:AFunc:=⟨32,[.tmp 4],(g [o 4 (v (.c (.int .u32 (0))))] (g [o 8 (cg F_wreckageref01_Table []),o 5 (.alloc (List.replicate 256 (.int .u32 (0)))),s 256 5 (.t 8)] (g [m 9 0,o 10 (.bin .xor (.t 9) (.c (.int .u32 (4294967295)))),m 6 10] (q (g [V 7 0] (bl 0 (lo [1,5,6,7] (q (g [m 11 7,m 12 1,o 13 (le 12),o 14 (b .lss 11 13)] (c 14 k (e 0))) (q (bl 1 (p [m 17 6,o 18 (.bin .quo (.t 17) (.c (.int .u32 (256)))),m 19 6,m 20 1,m 21 7,o 22 (ia 1 20 21),o 23 (ld 1 22),o 24 (.conv .u32 (.t 23)),o 25 (b .xor 19 24),o 26 (.bin .rem (.t 25) (.c (.int .u32 (256)))),o 27 (.iaddrA 256 1 (.t 5) (.t 26)),o 28 (ld 1 27),o 29 (b .xor 18 28),m 6 29])) (p [m 15 7,o 16 (bi .add 15 1),m 7 16])))))) (g [m 30 6,o 31 (.bin .xor (.t 30) (.c (.int .u32 (4294967295)))),m 4 31] r)))))⟩
def n_wreckageref01_On:List (List Nat):=[[1,5,6,7]]
def a_section_Check:AFunc:=⟨31,[.tmp 2],(g [V 2 0] (q (g [m 8 0,o 9 (cg F_section_ordered [8]),o 10 (.un .not (.t 9))] (c 10 (g [V 2 8] r) k)) (g [W 3 kn] (q (g [m 11 0,o 12 (le 11),V 13 0] (bl 0 (lo [3,11,12,13] (g [o 14 (b .lss 13 12)] (q (c 14 k (e 0)) (q (bl 1 (g [o 15 (ia 2 11 13),o 16 (lg 2 15),o 5 (.alloc [.int .u8 (0),.nils]),s 2 5 (.t 16)] (p [m 17 3,o 18 (fa 1 5),o 19 (ld 1 18),o 20 (le 19),o 21 (li 1 [20]),o 22 (ap 1 8 17 21),m 3 22]))) (p [o 23 (bi .add 13 1),m 13 23]))))))) (q (g [m 25 3,o 26 (cg F_section_length [25]),m 24 26,o 27 (ex 24 0),o 28 (ex 24 1),m 6 27,m 7 28] (g [m 29 7,o 30 (.un .not (.t 29))] (c 30 (g [V 2 4] r) k))) (g [V 2 0] r))))))⟩
def n_section_Check:List (List Nat):=[[3,11,12,13]]
def a_bytes_Clone:AFunc:=⟨8,[.tmp 2],(g [W 2 kn] (q (g [m 3 0,o 4 (.ext (.isNil false 0 (.t 3)))] (c 4 (g [W 2 kn] r) k)) (g [o 5 (li 1 []),m 6 0,o 7 (ap 1 1 5 6),m 2 7] r)))⟩
def n_bytes_Clone:List (List Nat):=[]
def a_bytes_HasPrefix:AFunc:=⟨18,[.tmp 4],(g [W 4 kf] (g [m 5 0,o 6 (le 5),m 7 1,o 8 (le 7),o 9 (b .geq 6 8),m 10 9,y 11 10 (mt 0),y 12 10 (mt 1),y 13 10 (le 12),y 14 10 (.slice 1 (.t 11) none (some (.t 13)) none),y 15 10 (mt 1),y 16 10 (cg F_bytes_Equal [14,15]),o 17 (pf 10 16),m 4 17] r))⟩
def n_bytes_HasPrefix:List (List Nat):=[]
def a_crc_Table:AFunc:=⟨19,[.cell 0 true 256],(g [o 0 (.alloc (List.replicate 256 (.int .u32 (0))))] (g [o 1 (.alloc (List.replicate 256 (.int .u32 (0))))] (q (g [V 4 0] (bl 0 (lo [0,1,4] (g [o 5 (bi .lss 4 256)] (q (c 5 k (e 0)) (q (bl 1 (g [m 6 4,m 2 6] (g [m 7 2,o 8 (.conv .u32 (.t 7)),m 3 8] (q (g [V 9 0] (bl 2 (lo [0,1,2,3,4,9] (g [o 10 (bi .lss 9 8)] (q (c 10 k (e 2)) (q (bl 3 (p [m 11 3,o 12 (cg F_crc_turn [11]),m 3 12])) (p [o 13 (bi .add 9 1),m 9 13]))))))) (p [m 14 2,m 15 3,o 16 (.iaddrA 256 1 (.t 1) (.t 14)),s 1 16 (.t 15)]))))) (p [o 17 (bi .add 4 1),m 4 17]))))))) (g [o 18 (lg 256 1),s 256 0 (.t 18)] r))))⟩
def n_crc_Table:List (List Nat):=[[0,1,4],[0,1,2,3,4,9]]
def a_crc_Sum:AFunc:=⟨11,[.tmp 4,.tmp 5],(g [o 2 (bx 256 0),o 4 (v (.c (.int .u32 (0)))),V 5 0] (g [o 6 (lg 256 2),m 7 1,o 8 (cf F_crc_Next [(.t 6),(.c (.int .u32 (0))),(.t 7)]),o 9 (ex 8 0),o 10 (ex 8 1),m 4 9,m 5 10] r))⟩
def n_crc_Sum:List (List Nat):=[]
def a_section_number:AFunc:=⟨25,[.tmp 2],(g [o 2 (v (.c (.int .u64 (0))))] (q (.draw [m 3 0,o 4 (.iaddr 1 (.t 3) (ki 0)),o 5 (ld 1 4),o 6 (.conv .u64 (.t 5)),m 7 0,o 8 (.iaddr 1 (.t 7) (ki 1)),o 9 (ld 1 8),o 10 (.conv .u64 (.t 9)),o 11 (.bin .shl (.t 10) (.c (.int .u64 (8)))),o 12 (b .or 6 11),m 13 0,o 14 (.iaddr 1 (.t 13) (ki 2)),o 15 (ld 1 14),o 16 (.conv .u64 (.t 15)),o 17 (.bin .shl (.t 16) (.c (.int .u64 (16)))),o 18 (b .or 12 17),m 19 0,o 20 (.iaddr 1 (.t 19) (ki 3)),o 21 (ld 1 20),o 22 (.conv .u64 (.t 21)),o 23 (.bin .shl (.t 22) (.c (.int .u64 (24)))),o 24 (b .or 18 23),m 2 24]) r))⟩
def n_section_number:List (List Nat):=[[777777,654321]]
def a_section_ordered:AFunc:=⟨24,[.tmp 2],(g [W 2 kf] (g [o 3 (v (ku 0))] (q (g [m 6 0,o 7 (le 6),V 8 0] (bl 0 (lo [3,6,7,8] (g [o 9 (b .lss 8 7)] (q (c 9 k (e 0)) (q (bl 1 (g [o 10 (ia 2 6 8),o 11 (lg 2 10),o 5 (.alloc [.int .u8 (0),.nils]),s 2 5 (.t 11)] (q (g [o 12 (fa 0 5),o 13 (ld 1 12),m 14 3,o 15 (b .leq 13 14),m 16 15,z 17 16 (fa 0 5),z 18 16 (ld 1 17),z 19 16 (bu .gtr 18 7),o 20 (pt 16 19)] (c 20 (g [W 2 kf] r) k)) (p [o 21 (fa 0 5),o 22 (ld 1 21),m 3 22])))) (p [o 23 (bi .add 8 1),m 8 23]))))))) (g [W 2 kt] r))))⟩
def n_section_ordered:List (List Nat):=[[3,6,7,8]]
def a_slices_IndexFunc_api_Section_api_Section:AFunc:=⟨19,[.tmp 4],(g [V 4 0] (q (g [m 6 0,o 7 (le 6),V 8 0] (bl 0 (lo [0,1,7,8] (g [o 9 (b .lss 8 7)] (q (c 9 k (e 0)) (q (bl 1 (g [m 10 8,m 5 10] (g [m 11 1,m 12 0,m 13 5,o 14 (ia 2 12 13),o 15 (lg 2 14),o 16 (.call (.t 11) [(.t 15)])] (c 16 (g [m 17 5,m 4 17] r) k)))) (p [o 18 (bi .add 8 1),m 8 18]))))))) (g [V 4 (-1)] r)))⟩
def n_slices_IndexFunc_api_Section_api_Section:List (List Nat):=[[0,1,7,8]]
def a_again_find_1:AFunc:=⟨8,[.tmp 3],(g [o 2 (bx 2 0),W 3 kf] (g [o 4 (fa 0 2),o 5 (ld 1 4),o 6 (ld 1 1),o 7 (b .eql 5 6),m 3 7] r))⟩
def n_again_find_1:List (List Nat):=[]
def a_section_fixed:AFunc:=⟨12,[.tmp 2],(g [W 2 kn] (g [m 6 0,o 7 (.conv .u64 (.t 6)),o 8 (cf F_wire_Fixed [(.t 7),(ki 4)]),m 5 8,o 9 (ex 5 0),o 10 (ex 5 1),m 3 9,m 4 10] (g [m 11 3,m 2 11] r)))⟩
def n_section_fixed:List (List Nat):=[]
def a_wreckageref02_Little:AFunc:=⟨21,[.tmp 4],(g [W 4 kn] (g [W 5 kn] (q (g [V 6 0] (bl 0 (lo [0,1,5,6] (q (g [m 7 6,m 8 1,o 9 (b .lss 7 8)] (c 9 k (e 0))) (q (bl 1 (g [m 12 5,m 13 0,o 14 (.bin .rem (.t 13) (.c (.int .u64 (256)))),o 15 (.conv .u8 (.t 14)),o 16 (li 1 [15]),o 17 (ap 1 1 12 16),m 5 17] (p [m 18 0,o 19 (.bin .quo (.t 18) (.c (.int .u64 (256)))),m 0 19]))) (p [m 10 6,o 11 (bi .add 10 1),m 6 11])))))) (g [m 20 5,m 4 20] r))))⟩
def n_wreckageref02_Little:List (List Nat):=[[0,1,5,6]]
def a_wreckageref01_Table:AFunc:=⟨13,[.cell 0 true 256],(g [o 0 (.alloc (List.replicate 256 (.int .u32 (0))))] (g [o 1 (.alloc (List.replicate 256 (.int .u32 (0))))] (q (g [V 2 0] (bl 0 (lo [0,1,2] (q (g [m 3 2,o 4 (bi .lss 3 256)] (c 4 k (e 0))) (q (bl 1 (p [m 7 2,m 8 2,o 9 (.conv .u32 (.t 8)),o 10 (cg F_wreckageref01_Element [9]),o 11 (.iaddrA 256 1 (.t 1) (.t 7)),s 1 11 (.t 10)])) (p [m 5 2,o 6 (bi .add 5 1),m 2 6])))))) (g [o 12 (lg 256 1),s 256 0 (.t 12)] r))))⟩
def n_wreckageref01_Table:List (List Nat):=[[0,1,2]]
def a_section_length:AFunc:=⟨27,[.tmp 2,.tmp 3],(g [V 2 0,W 3 kf] (g [m 7 0,o 8 (le 7),o 9 (.bin .mul (ki 13) (.t 8)),o 10 (.bin .add (ki 6) (.t 9)),o 11 (bi .add 10 4),m 4 11] (q (g [m 12 0,o 13 (le 12),V 14 0] (bl 0 (lo [4,12,13,14] (g [o 15 (b .lss 14 13)] (q (c 15 k (e 0)) (q (bl 1 (g [o 16 (ia 1 12 14),o 17 (ld 1 16),m 6 17] (q (g [m 18 6,m 19 4,o 20 (.bin .sub (ki 200000) (.t 19)),o 21 (b .gtr 18 20)] (c 21 (g [V 2 0,W 3 kf] r) k)) (p [m 22 4,m 23 6,o 24 (b .add 22 23),m 4 24])))) (p [o 25 (bi .add 14 1),m 14 25]))))))) (g [m 26 4,m 2 26,W 3 kt] r))))⟩
def n_section_length:List (List Nat):=[[4,12,13,14]]
def a_bytes_Equal:AFunc:=⟨10,[.tmp 4],(g [W 4 kf] (g [m 5 0,o 6 (.toStr (.t 5)),m 7 1,o 8 (.toStr (.t 7)),o 9 (b .eql 6 8),m 4 9] r))⟩
def n_bytes_Equal:List (List Nat):=[]
def a_crc_turn:AFunc:=⟨11,[.tmp 2],(g [o 2 (v (.c (.int .u32 (0))))] (q (g [m 3 0,o 4 (.bin .and (.t 3) (.c (.int .u32 (1)))),o 5 (.bin .eql (.t 4) (.c (.int .u32 (0))))] (c 5 (g [m 6 0,o 7 (.bin .shr (.t 6) (.c (.int .u64 (1)))),m 2 7] r) k)) (g [m 8 0,o 9 (.bin .shr (.t 8) (.c (.int .u64 (1)))),o 10 (.bin .xor (.t 9) (.c (.int .u32 (3988292384)))),m 2 10] r)))⟩
def n_crc_turn:List (List Nat):=[]
def a_crc_Next:AFunc:=⟨23,[.tmp 6,.tmp 7],(g [o 3 (bx 256 0),o 6 (v (.c (.int .u32 (0)))),V 7 0] (q (g [o 9 (lg 256 3),o 10 (cg F_crc_check [9]),m 8 10] (g [m 11 8,o 12 (bi .neq 11 0)] (c 12 (g [m 13 8,o 6 (v (.c (.int .u32 (0)))),m 7 13] r) k))) (q (g [m 14 2,o 15 (le 14),o 16 (bi .gtr 15 200000)] (c 16 (g [o 6 (v (.c (.int .u32 (0)))),V 7 4] r) k)) (g [o 17 (lg 256 3),m 18 1,o 19 (.un .xor (.t 18)),m 20 2,o 21 (cg F_crc_steps [17,19,20]),o 22 (.un .xor (.t 21)),m 6 22,V 7 0] r))))⟩
def n_crc_Next:List (List Nat):=[]
def a_wire_Fixed:AFunc:=⟨35,[.tmp 4,.tmp 5],(g [W 4 kn,V 5 0] (q (g [m 8 1,o 9 (cg F_wire_wide [8]),o 10 (bi .neq 9 0),m 11 10,z 12 11 (mt 0),z 13 11 (mt 1),z 14 11 (.bin .mul (ki 8) (.t 13)),z 15 11 (bi .sub 14 1),z 16 11 (b .shr 12 15),z 17 11 (.bin .shr (.t 16) (.c (.int .u64 (1)))),z 18 11 (.bin .neq (.t 17) (.c (.int .u64 (0)))),o 19 (pt 11 18)] (c 19 (g [W 4 kn,V 5 2] r) k)) (g [o 6 (.alloc [.int .u8 (0),.int .u8 (0),.int .u8 (0),.int .u8 (0),.int .u8 (0),.int .u8 (0),.int .u8 (0),.int .u8 (0)])] (q (g [V 20 0] (bl 0 (lo [0,1,6,20] (g [o 21 (bi .lss 20 8)] (q (c 21 k (e 0)) (q (bl 1 (g [m 22 20,m 7 22] (p [m 23 7,m 24 0,m 25 7,o 26 (.bin .mul (ki 8) (.t 25)),o 27 (b .shr 24 26),o 28 (.conv .u8 (.t 27)),o 29 (.iaddrA 8 1 (.t 6) (.t 23)),s 1 29 (.t 28)]))) (p [o 30 (bi .add 20 1),m 20 30]))))))) (g [o 31 (li 1 []),m 32 1,o 33 (.sliceA 8 1 (.t 6) none (some (.t 32))),o 34 (ap 1 1 31 33),m 4 34,V 5 0] r)))))⟩
def n_wire_Fixed:List (List Nat):=[[0,1,6,20]]
def a_wreckageref01_Element:AFunc:=⟨18,[.tmp 2],(g [o 2 (v (.c (.int .u32 (0))))] (q (g [V 3 0] (bl 0 (lo [0,3] (q (g [m 5 3,o 6 (bi .lss 5 8)] (c 6 k (e 0))) (q (bl 1 (g [m 9 0,o 10 (.bin .rem (.t 9) (.c (.int .u32 (2)))),o 11 (.bin .eql (.t 10) (.c (.int .u32 (1)))),m 4 11] (g [m 12 0,o 13 (.bin .quo (.t 12) (.c (.int .u32 (2)))),m 0 13] (g [m 14 4] (c 14 (p [m 15 0,o 16 (.bin .xor (.t 15) (.c (.int .u32 (3988292384)))),m 0 16]) k))))) (p [m 7 3,o 8 (bi .add 7 1),m 3 8])))))) (g [m 17 0,m 2 17] r)))⟩
def n_wreckageref01_Element:List (List Nat):=[[0,3]]
def a_crc_check:AFunc:=⟨6,[.tmp 2],(g [o 1 (bx 256 0),V 2 0] (q (q (.draw [o 3 (lg 256 1),o 4 (cg F_crc_Table []),o 5 (.ext (.eqA true 256 (arrLeaves [(0,1)] 1 0 256) (.t 3) (.t 4)))]) (c 5 (g [V 2 8] r) k)) (g [V 2 0] r)))⟩
def n_crc_check:List (List Nat):=[[777777,654321]]
def a_crc_steps:AFunc:=⟨26,[.tmp 6],(g [o 3 (bx 256 0),o 6 (v (.c (.int .u32 (0))))] (q (g [m 9 2,o 10 (le 9),V 11 0] (bl 0 (lo [1,3,9,10,11] (g [o 12 (b .lss 11 10)] (q (c 12 k (e 0)) (q (bl 1 (g [o 13 (ia 1 9 11),o 14 (ld 1 13),m 8 14] (p [m 15 1,o 16 (.bin .shr (.t 15) (.c (.int .u64 (8)))),m 17 1,o 18 (.conv .u8 (.t 17)),m 19 8,o 20 (b .xor 18 19),o 21 (.iaddrA 256 1 (.t 3) (.t 20)),o 22 (ld 1 21),o 23 (b .xor 16 22),m 1 23]))) (p [o 24 (bi .add 11 1),m 11 24]))))))) (g [m 25 1,m 6 25] r)))⟩
def n_crc_steps:List (List Nat):=[[1,3,9,10,11]]
def a_wire_wide:AFunc:=⟨9,[.tmp 2],(g [V 2 0] (q (g [m 3 0] (bl 0 (q (g [o 5 (bi .eql 3 1),m 4 5] (c 4 k (g [o 6 (bi .eql 3 2),m 4 6] (c 4 k (g [o 7 (bi .eql 3 4),m 4 7] (c 4 k (p [o 8 (bi .eql 3 8),m 4 8]))))))) (c 4 (g [V 2 0] r) k)))) (g [V 2 2] r)))⟩
def n_wire_wide:List (List Nat):=[]
def tab0:Nat→Option AFunc|5=>some ze|18=>some a_again_Exchange|19=>some ul|22=>some yA|23=>some yB|24=>some a_wreckageref25_Bytes|25=>some tj|26=>some a_parse_Dump|27=>some a_section_Read|48=>some a_again_find|49=>some a_section_Write|50=>some zr|53=>some y7|54=>some yi|55=>some yz|56=>some a_wreckageref25_four|57=>some a_wreckageref01_On|58=>some a_section_Check|59=>some a_bytes_Clone|66=>some a_bytes_HasPrefix|67=>some a_crc_Table|68=>some a_crc_Sum|69=>some a_section_number|70=>some a_section_ordered|101=>some a_slices_IndexFunc_api_Section_api_Section|102=>some a_again_find_1|103=>some a_section_fixed|113=>some a_wreckageref02_Little|114=>some a_wreckageref01_Table|115=>some a_section_length|142=>some a_bytes_Equal|143=>some a_crc_turn|144=>some a_crc_Next|173=>some a_wire_Fixed|178=>some a_wreckageref01_Element|194=>some a_crc_check|195=>some a_crc_steps|242=>some a_wire_wide|_=>none
def tab (f:Nat):Option AFunc:=if f=21 then some (constFn true) else tab0 f
theorem vC:tab y8=some ze:=rfl
theorem t_again_Exchange:tab F_again_Exchange=some a_again_Exchange:=rfl
theorem Tw:tab yu=some ul:=rfl
theorem Z6:tab yF=some yA:=rfl
theorem Z7:tab yG=some yB:=rfl
theorem t_wreckageref25_Bytes:tab F_wreckageref25_Bytes=some a_wreckageref25_Bytes:=rfl
theorem Qy:tab tz=some tj:=rfl
theorem t_parse_Dump:tab F_parse_Dump=some a_parse_Dump:=rfl
theorem t_section_Read:tab F_section_Read=some a_section_Read:=rfl
theorem t_again_find:tab F_again_find=some a_again_find:=rfl
theorem t_section_Write:tab F_section_Write=some a_section_Write:=rfl
theorem yJ:tab zl=some zr:=rfl
theorem qN:tab zD=some y7:=rfl
theorem ju:tab zI=some yi:=rfl
theorem Z5:tab yE=some yz:=rfl
theorem t_wreckageref25_four:tab F_wreckageref25_four=some a_wreckageref25_four:=rfl
theorem t_wreckageref01_On:tab F_wreckageref01_On=some a_wreckageref01_On:=rfl
theorem t_section_Check:tab F_section_Check=some a_section_Check:=rfl
theorem t_bytes_Clone:tab F_bytes_Clone=some a_bytes_Clone:=rfl
theorem t_bytes_HasPrefix:tab F_bytes_HasPrefix=some a_bytes_HasPrefix:=rfl
theorem t_crc_Table:tab F_crc_Table=some a_crc_Table:=rfl
theorem t_crc_Sum:tab F_crc_Sum=some a_crc_Sum:=rfl
theorem t_section_number:tab F_section_number=some a_section_number:=rfl
theorem t_section_ordered:tab F_section_ordered=some a_section_ordered:=rfl
theorem t_slices_IndexFunc_api_Section_api_Section:tab F_slices_IndexFunc_api_Section_api_Section=some a_slices_IndexFunc_api_Section_api_Section:=rfl
theorem t_again_find_1:tab F_again_find_1=some a_again_find_1:=rfl
theorem t_section_fixed:tab F_section_fixed=some a_section_fixed:=rfl
theorem t_wreckageref02_Little:tab F_wreckageref02_Little=some a_wreckageref02_Little:=rfl
theorem t_wreckageref01_Table:tab F_wreckageref01_Table=some a_wreckageref01_Table:=rfl
theorem t_section_length:tab F_section_length=some a_section_length:=rfl
theorem t_bytes_Equal:tab F_bytes_Equal=some a_bytes_Equal:=rfl
theorem t_crc_turn:tab F_crc_turn=some a_crc_turn:=rfl
theorem t_crc_Next:tab F_crc_Next=some a_crc_Next:=rfl
theorem t_wire_Fixed:tab F_wire_Fixed=some a_wire_Fixed:=rfl
theorem t_wreckageref01_Element:tab F_wreckageref01_Element=some a_wreckageref01_Element:=rfl
theorem t_crc_check:tab F_crc_check=some a_crc_check:=rfl
theorem t_crc_steps:tab F_crc_steps=some a_crc_steps:=rfl
theorem t_wire_wide:tab F_wire_wide=some a_wire_wide:=rfl
theorem t_wreckagelaw35_alive:tab F_wreckagelaw35_alive=some (constFn true):=rfl
def gfun (f:Nat):Bool:=Nat.beq (Nat.land (Nat.shiftRight 0 f) 1) 1
end Go.Proofs.W
end
section
namespace Go.Vs
open Go.RowKit
def tiles (P:Program):Nat→List Field→Nat→Bool
 |o,[],e=>o==e
 |o,f::r,e=>f.offset==o&&tiles P (o+P.cellsOf f.type) r e
def plainIn (P:Program) (S:List TypeId) (t:TypeId):Bool:=
 match P.underlying t with
 |some .bool|some (.int _)|some .string=>true
 |some (.slice e)=>S.contains e&&decide (0<P.cellsOf e)
 |some (.struct fs)=>(fs.toList.all fun f=>S.contains f.type)&&tiles P 0 fs.toList (P.cellsOf t)
 |some (.array n e)=>S.contains e&&(P.cellsOf t==n*P.cellsOf e)
 |_=>false
def plainAll (P:Program) (S:List TypeId):Bool:=S.all (plainIn P S)
def IsElem (P:Program) (e:TypeId) (y:AV):Prop:=if aggT P e=some true then∃cs,y= .agg cs else y.cells=[y]
def Typed (P:Program):Nat→TypeId→List AV→Prop
 |0,_,_=>False
 |n+1,t,xs=>
  match P.underlying t with
  |some .bool=> ∃b,xs=[.bool b]
  |some (.int k)=> ∃i,xs=[.int k i]∧(Lit.int k i).wf=true
  |some .string=> ∃l,xs=[.str l]∧l.length≤maxLen
  |some (.slice e)=>xs=[.nils]∨ ∃ys,xs=[.list (P.cellsOf e) .none ys]∧ys.length≤maxLen∧ ∀y∈ys,IsElem P e y∧Typed P n e y.cells
  |some (.struct fs)=>xs.length=P.cellsOf t∧ ∀f∈fs.toList,Typed P n f.type ((xs.drop f.offset).take (P.cellsOf f.type))
  |some (.array k e)=>xs.length=P.cellsOf t∧ ∀i,i<k→Typed P n e ((xs.drop (i*P.cellsOf e)).take (P.cellsOf e))
  |_=>False
section
variable {H : Type} {enc : TypeId × Value → H} {P : Program} {g : G} {w : World}
theorem z3T {n:Nat} {e:TypeId} {xs:List AV} (h:Typed P n e xs) (ha:aggT P e≠some true): ∃y,xs=[y]∧y.cells=[y]:=by
 cases n with
 |zero=>exact h.elim
 |succ n=>
  unfold Typed at h
  unfold aggT at ha
  split at h
  ·obtain⟨b,rfl⟩:=h;exact⟨_,rfl,rfl⟩
  ·obtain⟨i,rfl,_⟩:=h;exact⟨_,rfl,rfl⟩
  ·obtain⟨l,rfl,_⟩:=h;exact⟨_,rfl,rfl⟩
  ·rcases h with rfl|⟨ys,rfl,_⟩<;>exact⟨_,rfl,rfl⟩
  ·rename_i fs hu;rw[hu] at ha;exact absurd rfl ha
  ·rename_i k e hu;rw[hu] at ha;exact absurd rfl ha
  ·exact h.elim
theorem Qw {n:Nat} {T:TypeId→List Value→Prop} (ih: ∀t cs,T t cs→ ∃xs,Typed P n t xs∧Reps g w xs cs∧ ∀c∈cs,c.oneCell'=true):
  ∀(fs:List Field) (o e:Nat) (cs:List Value),tiles P o fs e=true→cs.length=e→(∀f∈fs,T f.type ((cs.drop f.offset).take (P.cellsOf f.type)))→
   ∃ys,Reps g w ys (cs.drop o)∧(∀c∈cs.drop o,c.oneCell'=true)∧o≤e∧ ∀(xs:List AV),xs.drop o=ys→(∀f∈fs,Typed P n f.type ((xs.drop f.offset).take (P.cellsOf f.type)))
 | [],o,e,cs,ht,hl,_=>by
  have:o=e:=by simpa [tiles] using ht
  subst this
  rw[←hl,List.drop_length]
  exact⟨[],Reps.nil g w,(fun c hc=>by cases hc),w0f _,(fun xs _ f hf=>by cases hf)⟩
 |f::r,o,e,cs,ht,hl,hT=>by
  simp only[tiles,w03,beq_iff_eq] at ht
  obtain⟨ho,ht⟩:=ht
  obtain⟨zs,k1,k2,k3,k4⟩:=Qw ih r (o+P.cellsOf f.type) e cs ht hl (fun q hq=>hT q (w11 _ hq))
  obtain⟨xf,h1,h2,h3⟩:=ih _ _ (hT f w13)
  rw[ho] at h2 h3
  have hsplit:cs.drop o=(cs.drop o).take (P.cellsOf f.type)++cs.drop (o+P.cellsOf f.type):=by
   rw[←List.drop_drop,List.take_append_drop]
  have hxl:xf.length=P.cellsOf f.type:=by
   rw[←h2.1,w18,w1e,hl];omega
  refine⟨xf++zs,by rw[hsplit];exact h2.append k1,fun c hc=> ?_,by omega,fun xs hxs q hq=> ?_⟩
  ·rw[hsplit] at hc
   rcases w06.1 hc with hc|hc
   ·exact h3 c hc
   ·exact k2 c hc
  ·rcases w1f.1 hq with rfl|hq
   ·rw[ho,hxs,List.take_append_of_le_length (by omega),w31 (by omega)]
    exact h1
   ·refine k4 xs ?_ q hq
    rw[←List.drop_drop,hxs,List.drop_append_of_le_length (by omega),List.drop_of_length_le (by omega)]
    rfl
theorem UZ {n c:Nat} {e:TypeId} {T:List Value→Prop} (ih: ∀cs,T cs→ ∃xs,Typed P n e xs∧Reps g w xs cs∧ ∀c∈cs,c.oneCell'=true):
  ∀(k:Nat) (cs:List Value),cs.length=k*c→(∀i,i<k→T ((cs.drop (i*c)).take c))→
   ∃xs,Reps g w xs cs∧(∀c∈cs,c.oneCell'=true)∧ ∀i,i<k→Typed P n e ((xs.drop (i*c)).take c)
 |0,cs,hl,_=>by
  have:cs=[]:=w12 (by simpa using hl)
  subst this
  exact⟨[],Reps.nil g w,(fun c hc=>by cases hc),(fun i hi=>by omega)⟩
 |k+1,cs,hl,hT=>by
  have hlen:(cs.drop c).length=k*c:=by rw[w1e,hl,w25];omega
  obtain⟨zs,k1,k2,k3⟩:=UZ (c:=c) ih k (cs.drop c) hlen (fun i hi=>by
   have:=hT (i+1) (by omega)
   rw[List.drop_drop]
   rw[show c+i*c=(i+1)*c by rw[w25];omega]
   exact this)
  obtain⟨x0,h1,h2,h3⟩:=ih _ (hT 0 (by omega))
  simp only[Nat.zero_mul,List.drop_zero] at h2 h3
  have hxl:x0.length=c:=by
   rw[←h2.1,w18,hl,w25];omega
  refine⟨x0++zs,?_,fun v hv=> ?_,fun i hi=> ?_⟩
  ·have:=h2.append k1
   rwa [List.take_append_drop] at this
  ·rw[←List.take_append_drop c cs] at hv
   rcases w06.1 hv with hv|hv
   ·exact h3 v hv
   ·exact k2 v hv
  ·cases i with
   |zero=>
    rw[Nat.zero_mul,List.drop_zero,List.take_append_of_le_length (by omega),w31 (by omega)]
    exact h1
   |succ i=>
    have:=k3 i (by omega)
    have hd:(x0++zs).drop c=zs:=by rw[←hxl];simp
    rw[show(i+1)*c=c+i*c by rw[w25];omega,←List.drop_drop,hd]
    exact this
theorem VM {α β:Type} {f:α→Option β}: ∀{l:List α} {r:List β},l.mapM f=some r→ ∀x∈l,∃y,f x=some y
 | [],_,_,x,hx=>by cases hx
 |a::l,r,h,x,hx=>by
  rw[List.mapM_cons] at h
  simp only[Option.bind_eq_bind,w01] at h
  obtain⟨y,h1,ys,h2,_⟩:=h
  rcases w1f.1 hx with rfl|hx
  ·exact⟨y,h1⟩
  ·exact VM h2 x hx
theorem z8b {S:List TypeId} (hS:plainAll P S=true) (hg: ∀b o,g.own b o=none) {base:Nat} {spare:Nat→Bool} {held:Bool}: ∀(n:Nat) (t:TypeId) (cs:List Value) (x:DataW H×List MemPlace),t∈S→DataW.trod enc P w base spare held n t cs=some x→
  ∃xs,Typed P n t xs∧Reps g w xs cs∧ ∀c∈cs,c.oneCell'=true:=by
 intro n
 induction n with
 |zero=>intro t cs x _ h;simp[DataW.trod] at h
 |succ n ih=>
  intro t cs x ht h
  have hp:plainIn P S t=true:=w28.1 hS t ht
  unfold plainIn at hp
  have one: ∀(y:AV) (v:Value),Rep g w y v→v.oneCell'=true→Reps g w [y] [v]∧ ∀c∈[v],c.oneCell'=true:=
   fun y v hr hone=>⟨Reps.cons hr (Reps.nil g w),fun c hc=>by rw[w2b.1 hc];exact hone⟩
  unfold DataW.trod at h
  split at h
  all_goals (try (rename_i hu;rw[hu] at hp;cases hp;done))
  ·rename_i b hu
   exact⟨[.bool b],by simp only[Typed,hu];exact⟨b,rfl⟩,one _ _ (.bool b) rfl⟩
  ·rename_i k k' i hu
   split at h
   ·rename_i hk
    obtain⟨rfl,hwf⟩:=hk
    exact⟨[.int k' i],by simp only[Typed,hu];exact⟨i,rfl,hwf⟩,one _ _ (.int k' i) rfl⟩
   ·cases h
  ·rename_i s hu
   split at h
   ·rename_i hs
    exact⟨[.str s.data.toList],by simp only[Typed,hu];exact⟨_,rfl,by simpa using hs⟩,one _ _ (.str _ s rfl) rfl⟩
   ·cases h
  ·rename_i e hu
   exact⟨[.nils],by simp[Typed,hu],one _ _ .nils rfl⟩
  ·rename_i e a len cap hu
   simp only at h
   rw[hu] at hp
   simp only[w03,decide_eq_true_eq] at hp
   obtain⟨heS,hc0⟩:=hp
   have heS':e∈S:=by simpa using heS
   split at h
   ·rename_i hcond
    obtain⟨_,hle,hmax⟩:=hcond
    simp only[w01] at h
    obtain⟨elems,hel,_⟩:=h
    have hall:=VM hel
    have each: ∀i,i<len→ ∃(cs:List Value) (xs:List AV),cs.length=P.cellsOf e∧(∀j,j<P.cellsOf e→w.cell? ((a.add (i*P.cellsOf e)).add j)=cs[j]?)∧Typed P n e xs∧Reps g w xs cs∧ ∀c∈cs,c.oneCell'=true:=by
     intro i hi
     obtain⟨y,hy⟩:=hall i (w38.2 hi)
     simp only[w01] at hy
     obtain⟨cs,h1,h2⟩:=hy
     obtain⟨_,h3,h4⟩:=World.cells?_some h1
     obtain⟨xs,k1,k2,k3⟩:=ih e cs y heS' h2
     exact⟨cs,xs,h3,h4,k1,k2,k3⟩
    by_cases hlen:len=0
    ·subst hlen
     exact⟨[.list (P.cellsOf e) .none []],by simp only[Typed,hu];exact .inr ⟨[],rfl,by simp,fun y hy=>by cases hy⟩,one _ _ (.empty _ _ _ _ (.inl rfl)) rfl⟩
    ·
     obtain⟨b,o,spot⟩:=a
     have hspot:spot=none:=by
      obtain⟨cs,xs,h1,h2,_⟩:=each 0 (by omega)
      have h3:=h2 0 hc0
      rw[w09 (by omega)] at h3
      have:=World.cell?_spot h3
      simpa [Addr.add] using this
     subst hspot
     have each': ∀i,∃(cs:List Value) (y:AV),i<len→cs.length=P.cellsOf e∧(∀j,j<P.cellsOf e→w.cell? ⟨b,o+(i*P.cellsOf e+j),none⟩=cs[j]?)∧IsElem P e y∧Typed P n e y.cells∧Reps g w y.cells cs∧ ∀c∈cs,c.oneCell'=true:=by
      intro i
      by_cases hi:i<len
      ·obtain⟨cs,xs,h1,h2,h3,h4,h5⟩:=each i hi
       have h2': ∀j,j<P.cellsOf e→w.cell? ⟨b,o+(i*P.cellsOf e+j),none⟩=cs[j]? :=fun j hj=>by
        have:=h2 j hj
        rw[Addr.add_mid,Addr.add_mid,Nat.add_assoc] at this
        exact this
       by_cases ha:aggT P e=some true
       ·exact⟨cs,.agg xs,fun _=>⟨h1,h2',by unfold IsElem;rw[if_pos ha];exact⟨xs,rfl⟩,h3,h4,h5⟩⟩
       ·obtain⟨y,rfl,hy⟩:=z3T h3 ha
        exact⟨cs,y,fun _=>⟨h1,h2',by unfold IsElem;rw[if_neg ha];exact hy,by rw[hy];exact h3,by rw[hy];exact h4,h5⟩⟩
      ·exact⟨[],.undef,fun h=>absurd h hi⟩
     have hf:=fun i=>(each' i).choose_spec
     let fc:Nat→List Value:=fun i=>(each' i).choose
     let fy:Nat→AV:=fun i=>(hf i).choose
     have key: ∀i,i<len→(fc i).length=P.cellsOf e∧(∀j,j<P.cellsOf e→w.cell? ⟨b,o+(i*P.cellsOf e+j),none⟩=(fc i)[j]?)∧IsElem P e (fy i)∧Typed P n e (fy i).cells∧Reps g w (fy i).cells (fc i)∧ ∀c∈fc i,c.oneCell'=true:=
      fun i hi=>(hf i).choose_spec hi
     let ys:=(List.range len).map fy
     have hys:ys.length=len:=by simp[ys]
     have hget: ∀(i:Nat) (y:AV),ys[i]? =some y→i<len∧y=fy i:=by
      intro i y hy
      have hi:i<len:=by rw[←hys];exact(w05.1 hy).1
      simp only[ys,w15,w34 hi,w04,Option.some.injEq] at hy
      exact⟨hi,hy.symm⟩
     have hcell: ∀(i j:Nat) (y c:AV),ys[i]? =some y→y.cells[j]? =some c→ ∃v,(fc i)[j]? =some v∧w.cell? ⟨b,o+(i*P.cellsOf e+j),none⟩=some v∧Rep g w c v∧v.oneCell'=true:=by
      intro i j y c h1 h2
      obtain⟨hi,rfl⟩:=hget i y h1
      obtain⟨k1,k2,k3,k4,k5,k6⟩:=key i hi
      obtain⟨v,h3,h4⟩:=k5.get h2
      have hj:j<P.cellsOf e:=by rw[←k1];exact(w05.1 h3).1
      exact⟨v,h3,by rw[k2 j hj];exact h3,h4,k6 v (w2c h3)⟩
     have hrep:=Rep.list (g:=g) (w:=w) (P.cellsOf e) .none ys b o cap (fun i j=>((fc i)[j]?).getD Go.undef)
      (fun i y hy=>by obtain⟨hi,rfl⟩:=hget i y hy;obtain⟨k1,_,_,_,k5,_⟩:=key i hi;rw[←k5.1,k1]) (by rw[hys];exact hle) trivial
      (fun i j y c h1 h2=>by
       obtain⟨v,h3,h4,h5,h6⟩:=hcell i j y c h1 h2
       rw[h3]
       exact⟨h4,hg _ _,h6⟩)
      (fun i j y c h1 h2=>by
       obtain⟨v,h3,h4,h5,h6⟩:=hcell i j y c h1 h2
       rw[h3]
       exact h5)
     rw[hys] at hrep
     refine⟨[.list (P.cellsOf e) .none ys],?_,one _ _ hrep rfl⟩
     simp only[Typed,hu]
     refine .inr ⟨ys,rfl,by rw[hys];omega,fun y hy=> ?_⟩
     obtain⟨i,hi⟩:=List.getElem?_of_mem hy
     obtain⟨hil,rfl⟩:=hget i y hi
     obtain⟨_,_,k3,k4,_⟩:=key i hil
     exact⟨k3,k4⟩
   ·cases h
  ·rename_i fs hu
   rw[hu] at hp
   simp only[w03] at hp
   obtain⟨hfs,htile⟩:=hp
   split at h
   ·rename_i hlen
    simp only[w00] at h
    obtain⟨ys,hm,_⟩:=h
    have hall:=VM hm
    obtain⟨xs,k1,k2,_,k3⟩:=Qw (P:=P) (g:=g) (w:=w) (n:=n) (T:=fun t c=>t∈S∧ ∃y,DataW.trod enc P w base spare held n t c=some y)
     (fun t c ⟨ht,y,hy⟩=>ih t c y ht hy) fs.toList 0 (P.cellsOf t) _ htile hlen (fun f hf=>⟨by simpa using w28.1 hfs f hf,hall f hf⟩)
    rw[List.drop_zero] at k1 k2
    refine⟨xs,?_,k1,k2⟩
    simp only[Typed,hu]
    exact⟨by rw[←k1.1];exact hlen,k3 xs (List.drop_zero ..)⟩
   ·cases h
  ·rename_i k e hu
   rw[hu] at hp
   simp only[w03,beq_iff_eq] at hp
   obtain⟨heS,hsz⟩:=hp
   have heS':e∈S:=by simpa using heS
   split at h
   ·rename_i hlen
    simp only[w00] at h
    obtain⟨ys,hm,_⟩:=h
    have hall:=VM hm
    obtain⟨xs,k1,k2,k3⟩:=UZ (P:=P) (g:=g) (w:=w) (n:=n) (c:=P.cellsOf e) (e:=e) (T:=fun c=> ∃y,DataW.trod enc P w base spare held n e c=some y)
     (fun c ⟨y,hy⟩=>ih e c y heS' hy) k _ (by rw[hlen,hsz]) (fun i hi=>hall i (w38.2 hi))
    refine⟨xs,?_,k1,k2⟩
    simp only[Typed,hu]
    exact⟨by rw[←k1.1];exact hlen,k3⟩
   ·cases h
  ·cases h
end
end Go.Vs
end
section
namespace Go.Vs
open Go.RowKit Go.ChangeShapes Go.WideShapes
section
variable {H : Type} {enc : TypeId × Value → H} {P : Program} {g : G} {W : World}
theorem z8n {t:TypeId} {r:Reach} {base:Nat} {v:Value} (ha:aggT P t=some true) (h:Value.okWide P W r base t v): ∃cs,v= .agg cs:=by
 unfold aggT at ha
 unfold Value.okWide at h
 split at ha
 ·rename_i fs hu;rw[hu] at h;obtain⟨cs,h,_⟩:=h;exact⟨cs,h⟩
 ·rename_i n e hu;rw[hu] at h;obtain⟨cs,h,_⟩:=h;exact⟨cs,h⟩
 ·cases ha
 ·cases ha
theorem z1Y {S:List TypeId} {t:TypeId} {r:Reach} {base:Nat} {v:Value} (hp:plainIn P S t=true) (ha:aggT P t≠some true) (h:Value.okWide P W r base t v):v.cells= #[v]:=by
 unfold plainIn at hp
 unfold aggT at ha
 split at hp
 ·rename_i hu;obtain⟨b,rfl⟩:=okWide_bool hu h;rfl
 ·rename_i hu;obtain⟨b,rfl⟩:=okWide_int hu h;rfl
 ·rename_i hu;obtain⟨b,rfl⟩:=okWide_string hu h;rfl
 ·rename_i hu;obtain⟨a,b,c,rfl⟩:=okWide_slice hu h;rfl
 ·rename_i hu;rw[hu] at ha;exact absurd rfl ha
 ·rename_i hu;rw[hu] at ha;exact absurd rfl ha
 ·cases hp
def ArgT (P:Program) (t:TypeId) (y:AV):Prop:=IsElem P t y∧ ∃n,Typed P n t y.cells
def ArgsT (P:Program):List TypeId→List AV→Prop
 | [],ys=>ys=[]
 |t::ts,ys=> ∃y r,ys=y::r∧ArgT P t y∧ArgsT P ts r
theorem zax {S:List TypeId} (hS:plainAll P S=true) (hg: ∀b o,g.own b o=none) {r:Reach} {b0 base:Nat} {spare:Nat→Bool} {held:Bool} {t:TypeId} {v:Value} {d:DataW H} {ps:List MemPlace} (ht:t∈S)
  (hok:Value.okWide P W r b0 t v) (h:DataW.Trod enc P W base spare held t v d ps): ∃y,ArgT P t y∧Rep g W y v:=by
 obtain⟨n,hn⟩:=h
 obtain⟨xs,h1,h2,_⟩:=z8b hS hg n t _ _ ht hn
 by_cases ha:aggT P t=some true
 ·obtain⟨cs,rfl⟩:=z8n ha hok
  refine⟨.agg xs,⟨by unfold IsElem;rw[if_pos ha];exact⟨xs,rfl⟩,n,h1⟩,?_⟩
  have:=h2.agg
  simpa [Value.cells] using this
 ·obtain⟨y,rfl,hy⟩:=z3T h1 ha
  rw[z1Y (w28.1 hS t ht) ha hok] at h2
  refine⟨y,⟨by unfold IsElem;rw[if_neg ha];exact hy,n,by rw[hy];exact h1⟩,?_⟩
  exact h2.2 0 _ _ rfl rfl
theorem z0Y {S:List TypeId} (hS:plainAll P S=true) (hg: ∀b o,g.own b o=none) {r:Reach} {b0 base:Nat} {spare:Nat→Bool} {held:Bool}:
  ∀(ts:List TypeId) (vs:List Value) (ds:List (DataW H)) (ps:List MemPlace),(∀t∈ts,t∈S)→(∀(j:Nat) t v,ts[j]? =some t→vs[j]? =some v→Value.okWide P W r b0 t v)→DataW.TrodAll enc P W base spare held ts vs ds ps→
   (∃ys,ArgsT P ts ys∧Reps g W ys vs)∧ds.length=ts.length
 | [],vs,ds,ps,_,_,h=>by
  obtain⟨rfl,rfl,_⟩:=trodAll_nil h
  exact⟨⟨[],rfl,Reps.nil g W⟩,rfl⟩
 |t::ts,vs,ds,ps,hin,hok,h=>by
  match vs,ds,h with
  |v::vs,d::ds,h=>
   obtain⟨p,q,h1,h2,_⟩:=h
   obtain⟨y,k1,k2⟩:=zax hS hg (hin t w13) (hok 0 t v rfl rfl) h1
   obtain⟨⟨ys,k3,k4⟩,k5⟩:=z0Y hS hg ts vs ds q (fun u hu=>hin u (w11 _ hu)) (fun j u x hj hx=>hok (j+1) u x hj hx) h2
   exact⟨⟨y::ys,⟨y,ys,rfl,k1,k3⟩,Reps.cons k2 k4⟩,by simp[k5]⟩
def G.zero (b:Nat):G:=⟨fun _=>none,fun _=>none,fun _ _=>none,b,fun _=>false,fun _=>none⟩
def Mem.zero:Mem:=⟨[],[],0,[],0⟩
theorem z0B (W:World):Inv (G.zero W.heap.size) W Mem.zero where
 blk:=fun bl h _=>by simp[Mem.all,Mem.zero] at h
 nd:=by simp[Mem.all,Mem.zero]
 stlt:=fun st x h=>by cases h
 tklt:=fun t x h=>by cases h
 live:=fun t h=>by simp[Mem.zero] at h
 ownb:=fun b o x h=>by cases h
 hbase:=w0f _
 lnd:=List.nodup_nil
 rsv:=fun st h=>by cases h
 mpk:=fun st b h=>by cases h
theorem UY (hl:laidOutB P=true) {W':World} (hb:Below W.heap.size W W'): ∀(ts:List TypeId) (vs:List Value) (ds:List (DataW H)) (ps:List MemPlace),(∀t∈ts,P.readableRec t=true∧t<P.types.size)→(∀x∈ps,x.block<W.heap.size)→
  DataW.TrodAll enc P W 0 (fun _=>true) true ts vs ds ps→DataW.TrodAll enc P W' 0 (fun b=>decide (b<W.heap.size)) true ts vs ds ps
 | [],vs,ds,ps,_,_,h=>by
  obtain⟨rfl,rfl,rfl⟩:=trodAll_nil h
  rfl
 |t::ts,vs,ds,ps,hin,hlt,h=>by
  match vs,ds,h with
  |v::vs,d::ds,h=>
   obtain⟨p,q,h1,h2,rfl⟩:=h
   have ht:=hin t w13
   exact⟨p,q,Below.trod hl ht.1 ht.2 h1 hb (fun x hx=>hlt x (w37 _ hx)),UY hl hb ts vs ds q (fun u hu=>hin u (w11 _ hu)) (fun x hx=>hlt x (w33 _ hx)) h2,rfl⟩
theorem zb1 {tab:Nat→Option AFunc} (hM:P.follows .mixedOrders=true) (hT:TabOk P tab) {S:List TypeId} (hS:plainAll P S=true) (hl:laidOutB P=true) {f:FuncId} {fn:Func} {s:ChangeSpec} {tb:TypeId} (hvars:s.vars=[])
  (hparams:(fn.params.toList.all fun t=>S.contains t&&P.readableRec t&&decide (t<P.types.size))=true) (hres:fn.resultTypes= #[tb]) (htb:P.underlying tb=some .bool)
  (hspec: ∀ds:List (DataW H),ds.length=fn.params.toList.length→s.fn H ds={results:=[.lit (.bool true)],args:=ds})
  (K: ∀ys,ArgsT P fn.params.toList ys→ ∃m',CALL tab f ys Mem.zero=some (.bool true,m'))
  {base:Nat} {args:Array Value} {ds gs:List (DataW H)} {before:List MemPlace} {fresh handsOn:Bool}
  (hval: ∀(j:Nat) t v,fn.params[j]? =some t→args[j]? =some v→Value.okWide P W .any base t v)
  (hW:DataW.Whole enc P fn.params.toList s.vars false W args.toList ds gs before):
  Calls P f args W fun e W'=> ∃v,e= .returned v∧s.post enc P fn false fresh handsOn false W args v W':=by
 have hW':=hW
 obtain⟨p,q,hA,hV,rfl,_,_⟩:=hW
 rw[hvars] at hV
 obtain⟨rfl,rfl⟩:=trodVars_none hV
 simp only[w28,w03,decide_eq_true_eq] at hparams
 obtain⟨⟨ys,h1,h2⟩,h3⟩:=z0Y (g:=G.zero W.heap.size) hS (fun _ _=>rfl) fn.params.toList args.toList ds p (fun t ht=>by simpa using (hparams t ht).1.1) (fun j t v hj hv=>hval j t v (by simpa using hj) (by simpa using hv)) hA
 obtain⟨m',hc⟩:=K ys h1
 obtain⟨_,hcall⟩:=zd3 hM hT (C:= .top) hc (w10 _)
 refine(hcall (G.zero W.heap.size) W args.toList trivial (z0B W) h2).mono fun e W' ⟨v,g',he,hx,_,hr⟩=> ?_
 subst he
 have hb:Below W.heap.size W W':=hx.below
 rw[hr.inv_bool]
 have hsp:=hspec ds h3
 have hlt:=hW'.lt
 refine⟨_,rfl,ds,[],_,[],p,[],hW',?_,?_,?_,hb.frame _,fun h=>by cases h⟩
 ·rw[w16,hsp,hres]
  exact trodAll_mk1 (shut_bool htb true)
 ·rw[w16,hsp]
  exact UY hl hb _ _ _ _ (fun t ht=>⟨(hparams t ht).1.2,(hparams t ht).2⟩) (fun x hx=>hlt x (w37 _ hx)) hA
 ·rw[w16,hsp,hvars];rfl
end
end Go.Vs
end
section
namespace Go.Vs
def All2 {α:Type} (R:α→AV→Prop):List α→List AV→Prop
 | [],[]=>True
 |x::xs,y::ys=>R x y∧All2 R xs ys
 |_,_=>False
section
variable {α : Type} {R : α → AV → Prop}
theorem All2.len: ∀{xs:List α} {ys:List AV},All2 R xs ys→ys.length=xs.length
 | [],[],_=>rfl
 |x::xs,y::ys,h=>by simp[All2.len h.2]
 | [],_::_,h=>h.elim
 |_::_,[],h=>h.elim
theorem All2.get: ∀{xs:List α} {ys:List AV},All2 R xs ys→ ∀(i:Nat) (h:i<xs.length),ys[i]? =some (ys.getD i .undef)∧R xs[i] (ys.getD i .undef)
 | [],[],_,i,h=>by simp at h
 |x::xs,y::ys,h,0,_=>⟨rfl,h.1⟩
 |x::xs,y::ys,h,i+1,hi=>by
  have:=All2.get h.2 i (by simpa using hi)
  simpa using this
 | [],_::_,h,_,_=>h.elim
 |_::_,[],h,_,_=>h.elim
theorem All2.append: ∀{xs xs':List α} {ys ys':List AV},All2 R xs ys→All2 R xs' ys'→All2 R (xs++xs') (ys++ys')
 | [],_,[],_,_,k=>k
 |x::xs,_,y::ys,_,h,k=>⟨h.1,All2.append h.2 k⟩
 | [],_,_::_,_,h,_=>h.elim
 |_::_,_,[],_,h,_=>h.elim
theorem All2.take: ∀(n:Nat) {xs:List α} {ys:List AV},All2 R xs ys→All2 R (xs.take n) (ys.take n)
 |0,_,_,_=>by simp[All2]
 |n+1,[],[],_=>by simp[All2]
 |n+1,x::xs,y::ys,h=>⟨h.1,All2.take n h.2⟩
 |n+1,[],_::_,h=>h.elim
 |n+1,_::_,[],h=>h.elim
theorem All2.drop: ∀(n:Nat) {xs:List α} {ys:List AV},All2 R xs ys→All2 R (xs.drop n) (ys.drop n)
 |0,_,_,h=>h
 |n+1,[],[],_=>by simp[All2]
 |n+1,x::xs,y::ys,h=>All2.drop n h.2
 |n+1,[],_::_,h=>h.elim
 |n+1,_::_,[],h=>h.elim
theorem All2.mono {S:α→AV→Prop}: ∀{xs:List α} {ys:List AV},(∀x y,x∈xs→R x y→S x y)→All2 R xs ys→All2 S xs ys
 | [],[],_,_=>trivial
 |x::xs,y::ys,k,h=>⟨k x y w13 h.1,All2.mono (fun a b ha=>k a b (w11 _ ha)) h.2⟩
 | [],_::_,_,h=>h.elim
 |_::_,[],_,h=>h.elim
theorem All2.of_each: ∀(ys:List AV),(∀y∈ys,∃x,R x y)→ ∃xs:List α,All2 R xs ys
 | [],_=>⟨[],trivial⟩
 |y::ys,h=>by
  obtain⟨x,hx⟩:=h y w13
  obtain⟨xs,hxs⟩:=All2.of_each ys fun z hz=>h z (w11 _ hz)
  exact⟨x::xs,hx,hxs⟩
def IsSl (R:α→AV→Prop) (s:Nat) (xs:List α) (y:AV):Prop:=
 xs.length≤9223372036854775807∧((xs=[]∧y= .nils)∨ ∃tk ys,y= .list s tk ys∧All2 R xs ys)
def nth (y:AV) (i:Nat):AV:=
 match y with
 | .list _ _ ys=>ys.getD i .undef
 |_=> .undef
theorem IsSl.nil (s:Nat):IsSl R s [] .nils:=⟨by simp,.inl ⟨rfl,rfl⟩⟩
theorem IsSl.mk {s:Nat} {tk:Tok} {xs:List α} {ys:List AV} (h:All2 R xs ys) (hl:xs.length≤9223372036854775807):IsSl R s xs (.list s tk ys):=⟨hl,.inr ⟨tk,ys,rfl,h⟩⟩
theorem IsSl.max {s:Nat} {xs:List α} {y:AV} (h:IsSl R s xs y):xs.length≤9223372036854775807:=h.1
theorem IsSl.len {s:Nat} {xs:List α} {y:AV} (h:IsSl R s xs y):evLen y=some (.int .i64 xs.length):=by
 rcases h with⟨_,⟨rfl,rfl⟩|⟨tk,ys,rfl,h⟩⟩
 ·rfl
 ·simp only[evLen,h.len]
theorem uA (k:IntKind) (i n:Nat) (h:i<n):idx (.int k i) n=some i:=by
 have h1:(0:Int)≤i∧(i:Int)<n:=by omega
 simp only[idx,h1]
 simp
theorem IsSl.at {s:Nat} {xs:List α} {y:AV} (h:IsSl R s xs y) {i:Nat} (k:IntKind) (hi:i<xs.length):evIaddr s y (.int k i)=some (.ro (nth y i).cells):=by
 rcases h with⟨_,⟨rfl,rfl⟩|⟨tk,ys,rfl,h⟩⟩
 ·simp at hi
 ·obtain⟨h1,_⟩:=h.get i hi
  have hl:=h.len
  simp only[evIaddr,beq_self_eq_true,if_true,uA k i ys.length (by omega),w19,h1,w04,nth]
theorem IsSl.nth {s:Nat} {xs:List α} {y:AV} (h:IsSl R s xs y) {i:Nat} (hi:i<xs.length):R xs[i] (nth y i):=by
 rcases h with⟨_,⟨rfl,rfl⟩|⟨tk,ys,rfl,h⟩⟩
 ·simp at hi
 ·exact(h.get i hi).2
theorem IsSl.refs_cells {s:Nat} {xs:List α} {y:AV} (h:IsSl R s xs y):y.cells=[y]:=by
 rcases h with⟨_,⟨rfl,rfl⟩|⟨tk,ys,rfl,h⟩⟩<;>rfl
theorem IsSl.one {s:Nat} {xs:List α} {y:AV} (h:IsSl R s xs y):y.one=true:=by
 rcases h with⟨_,⟨rfl,rfl⟩|⟨tk,ys,rfl,h⟩⟩<;>rfl
theorem IsSl.mono {S:α→AV→Prop} {s:Nat} {xs:List α} {y:AV} (h:IsSl R s xs y) (k: ∀x y,x∈xs→R x y→S x y):IsSl S s xs y:=by
 rcases h with⟨hm,⟨rfl,rfl⟩|⟨tk,ys,rfl,h⟩⟩
 ·exact .nil s
 ·exact .mk (h.mono k) hm
theorem IsSl.elems_any {s:Nat} {xs:List α} {y:AV} (h:IsSl R s xs y): ∃ys,(∀m:Mem,m.elems s y=some ys)∧All2 R xs ys:=by
 rcases h with⟨_,⟨rfl,rfl⟩|⟨tk,ys,rfl,h⟩⟩
 ·exact⟨[],fun _=>rfl,trivial⟩
 ·exact⟨ys,fun m=>by simp[Mem.elems,elemsOf],h⟩
theorem IsSl.elems {s:Nat} {xs:List α} {y:AV} (h:IsSl R s xs y) (m:Mem): ∃ys,m.elems s y=some ys∧All2 R xs ys:=by
 rcases h with⟨_,⟨rfl,rfl⟩|⟨tk,ys,rfl,h⟩⟩
 ·exact⟨[],rfl,trivial⟩
 ·exact⟨ys,by simp[Mem.elems,elemsOf],h⟩
end
def IsK (k:IntKind) (n:Int) (y:AV):Prop:=y= .int k n
def IsStr (s:List UInt8) (y:AV):Prop:=y= .str s
def IsByte (b:UInt8) (y:AV):Prop:=y= .int .u8 b.toNat
abbrev IsBytes (l:List UInt8) (y:AV):Prop:=IsSl IsByte 1 l y
theorem WD: ∀{l:List UInt8} {ys:List AV},All2 IsByte l ys→bytesOf ys=some l
 | [],[],_=>rfl
 |b::l,y::ys,h=>by
  obtain⟨h1,h2⟩:=h
  rw[h1]
  simp only[bytesOf,byteOf,WD h2]
  simp
 | [],_::_,h=>h.elim
 |_::_,[],h=>h.elim
theorem IsBytes.toStr {l:List UInt8} {y:AV} (m:Mem) (h:IsBytes l y):evToStr m y=some (.str l):=by
 rcases h with⟨_,⟨rfl,rfl⟩|⟨tk,ys,rfl,h⟩⟩
 ·rfl
 ·simp only[evToStr,AV.asArr,evToStr0,WD h,w04]
def in64 (n:Int):Prop:= -9223372036854775808≤n∧n≤9223372036854775807
theorem zaD {n:Int} (h:in64 n):IntKind.i64.wrap n=n:=by
 unfold in64 at h
 unfold IntKind.wrap
 simp[IntKind.signed,IntKind.bits]
 omega
theorem zn {n:Int} (h1: -9223372036854775808≤n) (h2:n≤9223372036854775807):IntKind.i64.wrap n=n:=zaD ⟨h1,h2⟩
theorem zZ {n:Int} (h1:0≤n) (h2:n<18446744073709551616):IntKind.u64.wrap n=n:=by
 unfold IntKind.wrap
 simp[IntKind.signed,IntKind.bits]
 omega
theorem Qi {n:Int} (h1:0≤n) (h2:n<256):IntKind.u8.wrap n=n:=by
 unfold IntKind.wrap
 simp[IntKind.signed,IntKind.bits]
 omega
theorem zk {i n:Nat} (h:i<n) (hn:n≤9223372036854775807):IntKind.i64.wrap ((i:Int)+1)=((i+1:Nat):Int):=by
 rw[zn (by omega) (by omega)];omega
def Ok (tab:Nat→Option AFunc) (f:Nat) (args:List AV) (m:Mem) (R:AV→Prop):Prop:= ∃r k,CALL tab f args m=some (r,m.bump k)∧R r
def Okv (tab:Nat→Option AFunc) (f:Nat) (args:List AV) (m:Mem) (r:AV):Prop:= ∃k,CALL tab f args m=some (r,m.bump k)
theorem zG {tab:Nat→Option AFunc} {f:Nat} {fn:AFunc} (h:tab f=some fn) {args:List AV} {r:AV} {m:Mem} (hx:X tab fn.body (mk fn.ntmps (.tup []) (numb 0 args)) (enter m) (.fin fn.res m fun v m'=>(∃k,m'=m.bump k)∧v=r)) (hn:args.length≤fn.ntmps:=by exact Nat.le_of_ble_eq_true rfl):
  Okv tab f args m r:=by
 obtain⟨x,h1,⟨k,h2⟩,h3⟩:=jW h hx hn;exact⟨k,by rw[h1,←h2,←h3]⟩
section
variable {α : Type}
end
theorem xD (a b:Nat):((a:Int) !=(b:Int))=decide (a≠b):=by
 by_cases h:a=b
 ·subst h;simp
 ·simp[bne,beq_eq_false_iff_ne.2 (show(a:Int)≠b by omega),h]
theorem Okv.all {tab:Nat→Option AFunc} {f:Nat} {args:List AV} {r:AV} (h: ∀m,Okv tab f args m r): ∃K:Mem→Nat,∀m,CALL tab f args m=some (r,m.bump (K m)):=
 ⟨fun m=>(h m).choose,fun m=>(h m).choose_spec⟩
def Own {α:Type} (R:α→AV→Prop) (s:Nat) (y:AV) (xs:List α) (e:List Nat):Prop:=
 (y= .nils∧xs=[])∨ ∃tk ys,y= .list s tk ys∧All2 R xs ys∧(tk= .full∨ ∃t,t∈e∧tk= .id t)
section
variable {α : Type} {R : α → AV → Prop} {s : Nat} {y : AV} {xs cs : List α} {e : List Nat}
theorem Own.nil (e:List Nat):Own R s .nils [] e:= .inl ⟨rfl,rfl⟩
theorem Own.full {ys:List AV} (h:All2 R xs ys) (e:List Nat):Own R s (.list s .full ys) xs e:= .inr ⟨_,_,rfl,h,.inl rfl⟩
theorem Own.mono {e':List Nat} (h:Own R s y xs e) (k: ∀t∈e,t∈e'):Own R s y xs e':=by
 rcases h with h|⟨tk,ys,h1,h2,h3|⟨t,h3,h4⟩⟩
 ·exact .inl h
 ·exact .inr ⟨tk,ys,h1,h2,.inl h3⟩
 ·exact .inr ⟨tk,ys,h1,h2,.inr ⟨t,k t h3,h4⟩⟩
theorem Own.push (ts:List Nat) (h:Own R s y xs e):Own R s y xs (ts++e):=h.mono fun _ h=>w33 _ h
theorem Own.more (ts:List Nat) (h:Own R s y xs e):Own R s y xs (e++ts):=h.mono fun _ h=>w37 _ h
theorem Own.sl (h:Own R s y xs e) (hl:xs.length≤9223372036854775807):IsSl R s xs y:=by
 rcases h with⟨rfl,rfl⟩|⟨tk,ys,rfl,h2,_⟩
 ·exact .nil s
 ·exact .mk h2 hl
theorem Own.cells (h:Own R s y xs e):y.cells=[y]:=by
 rcases h with⟨rfl,_⟩|⟨tk,ys,rfl,_,_⟩<;>rfl
theorem Own.one (h:Own R s y xs e):y.one=true:=by
 rcases h with⟨rfl,_⟩|⟨tk,ys,rfl,_,_⟩<;>rfl
theorem Own.refs (h:Own R s y xs e) (l:Nat):y.refs l=false:=by
 rcases h with⟨rfl,_⟩|⟨tk,ys,rfl,_,_⟩<;>rfl
theorem Own.len (h:Own R s y xs e):evLen y=some (.int .i64 xs.length):=by
 rcases h with⟨rfl,rfl⟩|⟨tk,ys,rfl,h,_⟩
 ·rfl
 ·simp only[evLen,h.len]
theorem Own.at (h:Own R s y xs e) {i:Nat} (k:IntKind) (hi:i<xs.length):evIaddr s y (.int k i)=some (.ro (nth y i).cells):=by
 rcases h with⟨rfl,rfl⟩|⟨tk,ys,rfl,h,_⟩
 ·simp at hi
 ·obtain⟨h1,_⟩:=h.get i hi
  have hl:=h.len
  simp only[evIaddr,beq_self_eq_true,if_true,uA k i ys.length (by omega),w19,h1,w04,nth]
theorem Own.nth (h:Own R s y xs e) {i:Nat} (hi:i<xs.length):R xs[i] (nth y i):=by
 rcases h with⟨rfl,rfl⟩|⟨tk,ys,rfl,h,_⟩
 ·simp at hi
 ·exact(h.get i hi).2
theorem Own.filter (h:Own R s y xs e):Own R s y xs (e.filter fun t=>y.toks.contains t):=by
 rcases h with h|⟨tk,ys,rfl,h2,h3|⟨t,h3,rfl⟩⟩
 ·exact .inl h
 ·exact .inr ⟨tk,ys,rfl,h2,.inl h3⟩
 ·exact .inr ⟨_,ys,rfl,h2,.inr ⟨t,List.mem_filter.2 ⟨h3,by simp[AV.toks]⟩,rfl⟩⟩
theorem Own.elems (h:Own R s y xs e): ∃ys,(∀m:Mem,m.elems s y=some ys)∧All2 R xs ys:=by
 rcases h with⟨rfl,rfl⟩|⟨tk,ys,rfl,h,_⟩
 ·exact⟨[],fun _=>rfl,trivial⟩
 ·exact⟨ys,fun m=>by simp[Mem.elems,elemsOf],h⟩
theorem zV (m:Mem) (s:Nat) (tk:Tok) (ys:List AV):m.elems s (.list s tk ys)=some ys:=by simp[Mem.elems,elemsOf]
theorem z4Q (ts:List Nat) {pre:List (List Nat)} (hp:pre≠[]) (post:List (List Nat)):pushToks ts (pre++post)=pushToks ts pre++post:=by
 cases pre with
 |nil=>exact absurd rfl hp
 |cons h r=>rw[w2d,zc,zc];rfl
theorem z4P (ts:List Nat) {pre:List (List Nat)} (hp:pre≠[]):(pushToks ts pre).length=pre.length:=by
 cases pre with
 |nil=>exact absurd rfl hp
 |cons h r=>rw[zc];rfl
theorem Wz {t:Nat}: ∀{l:List (List Nat)},t∈l.flatten→hasTok t l=true
 | [],h=>by simp at h
 |a::r,h=>by
  simp only[w2e,w06] at h
  simp only[hasTok,w1b]
  rcases h with h|h
  ·exact .inl (by simpa using h)
  ·exact .inr (Wz h)
theorem Tm {t:Nat}: ∀{l r:List (List Nat)},t∈l.flatten→dropTok t (l++r)=dropTok t l++r
 | [],_,h=>by simp at h
 |a::l,r,h=>by
  simp only[w2d,dropTok]
  split
  ·rfl
  ·rename_i hc
   simp only[w2e,w06] at h
   rcases h with h|h
   ·exact absurd (by simpa using h) hc
   ·rw[Tm h];rfl
theorem Yz (t:Nat): ∀l:List (List Nat),(dropTok t l).length=l.length
 | []=>rfl
 |a::l=>by
  simp only[dropTok]
  split
  ·rfl
  ·simp[Yz t l]
def Wr (R:α→AV→Prop) (s i:Nat) (y:AV) (xs:List α) (live post:List (List Nat)):Prop:= ∃pre,live=pre++post∧pre.length=i+1∧Own R s y xs pre.flatten
theorem Own.wr (h:Own R s y xs e) (rest:List (List Nat)):Wr R s 0 y xs (e::rest) rest:=⟨[e],rfl,rfl,by simpa using h⟩
theorem Wr.own {rest:List (List Nat)} {live:List (List Nat)} (h:Wr R s 0 y xs live rest): ∃e,live=e::rest∧Own R s y xs e:=by
 obtain⟨pre,rfl,h2,h3⟩:=h
 match pre,h2 with
 | [e],_=>exact⟨e,rfl,by simpa using h3⟩
theorem Wr.enter {i:Nat} {live post:List (List Nat)} (h:Wr R s i y xs live post):Wr R s (i+1) y xs ([]::live) post:=by
 obtain⟨pre,rfl,h2,h3⟩:=h
 exact⟨[]::pre,rfl,by simp[h2],by simpa using h3⟩
theorem Wr.push {i:Nat} {live post:List (List Nat)} (ts:List Nat) (h:Wr R s i y xs live post):Wr R s i y xs (pushToks ts live) post:=by
 obtain⟨pre,rfl,h2,h3⟩:=h
 have hp:pre≠[]:=by intro h;subst h;simp at h2
 exact⟨pushToks ts pre,z4Q ts hp post,by rw[z4P ts hp];exact h2,h3.mono fun t h=>by rw[Ww];exact w33 _ h⟩
theorem Own.app {m:Mem} {z:AV} {zs:List AV} {bytes:Nat} (ho:Own R s y xs m.live.flatten) (hz:m.elems s z=some zs) (hc:All2 R cs zs) (hl:(xs.length+cs.length)*bytes≤140737488355328):
  (cs=[]∧evApp m s bytes y z=some (y,m))∨
  (∃ys,All2 R (xs++cs) ys∧evApp m s bytes y z=some (.list s (.id m.nx) ys,{m with nx:=m.nx+1,live:=addTok m.nx m.live}))∨
  (∃t ys tk0,y= .list s (.id t) tk0∧t∈m.live.flatten∧All2 R (xs++cs) ys∧evApp m s bytes y z=some (.list s (.id m.nx) ys,{m with nx:=m.nx+1,live:=addTok m.nx (dropTok t m.live)})):=by
 match zs,hc with
 | [],hc=>
  match cs,hc with
  | [],_=>
   refine .inl ⟨rfl,?_⟩
   unfold evApp;rw[hz]
   rcases ho with⟨rfl,_⟩|⟨tk,ys,rfl,_,_⟩
   ·rfl
   ·simp
  |_::_,hc=>exact hc.elim
 |a::r,hc=>
  refine .inr ?_
  have hn:(a::r).length=cs.length:=hc.len
  rcases ho with⟨rfl,rfl⟩|⟨tk,ys,rfl,h2,h3⟩
  ·refine .inl ⟨a::r,hc,?_⟩
   unfold evApp;rw[hz]
   simp only
   rw[if_pos (by rw[hn];simpa using hl)]
  ·have hb:(ys.length+(a::r).length)*bytes≤140737488355328:=by rw[hn,h2.len];exact hl
   rcases h3 with rfl|⟨t,ht,rfl⟩
   ·refine .inl ⟨ys++a::r,h2.append hc,?_⟩
    unfold evApp;rw[hz]
    simp only[beq_self_eq_true,Bool.true_and,decide_eq_true_eq]
    rw[if_pos hb]
   ·refine .inr ⟨t,ys++a::r,ys,rfl,ht,h2.append hc,?_⟩
    unfold evApp;rw[hz]
    simp only[beq_self_eq_true,Bool.true_and,decide_eq_true_eq]
    rw[if_pos hb,Wz ht,if_pos rfl]
theorem z15 (t:Nat) {pre:List (List Nat)} (hp:pre≠[]) (post:List (List Nat)):addTok t (pre++post)=addTok t pre++post:=by
 cases pre with
 |nil=>exact absurd rfl hp
 |cons h r=>rfl
theorem z14 (t:Nat) {pre:List (List Nat)} (hp:pre≠[]):(addTok t pre).length=pre.length:=by
 cases pre with
 |nil=>exact absurd rfl hp
 |cons h r=>rfl
theorem Wr.app {i:Nat} {live post:List (List Nat)} {z:AV} {zs:List AV} {bytes:Nat} (h:Wr R s i y xs live post) (hz: ∀m:Mem,m.elems s z=some zs) (hc:All2 R cs zs) (hl:(xs.length+cs.length)*bytes≤140737488355328)
  (stk:List (List Blk)) (cur:List Blk) (nx fl:Nat):
  ∃y' n live',evApp ⟨stk,cur,nx,live,fl⟩ s bytes y z=some (y',⟨stk,cur,n,live',fl⟩)∧Wr R s i y' (xs++cs) live' post:=by
 obtain⟨pre,rfl,h2,h3⟩:=h
 have hp:pre≠[]:=by intro h;subst h;simp at h2
 rcases Own.app (m:=⟨stk,cur,nx,pre++post,fl⟩) (h3.mono fun t h=>by simp only[List.flatten_append,w06];exact .inl h) (hz _) hc hl with⟨h,e⟩|⟨ys,q,e⟩|⟨t,ys,q0,hy,_,q,e⟩
 ·exact⟨_,_,_,e,pre,rfl,h2,by subst h;simpa using h3⟩
 ·refine⟨_,_,_,e,addTok nx pre,z15 nx hp post,by rw[z14 nx hp];exact h2,.inr ⟨_,ys,rfl,q,.inr ⟨nx,?_,rfl⟩⟩⟩
  rw[yd];exact w13
 ·have ht:t∈pre.flatten:=by
   rcases h3 with⟨rfl,_⟩|⟨tk,ys',e1,_,e2|⟨t',e3,e2⟩⟩
   ·cases hy
   ·rw[e1,e2] at hy;cases hy
   ·rw[e1,e2] at hy;injection hy with _ hy _;injection hy with hy;exact hy▸e3
  have hp':dropTok t pre≠[]:=by intro h;have:=Yz t pre;rw[h,h2] at this;simp at this
  simp only[Tm ht,z15 _ hp'] at e
  refine⟨_,_,_,e,addTok nx (dropTok t pre),rfl,by rw[z14 nx hp',Yz];exact h2,.inr ⟨_,ys,rfl,q,.inr ⟨nx,?_,rfl⟩⟩⟩
  rw[yd];exact w13
theorem z4E {t:Nat}: ∀{j:Nat} {pre:List (List Nat)} (post:List (List Nat)),j<pre.length→addAt t j (pre++post)=addAt t j pre++post
 |0,[],_,h=>by simp at h
 |0,a::r,_,_=>rfl
 |j+1,[],_,h=>by simp at h
 |j+1,a::r,post,h=>by simp only[w2d,addAt];rw[z4E post (by simpa using h)]
theorem z4C {t:Nat}: ∀{j:Nat} {pre:List (List Nat)},j<pre.length→(addAt t j pre).length=pre.length
 |0,[],h=>by simp at h
 |0,a::r,_=>rfl
 |j+1,[],h=>by simp at h
 |j+1,a::r,h=>by simp[addAt,z4C (by simpa using h)]
theorem z4D {t:Nat}: ∀{j:Nat} {pre:List (List Nat)},j<pre.length→t∈(addAt t j pre).flatten∧ ∀u∈pre.flatten,u∈(addAt t j pre).flatten
 |0,[],h=>by simp at h
 |0,a::r,_=>by simp[addAt,addTok];intro u h;exact .inr h
 |j+1,[],h=>by simp at h
 |j+1,a::r,h=>by
  have:=z4D (t:=t) (j:=j) (pre:=r) (by simpa using h)
  simp only[addAt,w2e,w06]
  exact⟨.inr this.1,fun u hu=>hu.elim .inl fun hu=> .inr (this.2 u hu)⟩
theorem Wr.sink {i:Nat} {live post:List (List Nat)} (h:Wr R s (i+1) y xs live post): ∃e live',sink (i+1) y.toks live=e::live'∧Wr R s i y xs live' post:=by
 obtain⟨pre,rfl,h2,h3⟩:=h
 match pre,h2 with
 |a::r,h2=>
  have hr:r.length=i+1:=by simpa using h2
  rcases h3 with⟨rfl,rfl⟩|⟨tk,ys,rfl,q,h3⟩
  ·exact⟨a,r++post,rfl,r,rfl,hr,.inl ⟨rfl,rfl⟩⟩
  ·rcases h3 with rfl|⟨t,ht,rfl⟩
   ·exact⟨a,r++post,rfl,r,rfl,hr,.inr ⟨_,ys,rfl,q,.inl rfl⟩⟩
   ·simp only[AV.toks,Vs.sink,sink1,w2d,Nat.add_sub_cancel]
    split
    ·refine⟨_,_,rfl,addAt t i r,z4E post (by omega),by rw[z4C (by omega)];exact hr,.inr ⟨_,ys,rfl,q,.inr ⟨t,(z4D (by omega)).1,rfl⟩⟩⟩
    ·rename_i hc
     refine⟨_,_,rfl,r,rfl,hr,.inr ⟨_,ys,rfl,q,.inr ⟨t,?_,rfl⟩⟩⟩
     simp only[w2e,w06] at ht
     rcases ht with ht|ht
     ·exact absurd (by simpa using ht) hc
     ·exact ht
end
section
variable {α : Type} {R : α → AV → Prop} {s : Nat} {xs cs : List α} {tab : Nat → Option AFunc}
def Okl (R:α→AV→Prop) (s:Nat) (tab:Nat→Option AFunc) (f:Nat) (args:List AV) (m:Mem) (xs:List α):Prop:=
 ∃y ts k,CALL tab f args m=some (y,{m with nx:=k,live:=pushToks ts m.live})∧Own R s y xs ts
def Okp (R:α→AV→Prop) (s:Nat) (tab:Nat→Option AFunc) (f:Nat) (args:List AV) (m:Mem) (xs:List α) (r:Int):Prop:=
 ∃y ts k,CALL tab f args m=some (.tup [y,.int .i64 r],{m with nx:=k,live:=pushToks ts m.live})∧Own R s y xs ts
def FinL (R:α→AV→Prop) (s:Nat) (m:Mem) (xs:List α) (v:AV) (m':Mem):Prop:= ∃ts k,m'={m with nx:=k,live:=pushToks ts m.live}∧Own R s v xs ts
def FinP (R:α→AV→Prop) (s:Nat) (m:Mem) (xs:List α) (r:Int) (v:AV) (m':Mem):Prop:= ∃y ts k,v= .tup [y,.int .i64 r]∧m'={m with nx:=k,live:=pushToks ts m.live}∧Own R s y xs ts
theorem Uq {f:Nat} {fn:AFunc} (h:tab f=some fn) {args:List AV} {m:Mem} (hx:X tab fn.body (mk fn.ntmps (.tup []) (numb 0 args)) (enter m) (.fin fn.res m (FinL R s m xs))) (hn:args.length≤fn.ntmps:=by exact Nat.le_of_ble_eq_true rfl):
  Okl R s tab f args m xs:=by
 obtain⟨x,h1,ts,k,h2,h3⟩:=jW h hx hn;exact⟨x.1,ts,k,by rw[h1,←h2],h3⟩
theorem z4X {f:Nat} {fn:AFunc} (h:tab f=some fn) {args:List AV} {m:Mem} {r:Int} (hx:X tab fn.body (mk fn.ntmps (.tup []) (numb 0 args)) (enter m) (.fin fn.res m (FinP R s m xs r))) (hn:args.length≤fn.ntmps:=by exact Nat.le_of_ble_eq_true rfl):
  Okp R s tab f args m xs r:=by
 obtain⟨x,h1,y,ts,k,h2,h3,h4⟩:=jW h hx hn;exact⟨y,ts,k,by rw[h1,←h2,←h3],h4⟩
variable {stk : List (List Blk)} {cur c' : List Blk} {nx nx' fl fl' : Nat} {live live' : List (List Nat)} {own : List Nat} {y : AV}
theorem z9U {m0:Mem} {r:AV} (h1:r.refs (stk++[cur]).length=false) (h2:r.toks=[]):
  leave m0 ⟨stk++[cur],c',nx',own::live',fl'⟩ r=some (r,⟨stk,cur,nx',live',m0.floor⟩):=by
 have e:own.filter (fun _=>false)=[]:=by simp
 unfold leave
 simp only[List.getLast?_append,List.getLast?_singleton,Option.some_or,h1,w08,if_false,h2,List.contains_nil,e,pushToks,List.dropLast_concat]
theorem z9T (h:Own R s y xs own):leave ⟨stk,cur,nx,live,fl⟩ ⟨stk++[cur],c',nx',own::live',fl'⟩ y=some (y,⟨stk,cur,nx',pushToks (own.filter fun t=>y.toks.contains t) live',fl⟩):=z48 (h.refs _)
theorem jV (h:Own R s y xs own):Opt (leave ⟨stk,cur,nx,live,fl⟩ ⟨stk++[cur],c',nx',own::live,fl'⟩ y) fun r=>FinL R s ⟨stk,cur,nx,live,fl⟩ xs r.1 r.2:=by
 rw[z9T h,z9]
 exact⟨_,nx',rfl,h.filter⟩
theorem uW {r:Int} (h:Own R s y xs own):Opt (leave ⟨stk,cur,nx,live,fl⟩ ⟨stk++[cur],c',nx',own::live,fl'⟩ (.tup [y,.int .i64 r])) fun q=>FinP R s ⟨stk,cur,nx,live,fl⟩ xs r q.1 q.2:=by
 rw[z48 (by simp only[AV.refs,refsAny,h.refs];rfl),z9]
 refine⟨y,_,nx',rfl,rfl,?_⟩
 simp only[AV.toks,toksAll,w16]
 exact h.filter
variable {ρ : List AV} {m : Mem} {k : Kont} {l : List AOper} {d : Option Nat} {f : Nat} {args : List AV}
theorem Okl.xv (h:Okl R s tab f args m xs) (q: ∀y ts n,Own R s y xs ts→Xs tab l (setDst ρ d y) {m with nx:=n,live:=pushToks ts m.live} k):Xv tab (CALL tab f args m) d l ρ k:=by
 obtain⟨y,ts,n,h1,h2⟩:=h
 rw[h1,va];exact q y ts n h2
theorem Okp.xv {r:Int} (h:Okp R s tab f args m xs r) (q: ∀y ts n,Own R s y xs ts→Xs tab l (setDst ρ d (.tup [y,.int .i64 r])) {m with nx:=n,live:=pushToks ts m.live} k):Xv tab (CALL tab f args m) d l ρ k:=by
 obtain⟨y,ts,n,h1,h2⟩:=h
 rw[h1,va];exact q y ts n h2
theorem Okv.xv {r:AV} (h:Okv tab f args m r) (q: ∀n,Xs tab l (setDst ρ d r) (m.bump n) k):Xv tab (CALL tab f args m) d l ρ k:=by
 obtain⟨n,h1⟩:=h
 rw[h1,va];exact q n
theorem Own.xv {e:List Nat} {rest:List (List Nat)} {z:AV} {zs:List AV} {bytes:Nat} (h:Own R s y xs e) (hz: ∀m:Mem,m.elems s z=some zs) (hc:All2 R cs zs) (hl:(xs.length+cs.length)*bytes≤140737488355328)
  (q: ∀y' n e',Own R s y' (xs++cs) e'→Xs tab l (setDst ρ d y') ⟨stk,cur,n,e'::rest,fl⟩ k):Xv tab (evApp ⟨stk,cur,nx,e::rest,fl⟩ s bytes y z) d l ρ k:=by
 obtain⟨y',n,live',h1,h2⟩:=(h.wr rest).app hz hc hl stk cur nx fl
 obtain⟨e',rfl,h3⟩:=h2.own
 rw[h1,va];exact q y' n e' h3
theorem Wr.xv {i:Nat} {post:List (List Nat)} {z:AV} {zs:List AV} {bytes:Nat} (h:Wr R s i y xs live post) (hz: ∀m:Mem,m.elems s z=some zs) (hc:All2 R cs zs) (hl:(xs.length+cs.length)*bytes≤140737488355328)
  (q: ∀y' n live',Wr R s i y' (xs++cs) live' post→Xs tab l (setDst ρ d y') ⟨stk,cur,n,live',fl⟩ k):Xv tab (evApp ⟨stk,cur,nx,live,fl⟩ s bytes y z) d l ρ k:=by
 obtain⟨y',n,live',h1,h2⟩:=h.app hz hc hl stk cur nx fl
 rw[h1,va];exact q y' n live' h2
end
noncomputable def callNx (tab:Nat→Option AFunc) (f:Nat) (args:List AV) (m:Mem):Nat:=match CALL tab f args m with|some (_,m')=>m'.nx|none=>0
theorem Okv.eq {tab:Nat→Option AFunc} {f:Nat} {args:List AV} {m:Mem} {r:AV} (h:Okv tab f args m r):CALL tab f args m=some (r,m.bump (callNx tab f args m)):=by
 obtain⟨k,h⟩:=h
 rw[h]
 unfold callNx
 rw[h];rfl
noncomputable def pb (p:Prop):Bool:= @decide p (Classical.propDecidable p)
theorem Ql {p:Prop} (h:p):pb p=true:=by unfold pb;exact @decide_eq_true p (Classical.propDecidable p) h
theorem z6G {p:Prop} (h: ¬p):pb p=false:=by unfold pb;exact @decide_eq_false p (Classical.propDecidable p) h
theorem zc5 {p:Prop}:pb p=false↔ ¬p:=⟨fun h hp=>(by rw[Ql hp] at h;cases h),z6G⟩
section
variable {tab : Nat → Option AFunc} {ρ : List AV} {m : Mem} {k : Kont} {l : List AOper} {d : Option Nat} {op : AOp} {t : Bool} {a b : ACode}
end
attribute [go_sem] allLen
section
variable (L : List Blk) (b c d b' : Blk)
theorem z9v:(L++[b])[L.length]? =some b:=by simp
theorem z5B:(L++[b]).set L.length b'=L++[b']:=by rw[List.set_append];simp
end
def inU8 (n:Int):Prop:=0≤n∧n<256
structure DField where
 name:List UInt8
 typ:Int
 deriving DecidableEq
def IsField (d:DField) (y:AV):Prop:=y= .agg [.str d.name,.int .i64 d.typ]
theorem IsField.agg {d:DField} {y:AV} (h:IsField d y):takeV true 2 y.cells=some y∧y.cells.length=2:=by
 obtain rfl:=h
 exact⟨rfl,rfl⟩
structure DTyp where
 kind:Int
 elem:Int
 len:Int
 fields:List DField
 deriving DecidableEq
def IsTyp (d:DTyp) (y:AV):Prop:= ∃v0,y= .agg [.int .u8 d.kind,.int .i64 d.elem,.int .i64 d.len,v0]∧IsSl IsField 2 d.fields v0
theorem IsTyp.agg {d:DTyp} {y:AV} (h:IsTyp d y):takeV true 4 y.cells=some y∧y.cells.length=4:=by
 obtain⟨v0,rfl,_⟩:=h
 exact⟨rfl,rfl⟩
structure DInstr where
 op:Int
 a:Int
 b:Int
 c:Int
 deriving DecidableEq
def IsInstr (d:DInstr) (y:AV):Prop:=y= .agg [.int .u8 d.op,.int .i64 d.a,.int .i64 d.b,.int .i64 d.c]
theorem IsInstr.agg {d:DInstr} {y:AV} (h:IsInstr d y):takeV true 4 y.cells=some y∧y.cells.length=4:=by
 obtain rfl:=h
 exact⟨rfl,rfl⟩
structure DRun where
 frm:Int
 value:Int
 deriving DecidableEq
def IsRun (d:DRun) (y:AV):Prop:=y= .agg [.int .i64 d.frm,.int .u64 d.value]
theorem IsRun.agg {d:DRun} {y:AV} (h:IsRun d y):takeV true 2 y.cells=some y∧y.cells.length=2:=by
 obtain rfl:=h
 exact⟨rfl,rfl⟩
structure DFunc where
 name:List UInt8
 params:Int
 result:Int
 slots:List DField
 code:List DInstr
 sizes:List DRun
 lives:List DRun
 deriving DecidableEq
def IsFunc (d:DFunc) (y:AV):Prop:= ∃v0 v1 v2 v3,y= .agg [.str d.name,.int .i64 d.params,.int .i64 d.result,v0,v1,v2,v3]∧IsSl IsField 2 d.slots v0∧IsSl IsInstr 4 d.code v1∧IsSl IsRun 2 d.sizes v2∧IsSl IsRun 2 d.lives v3
theorem IsFunc.agg {d:DFunc} {y:AV} (h:IsFunc d y):takeV true 7 y.cells=some y∧y.cells.length=7:=by
 obtain⟨v0,v1,v2,v3,rfl,_,_,_,_⟩:=h
 exact⟨rfl,rfl⟩
structure DImage where
 types:List DTyp
 texts:List (List UInt8)
 funcs:List DFunc
 deriving DecidableEq
def IsImage (d:DImage) (y:AV):Prop:= ∃v0 v1 v2,y= .agg [v0,v1,v2]∧IsSl IsTyp 4 d.types v0∧IsSl IsStr 1 d.texts v1∧IsSl IsFunc 7 d.funcs v2
theorem IsImage.agg {d:DImage} {y:AV} (h:IsImage d y):takeV true 3 y.cells=some y∧y.cells.length=3:=by
 obtain⟨v0,v1,v2,rfl,_,_,_⟩:=h
 exact⟨rfl,rfl⟩
structure DRegion where
 base:Int
 bytes:List UInt8
 deriving DecidableEq
def IsRegion (d:DRegion) (y:AV):Prop:= ∃v0,y= .agg [.int .u64 d.base,v0]∧IsSl IsByte 1 d.bytes v0
theorem IsRegion.agg {d:DRegion} {y:AV} (h:IsRegion d y):takeV true 2 y.cells=some y∧y.cells.length=2:=by
 obtain⟨v0,rfl,_⟩:=h
 exact⟨rfl,rfl⟩
structure DRoutine where
 status:Int
 code:Int
 sp:Int
 defers:Int
 panics:Int
 key:Int
 deriving DecidableEq
def IsRoutine (d:DRoutine) (y:AV):Prop:=y= .agg [.int .u8 d.status,.int .u64 d.code,.int .u64 d.sp,.int .u64 d.defers,.int .u64 d.panics,.int .i64 d.key]
theorem IsRoutine.agg {d:DRoutine} {y:AV} (h:IsRoutine d y):takeV true 6 y.cells=some y∧y.cells.length=6:=by
 obtain rfl:=h
 exact⟨rfl,rfl⟩
structure DEnded where
 outcome:Int
 failing:Int
 steps:Int
 deriving DecidableEq
def IsEnded (d:DEnded) (y:AV):Prop:=y= .agg [.int .u8 d.outcome,.int .i64 d.failing,.int .i64 d.steps]
theorem IsEnded.agg {d:DEnded} {y:AV} (h:IsEnded d y):takeV true 3 y.cells=some y∧y.cells.length=3:=by
 obtain rfl:=h
 exact⟨rfl,rfl⟩
structure DDump where
 image:DImage
 ended:DEnded
 heap:DRegion
 stacks:List DRegion
 routines:List DRoutine
 defers:List (List Int)
 panics:List (List Int)
 deriving DecidableEq
def IsDump (d:DDump) (y:AV):Prop:= ∃v0 v1 v2 v3 v4 v5 v6 v7,y= .agg [v0,v1,v2,.int .u8 d.ended.outcome,.int .i64 d.ended.failing,.int .i64 d.ended.steps,.int .u64 d.heap.base,v3,v4,v5,v6,v7]∧IsSl IsTyp 4 d.image.types v0∧IsSl IsStr 1 d.image.texts v1∧IsSl IsFunc 7 d.image.funcs v2∧IsSl IsByte 1 d.heap.bytes v3∧IsSl IsRegion 2 d.stacks v4∧IsSl IsRoutine 6 d.routines v5∧IsSl (IsSl (IsK .u64) 1) 1 d.defers v6∧IsSl (IsSl (IsK .u64) 1) 1 d.panics v7
theorem IsDump.agg {d:DDump} {y:AV} (h:IsDump d y):takeV true 12 y.cells=some y∧y.cells.length=12:=by
 obtain⟨v0,v1,v2,v3,v4,v5,v6,v7,rfl,_,_,_,_,_,_,_,_⟩:=h
 exact⟨rfl,rfl⟩
structure DSection where
 kind:Int
 data:List UInt8
 deriving DecidableEq
def IsSection (d:DSection) (y:AV):Prop:= ∃v0,y= .agg [.int .u8 d.kind,v0]∧IsSl IsByte 1 d.data v0
structure WfSection (d:DSection):Prop where
 kind:inU8 d.kind
 data: ∀x∈d.data,True
theorem IsSection.agg {d:DSection} {y:AV} (h:IsSection d y):takeV true 2 y.cells=some y∧y.cells.length=2:=by
 obtain⟨v0,rfl,_⟩:=h
 exact⟨rfl,rfl⟩
structure DFrame where
 start:Int
 func:Int
 at_:Int
 code:Int
 size:Int
 mode:Int
 record:Int
 caller:Int
 deriving DecidableEq
def IsFrame (d:DFrame) (y:AV):Prop:=y= .agg [.int .u64 d.start,.int .i64 d.func,.int .i64 d.at_,.int .u64 d.code,.int .i64 d.size,.int .u64 d.mode,.int .u64 d.record,.int .u64 d.caller]
theorem IsFrame.agg {d:DFrame} {y:AV} (h:IsFrame d y):takeV true 8 y.cells=some y∧y.cells.length=8:=by
 obtain rfl:=h
 exact⟨rfl,rfl⟩
def OkT (tab:Nat→Option AFunc) (f:Nat) (args:List AV) (m:Mem) (Q:AV→List Nat→Nat→Prop):Prop:=
 ∃y ts k,CALL tab f args m=some (y,{m with nx:=k,live:=pushToks ts m.live})∧Q y ts k
section
variable {tab : Nat → Option AFunc} {ρ : List AV} {m : Mem} {k : Kont} {l : List AOper} {d : Option Nat} {f : Nat} {args : List AV}
theorem OkT.xv {Q:AV→List Nat→Nat→Prop} (h:OkT tab f args m Q) (q: ∀y ts n,Q y ts n→Xs tab l (setDst ρ d y) {m with nx:=n,live:=pushToks ts m.live} k):Xv tab (CALL tab f args m) d l ρ k:=by
 obtain⟨y,ts,n,h1,h2⟩:=h
 rw[h1,va];exact q y ts n h2
theorem Ok.xv {R:AV→Prop} (h:Ok tab f args m R) (q: ∀y n,R y→Xs tab l (setDst ρ d y) (m.bump n) k):Xv tab (CALL tab f args m) d l ρ k:=by
 obtain⟨y,n,h1,h2⟩:=h
 rw[h1,va];exact q y n h2
theorem OkT.mono {Q Q':AV→List Nat→Nat→Prop} (h:OkT tab f args m Q) (k: ∀y ts n,Q y ts n→Q' y ts n):OkT tab f args m Q':=let ⟨y,ts,n,h1,h2⟩:=h;⟨y,ts,n,h1,k _ _ _ h2⟩
end
theorem IsSl.refs {α:Type} {R:α→AV→Prop} {s:Nat} {xs:List α} {y:AV} (h:IsSl R s xs y) (l:Nat):y.refs l=false:=by
 rcases h with⟨_,⟨rfl,rfl⟩|⟨tk,ys,rfl,h⟩⟩<;>rfl
theorem z8W {tab:Nat→Option AFunc} {f:Nat} {b:Bool} (h:tab f=some (constFn b)) (m:Mem):CALL tab f [] m=some (.bool b,m):=by
 refine z1R.2 ⟨1,?_⟩
 simp only[callN,callB,h,evFn,constFn,ev,List.length_nil,Nat.sub_self,List.replicate_zero,w16,evRess,evRes,w19,w04,w02,w35,w1c,packRes]
 exact T7 m b
end Go.Vs
end
section
namespace Go.Proofs.W
open Go.Vs
set_option linter.unusedSimpArgs false
set_option maxRecDepth 100000
theorem Qs {n:Int} (h1:0≤n) (h2:n<4294967296):IntKind.u32.wrap n=n:=by
 unfold IntKind.wrap
 simp[IntKind.signed,IntKind.bits]
 omega
theorem UV {n:Nat}:IntKind.u8.wrap (n:Int)=((n%256:Nat):Int):=by
 unfold IntKind.wrap
 simp[IntKind.signed,IntKind.bits]
theorem jq {a b:Nat} (h1:a<4294967296) (h2:b<4294967296):evBits .xor .u32 (a:Int) (b:Int)=some (.int .u32 ((a^^^b:Nat):Int)):=by
 have h3:a^^^b<2^32:=Nat.xor_lt_two_pow (n:=32) h1 h2
 show some (AV.int .u32 (IntKind.u32.wrap ((BitVec.ofInt 32 (a:Int)^^^BitVec.ofInt 32 (b:Int)).toNat:Int)))=_
 rw[BitVec.ofInt_natCast,BitVec.ofInt_natCast,BitVec.toNat_xor,BitVec.toNat_ofNat,BitVec.toNat_ofNat,Nat.mod_eq_of_lt (show a<2^32 from h1),Nat.mod_eq_of_lt (show b<2^32 from h2),Qs (by omega) (by omega)]
theorem zcO {a:Nat} (h1:a<4294967296):evBits .and .u32 (a:Int) 1=some (.int .u32 ((a%2:Nat):Int)):=by
 show some (AV.int .u32 (IntKind.u32.wrap ((BitVec.ofInt 32 (a:Int)&&&BitVec.ofInt 32 ((1:Nat):Int)).toNat:Int)))=_
 rw[BitVec.ofInt_natCast,BitVec.ofInt_natCast,BitVec.toNat_and,BitVec.toNat_ofNat,BitVec.toNat_ofNat,Nat.mod_eq_of_lt (show a<2^32 from h1),show 1%2^32=1 from rfl,Nat.and_one_is_mod,Qs (by omega) (by omega)]
theorem zd9 {a b:Nat} (h1:a<256) (h2:b<256):evBits .xor .u8 (a:Int) (b:Int)=some (.int .u8 ((a^^^b:Nat):Int)):=by
 have h3:a^^^b<2^8:=Nat.xor_lt_two_pow (n:=8) h1 h2
 show some (AV.int .u8 (IntKind.u8.wrap ((BitVec.ofInt 8 (a:Int)^^^BitVec.ofInt 8 (b:Int)).toNat:Int)))=_
 rw[BitVec.ofInt_natCast,BitVec.ofInt_natCast,BitVec.toNat_xor,BitVec.toNat_ofNat,BitVec.toNat_ofNat,Nat.mod_eq_of_lt (show a<2^8 from h1),Nat.mod_eq_of_lt (show b<2^8 from h2),Qi (by omega) (by omega)]
theorem zcb {a:Nat} (h1:a<4294967296):evUn .xor (.int .u32 (a:Int))=some (.int .u32 ((4294967295^^^a:Nat):Int)):=by
 have:=jq (a:=4294967295) (b:=a) (by omega) h1
 exact this
theorem z9c {a:Nat} (j:Nat) (hj:j≤32):evShift .shr .u32 (a:Int) (j:Int)=some (.int .u32 ((a/2^j:Nat):Int)):=by
 unfold evShift
 rw[if_neg (by omega)]
 simp only[IntKind.bits,Int.toNat_natCast,Nat.min_eq_left hj]
 congr 2
 rw[Int.fdiv_eq_ediv_of_nonneg _ (by exact Int.natCast_nonneg _:(0:Int)≤((2:Int)^j))]
 ·push_cast;rfl
def tq (x:Nat):Nat:=if x%2=0 then x/2 else(x/2)^^^3988292384
def el:Nat→Nat→Nat
 |0,x=>x
 |n+1,x=>el n (tq x)
theorem zdR {x:Nat} (h:x<4294967296):tq x<4294967296:=by
 unfold tq
 split
 ·omega
 ·exact Nat.xor_lt_two_pow (n:=32) (by omega) (by omega)
theorem z4v: ∀(n x:Nat),x<4294967296→el n x<4294967296
 |0,_,h=>h
 |n+1,_,h=>z4v n _ (zdR h)
def tbC (k:Nat):List AV:=(List.range 256).map fun i=>if i<k then .int .u32 ((el 8 i:Nat):Int) else .int .u32 0
def TB:List AV:=tbC 256
theorem xq (k:Nat):(tbC k).length=256:=by simp[tbC]
theorem z6k:tbC 0=List.replicate 256 (.int .u32 0):=by
 unfold tbC
 simp[List.map_const']
theorem z9i {α:Type} (f:α→AV) (h: ∀a,(f a).one=true): ∀l:List α,allOne (l.map f)=true
 | []=>rfl
 |a::l=>by simp only[w21,allOne,h,z9i f h l,Bool.and_self]
theorem z4H (k:Nat):allOne (tbC k)=true:=z9i _ (fun i=>by split<;>rfl) _
theorem Qx (k:Nat):takeV true 256 (tbC k)=some (.agg (tbC k)):=by
 rw[z99 _ _ (by rw[xq];exact w0f _),w31 (by rw[xq];exact w0f _)]
theorem Qj {k j:Nat} (hj:j<256):(tbC k)[j]? =some (if j<k then .int .u32 ((el 8 j:Nat):Int) else .int .u32 0):=by
 unfold tbC
 rw[w15,w34 hj];rfl
theorem z98 {k:Nat} (hk:k<256):(tbC k).take k++[.int .u32 ((el 8 k:Nat):Int)]++(tbC k).drop (k+1)=tbC (k+1):=by
 have e:(tbC k).set k (.int .u32 ((el 8 k:Nat):Int))=(tbC k).take k++[.int .u32 ((el 8 k:Nat):Int)]++(tbC k).drop (k+1):=by
  rw[List.set_eq_take_append_cons_drop,if_pos (by rw[xq];exact hk)];simp
 rw[←e]
 apply List.ext_getElem?
 intro i
 rw[List.getElem?_set]
 by_cases h:i<256
 ·rw[Qj h,Qj h]
  by_cases e:k=i
  ·subst e;rw[if_pos rfl,if_pos (by rw[xq];exact h),if_pos (by omega)]
  ·rw[if_neg e]
   by_cases h2:i<k
   ·rw[if_pos h2,if_pos (by omega)]
   ·rw[if_neg h2,if_neg (by omega)]
 ·rw[if_neg (by omega),w1a (by rw[xq];omega),w1a (by rw[xq];omega)]
theorem zd8 {j:Nat} (hj:j<256):takeV false 1 (TB.drop j)=some (.int .u32 ((el 8 j:Nat):Int)):=by
 have h:=Qj (k:=256) hj
 rw[if_pos hj] at h
 unfold TB
 obtain⟨h1,h2⟩:=w05.1 h
 rw[w36 h1,z6n,h2]
theorem Qr: ∀(n x:Nat),el (n+1) x=tq (el n x)
 |0,_=>rfl
 |n+1,x=>Qr n (tq x)
theorem ux {k:Nat} (h:k<4294967296):IntKind.u32.wrap (k:Int)=(k:Int):=Qs (by omega) (by omega)
theorem z89 (x:Nat) (hx:x<4294967296) (m:Mem):Okv tab F_crc_turn [.int .u32 (x:Int)] m (.int .u32 ((tq x:Nat):Int)):=by
 refine zG t_crc_turn ?_
 obtain⟨stk,cur,nx,live,fl⟩:=m
 have e1:evShift .shr .u32 (x:Int) 1=some (.int .u32 ((x/2:Nat):Int)):=z9c (a:=x) 1 (by omega)
 have e2:evBits .xor .u32 ((x/2:Nat):Int) 3988292384=some (.int .u32 ((x/2^^^3988292384:Nat):Int)):=jq (a:=x/2) (b:=3988292384) (by omega) (by omega)
 simp only[a_crc_turn,List.map,go_sem,reduceIte,G0,G1,G2,G3,G4,G5,zcO hx]
 by_cases h:x%2=0
 ·have ht:(((x%2:Nat):Int)==0)=true:=by rw[h];rfl
  simp only[go_sem,reduceIte,G0,G1,G2,G3,G4,G5,ht,e1]
  rw[z8 rfl rfl,z9]
  exact⟨⟨_,rfl⟩,by unfold tq;rw[if_pos h]⟩
 ·have ht:(((x%2:Nat):Int)==0)=false:=by rw[beq_eq_false_iff_ne];omega
  simp only[go_sem,reduceIte,G0,G1,G2,G3,G4,G5,ht,e1,e2]
  rw[z8 rfl rfl,z9]
  exact⟨⟨_,rfl⟩,by unfold tq;rw[if_neg h]⟩
theorem qM (x:Nat) (hx:x<4294967296) (m:Mem):Okv tab F_wreckageref01_Element [.int .u32 (x:Int)] m (.int .u32 ((el 8 x:Nat):Int)):=by
 refine zG t_wreckageref01_Element ?_
 obtain⟨stk,cur,nx,live,fl⟩:=m
 simp only[a_wreckageref01_Element,List.map,go_sem,reduceIte,G0,G1,G2,G3,G4,G5]
 refine zt (α:=Nat) (fun j σ=>j≤8∧ ∃nz,heads [0,3] 0 σ=⟨tmps 18 [(0,.int .u32 ((el j x:Nat):Int)),(3,.int .i64 j)],⟨stk++[cur],[],nz,[]::live,fl⟩⟩) (fun j=>8-j) 0 ?_ ?_
 ·refine⟨w10 _,?_⟩
  simp only[go_sem,reduceIte,G0,G1,G2,G3,G4,G5]
  exact⟨_,rfl⟩
 ·rintro j σ ⟨hj,nz,hσ⟩
  rw[hσ]
  clear hσ σ
  dsimp only at hj⊢
  have hl:=z4v j x hx
  generalize hy:el j x=y at hl
  by_cases h8:j<8
  ·have hc8:(j:Int)<8:=by omega
   have e0:((y:Int).tmod 2)=((y%2:Nat):Int):=rfl
   have e1:IntKind.u32.wrap ((y:Int).tdiv 2)=((y/2:Nat):Int):=by rw[show((y:Int).tdiv 2)=((y/2:Nat):Int) from rfl,ux (by omega)]
   have e2:evBits .xor .u32 ((y/2:Nat):Int) 3988292384=some (.int .u32 ((y/2^^^3988292384:Nat):Int)):=jq (a:=y/2) (b:=3988292384) (by omega) (by omega)
   by_cases h:y%2=1
   ·have ht:(((y%2:Nat):Int)==1)=true:=by rw[h];rfl
    simp only[go_sem,reduceIte,G0,G1,G2,G3,G4,G5,hc8,(by decide: ¬((2:Int)=0)),e0,ht,e1,e2,zk h8 (by omega)]
    exact⟨j+1,by omega,h8,_,by rw[Qr,hy];unfold tq;rw[if_neg (by omega)]⟩
   ·have ht:(((y%2:Nat):Int)==1)=false:=by rw[beq_eq_false_iff_ne];omega
    simp only[go_sem,reduceIte,G0,G1,G2,G3,G4,G5,hc8,(by decide: ¬((2:Int)=0)),e0,ht,e1,e2,zk h8 (by omega)]
    exact⟨j+1,by omega,h8,_,by rw[Qr,hy];unfold tq;rw[if_pos (by omega)]⟩
  ·have:j=8:=by omega
   subst this
   have hc8: ¬(((8:Nat):Int)<8):=by omega
   simp only[go_sem,reduceIte,G0,G1,G2,G3,G4,G5,hc8]
   rw[z8 rfl rfl,z9]
   exact⟨⟨_,rfl⟩,by rw[hy]⟩
theorem z6l (k:Nat) (l:List AV):l++(tbC k).drop 256=l:=by rw[List.drop_of_length_le (by rw[xq];exact w0f _),w16]
theorem z61:(List.replicate 256 (AV.int .u32 0)).drop 256=[]:=rfl
theorem Yc (m:Mem) (hfl:m.floor≤m.stk.length+1):Okv tab F_crc_Table [] m (.agg TB):=by
 refine zG t_crc_Table ?_
 obtain⟨stk,cur,nx,live,fl⟩:=m
 have hf:fl≤(stk++[cur]).length:=by simp at hfl⊢;omega
 simp only[a_crc_Table,List.map,go_sem,reduceIte,G0,G1,G2,G3,G4,G5]
 refine zt (α:=Nat) (fun k σ=>k≤256∧ ∃nz,heads [0,1,4] 2 σ=⟨tmps 19 [(0,.ptr (stk++[cur]).length 0 nx 0),(1,.ptr (stk++[cur]).length 1 (nx+1) 0),(4,.int .i64 k)],⟨stk++[cur],[⟨nx,tbC 0⟩,⟨nx+1,tbC k⟩],nz,[]::live,fl⟩⟩) (fun k=>256-k) 0 ?_ ?_
 ·refine⟨w10 _,?_⟩
  simp only[go_sem,reduceIte,G0,G1,G2,G3,G4,G5,z6k]
  exact⟨_,rfl⟩
 ·rintro k σ ⟨hk,nz,hσ⟩
  rw[hσ]
  clear hσ σ
  dsimp only at hk⊢
  by_cases h:k<256
  ·have hc:(k:Int)<256:=by omega
   simp only[go_sem,reduceIte,G0,G1,G2,G3,G4,G5,hc,ux (show k<4294967296 by omega)]
   refine zt (α:=Nat) (fun j σ=>j≤8∧ ∃nz,heads [0,1,2,3,4,9] 2 σ=⟨tmps 19 [(0,.ptr (stk++[cur]).length 0 nx 0),(1,.ptr (stk++[cur]).length 1 (nx+1) 0),(2,.int .i64 k),(3,.int .u32 ((el j k:Nat):Int)),(4,.int .i64 k),(9,.int .i64 j)],⟨stk++[cur],[⟨nx,tbC 0⟩,⟨nx+1,tbC k⟩],nz,[]::live,fl⟩⟩) (fun j=>8-j) 0 ?_ ?_
   ·refine⟨w10 _,?_⟩
    simp only[go_sem,reduceIte,G0,G1,G2,G3,G4,G5]
    exact⟨_,rfl⟩
   ·rintro j σ ⟨hj,nz,hσ⟩
    rw[hσ]
    clear hσ σ
    dsimp only at hj⊢
    by_cases h8:j<8
    ·have hc8:(j:Int)<8:=by omega
     have hT:=fun m=>(z89 (el j k) (z4v _ _ (by omega)) m).eq
     simp only[go_sem,reduceIte,G0,G1,G2,G3,G4,G5,hc8,hT,zk h8 (by omega)]
     exact⟨j+1,by omega,h8,_,by rw[Qr]⟩
    ·have:j=8:=by omega
     subst this
     have hia:evIaddrA 256 1 (.ptr (stk++[cur]).length 1 (nx+1) 0) (.int .i64 (k:Int))=some (.ptr (stk++[cur]).length 1 (nx+1) k):=by
      simp only[evIaddrA,uA .i64 k 256 h,w04,Nat.mul_one,w20]
     have hc8: ¬(((8:Nat):Int)<8):=by omega
     simp only[go_sem,reduceIte,G0,G1,G2,G3,G4,G5,hc8,hia,xq,show k+1≤256 from h,z98 h,zk h (by omega)]
     exact⟨k+1,by omega,h,_,rfl⟩
  ·have:k=256:=by omega
   subst this
   have hc: ¬(((256:Nat):Int)<256):=by omega
   simp only[go_sem,reduceIte,G0,G1,G2,G3,G4,G5,hc,Qx,xq,z4H,z6l]
   rw[z8 rfl rfl,z9]
   exact⟨⟨_,rfl⟩,rfl⟩
theorem Z4 (m:Mem) (hfl:m.floor≤m.stk.length+1):Okv tab F_wreckageref01_Table [] m (.agg TB):=by
 refine zG t_wreckageref01_Table ?_
 obtain⟨stk,cur,nx,live,fl⟩:=m
 have hf:fl≤(stk++[cur]).length:=by simp at hfl⊢;omega
 simp only[a_wreckageref01_Table,List.map,go_sem,reduceIte,G0,G1,G2,G3,G4,G5]
 refine zt (α:=Nat) (fun k σ=>k≤256∧ ∃nz,heads [0,1,2] 2 σ=⟨tmps 13 [(0,.ptr (stk++[cur]).length 0 nx 0),(1,.ptr (stk++[cur]).length 1 (nx+1) 0),(2,.int .i64 k)],⟨stk++[cur],[⟨nx,tbC 0⟩,⟨nx+1,tbC k⟩],nz,[]::live,fl⟩⟩) (fun k=>256-k) 0 ?_ ?_
 ·refine⟨w10 _,?_⟩
  simp only[go_sem,reduceIte,G0,G1,G2,G3,G4,G5,z6k]
  exact⟨_,rfl⟩
 ·rintro k σ ⟨hk,nz,hσ⟩
  rw[hσ]
  clear hσ σ
  dsimp only at hk⊢
  by_cases h:k<256
  ·have hc:(k:Int)<256:=by omega
   have hT:=fun m=>(qM k (by omega) m).eq
   have hia:evIaddrA 256 1 (.ptr (stk++[cur]).length 1 (nx+1) 0) (.int .i64 (k:Int))=some (.ptr (stk++[cur]).length 1 (nx+1) k):=by
    simp only[evIaddrA,uA .i64 k 256 h,w04,Nat.mul_one,w20]
   simp only[go_sem,reduceIte,G0,G1,G2,G3,G4,G5,hc,ux (show k<4294967296 by omega),hT,hia,xq,show k+1≤256 from h,z98 h,zk h (by omega)]
   exact⟨k+1,by omega,h,_,rfl⟩
  ·have:k=256:=by omega
   subst this
   have hc: ¬(((256:Nat):Int)<256):=by omega
   simp only[go_sem,reduceIte,G0,G1,G2,G3,G4,G5,hc,Qx,xq,z4H,z6l]
   rw[z8 rfl rfl,z9]
   exact⟨⟨_,rfl⟩,rfl⟩
def st1 (x:Nat) (c:UInt8):Nat:=(x/256)^^^el 8 ((x^^^c.toNat)%256)
theorem zde {x:Nat} (c:UInt8) (h:x<4294967296):st1 x c<4294967296:=Nat.xor_lt_two_pow (n:=32) (by omega) (z4v 8 _ (by omega))
def stN (x:Nat) (l:List UInt8):Nat:=l.foldl st1 x
theorem Qz: ∀(l:List UInt8) {x:Nat},x<4294967296→stN x l<4294967296
 | [],_,h=>h
 |c::l,_,h=>Qz l (zde c h)
theorem z6q (x:Nat) (l:List UInt8) (c:UInt8):stN x (l++[c])=st1 (stN x l) c:=by unfold stN;rw[List.foldl_append];rfl
def sumN (l:List UInt8):Nat:=4294967295^^^stN 4294967295 l
theorem tP (l:List UInt8):sumN l<4294967296:=Nat.xor_lt_two_pow (n:=32) (by omega) (Qz l (by omega))
theorem yg:takeV true 256 TB=some (.agg TB):=Qx 256
theorem Vl:TB.length=256:=xq 256
theorem z92:allOne TB=true:=z4H 256
theorem z6f (x:Nat) (hx:x<4294967296) (l:List UInt8) (y:AV) (hy:IsBytes l y) (m:Mem):Okv tab F_crc_steps [.agg TB,.int .u32 (x:Int),y] m (.int .u32 ((stN x l:Nat):Int)):=by
 refine zG t_crc_steps ?_
 obtain⟨stk,cur,nx,live,fl⟩:=m
 simp only[a_crc_steps,List.map,go_sem,reduceIte,G0,G1,G2,G3,G4,G5,Vl,hy.len]
 refine zt (α:=Nat) (fun k σ=>k≤l.length∧ ∃nz,heads [1,3,9,10,11] 1 σ=⟨tmps 26 [(1,.int .u32 ((stN x (l.take k):Nat):Int)),(3,.ptr (stk++[cur]).length 0 nx 0),(9,y),(10,.int .i64 l.length),(11,.int .i64 k)],⟨stk++[cur],[⟨nx,TB⟩],nz,[]::live,fl⟩⟩) (fun k=>l.length-k) 0 ?_ ?_
 ·refine⟨w10 _,?_⟩
  simp only[go_sem,reduceIte,G0,G1,G2,G3,G4,G5]
  exact⟨_,rfl⟩
 ·rintro k σ ⟨hk,nz,hσ⟩
  rw[hσ]
  clear hσ σ
  dsimp only at hk⊢
  by_cases h:k<l.length
  ·have hs:=Qz (l.take k) hx
   have hn:nth y k= .int .u8 l[k].toNat:=hy.nth h
   have e1:evShift .shr .u32 ((stN x (l.take k):Nat):Int) 8=some (.int .u32 ((stN x (l.take k)/256:Nat):Int)):=z9c (a:=stN x (l.take k)) 8 (by omega)
   have hc:=l[k].toNat_lt
   have e3:=zd9 (a:=stN x (l.take k)%256) (b:=l[k].toNat) (by omega) hc
   have ex:(stN x (l.take k)%256)^^^l[k].toNat=(stN x (l.take k)^^^l[k].toNat)%256:=by
    have:=Nat.xor_mod_two_pow (a:=stN x (l.take k)) (b:=l[k].toNat) (n:=8)
    rw[show(2:Nat)^8=256 from rfl,Nat.mod_eq_of_lt hc] at this
    exact this.symm
   rw[ex] at e3
   have hia:evIaddrA 256 1 (.ptr (stk++[cur]).length 0 nx 0) (.int .u8 (((stN x (l.take k)^^^l[k].toNat)%256:Nat):Int))=some (.ptr (stk++[cur]).length 0 nx ((stN x (l.take k)^^^l[k].toNat)%256)):=by
    simp only[evIaddrA,uA .u8 _ 256 (Nat.mod_lt _ (by omega)),w04,Nat.mul_one,w20]
   have e4:=jq (a:=stN x (l.take k)/256) (b:=el 8 ((stN x (l.take k)^^^l[k].toNat)%256)) (by omega) (z4v 8 _ (by omega))
   have hat:=hy.at .i64 h
   have hst:stN x (l.take (k+1))=st1 (stN x (l.take k)) l[k]:=by rw[w2a h,z6q]
   simp only[go_sem,reduceIte,G0,G1,G2,G3,G4,G5,w0b,h,hat,hn,e1,UV,e3,hia,zd8 (Nat.mod_lt _ (by omega:0<256)),e4,zk h hy.max]
   exact⟨k+1,by omega,h,_,by rw[hst];rfl⟩
  ·have:k=l.length:=by omega
   subst this
   simp only[go_sem,reduceIte,G0,G1,G2,G3,G4,G5,w0b,h,w30]
   rw[z8 rfl rfl,z9]
   exact⟨⟨_,rfl⟩,rfl⟩
theorem z4r: ∀(ls:List (Nat×Nat)) (xs:List AV),(∀o∈ls,eqCell o.2 (xs.getD o.1 .undef) (xs.getD o.1 .undef)=some true)→eqAt ls xs xs=some true
 | [],_,_=>rfl
 |o::r,xs,h=>by
  simp only[eqAt,h o w13]
  exact z4r r xs fun q hq=>h q (w11 _ hq)
theorem WG: ∀(k i:Nat) {o:Nat×Nat},o∈arrLeaves [(0,1)] 1 i k→o.2=1∧o.1<i+k
 |0,_,_,h=>by simp[arrLeaves] at h
 |k+1,i,o,h=>by
  simp only[arrLeaves,shiftL,w21,List.map_nil,w06,w2b] at h
  rcases h with rfl|h
  ·exact⟨rfl,by simp⟩
  ·have:=WG k (i+1) h;exact⟨this.1,by omega⟩
theorem zea:eqAt (arrLeaves [(0,1)] 1 0 256) TB TB=some true:=z4r _ _ fun o h=>by
 obtain⟨h1,h2⟩:=WG _ _ h
 rw[h1,w02,show TB[o.1]? =_ from Qj (k:=256) (by omega)]
 rw[if_pos (by omega)]
 simp[eqCell,sameKind]
theorem z6g (m:Mem) (hfl:m.floor≤m.stk.length+1):Okv tab F_crc_check [.agg TB] m (.int .i64 0):=by
 refine zG t_crc_check ?_
 obtain⟨stk,cur,nx,live,fl⟩:=m
 have hT:=fun c n lv=>(Yc ⟨stk++[cur],c,n,lv,max fl ((stk++[cur]).length+1)⟩ (by simp at hfl⊢;omega)).eq
 simp only[a_crc_check,List.map,go_sem,reduceIte,G0,G1,G2,G3,G4,G5,Vl,hT,yg,zea]
 rw[z8 rfl rfl,z9]
 exact⟨⟨_,rfl⟩,rfl⟩
theorem z8a (l:List UInt8) (y:AV) (hy:IsBytes l y) (m:Mem) (hfl:m.floor≤m.stk.length+1):Okv tab F_crc_Next [.agg TB,.int .u32 0,y] m (if l.length>200000 then .tup [.int .u32 0,.int .i64 4] else .tup [.int .u32 ((sumN l:Nat):Int),.int .i64 0]):=by
 refine zG t_crc_Next ?_
 obtain⟨stk,cur,nx,live,fl⟩:=m
 have hT:=fun c n lv=>(z6g ⟨stk++[cur],c,n,lv,fl⟩ (by simp at hfl⊢;omega)).eq
 have hn0:evBits .xor .u32 (if IntKind.u32.signed=true then-1 else IntKind.u32.max) 0=some (.int .u32 ((4294967295:Nat):Int)):=rfl
 have hS:=fun m=>(z6f 4294967295 (by omega) l y hy m).eq
 have hn1:evBits .xor .u32 (if IntKind.u32.signed=true then-1 else IntKind.u32.max) ((stN 4294967295 l:Nat):Int)=some (.int .u32 ((sumN l:Nat):Int)):=zcb (Qz l (x:=4294967295) (by omega))
 simp only[a_crc_Next,List.map,go_sem,reduceIte,G0,G1,G2,G3,G4,G5,G6,Vl,yg,hT,hy.len]
 by_cases h:l.length>200000
 ·have hc:(l.length:Int)>200000:=by omega
  simp only[go_sem,reduceIte,G0,G1,G2,G3,G4,G5,hc]
  rw[z8 rfl rfl,z9]
  exact⟨⟨_,rfl⟩,by rw[if_pos h]⟩
 ·have hc: ¬((l.length:Int)>200000):=by omega
  simp only[go_sem,reduceIte,G0,G1,G2,G3,G4,G5,hc,yg,hn0,hS,hn1]
  rw[z8 rfl rfl,z9]
  exact⟨⟨_,rfl⟩,by rw[if_neg h]⟩
theorem X8 (l:List UInt8) (y:AV) (hy:IsBytes l y) (hl:l.length≤200000) (m:Mem) (hfl:m.floor≤m.stk.length+1):Okv tab F_crc_Sum [.agg TB,y] m (.tup [.int .u32 ((sumN l:Nat):Int),.int .i64 0]):=by
 refine zG t_crc_Sum ?_
 obtain⟨stk,cur,nx,live,fl⟩:=m
 have hT:=fun c n lv=>(z8a l y hy ⟨stk++[cur],c,n,lv,fl⟩ (by simp at hfl⊢;omega)).eq
 rw[if_neg (by omega)] at hT
 simp only[a_crc_Sum,List.map,go_sem,reduceIte,G0,G1,G2,G3,G4,G5,Vl,yg,hT]
 rw[z8 rfl rfl,z9]
 exact⟨⟨_,rfl⟩,rfl⟩
theorem uJ (l:List UInt8) (y:AV) (hy:IsBytes l y) (m:Mem) (hfl:m.floor≤m.stk.length+1):Okv tab F_wreckageref01_On [.int .u32 0,y] m (.int .u32 ((sumN l:Nat):Int)):=by
 refine zG t_wreckageref01_On ?_
 obtain⟨stk,cur,nx,live,fl⟩:=m
 have hf:fl≤(stk++[cur]).length:=by simp at hfl⊢;omega
 have hT:=fun c n lv=>(Z4 ⟨stk++[cur],c,n,lv,fl⟩ (by simp at hfl⊢;omega)).eq
 have hx0:evBits .xor .u32 0 4294967295=some (.int .u32 ((4294967295:Nat):Int)):=rfl
 simp only[a_wreckageref01_On,List.map,go_sem,reduceIte,G0,G1,G2,G3,G4,G5,hT,Vl,z92,hx0,List.length_replicate,z61,w16]
 generalize callNx tab F_wreckageref01_Table _ _=nz0
 refine zt (α:=Nat) (fun k σ=>k≤l.length∧ ∃nz,heads [1,5,6,7] 1 σ=⟨tmps 32 [(1,y),(5,.ptr (stk++[cur]).length 0 nz0 0),(6,.int .u32 ((stN 4294967295 (l.take k):Nat):Int)),(7,.int .i64 k)],⟨stk++[cur],[⟨nz0,TB⟩],nz,[]::live,fl⟩⟩) (fun k=>l.length-k) 0 ?_ ?_
 ·refine⟨w10 _,?_⟩
  simp only[go_sem,reduceIte,G0,G1,G2,G3,G4,G5]
  exact⟨_,rfl⟩
 ·rintro k σ ⟨hk,nz,hσ⟩
  rw[hσ]
  clear hσ σ
  dsimp only at hk⊢
  have hs:=Qz (l.take k) (x:=4294967295) (by omega)
  by_cases h:k<l.length
  ·have hn:nth y k= .int .u8 l[k].toNat:=hy.nth h
   have hc:=l[k].toNat_lt
   have e1:IntKind.u32.wrap (((stN 4294967295 (l.take k):Nat):Int).tdiv 256)=((stN 4294967295 (l.take k)/256:Nat):Int):=by rw[show(((stN 4294967295 (l.take k):Nat):Int).tdiv 256)=((stN 4294967295 (l.take k)/256:Nat):Int) from rfl,ux (by omega)]
   have e3:=jq (a:=stN 4294967295 (l.take k)) (b:=l[k].toNat) hs (by omega)
   have e2:(((stN 4294967295 (l.take k)^^^l[k].toNat:Nat):Int).tmod 256)=(((stN 4294967295 (l.take k)^^^l[k].toNat)%256:Nat):Int):=rfl
   have hia:evIaddrA 256 1 (.ptr (stk++[cur]).length 0 nz0 0) (.int .u32 (((stN 4294967295 (l.take k)^^^l[k].toNat)%256:Nat):Int))=some (.ptr (stk++[cur]).length 0 nz0 ((stN 4294967295 (l.take k)^^^l[k].toNat)%256)):=by
    simp only[evIaddrA,uA .u32 _ 256 (Nat.mod_lt _ (by omega)),w04,Nat.mul_one,w20]
   have e4:=jq (a:=stN 4294967295 (l.take k)/256) (b:=el 8 ((stN 4294967295 (l.take k)^^^l[k].toNat)%256)) (by omega) (z4v 8 _ (by omega))
   have hat:=hy.at .i64 h
   have hst:stN 4294967295 (l.take (k+1))=st1 (stN 4294967295 (l.take k)) l[k]:=by rw[w2a h,z6q]
   simp only[go_sem,reduceIte,G0,G1,G2,G3,G4,G5,hy.len,w0b,h,hat,hn,(by decide: ¬((256:Int)=0)),e1,ux (show l[k].toNat<4294967296 by omega),e3,e2,hia,zd8 (Nat.mod_lt _ (by omega:0<256)),e4,zk h hy.max]
   exact⟨k+1,by omega,h,_,by rw[hst];rfl⟩
  ·have:k=l.length:=by omega
   subst this
   rw[w30] at hs
   have e5:=jq (a:=stN 4294967295 l) (b:=4294967295) hs (by omega)
   have e6:evBits .xor .u32 ((stN 4294967295 l:Nat):Int) 4294967295=some (.int .u32 ((sumN l:Nat):Int)):=by
    unfold sumN;rw[Nat.xor_comm];exact e5
   simp only[go_sem,reduceIte,G0,G1,G2,G3,G4,G5,hy.len,w0b,h,w30,e6]
   rw[z8 rfl rfl,z9]
   exact⟨⟨_,rfl⟩,rfl⟩
end Go.Proofs.W
end
