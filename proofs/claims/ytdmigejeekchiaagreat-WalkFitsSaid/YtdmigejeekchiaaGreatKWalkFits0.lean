/-
  WalkFits holds for every input: its law function returns true, and the arguments read as they did. No condition besides those of the row.
-/
import Derived.Test.YtdmigejeekchiaaGreatK5
import Derived.Test.YtdmigejeekchiaaGreatK6
import Derived.Test.YtdmigejeekchiaaGreatRows
set_option maxHeartbeats 64000000
set_option maxRecDepth 1000000
set_option linter.unusedVariables false
set_option linter.unusedSimpArgs false
open Nat renaming reduceMul → G2, reduceAdd → G3, reduceSub → G4, reduceEqDiff → G6, reduceBEq → G7, reduceLT → G8, reduceLeDiff → G9, zero_le → w0c, min_eq_left → w10, zero_add → w2d
open Int renaming reduceEq → H0, reduceLT → H1, reduceLE → H2, reduceAdd → H3, reduceSub → H4, reduceMul → H5, reducePow → H6, reduceToNat → H7, ofNat_lt → w02, toNat_natCast → w09, toNat_zero → w1d, toNat_of_nonneg → w30
open Option renaming map_eq_some_iff → w00, map_some → w06, map_none → w13, getD_some → w27
open List renaming getD_eq_getElem?_getD → w03, getElem_mem → w04, mem_append → w0b, getElem?_eq_getElem → w16, mem_singleton → w1c, append_nil → w20, getElem?_map → w21, mem_cons_self → w22, ext_getElem? → w25, cons_append → w26, mem_cons_of_mem → w28, nil_append → w2f, map_cons → w32, flatten_cons → w3f, all_eq_true → w46, mem_append_left → w52, length_nil → w56, mem_append_right → w57, mem_iff_getElem → w59
open Bool renaming and_eq_true → w0a, false_and → w19, and_false → w1a, and_eq_true_iff → w3b
section
namespace Go.Proofs.W
open Go.Vs
attribute [local go_sem high] zq zV
attribute [local go_sem ↓] w06 w13
attribute [local go_sem low] Yc Yt Yf Yut Yuf yF yG yD yE
attribute [local go_sem 2000] zM
attribute [local go_sem] xH xF xI xG zT zw yc zR zY zu yA yy yx hd kep yw w02 AV.bool.injEq AV.int.injEq not_true_eq_false not_false_eq_true true_implies false_implies and_true true_and implies_true zp zJ zI zo zK zx zg zb zn zC zB zm zD zA zf zc w09 zE zF ya w1d evShift IntKind.bits zN zG zH z7 z9 zS zy w10 yC yB allLen zh AV.tup.injEq List.cons.injEq AV.agg.injEq zX zW evBuild yz zP zt zO eqC0 eqC1 eqC2 zQ w1a w19
def leastF:DFunc:=⟨[109],0,-1,[],[⟨34,-1,0,0⟩],[⟨0,0⟩],[⟨0,0⟩]⟩
def leastI:DImage:=⟨[],[],[leastF]⟩
theorem z89:WfImage leastI:=by
 have hr: ∀x∈[(⟨0,0⟩:DRun)],WfRun x:=fun x hx=>by
  obtain rfl:=w1c.1 hx
  exact⟨by unfold in64;decide,by unfold inU64;decide⟩
 refine⟨by simp[leastI],by simp[leastI],fun x hx=> ?_⟩
 obtain rfl:x=leastF:=by simpa [leastI] using hx
 refine⟨by unfold strOk;decide,by unfold in64;decide,by unfold in64;decide,by simp[leastF],fun x hx=> ?_,hr,hr⟩
 obtain rfl:x=⟨34,-1,0,0⟩:=by simpa [leastF] using hx
 exact⟨by unfold inU8;decide,by unfold in64;decide,by unfold in64;decide,by unfold in64;decide⟩
theorem z4y:FineI leastI:=by
 have hr:FineR [⟨0,0⟩] 1:=⟨by decide,rfl,fun j hj=>by
  obtain rfl:j=0:=by simp at hj;omega
  exact⟨by decide,fun h=>absurd h (by omega)⟩⟩
 refine⟨⟨by decide,fun i hi=>absurd hi (by simp[leastI]),by simp[leastI,rounds,rnd]⟩,by decide,by decide,by decide,fun i hi=>absurd hi (by simp[leastI]),by simp[leastI],?_,by simp[leastI]⟩
 intro f hf
 obtain rfl:f=leastF:=by simpa [leastI] using hf
 refine⟨⟨by decide,by simp[leastF],by simp[leastF,NamesP],by simp[leastF],by simp[leastF],by simp[leastF],by simp[leastF,leastI]⟩,by simp[leastF],?_,by decide,by decide,hr,hr⟩
 intro x hx
 obtain rfl:x=⟨34,-1,0,0⟩:=by simpa [leastF] using hx
 exact⟨101,45,45,by decide,by unfold fitsK;decide,by unfold fitsK;decide,by unfold fitsK;decide⟩
theorem z6B:(codI leastI).length≤20000:=by
 simp[codI,leastI,typs,texB,funs,funB,leastF,said,flds,codes,cod8,cod6,cod6k,fnAt,jV,zigzag,codeOf,sk,insAt,opn,runAt,wasAt,shp]
theorem Vd:err09 leastI=0:=by rw[err09,yn z4y,if_pos rfl,if_neg (by have:=z6B;omega)]
theorem z6A:nxt leastF.code 0=[]:=rfl
theorem Zt {st:Nat→List Int→Option (List Int)} {i:Nat} {l:List Int} (h:Lab (nxt leastF.code) st i l):i=0∧l=[]:=by
 induction h with
 |zero=>exact⟨rfl,rfl⟩
 |step h1 h2 hk ih=>obtain⟨rfl,_⟩:=ih;rw[z6A] at hk;cases hk
theorem z31:wrongS leastI 0 leastF=(0,0):=by
 have h7:Ok07 leastF.code:=⟨fun j hj=>by
  obtain rfl:j=0:=by simp[leastF] at hj;omega
  decide,rfl⟩
 have hi:insE leastI leastF 0=0:=by
  unfold insE
  rw[if_neg,if_neg,if_pos]
  ·decide
  ·exact fun h=>h (.inl .zero)
  ·exact fun h=>h ⟨by decide,by decide,by decide⟩
 have hl:livE leastF 0=0:=by
  unfold livE
  rw[if_pos]
  have:rds (inA leastF.code 0)=[]:=by decide
  simp[this]
 refine Xy h7 (by decide) (fun j hj=> ?_) ⟨⟨fun i l h=> ?_,fun i l l' h h'=> ?_⟩,fun l h=>(Zt h).2⟩ fun j hj=> ?_
 ·obtain rfl:j=0:=by simp[leastF] at hj;omega
  exact hi
 ·obtain⟨rfl,rfl⟩:=Zt h
  decide
 ·rw[(Zt h).2,(Zt h').2]
 ·obtain rfl:j=0:=by simp[leastF] at hj;omega
  exact hl
theorem z6z:tabF leastI leastF=leastF:=by
 rw[z5j]
 have h1:labOf (nxt leastF.code) (stF leastI leastF) 0=[]:=by
  unfold labOf
  split
  ·rename_i h
   exact(Zt h.choose_spec).2
  ·rfl
 constructor
 ·have:labs leastI leastF=[[]]:=by
   unfold labs
   rw[show leastF.code.length=1 from rfl,show List.range 1=[0] from rfl,w32,List.map_nil,h1]
  unfold sizS
  rw[this]
  rfl
 ·have:msks leastF=[0]:=by
   unfold msks
   rw[show leastF.code.length=1 from rfl,show List.range 1=[0] from rfl,w32,List.map_nil]
   unfold mskF
   rw[if_pos (by decide)]
  unfold livS
  rw[this]
  rfl
theorem z32:(faultS leastI).2.2=0:=by
 rw[U8 Vd fun j hj=> ?_]
 obtain rfl:j=0:=by simp[leastI] at hj;omega
 have:fnA leastI.funcs 0=leastF:=rfl
 unfold wrongF
 rw[this,z31,if_neg (fun h=>h.2 z6z)]
attribute [go_sem] vp uH
def ex30:DDump:=⟨leastI,⟨5,0,0⟩,⟨65536,[]⟩,[⟨16777216,List.replicate 24 0⟩],[⟨1,256,16777240,0,0,0⟩],[[]],[[]]⟩
theorem z2n (m:Mem):OkT tab 73 [] m fun r _ _=>IsDump ex30 r:=by
 refine oktz (tT vp) fun s c x v g e=> ?_
 exact ft0 fun _=>⟨_,_,_,_,_,_,_,_,rfl,.nil _,.nil _,.mk ⟨⟨_,_,_,_,rfl,.nil _,.mk ⟨rfl,trivial⟩ (by decide),.mk ⟨rfl,trivial⟩ (by decide),.mk ⟨rfl,trivial⟩ (by decide)⟩,trivial⟩ (by decide),.nil _,.mk ⟨⟨_,rfl,.mk (qy (List.replicate 24 0)) (by decide)⟩,trivial⟩ (by decide),.mk ⟨rfl,trivial⟩ (by decide),.mk ⟨.nil _,trivial⟩ (by decide),.mk ⟨.nil _,trivial⟩ (by decide)⟩
theorem za3:ok28 ex30=true:=by
 have h1:err09 ex30.image=0:=Vd
 have h2:(faultS ex30.image).2.2=0:=z32
 have h3:findR ex30.image 256=(0,0,0):=by
  unfold findR
  rw[if_pos h1,if_neg (by decide)]
  rfl
 have h4:partsOk ex30=true:=by decide
 have h5:lensOk ex30=true:=by decide
 simp only[ok28,h1,h2,h4,h5,Bool.true_and,and_self,decide_true]
 rw[yK]
 intro j hj
 obtain rfl:j=0:=by simp[ex30] at hj;omega
 have h3:findR leastI 256=(0,0,0):=h3
 simp[rowOk,ex30,headed,h3]
theorem z0O:sizeR ex30.image 256=(24,0):=by
 have h3:findR ex30.image 256=(0,0,0):=by
  unfold findR
  rw[if_pos (show err09 ex30.image=0 from Vd),if_neg (by decide)]
  rfl
 have:sizeN ex30.image 0 0=24:=by decide
 simp[sizeR,h3,this]
theorem U9 (a:Int) (h:a=16777216∨a=16777224∨a=16777232):wordD ex30 a=0:=by
 rcases h with rfl|rfl|rfl<;>decide
def fr30:DFrame:=⟨16777216,0,0,256,24,0,0,0⟩
theorem z3h:framesR ex30 0=([fr30],0):=by
 have h3:findR ex30.image 256=(0,0,0):=by
  unfold findR
  rw[if_pos (show err09 ex30.image=0 from Vd),if_neg (by decide)]
  rfl
 have hf:frameD ex30 256 16777240=fr30:=by
  unfold frameD
  rw[z0O,h3]
  simp only[show(16777240:Int)-24=16777216 by decide,show(16777216:Int)+8=16777224 by decide,show(16777216:Int)+16=16777232 by decide,U9 _ (.inl rfl),U9 _ (.inr (.inl rfl)),U9 _ (.inr (.inr rfl))]
  rfl
 have hs:stepR ex30 16777216 256 16777240 none=some fr30:=by
  unfold stepR
  rw[if_pos (show frameOk ex30 16777216 256 16777240=true by unfold frameOk;rw[hf,z0O];decide),hf]
 unfold framesR
 rw[if_neg (by rw[za3];decide),if_neg (by decide),if_neg (by decide)]
 have hw:walkN ex30 16777216 200 256 16777240 none=some [fr30]:=by
  unfold walkN
  rw[hs]
  rfl
 show(match walkN ex30 16777216 200 256 16777240 none with|none=>(([]:List DFrame),(12:Int))|some l=>(l,0))=_
 rw[hw]
theorem za2:WfDump ex30:=by
 refine⟨z89,⟨by unfold inU8;decide,by unfold in64;decide,by unfold in64;decide⟩,⟨by unfold inU64;decide,by decide⟩,fun x hx=> ?_,fun x hx=> ?_,by simp[ex30],by simp[ex30]⟩
 ·obtain rfl:=w1c.1 hx
  exact⟨by unfold inU64;decide,by decide⟩
 ·obtain rfl:=w1c.1 hx
  exact⟨by unfold inU8;decide,by unfold inU64;decide,by unfold inU64;decide,by unfold inU64;decide,by unfold inU64;decide,by unfold in64;decide⟩
theorem z4K:large28 ex30=false:=by decide
theorem VM (m:Mem) (hf:m.floor≤m.stk.length+1):Okv tab 21 [] m (.bool true):=by
 refine okz (tT uH) fun s c x v fl e=> ?_
 subst e
 simp at hf
 refine ot (z2n _) fun r t k hr=> ?_
 refine ot (tR ex30 r hr (SmD.of za2 z4K) 0 _ (by simp;omega)) fun r2 t2 k2 hr2=> ?_
 obtain⟨y,rfl,hy⟩:=hr2
 rw[z3h] at hy⊢
 dsimp only at hy⊢
 have f:=nd hy.co fun m=>(WE [fr30] [fr30] y (.list 8 .full [.agg [.int .u64 16777216,.int .i64 0,.int .i64 0,.int .u64 256,.int .i64 24,.int .u64 0,.int .u64 0,.int .u64 0]]) hy (.mk ⟨rfl,trivial⟩ (by decide)) m).eq
 refine st ?_
 trivial
def fr0:DFrame:=⟨0,0,0,0,0,0,0,0⟩
def cAt (c:Int) (l:List DFrame):Nat→Int
 |0=>c
 |i+1=>(l.getD i fr0).caller
def eAt (e:Int) (l:List DFrame):Nat→Int
 |0=>e
 |i+1=>(l.getD i fr0).start
def aAt (ab:Option DFrame) (l:List DFrame):Nat→Option DFrame
 |0=>ab
 |i+1=>some (l.getD i fr0)
structure Found (d:DDump) (base c e:Int) (ab:Option DFrame) (x:DFrame):Prop where
 sz:sizeR d.image c=(x.size,0)
 st:x.start=e-x.size
 lo:base≤x.start
 hi:24≤x.size
 cd:x.code=c
 fn:x.func=(findR d.image c).1
 fd:(findR d.image c).2.2=0
 ca:x.caller=(wordR d.heap d.stacks x.start).1
 md:x.mode=(wordR d.heap d.stacks (x.start+8)).1
 rc:x.record=(wordR d.heap d.stacks (x.start+16)).1
 ba:x.caller=0↔x.start=base
 ft: ∀a,ab=some a→fitsR d.image a x.func (findR d.image c).2.1=true
 at_:x.at_=(findR d.image c).2.1-(if(ab.map (·.mode))=some 0 then 1 else 0)
theorem z8p {d:DDump} (hw:WfImage d.image) {base c e:Int} (hc:0≤c) {ab:Option DFrame} {x:DFrame} (h:stepR d base c e ab=some x):Found d base c e ab x:=by
 unfold stepR at h
 cases hf:frameOk d base c e
 ·rw[hf] at h;simp at h
 rw[hf] at h
 simp only[if_true] at h
 simp only[frameOk,decide_eq_true_eq] at hf
 obtain⟨h1,h2,h3⟩:=hf
 obtain⟨hfd,hz,_⟩:=YP hw hc h1
 have hs:sizeR d.image c=((frameD d c e).size,0):=by rw[←h1];rfl
 have hz:24≤(frameD d c e).size:=hz
 have h2:(frameD d c e).size≤e-base:=h2
 have hst:(frameD d c e).start=e-(frameD d c e).size:=rfl
 cases ab with
 |none=>
  simp only[Option.some.injEq] at h
  subst h
  exact⟨hs,hst,by omega,hz,rfl,rfl,hfd,rfl,rfl,rfl,h3,(fun a h=>nomatch h),by simp[frameD]⟩
 |some a=>
  simp only at h
  split at h
  ·rename_i hft
   simp only[Option.some.injEq] at h
   subst h
   unfold lower
   have hft': ∀b,some a=some b→fitsR d.image b (frameD d c e).func (findR d.image c).2.1=true:=fun b hb=>by cases hb;exact hft
   split
   ·rename_i hm
    exact⟨hs,hst,by dsimp only;omega,hz,rfl,rfl,hfd,rfl,rfl,rfl,h3,hft',by simp[hm,frameD]⟩
   ·rename_i hm
    exact⟨hs,hst,by omega,hz,rfl,rfl,hfd,rfl,rfl,rfl,h3,hft',by simp[hm,frameD]⟩
  ·cases h
theorem z1d {d:DDump} (hw:WfImage d.image) {base:Int}: ∀{n:Nat} {c e:Int} {ab:Option DFrame} {l:List DFrame},0≤c→walkN d base n c e ab=some l→ ∀i (hi:i<l.length),Found d base (cAt c l i) (eAt e l i) (aAt ab l i) l[i]∧0≤cAt c l i∧(l[i].caller=0↔i+1=l.length)∧(i+1=l.length→l[i].mode=0∧l[i].record=0)∧eAt e l i≤e
 |0,_,_,_,_,_,h=>by simp[walkN] at h
 |n+1,c,e,ab,l,hc,h=>by
  unfold walkN at h
  split at h
  ·cases h
  ·rename_i x hs
   have hx:=z8p hw hc hs
   split at h
   ·rename_i h0
    split at h
    ·rename_i hm
     cases h
     intro i hi
     obtain rfl:i=0:=by simp at hi;omega
     exact⟨hx,hc,by simp[h0],fun _=>hm,by simp[eAt]⟩
    ·cases h
   ·rename_i h0
    obtain⟨l',h4,rfl⟩:=w00.1 h
    have hu:=(Zm d.heap d.stacks x.start).1
    have ih:=z1d hw (by rw[hx.ca];exact hu) h4
    intro i hi
    match i with
    |0=>
     refine⟨hx,hc,?_,?_,by simp[eAt]⟩
     ·have:l'≠[]:=by
       rintro rfl
       cases n with
       |zero=>simp[walkN] at h4
       |succ n=>
        unfold walkN at h4
        split at h4
        ·cases h4
        split at h4
        ·split at h4<;>cases h4
        ·obtain⟨_,_,h5⟩:=w00.1 h4
         cases h5
      have:0<l'.length:=List.length_pos_iff.2 this
      simp[h0];omega
     ·intro hl
      simp at hl
      subst hl
      exfalso
      cases n with
      |zero=>simp[walkN] at h4
      |succ n=>
       unfold walkN at h4
       split at h4
       ·cases h4
       split at h4
       ·split at h4<;>cases h4
       ·obtain⟨_,_,h5⟩:=w00.1 h4
        cases h5
    |i+1=>
     have hi':i<l'.length:=by simpa using hi
     obtain⟨q1,q2,q3,q4,q5⟩:=ih i hi'
     have e1:cAt c (x::l') (i+1)=cAt x.caller l' i:=by cases i<;>rfl
     have e2:eAt e (x::l') (i+1)=eAt x.start l' i:=by cases i<;>rfl
     have e3:aAt ab (x::l') (i+1)=aAt (some x) l' i:=by cases i<;>rfl
     rw[e1,e2,e3]
     have:=hx.st
     have:=hx.hi
     exact⟨q1,q2,by simpa using q3,by simpa using q4,by omega⟩
theorem z95 {d:DDump} {base:Int} {n:Nat} {c e:Int} {ab:Option DFrame} {l:List DFrame} (h:walkN d base n c e ab=some l):0<l.length:=by
 cases n with
 |zero=>simp[walkN] at h
 |succ n=>
  unfold walkN at h
  split at h
  ·cases h
  split at h
  ·split at h<;>cases h
   simp
  ·obtain⟨_,_,rfl⟩:=w00.1 h
   simp
theorem z93 {h:DRegion} {l:List DRegion} {a:Int} (h0:(wordR h l a).1≠0):a%8=0:=by
 unfold wordR at h0
 split at h0
 ·simp at h0
 split at h0
 ·simp at h0
 ·omega
theorem z1b {d:DDump} (hk:ok28 d=true) {g:Nat} (hg:g<d.routines.length) {a:Int} (h0:stackB g≤a) (h1:a+8≤(rtD d g).sp) (h8:a%8=0):(wordR d.heap d.stacks a).2=0:=by
 have hk':=hk
 simp only[ok28,w0a,decide_eq_true_eq,partsOk,lensOk,yK,w2d] at hk'
 obtain⟨⟨⟨⟨⟨⟨⟨⟨_,hh⟩,hs⟩,_⟩,_⟩,_⟩,_⟩,hl,_⟩,hr⟩:=hk'
 have hr:=hr g hg
 have hgs:g<d.stacks.length:=by omega
 have hb:=yK.1 (w3b.1 hs).2 g hgs
 simp only[w2d,fitR,decide_eq_true_eq] at hb
 have e1:rtD d g=d.routines[g]:=by simp[rtD,w03,hg]
 have e2:d.stacks.getD g rg0=d.stacks[g]:=by simp[w03,hgs]
 simp only[rowOk,e2,decide_eq_true_eq] at hr
 rw[e1] at h1
 have hp:stackB g=16777216*(g+1):=rfl
 have hq:((d.heap::d.stacks).find? (inReg a 8)).isSome=true:=by
  rw[List.find?_isSome]
  exact⟨_,w28 _ (w04 hgs),by simp only[inReg,decide_eq_true_eq];omega⟩
 have he:errB d.heap d.stacks a 8=0:=by
  unfold errB
  rw[if_neg (by simp[hh,hs]),if_neg (by omega),if_pos hq]
 unfold wordR
 rw[if_neg (by simp[he]),if_neg (by simp[h8])]
noncomputable def W (d:DDump) (a:Int) (k:Nat):Int:=(wordR d.heap d.stacks (a+8*k)).1
def OwnX {α:Type} (R:α→AV→Prop) (s:Nat) (y:AV) (xs:List α) (e e0:List Nat):Prop:=(y= .nils∧xs=[]∧e=e0)∨ ∃t ys,y= .list s (.id t) ys∧All2 R xs ys∧e=t::e0
section
variable {α : Type} {R : α → AV → Prop} {s : Nat} {y z : AV} {xs : List α} {c : α} {e e0 : List Nat} {tk : Tok}
theorem OwnX.own (h:OwnX R s y xs e e0):Own R s y xs e:=by
 rcases h with⟨rfl,rfl,_⟩|⟨t,ys,rfl,h,rfl⟩
 ·exact .nil _
 ·exact .inr ⟨_,ys,rfl,h,.inr ⟨t,w22,rfl⟩⟩
theorem OwnX.sub (h:OwnX R s y xs e e0): ∀t∈e0,t∈e:=by
 rcases h with⟨_,_,rfl⟩|⟨t,ys,_,_,rfl⟩
 ·exact fun _ h=>h
 ·exact fun _ h=>w28 _ h
end
def placeR (l:List DFrame) (n:Int):Int:=fidx (fun x=>decide (x.start=n)) l
theorem nthF {l:List DFrame} {y:AV} (h:IsSl IsFrame 8 l y) (j:Nat) (hj:j<l.length):nth y j=frA l[j]:=h.nth hj
theorem z0v {l:List DFrame} {n:Int} {i:Nat} (h:i<l.length) (h1:l[i].start=n) (h2: ∀j (hj:j<l.length),j<i→l[j].start≠n):placeR l n=i:=z5N h (by simpa using h1) fun j hj=>by simpa using h2 j (by omega) hj
theorem z6l {l:List DFrame} {n:Int} (h2: ∀j (hj:j<l.length),l[j].start≠n):placeR l n= -1:=z5M fun j hj=>by simpa using h2 j hj
theorem z1V {d:DDump} (h:ok28 d=true):d.defers.length=d.routines.length∧d.panics.length=d.routines.length∧d.stacks.length=d.routines.length∧chainsOk d.defers=true∧chainsOk d.panics=true∧d.routines.length≤16:=by
 simp only[ok28,w0a,decide_eq_true_eq,partsOk,lensOk] at h
 obtain⟨⟨⟨⟨⟨⟨⟨_,_⟩,hs⟩,hh⟩,h5⟩,h6⟩,_⟩,h1,h2,h3,_⟩:=h.1
 have:=(jR hs).1
 exact⟨h2,h3,h1,h5,h6,by omega⟩
theorem Tg {d:DImage} {v0 v1 v2:AV} (h:IsImage d (.agg [v0,v1,v2])):IsSl IsFunc 7 d.funcs v2:=by
 obtain⟨_,_,_,he,_,_,h2⟩:=h
 simp only[AV.agg.injEq,List.cons.injEq] at he
 obtain⟨_,_,rfl,_⟩:=he
 exact h2
attribute [go_sem] v9
theorem z9J {d:DDump} {base c e:Int} {l:List DFrame} (hat: ∀i (hi:i<l.length),Found d base (cAt c l i) (eAt e l i) (aAt none l i) l[i]∧0≤cAt c l i∧(l[i].caller=0↔i+1=l.length)∧(i+1=l.length→l[i].mode=0∧l[i].record=0)∧eAt e l i≤e) {i:Nat} (hi:i<l.length):0≤l[i].mode∧l[i].mode≤3∧(l[i].record≠0↔l[i].mode≥2):=by
 obtain⟨F,r1,r2,r3,r4⟩:=hat i hi
 have h0:0≤l[i].mode:=by rw[F.md];exact(Zm _ _ _).1
 refine⟨h0,?_⟩
 by_cases hl:i+1=l.length
 ·obtain⟨h1,h2⟩:=r3 hl
  rw[h1,h2];decide
 ·obtain⟨F',_⟩:=hat (i+1) (by omega)
  have:=F'.ft l[i] (by simp[aAt,w03,hi])
  simp only[fitsR,decide_eq_true_eq] at this
  omega
theorem z0I {d:DDump} (hw:WfDump d) (hk:ok28 d=true) {j:Nat} (hj:j<d.routines.length):framesR d j=([],12)∨ ∃l,framesR d j=(l,0)∧ ∀i (hi:i<l.length),Found d (stackB j) (cAt (rtD d j).code l i) (eAt (rtD d j).sp l i) (aAt none l i) l[i]∧0≤cAt (rtD d j).code l i∧(l[i].caller=0↔i+1=l.length)∧(i+1=l.length→l[i].mode=0∧l[i].record=0)∧eAt (rtD d j).sp l i≤(rtD d j).sp:=by
 have hfr:=U6 hk hj
 by_cases h3:(rtD d j).status=3
 ·rw[if_pos h3] at hfr
  exact .inr ⟨[],hfr,fun i hi=>absurd hi (by simp)⟩
 ·rw[if_neg h3] at hfr
  cases hwk:walkN d (stackB j) 200 (rtD d j).code (rtD d j).sp none with
  |none=>rw[hwk] at hfr;exact .inl hfr
  |some l=>
   rw[hwk] at hfr
   exact .inr ⟨l,hfr,z1d hw.image (by have:=(hw.routines _ (w04 hj)).code;unfold inU64 at this;simpa [rtD,w03,hj] using this.1) hwk⟩
theorem z3Z (d:DDump) (y:AV) (hy:IsDump d y) (hw:WfDump d) (g:Int) (m:Mem) (hf:m.floor≤m.stk.length+1):Okv tab 5 [y,.int .i64 g] m (.bool true):=by
 have hL:=fun m=>qQ d y hy m
 have hA:=fun hs g m hf=>tR d y hy hs g m hf
 have hK:=fun hl m hf=>qP d y hy hw hl g m hf
 obtain⟨v0,v1,v2,v3,v4,v5,v6,v7,rfl,h⟩:=IsDump.v hy
 have f:=nd h.o (nd h.r.z (nthH h.r))
 refine okz (tT v9) fun s c x v fl e=> ?_
 subst e
 simp at hf
 refine ow (VM _ (by simp;omega)) fun k=> ?_
 refine ow (hL _) fun k=> ?_
 refine ifs (fun hl=> ?_) fun hl=> ?_
 ·trivial
 have hl:large28 d=false:=by simpa using hl
 have hs:=SmD.of hw hl
 have hn:d.image.funcs.length≤40:=by have:=hs.g;simp[great09] at this;omega
 refine ow (hK hl _ (by simp;omega)) fun k=> ?_
 refine ifs (fun ha=> ?_) fun ha=> ?_
 ·trivial
 obtain⟨hk,h2,h3⟩:=Vv (by simpa using ha)
 obtain⟨j,rfl⟩: ∃j:Nat,g=j:=⟨g.toNat,by omega⟩
 have hjr:j<d.routines.length:=by omega
 have hd:=WalkD.of hw hn hk hjr
 refine ot (hA hs _ _ (by simp;omega)) fun r1 t1 k1 hr1=> ?_
 obtain⟨y1,rfl,hy1⟩:=hr1
 have f:=nd f (nd hy1.co (nd hjr (show d.routines[j]=rtD d j by simp[rtD,w03,hjr])))
 rcases z0I hw hk hjr with hfr|⟨l,hfr,hat⟩
 ·rw[hfr] at hy1⊢
  refine st ?_
  trivial
 ·rw[hfr] at hy1⊢
  dsimp only at hy1⊢
  have hmx:=hy1.max
  obtain⟨q1,q2,q3,q4,q5,q6⟩:=z1V hk
  have hsp:=hd.p
  have hB:stackB j=16777216*((j:Int)+1):=rfl
  have f:=nd f (nd hy1.z (nd (nthF hy1) @Int.add_sub_cancel))
  refine st ?_
  refine xn 8 l.length [] (fun i v e=>True) 0 trivial fun i v e nz hi _=> ?_
  refine ifs (fun hi=> ?_) fun hi=> ?_
  ·obtain⟨F,r1,r2,r3,r4⟩:=hat i hi
   obtain⟨m0,m1,m2⟩:=z9J hat hi
   have hcu:cAt (rtD d j).code l i<18446744073709551616:=by
    cases i with
    |zero=>have:=(hw.routines _ (w04 hjr)).code;unfold inU64 at this;simpa [rtD,w03,hjr,cAt] using this.2
    |succ i=>
     have hi':i<l.length:=by omega
     have:=(hat i hi').1.ca
     have hq:=(Zm d.heap d.stacks l[i].start).2
     simp only[cAt,w03,w16 hi',w27]
     omega
   obtain⟨hi0,hi1,hi2,hi3,hi4⟩:=ZW (d:=d.image) r1 F.fd
   obtain⟨u0,u1,u2,u3,hz⟩:=fnsV (Tg h.i)
   obtain⟨kk,hkk⟩: ∃k:Nat,(findR d.image (cAt (rtD d j).code l i)).1=k:=⟨_,(w30 hi1).symm⟩
   have hkl:kk<d.image.funcs.length:=by omega
   obtain⟨z0,z1,z2,z3,z4⟩:=hz kk hkl
   rw[hkk,w09,←vk hkl] at hi4
   have hcm:=z2.max
   have hfu:=F.fn
   rw[hkk] at hfu
   have hft:=F.ft
   have hat_:=F.at_
   generalize hq1:(findR d.image (cAt (rtD d j).code l i)).2.1=at1 at*
   have f:=nd f (nd F.cd (nd hkk (nd hq1 (nd F.fd (nd hfu (nd hkl (nd (Tg h.i).z (nd z0 (nd z2.co (nd z2.z (insV hkl z2)))))))))))
   refine st ?_
   refine ow (jz d.image _ h.i hw.image (by omega) _ ⟨r1,hcu⟩ _ (by simp;omega)) fun k=> ?_
   have f:=nd f (show¬l[i].mode>3 by omega)
   refine st ?_
   refine ifs (fun q=> ?_) fun q=> ?_
   rotate_left
   ·exact absurd (by simp only[beq_iff_eq,decide_eq_decide];omega) q
   rcases i with _|i
   ·have e1:l[0].at_=at1:=by rw[hat_];simp[aAt]
    have f:=nd f (nd e1 (show¬((0:Nat):Int)>0 by decide))
    refine st ?_
    refine ifs (fun q=> ?_) fun q=> ?_
    ·have f:=nd f (r3 (by omega)).1
     refine st ?_
     exact hi
    ·exact hi
   ·have hi':i<l.length:=by omega
    have ha:=hft l[i] (by simp[aAt,w03,hi'])
    have e1:l[i+1].at_=at1-(if l[i].mode=0 then 1 else 0):=by rw[hat_];simp[aAt,w03,hi']
    simp only[fitsR,hfu,decide_eq_true_eq] at ha
    have f:=nd f (nd hi' (show(i:Int)+1>0 by omega))
    rcases ha with⟨a1,a2,a3,a4,a5⟩|⟨a1,a2,a3⟩|⟨a1,a2⟩
    ·rw[if_pos a1] at e1
     have f:=nd f (nd a1 (nd (show¬at1-1<0 by omega) (nd a4 (nd a5 e1))))
     refine st ?_
     refine ifs (fun q=> ?_) fun q=> ?_
     ·have f:=nd f (r3 (by omega)).1
      refine st ?_
      exact hi
     ·exact hi
    ·rw[if_neg (by omega)] at e1
     have f:=nd f (nd a1 (nd a3 (show l[i+1].at_=at1 by omega)))
     refine st ?_
     refine ifs (fun q=> ?_) fun q=> ?_
     ·have f:=nd f (r3 (by omega)).1
      refine st ?_
      exact hi
     ·exact hi
    ·have n0: ¬l[i].mode=0:=by omega
     rw[if_neg n0] at e1
     have f:=nd f (nd n0 (nd (show¬l[i].mode=1 by omega) (show l[i+1].at_=at1 by omega)))
     refine st ?_
     refine ifs (fun q=> ?_) fun q=> ?_
     ·have f:=nd f (r3 (by omega)).1
      refine st ?_
      exact hi
     ·exact hi
  ·trivial
end Go.Proofs.W
end
section
namespace Go.Proofs.YtdmigejeekchiaaGreat
open Go.Vs Go.ChangeShapes Go.WideShapes Go.ChangeAt Go.RowKit Go.Proofs.W
theorem law (ys:List AV) (h:ArgsT Tryz.prog [37,3] ys): ∃m',CALL tab 5 ys Mem.zero=some (.bool true,m'):=by
 obtain⟨x0,r0,rfl,g0,x1,r1,rfl,g1,gz⟩:=h
 have gz:r1=[]:=gz
 subst gz
 obtain⟨d0,a0,b0⟩:=arg37 x0 g0
 obtain⟨e1,n1,t1⟩:=g1
 rw[qx e1 (by kernel_rfl)] at t1
 obtain⟨v1,u1,c1,k1,w1⟩:=rd3 n1 _ t1
 injection c1 with c1 _
 subst c1
 obtain rfl:=k1
 obtain⟨k,hk⟩:=z3Z d0 x0 a0 b0 v1 Mem.zero (w0c _)
 exact⟨_,hk⟩
theorem Tryz.own:ownKnob Tryz.prog.godebug=none:=by kernel_rfl
theorem Tryz.laidOut:laidOutB Tryz.prog=true:=by kernel_rfl
theorem f_lifted (os:Os) (started:os.Started) (H:Type) (enc:TypeId×Value→H):
  ReturnsInHanded {} Tryz.checked os 5 .any (Rows.walkFitsSpec.pre6 enc Tryz.prog Tryz.f5 Rows.walkFitsRow.domain false) (Rows.walkFitsSpec.post enc Tryz.prog Tryz.f5 false true false false):=by
 refine returnsInHanded_of_change (C:=Tryz.checked) Tryz.own started (by kernel_rfl) Tryz.func5
  (ChangeSpec.witness6 (enc:=enc) (C:=Tryz.checked) false ⟨#[],#[.agg #[.slice none 0 0,.slice none 0 0,.slice none 0 0,.int .u8 0,.int .i64 0,.int .i64 0,.int .u64 0,.slice none 0 0,.slice none 0 0,.slice none 0 0,.slice none 0 0,.slice none 0 0],.int .i64 0],[]⟩ 12 (by kernel_rfl) (by kernel_rfl) (by kernel_rfl) (by kernel_rfl)) ?_
 intro W base args ds gs before hval hW _ _
 exact Ve (P:=Tryz.prog) (tab:=tab) (S:=[54,99,35,2,52,34,33,30,32,28,29,227,66,63,65,68,24,23,9,214,64,3,5,271,22,26,37]) (tb:=4) (by kernel_rfl) tabOk kB Tryz.laidOut rfl (by kernel_rfl) rfl Tryz.underlying4
  (fun ds hd=>by
   match ds,hd with
   | [d1,d2],_=>rfl) law hval hW
theorem hA:Tryz.pinned.checked.prog.funcNamed Rows.walkFitsRow.func=some 5:=by kernel_rfl
theorem j0:(Rows.walkFitsRow.wf (OpenSpec.ofChange Rows.walkFitsSpec))=true:=by kernel_rfl
theorem j1:(laidOutB Tryz.prog)=true:=by kernel_rfl
theorem j2:(mapsRowed Tryz.prog)=true:=by kernel_rfl
theorem j3:(Tryz.f5.params.all (Tryz.prog.readableRec ·))=true:=by kernel_rfl
theorem j4:(namedTie Tryz.prog Rows.walkFitsRow.named Rows.walkFitsSpec.vars)=true:=by kernel_rfl
theorem j5:(Rows.walkFitsRow.stops==[])=true:=by kernel_rfl
theorem j6:(Tryz.prog.stops==[])=true:=by kernel_rfl
theorem j7:(Rows.walkFitsRow.knobs==[])=true:=by kernel_rfl
theorem j8:(Tryz.prog.stopKnobs==[])=true:=by kernel_rfl
theorem j9:(Rows.walkFitsRow.inPlace==Tryz.prog.inPlace 5)=true:=by kernel_rfl
theorem j10:(Rows.walkFitsRow.unfollowed==Tryz.prog.unfollowed 5)=true:=by kernel_rfl
theorem j11:(Rows.walkFitsRow.recurses==Tryz.prog.recurses 5)=true:=by kernel_rfl
theorem j12:(Rows.walkFitsRow.named==Tryz.prog.varsNamed 5)=true:=by kernel_rfl
theorem j13:(Rows.walkFitsRow.maps==(Tryz.f5.params.toList++Rows.walkFitsSpec.plain.varTypes Tryz.prog).any (Tryz.prog.mapsRec ·))=true:=by kernel_rfl
theorem j14:(Rows.walkFitsRow.ifaces==(Tryz.f5.params.toList++Rows.walkFitsSpec.plain.varTypes Tryz.prog).any (Tryz.prog.ifacesRec ·))=true:=by kernel_rfl
theorem j15:(Rows.walkFitsRow.mapsOut==Tryz.prog.mapsAmong Tryz.f5.resultTypes.toList)=true:=by kernel_rfl
theorem j16:(Rows.walkFitsRow.loops==(Tryz.f5.params.toList++Rows.walkFitsSpec.plain.varTypes Tryz.prog).any (Tryz.prog.loopsFrom ·))=true:=by kernel_rfl
theorem j17:(Rows.walkFitsRow.wideKeys==(Tryz.f5.params.toList++Rows.walkFitsSpec.plain.varTypes Tryz.prog++Tryz.f5.resultTypes.toList).any (Tryz.prog.wideKeysFrom ·))=true:=by kernel_rfl
theorem j18:(Rows.walkFitsSpec.vars.all (Tryz.prog.varReadable ·))=true:=by kernel_rfl
theorem j19:(Tryz.f5.resultTypes.all (fun t=>Tryz.prog.readableRec t&&decide (t<Tryz.prog.types.size)))=true:=by kernel_rfl
theorem j20:(Rows.walkFitsRow.ifacesOut==Tryz.f5.resultTypes.toList.any (Tryz.prog.ifacesRec ·))=true:=by kernel_rfl
theorem j21:(Rows.walkFitsRow.loopsOut==Tryz.f5.resultTypes.toList.any (Tryz.prog.loopsFrom ·))=true:=by kernel_rfl
theorem j22:(Rows.walkFitsRow.plainKeys==Tryz.prog.plainKeys)=true:=by kernel_rfl
theorem j23:(Rows.walkFitsRow.shortTexts.isNone)=true:=by kernel_rfl
theorem j24:(Tryz.prog.stopsHeard)=true:=by kernel_rfl
theorem j25:(Tryz.prog.mayEnter)=true:=by kernel_rfl
theorem j26:(Rows.walkFitsRow.lifted==Tryz.prog.liftsFinal)=true:=by kernel_rfl
theorem j27:(Tryz.prog.make==some Rows.walkFitsRow.make)=true:=by kernel_rfl
theorem j28:(Rows.walkFitsRow.kinds==(if Rows.walkFitsRow.domain.isEmpty then [] else Tryz.f5.params.toList.map fun t=>match Tryz.prog.underlying t with|some (.int k)=>some k|_=>none))=true:=by kernel_rfl
theorem j29:(Rows.walkFitsRow.pinned==Rows.walkFitsRow.pinnedBy)=true:=by kernel_rfl
theorem j30:(Rows.walkFitsRow.veiled==(Tryz.f5.params.toList++Rows.walkFitsSpec.plain.varTypes Tryz.prog++Tryz.f5.resultTypes.toList).any (Tryz.prog.veiledRec ·))=true:=by kernel_rfl
theorem j31:(Rows.walkFitsRow.veiledFits Tryz.prog Tryz.f5.params.toList (Tryz.f5.params.toList++Rows.walkFitsSpec.plain.varTypes Tryz.prog++Tryz.f5.resultTypes.toList))=true:=by kernel_rfl
theorem hB:joinedFacts Tryz.prog 5 Tryz.f5 Rows.walkFitsSpec Rows.walkFitsRow=true:=by
 simp only[joinedFacts,w0a]
 exact⟨⟨⟨⟨⟨⟨⟨⟨⟨⟨⟨⟨⟨⟨⟨⟨⟨⟨⟨⟨⟨⟨⟨⟨⟨⟨⟨⟨⟨⟨⟨j0,j1⟩,j2⟩,j3⟩,j4⟩,j5⟩,j6⟩,j7⟩,j8⟩,j9⟩,j10⟩,j11⟩,j12⟩,j13⟩,j14⟩,j15⟩,j16⟩,j17⟩,j18⟩,j19⟩,j20⟩,j21⟩,j22⟩,j23⟩,j24⟩,j25⟩,j26⟩,j27⟩,j28⟩,j29⟩,j30⟩,j31⟩
theorem hC:Func.isInstance Tryz.pinned.checked.prog Tryz.f5 Rows.walkFitsRow.origin Rows.walkFitsRow.targs:=of_decide_eq_true (by kernel_rfl)
theorem hD:Func.isWrapper Tryz.pinned.checked.prog Tryz.f5 Rows.walkFitsRow.wrapper Rows.walkFitsRow.mainSum:=by unfold Func.isWrapper;first|(rw[if_pos (by decide+kernel)];kernel_rfl)|(rw[if_neg (by decide+kernel)];exact⟨rfl,rfl⟩)
theorem walkFits_holds:Rows.WalkFitsSaid:=
 OpenClaim.holds_of_wide 5 Tryz.f5 rfl rfl rfl rfl rfl rfl rfl ⟨rfl,rfl,rfl,rfl,rfl⟩ rfl rfl rfl rfl rfl hA Tryz.func5 hB hC hD
  (fun os started H enc _=>f_lifted os started H enc)
end Go.Proofs.YtdmigejeekchiaaGreat
end
