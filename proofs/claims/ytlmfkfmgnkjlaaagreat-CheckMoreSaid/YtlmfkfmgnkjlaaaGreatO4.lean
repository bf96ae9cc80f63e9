/-
  Part 5 of the proof, shared by claims of this seat: R9S15, R9C17, R9C15, R9E1, R9C18, R9C19, R9C5, KPla, KPlb, R9C6, R9C7, R9C8, KPld, R9C21, R9C9, KPlc, R9C10, R9C22, R9C15a, R9C15b, R9C15c, R9C15d, R9C16a, R9C16b, R9C16c, R9C16d, R9C23.
-/
import Derived.Test.YtlmfkfmgnkjlaaaGreatO3
import Derived.Test.YtlmfkfmgnkjlaaaGreatO2
set_option maxHeartbeats 64000000
set_option linter.unusedVariables false
set_option linter.unusedSimpArgs false
open Nat renaming reduceEqDiff → G0, reduceBEq → G1, reduceLT → G2, reduceAdd → G3, reduceLeDiff → G4, reduceSub → G5, le_refl → w0b, zero_le → w0c, mul_one → w15, not_lt_zero → w38, zero_add → w39, lt_or_ge → w3e, add_mul → w42, le_trans → w4a, pow_le_pow_right → w57
open Int renaming reduceEq → G8, reduceBEq → G9, ofNat_lt → w03, toNat_natCast → w2d, toNat_of_nonneg → w41
open List renaming getD_eq_getElem?_getD → w00, length_append → w04, getElem?_eq_some_iff → w06, getElem?_append_left → w07, getElem_mem → w08, take_length → w09, mem_append → w0a, append_assoc → w0f, getElem?_append_right → w10, mem_singleton → w11, getElem?_eq_getElem → w13, take_succ_eq_append_getElem → w14, getElem?_eq_none → w17, mem_cons_of_mem → w18, getElem?_map → w19, append_nil → w1a, eq_nil_of_length_eq_zero → w1b, mem_cons_self → w1c, length_singleton → w1d, length_take → w1f, cons_append → w21, take_succ_cons → w22, take_zero → w24, drop_zero → w27, length_cons → w29, getElem?_take → w2b, ext_getElem? → w2c, nil_append → w2e, take_of_length_le → w2f, flatMap_cons → w30, mem_cons → w32, map_append → w33, length_nil → w34, map_cons → w35, getElem?_set → w36, mem_map → w3a, mem_append_left → w3c, getElem?_replicate → w3d, length_map → w44, getLast?_singleton → w45, mem_range → w47, getElem?_range → w48, mem_of_mem_take → w4b, set_cons_succ → w4d, modify_eq_take_cons_drop → w4e, getLast?_append → w51, dropLast_concat → w52, mem_filter → w53, replicate_succ → w54, length_drop → w5a, set_eq_take_append_cons_drop → w5b
open Option renaming bind_eq_some_iff → w05, map_some → w0d, bind_some → w26, getD_some → w2a
open Bool renaming and_eq_true → w0e, false_eq_true → w28, or_eq_true → w31, eq_iff_iff → w40
section
namespace Go.Proofs.W
open Go.Vs
set_option linter.unusedSimpArgs false
set_option maxRecDepth 100000
def agree (a b:Nat):Prop:=a=b∨(256<a∧256<b)
def AgL (A B:List (Nat×Nat)):Prop:=A.length=B.length∧ ∀j,agree (A.getD j (0,0)).1 (B.getD j (0,0)).1∧(A.getD j (0,0)).2=(B.getD j (0,0)).2
theorem z03 {f1 f2 x y:Nat} (h1:256<f1) (h2:256<f2) (h:agree x y):agree (min f1 x) (min f2 y):=by unfold agree at*;omega
theorem z6Z {x y a:Nat} (ha:is18 a) (h:agree x y):agree (up x a) (up y a):=by
 rcases h with rfl|⟨h1,h2⟩
 ·exact .inl rfl
 ·have:=z17 (n:=x) ha;have:=z17 (n:=y) ha;exact .inr (by omega)
theorem zaw {a b c d:Nat} (h:agree a b) (k:agree c d):agree (a+c) (b+d):=by unfold agree at*;omega
theorem z3j {f1 f2:Nat} (h1:256<f1) (h1':f1≤1048576) (h2:256<f2) {A B:List (Nat×Nat)} (hg:GoodP A) (h:AgL A B) {fs:List DField} (hf: ∀f∈fs,0≤f.typ∧f.typ<A.length): ∀k,k≤fs.length→
  agree (tog f1 A (fs.take k)).2.1 (tog f2 B (fs.take k)).2.1∧(tog f1 A (fs.take k)).2.2=(tog f2 B (fs.take k)).2.2
 |0,_=>by simp[tog,agree]
 |k+1,hk=>by
  obtain⟨e1,e2⟩:=z3j h1 h1' h2 hg h hf k (by omega)
  obtain⟨_,_,g3⟩:=Yc h1' hg hf k (by omega)
  have hfk:=hf _ (w08 (show k<fs.length by omega))
  have hgk:=hg.get (j:=fs[k].typ.toNat) (by omega)
  have hj:=h.2 fs[k].typ.toNat
  rw[Vl f1 A (show k<fs.length by omega),Vl f2 B (show k<fs.length by omega)]
  simp only[togStep]
  rw[←hj.2]
  exact⟨z03 h1 h2 (zaw (z6Z hgk.2 e1) hj.1),by rw[e2]⟩
theorem z7V {f1 f2:Nat} (h1:256<f1) (h1':f1≤1048576) (h2:256<f2) {A B:List (Nat×Nat)} (hg:GoodP A) (h:AgL A B) {n i:Nat} {t:DTyp} (hf:FineT n i t) (hi:A.length=i):
  agree (ext1 f1 A t).1 (ext1 f2 B t).1∧(ext1 f1 A t).2=(ext1 f2 B t).2:=by
 have hl:=to hf
 unfold ext1
 split
 ·simp[agree]
 ·split
  ·simp[agree]
  ·split
   ·simp[agree]
   ·split
    ·rename_i h6
     have hj:=h.2 t.elem.toNat
     refine⟨z03 h1 h2 ?_,hj.2⟩
     have hlen:=(hl.2.1 h6).1
     rcases hj.1 with e|⟨e,e'⟩
     ·rw[e];exact .inl rfl
     ·have m1:=Nat.mul_le_mul (show 1≤t.len.toNat by omega) (w0b (A.getD t.elem.toNat (0,0)).1)
      have m2:=Nat.mul_le_mul (show 1≤t.len.toNat by omega) (w0b (B.getD t.elem.toNat (0,0)).1)
      exact .inr (by omega)
    ·split
     ·have hfs: ∀f∈t.fields,0≤f.typ∧f.typ<A.length:=by rw[hi];exact hl.2.2.2.2.2
      have:=z3j h1 h1' h2 hg h hfs t.fields.length (w0b _)
      have hgd:=Yc h1' hg hfs t.fields.length (w0b _)
      rw[w09] at this hgd
      simp only[togEnd]
      rw[←this.2]
      exact⟨z03 h1 h2 (z6Z hgd.2.2 this.1),rfl⟩
     ·simp[agree]
theorem Tw {f1 f2:Nat} (h1:256<f1) (h1':f1≤1048576) (h2:256<f2) {l:List DTyp} (hv:ValidT l): ∀i,i≤l.length→AgL (exts f1 (l.take i)) (exts f2 (l.take i))
 |0,_=>by simp[exts,AgL,agree]
 |i+1,hi=>by
  have ih:=Tw h1 h1' h2 hv i (by omega)
  have la:=uk f1 l i (by omega)
  have lb:=uk f2 l i (by omega)
  have he:=z7V h1 h1' h2 (UH h1' hv i (by omega)) ih (hv i (by omega)) la
  rw[kH f1 (show i<l.length by omega),kH f2 (show i<l.length by omega)]
  refine⟨by simp[la,lb],fun j=> ?_⟩
  by_cases hj:j<i
  ·rw[Uz (by omega),Uz (by omega)];exact ih.2 j
  ·by_cases hj2:j=i
   ·subst hj2
    simp only[w00]
    rw[w10 (by omega),w10 (by omega),la,lb]
    simpa using he
   ·simp only[w00]
    rw[w17 (by simp;omega),w17 (by simp;omega)]
    simp[agree]
def FitsP (l:List DTyp):Prop:= ∀i,i<l.length→((exts 1000000 l).getD i (0,0)).1≤256
theorem z6F {l:List DTyp} (hv:ValidT l) (i:Nat):((exts 1048576 l).getD i (0,0)).1≤256↔((exts 1000000 l).getD i (0,0)).1≤256:=by
 have:=(Tw (f1:=1048576) (f2:=1000000) (by omega) (w0b _) (by omega) hv l.length (w0b _)).2 i
 rw[w09] at this
 unfold agree at this;omega
theorem z6k {m0:Mem} {stk:List (List Blk)} {cur c':List Blk} {nx' fl':Nat} {own:List Nat} {live':List (List Nat)} {k st off len:Nat} {a:Int}:
  ∃bs:List Blk,leave m0 ⟨stk++[cur],c',nx',own::live',fl'⟩ (.tup [.arr (stk++[cur]).length k st off len,.int .i64 a])=some (.tup [.arr stk.length (k+cur.length) st off len,.int .i64 a],⟨stk,cur++bs,nx',live',m0.floor⟩)∧
   ∀ws,c'[k]? =some ⟨st,prs ws⟩→bs[k]? =some ⟨st,prs ws⟩:=by
 have e:own.filter (fun _=>false)=[]:=by simp
 refine⟨c'.map fun b=>⟨b.st,shiftAll (stk++[cur]).length ((stk++[cur]).length-1) cur.length b.cs⟩,?_,?_⟩
 ·unfold leave
  simp only[w51,w45,Option.some_or,AV.refs,refsAny,beq_self_eq_true,Bool.true_or,if_true,AV.toks,toksAll,w1a,List.contains_nil,e,pushToks,w52,AV.shift,shiftAll]
  simp
 ·intro ws h
  rw[w19,h,w0d,z3o]
theorem z7o {ws:List (Nat×Nat)} {j:Nat} (h:j<ws.length):takeV false 1 ((prs ws).drop (j*2))=some (.int .i64 ((ws.getD j (0,0)).1:Int)):=by rw[TO ws j h,z1a]
theorem zet {ws:List (Nat×Nat)} {j:Nat} (h:j<ws.length):takeV false 1 ((prs ws).drop (j*2+1))=some (.int .i64 ((ws.getD j (0,0)).2:Int)):=by
 rw[←List.drop_drop,TO ws j h];simp[takeV]
theorem z7b (l:List DTyp) (x:AV) (hx:IsSl IsTyp 4 l x) (hw:WfTypes l) (hc:CheckP l) (i:Nat) (hi:i<l.length) (hs:((exts 1048576 l).getD i (0,0)).1≤256) (stk:List (List Blk)) (cur:List Blk) (nx fl:Nat) (live:List (List Nat)):
  ∃bs j st k,CALL tab tS [x,.int .i64 i] ⟨stk,cur,nx,live,fl⟩=some (.tup [.arr stk.length (cur.length+j) st 0 l.length,.int .i64 0],⟨stk,cur++bs,k,live,fl⟩)∧bs[j]? =some ⟨st,prs (exts 1048576 l)⟩:=by
 suffices h:Does tab tS [x,.int .i64 i] ⟨stk,cur,nx,live,fl⟩ fun v m'=> ∃bs j st k,v= .tup [.arr stk.length (cur.length+j) st 0 l.length,.int .i64 0]∧m'=⟨stk,cur++bs,k,live,fl⟩∧bs[j]? =some ⟨st,prs (exts 1048576 l)⟩ by
  obtain⟨z,h1,bs,j,st,k,h2,h3,h4⟩:=h
  exact⟨bs,j,st,k,by rw[h1,←h2,←h3],h4⟩
 refine zW VC ?_ (Nat.le_of_ble_eq_true rfl)
 have hC:=Zu l x hx hw
 rw[QU hc] at hC
 have hl:=hc.1
 simp only[j0,List.map,go_sem,G3,G0,G2,(hC _).eq,show((0:Int) !=0)=false from rfl,hx.len,show¬((i:Int)<0) by omega,show¬((i:Int)≥l.length) by omega]
 obtain⟨bs,j,st,k,hcall,hbs⟩:=Yb l x hx hc.2.1 (by omega) (stk++[cur]) [] (callNx tab um [x] ⟨stk++[cur],[],nx,[]::live,fl⟩) fl ([]::live)
 have hel:(exts 1048576 l).length=l.length:=by have:=uk 1048576 l l.length (w0b _);rwa [w09] at this
 have hix:=qc .i64 (p:=(i:Int)) (n:=l.length) (by omega)
 rw[w2d] at hix
 simp only[go_sem,G0,G2,hcall,za,hix,hbs,z7o (ws:=exts 1048576 l) (j:=i) (by omega),show¬((((exts 1048576 l).getD i (0,0)).1:Nat):Int)>256 by omega]
 obtain⟨bs',hbs',hg⟩:=z6k (m0:=⟨stk,cur,nx,live,fl⟩) (stk:=stk) (cur:=cur) (c':=bs) (nx':=k) (own:=[]) (live':=live) (fl':=fl) (k:=j) (st:=st) (off:=0) (len:=l.length) (a:=0)
 rw[hbs',z8]
 exact⟨bs',j,st,k,by rw[Nat.add_comm],rfl,hg _ hbs⟩
theorem z5n (l:List DTyp) (x:AV) (hx:IsSl IsTyp 4 l x) (hw:WfTypes l) (hc:CheckP l) (i:Nat) (hi:i<l.length) (hs: ¬((exts 1048576 l).getD i (0,0)).1≤256) (m:Mem):
  Okv tab tS [x,.int .i64 i] m (.tup [.nils,.int .i64 16]):=by
 refine zf VC ?_
 obtain⟨stk,cur,nx,live,fl⟩:=m
 have hC:=Zu l x hx hw
 rw[QU hc] at hC
 have hl:=hc.1
 simp only[j0,List.map,go_sem,G3,G0,G2,(hC _).eq,show((0:Int) !=0)=false from rfl,hx.len,show¬((i:Int)<0) by omega,show¬((i:Int)≥l.length) by omega]
 obtain⟨bs,j,st,k,hcall,hbs⟩:=Yb l x hx hc.2.1 (by omega) (stk++[cur]) [] (callNx tab um [x] ⟨stk++[cur],[],nx,[]::live,fl⟩) fl ([]::live)
 have hel:(exts 1048576 l).length=l.length:=by have:=uk 1048576 l l.length (w0b _);rwa [w09] at this
 have hix:=qc .i64 (p:=(i:Int)) (n:=l.length) (by omega)
 rw[w2d] at hix
 simp only[go_sem,G0,G2,hcall,za,hix,hbs,z7o (ws:=exts 1048576 l) (j:=i) (by omega),show((((exts 1048576 l).getD i (0,0)).1:Nat):Int)>256 by omega]
 rw[z6 rfl rfl,z8]
 exact⟨⟨_,rfl⟩,rfl⟩
theorem Vf (l:List DTyp) (x:AV) (hx:IsSl IsTyp 4 l x) (hw:WfTypes l) (hc:CheckP l) (i:Nat) (hi:i<l.length) (hs:((exts 1048576 l).getD i (0,0)).1≤256) (m:Mem):
  Okv tab qq [x,.int .i64 i] m (.tup [.int .i64 (((exts 1048576 l).getD i (0,0)).1:Nat),.int .i64 (((exts 1048576 l).getD i (0,0)).2:Nat),.int .i64 0]):=by
 obtain⟨stk,cur,nx,live,fl⟩:=m
 refine zf T1 ?_
 obtain⟨bs,j,st,k,hcall,hbs⟩:=z7b l x hx hw hc i hi hs (stk++[cur]) [] nx fl ([]::live)
 have hel:(exts 1048576 l).length=l.length:=by have:=uk 1048576 l l.length (w0b _);rwa [w09] at this
 have hix:=qc .i64 (p:=(i:Int)) (n:=l.length) (by omega)
 rw[w2d] at hix
 simp only[jB,List.map,go_sem,G3,G0,G2,hcall,show((0:Int) !=0)=false from rfl,za,hix,hbs,z7o (ws:=exts 1048576 l) (j:=i) (by omega),zet (ws:=exts 1048576 l) (j:=i) (by omega)]
 rw[z6 rfl rfl,z8]
 exact⟨⟨_,rfl⟩,rfl⟩
def sizeErr (l:List DTyp) (i:Nat):Int:=if((exts 1048576 l).getD i (0,0)).1≤256 then 0 else 16
theorem z2B (l:List DTyp) (x:AV) (hx:IsSl IsTyp 4 l x) (hw:WfTypes l) (hc:CheckP l) (i:Nat) (hi:i<l.length) (m:Mem):
  ∃a b,Okv tab qq [x,.int .i64 i] m (.tup [a,b,.int .i64 (sizeErr l i)]):=by
 obtain⟨stk,cur,nx,live,fl⟩:=m
 by_cases hs:((exts 1048576 l).getD i (0,0)).1≤256
 ·exact⟨_,_,by have:=Vf l x hx hw hc i hi hs ⟨stk,cur,nx,live,fl⟩;rwa [show sizeErr l i=0 by unfold sizeErr;rw[if_pos hs]]⟩
 ·refine⟨.int .i64 0,.int .i64 0,?_⟩
  refine zf T1 ?_
  simp only[jB,List.map,go_sem,G3,G0,G2,(z5n l x hx hw hc i hi hs _).eq,show((16:Int) !=0)=true from rfl]
  rw[z6 rfl rfl,z8]
  exact⟨⟨_,rfl⟩,by unfold sizeErr;rw[if_neg hs]⟩
def up8 (n:Nat):Nat:=(n+7)/8*8
def szT (l:List DTyp) (t:Int):Nat:=((exts 1000000 l).getD t.toNat (0,0)).1
def sumK (l:List DTyp) (ts:List Int) (k:Nat):Nat:=((ts.take k).map fun t=>up8 (szT l t)).sum
def sumB (l:List DTyp) (ts:List Int):Nat:=sumK l ts ts.length
theorem QA {l:List DTyp} {ts:List Int} {k:Nat} (h:k<ts.length):sumK l ts (k+1)=sumK l ts k+up8 (szT l ts[k]):=by
 unfold sumK;rw[w14 h,w33,List.sum_append];simp
structure TypP (l:List DTyp):Prop where
 w:WfTypes l
 c:CheckP l
 f:FitsP l
theorem TypP.le {l:List DTyp} (h:TypP l) {k:Nat} (hk:k<l.length):szT l k≤256:=h.f k hk
theorem TypP.same {l:List DTyp} (h:TypP l) {k:Nat} (hk:k<l.length):((exts 1048576 l).getD k (0,0)).1=szT l k:=by
 have:=(Tw (f1:=1048576) (f2:=1000000) (by omega) (w0b _) (by omega) h.c.2.1 l.length (w0b _)).2 k
 rw[w09] at this
 have hle:=h.le hk
 unfold agree at this
 unfold szT at hle⊢
 rw[w2d] at hle⊢
 omega
theorem andNot7: ∀n:Fin 300,(BitVec.ofNat 64 n.val&&& ~~~(BitVec.ofNat 64 7)).toNat=n.val/8*8:=by decide
theorem za9 {n:Nat} (h:n<300):evBits .andNot .i64 (n:Int) 7=some (.int .i64 ((n/8*8:Nat):Int)):=by
 unfold evBits
 show some (AV.int .i64 (IntKind.i64.wrap (((BitVec.ofInt 64 (n:Int)&&& ~~~(BitVec.ofInt 64 (7:Int)):BitVec 64).toNat:Nat):Int)))=_
 have e1:BitVec.ofInt 64 (n:Int)=BitVec.ofNat 64 n:=BitVec.ofInt_natCast ..
 have e2:BitVec.ofInt 64 (7:Int)=BitVec.ofNat 64 7:=by decide
 rw[e1,e2,andNot7 ⟨n,h⟩,zc (by omega) (by omega)]
theorem zcC (n:Nat) (h:n≤256) (m:Mem):Okv tab Zd [.int .i64 n] m (.tup [.int .i64 (up8 n:Nat),.int .i64 0]):=by
 refine zf z1d ?_
 obtain⟨stk,cur,nx,live,fl⟩:=m
 have hw:IntKind.i64.wrap ((n:Int)+7)=((n+7:Nat):Int):=by rw[zc (by omega) (by omega)];omega
 simp only[Z6,List.map,go_sem,G0,G2,show¬((n:Int)<0) by omega,show¬((n:Int)>1073741824) by omega,hw,za9 (n:=n+7) (by omega)]
 rw[z6 rfl rfl,z8]
 exact⟨⟨_,rfl⟩,rfl⟩
theorem z9p (n:Nat) (h:n≤256) (m:Mem):Okv tab vL [.int .i64 n] m (.int .i64 (up8 n:Nat)):=by
 refine zf Yg ?_
 obtain⟨stk,cur,nx,live,fl⟩:=m
 have hU:=fun m=>(zed (n:=n) (a:=8) (.inr rfl) (by omega) m).eq
 have e8:(((8:Nat):Int))=8:=rfl
 rw[e8] at hU
 simp only[vG,List.map,go_sem,G0,G2,hU]
 rw[z6 rfl rfl,z8]
 refine⟨⟨_,rfl⟩,?_⟩
 unfold Go.Proofs.W.up up8
 rw[show n+8-1=n+7 by omega]
def InT (l:List DTyp) (ts:List Int):Prop:= ∀t∈ts,0≤t∧t<l.length
theorem TJ {l:List DTyp} {ts:List Int} (hl:TypP l) (h:InT l ts): ∀k,k≤ts.length→sumK l ts k≤264*k
 |0,_=>by simp[sumK]
 |k+1,hk=>by
  have ih:=TJ hl h k (by omega)
  rw[QA (by omega)]
  obtain⟨q,hq⟩: ∃q:Nat,ts[k]=q:=⟨(ts[k]).toNat,by have:=h _ (w08 (show k<ts.length by omega));omega⟩
  have hql:q<l.length:=by have:=h _ (w08 (show k<ts.length by omega));omega
  rw[hq]
  have:=hl.le hql
  unfold up8;omega
theorem TE (d:DImage) (hT:TypP d.types) (f:DFunc) (y:AV) (hy:NV d f y) (ts:List Int) (x:AV) (hx:IsSl IsI 1 ts x) (hin:InT d.types ts) (hlen:ts.length≤100000) (m:Mem):Okv tab xo [y,x] m (.tup [.int .i64 (sumB d.types ts:Nat),.int .i64 0]):=by
 obtain⟨ty,tx,fs,w0,w1,w2,w3,rfl,h0,h1,h2,h3,h4,h5,h6⟩:=hy
 refine zf X3 ?_
 obtain⟨stk,cur,nx,live,fl⟩:=m
 simp only[uc,List.map,go_sem,G3,G0,G2,hx.len]
 refine zb (α:=Nat) (fun k σ=>k≤ts.length∧ ∃nz,heads [2,6,12,13,14] 1 σ=⟨tmps 43 [(2,.ptr (stk++[cur]).length 0 nx 0),(6,.int .i64 (sumK d.types ts k:Nat)),(12,x),(13,.int .i64 ts.length),(14,.int .i64 k)],⟨stk++[cur],[⟨nx,[ty,tx,fs,.str f.name,.int .i64 f.params,.int .i64 f.result,w0,w1,w2,w3]⟩],nz,[]::live,fl⟩⟩) (fun k=>ts.length-k) 0 ?_ ?_
 ·refine⟨w0c _,?_⟩
  simp only[go_sem,G0,G1]
  exact⟨_,rfl⟩
 ·rintro k σ ⟨hk,nz,hσ⟩
  rw[hσ]
  clear hσ σ
  dsimp only at hk⊢
  by_cases h:k<ts.length
  ·have e1:nth x k= .int .i64 ts[k]:=hx.nth h
   have hsucc:=zd h hx.max
   have hss:=QA (l:=d.types) h
   have hb:=hin _ (w08 h)
   have hat:=hx.at .i64 h
   have hs1:=TJ hT hin k hk
   generalize ts[k]=t at*
   obtain⟨q,rfl⟩: ∃q:Nat,t=q:=⟨t.toNat,by omega⟩
   have hq:q<d.types.length:=by omega
   have hle:=hT.le hq
   have hS:=fun m=>(Vf d.types ty h0 hT.w hT.c q hq (by rw[hT.same hq];exact hle) m).eq
   rw[hT.same hq] at hS
   have hw:IntKind.i64.wrap ((sumK d.types ts k:Nat)+(up8 (szT d.types q):Nat):Int)=((sumK d.types ts k+up8 (szT d.types q):Nat):Int):=by
    unfold up8
    rw[zc (by omega) (by omega)];omega
   simp only[go_sem,G0,G1,G2,w03,h,hat,e1,hS,show((0:Int) !=0)=false from rfl,(zcC _ hle _).eq,hw,hsucc]
   refine⟨k+1,by omega,h,?_⟩
   rw[hss]
   exact⟨_,rfl⟩
  ·have:k=ts.length:=by omega
   subst this
   simp only[go_sem,G0,G1,G2,w03,h]
   rw[z6 rfl rfl,z8]
   exact⟨⟨_,rfl⟩,rfl⟩
theorem zeo {l:List DTyp} (h:TypP l) {k:Nat} (hk:k<l.length):k<(szs (exts 1000000 l)).length∧ ∀hk',(szs (exts 1000000 l))[k]'hk'=szT l k:=by
 have hel:(exts 1000000 l).length=l.length:=by have:=uk 1000000 l l.length (w0b _);rwa [w09] at this
 have hk2:k<(szs (exts 1000000 l)).length:=by unfold szs;rw[w44,hel];exact hk
 refine⟨hk2,fun hk'=> ?_⟩
 unfold szT
 rw[w2d]
 simp only[szs,List.getElem_map,w00,w13 (show k<(exts 1000000 l).length by rw[hel];exact hk),w2a]
theorem z4m (d:DImage) (hT:TypP d.types) (y:AV) (hy:IsImage d y) (ts:List Int) (x:AV) (hx:IsSl IsI 1 ts x) (hin:InT d.types ts) (hlen:ts.length≤100000) (m:Mem) (hf:m.floor≤m.stk.length+1):Okv tab yJ [y,x] m (.int .i64 (sumB d.types ts:Nat)):=by
 obtain⟨ty,tx,fs,rfl,h0,h1,h2⟩:=hy
 refine zf W6 ?_
 obtain⟨stk,cur,nx,live,fl⟩:=m
 dsimp only at hf
 have hf':fl≤(stk++[cur]).length+1:=by simp;omega
 obtain⟨z1,z2,t2,k2,hcall,ho1,ho2⟩:=z8B d.types ty h0 hT.c.2.1 (by have:=hT.c.1;omega) ⟨stk++[cur],[⟨nx,[ty,tx,fs]⟩],nx+1,[]::live,fl⟩ hf'
 have hel:(exts 1000000 d.types).length=d.types.length:=by have:=uk 1000000 d.types d.types.length (w0b _);rwa [w09] at this
 have hz1:=ho1.sl (by unfold szs;rw[w44,hel];exact h0.max)
 have hlive: ∃e,pushToks t2 ([]::live)=e::live:=by cases t2<;>exact⟨_,rfl⟩
 obtain⟨e,he⟩:=hlive
 dsimp only at hcall
 rw[he] at hcall
 simp only[uw,List.map,go_sem,G3,G0,G2,hcall]
 refine zb (α:=Nat) (fun k σ=>k≤ts.length∧ ∃nz,heads [1,5,7,8] 1 σ=⟨tmps 32 [(1,x),(5,z1),(7,.int .i64 (sumK d.types ts k:Nat)),(8,.int .i64 k)],⟨stk++[cur],[⟨nx,[ty,tx,fs]⟩],nz,e::live,fl⟩⟩) (fun k=>ts.length-k) 0 ?_ ?_
 ·refine⟨w0c _,?_⟩
  simp only[go_sem,G0,G1]
  exact⟨_,rfl⟩
 ·rintro k σ ⟨hk,nz,hσ⟩
  rw[hσ]
  clear hσ σ
  dsimp only at hk⊢
  by_cases h:k<ts.length
  ·have e1:nth x k= .int .i64 ts[k]:=hx.nth h
   have hsucc:=zd h hx.max
   have hss:=QA (l:=d.types) h
   have hb:=hin _ (w08 h)
   have hat:=hx.at .i64 h
   have hs1:=TJ hT hin k hk
   generalize ts[k]=t at*
   obtain⟨q,rfl⟩: ∃q:Nat,t=q:=⟨t.toNat,by omega⟩
   have hq:q<d.types.length:=by omega
   have hle:=hT.le hq
   obtain⟨hq2,hq3⟩:=zeo hT hq
   have e2:nth z1 q= .int .i64 ((szT d.types q:Nat):Int):=by have:=hz1.nth hq2;rw[hq3] at this;exact this
   have hw:IntKind.i64.wrap ((sumK d.types ts k:Nat)+(up8 (szT d.types q):Nat):Int)=((sumK d.types ts k+up8 (szT d.types q):Nat):Int):=by
    unfold up8
    rw[zc (by omega) (by omega)];omega
   simp only[go_sem,G0,G1,G2,w03,h,hx.len,hat,e1,hz1.at .i64 hq2,e2,(z9p _ hle _).eq,hw,hsucc]
   refine⟨k+1,by omega,h,?_⟩
   rw[hss]
   exact⟨_,rfl⟩
  ·have:k=ts.length:=by omega
   subst this
   simp only[go_sem,G0,G1,G2,w03,h,hx.len]
   rw[z6 rfl rfl,z8]
   exact⟨⟨_,rfl⟩,rfl⟩
theorem z1y {x:DInstr} (h:InstrP x):x.op=1∨x.op=2∨x.op=3∨x.op=4∨x.op=5∨x.op=6∨x.op=7∨x.op=8∨x.op=9∨x.op=10∨x.op=11∨x.op=12∨x.op=13∨x.op=14∨x.op=15∨x.op=16∨x.op=17∨x.op=18∨x.op=19∨x.op=20∨x.op=21∨x.op=22∨x.op=23∨x.op=24∨x.op=25∨x.op=26∨x.op=27∨x.op=28∨x.op=29∨x.op=30∨x.op=31∨x.op=32∨x.op=33∨x.op=34:=by
 obtain⟨a,b,c,hs,_⟩:=h
 by_cases hq:1≤x.op∧x.op≤34
 ·omega
 ·exfalso
  unfold shp at hs
  repeat rw[if_neg (by omega)] at hs
  cases hs
def typP (d:DImage) (f:DFunc) (x:DInstr):Bool:=if x.op=1∨x.op=32 then([slotT f x.a].all fun t=>isT d t [2]) else if x.op=2 then(isT d (slotT f x.a) [3]) else if x.op=3∨x.op=23 then(isT d (slotT f x.a) [1]) else if x.op=5 then(slotT f x.a==slotT f x.b) else if x.op=6∨x.op=7∨x.op=8∨x.op=9 then([slotT f x.a,slotT f x.b,slotT f x.c].all fun t=>isT d t [2]) else if x.op=10 then(isT d (slotT f x.a) [1]&&[slotT f x.b,slotT f x.c].all fun t=>isT d t [2]) else if x.op=11 then((isT d (slotT f x.a) [1]&&(slotT f x.b==slotT f x.c))&&isT d (slotT f x.b) [2,1,4]) else if x.op=12 then(isT d (slotT f x.a) [1]&&isT d (slotT f x.b) [1]) else if x.op=13 then(memB d (slotT f x.b) x.c (slotT f x.a)) else if x.op=14 then(memB d (slotT f x.a) x.b (slotT f x.c)) else if x.op=15 then(isT d (slotT f x.a) [4]) else if x.op=16 then(isT d (slotT f x.b) [4]&&decide ((tyA d.types (slotT f x.b)).elem=slotT f x.a)) else if x.op=17 then(isT d (slotT f x.a) [4]&&decide ((tyA d.types (slotT f x.a)).elem=slotT f x.b)) else if x.op=18 then(isT d (slotT f x.a) [7]&&[slotT f x.b].all fun t=>isT d t [2]) else if x.op=19 then((isT d (slotT f x.b) [7,6]&&decide ((tyA d.types (slotT f x.b)).elem=slotT f x.a))&&[slotT f x.c].all fun t=>isT d t [2]) else if x.op=20 then((isT d (slotT f x.a) [7,6]&&decide ((tyA d.types (slotT f x.a)).elem=slotT f x.c))&&[slotT f x.b].all fun t=>isT d t [2]) else if x.op=21 then(([slotT f x.a].all fun t=>isT d t [2])&&isT d (slotT f x.b) [3,7,6]) else if x.op=25 then(decide (x.a<0)||((fnA d.funcs x.b.toNat).result==slotT f x.a)) else if x.op=26∨x.op=27 then(laterB d (fnA d.funcs x.a.toNat)) else if x.op=28 then(isT d (slotT f x.a) [2,1,3]) else if x.op=29∨x.op=33 then(isT d (slotT f x.a) [1]&&[slotT f x.b].all fun t=>isT d t [2]) else if x.op=34 then(decide (x.a<0)||(f.result==slotT f x.a)) else true
def typR (d:DImage) (f:DFunc) (x:DInstr):Bool:=if x.op=1∨x.op=32 then(kindI d.types (slotT f x.a)==2) else if x.op=2 then(kindI d.types (slotT f x.a)==3) else if x.op=3∨x.op=23 then(kindI d.types (slotT f x.a)==1) else if x.op=5 then(slotT f x.a==slotT f x.b) else if x.op=6∨x.op=7∨x.op=8∨x.op=9 then((kindI d.types (slotT f x.a)==2&&kindI d.types (slotT f x.b)==2)&&kindI d.types (slotT f x.c)==2) else if x.op=10 then((kindI d.types (slotT f x.a)==1&&kindI d.types (slotT f x.b)==2)&&kindI d.types (slotT f x.c)==2) else if x.op=11 then((kindI d.types (slotT f x.a)==1&&slotT f x.b==slotT f x.c)&&decide ((tyA d.types (slotT f x.b)).kind∈[1,2,4])) else if x.op=12 then(kindI d.types (slotT f x.a)==1&&kindI d.types (slotT f x.b)==1) else if x.op=13 then(memT d (slotT f x.b) x.c==slotT f x.a) else if x.op=14 then(memT d (slotT f x.a) x.b==slotT f x.c) else if x.op=15 then(kindI d.types (slotT f x.a)==4) else if x.op=16 then(ofT d (slotT f x.b) 4 4==slotT f x.a) else if x.op=17 then(ofT d (slotT f x.a) 4 4==slotT f x.b) else if x.op=18 then(kindI d.types (slotT f x.a)==7&&kindI d.types (slotT f x.b)==2) else if x.op=19 then(ofT d (slotT f x.b) 7 6==slotT f x.a&&kindI d.types (slotT f x.c)==2) else if x.op=20 then(ofT d (slotT f x.a) 7 6==slotT f x.c&&kindI d.types (slotT f x.b)==2) else if x.op=21 then(kindI d.types (slotT f x.a)==2&&((kindI d.types (slotT f x.b)==3||kindI d.types (slotT f x.b)==7)||kindI d.types (slotT f x.b)==6)) else if x.op=25 then(x.a== -1||((fnA d.funcs x.b.toNat).result==slotT f x.a)) else if x.op=26∨x.op=27 then(laterB d (fnA d.funcs x.a.toNat)) else if x.op=28 then((kindI d.types (slotT f x.a)==2||kindI d.types (slotT f x.a)==1)||kindI d.types (slotT f x.a)==3) else if x.op=29∨x.op=33 then(kindI d.types (slotT f x.a)==1&&kindI d.types (slotT f x.b)==2) else if x.op=34 then(x.a== -1||(f.result==slotT f x.a)) else true
theorem isI1 (a:Int) (tk:Tok):IsSl IsI 1 [a] (.list 1 tk [.int .i64 a]):= .mk ⟨rfl,trivial⟩ (by simp)
theorem isI2 (a b:Int) (tk:Tok):IsSl IsI 1 [a,b] (.list 1 tk [.int .i64 a,.int .i64 b]):= .mk ⟨rfl,rfl,trivial⟩ (by simp)
theorem isI3 (a b c:Int) (tk:Tok):IsSl IsI 1 [a,b,c] (.list 1 tk [.int .i64 a,.int .i64 b,.int .i64 c]):= .mk ⟨rfl,rfl,rfl,trivial⟩ (by simp)
structure ImgP (d:DImage):Prop where
 s: ∀g∈d.funcs,SlotsP d g∧g.params≤g.slots.length∧0≤g.params∧ -1≤g.result
theorem ImgP.at {d:DImage} (h:ImgP d) {k:Nat} (hk:k<d.funcs.length):SlotsP d (fnA d.funcs k)∧(fnA d.funcs k).params≤(fnA d.funcs k).slots.length∧0≤(fnA d.funcs k).params∧ -1≤(fnA d.funcs k).result:=by
 rw[←z0N hk];exact h.s _ (w08 hk)
theorem TK {d:DImage} {f:DFunc} {x:DInstr} (hx:InstrP x) (hw:WfI x) (hN:NearP d f x) (hs:SlotsP d f) {k:Nat} (hk:k<3) (hl:sk x k=119∨sk x k=114):0≤slotT f (opn x k):=by
 obtain⟨a,b,c,hsh,hh⟩:=hx
 have hx:InstrP x:=⟨a,b,c,hsh,hh⟩
 have hfit:=(Z1 hsh hx hw hk).2.1
 have h0:0≤opn x k:=by
  unfold fitsK at hfit
  rcases hl with e|e<;>rw[e] at hfit
  ·have:lo 119=0:=by decide
   omega
  ·have:lo 114=0:=by decide
   omega
 have hmem:opn x k∈rds x++wrs x:=by
  rw[w0a]
  rcases hl with e|e
  ·right
   unfold wrs wrsk
   simp only[w3a,w53,w47,w0e,decide_eq_true_eq]
   exact⟨k,⟨hk,by rw[e];rfl,h0⟩,rfl⟩
  ·left
   unfold rds rdsk
   simp only[w3a,w53,w47,w0e,decide_eq_true_eq]
   exact⟨k,⟨hk,by rw[e];rfl,h0⟩,rfl⟩
 have hlt:=hN.1 _ hmem
 unfold slotT
 rw[if_pos ⟨h0,hlt⟩]
 obtain⟨j,hj⟩: ∃j:Nat,opn x k=j:=⟨(opn x k).toNat,by omega⟩
 have hj':j<f.slots.length:=by omega
 rw[hj,Qa hj']
 exact(hs _ (w08 hj')).1
theorem z5c {d:DImage} {f:DFunc} {x:DInstr} (hx:InstrP x) (hN:NearP d f x) (h:x.op=25):0≤x.b∧x.b<d.funcs.length:=by
 have h2:=hN.2.1
 unfold called at h2
 rw[if_pos h] at h2
 refine⟨?_,h2⟩
 obtain⟨a,b,c,hs,f1,f2,f3⟩:=hx
 rw[h] at hs
 have:shp 25=[103,99,45]:=by decide
 rw[this] at hs
 injection hs with _ hs
 injection hs with hs _
 subst hs
 have:lo 99=0:=by decide
 unfold fitsK at f2;omega
theorem Ug {d:DImage} {f:DFunc} {x:DInstr} (hx:InstrP x) (hN:NearP d f x) (h:x.op=26∨x.op=27):0≤x.a∧x.a<d.funcs.length:=by
 have h2:=hN.2.1
 unfold called at h2
 rw[if_neg (by omega),if_pos h] at h2
 refine⟨?_,h2⟩
 obtain⟨a,b,c,hs,f1,f2,f3⟩:=hx
 have:shp x.op=[99,45,45]:=by rcases h with h|h<;>rw[h]<;>decide
 rw[this] at hs
 injection hs with hs _
 subst hs
 have:lo 99=0:=by decide
 unfold fitsK at f1;omega
theorem zad (a b:DField):eqAt [(0,2),(1,1)] [.str a.name,.int .i64 a.typ] [.str b.name,.int .i64 b.typ]=some (decide (a=b)):=by
 obtain⟨a0,a1⟩:=a
 obtain⟨b0,b1⟩:=b
 simp only[eqAt,eqCell,List.getD_cons_zero,List.getD_cons_succ,sameKind,if_true,DField.mk.injEq]
 by_cases h0:a0=b0
 case neg=>
  have e:(a0==b0)=false:=by simp[h0]
  simp[h0,e]
 subst h0
 by_cases h1:a1=b1
 case neg=>
  have e:(a1==b1)=false:=by simp[h1]
  simp[h1,e]
 subst h1
 simp
theorem zac (a b:DInstr):eqAt [(0,1),(1,1),(2,1),(3,1)] [.int .u8 a.op,.int .i64 a.a,.int .i64 a.b,.int .i64 a.c] [.int .u8 b.op,.int .i64 b.a,.int .i64 b.b,.int .i64 b.c]=some (decide (a=b)):=by
 obtain⟨a0,a1,a2,a3⟩:=a
 obtain⟨b0,b1,b2,b3⟩:=b
 simp only[eqAt,eqCell,List.getD_cons_zero,List.getD_cons_succ,sameKind,if_true,DInstr.mk.injEq]
 by_cases h0:a0=b0
 case neg=>
  have e:(a0==b0)=false:=by simp[h0]
  simp[h0,e]
 subst h0
 by_cases h1:a1=b1
 case neg=>
  have e:(a1==b1)=false:=by simp[h1]
  simp[h1,e]
 subst h1
 by_cases h2:a2=b2
 case neg=>
  have e:(a2==b2)=false:=by simp[h2]
  simp[h2,e]
 subst h2
 by_cases h3:a3=b3
 case neg=>
  have e:(a3==b3)=false:=by simp[h3]
  simp[h3,e]
 subst h3
 simp
theorem z95 (a b:DRun):eqAt [(0,1),(1,1)] [.int .i64 a.frm,.int .u64 a.value] [.int .i64 b.frm,.int .u64 b.value]=some (decide (a=b)):=by
 obtain⟨a0,a1⟩:=a
 obtain⟨b0,b1⟩:=b
 simp only[eqAt,eqCell,List.getD_cons_zero,List.getD_cons_succ,sameKind,if_true,DRun.mk.injEq]
 by_cases h0:a0=b0
 case neg=>
  have e:(a0==b0)=false:=by simp[h0]
  simp[h0,e]
 subst h0
 by_cases h1:a1=b1
 case neg=>
  have e:(a1==b1)=false:=by simp[h1]
  simp[h1,e]
 subst h1
 simp
theorem vC (xs ys:List DRun) (x y:AV) (hx:IsSl IsRun 2 xs x) (hy:IsSl IsRun 2 ys y) (m:Mem):Okv tab ya [x,y] m (.bool (decide (xs=ys))):=by
 refine zf jk ?_
 obtain⟨stk,cur,nx,live,fl⟩:=m
 simp only[yP,List.map,go_sem,G3,G0,G2,hx.len,hy.len,qG]
 by_cases hl:xs.length=ys.length
 ·simp only[go_sem,G0,G2,hl,hx.len]
  refine zb (α:=Nat) (fun i σ=>(i≤xs.length∧xs.take i=ys.take i)∧heads [0,1,12,13] 0 σ=⟨tmps 26 [(0,x),(1,y),(12,.int .i64 xs.length),(13,.int .i64 i)],⟨stk++[cur],[],nx,[]::live,fl⟩⟩) (fun i=>xs.length-i) 0 ?_ ?_
  ·refine⟨⟨w0c _,rfl⟩,?_⟩
   simp only[go_sem,G0,G1,hl]
   rfl
  ·rintro i σ ⟨⟨hi,ht⟩,hσ⟩
   rw[hσ]
   dsimp only at hi ht⊢
   by_cases h:i<xs.length
   ·have h':i<ys.length:=hl▸h
    have e1:nth x i= .agg [.int .i64 xs[i].frm,.int .u64 xs[i].value]:=hx.nth h
    have e2:nth y i= .agg [.int .i64 ys[i].frm,.int .u64 ys[i].value]:=hy.nth h'
    simp only[go_sem,G3,G0,G1,G2,w03,h,hx.at _ h,hy.at _ h',e1,e2,z95]
    by_cases he:xs[i]=ys[i]
    ·simp only[go_sem,G0,G2,he,zd h hx.max]
     exact⟨i+1,by omega,⟨h,tV hl ht h he⟩,rfl⟩
    ·simp only[go_sem,G0,G2,he]
     rw[z6 rfl rfl,z8]
     exact⟨⟨_,rfl⟩,by rw[decide_eq_false (kF h h' he)]⟩
   ·have:i=xs.length:=by omega
    subst this
    simp only[go_sem,G0,G1,G2,w03,h]
    rw[z6 rfl rfl,z8]
    exact⟨⟨_,rfl⟩,by rw[decide_eq_true (jo hl ht)]⟩
 ·simp only[go_sem,G0,G2,hl]
  rw[z6 rfl rfl,z8]
  exact⟨⟨_,rfl⟩,by rw[decide_eq_false (kE hl)]⟩
theorem kL (xs ys:List DField) (x y:AV) (hx:IsSl IsField 2 xs x) (hy:IsSl IsField 2 ys y) (m:Mem):Okv tab xC [x,y] m (.bool (decide (xs=ys))):=by
 refine zf kP ?_
 obtain⟨stk,cur,nx,live,fl⟩:=m
 simp only[xy,List.map,go_sem,G3,G0,G2,hx.len,hy.len,qG]
 by_cases hl:xs.length=ys.length
 ·simp only[go_sem,hl]
  refine zb (α:=Nat) (fun i σ=>(i≤xs.length∧xs.take i=ys.take i)∧heads [0,1,5] 0 σ=⟨tmps 26 [(0,x),(1,y),(5,.int .i64 i)],⟨stk++[cur],[],nx,[]::live,fl⟩⟩) (fun i=>xs.length-i) 0 ?_ ?_
  ·refine⟨⟨w0c _,rfl⟩,?_⟩
   simp only[go_sem,G0,G1]
   rfl
  ·rintro i σ ⟨⟨hi,ht⟩,hσ⟩
   rw[hσ]
   dsimp only at hi ht⊢
   by_cases h:i<xs.length
   ·have h':i<ys.length:=hl▸h
    have e1:nth x i= .agg [.str xs[i].name,.int .i64 xs[i].typ]:=hx.nth h
    have e2:nth y i= .agg [.str ys[i].name,.int .i64 ys[i].typ]:=hy.nth h'
    simp only[go_sem,G3,G0,G1,G2,w03,h,hx.len,hx.at _ h,hy.at _ h',e1,e2,zad]
    by_cases he:xs[i]=ys[i]
    ·simp only[go_sem,G0,G2,he,zd h hx.max]
     exact⟨i+1,by omega,⟨h,tV hl ht h he⟩,rfl⟩
    ·simp only[go_sem,G0,G2,he]
     rw[z6 rfl rfl,z8]
     exact⟨⟨_,rfl⟩,by rw[decide_eq_false (kF h h' he)]⟩
   ·have:i=xs.length:=by omega
    subst this
    simp only[go_sem,G0,G1,G2,w03,h,hx.len]
    rw[z6 rfl rfl,z8]
    exact⟨⟨_,rfl⟩,by rw[decide_eq_true (jo hl ht)]⟩
 ·simp only[go_sem,G0,G2,hl]
  rw[z6 rfl rfl,z8]
  exact⟨⟨_,rfl⟩,by rw[decide_eq_false (kE hl)]⟩
theorem Vb (xs ys:List DInstr) (x y:AV) (hx:IsSl IsInstr 4 xs x) (hy:IsSl IsInstr 4 ys y) (m:Mem):Okv tab tN [x,y] m (.bool (decide (xs=ys))):=by
 refine zf Vw ?_
 obtain⟨stk,cur,nx,live,fl⟩:=m
 simp only[tD,List.map,go_sem,G3,G0,G2,hx.len,hy.len,qG]
 by_cases hl:xs.length=ys.length
 ·simp only[go_sem,hl]
  refine zb (α:=Nat) (fun i σ=>(i≤xs.length∧xs.take i=ys.take i)∧heads [0,1,5] 0 σ=⟨tmps 26 [(0,x),(1,y),(5,.int .i64 i)],⟨stk++[cur],[],nx,[]::live,fl⟩⟩) (fun i=>xs.length-i) 0 ?_ ?_
  ·refine⟨⟨w0c _,rfl⟩,?_⟩
   simp only[go_sem,G0,G1]
   rfl
  ·rintro i σ ⟨⟨hi,ht⟩,hσ⟩
   rw[hσ]
   dsimp only at hi ht⊢
   by_cases h:i<xs.length
   ·have h':i<ys.length:=hl▸h
    have e1:nth x i= .agg [.int .u8 xs[i].op,.int .i64 xs[i].a,.int .i64 xs[i].b,.int .i64 xs[i].c]:=hx.nth h
    have e2:nth y i= .agg [.int .u8 ys[i].op,.int .i64 ys[i].a,.int .i64 ys[i].b,.int .i64 ys[i].c]:=hy.nth h'
    simp only[go_sem,G3,G0,G1,G2,w03,h,hx.len,hx.at _ h,hy.at _ h',e1,e2,zac]
    by_cases he:xs[i]=ys[i]
    ·simp only[go_sem,G0,G2,he,zd h hx.max]
     exact⟨i+1,by omega,⟨h,tV hl ht h he⟩,rfl⟩
    ·simp only[go_sem,G0,G2,he]
     rw[z6 rfl rfl,z8]
     exact⟨⟨_,rfl⟩,by rw[decide_eq_false (kF h h' he)]⟩
   ·have:i=xs.length:=by omega
    subst this
    simp only[go_sem,G0,G1,G2,w03,h,hx.len]
    rw[z6 rfl rfl,z8]
    exact⟨⟨_,rfl⟩,by rw[decide_eq_true (jo hl ht)]⟩
 ·simp only[go_sem,G0,G2,hl]
  rw[z6 rfl rfl,z8]
  exact⟨⟨_,rfl⟩,by rw[decide_eq_false (kE hl)]⟩
theorem jH (xs ys:List DRun) (x y:AV) (hx:IsSl IsRun 2 xs x) (hy:IsSl IsRun 2 ys y) (m:Mem):Okv tab v8 [x,y] m (.bool (decide (xs=ys))):=by
 refine zf Vu ?_
 obtain⟨stk,cur,nx,live,fl⟩:=m
 simp only[tB,List.map,go_sem,G3,G0,G2,hx.len,hy.len,qG]
 by_cases hl:xs.length=ys.length
 ·simp only[go_sem,hl]
  refine zb (α:=Nat) (fun i σ=>(i≤xs.length∧xs.take i=ys.take i)∧heads [0,1,5] 0 σ=⟨tmps 26 [(0,x),(1,y),(5,.int .i64 i)],⟨stk++[cur],[],nx,[]::live,fl⟩⟩) (fun i=>xs.length-i) 0 ?_ ?_
  ·refine⟨⟨w0c _,rfl⟩,?_⟩
   simp only[go_sem,G0,G1]
   rfl
  ·rintro i σ ⟨⟨hi,ht⟩,hσ⟩
   rw[hσ]
   dsimp only at hi ht⊢
   by_cases h:i<xs.length
   ·have h':i<ys.length:=hl▸h
    have e1:nth x i= .agg [.int .i64 xs[i].frm,.int .u64 xs[i].value]:=hx.nth h
    have e2:nth y i= .agg [.int .i64 ys[i].frm,.int .u64 ys[i].value]:=hy.nth h'
    simp only[go_sem,G3,G0,G1,G2,w03,h,hx.len,hx.at _ h,hy.at _ h',e1,e2,z95]
    by_cases he:xs[i]=ys[i]
    ·simp only[go_sem,G0,G2,he,zd h hx.max]
     exact⟨i+1,by omega,⟨h,tV hl ht h he⟩,rfl⟩
    ·simp only[go_sem,G0,G2,he]
     rw[z6 rfl rfl,z8]
     exact⟨⟨_,rfl⟩,by rw[decide_eq_false (kF h h' he)]⟩
   ·have:i=xs.length:=by omega
    subst this
    simp only[go_sem,G0,G1,G2,w03,h,hx.len]
    rw[z6 rfl rfl,z8]
    exact⟨⟨_,rfl⟩,by rw[decide_eq_true (jo hl ht)]⟩
 ·simp only[go_sem,G0,G2,hl]
  rw[z6 rfl rfl,z8]
  exact⟨⟨_,rfl⟩,by rw[decide_eq_false (kE hl)]⟩
theorem YN (xs ys:List Int) (x y:AV) (hx:IsSl (IsK .i64) 1 xs x) (hy:IsSl (IsK .i64) 1 ys y) (m:Mem):Okv tab ug [x,y] m (.bool (decide (xs=ys))):=by
 refine zf X1 ?_
 obtain⟨stk,cur,nx,live,fl⟩:=m
 simp only[ua,List.map,go_sem,G3,G0,G2,hx.len,hy.len,qG]
 by_cases hl:xs.length=ys.length
 ·simp only[go_sem,G0,G2,hl,hx.len]
  refine zb (α:=Nat) (fun i σ=>(i≤xs.length∧xs.take i=ys.take i)∧heads [0,1,12,13] 0 σ=⟨tmps 26 [(0,x),(1,y),(12,.int .i64 xs.length),(13,.int .i64 i)],⟨stk++[cur],[],nx,[]::live,fl⟩⟩) (fun i=>xs.length-i) 0 ?_ ?_
  ·refine⟨⟨w0c _,rfl⟩,?_⟩
   simp only[go_sem,G0,G1,hl]
   rfl
  ·rintro i σ ⟨⟨hi,ht⟩,hσ⟩
   rw[hσ]
   dsimp only at hi ht⊢
   by_cases h:i<xs.length
   ·have h':i<ys.length:=hl▸h
    have e1:nth x i= .int .i64 xs[i]:=hx.nth h
    have e2:nth y i= .int .i64 ys[i]:=hy.nth h'
    simp only[go_sem,G0,G1,G2,w03,h,hx.at _ h,hy.at _ h',e1,e2]
    by_cases he:xs[i]=ys[i]
    ·simp only[go_sem,G0,G2,he,zd h hx.max,bne_self_eq_false]
     exact⟨i+1,by omega,⟨h,tV hl ht h he⟩,rfl⟩
    ·have hb:(xs[i]==ys[i])=false:=by simp[he]
     have hb':(xs[i] !=ys[i])=true:=by simp[he]
     simp only[go_sem,G0,G2,hb']
     rw[z6 rfl rfl,z8]
     exact⟨⟨_,rfl⟩,by rw[decide_eq_false (kF h h' he)]⟩
   ·have:i=xs.length:=by omega
    subst this
    simp only[go_sem,G0,G1,G2,w03,h]
    rw[z6 rfl rfl,z8]
    exact⟨⟨_,rfl⟩,by rw[decide_eq_true (jo hl ht)]⟩
 ·simp only[go_sem,G0,G2,hl]
  rw[z6 rfl rfl,z8]
  exact⟨⟨_,rfl⟩,by rw[decide_eq_false (kE hl)]⟩
theorem qi (xs ys:List Int) (x y:AV) (hx:IsSl (IsK .i64) 1 xs x) (hy:IsSl (IsK .i64) 1 ys y) (m:Mem):Okv tab yW [x,y] m (.bool (decide (xs=ys))):=by
 refine zf ZA ?_
 obtain⟨stk,cur,nx,live,fl⟩:=m
 simp only[vk,List.map,go_sem,G3,G0,G2,hx.len,hy.len,qG]
 by_cases hl:xs.length=ys.length
 ·simp only[go_sem,hl]
  refine zb (α:=Nat) (fun i σ=>(i≤xs.length∧xs.take i=ys.take i)∧heads [0,1,5] 0 σ=⟨tmps 26 [(0,x),(1,y),(5,.int .i64 i)],⟨stk++[cur],[],nx,[]::live,fl⟩⟩) (fun i=>xs.length-i) 0 ?_ ?_
  ·refine⟨⟨w0c _,rfl⟩,?_⟩
   simp only[go_sem,G0,G1]
   rfl
  ·rintro i σ ⟨⟨hi,ht⟩,hσ⟩
   rw[hσ]
   dsimp only at hi ht⊢
   by_cases h:i<xs.length
   ·have h':i<ys.length:=hl▸h
    have e1:nth x i= .int .i64 xs[i]:=hx.nth h
    have e2:nth y i= .int .i64 ys[i]:=hy.nth h'
    simp only[go_sem,G0,G1,G2,w03,h,hx.len,hx.at _ h,hy.at _ h',e1,e2]
    by_cases he:xs[i]=ys[i]
    ·simp only[go_sem,G0,G2,he,zd h hx.max,bne_self_eq_false]
     exact⟨i+1,by omega,⟨h,tV hl ht h he⟩,rfl⟩
    ·have hb:(xs[i]==ys[i])=false:=by simp[he]
     have hb':(xs[i] !=ys[i])=true:=by simp[he]
     simp only[go_sem,G0,G2,hb']
     rw[z6 rfl rfl,z8]
     exact⟨⟨_,rfl⟩,by rw[decide_eq_false (kF h h' he)]⟩
   ·have:i=xs.length:=by omega
    subst this
    simp only[go_sem,G0,G1,G2,w03,h,hx.len]
    rw[z6 rfl rfl,z8]
    exact⟨⟨_,rfl⟩,by rw[decide_eq_true (jo hl ht)]⟩
 ·simp only[go_sem,G0,G2,hl]
  rw[z6 rfl rfl,z8]
  exact⟨⟨_,rfl⟩,by rw[decide_eq_false (kE hl)]⟩
theorem Zs (a b:DFunc) (x y:AV) (hx:IsFunc a x) (hy:IsFunc b y) (m:Mem):Okv tab vt [x,y] m (.bool (decide (a=b))):=by
 refine zf Zx ?_
 obtain⟨stk,cur,nx,live,fl⟩:=m
 obtain⟨a_name,a_params,a_result,a_slots,a_code,a_sizes,a_lives⟩:=a
 obtain⟨b_name,b_params,b_result,b_slots,b_code,b_sizes,b_lives⟩:=b
 obtain⟨x_slots,x_code,x_sizes,x_lives,rfl,hx_slots,hx_code,hx_sizes,hx_lives⟩:=hx
 obtain⟨y_slots,y_code,y_sizes,y_lives,rfl,hy_slots,hy_code,hy_sizes,hy_lives⟩:=hy
 dsimp only at hx_slots hy_slots hx_code hy_code hx_sizes hy_sizes hx_lives hy_lives
 simp only[vh,List.map,go_sem,G3,G0,G2,evStr,DFunc.mk.injEq]
 by_cases h_name:a_name=b_name
 case neg=>
  have e:(a_name==b_name)=false:=by simp[h_name]
  simp only[go_sem,G0,G2,e]
  rw[z6 rfl rfl,z8]
  exact⟨⟨_,rfl⟩,by simp[h_name]⟩
 subst h_name
 simp only[go_sem,G0,G2,beq_self_eq_true]
 by_cases h_params:a_params=b_params
 case neg=>
  have e:(a_params==b_params)=false:=by simp[h_params]
  simp only[go_sem,G0,G2,e]
  rw[z6 rfl rfl,z8]
  exact⟨⟨_,rfl⟩,by simp[h_params]⟩
 subst h_params
 simp only[go_sem,G0,G2,beq_self_eq_true]
 by_cases h_result:a_result=b_result
 case neg=>
  have e:(a_result==b_result)=false:=by simp[h_result]
  simp only[go_sem,G0,G2,e]
  rw[z6 rfl rfl,z8]
  exact⟨⟨_,rfl⟩,by simp[h_result]⟩
 subst h_result
 simp only[go_sem,G0,G2,beq_self_eq_true]
 obtain⟨k_slots,c_slots⟩:=Okv.all (kL _ _ _ _ hx_slots hy_slots)
 simp only[c_slots]
 by_cases h_slots:a_slots=b_slots
 case neg=>
  simp only[go_sem,G0,G2,h_slots]
  rw[z6 rfl rfl,z8]
  exact⟨⟨_,rfl⟩,by simp[]⟩
 subst h_slots
 simp only[go_sem,G0,G2,beq_self_eq_true]
 obtain⟨k_code,c_code⟩:=Okv.all (Vb _ _ _ _ hx_code hy_code)
 simp only[c_code]
 by_cases h_code:a_code=b_code
 case neg=>
  simp only[go_sem,G0,G2,h_code]
  rw[z6 rfl rfl,z8]
  exact⟨⟨_,rfl⟩,by simp[]⟩
 subst h_code
 simp only[go_sem,G0,G2,beq_self_eq_true]
 obtain⟨k_sizes,c_sizes⟩:=Okv.all (jH _ _ _ _ hx_sizes hy_sizes)
 simp only[c_sizes]
 by_cases h_sizes:a_sizes=b_sizes
 case neg=>
  simp only[go_sem,G0,G2,h_sizes]
  rw[z6 rfl rfl,z8]
  exact⟨⟨_,rfl⟩,by simp[]⟩
 subst h_sizes
 simp only[go_sem,G0,G2,beq_self_eq_true]
 obtain⟨k_lives,c_lives⟩:=Okv.all (jH _ _ _ _ hx_lives hy_lives)
 simp only[c_lives]
 by_cases h_lives:a_lives=b_lives
 case neg=>
  simp only[go_sem,G0,G2,h_lives]
  rw[z6 rfl rfl,z8]
  exact⟨⟨_,rfl⟩,by simp[]⟩
 subst h_lives
 simp only[go_sem,G0,G2]
 rw[z6 rfl rfl,z8]
 exact⟨⟨_,rfl⟩,by simp⟩
theorem _root_.Go.Vs.IsSl.fromN {α:Type} {R:α→AV→Prop} {s:Nat} {xs:List α} {y:AV} (h:IsSl R s xs y) {n:Nat} (hn:n≤xs.length): ∃y',evSlice s y (some (.int .i64 (n:Nat))) none none=some y'∧IsSl R s (xs.drop n) y':=by
 rcases h with⟨hm,⟨rfl,rfl⟩|⟨tk,ys,rfl,h⟩⟩
 ·have:n=0:=by simpa using hn
  subst this
  exact⟨.nils,by simp[evSlice,bound],.nil s⟩
 ·have hl:=h.len
  have hb:bound (some (.int .i64 (n:Int))) ys.length 0=some n:=by
   unfold bound;simp only;rw[if_pos (by omega)];simp
  have e:evSlice s (.list s tk ys) (some (.int .i64 (n:Int))) none none=some (.list s (if ys.length==ys.length&&(n==0||decide (n<ys.length)) then tk else .none) ((ys.take ys.length).drop n)):=by
   unfold evSlice
   simp only[beq_self_eq_true,if_true]
   rw[show bound none ys.length ys.length=some ys.length from rfl,w26,hb]
   simp
  refine⟨_,e,?_⟩
  rw[w09]
  exact .mk (h.drop n) (by rw[w5a];omega)
theorem _root_.Go.Vs.IsSl.toN {α:Type} {R:α→AV→Prop} {s:Nat} {xs:List α} {y:AV} (h:IsSl R s xs y) {n:Nat} (hn:n≤xs.length): ∃y',evSlice s y none (some (.int .i64 (n:Nat))) none=some y'∧IsSl R s (xs.take n) y':=by
 rcases h with⟨hm,⟨rfl,rfl⟩|⟨tk,ys,rfl,h⟩⟩
 ·have:n=0:=by simpa using hn
  subst this
  exact⟨.nils,by simp[evSlice,bound],.nil s⟩
 ·have hl:=h.len
  have hb:bound (some (.int .i64 (n:Int))) ys.length ys.length=some n:=by
   unfold bound;simp only;rw[if_pos (by omega)];simp
  have e: ∃tk',evSlice s (.list s tk ys) none (some (.int .i64 (n:Int))) none=some (.list s tk' ((ys.take n).drop 0)):=by
   unfold evSlice
   simp only[beq_self_eq_true,if_true]
   rw[hb,w26,show bound none n 0=some 0 from rfl]
   exact⟨_,rfl⟩
  obtain⟨tk',e⟩:=e
  refine⟨_,e,?_⟩
  rw[w27]
  exact .mk (h.take n) (by rw[w1f];omega)
theorem z7f (m:Mem):Okv tab yM [.nils] m .nils:=by
 refine zf jg ?_
 obtain⟨stk,cur,nx,live,fl⟩:=m
 have hsl:evSlice 1 .nils none (some (.int .i64 0)) (some (.int .i64 0))=some .nils:=rfl
 simp only[xH,List.map,go_sem,G0,G2,evLen,hsl]
 rw[z6 rfl rfl,z8]
 exact⟨⟨_,rfl⟩,rfl⟩
theorem z5s (tk:Tok) (ys:List AV) (m:Mem):Okv tab yM [.list 1 tk ys] m (.list 1 .full ys):=by
 refine zf jg ?_
 obtain⟨stk,cur,nx,live,fl⟩:=m
 have hb: ∀d,bound (some (.int .i64 (ys.length:Int))) ys.length d=some ys.length:=fun d=>by
  unfold bound;simp only;rw[if_pos (by omega)];simp
 have hb0:bound (none:Option AV) ys.length 0=some 0:=rfl
 simp only[xH,List.map,go_sem,G0,G2,evLen,evSlice,hb,hb0,w09]
 rw[z6 rfl rfl,z8]
 exact⟨⟨_,rfl⟩,rfl⟩
theorem zc5 {S:List (List Blk)} {C:List Blk} {nx fl:Nat} {live:List (List Nat)} {v:AV}:evApp ⟨S,C,nx,live,fl⟩ 1 8 .nils (.list 1 .full [v])=some (.list 1 (.id nx) [v],⟨S,C,nx+1,addTok nx live,fl⟩):=by
 unfold evApp;rw[zh];simp
theorem zav {S:List (List Blk)} {C:List Blk} {nx fl:Nat} {live:List (List Nat)} {ys:List AV} {v:AV} (h:ys.length≤100000):evApp ⟨S,C,nx,live,fl⟩ 1 8 (.list 1 .full ys) (.list 1 .full [v])=some (.list 1 (.id nx) (ys++[v]),⟨S,C,nx+1,addTok nx live,fl⟩):=by
 unfold evApp;rw[zh]
 simp only[beq_self_eq_true,Bool.true_and,w1d]
 rw[if_pos (by simp;omega)]
def parT (g:DFunc):List Int:=(List.range g.params.toNat).map fun i=>(fdA g.slots (i:Nat)).typ
theorem z1x (g:DFunc):(parT g).length=g.params.toNat:=by simp[parT]
theorem z5T {g:DFunc} {i:Nat} (h:i<(parT g).length):(parT g)[i]=(fdA g.slots (i:Nat)).typ:=by simp[parT]
def pops (d:DImage) (x:DInstr) (l:List Int):Option (List Int):=
 if 0≤called x then(if(parT (fnA d.funcs (called x).toNat)).length≤l.length∧l.drop (l.length-(parT (fnA d.funcs (called x).toNat)).length)=parT (fnA d.funcs (called x).toNat) then some (l.take (l.length-(parT (fnA d.funcs (called x).toNat)).length)) else none) else some l
def stS (d:DImage) (f:DFunc) (x:DInstr) (l:List Int):Option (List Int):=
 (pops d x (if x.op=24 then l++[slotT f x.a] else l)).bind fun l2=>if sumB d.types l2≤4096 then some l2 else none
theorem zaZ {d:DImage} {f:DFunc} {x:DInstr} {l l':List Int} (hx:InstrP x) (hw:WfI x) (hN:NearP d f x) (hs:SlotsP d f) (hl:InT d.types l) (h:stS d f x l=some l'):InT d.types l'∧l'.length≤l.length+1:=by
 have h1:InT d.types (if x.op=24 then l++[slotT f x.a] else l)∧(if x.op=24 then l++[slotT f x.a] else l).length≤l.length+1:=by
  split
  ·rename_i e
   refine⟨fun t ht=> ?_,by simp⟩
   rcases w0a.1 ht with q|q
   ·exact hl t q
   ·rw[w11.1 q]
    have:=TK hx hw hN hs (k:=0) (by omega) (by right;show(shp x.op).getD 0 45=114;rw[e];rfl)
    exact⟨this,tj hs _⟩
  ·exact⟨hl,by omega⟩
 unfold stS at h
 rw[w05] at h
 generalize (if x.op=24 then l++[slotT f x.a] else l)=l1 at*
 obtain⟨l2,h2,h3⟩:=h
 split at h3
 ·injection h3 with h3;subst h3
  unfold pops at h2
  split at h2
  ·split at h2
   ·injection h2 with h2;subst h2
    exact⟨fun t ht=>h1.1 t (w4b ht),by rw[w1f];omega⟩
   ·cases h2
  ·injection h2 with h2;subst h2;exact h1
 ·cases h3
theorem QW {x:DInstr} (h:x.op=24):called x= -1:=by unfold called;rw[if_neg (by omega),if_neg (by omega)]
theorem zee (d:DImage) (hd:ImgP d) (hT:TypP d.types) (f:DFunc) (y:AV) (hy:NV d f y) (hs:SlotsP d f) (x:DInstr) (hx:InstrP x) (hw:WfI x) (hN:NearP d f x) (l:List Int) (z:AV) (hz:IsSl IsI 1 l z) (hin:InT d.types l) (hlen:l.length≤1000) (m:Mem):
  OkT tab t8 [y,.agg [.int .u8 x.op,.int .i64 x.a,.int .i64 x.b,.int .i64 x.c],z] m (fun r _ _=> ∃q,r= .tup [q,.bool (stS d f x l).isSome]∧ ∀l',stS d f x l=some l'→IsSl IsI 1 l' q):=by
 have hy':=hy
 obtain⟨ty,tx,fs,w0,w1,w2,w3,rfl,h0,h1,h2,h3,h4,h5,h6⟩:=hy
 refine VN Ws ?_
 obtain⟨stk,cur,nx,live,fl⟩:=m
 have hS:=fun s m=>(z0X d f _ hy' s m).eq
 have hCa:=fun m=>(Vg x m).eq
 by_cases h24:x.op=24
 ·have e24:(x.op==24)=true:=by simpa using h24
  have hcl:=QW h24
  have hst:stS d f x l=if sumB d.types (l++[slotT f x.a])≤4096 then some (l++[slotT f x.a]) else none:=by
   unfold stS pops
   rw[if_pos h24,hcl]
   rfl
  have hin2:InT d.types (l++[slotT f x.a]):=by
   intro t ht
   rcases w0a.1 ht with q|q
   ·exact hin t q
   ·rw[w11.1 q]
    have:=TK hx hw hN hs (k:=0) (by omega) (by right;show(shp x.op).getD 0 45=114;rw[h24];rfl)
    exact⟨this,tj hs _⟩
  rw[hcl] at hCa
  have fin: ∀(q:AV),IsSl IsI 1 (l++[slotT f x.a]) q→ ∃q',(AV.tup [q,.bool (decide (((sumB d.types (l++[slotT f x.a]):Nat):Int)≤4096))])= .tup [q',.bool (stS d f x l).isSome]∧ ∀l',stS d f x l=some l'→IsSl IsI 1 l' q':=fun q hq=>by
   rw[hst]
   by_cases hle:sumB d.types (l++[slotT f x.a])≤4096
   ·rw[if_pos hle,decide_eq_true (by omega)]
    exact⟨q,rfl,fun l' h=>by injection h with h;subst h;exact hq⟩
   ·rw[if_neg hle,decide_eq_false (by omega)]
    exact⟨q,rfl,fun l' h=>by cases h⟩
  rcases hz with⟨hzm,⟨rfl,rfl⟩|⟨tk,ys,rfl,hys⟩⟩
  ·have hq:IsSl IsI 1 ([]++[slotT f x.a]) (.list 1 (.id (callNx tab zq [.agg [ty,tx,fs,.str f.name,.int .i64 f.params,.int .i64 f.result,w0,w1,w2,w3],.int .i64 x.a] ⟨stk++[cur],[⟨nx,[ty,tx,fs,.str f.name,.int .i64 f.params,.int .i64 f.result,w0,w1,w2,w3]⟩,⟨nx+1,[.int .u8 x.op,.int .i64 x.a,.int .i64 x.b,.int .i64 x.c]⟩],callNx tab yM [.nils] ⟨stk++[cur],[⟨nx,[ty,tx,fs,.str f.name,.int .i64 f.params,.int .i64 f.result,w0,w1,w2,w3]⟩,⟨nx+1,[.int .u8 x.op,.int .i64 x.a,.int .i64 x.b,.int .i64 x.c]⟩],nx+1+1,[]::live,max fl ((stk++[cur]).length+1)⟩,[]::live,max fl ((stk++[cur]).length+1)⟩)) [.int .i64 (slotT f x.a)]):= .mk ⟨rfl,trivial⟩ (by simp)
   simp only[yj,List.map,go_sem,G3,G0,G2,e24,(z7f _).eq,hS,zc5,hCa,show((-1:Int)≥0)=False from eq_false (by decide)]
   generalize callNx tab zq _ _=k1 at*
   simp only[go_sem,G0,G2,(TE d hT f _ hy' _ _ hq hin2 (by simp) _).eq,show((0:Int)==0)=true from rfl]
   exact ye rfl (fin _ hq)
  ·have hyl:=hys.len
   have hq: ∀k1,IsSl IsI 1 (l++[slotT f x.a]) (.list 1 (.id k1) (ys++[.int .i64 (slotT f x.a)])):=fun k1=> .mk (hys.append (ys':=[.int .i64 (slotT f x.a)]) ⟨rfl,trivial⟩) (by simp;omega)
   simp only[yj,List.map,go_sem,G3,G0,G2,e24,(z5s _ _ _).eq,hS,zav (ys:=ys) (by omega),hCa,show((-1:Int)≥0)=False from eq_false (by decide)]
   generalize callNx tab zq _ _=k1 at*
   simp only[go_sem,G0,G2,(TE d hT f _ hy' _ _ (hq _) hin2 (by simp;omega) _).eq,show((0:Int)==0)=true from rfl]
   exact ye rfl (fin _ (hq _))
 have e24:(x.op==24)=false:=by simpa using h24
 by_cases hcl:0≤called x
 ·obtain⟨g,hg⟩: ∃g:Nat,called x=g:=⟨(called x).toNat,by omega⟩
  have hgl:g<d.funcs.length:=by have:=hN.2.1;omega
  obtain⟨v0,v1,v2,v3,ef,q0,q1,q2,q3⟩:=h2.fnA hgl
  have hat:=h2.at .i64 hgl
  obtain⟨g1,g2,g3,g4⟩:=hd.at hgl
  have hst:stS d f x l=if(parT (fnA d.funcs g)).length≤l.length∧l.drop (l.length-(parT (fnA d.funcs g)).length)=parT (fnA d.funcs g) then(if sumB d.types (l.take (l.length-(parT (fnA d.funcs g)).length))≤4096 then some (l.take (l.length-(parT (fnA d.funcs g)).length)) else none) else none:=by
   unfold stS pops
   rw[if_neg h24,if_pos hcl,hg,w2d]
   split<;>rfl
  have hpl:=z1x (fnA d.funcs g)
  have hpg:=fun i h=>z5T (g:=fnA d.funcs g) (i:=i) h
  rw[hg] at hCa
  generalize fnA d.funcs g=F at*
  generalize hP:parT F=P at*
  have hsub:IntKind.i64.wrap ((l.length:Int)-F.params)=(l.length:Int)-P.length:=by
   have:=q0.max
   rw[zc (by omega) (by omega)];omega
  simp only[yj,List.map,go_sem,G3,G0,G2,e24,hCa,show((g:Int)≥0)=True from eq_true (by omega),hat,ef,q0.one,q1.one,q2.one,q3.one,hz.len,hsub]
  by_cases hle:P.length≤l.length
  ·have hsub2:((l.length:Int)-P.length)=((l.length-P.length:Nat):Int):=by omega
   obtain⟨z1,hz1,hzs1⟩:=hz.fromN (n:=l.length-P.length) (by omega)
   obtain⟨z2,hz2,hzs2⟩:=hz.toN (n:=l.length-P.length) (by omega)
   have hdl:(l.drop (l.length-P.length)).length=P.length:=by rw[w5a];omega
   simp only[go_sem,G3,G0,G2,hsub2,show¬(((l.length-P.length:Nat):Int)<0) by omega,hz1,hzs1.len,hdl]
   generalize callNx tab tU _ _=k0
   refine zb (α:=Nat) (fun k σ=>(k≤P.length∧ ∀j,j<k→(l.drop (l.length-P.length))[j]? =P[j]?)∧ ∃nz,heads [2,3,9,10,45,46,47] 3 σ=⟨tmps 77 [(2,z),(3,.ptr (stk++[cur]).length 0 nx 0),(9,.ptr (stk++[cur]).length 2 k0 0),(10,.int .i64 (l.length-P.length:Nat)),(45,z1),(46,.int .i64 P.length),(47,.int .i64 k)],⟨stk++[cur],[⟨nx,[ty,tx,fs,.str f.name,.int .i64 f.params,.int .i64 f.result,w0,w1,w2,w3]⟩,⟨nx+1,[.int .u8 x.op,.int .i64 x.a,.int .i64 x.b,.int .i64 x.c]⟩,⟨k0,[.str F.name,.int .i64 F.params,.int .i64 F.result,v0,v1,v2,v3]⟩],nz,[]::live,fl⟩⟩) (fun k=>P.length-k) 0 ?_ ?_
   ·refine⟨⟨w0c _,fun j h=>absurd h (w38 _)⟩,?_⟩
    simp only[go_sem,G0,G1]
    exact⟨_,rfl⟩
   ·rintro k σ ⟨⟨hk,ht⟩,nz,hσ⟩
    rw[hσ]
    clear hσ σ
    dsimp only at hk ht⊢
    by_cases h:k<P.length
    ·have hkd:k<(l.drop (l.length-P.length)).length:=by omega
     have e1:nth z1 k= .int .i64 (l.drop (l.length-P.length))[k]:=hzs1.nth hkd
     have hsucc:IntKind.i64.wrap ((k:Int)+1)=((k+1:Nat):Int):=by rw[zc (by omega) (by omega)];omega
     have hks:k<F.slots.length:=by omega
     have hgp:=hpg k h
     by_cases hq:(fdA F.slots (k:Nat)).typ=(l.drop (l.length-P.length))[k]
     ·have hqb:((fdA F.slots (k:Nat)).typ !=(l.drop (l.length-P.length))[k])=false:=by simpa using hq
      simp only[go_sem,G0,G1,G2,w03,h,hzs1.at .i64 hkd,e1,q0.at .i64 hks,q0.fdA hks,hqb,hsucc]
      refine⟨k+1,by omega,⟨h,fun j hj=> ?_⟩,_,rfl⟩
      rcases w3e j k with q|q
      ·exact ht j q
      ·have:j=k:=by omega
       subst this
       rw[w13 hkd,w13 h,hgp,hq]
     ·have hqb:((fdA F.slots (k:Nat)).typ !=(l.drop (l.length-P.length))[k])=true:=by simpa using hq
      simp only[go_sem,G0,G1,G2,w03,h,hzs1.at .i64 hkd,e1,q0.at .i64 hks,q0.fdA hks,hqb]
      have hno:stS d f x l=none:=by
       rw[hst,if_neg]
       rintro⟨_,e⟩
       apply hq
       rw[←hgp]
       simp only[e]
      refine ye rfl ⟨.nils,by rw[hno];rfl,fun l' h=>by rw[hno] at h;cases h⟩
    ·have hke:k=P.length:=by omega
     subst hke
     have heq:l.drop (l.length-P.length)=P:=by
      apply w2c
      intro j
      by_cases hj:j<P.length
      ·exact ht j hj
      ·rw[w17 (by omega),w17 (by omega)]
     have hin2:InT d.types (l.take (l.length-P.length)):=fun t ht=>hin t (w4b ht)
     have hB:=fun m=>(TE d hT f _ hy' _ _ hzs2 hin2 (by rw[w1f];omega) m).eq
     simp only[go_sem,G3,G0,G1,G2,w03,h,hz2,hB,show((0:Int)==0)=true from rfl]
     rw[if_pos ⟨hle,heq⟩] at hst
     refine ye (by simp only[AV.refs,refsAny,hzs2.refs];rfl) ?_
     rw[hst]
     by_cases hle2:sumB d.types (l.take (l.length-P.length))≤4096
     ·rw[if_pos hle2,decide_eq_true (by omega)]
      exact⟨z2,rfl,fun l' h=>by injection h with h;subst h;exact hzs2⟩
     ·rw[if_neg hle2,decide_eq_false (by omega)]
      exact⟨z2,rfl,fun l' h=>by cases h⟩
  ·have hno:stS d f x l=none:=by rw[hst,if_neg fun q=>hle q.1]
   simp only[go_sem,G0,G2,show(((l.length:Int)-P.length)<0)=True from eq_true (by omega)]
   refine ye rfl ⟨.nils,by rw[hno];rfl,fun l' h=>by rw[hno] at h;cases h⟩
 ·have hst:stS d f x l=if sumB d.types l≤4096 then some l else none:=by
   unfold stS pops
   rw[if_neg h24,if_neg hcl]
   rfl
  have hB:=fun m=>(TE d hT f _ hy' _ _ hz hin (by omega) m).eq
  simp only[yj,List.map,go_sem,G3,G0,G2,e24,hCa,show¬(called x≥0) by omega,hB,show((0:Int)==0)=true from rfl]
  refine ye (by simp only[AV.refs,refsAny,hz.refs];rfl) ?_
  rw[hst]
  by_cases hle2:sumB d.types l≤4096
  ·rw[if_pos hle2,decide_eq_true (by omega)]
   exact⟨z,rfl,fun l' h=>by injection h with h;subst h;exact hz⟩
  ·rw[if_neg hle2,decide_eq_false (by omega)]
   exact⟨z,rfl,fun l' h=>by cases h⟩
def takeT (d:DImage) (x:DInstr):List Int:=if 0≤called x then parT (fnA d.funcs (called x).toNat) else []
def pushT (f:DFunc) (x:DInstr):Int:=if x.op=24 then slotT f x.a else-1
theorem zep {d:DImage} {f:DFunc} {x:DInstr} {l:List Int} (hp:x.op=24→0≤slotT f x.a):stS d f x l=
  if(takeT d x).length≤l.length∧l.drop (l.length-(takeT d x).length)=takeT d x then(if sumB d.types (l.take (l.length-(takeT d x).length)++(if 0≤pushT f x then [pushT f x] else []))≤4096 then some (l.take (l.length-(takeT d x).length)++(if 0≤pushT f x then [pushT f x] else [])) else none) else none:=by
 unfold stS pops takeT pushT
 by_cases h24:x.op=24
 ·have hcl:=QW h24
  have h0:=hp h24
  rw[if_pos h24,if_pos h24,hcl]
  simp only[show¬(0:Int)≤ -1 by omega,if_false,w34,Nat.sub_zero,w0c,true_and,List.drop_length,if_true,w09,h0]
  rfl
 ·rw[if_neg h24,if_neg h24]
  simp only[show¬(0:Int)≤ -1 by omega,if_false,w1a]
  by_cases hcl:0≤called x
  ·simp only[hcl,if_true]
   split<;>rfl
  ·simp only[hcl,if_false,w34,Nat.sub_zero,w0c,true_and,List.drop_length,if_true,w09]
   rfl
theorem zaM (d:DImage) (hd:ImgP d) (hsl: ∀k,k<d.funcs.length→(fnA d.funcs k).slots.length≤1000) (y:AV) (hy:IsImage d y) (g:Nat) (hg:g<d.funcs.length) (x:DInstr) (hN:NearP d (fnA d.funcs g) x) (m:Mem):
  OkT tab ue [y,.int .i64 g,.agg [.int .u8 x.op,.int .i64 x.a,.int .i64 x.b,.int .i64 x.c]] m (fun r ts _=> ∃q,r= .tup [q,.int .i64 (pushT (fnA d.funcs g) x)]∧Own IsI 1 q (takeT d x) ts):=by
 have hy':=hy
 obtain⟨ty,tx,fs,rfl,h0,h1,h2⟩:=hy
 refine VN YR ?_
 obtain⟨stk,cur,nx,live,fl⟩:=m
 have hS:=fun s m=>(TC d _ hy' g hg s m).eq
 have hCa:=fun m=>(qO x m).eq
 generalize fnA d.funcs g=f at*
 by_cases h24:x.op=24
 ·have e24:(x.op==24)=true:=by simpa using h24
  simp only[yA,List.map,go_sem,G3,G0,G2,e24,hS]
  refine ye rfl ⟨.nils,by unfold pushT;rw[if_pos h24],?_⟩
  unfold takeT
  rw[QW h24,if_neg (by omega)]
  exact .nil _
 have e24:(x.op==24)=false:=by simpa using h24
 have hpu:pushT f x= -1:=by unfold pushT;rw[if_neg h24]
 by_cases hcl:0≤called x
 ·obtain⟨k,hk⟩: ∃k:Nat,called x=k:=⟨(called x).toNat,by omega⟩
  have hkl:k<d.funcs.length:=by have:=hN.2.1;omega
  obtain⟨v0,v1,v2,v3,ef,q0,q1,q2,q3⟩:=h2.fnA hkl
  have hat:=h2.at .i64 hkl
  obtain⟨g1,g2,g3,g4⟩:=hd.at hkl
  have g5:=hsl k hkl
  have hta:takeT d x=parT (fnA d.funcs k):=by unfold takeT;rw[if_pos hcl,hk,w2d]
  rw[hta]
  rw[hk] at hCa
  generalize fnA d.funcs k=F at*
  have hpl:=z1x F
  have hpg:=fun i h=>z5T (g:=F) (i:=i) h
  have hmx:=q0.max
  generalize hP:parT F=P at*
  simp only[yA,List.map,go_sem,G3,G0,G2,e24,hCa,show((k:Int)≥0)=True from eq_true (by omega)]
  refine zb (α:=Nat) (fun i σ=>i≤P.length∧ ∃nz q e,Own IsI 1 q (P.take i) e∧heads [3,8,9,10] 2 σ=⟨tmps 47 [(3,.ptr (stk++[cur]).length 0 nx 0),(8,q),(9,.int .i64 k),(10,.int .i64 i)],⟨stk++[cur],[⟨nx,[ty,tx,fs]⟩,⟨nx+1,[.int .u8 x.op,.int .i64 x.a,.int .i64 x.b,.int .i64 x.c]⟩],nz,e::live,fl⟩⟩) (fun i=>P.length-i) 0 ?_ ?_
  ·refine⟨w0c _,?_⟩
   simp only[go_sem,G0,G1]
   exact⟨_,_,[],by simpa using Own.nil (R:=IsI) (s:=1) [],rfl⟩
  ·rintro i σ ⟨hi,nz,q,e,ho,hσ⟩
   rw[hσ]
   clear hσ σ
   dsimp only at hi⊢
   by_cases h:i<P.length
   ·have hsucc:IntKind.i64.wrap ((i:Int)+1)=((i+1:Nat):Int):=by rw[zc (by omega) (by omega)];omega
    have hks:i<F.slots.length:=by omega
    simp only[go_sem,G0,G1,G2,hat,ef,show((i:Int)<F.params)=True from eq_true (by omega),q0.at .i64 hks,q0.fdA hks]
    refine ho.xv (zh · 1 .full [.int .i64 (fdA F.slots (i:Nat)).typ]) (XI _) (by rw[w1f];simp;omega) fun q' n' e' ho'=> ?_
    simp only[go_sem,G0,G2,hsucc]
    refine⟨i+1,by omega,h,_,q',e',?_,rfl⟩
    rw[w14 h,hpg i h];exact ho'
   ·have hie:i=P.length:=by omega
    subst hie
    rw[w09] at ho
    simp only[go_sem,G0,G1,G2,hat,ef,show(((P.length:Nat):Int)<F.params)=False from eq_false (by omega)]
    refine ye (by simp only[AV.refs,refsAny,ho.refs];rfl) ⟨q,by rw[hpu],?_⟩
    have:=ho.filter
    simp only[AV.toks,toksAll,w1a]
    exact this
 ·simp only[yA,List.map,go_sem,G3,G0,G2,e24,hCa,show¬(called x≥0) by omega]
  refine ye rfl ⟨.nils,by rw[hpu],?_⟩
  unfold takeT
  rw[if_neg hcl]
  exact .nil _
theorem zcz (d:DImage) (hd:ImgP d) (hsl: ∀k,k<d.funcs.length→(fnA d.funcs k).slots.length≤1000) (hT:TypP d.types) (y:AV) (hy:IsImage d y) (g:Nat) (hg:g<d.funcs.length) (x:DInstr) (hx:InstrP x) (hw:WfI x) (hN:NearP d (fnA d.funcs g) x) (l:List Int) (z:AV) (hz:IsSl IsI 1 l z) (hin:InT d.types l) (hlen:l.length≤1000) (m:Mem) (hf:m.floor≤m.stk.length+1):
  OkT tab uR [y,.int .i64 g,.agg [.int .u8 x.op,.int .i64 x.a,.int .i64 x.b,.int .i64 x.c],z] m (fun r _ _=> ∃q,r= .tup [q,.bool (stS d (fnA d.funcs g) x l).isSome]∧ ∀l',stS d (fnA d.funcs g) x l=some l'→IsSl IsI 1 l' q):=by
 have hy':=hy
 have hs:=(hd.at hg).1
 have hp24:x.op=24→0≤slotT (fnA d.funcs g) x.a:=fun e=>TK hx hw hN hs (k:=0) (by omega) (by right;show(shp x.op).getD 0 45=114;rw[e];rfl)
 have hst:=zep (d:=d) (f:=fnA d.funcs g) (x:=x) (l:=l) hp24
 have hstin:=fun l' h=>zaZ (l':=l') hx hw hN hs hin h
 obtain⟨ty,tx,fs,rfl,h0,h1,h2⟩:=hy
 refine VN W1 ?_
 obtain⟨stk,cur,nx,live,fl⟩:=m
 dsimp only at hf
 have hf':fl≤(stk++[cur]).length+1:=by simp;omega
 have hpt:0≤pushT (fnA d.funcs g) x→pushT (fnA d.funcs g) x<d.types.length:=fun _=>by
  unfold pushT
  split
  ·exact tj hs _
  ·omega
 have hTl:(takeT d x).length≤9223372036854775807:=by
  unfold takeT
  split
  ·rename_i hcl
   obtain⟨k,hk⟩: ∃k:Nat,called x=k:=⟨(called x).toNat,by omega⟩
   have hkl:k<d.funcs.length:=by have:=hN.2.1;omega
   obtain⟨v0,v1,v2,v3,ef,q0,q1,q2,q3⟩:=h2.fnA hkl
   have h1:=(hd.at hkl).2.1
   have h3:=q0.max
   rw[hk,w2d,z1x];omega
  ·simp
 simp only[uq,List.map,go_sem,G3,G0,G2]
 refine(zaM d hd hsl _ hy' g hg x hN _).xv fun r ts n1 ⟨q,hr,ho⟩=> ?_
 subst hr
 have hlive: ∃e,pushToks ts ([]::live)=e::live:=by cases ts<;>exact⟨_,rfl⟩
 obtain⟨e,he⟩:=hlive
 simp only[he]
 generalize pushT (fnA d.funcs g) x=p at*
 generalize hTe:takeT d x=T at*
 generalize stS d (fnA d.funcs g) x l=res at*
 have hq:=ho.sl (by omega)
 have hsub:IntKind.i64.wrap ((l.length:Int)-T.length)=(l.length:Int)-T.length:=by rw[zc (by omega) (by omega)]
 simp only[go_sem,G0,G2,hz.len,hq.len,hsub]
 by_cases hle:T.length≤l.length
 ·have hsub2:((l.length:Int)-T.length)=((l.length-T.length:Nat):Int):=by omega
  obtain⟨z1,hz1,hzs1⟩:=hz.fromN (n:=l.length-T.length) (by omega)
  obtain⟨z2,hz2,hzs2⟩:=hz.toN (n:=l.length-T.length) (by omega)
  simp only[go_sem,G0,G2,hsub2,show¬(((l.length-T.length:Nat):Int)<0) by omega,hz1,(qi _ _ _ _ hzs1 hq _).eq]
  by_cases heq:l.drop (l.length-T.length)=T
  ·rw[if_pos ⟨hle,heq⟩] at hst
   have hdt:decide (l.drop (l.length-T.length)=T)=true:=decide_eq_true heq
   simp only[go_sem,G0,G2,hdt,hz2]
   obtain⟨zz2,hzz2,hcc2⟩:=hzs2.elems_any
   have hn:Own IsI 1 (.list 1 .full []) [] e:=Own.full (R:=IsI) (xs:=[]) (ys:=[]) trivial e
   refine hn.xv hzz2 hcc2 (by rw[w1f];simp;omega) fun y3 n3 e3 ho3=> ?_
   rw[w2e] at ho3
   by_cases hp0:0≤p
   ·rw[if_pos hp0] at hst
    simp only[go_sem,G0,G2,show(p≥0)=True from eq_true hp0]
    refine ho3.xv (zh · 1 .full [.int .i64 p]) (XI _) (by rw[w1f];simp;omega) fun y4 n4 e4 ho4=> ?_
    have hin4:InT d.types (l.take (l.length-T.length)++[p]):=fun t ht=>by
     rcases w0a.1 ht with a|a
     ·exact hin t (w4b a)
     ·rw[w11.1 a];exact⟨hp0,hpt hp0⟩
    have hs4:=ho4.sl (by simp;omega)
    have hB:=fun c n lv=>(z4m d hT _ hy' _ _ hs4 hin4 (by simp;omega) ⟨stk++[cur],c,n,lv,fl⟩ hf').eq
    simp only[go_sem,G3,G0,G2,hB]
    refine ye (by simp only[AV.refs,refsAny,ho4.refs];rfl) ?_
    rw[hst]
    by_cases hle2:sumB d.types (l.take (l.length-T.length)++[p])≤4096
    ·rw[if_pos hle2,decide_eq_true (by omega)]
     exact⟨y4,rfl,fun l' h=>by injection h with h;subst h;exact hs4⟩
    ·rw[if_neg hle2,decide_eq_false (by omega)]
     exact⟨y4,rfl,fun l' h=>by cases h⟩
   ·rw[if_neg hp0,w1a] at hst
    have hin4:InT d.types (l.take (l.length-T.length)):=fun t ht=>hin t (w4b ht)
    have hs4:=ho3.sl (by rw[w1f];omega)
    have hB:=fun c n lv=>(z4m d hT _ hy' _ _ hs4 hin4 (by rw[w1f];omega) ⟨stk++[cur],c,n,lv,fl⟩ hf').eq
    simp only[go_sem,G3,G0,G2,show(p≥0)=False from eq_false hp0,hB]
    refine ye (by simp only[AV.refs,refsAny,ho3.refs];rfl) ?_
    rw[hst]
    by_cases hle2:sumB d.types (l.take (l.length-T.length))≤4096
    ·rw[if_pos hle2,decide_eq_true (by omega)]
     exact⟨y3,rfl,fun l' h=>by injection h with h;subst h;exact hs4⟩
    ·rw[if_neg hle2,decide_eq_false (by omega)]
     exact⟨y3,rfl,fun l' h=>by cases h⟩
  ·rw[if_neg fun a=>heq a.2] at hst
   have hdt:decide (l.drop (l.length-T.length)=T)=false:=decide_eq_false heq
   simp only[go_sem,G0,G2,hdt]
   refine ye rfl ⟨.nils,by rw[hst];rfl,fun l' h=>by rw[hst] at h;cases h⟩
 ·rw[if_neg fun a=>hle a.1] at hst
  simp only[go_sem,G0,G2,show(((l.length:Int)-T.length)<0)=True from eq_true (by omega)]
  refine ye rfl ⟨.nils,by rw[hst];rfl,fun l' h=>by rw[hst] at h;cases h⟩
def i00:DInstr:=⟨0,0,0,0⟩
def inA (l:List DInstr) (k:Nat):DInstr:=l.getD k i00
theorem z93 {l:List DInstr} {j:Nat} (h:j<l.length):l[j]=inA l j:=by simp[inA,w00,h]
theorem _root_.Go.Vs.IsSl.inA {l:List DInstr} {x:AV} (hx:IsSl IsInstr 4 l x) {j:Nat} (h:j<l.length):Vs.nth x j= .agg [.int .u8 (inA l j).op,.int .i64 (inA l j).a,.int .i64 (inA l j).b,.int .i64 (inA l j).c]:=by
 rw[←z93 h];exact hx.nth h
def Ok07 (l:List DInstr):Prop:=(∀j,j<l.length→((inA l j).op=22→(inA l j).a<l.length)∧((inA l j).op=23→(inA l j).b<l.length))∧inA l (l.length-1)=⟨34,-1,0,0⟩
def nxt1 (x:DInstr) (i:Nat):List Nat:=
 if x.op=34∨x.op=28∨x.op=30 then [] else if x.op=22 then [x.a.toNat] else if x.op=23 then(if x.b=i+1 then [i+1] else [min (i+1) x.b.toNat,max (i+1) x.b.toNat]) else [i+1]
def nxt (l:List DInstr) (i:Nat):List Nat:=nxt1 (inA l i) i
theorem TS (l:List DInstr) (i:Nat):(nxt l i).length≤2:=by unfold nxt nxt1;(repeat' split)<;>simp
def LI (lo lv:Nat) (cur:List Blk) (y:AV) (l:List Nat):Prop:=
 (IsSl IsN 1 l y∧y.toks=[])∨ ∃k st cs,y= .grow 1 lv k st l.length∧cur[k]? =some ⟨st,cs⟩∧l.length≤cs.length∧cs.take l.length=ints l∧lo≤k
theorem LI.more {lo lv:Nat} {cur:List Blk} {y:AV} {l:List Nat} (h:LI lo lv cur y l) (bs:List Blk):LI lo lv (cur++bs) y l:=by
 rcases h with h|⟨k,st,cs,h1,h2,h3⟩
 ·exact .inl h
 ·exact .inr ⟨k,st,cs,h1,by rw[w07 (w06.1 h2).1];exact h2,h3⟩
theorem LI.len {lo lv:Nat} {cur:List Blk} {y:AV} {l:List Nat} (h:LI lo lv cur y l):evLen y=some (.int .i64 l.length):=by
 rcases h with h|⟨k,st,cs,rfl,_⟩
 ·exact h.1.len
 ·rfl
theorem ZU {cs:List AV} {l:List Nat} (h:cs.take l.length=ints l) (hl:l.length≤cs.length) {j:Nat} (hj:j<l.length):takeV false 1 (cs.drop j)=some (.int .i64 (l[j]:Nat)):=by
 have hc:cs[j]? =some (.int .i64 (l[j]:Nat)):=by
  have:(cs.take l.length)[j]? =(ints l)[j]? :=by rw[h]
  rw[w2b,if_pos hj] at this
  rw[this]
  simp[ints,hj]
 refine li _ _ ?_
 rw[List.head?_drop,hc]
theorem isN1 (a:Nat) (tk:Tok):IsSl IsN 1 [a] (.list 1 tk [.int .i64 (a:Nat)]):= .mk ⟨rfl,trivial⟩ (by simp)
theorem isN2 (a b:Nat) (tk:Tok):IsSl IsN 1 [a,b] (.list 1 tk [.int .i64 (a:Nat),.int .i64 (b:Nat)]):= .mk ⟨rfl,rfl,trivial⟩ (by simp)
theorem z8Q {l:List DInstr} {i:Nat} (h:(inA l i).op=34∨(inA l i).op=28∨(inA l i).op=30):nxt l i=[]:=by unfold nxt nxt1;rw[if_pos h]
theorem z5X {l:List DInstr} {i:Nat} (h:(inA l i).op=22):nxt l i=[(inA l i).a.toNat]:=by unfold nxt nxt1;rw[if_neg (by omega),if_pos h]
theorem z8S {l:List DInstr} {i:Nat} (h:(inA l i).op=23) (h':(inA l i).b=i+1):nxt l i=[i+1]:=by unfold nxt nxt1;rw[if_neg (by omega),if_neg (by omega),if_pos h,if_pos h']
theorem z8R {l:List DInstr} {i:Nat} (h:(inA l i).op=23) (h':(inA l i).b≠i+1):nxt l i=[min (i+1) (inA l i).b.toNat,max (i+1) (inA l i).b.toNat]:=by unfold nxt nxt1;rw[if_neg (by omega),if_neg (by omega),if_pos h,if_neg h']
theorem z5Y {l:List DInstr} {i:Nat} (h: ¬((inA l i).op=34∨(inA l i).op=28∨(inA l i).op=30)) (h2:(inA l i).op≠22) (h3:(inA l i).op≠23):nxt l i=[i+1]:=by unfold nxt nxt1;rw[if_neg h,if_neg h2,if_neg h3]
def Jmp (x:DInstr):Prop:=(x.op=22→0≤x.a)∧(x.op=23→0≤x.b)
theorem z16 (l:List DInstr) (x:AV) (hx:IsSl IsInstr 4 l x) (i:Nat) (hi:i<l.length) (hj:Jmp (inA l i)) (m:Mem):Ok tab yC [x,.int .i64 i] m (fun r=>IsSl IsN 1 (nxt l i) r∧r.toks=[]):=by
 refine z5W YW ?_
 obtain⟨stk,cur,nx,live,fl⟩:=m
 have hmx:=hx.max
 have hsu:IntKind.i64.wrap ((i:Int)+1)=((i+1:Nat):Int):=zd hi hmx
 simp only[u4,List.map,go_sem,G3,G0,G2,hx.at _ hi,hx.inA hi]
 by_cases h:(inA l i).op=34∨(inA l i).op=28∨(inA l i).op=30
 ·rw[z8Q h]
  repeat' (((first|refine zo ?_ ?_|refine zl ?_ ?_|refine zm ?_ ?_|refine zj ?_ ?_|refine zk ?_ ?_)<;>intro hq)<;>simp only[go_sem,G0,G2,hq])
  all_goals first
   |(rw[z6 rfl rfl,z8];exact⟨⟨_,rfl⟩,.nil 1,rfl⟩)
   |(exfalso;simp only[beq_iff_eq,beq_eq_false_iff_ne,ne_eq] at*;omega)
 have e1:((inA l i).op==34)=false:=by rw[beq_eq_false_iff_ne];omega
 have e2:((inA l i).op==28)=false:=by rw[beq_eq_false_iff_ne];omega
 have e3:((inA l i).op==30)=false:=by rw[beq_eq_false_iff_ne];omega
 by_cases h2:(inA l i).op=22
 ·have e4:((inA l i).op==22)=true:=by simpa using h2
  simp only[go_sem,G0,G2,e1,e2,e3,e4]
  rw[z6 rfl rfl,z8,z5X h2]
  have ha:=hj.1 h2
  refine⟨⟨_,rfl⟩,?_,rfl⟩
  have:=isN1 (inA l i).a.toNat .full
  rwa [w41 ha] at this
 have e4:((inA l i).op==22)=false:=by simpa using h2
 by_cases h3:(inA l i).op=23
 ·have e5:((inA l i).op==23)=true:=by simpa using h3
  have hb:=hj.2 h3
  by_cases h4:(inA l i).b=i+1
  ·have e6:((inA l i).b==((i+1:Nat):Int))=true:=by rw[beq_iff_eq];omega
   simp only[go_sem,G0,G2,e1,e2,e3,e4,e5,hsu,e6]
   rw[z6 rfl rfl,z8,z8S h3 h4]
   exact⟨⟨_,rfl⟩,isN1 _ _,rfl⟩
  ·have e6:((inA l i).b==((i+1:Nat):Int))=false:=by rw[beq_eq_false_iff_ne];omega
   have e7:(if(inA l i).b<((i+1:Nat):Int) then(inA l i).b else((i+1:Nat):Int))=((min (i+1) (inA l i).b.toNat:Nat):Int):=by split<;>omega
   have e8:(if(inA l i).b>((i+1:Nat):Int) then(inA l i).b else((i+1:Nat):Int))=((max (i+1) (inA l i).b.toNat:Nat):Int):=by split<;>omega
   simp only[go_sem,G0,G2,e1,e2,e3,e4,e5,hsu,e6,e7,e8]
   rw[z6 rfl rfl,z8,z8R h3 h4]
   exact⟨⟨_,rfl⟩,isN2 _ _ _,rfl⟩
 have e5:((inA l i).op==23)=false:=by simpa using h3
 simp only[go_sem,G0,G2,e1,e2,e3,e4,e5,hsu]
 rw[z6 rfl rfl,z8,z5Y h h2 h3]
 exact⟨⟨_,rfl⟩,isN1 _ _,rfl⟩
def CallLI (f:Nat) (args:List AV) (l:List Nat) (w:AV→AV) (m:Mem):Prop:=
 ∃y bs k,CALL tab f args m=some (w y,{m with cur:=m.cur++bs,nx:=k})∧LI m.cur.length m.stk.length (m.cur++bs) y l
theorem XA {m0:Mem} {stk:List (List Blk)} {cur c':List Blk} {nx' fl':Nat} {own:List Nat} {live':List (List Nat)} {y:AV} (h1:y.refs (stk++[cur]).length=false) (h2:y.toks=[]):
  leave m0 ⟨stk++[cur],c',nx',own::live',fl'⟩ y=some (y,⟨stk,cur++[],nx',live',m0.floor⟩):=by
 rw[w1a];exact yO h1 h2
theorem U6 {m0:Mem} {stk:List (List Blk)} {cur c':List Blk} {nx' fl':Nat} {own:List Nat} {live':List (List Nat)} {k st s n:Nat} {w:AV→AV} (hw:w=id∨w=fun y=> .tup [y,.int .i64 0]):
  ∃bs:List Blk,leave m0 ⟨stk++[cur],c',nx',own::live',fl'⟩ (w (.grow s (stk++[cur]).length k st n))=some (w (.grow s stk.length (k+cur.length) st n),⟨stk,cur++bs,nx',live',m0.floor⟩)∧
   bs=c'.map fun b=>⟨b.st,shiftAll (stk++[cur]).length ((stk++[cur]).length-1) cur.length b.cs⟩:=by
 have e:own.filter (fun _=>false)=[]:=by simp
 refine⟨_,?_,rfl⟩
 rcases hw with rfl|rfl
 ·unfold leave
  simp only[id,w51,w45,Option.some_or,AV.refs,beq_self_eq_true,if_true,AV.toks,List.contains_nil,e,pushToks,w52,AV.shift]
  simp
 ·unfold leave
  simp only[w51,w45,Option.some_or,AV.refs,refsAny,beq_self_eq_true,Bool.true_or,if_true,AV.toks,toksAll,w1a,List.contains_nil,e,pushToks,w52,AV.shift,shiftAll]
  simp
theorem z41 {f:Nat} {fn:AFunc} (h:tab f=some fn) {args:List AV} {l:List Nat} {w:AV→AV} {m:Mem} (hx:X tab fn.body (mk fn.ntmps (.tup []) (numb 0 args)) (enter m) (.fin fn.res m fun v m'=> ∃y bs k,v=w y∧m'={m with cur:=m.cur++bs,nx:=k}∧LI m.cur.length m.stk.length (m.cur++bs) y l)) (hn:args.length≤fn.ntmps:=by exact Nat.le_of_ble_eq_true rfl):
  CallLI f args l w m:=by
 obtain⟨x,h1,y,bs,k,h2,h3,h4⟩:=zW h hx hn;exact⟨y,bs,k,by rw[h1,←h2,←h3],h4⟩
theorem z2v {stk:List (List Blk)} {cur c' bs:List Blk} {k st:Nat} {cs:List AV} {l:List Nat} (hb:bs=c'.map fun b=>(⟨b.st,shiftAll (stk++[cur]).length ((stk++[cur]).length-1) cur.length b.cs⟩:Blk)) (hk:c'[k]? =some ⟨st,cs⟩) (hl:l.length≤cs.length) (ht:cs.take l.length=ints l):
  LI cur.length stk.length (cur++bs) (.grow 1 stk.length (k+cur.length) st l.length) l:=by
 have hlen: ∀(a b c:Nat) (xs:List AV),(shiftAll a b c xs).length=xs.length:=fun a b c xs=>yI a b c xs
 have htk: ∀(a b c n:Nat) (xs:List AV),(shiftAll a b c xs).take n=shiftAll a b c (xs.take n):=by
  intro a b c n xs
  induction xs generalizing n with
  |nil=>simp[shiftAll]
  |cons x r ih=>cases n<;>simp[shiftAll,ih]
 refine .inr ⟨k+cur.length,st,shiftAll (stk++[cur]).length ((stk++[cur]).length-1) cur.length cs,rfl,?_,by rw[hlen];exact hl,by rw[htk,ht,Th],by omega⟩
 rw[w10 (by omega),show k+cur.length-cur.length=k by omega,hb,w19,hk]
 rfl
theorem z5m (l:List DInstr) (x:AV) (hx:IsSl IsInstr 4 l x) (i:Nat) (hi:i<l.length) (hj:Jmp (inA l i)) (m:Mem) (hf:m.floor≤m.stk.length+1):CallLI jF [x,.int .i64 i] (nxt l i) id m:=by
 refine z41 z2R ?_
 obtain⟨stk,cur,nx,live,fl⟩:=m
 dsimp only at hf
 have hmx:=hx.max
 have hsu:IntKind.i64.wrap ((i:Int)+1)=((i+1:Nat):Int):=zd hi hmx
 have hf':fl≤(stk++[cur]).length:=by simp;omega
 simp only[Y4,List.map,go_sem,G3,G0,G2,hx.at _ hi,hx.inA hi]
 by_cases h:(inA l i).op=34∨(inA l i).op=28∨(inA l i).op=30
 ·rw[z8Q h]
  repeat' (((first|refine zo ?_ ?_|refine zl ?_ ?_|refine zm ?_ ?_|refine zj ?_ ?_|refine zk ?_ ?_)<;>intro hq)<;>simp only[go_sem,G0,G2,hq])
  all_goals first
   |(rw[XA rfl rfl,z8];exact⟨_,[],_,rfl,rfl,.inl ⟨.nil 1,rfl⟩⟩)
   |(exfalso;simp only[beq_iff_eq,beq_eq_false_iff_ne,ne_eq] at*;omega)
 have e1:((inA l i).op==34)=false:=by rw[beq_eq_false_iff_ne];omega
 have e2:((inA l i).op==28)=false:=by rw[beq_eq_false_iff_ne];omega
 have e3:((inA l i).op==30)=false:=by rw[beq_eq_false_iff_ne];omega
 by_cases h2:(inA l i).op=22
 ·have e4:((inA l i).op==22)=true:=by simpa using h2
  simp only[go_sem,G0,G2,e1,e2,e3,e4]
  rw[XA rfl rfl,z8,z5X h2]
  have ha:=hj.1 h2
  refine⟨_,[],_,rfl,rfl,.inl ⟨?_,rfl⟩⟩
  have:=isN1 (inA l i).a.toNat .full
  rwa [w41 ha] at this
 have e4:((inA l i).op==22)=false:=by simpa using h2
 by_cases h3:(inA l i).op=23
 ·have e5:((inA l i).op==23)=true:=by simpa using h3
  have hb:=hj.2 h3
  simp only[go_sem,G3,G0,G2,e1,e2,e3,e4,e5,hsu,evLitB,w30,List.flatMap_nil]
  have hS:=fun nz=>(zei ((i+1:Nat):Int) (inA l i).b (stk++[cur]) [⟨nx,[.int .u8 (inA l i).op,.int .i64 (inA l i).a,.int .i64 (inA l i).b,.int .i64 (inA l i).c]⟩,⟨nx+1,[.int .i64 ((i+1:Nat):Int),.int .i64 (inA l i).b]⟩] nz fl ([]::live) (stk++[cur]).length 1 (nx+1) (w0b _) hf' (by simp[Mem.blk,Mem.row])).eq
  simp only[go_sem,G0,G2,hS,z0T]
  by_cases h4:(inA l i).b=i+1
  ·have e6:min ((i+1:Nat):Int) (inA l i).b=((i+1:Nat):Int):=by omega
   have e7:max ((i+1:Nat):Int) (inA l i).b=((i+1:Nat):Int):=by omega
   have hC:=fun nz=>(z4l ((i+1:Nat):Int) (stk++[cur]) [⟨nx,[.int .u8 (inA l i).op,.int .i64 (inA l i).a,.int .i64 (inA l i).b,.int .i64 (inA l i).c]⟩,⟨nx+1,[.int .i64 ((i+1:Nat):Int),.int .i64 ((i+1:Nat):Int)]⟩] nz fl ([]::live) (stk++[cur]).length 1 (nx+1) (w0b _) hf' (by simp[Mem.blk,Mem.row])).eq
   simp only[go_sem,G0,G2,e6,e7,hC,z0T]
   obtain⟨bs,hbs,hbe⟩:=U6 (m0:=⟨stk,cur,nx,live,fl⟩) (stk:=stk) (cur:=cur) (c':=[⟨nx,[.int .u8 (inA l i).op,.int .i64 (inA l i).a,.int .i64 (inA l i).b,.int .i64 (inA l i).c]⟩,⟨nx+1,[.int .i64 ((i+1:Nat):Int),.int .i64 0]⟩]) (nx':=setsNx tab zS [.grow 1 (stk++[cur]).length 1 (nx+1) 2] ⟨stk++[cur],[⟨nx,[.int .u8 (inA l i).op,.int .i64 (inA l i).a,.int .i64 (inA l i).b,.int .i64 (inA l i).c]⟩,⟨nx+1,[.int .i64 ((i+1:Nat):Int),.int .i64 ((i+1:Nat):Int)]⟩],setsNx tab xR [.grow 1 (stk++[cur]).length 1 (nx+1) 2] ⟨stk++[cur],[⟨nx,[.int .u8 (inA l i).op,.int .i64 (inA l i).a,.int .i64 (inA l i).b,.int .i64 (inA l i).c]⟩,⟨nx+1,[.int .i64 ((i+1:Nat):Int),.int .i64 (inA l i).b]⟩],nx+1+1,[]::live,fl⟩,[]::live,fl⟩) (own:=[]) (live':=live) (fl':=fl) (k:=1) (st:=nx+1) (s:=1) (n:=1) (w:=id) (.inl rfl)
   simp only[id] at hbs
   rw[hbs,z8,z8S h3 h4]
   exact⟨_,bs,_,rfl,rfl,z2v (l:=[i+1]) hbe rfl (by simp) rfl⟩
  ·have hC:=fun nz=>(z4k (min ((i+1:Nat):Int) (inA l i).b) (max ((i+1:Nat):Int) (inA l i).b) (by omega) (stk++[cur]) [⟨nx,[.int .u8 (inA l i).op,.int .i64 (inA l i).a,.int .i64 (inA l i).b,.int .i64 (inA l i).c]⟩,⟨nx+1,[.int .i64 (min ((i+1:Nat):Int) (inA l i).b),.int .i64 (max ((i+1:Nat):Int) (inA l i).b)]⟩] nz fl ([]::live) (stk++[cur]).length 1 (nx+1) (w0b _) (by simp[Mem.blk,Mem.row])).eq
   simp only[go_sem,G0,G2,hC]
   generalize callNx tab zS _ _=kk
   obtain⟨bs,hbs,hbe⟩:=U6 (m0:=⟨stk,cur,nx,live,fl⟩) (stk:=stk) (cur:=cur) (c':=[⟨nx,[.int .u8 (inA l i).op,.int .i64 (inA l i).a,.int .i64 (inA l i).b,.int .i64 (inA l i).c]⟩,⟨nx+1,[.int .i64 (min ((i+1:Nat):Int) (inA l i).b),.int .i64 (max ((i+1:Nat):Int) (inA l i).b)]⟩]) (nx':=kk) (own:=[]) (live':=live) (fl':=fl) (k:=1) (st:=nx+1) (s:=1) (n:=2) (w:=id) (.inl rfl)
   simp only[id] at hbs
   rw[hbs,z8,z8R h3 h4]
   refine⟨_,bs,_,rfl,rfl,z2v (l:=[min (i+1) (inA l i).b.toNat,max (i+1) (inA l i).b.toNat]) hbe rfl (by simp) ?_⟩
   simp only[ints,w35,List.map_nil,w29,w34,w22,w24]
   rw[show(min ((i+1:Nat):Int) (inA l i).b)=((min (i+1) (inA l i).b.toNat:Nat):Int) by omega,show(max ((i+1:Nat):Int) (inA l i).b)=((max (i+1) (inA l i).b.toNat:Nat):Int) by omega]
 have e5:((inA l i).op==23)=false:=by simpa using h3
 simp only[go_sem,G0,G2,e1,e2,e3,e4,e5,hsu]
 rw[XA rfl rfl,z8,z5Y h h2 h3]
 exact⟨_,[],_,rfl,rfl,.inl ⟨isN1 _ _,rfl⟩⟩
end Go.Proofs.W
end
section
namespace Go.Vs
section
variable (nx : Nat → List Nat)
inductive Rch:Nat→Prop
 |zero:Rch 0
 |step {i k:Nat}:Rch i→k∈nx i→Rch k
structure RInv (n:Nat) (s:List Bool):Prop where
 len:s.length=n
 zero:s.getD 0 false=true
 sub: ∀i,s.getD i false=true→Rch nx i
theorem RInv.set {n k i:Nat} {s:List Bool} (h:RInv nx n s) (hi:s.getD i false=true) (hk:k∈nx i):RInv nx n (s.set k true):=by
 refine⟨by simp[h.len],?_,fun j hj=> ?_⟩
 ·simp only[w00,w36]
  have:=h.zero
  simp only[w00] at this
  split
  ·rename_i e;subst e
   split
   ·rfl
   ·rename_i hl;rw[w17 (by omega)] at this;cases this
  ·exact this
 ·by_cases e:k=j
  ·subst e;exact .step (h.sub i hi) hk
  ·refine h.sub j ?_
   simp only[w00,w36,if_neg e] at hj
   simpa only[w00] using hj
theorem RInv.all {n:Nat} {s:List Bool} (h:RInv nx n s) (hc: ∀i,s.getD i false=true→ ∀k∈nx i,s.getD k false=true) (i:Nat):s.getD i false=true↔Rch nx i:=by
 refine⟨h.sub i,fun hr=> ?_⟩
 induction hr with
 |zero=>exact h.zero
 |step _ hk ih=>exact hc _ ih _ hk
def unm (s:List Bool):Nat:=(s.filter fun b=> !b).length
theorem TG {s:List Bool} {k:Nat} (hk:k<s.length) (h:s.getD k false=false):unm (s.set k true)+1=unm s:=by
 induction s generalizing k with
 |nil=>simp at hk
 |cons b s ih=>
  cases k with
  |zero=>
   have:b=false:=by simpa using h
   subst this
   simp[unm]
  |succ k=>
   have:=ih (k:=k) (by simpa using hk) (by simpa using h)
   unfold unm at this⊢
   cases b<;>simp at this⊢ <;>omega
theorem zL {s:List Bool} {k:Nat} (hk:k<s.length):(s.set k true).getD k false=true:=by
 simp[w00,w36,hk]
theorem zB {s:List Bool} {k j:Nat} (h:s.getD j false=true):(s.set k true).getD j false=true:=by
 simp only[w00,w36] at h⊢
 split
 ·rename_i e;subst e
  split
  ·rfl
  ·rename_i hl;rw[w17 (by omega)] at h;cases h
 ·exact h
theorem getD_set_ne {α:Type} {s:List α} {k j:Nat} {v d:α} (h:k≠j):(s.set k v).getD j d=s.getD j d:=by
 simp only[w00,w36,if_neg h]
theorem getD_set_eq {α:Type} {s:List α} {k:Nat} {v d:α} (h:k<s.length):(s.set k v).getD k d=v:=by
 simp[w00,w36,h]
variable (st : Nat → List Int → Option (List Int))
inductive Lab:Nat→List Int→Prop
 |zero:Lab 0 []
 |step {i k:Nat} {l l':List Int}:Lab i l→st i l=some l'→k∈nx i→Lab k l'
def GoodS (n:Nat):Prop:=(∀i l,Lab nx st i l→(st i l).isSome=true)∧(∀i l l',Lab nx st i l→Lab nx st i l'→l=l')
def LastS (n:Nat):Prop:= ∀l,Lab nx st (n-1) l→l=[]
noncomputable def labOf (i:Nat):List Int:=open Classical in if h: ∃l,Lab nx st i l then h.choose else []
structure SInv (n:Nat) (kn:List Bool) (out:List (List Int)):Prop where
 len1:kn.length=n
 len2:out.length=n
 zero:kn.getD 0 false=true∧out.getD 0 []=[]
 lab: ∀i,kn.getD i false=true→Lab nx st i (out.getD i [])
 un: ∀i,kn.getD i false=false→out.getD i []=[]
theorem SInv.set {n k i:Nat} {kn:List Bool} {out:List (List Int)} {l:List Int} (h:SInv nx st n kn out) (hkn:k<n) (hu:kn.getD k false=false) (hi:kn.getD i false=true) (hs:st i (out.getD i [])=some l) (hk:k∈nx i):SInv nx st n (kn.set k true) (out.set k l):=by
 have h0:k≠0:=fun e=>by subst e;rw[h.zero.1] at hu;cases hu
 refine⟨by simp[h.len1],by simp[h.len2],⟨zB h.zero.1,by rw[getD_set_ne h0];exact h.zero.2⟩,fun j hj=> ?_,fun j hj=> ?_⟩
 ·by_cases e:k=j
  ·subst e
   rw[getD_set_eq (by rw[h.len2];exact hkn)]
   exact .step (h.lab i hi) hs hk
  ·rw[getD_set_ne e] at hj⊢;exact h.lab j hj
 ·by_cases e:k=j
  ·subst e;rw[getD_set_eq (by rw[h.len1];exact hkn)] at hj;cases hj
  ·rw[getD_set_ne e] at hj⊢;exact h.un j hj
theorem SInv.all {n:Nat} {kn:List Bool} {out:List (List Int)} (h:SInv nx st n kn out) (hc: ∀i,kn.getD i false=true→ ∃l,st i (out.getD i [])=some l∧ ∀k∈nx i,kn.getD k false=true∧out.getD k []=l):
  GoodS nx st n∧ ∀i,out.getD i []=labOf nx st i:=by
 have key: ∀i l,Lab nx st i l→kn.getD i false=true∧l=out.getD i []:=by
  intro i l hl
  induction hl with
  |zero=>exact⟨h.zero.1,h.zero.2.symm⟩
  |step _ hs hk ih=>
   obtain⟨h1,rfl⟩:=ih
   obtain⟨l,h2,h3⟩:=hc _ h1
   rw[hs] at h2;injection h2 with h2;subst h2
   exact⟨(h3 _ hk).1,(h3 _ hk).2.symm⟩
 refine⟨⟨fun i l hl=> ?_,fun i l l' h1 h2=> ?_⟩,fun i=> ?_⟩
 ·obtain⟨h1,rfl⟩:=key i l hl
  obtain⟨l,h2,_⟩:=hc _ h1
  rw[h2];rfl
 ·rw[(key i l h1).2,(key i l' h2).2]
 ·unfold labOf
  split
  ·rename_i he
   exact((key i _ he.choose_spec).2).symm
  ·rename_i he
   cases hk:kn.getD i false with
   |true=>exact absurd ⟨_,h.lab i hk⟩ he
   |false=>exact h.un i hk
theorem T4 {n i:Nat} {kn:List Bool} {out:List (List Int)} (h:SInv nx st n kn out) (hi:kn.getD i false=true) (hs:st i (out.getD i [])=none): ¬GoodS nx st n:=fun hg=>by
 have:=hg.1 i _ (h.lab i hi);rw[hs] at this;cases this
theorem TT {n i k:Nat} {kn:List Bool} {out:List (List Int)} {l:List Int} (h:SInv nx st n kn out) (hi:kn.getD i false=true) (hs:st i (out.getD i [])=some l) (hk:k∈nx i) (hkn:kn.getD k false=true) (hne:out.getD k []≠l): ¬GoodS nx st n:=fun hg=>
 hne (hg.2 k _ _ (h.lab k hkn) (.step (h.lab i hi) hs hk))
theorem z6m {n:Nat} (hg:GoodS nx st n):LastS nx st n↔labOf nx st (n-1)=[]:=by
 unfold LastS labOf
 split
 ·rename_i he
  exact⟨fun h=>h _ he.choose_spec,fun h l hl=>by rw[←h];exact hg.2 _ _ _ hl he.choose_spec⟩
 ·rename_i he
  exact⟨fun _=>rfl,fun _ l hl=>absurd ⟨l,hl⟩ he⟩
variable (W : Nat → Nat) (p0 : Nat)
def Sub (a b:Nat):Prop:= ∀s,a.testBit s=true→b.testBit s=true
theorem Sub.refl (a:Nat):Sub a a:=fun _ h=>h
theorem Sub.trans {a b c:Nat} (h:Sub a b) (k:Sub b c):Sub a c:=fun s x=>k s (h s x)
theorem Sub.antisymm {a b:Nat} (h:Sub a b) (k:Sub b a):a=b:=Nat.eq_of_testBit_eq fun s=>by
 rw[w40];exact⟨h s,k s⟩
theorem Sub.and {a b c:Nat} (h:Sub a b) (k:Sub a c):Sub a (b&&&c):=fun s x=>by rw[Nat.testBit_and,h s x,k s x];rfl
theorem Sub.or {a b c d:Nat} (h:Sub a b) (k:Sub c d):Sub (a|||c) (b|||d):=fun s x=>by
 rw[Nat.testBit_or,w31] at x⊢;exact x.imp (h s) (k s)
theorem UK (a b:Nat):Sub (a&&&b) a:=fun s x=>by rw[Nat.testBit_and,w0e] at x;exact x.1
theorem z00 (a b:Nat):Sub (a&&&b) b:=fun s x=>by rw[Nat.testBit_and,w0e] at x;exact x.2
theorem zbb {a b c:Nat} (h:Sub a c) (k:Sub b c):Sub (a|||b) c:=fun s x=>by
 rw[Nat.testBit_or,w31] at x;exact x.elim (h s) (k s)
theorem Sub.le {a b:Nat} (h:Sub a b):a≤b:=by
 have:a&&&b=a:=Sub.antisymm (UK a b) (Sub.and (.refl a) h)
 rw[←this];exact Nat.and_le_right
def Sol (M:Nat→Nat):Prop:=Sub (M 0) p0∧ ∀i,Rch nx i→ ∀k∈nx i,Sub (M k) (M i|||W i)
def Great (out:Nat→Nat):Prop:=(∀i,¬Rch nx i→out i=0)∧Sol nx W p0 out∧ ∀M,Sol nx W p0 M→ ∀i,Rch nx i→Sub (M i) (out i)
theorem Great.unique {a b:Nat→Nat} (h:Great nx W p0 a) (k:Great nx W p0 b) (i:Nat):a i=b i:=by
 by_cases hr:Rch nx i
 ·exact Sub.antisymm (k.2.2 _ h.2.1 i hr) (h.2.2 _ k.2.1 i hr)
 ·rw[h.1 i hr,k.1 i hr]
noncomputable def mskOf (i:Nat):Nat:=open Classical in if h: ∃o,Great nx W p0 o then h.choose i else 0
theorem Great.is {o:Nat→Nat} (h:Great nx W p0 o) (i:Nat):o i=mskOf nx W p0 i:=by
 unfold mskOf
 rw[dif_pos ⟨o,h⟩]
 exact h.unique nx W p0 (Exists.choose_spec (⟨o,h⟩: ∃o,Great nx W p0 o)) i
theorem Great.le {n a:Nat} {o:Nat→Nat} (h:Great nx W p0 o) (hp:Sub p0 a) (hw: ∀i,Sub (W i) a) (i:Nat):Sub (o i) a:=by
 by_cases hr:Rch nx i
 ·induction hr with
  |zero=>exact h.2.1.1.trans hp
  |step hr hk ih=>exact(h.2.1.2 _ hr _ hk).trans (zbb ih (hw _))
 ·rw[h.1 i hr];intro s hs;simp at hs
end
section
variable {σ : Type} (upd : σ → Nat → Option Nat → σ × Bool)
def procK (i:Nat) (p:σ×List Nat) (k:Nat):σ×List Nat:=((upd p.1 k (some i)).1,if(upd p.1 k (some i)).2 then p.2++[k] else p.2)
def proc (i:Nat) (ks:List Nat) (p:σ×List Nat):σ×List Nat:=ks.foldl (procK upd i) p
theorem z9z {i j:Nat} {ks:List Nat} (h:j<ks.length) (p:σ×List Nat):proc upd i (ks.take (j+1)) p=procK upd i (proc upd i (ks.take j) p) ks[j]:=by
 unfold proc;rw[w14 h,List.foldl_append];rfl
theorem z9A {i k:Nat} {p:σ×List Nat}:(procK upd i p k).2.length≤p.2.length+1:=by
 unfold procK;simp only;split<;>simp
theorem z5R {i:Nat}: ∀(ks:List Nat) (p:σ×List Nat),(proc upd i ks p).2.length≤p.2.length+ks.length
 | [],_=>by simp[proc]
 |k::ks,p=>by
  have:=z5R (i:=i) ks (procK upd i p k)
  have h1:=z9A upd (i:=i) (k:=k) (p:=p)
  unfold proc at this⊢
  rw[List.foldl_cons,w29];omega
end
theorem z5Q {σ:Type} (upd:σ→Nat→Option Nat→σ×Bool) (i:Nat) (p:σ×List Nat):proc upd i [] p=p:=rfl
theorem z3x {σ:Type} (upd:σ→Nat→Option Nat→σ×Bool) (i k:Nat) (ks:List Nat) (p:σ×List Nat):proc upd i (k::ks) p=proc upd i ks (procK upd i p k):=rfl
section
variable (nx : Nat → List Nat) (n : Nat)
def updR (s:List Bool) (k:Nat) (_:Option Nat):List Bool×Bool:=(s.set k true,!(s.getD k false))
structure RJ (s:List Bool) (op:List Nat):Prop where
 r:RInv nx n s
 cl: ∀j,s.getD j false=true→j∈op∨ ∀k∈nx j,s.getD k false=true
 o: ∀j∈op,j<n∧s.getD j false=true
 b:op.length+unm s≤n
structure RK (i:Nat) (done:List Nat) (M:Nat) (s:List Bool) (op:List Nat):Prop where
 r:RInv nx n s
 cl: ∀j,s.getD j false=true→j=i∨j∈op∨ ∀k∈nx j,s.getD k false=true
 o: ∀j∈op,j<n∧s.getD j false=true
 b:op.length+unm s+1≤n
 i:s.getD i false=true
 d: ∀k∈done,s.getD k false=true
 m:2*unm s+op.length+1≤M
theorem z5J {s:List Bool} {k:Nat} (h:s.getD k false=true):s.set k true=s:=by
 apply w2c
 intro j
 rw[w36]
 by_cases e:k=j
 ·subst e
  rw[w00] at h
  cases hq:s[k]? with
  |none=>rw[hq] at h;cases h
  |some b=>
   rw[hq] at h
   have:b=true:=h
   subst this
   have:=(w06.1 hq).1
   simp[this]
 ·simp[e]
theorem RK.k {i k M:Nat} {done:List Nat} {s:List Bool} {op:List Nat} (h:RK nx n i done M s op) (hk:k∈nx i) (hkn:k<n):RK nx n i (done++[k]) M (procK updR i (s,op) k).1 (procK updR i (s,op) k).2:=by
 unfold procK updR
 dsimp only
 by_cases hs:s.getD k false=true
 ·rw[z5J hs,hs]
  exact⟨h.r,h.cl,h.o,h.b,h.i,fun k' hk'=>by rcases w0a.1 hk' with q|q;·exact h.d k' q
                                            ·rw[w11.1 q];exact hs,h.m⟩
 ·have hs':s.getD k false=false:=by simpa using hs
  rw[hs']
  have hkl:k<s.length:=by rw[h.r.len];exact hkn
  have hu:=TG hkl hs'
  refine⟨h.r.set nx h.i hk,fun j hj=> ?_,fun j hj=> ?_,?_,zB h.i,fun k' hk'=> ?_,?_⟩
  ·by_cases e:k=j
   ·subst e;exact .inr (.inl (by simp))
   ·rw[getD_set_ne e] at hj
    rcases h.cl j hj with q|q|q
    ·exact .inl q
    ·exact .inr (.inl (by simp[q]))
    ·exact .inr (.inr fun k' hk'=>zB (q k' hk'))
  ·simp only[Bool.not_false,if_true,w0a,w11] at hj
   rcases hj with q|rfl
   ·exact⟨(h.o j q).1,zB (h.o j q).2⟩
   ·exact⟨hkn,zL hkl⟩
  ·simp only[Bool.not_false,if_true,w04,w1d]
   have:=h.b;omega
  ·rcases w0a.1 hk' with q|q
   ·exact zB (h.d k' q)
   ·rw[w11.1 q];exact zL hkl
  ·simp only[Bool.not_false,if_true,w04,w1d]
   have:=h.m;omega
theorem RK.all {i M:Nat}: ∀{ks done:List Nat} {s:List Bool} {op:List Nat},RK nx n i done M s op→(∀k∈ks,k∈nx i∧k<n)→RK nx n i (done++ks) M (proc updR i ks (s,op)).1 (proc updR i ks (s,op)).2
 | [],done,s,op,h,_=>by rw[w1a,z5Q];exact h
 |k::ks,done,s,op,h,hk=>by
  have h1:=h.k nx n (hk k w1c).1 (hk k w1c).2
  have:=RK.all h1 (fun k' hk'=>hk k' (w18 _ hk'))
  rw[w0f,List.singleton_append] at this
  rw[z3x];exact this
theorem RJ.pop {s:List Bool} {op:List Nat} {i:Nat} (h:RJ nx n s (op++[i])):RK nx n i [] (2*unm s+(op++[i]).length) s op:=by
 refine⟨h.r,fun j hj=> ?_,fun j hj=>h.o j (w3c _ hj),?_,(h.o i (by simp)).2,fun k hk=>(by cases hk),?_⟩
 ·rcases h.cl j hj with q|q
  ·rcases w0a.1 q with q|q
   ·exact .inr (.inl q)
   ·exact .inl (w11.1 q)
  ·exact .inr (.inr q)
 ·have:=h.b;simp at this;omega
 ·simp;omega
theorem RJ.next (hnx: ∀i,i<n→ ∀k∈nx i,k<n) {s:List Bool} {op:List Nat} {i:Nat} (h:RJ nx n s (op++[i])):
  RJ nx n (proc updR i (nx i) (s,op)).1 (proc updR i (nx i) (s,op)).2∧2*unm (proc updR i (nx i) (s,op)).1+(proc updR i (nx i) (s,op)).2.length<2*unm s+(op++[i]).length:=by
 have hi:=(h.o i (by simp)).1
 have:=RK.all nx n (h.pop nx n) (ks:=nx i) (fun k hk=>⟨hk,hnx i hi k hk⟩)
 rw[w2e] at this
 refine⟨⟨this.r,fun j hj=> ?_,this.o,by have:=this.b;omega⟩,by have:=this.m;omega⟩
 rcases this.cl j hj with q|q|q
 ·subst q;exact .inr this.d
 ·exact .inl q
 ·exact .inr q
theorem RJ.done {s:List Bool} (h:RJ nx n s []) (i:Nat):s.getD i false=true↔Rch nx i:=
 h.r.all nx (fun j hj=>(h.cl j hj).elim (fun q=>by cases q) id) i
theorem RJ.start (hn:0<n):RJ nx n ((List.replicate n false).set 0 true) [0]:=by
 have hl:0<(List.replicate n false).length:=by simpa using hn
 have hg: ∀j,(List.replicate n false).getD j false=false:=fun j=>by
  simp only[w00,w3d];split<;>rfl
 have hu:unm (List.replicate n false)=n:=by unfold unm;rw[List.filter_eq_self.2 (by simp)];simp
 have h1:=TG hl (hg 0)
 refine⟨⟨by simp,zL hl,fun j hj=> ?_⟩,fun j hj=> ?_,fun j hj=> ?_,?_⟩
 ·by_cases e:0=j
  ·subst e;exact .zero
  ·rw[getD_set_ne e,hg] at hj;cases hj
 ·by_cases e:0=j
  ·subst e;exact .inl (by simp)
  ·rw[getD_set_ne e,hg] at hj;cases hj
 ·rw[w11.1 hj];exact⟨hn,zL hl⟩
 ·simp only[w1d];omega
def ledK (p:List Bool×Bool) (k:Nat):List Bool×Bool:=if p.1.getD k false then p else(p.1.set k true,true)
def ledI (p:List Bool×Bool) (i:Nat):List Bool×Bool:=if p.1.getD i false then(nx i).foldl ledK p else p
def ledR (s:List Bool):Nat→List Bool×Bool
 |0=>(s,false)
 |i+1=>ledI nx (ledR s i) i
structure LK (s:List Bool) (j:Nat) (p:List Bool×Bool):Prop where
 r:RInv nx n p.1
 le:unm p.1≤unm s
 eq:p.2=false→p.1=s∧ ∀i,i<j→s.getD i false=true→ ∀k∈nx i,s.getD k false=true
 lt:p.2=true→unm p.1<unm s
theorem QM {s:List Bool} {j i:Nat}: ∀{ks done:List Nat} {p:List Bool×Bool},LK nx n s j p→p.1.getD i false=true→(∀k∈ks,k∈nx i∧k<n)→(p.2=false→ ∀k∈done,s.getD k false=true)→
  LK nx n s j (ks.foldl ledK p)∧(ks.foldl ledK p).1.getD i false=true∧((ks.foldl ledK p).2=false→ ∀k∈done++ks,s.getD k false=true)
 | [],done,p,h,hi,_,hd=>⟨h,hi,by rw[w1a];exact hd⟩
 |k::ks,done,p,h,hi,hk,hd=>by
  have hkk:=hk k w1c
  have h1:LK nx n s j (ledK p k)∧(ledK p k).1.getD i false=true∧((ledK p k).2=false→ ∀k'∈done++[k],s.getD k' false=true):=by
   unfold ledK
   split
   ·rename_i hs
    refine⟨h,hi,fun e k' hk'=> ?_⟩
    rcases w0a.1 hk' with q|q
    ·exact hd e k' q
    ·rw[w11.1 q,←(h.eq e).1];exact hs
   ·rename_i hs
    have hs':p.1.getD k false=false:=by simpa using hs
    have hkl:k<p.1.length:=by rw[h.r.len];exact hkk.2
    have hu:=TG hkl hs'
    have hle:=h.le
    exact⟨⟨h.r.set nx hi hkk.1,by simp only;omega,fun e=>(by cases e),fun _=>(by simp only;omega)⟩,zB hi,fun e=>(by cases e)⟩
  have:=QM h1.1 h1.2.1 (fun k' hk'=>hk k' (w18 _ hk')) h1.2.2
  rw[w0f,List.singleton_append] at this
  exact this
theorem Q2 (hnx: ∀i,i<n→ ∀k∈nx i,k<n) {s:List Bool} (h:RInv nx n s): ∀j,j≤n→LK nx n s j (ledR nx s j)
 |0,_=>⟨h,w0b _,fun _=>⟨rfl,fun i hi=>absurd hi (w38 _)⟩,fun e=>by cases e⟩
 |j+1,hj=>by
  have ih:=Q2 hnx h j (by omega)
  unfold ledR ledI
  split
  ·rename_i hs
   obtain⟨q1,q2,q3⟩:=QM nx n ih hs (ks:=nx j) (done:=[]) (fun k hk=>⟨hk,hnx j (by omega) k hk⟩) (fun _ k hk=>by cases hk)
   refine⟨q1.r,q1.le,fun e=>⟨(q1.eq e).1,fun i hi=> ?_⟩,q1.lt⟩
   by_cases hij:i=j
   ·subst hij;intro _;exact q3 e
   ·exact(q1.eq e).2 i (by omega)
  ·rename_i hs
   refine⟨ih.r,ih.le,fun e=>⟨(ih.eq e).1,fun i hi hsi=> ?_⟩,ih.lt⟩
   by_cases hij:i=j
   ·subst hij;rw[←(ih.eq e).1] at hsi;exact absurd hsi hs
   ·exact(ih.eq e).2 i (by omega) hsi
theorem z9L (hnx: ∀i,i<n→ ∀k∈nx i,k<n) {s:List Bool} (h:RInv nx n s) (e:(ledR nx s n).2=false) (i:Nat):s.getD i false=true↔Rch nx i:=by
 have:=(Q2 nx n hnx h n (w0b _)).eq e
 refine h.all nx (fun j hj=>this.2 j ?_ hj) i
 rw[w00] at hj
 rcases w3e j s.length with q|q
 ·rw[←h.len];exact q
 ·rw[w17 q] at hj;cases hj
theorem RInv.start (hn:0<n):RInv nx n ((List.replicate n false).set 0 true):=(RJ.start nx n hn).r
end
end Go.Vs
end
section
namespace Go.Proofs.W
open Go.Vs
set_option linter.unusedSimpArgs false
set_option maxRecDepth 100000
theorem XF (s l k st n:Nat):evLen (.grow s l k st n)=some (.int .i64 n):=rfl
theorem Qd (s s' l k st n:Nat) (i:AV):evIaddr s (.grow s' l k st n) i=(idx i n).map fun j=> .ptr l k st (j*s):=rfl
theorem Qc (s s' l k st n:Nat) (hi:AV):evSlice s (.grow s' l k st n) none (some hi) none=(bound (some hi) n n).map fun h=> .grow s' l k st h:=by
 simp only[evSlice]
 cases bound (some hi) n n<;>simp[bound]
theorem zc6 {S':List (List Blk)} {st nx fl n:Nat} {cs:List AV} {rest:List Blk} {live:List (List Nat)} {v:AV} (hv:v.cells=[v]) (hn:n≤cs.length) (hfl:fl≤S'.length) (hb:(n+1)*8≤140737488355328):
  evApp ⟨S',⟨st,cs⟩::rest,nx,live,fl⟩ 1 8 (.grow 1 S'.length 0 st n) (.list 1 .full [v])=some (.grow 1 S'.length 0 nx (n+1),⟨S',⟨nx,cs.take n++[v]⟩::rest,nx+1,live,fl⟩):=by
 unfold evApp
 rw[zh]
 have hblk:Mem.blk ⟨S',⟨st,cs⟩::rest,nx,live,fl⟩ S'.length 0 st=some cs:=by simp[Mem.blk,Mem.row]
 simp only[hblk]
 rw[if_pos (by simp[hn,hfl];omega)]
 simp[Mem.put,hv]
def frm:Option Nat→Int
 |none=> -1
 |some i=>i
def Meets {σ:Type} (S:List (List Blk)) (C:σ→List Blk) (f:AV) (fl:Nat) (P:σ→Nat→Option Nat→Prop) (upd:σ→Nat→Option Nat→σ×Bool):Prop:=
 ∃g first caps,f= .fn (.func g) first caps∧ ∀s k fr c nz lv,P s k fr→ ∃nz',CALL tab g (first++[.int .i64 (k:Nat),.int .i64 (frm fr)]++caps) ⟨S++[C s],c,nz,lv,fl⟩=some (.bool (upd s k fr).2,⟨S++[C (upd s k fr).1],c,nz',lv,fl⟩)
theorem zcl {lo:Nat} {S':List (List Blk)} {cur:List Blk} {y:AV} {l:List Nat} (h:LI lo S'.length cur y l) {j:Nat} (hj:j<l.length) {nx fl:Nat} {live:List (List Nat)}:
  ∃a,evIaddr 1 y (.int .i64 (j:Nat))=some a∧(Mem.at ⟨S',cur,nx,live,fl⟩ a).bind (fun cs=>(takeV false 1 cs))=some (.int .i64 (l[j]:Nat)):=by
 rcases h with⟨h,_⟩|⟨k,st,cs,rfl,h2,h3,h4,_⟩
 ·have e1:nth y j= .int .i64 (l[j]:Nat):=h.nth hj
  exact⟨_,h.at .i64 hj,by rw[e1];rfl⟩
 ·refine⟨.ptr S'.length k st (j*1),?_,?_⟩
  ·simp only[evIaddr,zw .i64 j l.length hj,w0d]
  ·simp only[Mem.at,Mem.blk,Mem.row,beq_self_eq_true,if_true,h2,w0d,w26,w15]
   exact ZU h4 h3 hj
theorem zdR {lv lo:Nat} {a b:Blk} {r:List Blk} {y:AV} {l:List Nat} (h:LI (lo+1) lv (a::r) y l):LI (lo+1) lv (b::r) y l:=by
 rcases h with h|⟨k,st,cs,h1,h2,h3,h4,h5⟩
 ·exact .inl h
 ·cases k with
  |zero=>omega
  |succ k=>exact .inr ⟨k+1,st,cs,h1,h2,h3,h4,h5⟩
theorem z9b {tab:Nat→Option AFunc} {o:Option (List AV)} {f:List AV→Option AV} {m:Mem} {d:Option Nat} {l:List AOper} {ρ:List AV} {k:Kont} {v:AV} (h:o.bind f=some v) (q:Xs tab l (setDst ρ d v) m k):Xv tab (o.bind fun cs=>(f cs).map fun v=>(v,m)) d l ρ k:=by
 cases o with
 |none=>cases h
 |some cs=>simp only[w26] at h⊢;rw[h];simp only[w0d];rw[td];exact q
theorem z5k {σ:Type} (l:List DInstr) (x:AV) (hx:IsSl IsInstr 4 l x) (hjm: ∀j,j<l.length→Jmp (inA l j)) (S:List (List Blk)) (C:σ→List Blk) (f:AV) (fl:Nat) (hfl:fl≤S.length) (P:σ→Nat→Option Nat→Prop) (upd:σ→Nat→Option Nat→σ×Bool)
  (hf:Meets S C f fl P upd) (J:σ→List Nat→Prop) (μ:σ→List Nat→Nat) (s0:σ) (hP0:P s0 0 none) (hJ0:J (upd s0 0 none).1 [0]) (hlen: ∀s op,J s op→op.length≤1000000000) (hop: ∀s op,J s op→ ∀i∈op,i<l.length)
  (hP: ∀s op i,J s (op++[i])→ ∀j (hj:j<(nxt l i).length),P (proc upd i ((nxt l i).take j) (s,op)).1 (nxt l i)[j] (some i))
  (hnext: ∀s op i,J s (op++[i])→J (proc upd i (nxt l i) (s,op)).1 (proc upd i (nxt l i) (s,op)).2∧μ (proc upd i (nxt l i) (s,op)).1 (proc upd i (nxt l i) (s,op)).2<μ s (op++[i]))
  (nx:Nat) (live:List (List Nat)): ∃s' n',CALL tab qr [x,f] ⟨S,C s0,nx,live,fl⟩=some (.tup [],⟨S,C s',n',live,fl⟩)∧J s' []:=by
 suffices h:Does tab qr [x,f] ⟨S,C s0,nx,live,fl⟩ fun v m'=> ∃s' n',v= .tup []∧m'=⟨S,C s',n',live,fl⟩∧J s' [] by
  obtain⟨z,h1,s',n',h2,h3,h4⟩:=h
  exact⟨s',n',by rw[h1,←h2,←h3],h4⟩
 refine zW z2Q ?_ (Nat.le_of_ble_eq_true rfl)
 obtain⟨g,first,caps,rfl,hcall⟩:=hf
 have hmx:=hx.max
 have hl: ∀s,(S++[C s]).length=S.length+1:=fun s=>by simp
 obtain⟨n1,hc0⟩:=hcall s0 0 none [] nx ([]::live) hP0
 replace hc0:CALL tab g (first++[.int .i64 0,.int .i64 (-1)]++caps) ⟨S++[C s0],[],nx,[]::live,fl⟩=some (.bool (upd s0 0 none).2,⟨S++[C (upd s0 0 none).1],[],n1,[]::live,fl⟩):=hc0
 simp only[Y3,List.map,go_sem,G3,G0,G2,hc0,evLitB,w30,List.flatMap_nil,hl]
 refine zb (α:=σ×List Nat) (fun z σ'=>J z.1 z.2∧ ∃nz st cs,z.2.length≤cs.length∧cs.take z.2.length=ints z.2∧heads [0,1,4] 1 σ'=⟨tmps 42 [(0,x),(1,.fn (.func g) first caps),(4,.grow 1 (S.length+1) 0 st z.2.length)],⟨S++[C z.1],[⟨st,cs⟩],nz,[]::live,fl⟩⟩) (fun z=>μ z.1 z.2) ((upd s0 0 none).1,[0]) ?_ ?_
 ·refine⟨hJ0,?_⟩
  simp only[go_sem,G0,G1]
  exact⟨_,_,_,by simp,rfl,rfl⟩
 ·rintro⟨s,op⟩ σ' ⟨hJ,nz,st,cs,hcs,htk,hσ⟩
  rw[hσ]
  clear hσ σ'
  dsimp only at hJ hcs htk⊢
  rcases List.eq_nil_or_concat op with rfl|⟨op,i,rfl⟩
  ·simp only[go_sem,G0,G1,G2,XF,w34,show((((0:Nat):Int))>0)=False from eq_false (by decide)]
   rw[yO rfl rfl,z8]
   exact⟨s,_,rfl,rfl,hJ⟩
  ·rw[List.concat_eq_append] at*
   have hi:i<l.length:=hop _ _ hJ i (by simp)
   have hol:=hlen _ _ hJ
   have hn:(op++[i]).length=op.length+1:=by simp
   rw[hn] at hcs htk hol
   have hgt:(((op.length+1:Nat):Int)>0)=True:=eq_true (by omega)
   have hsub:IntKind.i64.wrap (((op.length+1:Nat):Int)-1)=((op.length:Nat):Int):=by rw[zc (by omega) (by omega)];omega
   have hix:idx (.int .i64 ((op.length:Nat):Int)) (op.length+1)=some op.length:=zw .i64 _ _ (by omega)
   have hld:takeV false 1 (cs.drop op.length)=some (.int .i64 (i:Nat)):=by
    have h1:cs.take (op++[i]).length=ints (op++[i]):=by rw[hn];exact htk
    have:=ZU h1 (by rw[hn];exact hcs) (j:=op.length) (by simp)
    simpa using this
   have hbd:bound (some (.int .i64 ((op.length:Nat):Int))) (op.length+1) (op.length+1)=some op.length:=by
    unfold bound;simp only;rw[if_pos (by omega)];simp
   have htk2:cs.take op.length=ints op:=by
    have:(cs.take (op.length+1)).take op.length=(ints (op++[i])).take op.length:=by rw[htk]
    rw[List.take_take,Nat.min_eq_left (by omega)] at this
    rw[this];simp[ints]
   obtain⟨y,bs,k1,hB,hLI⟩:=z5m l x hx i hi (hjm i hi) ⟨S++[C s],[⟨st,cs⟩],nz,[]::live,fl⟩ (by simp;omega)
   simp only[id,hl] at hB hLI
   have hyl:=hLI.len
   simp only[go_sem,G0,G1,G2,XF,hn,hgt,hsub,Qd,hix,hl,w15,hld,Qc,hbd,hB,hyl]
   obtain⟨hJn,hμ⟩:=hnext s op i hJ
   refine zb (α:=Nat) (fun j σ'=>j≤(nxt l i).length∧ ∃nz st cs,(proc upd i ((nxt l i).take j) (s,op)).2.length≤cs.length∧cs.take (proc upd i ((nxt l i).take j) (s,op)).2.length=ints (proc upd i ((nxt l i).take j) (s,op)).2∧LI 1 (S.length+1) (⟨st,cs⟩::bs) y (nxt l i)∧
    heads [0,1,4,5,27,28,29] (bs.length+1) σ'=⟨tmps 42 [(0,x),(1,.fn (.func g) first caps),(4,.grow 1 (S.length+1) 0 st (proc upd i ((nxt l i).take j) (s,op)).2.length),(5,.int .i64 i),(27,y),(28,.int .i64 (nxt l i).length),(29,.int .i64 j)],⟨S++[C (proc upd i ((nxt l i).take j) (s,op)).1],⟨st,cs⟩::bs,nz,[]::live,fl⟩⟩) (fun j=>(nxt l i).length-j) 0 ?_ ?_
   ·refine⟨w0c _,?_⟩
    simp only[go_sem,G0,G1,w09,w24,proc,List.foldl_nil]
    exact⟨_,_,_,by omega,htk2,hLI,rfl⟩
   ·rintro j σ' ⟨hj,nz,st,cs,hcs,htk,hLI,hσ⟩
    rw[hσ]
    clear hσ σ'
    dsimp only at hj hcs htk⊢
    by_cases h:j<(nxt l i).length
    ·have hp:=hP s op i hJ j h
     have hpl:=z5R upd (i:=i) ((nxt l i).take j) (s,op)
     have hstep:=z9z upd (i:=i) h (s,op)
     have hn2:=TS l i
     rw[w1f] at hpl
     dsimp only at hpl
     generalize proc upd i ((nxt l i).take j) (s,op)=pr at*
     obtain⟨s1,o1⟩:=pr
     dsimp only at hcs htk hp hpl
     have hlt:((j:Int)<((nxt l i).length:Nat))=True:=eq_true (by omega)
     have hsu:IntKind.i64.wrap ((j:Int)+1)=((j+1:Nat):Int):=by rw[zc (by omega) (by omega)];omega
     have hLI':LI 1 (S++[C s1]).length (⟨st,cs⟩::bs) y (nxt l i):=by rw[hl];exact hLI
     obtain⟨a,ha,hat⟩:=zcl hLI' h (nx:=nz) (fl:=fl) (live:=[]::live)
     simp only[go_sem,G0,G1,G2,hlt,ha]
     refine z9b hat ?_
     obtain⟨n2,hc⟩:=hcall s1 (nxt l i)[j] (some i) (⟨st,cs⟩::bs) nz ([]::live) hp
     simp only[frm] at hc
     simp only[go_sem,G0,G2,hc]
     cases hb:(upd s1 (nxt l i)[j] (some i)).2
     ·simp only[go_sem,G0,G2,hsu,w09]
      refine⟨j+1,by omega,h,n2,st,cs,?_⟩
      rw[hstep]
      unfold procK
      dsimp only
      rw[hb]
      exact⟨hcs,htk,hLI,rfl⟩
     ·have happ:=zc6 (S':=S++[C (upd s1 (nxt l i)[j] (some i)).1]) (st:=st) (nx:=n2) (fl:=fl) (n:=o1.length) (cs:=cs) (rest:=bs) (live:=[]::live) (v:= .int .i64 ((nxt l i)[j]:Nat)) rfl hcs (by simp;omega) (by omega)
      rw[hl] at happ
      simp only[go_sem,G0,G2,happ,hsu,w09]
      refine⟨j+1,by omega,h,n2+1,n2,cs.take o1.length++[.int .i64 ((nxt l i)[j]:Nat)],?_⟩
      rw[hstep]
      unfold procK
      dsimp only
      rw[hb]
      simp only[if_true,w04,w1d,w1f]
      refine⟨by omega,?_,zdR hLI,trivial⟩
      rw[htk,w2f (by simp[ints])]
      simp[ints]
    ·have hje:j=(nxt l i).length:=by omega
     subst hje
     rw[w09] at hcs htk⊢
     simp only[go_sem,G0,G1,G2,show(((nxt l i).length:Nat):Int)<((nxt l i).length:Nat)↔False from⟨fun h=>by omega,False.elim⟩,w24]
     refine⟨proc upd i (nxt l i) (s,op),hμ,hJn,nz,st,cs,hcs,htk,rfl⟩
noncomputable def err07 (l:List DInstr):Int:=if pb (Ok07 l) then 0 else 8
theorem YF {l:List DInstr} (h:Ok07 l):err07 l=0:=by unfold err07;rw[zD h];rfl
theorem kJ {l:List DInstr} (h: ¬Ok07 l):err07 l=8:=by unfold err07;rw[zg h];rfl
structure CodeP (l:List DInstr):Prop where
 len:1≤l.length∧l.length≤200
 p: ∀x∈l,InstrP x
 w: ∀x∈l,WfI x∧inU8 x.op
theorem CodeP.at {l:List DInstr} (h:CodeP l) {j:Nat} (hj:j<l.length):InstrP (inA l j)∧WfI (inA l j)∧inU8 (inA l j).op:=by
 rw[←z93 hj];exact⟨h.p _ (w08 hj),h.w _ (w08 hj)⟩
def iEnd:DInstr:=⟨34,-1,0,0⟩
theorem z6P (x:DInstr):eqAt [(0,1),(1,1),(2,1),(3,1)] [.int .u8 x.op,.int .i64 x.a,.int .i64 x.b,.int .i64 x.c] [.int .u8 34,.int .i64 (-1),.int .i64 0,.int .i64 0]=some (decide (x=iEnd)):=by
 obtain⟨o,a,b,c⟩:=x
 simp only[eqAt,eqCell,List.getD_cons_zero,List.getD_cons_succ,sameKind,if_true]
 by_cases h1:o=34
 ·by_cases h2:a= -1
  ·by_cases h3:b=0
   ·by_cases h4:c=0
    ·subst h1;subst h2;subst h3;subst h4;rfl
    ·have e4:(c==0)=false:=by simpa using h4
     subst h1;subst h2;subst h3
     simp only[beq_self_eq_true,e4]
     rw[decide_eq_false (by unfold iEnd;simp[h4])]
   ·have e3:(b==0)=false:=by simpa using h3
    subst h1;subst h2
    simp only[beq_self_eq_true,e3]
    rw[decide_eq_false (by unfold iEnd;simp[h3])]
  ·have e2:(a== -1)=false:=by simpa using h2
   subst h1
   simp only[beq_self_eq_true,e2]
   rw[decide_eq_false (by unfold iEnd;simp[h2])]
 ·have e1:(o==34)=false:=by simpa using h1
  simp only[e1]
  rw[decide_eq_false (by unfold iEnd;simp[h1])]
theorem ke (l:List DInstr) (x:AV) (hx:IsSl IsInstr 4 l x) (hc:CodeP l) (m:Mem) (hf:m.floor≤m.stk.length+1):Okv tab vd [x] m (.int .i64 (err07 l)):=by
 refine zf z4u ?_
 obtain⟨stk,cur,nx,live,fl⟩:=m
 dsimp only at hf
 have hf':fl≤(stk++[cur]).length+1:=by simp;omega
 have hmx:=hx.max
 have hln:=hc.len
 have e0:((l.length:Int)==0)=false:=by rw[beq_eq_false_iff_ne];omega
 have hsub:IntKind.i64.wrap ((l.length:Int)-1)=((l.length-1:Nat):Int):=by rw[zc (by omega) (by omega)];omega
 have hlast:=hx.at .i64 (show l.length-1<l.length by omega)
 have elast:=hx.inA (show l.length-1<l.length by omega)
 simp only[XQ,List.map,go_sem,G3,G0,G4,G2,hx.len,e0,show¬((l.length:Int)>200) by omega,hsub,hlast,elast,evBuild,z6P]
 by_cases hE:inA l (l.length-1)=iEnd
 case neg=>
  simp only[go_sem,G0,G2,hE]
  rw[z6 rfl rfl,z8]
  exact⟨⟨_,rfl⟩,by rw[kJ fun h=>hE h.2]⟩
 simp only[go_sem,G0,G2,hE,hx.len]
 refine zb (α:=Nat) (fun i σ=>(i≤l.length∧ ∀j,j<i→((inA l j).op=22→(inA l j).a<l.length)∧((inA l j).op=23→(inA l j).b<l.length))∧ ∃nz,heads [3,23,24,25] 0 σ=⟨tmps 53 [(3,.int .i64 l.length),(23,x),(24,.int .i64 l.length),(25,.int .i64 i)],⟨stk++[cur],[],nz,[]::live,fl⟩⟩) (fun i=>l.length-i) 0 ?_ ?_
 ·refine⟨⟨w0c _,fun j h=>absurd h (w38 _)⟩,?_⟩
  simp only[go_sem,G0,G1]
  exact⟨_,rfl⟩
 ·rintro i σ ⟨⟨hi,ht⟩,nz,hσ⟩
  rw[hσ]
  clear hσ σ
  dsimp only at hi ht⊢
  by_cases h:i<l.length
  ·obtain⟨c1,c2,c3⟩:=hc.at h
   have hC:=fun c nz=>(Zi (inA l i) ⟨stk++[cur],c,nz,[]::live,fl⟩ hf').eq
   rw[jN c1] at hC
   have hsucc:=zd h hmx
   simp only[go_sem,G3,G0,G1,G2,w03,h,hx.at _ h,hx.inA h,hC,show((0:Int) !=0)=false from rfl]
   repeat' (((first|refine zo ?_ ?_|refine zl ?_ ?_|refine zm ?_ ?_|refine zj ?_ ?_|refine zk ?_ ?_)<;>intro hq)<;>simp only[go_sem,G0,G2,hq,hsucc])
   all_goals first
    |(rw[z6 rfl rfl,z8];refine⟨⟨_,rfl⟩,?_⟩;rw[kJ fun h'=> ?_];have:=h'.1 i h;simp only[beq_iff_eq,beq_eq_false_iff_ne,ne_eq,decide_eq_true_eq,decide_eq_false_iff_not] at*;omega)
    |(refine⟨i+1,by omega,⟨by omega,fun j hj=> ?_⟩,_,rfl⟩
      rcases w3e j i with q|q
      ·exact ht j q
      ·have:j=i:=by omega
       subst this
       simp only[beq_iff_eq,beq_eq_false_iff_ne,ne_eq,decide_eq_false_iff_not] at*
       omega)
  ·have:i=l.length:=by omega
   subst this
   simp only[go_sem,G0,G1,G2,w03,h]
   rw[z6 rfl rfl,z8]
   exact⟨⟨_,rfl⟩,by rw[YF ⟨ht,hE⟩]⟩
theorem z2z (l:List DInstr) (x:AV) (hx:IsSl IsInstr 4 l x) (hc:CodeP l) (m:Mem):Okv tab xN [x] m (.int .i64 (err07 l)):=by
 refine zf Wc ?_
 obtain⟨stk,cur,nx,live,fl⟩:=m
 have hmx:=hx.max
 have hln:=hc.len
 simp only[uB,List.map,go_sem,G0,G2,hx.len,show¬((l.length:Int)<1) by omega,show¬((l.length:Int)>200) by omega]
 refine zb (α:=Nat) (fun i σ=>(i≤l.length∧ ∀j,j<i→((inA l j).op=22→(inA l j).a<l.length)∧((inA l j).op=23→(inA l j).b<l.length))∧ ∃nz,heads [0,3] 0 σ=⟨tmps 58 [(0,x),(3,.int .i64 i)],⟨stk++[cur],[],nz,[]::live,fl⟩⟩) (fun i=>l.length-i) 0 ?_ ?_
 ·refine⟨⟨w0c _,fun j h=>absurd h (w38 _)⟩,?_⟩
  simp only[go_sem,G0,G1]
  exact⟨_,rfl⟩
 ·rintro i σ ⟨⟨hi,ht⟩,nz,hσ⟩
  rw[hσ]
  clear hσ σ
  dsimp only at hi ht⊢
  by_cases h:i<l.length
  ·obtain⟨c1,c2,c3⟩:=hc.at h
   have hC:=fun m=>(T0 (inA l i) c2 m).eq
   rw[jN c1] at hC
   have hsucc:=zd h hmx
   have hlx:=hx.len
   simp only[go_sem,G3,G0,G1,G2,w03,h,hx.len,hx.at _ h,hx.inA h,hC,show((0:Int) !=0)=false from rfl]
   repeat' (((first|refine zo ?_ ?_|refine zl ?_ ?_|refine zm ?_ ?_|refine zj ?_ ?_|refine zk ?_ ?_)<;>intro hq)<;>simp only[go_sem,G0,G2,hq,hsucc,hlx])
   all_goals first
    |(rw[z6 rfl rfl,z8];refine⟨⟨_,rfl⟩,?_⟩;rw[kJ fun h'=> ?_];have:=h'.1 i h;simp only[beq_iff_eq,beq_eq_false_iff_ne,ne_eq,decide_eq_true_eq,decide_eq_false_iff_not] at*;omega)
    |(refine⟨i+1,by omega,⟨by omega,fun j hj=> ?_⟩,_,rfl⟩
      rcases w3e j i with q|q
      ·exact ht j q
      ·have:j=i:=by omega
       subst this
       simp only[beq_iff_eq,beq_eq_false_iff_ne,ne_eq,decide_eq_false_iff_not] at*
       omega)
  ·have:i=l.length:=by omega
   subst this
   have hsub:IntKind.i64.wrap ((l.length:Int)-1)=((l.length-1:Nat):Int):=by rw[zc (by omega) (by omega)];omega
   have hlast:=hx.at .i64 (show l.length-1<l.length by omega)
   have elast:=hx.inA (show l.length-1<l.length by omega)
   simp only[go_sem,G3,G0,G4,G1,G2,w03,h,hx.len,hsub,hlast,elast,evBuild,z6P]
   by_cases hE:inA l (l.length-1)=iEnd
   ·simp only[go_sem,G0,G2,hE]
    rw[z6 rfl rfl,z8]
    exact⟨⟨_,rfl⟩,by rw[YF ⟨ht,hE⟩]⟩
   ·simp only[go_sem,G0,G2,hE]
    rw[z6 rfl rfl,z8]
    exact⟨⟨_,rfl⟩,by rw[kJ fun h=>hE h.2]⟩
theorem Tn {x:DInstr} (h:InstrP x):Jmp x:=by
 obtain⟨a,b,c,hs,f1,f2,f3⟩:=h
 refine⟨fun e=> ?_,fun e=> ?_⟩
 ·rw[e] at hs
  have:shp 22=[105,45,45]:=by decide
  rw[this] at hs
  injection hs with hs _
  subst hs
  have:lo 105=0:=by decide
  unfold fitsK at f1;omega
 ·rw[e] at hs
  have:shp 23=[114,105,45]:=by decide
  rw[this] at hs
  injection hs with _ hs
  injection hs with hs _
  subst hs
  have:lo 105=0:=by decide
  unfold fitsK at f2;omega
theorem QE {l:List DInstr} (hc:CodeP l) (h:Ok07 l) {i:Nat} (hi:i<l.length): ∀k∈nxt l i,k<l.length:=by
 have hj:=Tn (hc.at hi).1
 have h1:=h.1 i hi
 have hne:(inA l i).op≠34→i+1<l.length:=fun e=>by
  by_cases hl:i=l.length-1
  ·have:=h.2;rw[←hl] at this;rw[this] at e;exact absurd rfl e
  ·omega
 intro k hk
 unfold nxt nxt1 at hk
 split at hk
 ·cases hk
 ·rename_i a0
  have:=hne (fun e=>a0 (.inl e))
  split at hk
  ·rename_i a1
   have:=h1.1 a1
   have:=hj.1 a1
   rw[w11.1 hk];omega
  ·split at hk
   ·rename_i a2
    have:=h1.2 a2
    have:=hj.2 a2
    split at hk
    ·rw[w11.1 hk];omega
    ·simp only[w32,List.not_mem_nil,or_false] at hk
     rcases hk with rfl|rfl<;>omega
   ·rw[w11.1 hk];omega
theorem zej (l:List DInstr) (x:AV) (hx:IsSl IsInstr 4 l x) (hc:CodeP l) (h7:Ok07 l) (i:Nat) (hi:i<l.length) (m:Mem) (hf:m.floor≤m.stk.length+1):CallLI Uw [x,.int .i64 i] (nxt l i) (fun y=> .tup [y,.int .i64 0]) m:=by
 refine z41 z5F ?_
 obtain⟨stk,cur,nx,live,fl⟩:=m
 dsimp only at hf
 have hf':fl≤(stk++[cur]).length+1:=by simp;omega
 have hC:=fun c nz=>(ke l x hx hc ⟨stk++[cur],c,nz,[]::live,fl⟩ hf').eq
 rw[YF h7] at hC
 simp only[Uu,List.map,go_sem,G3,G0,G2,hC,show((0:Int) !=0)=false from rfl,hx.len,show¬((i:Int)<0) by omega,show¬((i:Int)≥(l.length:Nat)) by omega]
 obtain⟨y,bs,k,h1,h2⟩:=z5m l x hx i hi (Tn (hc.at hi).1) ⟨stk++[cur],[],callNx tab vd [x] ⟨stk++[cur],[],nx,[]::live,fl⟩,[]::live,fl⟩ hf'
 simp only[id,w2e] at h1 h2
 simp only[go_sem,G0,G2,h1]
 rcases h2 with⟨h2,h3⟩|⟨q,st,cs,rfl,h3,h4,h5,_⟩
 ·rw[XA (by simp only[AV.refs,refsAny,h2.refs];rfl) (by simp only[AV.toks,toksAll,h3];rfl),z8]
  exact⟨y,[],_,rfl,rfl,.inl ⟨h2,h3⟩⟩
 ·obtain⟨bs',hbs,hbe⟩:=U6 (m0:=⟨stk,cur,nx,live,fl⟩) (stk:=stk) (cur:=cur) (c':=bs) (nx':=k) (own:=[]) (live':=live) (fl':=fl) (k:=q) (st:=st) (s:=1) (n:=(nxt l i).length) (w:=fun y=> .tup [y,.int .i64 0]) (.inr rfl)
  rw[hbs,z8]
  exact⟨_,bs',_,rfl,rfl,z2v hbe h3 h4 h5⟩
def bools (s:List Bool):List AV:=s.map .bool
theorem tX (s:List Bool):(bools s).length=s.length:=by simp[bools]
theorem xV {s:List Bool} {j:Nat} (h:j<s.length):takeV false 1 ((bools s).drop j)=some (.bool (s.getD j false)):=by
 refine li _ _ ?_
 rw[List.head?_drop]
 simp[bools,w00,h]
theorem tW {s:List Bool} {j:Nat} (v:Bool) (h:j<s.length):(bools s).take j++[.bool v]++(bools s).drop (j+1)=bools (s.set j v):=by
 unfold bools
 rw[List.map_set,w5b,if_pos (by simpa using h)];simp
theorem YI (n:Nat):flatRep [.bool false] n=bools (List.replicate n false):=by
 induction n with
 |zero=>rfl
 |succ n ih=>rw[flatRep,ih,w54];rfl
theorem z0a (l l' k:Nat) (s:List Bool):shiftAll l l' k (bools s)=bools s:=by
 induction s with
 |nil=>rfl
 |cons b r ih=>simp only[bools,w35,shiftAll,AV.shift] at ih⊢;rw[ih]
theorem z6j {m0:Mem} {stk:List (List Blk)} {cur c':List Blk} {nx' fl':Nat} {own:List Nat} {live':List (List Nat)} {r:AV} (h1:r.refs (stk++[cur]).length=true) (h2:r.toks=[]):
  leave m0 ⟨stk++[cur],c',nx',own::live',fl'⟩ r=some (r.shift (stk++[cur]).length stk.length cur.length,⟨stk,cur++c'.map (fun b=>⟨b.st,shiftAll (stk++[cur]).length stk.length cur.length b.cs⟩),nx',live',m0.floor⟩):=by
 have e:own.filter (fun _=>false)=[]:=by simp
 unfold leave
 simp only[w51,w45,Option.some_or,h1,if_true,h2,List.contains_nil,e,pushToks,w52]
 simp
def CallArr (f:Nat) (args:List AV) (n:Nat) (Q:List AV→Prop) (w:AV→AV) (m:Mem):Prop:=
 ∃bs k j st cs,CALL tab f args m=some (w (.arr m.stk.length j st 0 n),{m with cur:=m.cur++bs,nx:=k})∧(m.cur++bs)[j]? =some ⟨st,cs⟩∧m.cur.length≤j∧Q cs
theorem XG {f:Nat} {fn:AFunc} (h:tab f=some fn) {args:List AV} {n:Nat} {Q:List AV→Prop} {w:AV→AV} {m:Mem} (hx:X tab fn.body (mk fn.ntmps (.tup []) (numb 0 args)) (enter m) (.fin fn.res m fun v m'=> ∃bs k j st cs,v=w (.arr m.stk.length j st 0 n)∧m'={m with cur:=m.cur++bs,nx:=k}∧(m.cur++bs)[j]? =some ⟨st,cs⟩∧m.cur.length≤j∧Q cs)) (hn:args.length≤fn.ntmps:=by exact Nat.le_of_ble_eq_true rfl):
  CallArr f args n Q w m:=by
 obtain⟨x,h1,bs,k,j,st,cs,h2,h3,h4⟩:=zW h hx hn;exact⟨bs,k,j,st,cs,by rw[h1,←h2,←h3],h4⟩
theorem Q9 {stk:List (List Blk)} {cur c':List Blk} {nx nx' fl fl':Nat} {own:List Nat} {live:List (List Nat)} {j st n:Nat} {cs:List AV} {Q:List AV→Prop} {w:AV→AV} (hw:w=id∨ ∃z,z.toks=[]∧z.refs (stk++[cur]).length=false∧z.shift (stk++[cur]).length stk.length cur.length=z∧w=fun y=> .tup [y,z])
  (hj:c'[j]? =some ⟨st,cs⟩) (hs:shiftAll (stk++[cur]).length stk.length cur.length cs=cs) (hQ:Q cs):
  Opt (leave ⟨stk,cur,nx,live,fl⟩ ⟨stk++[cur],c',nx',own::live,fl'⟩ (w (.arr (stk++[cur]).length j st 0 n))) fun r=> ∃bs k j st cs,r.1=w (.arr stk.length j st 0 n)∧r.2=⟨stk,cur++bs,k,live,fl⟩∧(cur++bs)[j]? =some ⟨st,cs⟩∧cur.length≤j∧Q cs:=by
 have h1:(w (.arr (stk++[cur]).length j st 0 n)).refs (stk++[cur]).length=true:=by
  rcases hw with rfl|⟨z,_,_,_,rfl⟩<;>simp[AV.refs,refsAny]
 have h2:(w (.arr (stk++[cur]).length j st 0 n)).toks=[]:=by
  rcases hw with rfl|⟨z,hz,_,_,rfl⟩
  ·rfl
  ·simp only[AV.toks,toksAll,hz,w1a]
 have h3:(w (.arr (stk++[cur]).length j st 0 n)).shift (stk++[cur]).length stk.length cur.length=w (.arr stk.length (j+cur.length) st 0 n):=by
  rcases hw with rfl|⟨z,_,_,hz,rfl⟩
  ·simp[AV.shift]
  ·simp[AV.shift,shiftAll];simpa using hz
 rw[z6j h1 h2,z8,h3]
 refine⟨_,_,j+cur.length,st,cs,rfl,rfl,?_,by omega,hQ⟩
 rw[w10 (by omega),show j+cur.length-cur.length=j by omega,w19,hj]
 rw[w0d];simp only[hs]
theorem YB (S:List (List Blk)) (X c:List Blk):((S++[X])++[c]).getD S.length []=X:=by simp[w00]
theorem UF (S:List (List Blk)) (X c:List Blk) (f:List Blk→List Blk):((S++[X])++[c]).modify S.length f=(S++[f X])++[c]:=by
 rw[w4e (by simp)]
 simp
theorem xx {stk:List (List Blk)} {cur:List Blk} {nx fl:Nat} {live:List (List Nat)} {s bytes n:Nat} {z:List AV} (hb:bytes*n≤281474976710656) (hn:n≤9223372036854775807) (hz:z.length=s):
  evMake ⟨stk,cur,nx,live,fl⟩ s bytes z (.int .i64 (n:Int)) (.int .i64 (n:Int))=some (.arr stk.length cur.length nx 0 n,⟨stk,cur++[⟨nx,flatRep z n⟩],nx+1,live,fl⟩):=by
 unfold evMake
 simp only
 rw[if_pos ⟨trivial,by omega,by rw[←Int.natCast_mul];omega,by omega,hz⟩]
 simp only[w2d]
theorem Ua (S:List (List Blk)) (X c:List Blk):(S.length==((S++[X])++[c]).length)=false:=by simp
def CR (a b L n:Nat) (s:List Bool):List Blk:=[⟨a,bools s⟩,⟨b,[.arr L 0 a 0 n]⟩]
theorem z7d (S:List (List Blk)) (a b n fl:Nat) (hfl:fl≤S.length):Meets S (CR a b S.length n) (.fn (.func vN) [] [.ptr S.length 1 b 0]) fl (fun s k _=>s.length=n∧k<n) updR:=by
 refine⟨_,_,_,rfl,?_⟩
 rintro s k fr c nz lv ⟨hs,hk⟩
 suffices h:Does tab vN [.int .i64 (k:Nat),.int .i64 (frm fr),.ptr S.length 1 b 0] ⟨S++[CR a b S.length n s],c,nz,lv,fl⟩ fun v m'=> ∃nz',v= .bool (updR s k fr).2∧m'=⟨S++[CR a b S.length n (updR s k fr).1],c,nz',lv,fl⟩ by
  obtain⟨z,h1,n',h2,h3⟩:=h
  exact⟨n',by rw[←h2,←h3];exact h1⟩
 refine zW Qz ?_ (Nat.le_of_ble_eq_true rfl)
 have hix:idx (.int .i64 (k:Int)) n=some k:=zw .i64 k n hk
 have hg:=xV (s:=s) (j:=k) (by omega)
 have hst:=tW (s:=s) (j:=k) true (by omega)
 have hbl:k+1≤(bools s).length:=by rw[tX];omega
 simp only[ju,List.map,go_sem,G3,G0,G2,Ua,YB,CR,za,hix,w15,hg,hfl,hbl,hst,UF,Yk]
 rw[yO rfl rfl,z8]
 exact⟨_,rfl,rfl⟩
theorem z9q (l:List DInstr) (x:AV) (hx:IsSl IsInstr 4 l x) (hc:CodeP l) (h7:Ok07 l) (m:Mem) (hf:m.floor≤m.stk.length+1):
  CallArr j9 [x] l.length (fun cs=> ∃s:List Bool,cs=bools s∧s.length=l.length∧ ∀i,i<l.length→(s.getD i false=true↔Rch (nxt l) i∨i=l.length-1)) (fun y=> .tup [y,.int .i64 0]) m:=by
 refine XG VE ?_
 obtain⟨stk,cur,nx,live,fl⟩:=m
 dsimp only at hf
 have hf':fl≤(stk++[cur]).length+1:=by simp;omega
 have hln:=hc.len
 have hC:=fun c nz=>(ke l x hx hc ⟨stk++[cur],c,nz,[]::live,fl⟩ hf').eq
 rw[YF h7] at hC
 simp only[j4,List.map,go_sem,G0,G2,hC,show((0:Int) !=0)=false from rfl,hx.len,xx (s:=1) (bytes:=1) (n:=l.length) (z:=[.bool false]) (by omega) (by omega) rfl,YI]
 generalize callNx tab vd _ _=nz
 have hnx:=fun i hi=>QE hc h7 (i:=i) hi
 obtain⟨s',n',hcall,hJ⟩:=z5k l x hx (fun j hj=>Tn (hc.at hj).1) (stk++[cur]) (CR nz (nz+1) (stk++[cur]).length l.length) (.fn (.func vN) [] [.ptr (stk++[cur]).length 1 (nz+1) 0]) fl (by simp;omega) _ updR
  (z7d (stk++[cur]) nz (nz+1) l.length fl (by simp;omega)) (RJ (nxt l) l.length) (fun s op=>2*unm s+op.length) (List.replicate l.length false) ⟨by simp,by omega⟩ (RJ.start (nxt l) l.length (by omega))
  (fun s op h=>by have:=h.b;omega) (fun s op h i hi=>(h.o i hi).1)
  (fun s op i h j hj=>by
   have hi:=(h.o i (by simp)).1
   have:=RK.all (nxt l) l.length (h.pop (nxt l) l.length) (ks:=(nxt l i).take j) (fun k hk=>⟨w4b hk,hnx i hi k (w4b hk)⟩)
   exact⟨this.r.len,hnx i hi _ (w08 hj)⟩)
  (fun s op i h=>h.next (nxt l) l.length hnx) (nz+1+1) ([]::live)
 simp only[CR] at hcall
 have hsl:=hJ.r.len
 have hsub:IntKind.i64.wrap ((l.length:Int)-1)=((l.length-1:Nat):Int):=by rw[zc (by omega) (by omega)];omega
 have hix:idx (.int .i64 ((l.length-1:Nat):Int)) l.length=some (l.length-1):=zw .i64 _ _ (by omega)
 have hst:=tW (s:=s') (j:=l.length-1) true (by omega)
 have hbl:l.length-1+1≤(bools s').length:=by rw[tX];omega
 simp only[go_sem,G0,G2,hcall,evLen,hsub,za,hix,w15,hbl,hst]
 refine Q9 (w:=fun y=> .tup [y,.int .i64 0]) (.inr ⟨_,rfl,rfl,rfl,rfl⟩) (cs:=bools (s'.set (l.length-1) true)) rfl (z0a _ _ _ _) ⟨_,rfl,by simp[hsl],fun i hi=> ?_⟩
 by_cases e:l.length-1=i
 ·subst e
  rw[zL (by omega)];simp
 ·rw[Vs.getD_set_ne e,hJ.done (nxt l) l.length i]
  exact⟨.inl,fun q=>q.resolve_right fun q=>e q.symm⟩
end Go.Proofs.W
end
section
namespace Go.Vs
section
variable (nx : Nat → List Nat) (n : Nat) (st : Nat → List Int → Option (List Int)) (T : List Int → Prop)
structure SI (kn:List Bool) (out:List (List Int)):Prop where
 r:SInv nx st n kn out
 t: ∀i,T (out.getD i [])
 len: ∀i,(out.getD i []).length+unm kn+1≤n
theorem SI.set {k i:Nat} {kn:List Bool} {out:List (List Int)} {l:List Int} (h:SI nx n st T kn out) (hkn:k<n) (hu:kn.getD k false=false) (hi:kn.getD i false=true) (hs:st i (out.getD i [])=some l) (hk:k∈nx i) (hl:T l∧l.length≤(out.getD i []).length+1):
  SI nx n st T (kn.set k true) (out.set k l)∧unm (kn.set k true)+1=unm kn:=by
 have hkl:k<kn.length:=by rw[h.r.len1];exact hkn
 have hko:k<out.length:=by rw[h.r.len2];exact hkn
 have hum:=TG hkl hu
 refine⟨⟨h.r.set nx st hkn hu hi hs hk,fun j=> ?_,fun j=> ?_⟩,hum⟩
 ·by_cases e:k=j
  ·subst e;rw[getD_set_eq hko];exact hl.1
  ·rw[getD_set_ne e];exact h.t j
 ·by_cases e:k=j
  ·subst e;rw[getD_set_eq hko]
   have:=h.len i;omega
  ·rw[getD_set_ne e]
   have:=h.len j;omega
theorem SI.start (hn:0<n) (hT:T []):SI nx n st T ((List.replicate n false).set 0 true) (List.replicate n []):=by
 have hR:=RInv.start nx n hn
 have hl:0<(List.replicate n false).length:=by simpa using hn
 have hg: ∀j,(List.replicate n false).getD j false=false:=fun j=>by
  simp only[w00,w3d];split<;>rfl
 have ho: ∀j,(List.replicate n ([]:List Int)).getD j []=[]:=fun j=>by
  simp only[w00,w3d];split<;>rfl
 have hu:unm (List.replicate n false)=n:=by unfold unm;rw[List.filter_eq_self.2 (by simp)];simp
 have h1:=TG hl (hg 0)
 refine⟨⟨hR.len,by simp,⟨hR.zero,ho 0⟩,fun i hi=> ?_,fun i _=>ho i⟩,fun i=>by rw[ho];exact hT,fun i=>by rw[ho];simp;omega⟩
 by_cases e:0=i
 ·subst e;rw[ho];exact .zero
 ·rw[getD_set_ne e,hg] at hi;cases hi
def Done (kn:List Bool) (out:List (List Int)) (j:Nat):Prop:= ∃l,st j (out.getD j [])=some l∧ ∀k∈nx j,kn.getD k false=true∧out.getD k []=l
theorem Done.set {kn:List Bool} {out:List (List Int)} {j k:Nat} {l:List Int} (h:Done nx st kn out j) (hkn:kn.getD j false=true) (hu:kn.getD k false=false):Done nx st (kn.set k true) (out.set k l) j:=by
 obtain⟨l0,h1,h2⟩:=h
 have hjk:k≠j:=fun e=>by subst e;rw[hkn] at hu;cases hu
 refine⟨l0,by rw[getD_set_ne hjk];exact h1,fun k' hk'=> ?_⟩
 have hkk:k≠k':=fun e=>by subst e;rw[(h2 _ hk').1] at hu;cases hu
 exact⟨zB (h2 k' hk').1,by rw[getD_set_ne hkk];exact(h2 k' hk').2⟩
structure SJ (kn:List Bool) (out:List (List Int)) (op:List Nat):Prop where
 r:SI nx n st T kn out
 cl: ∀j,kn.getD j false=true→j∈op∨Done nx st kn out j
 o: ∀j∈op,j<n∧kn.getD j false=true
 b:op.length+unm kn≤n
structure SK (i:Nat) (l:List Int) (done:List Nat) (M:Nat) (kn:List Bool) (out:List (List Int)) (op:List Nat):Prop where
 r:SI nx n st T kn out
 cl: ∀j,kn.getD j false=true→j=i∨j∈op∨Done nx st kn out j
 o: ∀j∈op,j<n∧kn.getD j false=true
 b:op.length+unm kn+1≤n
 hi:kn.getD i false=true
 hs:st i (out.getD i [])=some l
 hl:T l∧l.length≤(out.getD i []).length+1
 d: ∀k∈done,kn.getD k false=true∧out.getD k []=l
 m:2*unm kn+op.length+1≤M
theorem SJ.pop {kn:List Bool} {out:List (List Int)} {op:List Nat} {i:Nat} {l:List Int} (h:SJ nx n st T kn out (op++[i])) (hs:st i (out.getD i [])=some l) (hl:T l∧l.length≤(out.getD i []).length+1):SK nx n st T i l [] (2*unm kn+(op++[i]).length) kn out op:=by
 refine⟨h.r,fun j hj=> ?_,fun j hj=>h.o j (w3c _ hj),?_,(h.o i (by simp)).2,hs,hl,fun k hk=>(by cases hk),?_⟩
 ·rcases h.cl j hj with q|q
  ·rcases w0a.1 q with q|q
   ·exact .inr (.inl q)
   ·exact .inl (w11.1 q)
  ·exact .inr (.inr q)
 ·have:=h.b;simp at this;omega
 ·simp;omega
theorem SK.same {i k M:Nat} {l:List Int} {done:List Nat} {kn:List Bool} {out:List (List Int)} {op:List Nat} (h:SK nx n st T i l done M kn out op) (hk:kn.getD k false=true) (he:out.getD k []=l):SK nx n st T i l (done++[k]) M kn out op:=
 ⟨h.r,h.cl,h.o,h.b,h.hi,h.hs,h.hl,fun k' hk'=>by
  rcases w0a.1 hk' with q|q
  ·exact h.d k' q
  ·rw[w11.1 q];exact⟨hk,he⟩,h.m⟩
theorem SK.new {i k M:Nat} {l:List Int} {done:List Nat} {kn:List Bool} {out:List (List Int)} {op:List Nat} (h:SK nx n st T i l done M kn out op) (hkn:k<n) (hk:k∈nx i) (hu:kn.getD k false=false):SK nx n st T i l (done++[k]) M (kn.set k true) (out.set k l) (op++[k]):=by
 obtain⟨h1,h2⟩:=h.r.set nx n st T hkn hu h.hi h.hs hk h.hl
 have hki:k≠i:=fun e=>by subst e;rw[h.hi] at hu;cases hu
 have hko:k<out.length:=by rw[h.r.r.len2];exact hkn
 have hkl:k<kn.length:=by rw[h.r.r.len1];exact hkn
 refine⟨h1,fun j hj=> ?_,fun j hj=> ?_,?_,zB h.hi,by rw[getD_set_ne hki];exact h.hs,by rw[getD_set_ne hki];exact h.hl,fun k' hk'=> ?_,?_⟩
 ·by_cases e:k=j
  ·subst e;exact .inr (.inl (by simp))
  ·rw[getD_set_ne e] at hj
   rcases h.cl j hj with q|q|q
   ·exact .inl q
   ·exact .inr (.inl (by simp[q]))
   ·exact .inr (.inr (q.set nx st hj hu))
 ·rcases w0a.1 hj with q|q
  ·exact⟨(h.o j q).1,zB (h.o j q).2⟩
  ·rw[w11.1 q];exact⟨hkn,zL hkl⟩
 ·have:=h.b;simp only[w04,w1d];omega
 ·rcases w0a.1 hk' with q|q
  ·have hkk:k≠k':=fun e=>by subst e;rw[(h.d _ q).1] at hu;cases hu
   exact⟨zB (h.d k' q).1,by rw[getD_set_ne hkk];exact(h.d k' q).2⟩
  ·rw[w11.1 q];exact⟨zL hkl,getD_set_eq hko⟩
 ·have:=h.m;simp only[w04,w1d];omega
theorem SK.fin {i M:Nat} {l:List Int} {kn:List Bool} {out:List (List Int)} {op:List Nat} (h:SK nx n st T i l (nx i) M kn out op):SJ nx n st T kn out op∧2*unm kn+op.length<M:=by
 refine⟨⟨h.r,fun j hj=> ?_,h.o,by have:=h.b;omega⟩,by have:=h.m;omega⟩
 rcases h.cl j hj with q|q|q
 ·subst q;exact .inr ⟨l,h.hs,h.d⟩
 ·exact .inl q
 ·exact .inr q
theorem SJ.done {kn:List Bool} {out:List (List Int)} (h:SJ nx n st T kn out []):GoodS nx st n∧ ∀i,out.getD i []=labOf nx st i:=
 h.r.r.all nx st fun i hi=>(h.cl i hi).elim (fun q=>by cases q) id
theorem SJ.start (hn:0<n) (hT:T []):SJ nx n st T ((List.replicate n false).set 0 true) (List.replicate n []) [0]:=by
 have h:=SI.start nx n st T hn hT
 have hR:=RJ.start nx n hn
 have hg: ∀j,(List.replicate n false).getD j false=false:=fun j=>by
  simp only[w00,w3d];split<;>rfl
 refine⟨h,fun j hj=> ?_,hR.o,hR.b⟩
 by_cases e:0=j
 ·subst e;exact .inl (by simp)
 ·rw[getD_set_ne e,hg] at hj;cases hj
structure SR (kn0:List Bool) (out0:List (List Int)) (j:Nat) (kn:List Bool) (out:List (List Int)) (ch:Bool):Prop where
 r:SI nx n st T kn out
 le:unm kn≤unm kn0
 eq:ch=false→kn=kn0∧out=out0∧ ∀i,i<j→kn0.getD i false=true→Done nx st kn0 out0 i
 lt:ch=true→unm kn<unm kn0
structure SQ (kn0:List Bool) (out0:List (List Int)) (i:Nat) (l:List Int) (done:List Nat) (kn:List Bool) (out:List (List Int)) (ch:Bool):Prop where
 r:SR nx n st T kn0 out0 i kn out ch
 hi:kn.getD i false=true
 hs:st i (out.getD i [])=some l
 hl:T l∧l.length≤(out.getD i []).length+1
 d: ∀k∈done,kn.getD k false=true∧out.getD k []=l
theorem SR.zero {kn:List Bool} {out:List (List Int)} (h:SI nx n st T kn out):SR nx n st T kn out 0 kn out false:=
 ⟨h,w0b _,fun _=>⟨rfl,rfl,fun i hi=>absurd hi (w38 _)⟩,fun e=>by cases e⟩
theorem SR.skip {kn0 kn:List Bool} {out0 out:List (List Int)} {j:Nat} {ch:Bool} (h:SR nx n st T kn0 out0 j kn out ch) (hu:kn.getD j false=false):SR nx n st T kn0 out0 (j+1) kn out ch:=by
 refine⟨h.r,h.le,fun e=>⟨(h.eq e).1,(h.eq e).2.1,fun i hi hk=> ?_⟩,h.lt⟩
 by_cases hij:i=j
 ·subst hij;rw[←(h.eq e).1,hu] at hk;cases hk
 ·exact(h.eq e).2.2 i (by omega) hk
theorem SQ.same {kn0 kn:List Bool} {out0 out:List (List Int)} {i k:Nat} {l:List Int} {done:List Nat} {ch:Bool} (h:SQ nx n st T kn0 out0 i l done kn out ch) (hk:kn.getD k false=true) (he:out.getD k []=l):SQ nx n st T kn0 out0 i l (done++[k]) kn out ch:=
 ⟨h.r,h.hi,h.hs,h.hl,fun k' hk'=>by
  rcases w0a.1 hk' with q|q
  ·exact h.d k' q
  ·rw[w11.1 q];exact⟨hk,he⟩⟩
theorem SQ.new {kn0 kn:List Bool} {out0 out:List (List Int)} {i k:Nat} {l:List Int} {done:List Nat} {ch:Bool} (h:SQ nx n st T kn0 out0 i l done kn out ch) (hkn:k<n) (hk:k∈nx i) (hu:kn.getD k false=false):SQ nx n st T kn0 out0 i l (done++[k]) (kn.set k true) (out.set k l) true:=by
 obtain⟨h1,h2⟩:=h.r.r.set nx n st T hkn hu h.hi h.hs hk h.hl
 have hki:k≠i:=fun e=>by subst e;rw[h.hi] at hu;cases hu
 have hko:k<out.length:=by rw[h.r.r.r.len2];exact hkn
 have hkl:k<kn.length:=by rw[h.r.r.r.len1];exact hkn
 have hle:=h.r.le
 refine⟨⟨h1,by omega,fun e=>(by cases e),fun _=>by omega⟩,zB h.hi,by rw[getD_set_ne hki];exact h.hs,by rw[getD_set_ne hki];exact h.hl,fun k' hk'=> ?_⟩
 rcases w0a.1 hk' with q|q
 ·have hkk:k≠k':=fun e=>by subst e;rw[(h.d _ q).1] at hu;cases hu
  exact⟨zB (h.d k' q).1,by rw[getD_set_ne hkk];exact(h.d k' q).2⟩
 ·rw[w11.1 q];exact⟨zL hkl,getD_set_eq hko⟩
theorem SQ.fin {kn0 kn:List Bool} {out0 out:List (List Int)} {i:Nat} {l:List Int} {ch:Bool} (h:SQ nx n st T kn0 out0 i l (nx i) kn out ch):SR nx n st T kn0 out0 (i+1) kn out ch:=by
 refine⟨h.r.r,h.r.le,fun e=>⟨(h.r.eq e).1,(h.r.eq e).2.1,fun j hj hk=> ?_⟩,h.r.lt⟩
 by_cases hij:j=i
 ·subst hij
  obtain⟨e1,e2,_⟩:=h.r.eq e
  rw[←e1,←e2];exact⟨l,h.hs,h.d⟩
 ·exact(h.r.eq e).2.2 j (by omega) hk
theorem SR.done {kn0 kn:List Bool} {out0 out:List (List Int)} (h:SR nx n st T kn0 out0 n kn out false):GoodS nx st n∧ ∀i,out.getD i []=labOf nx st i:=by
 obtain⟨e1,e2,e3⟩:=h.eq rfl
 have hlt: ∀i,kn.getD i false=true→i<n:=fun i hi=>by
  rcases w3e i n with q|q
  ·exact q
  ·rw[w00,w17 (by rw[h.r.r.len1];exact q)] at hi;cases hi
 refine h.r.r.all nx st fun i hi=> ?_
 have:=e3 i (hlt i hi) (by rw[←e1];exact hi)
 rw[←e1,←e2] at this;exact this
end
end Go.Vs
end
section
namespace Go.Proofs.W
open Go.Vs
set_option linter.unusedSimpArgs false
set_option maxRecDepth 100000
structure FunP (d:DImage) (f:DFunc):Prop where
 img:ImgP d
 ty:TypP d.types
 sl: ∀k,k<d.funcs.length→(fnA d.funcs k).slots.length≤1000
 s:SlotsP d f
 c:CodeP f.code
 o:Ok07 f.code
 n: ∀i,i<f.code.length→NearP d f (inA f.code i)
def stF (d:DImage) (f:DFunc) (i:Nat) (l:List Int):Option (List Int):=stS d f (inA f.code i) l
def lists (out:List (List Int)) (cs:List AV):Prop:=cs.length=out.length∧ ∀i (h:i<out.length),∃y,cs[i]? =some y∧IsSl IsI 1 out[i] y
theorem qH {out:List (List Int)} {cs:List AV} (h:lists out cs) {k:Nat} (hk:k<out.length): ∃y,takeV false 1 (cs.drop k)=some y∧IsSl IsI 1 (out.getD k []) y:=by
 obtain⟨y,h1,h2⟩:=h.2 k hk
 refine⟨y,li _ _ (by rw[List.head?_drop];exact h1),?_⟩
 rw[w00,w13 hk];exact h2
theorem z3F {out:List (List Int)} {cs:List AV} (h:lists out cs) {k:Nat} {l:List Int} {y:AV} (hk:k<out.length) (hy:IsSl IsI 1 l y):lists (out.set k l) (cs.take k++[y]++cs.drop (k+1)):=by
 have hkc:k<cs.length:=by rw[h.1];exact hk
 have he:cs.take k++[y]++cs.drop (k+1)=cs.set k y:=by rw[w5b,if_pos hkc];simp
 rw[he]
 refine⟨by simp[h.1],fun i hi=> ?_⟩
 simp only[List.length_set] at hi
 by_cases e:k=i
 ·subst e
  exact⟨y,by simp[hkc],by simpa using hy⟩
 ·obtain⟨z,h1,h2⟩:=h.2 i hi
  exact⟨z,by rw[w36];simp[e,h1],by simpa [List.getElem_set,e] using h2⟩
theorem z3G (n:Nat):lists (List.replicate n []) (flatRep [.nils] n):=by
 have: ∀n,flatRep [.nils] n=List.replicate n .nils:=fun n=>by
  induction n with
  |zero=>rfl
  |succ n ih=>rw[flatRep,ih,w54];rfl
 rw[this]
 refine⟨by simp,fun i hi=>⟨.nils,?_,?_⟩⟩
 ·simp only[List.length_replicate] at hi;simp[hi]
 ·simpa using IsSl.nil 1
theorem z6h {out:List (List Int)} {cs:List AV} (h:lists out cs) (a b c:Nat):shiftAll a b c cs=cs:=by
 apply w2c
 intro j
 rw[vR]
 by_cases hj:j<out.length
 ·obtain⟨y,h1,h2⟩:=h.2 j hj
  rw[h1,w0d]
  rcases h2 with⟨_,⟨_,rfl⟩|⟨tk,ys,rfl,_⟩⟩<;>rfl
 ·rw[w17 (by rw[h.1];omega)];rfl
noncomputable def labs (d:DImage) (f:DFunc):List (List Int):=(List.range f.code.length).map fun i=>labOf (nxt f.code) (stF d f) i
theorem z8Y {d:DImage} {f:DFunc} {out:List (List Int)} (hl:out.length=f.code.length) (h: ∀i,out.getD i []=labOf (nxt f.code) (stF d f) i):out=labs d f:=by
 apply w2c
 intro j
 unfold labs
 rw[w19]
 by_cases hj:j<f.code.length
 ·rw[w48 hj,w0d,←h j,w00,w13 (by omega)];rfl
 ·rw[w17 (by omega),w17 (by simpa using hj)];rfl
theorem z6n (d:DImage) (f:DFunc):(labs d f).length=f.code.length:=by simp[labs]
def LabsIn (d:DImage) (f:DFunc):Prop:= ∀k,InT d.types ((labs d f).getD k [])∧((labs d f).getD k []).length≤1000
def GoodF (d:DImage) (f:DFunc):Prop:=GoodS (nxt f.code) (stF d f) f.code.length
def ScrP (d:DImage) (f:DFunc):Prop:=GoodF d f∧LastS (nxt f.code) (stF d f) f.code.length
def CallSc (fn:Nat) (args:List AV) (n:Nat) (G:Prop) (b:Bool) (Q:List AV→Prop) (m:Mem):Prop:=
 ∃y bs k,CALL tab fn args m=some (.tup [y,.bool b],{m with cur:=m.cur++bs,nx:=k})∧(G→ ∃j st cs,y= .arr m.stk.length j st 0 n∧(m.cur++bs)[j]? =some ⟨st,cs⟩∧m.cur.length≤j∧Q cs)
theorem z40 {fn:Nat} {a:AFunc} (h:tab fn=some a) {args:List AV} {n:Nat} {G:Prop} {b:Bool} {Q:List AV→Prop} {m:Mem} (hx:X tab a.body (mk a.ntmps (.tup []) (numb 0 args)) (enter m) (.fin a.res m fun v m'=> ∃y bs k,v= .tup [y,.bool b]∧m'={m with cur:=m.cur++bs,nx:=k}∧(G→ ∃j st cs,y= .arr m.stk.length j st 0 n∧(m.cur++bs)[j]? =some ⟨st,cs⟩∧m.cur.length≤j∧Q cs))) (hn:args.length≤a.ntmps:=by exact Nat.le_of_ble_eq_true rfl):
  CallSc fn args n G b Q m:=by
 obtain⟨x,h1,y,bs,k,h2,h3,h4⟩:=zW h hx hn;exact⟨y,bs,k,by rw[h1,←h2,←h3],h4⟩
theorem z0O {stk:List (List Blk)} {cur c':List Blk} {nx nx' fl fl':Nat} {own:List Nat} {live:List (List Nat)} {n:Nat} {G:Prop} {Q:List AV→Prop} (hG: ¬G):
  Opt (leave ⟨stk,cur,nx,live,fl⟩ ⟨stk++[cur],c',nx',own::live,fl'⟩ (.tup [.nils,.bool false])) fun r=> ∃y bs k,r.1= .tup [y,.bool false]∧r.2=⟨stk,cur++bs,k,live,fl⟩∧(G→ ∃j st cs,y= .arr stk.length j st 0 n∧(cur++bs)[j]? =some ⟨st,cs⟩∧cur.length≤j∧Q cs):=by
 rw[yO rfl rfl,z8]
 exact⟨.nils,[],nx',rfl,by rw[w1a],fun h=>absurd h hG⟩
theorem z94 {stk:List (List Blk)} {cur c':List Blk} {nx nx' fl fl':Nat} {own:List Nat} {live:List (List Nat)} {j st n:Nat} {cs:List AV} {G:Prop} {b:Bool} {Q:List AV→Prop}
  (hj:c'[j]? =some ⟨st,cs⟩) (hs:shiftAll (stk++[cur]).length stk.length cur.length cs=cs) (hQ:Q cs):
  Opt (leave ⟨stk,cur,nx,live,fl⟩ ⟨stk++[cur],c',nx',own::live,fl'⟩ (.tup [.arr (stk++[cur]).length j st 0 n,.bool b])) fun r=> ∃y bs k,r.1= .tup [y,.bool b]∧r.2=⟨stk,cur++bs,k,live,fl⟩∧(G→ ∃j st cs,y= .arr stk.length j st 0 n∧(cur++bs)[j]? =some ⟨st,cs⟩∧cur.length≤j∧Q cs):=by
 have:=Q9 (nx:=nx) (nx':=nx') (fl:=fl) (fl':=fl') (own:=own) (live:=live) (n:=n) (Q:=Q) (w:=fun y=> .tup [y,.bool b]) (.inr ⟨.bool b,rfl,rfl,rfl,rfl⟩) hj hs hQ
 obtain⟨x,h1,bs,k,j2,st2,cs2,h2,h3,h4,h5,h6⟩:=this
 exact⟨x,h1,_,bs,k,h2,h3,fun _=>⟨j2,st2,cs2,rfl,h4,h5,h6⟩⟩
theorem zb0 {d:DImage} {f:DFunc} (h:FunP d f) {i:Nat} (hi:i<f.code.length) {l l':List Int} (hl:InT d.types l) (hs:stF d f i l=some l'):InT d.types l'∧l'.length≤l.length+1:=
 zaZ (h.c.at hi).1 (h.c.at hi).2.1 (h.n i hi) h.s hl hs
theorem z15 (d:DImage) (y:AV) (hy:IsImage d y) (g:Nat) (hg:g<d.funcs.length) (h:FunP d (fnA d.funcs g)) (m:Mem) (hf:m.floor≤m.stk.length+1):
  CallSc x7 [y,.int .i64 g] (fnA d.funcs g).code.length (GoodF d (fnA d.funcs g)) (pb (ScrP d (fnA d.funcs g))) (fun cs=>lists (labs d (fnA d.funcs g)) cs∧LabsIn d (fnA d.funcs g)) m:=by
 have hy':=hy
 obtain⟨ty,tx,fs,rfl,h0,h1,h2⟩:=hy
 obtain⟨w0,w1,w2,w3,ef,q0,q1,q2,q3⟩:=h2.fnA hg
 have hat:=h2.at .i64 hg
 refine z40 Yd ?_
 obtain⟨stk,cur,nx,live,fl⟩:=m
 dsimp only at hf
 have hf':fl≤(stk++[cur]).length:=by simp;omega
 have hmaxf:max fl ((stk++[cur]).length+1)≤(stk++[cur]).length+1:=by omega
 have hAf:=fun x hx hw hN l z hz hin hlen c n lv=>zcz d h.img h.sl h.ty _ hy' g hg x hx hw hN l z hz hin hlen ⟨stk++[cur],c,n,lv,max fl ((stk++[cur]).length+1)⟩ hmaxf
 have hln:=h.c.len
 have hnx:=fun i hi=>QE h.c h.o (i:=i) hi
 have hSC:ScrP d (fnA d.funcs g)↔GoodF d (fnA d.funcs g)∧LastS (nxt (fnA d.funcs g).code) (stF d (fnA d.funcs g)) (fnA d.funcs g).code.length:=Iff.rfl
 have hstok:=fun i hi l l' hl hs=>zb0 h (i:=i) hi (l:=l) (l':=l') hl hs
 have hstF: ∀i l,stF d (fnA d.funcs g) i l=stS d (fnA d.funcs g) (inA (fnA d.funcs g).code i) l:=fun _ _=>rfl
 have hNear:=h.n
 have hC:=h.c
 generalize fnA d.funcs g=f at*
 generalize hn:f.code.length=n at*
 generalize hst:stF d f=st at*
 generalize hnxt:nxt f.code=nxf at*
 have hl0:0<(List.replicate n false).length:=by simp;omega
 have hst0:=tW (s:=List.replicate n false) (j:=0) true hl0
 have hbl0:0+1≤(bools (List.replicate n false)).length:=by rw[tX];omega
 have hix0:idx (.int .i64 0) n=some 0:=zw .i64 0 n (by omega)
 have hq1l:evLen w1=some (.int .i64 n):=by rw[←hn];exact q1.len
 simp only[w24,w2e,w39] at hst0 hbl0
 simp only[vD,List.map,go_sem,G3,G0,G2,hat,ef,hq1l,xx (s:=1) (bytes:=24) (n:=n) (z:=[.nils]) (by omega) (by omega) rfl,xx (s:=1) (bytes:=1) (n:=n) (z:=[.bool false]) (by omega) (by omega) rfl,YI,za,hix0,w15,hbl0,hst0]
 have hT0:InT d.types []:=fun t ht=>by cases ht
 have hGF:GoodF d f↔GoodS nxf st n:=by unfold GoodF;rw[hn,hst,hnxt]
 have hlabs: ∀out:List (List Int),out.length=n→(∀i,out.getD i []=labOf nxf st i)→out=labs d f:=fun out h1 h2=>z8Y (by rw[hn];exact h1) (by rw[hst,hnxt];exact h2)
 refine zb (α:=List Bool×List (List Int)×Bool) (fun z σ=>(SI nxf n st (InT d.types) z.1 z.2.1∧(z.2.2=false→GoodS nxf st n∧ ∀i,z.2.1.getD i []=labOf nxf st i))∧ ∃nz e cs,lists z.2.1 cs∧heads [1,2,6,7,8,9] 3 σ=⟨tmps 105 [(1,.int .i64 g),(2,.ptr (stk++[cur]).length 0 nx 0),(6,w1),(7,.arr (stk++[cur]).length 1 (nx+1) 0 n),(8,.arr (stk++[cur]).length 2 (nx+1+1) 0 n),(9,.bool z.2.2)],⟨stk++[cur],[⟨nx,[ty,tx,fs]⟩,⟨nx+1,cs⟩,⟨nx+1+1,bools z.1⟩],nz,e::live,fl⟩⟩) (fun z=>2*unm z.1+(if z.2.2 then 1 else 0)) ((List.replicate n false).set 0 true,List.replicate n [],true) ?_ ?_
 ·refine⟨⟨SI.start nxf n st (InT d.types) (by omega) hT0,fun e=>by cases e⟩,?_⟩
  simp only[go_sem,G0,G1]
  exact⟨_,_,_,z3G n,rfl⟩
 ·rintro⟨kn0,out0,ch0⟩ σ ⟨⟨hR0,hdone⟩,nz,e,cs,hcs,hσ⟩
  rw[hσ]
  clear hσ σ
  dsimp only at hR0 hdone hcs⊢
  cases ch0 with
  |false=>
   obtain⟨hG,hlab⟩:=hdone rfl
   have hol:=hR0.r.len2
   have hsub:IntKind.i64.wrap ((n:Int)-1)=((n-1:Nat):Int):=by rw[zc (by omega) (by omega)];omega
   have hixl:idx (.int .i64 ((n-1:Nat):Int)) n=some (n-1):=zw .i64 _ _ (by omega)
   obtain⟨yl,hyl,hyls⟩:=qH hcs (k:=n-1) (by omega)
   simp only[go_sem,G0,G1,G2,hq1l,hsub,za,hixl,w15,hyl,hyls.len]
   have hb:(((out0.getD (n-1) []).length:Int)==0)=pb (ScrP d f):=by
    refine kc ?_
    rw[hSC,hGF,beq_iff_eq,z6m nxf st hG,hlab (n-1)]
    refine⟨fun h=>⟨hG,w1b (by omega)⟩,fun h=>by rw[h.2];rfl⟩
   rw[hb]
   refine z94 (cs:=cs) rfl (z6h hcs _ _ _) ?_
   have hJt:=hR0.t
   have hJl:=hR0.len
   rw[hlabs out0 hol hlab] at hcs hJt hJl
   exact⟨hcs,fun k=>⟨hJt k,by have:=hJl k;omega⟩⟩
  |true=>
   simp only[go_sem,G3,G0,G1,G2]
   refine zb (α:=Nat×List Bool×List (List Int)×Bool) (fun z σ=>(z.1≤n∧SR nxf n st (InT d.types) kn0 out0 z.1 z.2.1 z.2.2.1 z.2.2.2)∧ ∃nz e cs,lists z.2.2.1 cs∧heads [1,2,6,7,8,9,10] 3 σ=⟨tmps 105 [(1,.int .i64 g),(2,.ptr (stk++[cur]).length 0 nx 0),(6,w1),(7,.arr (stk++[cur]).length 1 (nx+1) 0 n),(8,.arr (stk++[cur]).length 2 (nx+1+1) 0 n),(9,.bool z.2.2.2),(10,.int .i64 z.1)],⟨stk++[cur],[⟨nx,[ty,tx,fs]⟩,⟨nx+1,cs⟩,⟨nx+1+1,bools z.2.1⟩],nz,e::live,fl⟩⟩) (fun z=>n-z.1) (0,kn0,out0,false) ?_ ?_
   ·refine⟨⟨w0c _,SR.zero nxf n st (InT d.types) hR0⟩,?_⟩
    simp only[go_sem,G0,G1]
    exact⟨_,_,_,hcs,rfl⟩
   ·clear hcs
    rintro⟨i,kn,out,ch⟩ σ ⟨⟨hi,hSR⟩,nz,e,cs,hcs,hσ⟩
    rw[hσ]
    clear hσ σ
    dsimp only at hi hSR hcs⊢
    have hkl:=hSR.r.r.len1
    have hol:=hSR.r.r.len2
    by_cases hin:i<n
    ·have hixi:idx (.int .i64 (i:Int)) n=some i:=zw .i64 i n hin
     have hsu:IntKind.i64.wrap ((i:Int)+1)=((i+1:Nat):Int):=by rw[zc (by omega) (by omega)];omega
     have hgk:=xV (s:=kn) (j:=i) (by omega)
     cases hki:kn.getD i false
     ·rw[hki] at hgk
      simp only[go_sem,G0,G1,G2,hq1l,w03,hin,za,hixi,w15,hgk,hsu]
      exact⟨(i+1,kn,out,ch),by dsimp only;omega,⟨hin,hSR.skip nxf n st (InT d.types) hki⟩,nz,e,cs,hcs,rfl⟩
     ·rw[hki] at hgk
      have hic:i<f.code.length:=by omega
      obtain⟨c1,c2,c3⟩:=hC.at hic
      obtain⟨yi,hyi,hyis⟩:=qH hcs (k:=i) (by omega)
      have htl:=hSR.r.len i
      simp only[go_sem,G3,G0,G1,G2,hq1l,w03,hin,za,hixi,w15,hgk,q1.at .i64 hic,q1.inA hic,hyi]
      refine(hAf _ c1 c2 (hNear i hin) _ _ hyis (hSR.r.t i) (by omega) _ _ _).xw fun r ts n1 ⟨q,hr,hq⟩=> ?_
      subst hr
      have hlive: ∃e',pushToks ts (e::live)=e'::live:=by cases ts<;>exact⟨_,rfl⟩
      obtain⟨e',he'⟩:=hlive
      simp only[he',←hstF]
      cases hs:st i (out.getD i []) with
      |none=>
       simp only[go_sem,G0,G2,Option.isSome_none]
       have hng: ¬GoodS nxf st n:=T4 nxf st hSR.r.r hki hs
       rw[zg fun hh=>hng (hGF.1 (hSC.1 hh).1)]
       exact z0O fun hh=>hng (hGF.1 hh)
      |some l=>
       have hql:IsSl IsI 1 l q:=hq l (by rw[←hstF];exact hs)
       have hlt:=hstok i hin _ _ (hSR.r.t i) hs
       simp only[go_sem,G0,G2,Option.isSome_some]
       refine(z16 f.code w1 q1 i hic (Tn c1) _).xv fun y k1 ⟨hy,hyt⟩=> ?_
       rw[hnxt] at hy
       simp only[go_sem,G3,G0,G2]
       refine zb (α:=Nat×List Bool×List (List Int)×Bool) (fun z σ=>(z.1≤(nxf i).length∧SQ nxf n st (InT d.types) kn0 out0 i l ((nxf i).take z.1) z.2.1 z.2.2.1 z.2.2.2)∧ ∃nz cs,lists z.2.2.1 cs∧heads [1,2,6,7,8,9,10,11,13,14] 3 σ=⟨tmps 105 [(1,.int .i64 g),(2,.ptr (stk++[cur]).length 0 nx 0),(6,w1),(7,.arr (stk++[cur]).length 1 (nx+1) 0 n),(8,.arr (stk++[cur]).length 2 (nx+1+1) 0 n),(9,.bool z.2.2.2),(10,.int .i64 i),(11,q),(13,y),(14,.int .i64 z.1)],⟨stk++[cur],[⟨nx,[ty,tx,fs]⟩,⟨nx+1,cs⟩,⟨nx+1+1,bools z.2.1⟩],nz,e'::live,fl⟩⟩) (fun z=>(nxf i).length-z.1) (0,kn,out,ch) ?_ ?_
       ·refine⟨⟨w0c _,hSR,hki,hs,hlt,fun k hk=>by cases hk⟩,?_⟩
        simp only[go_sem,G0,G1]
        exact⟨_,_,hcs,rfl⟩
       ·clear hcs hki hgk hyi hyis hs htl hkl hol hSR
        rintro⟨j,kn,out,ch⟩ σ ⟨⟨hj,hSQ⟩,nz,cs,hcs,hσ⟩
        rw[hσ]
        clear hσ σ
        dsimp only at hj hSQ hcs⊢
        have hkl:=hSQ.r.r.r.len1
        have hol:=hSQ.r.r.r.len2
        by_cases hjn:j<(nxf i).length
        ·have hkn:=hnx i hin (nxf i)[j] (w08 hjn)
         have hmem:(nxf i)[j]∈nxf i:=w08 hjn
         have hts:(nxf i).take (j+1)=(nxf i).take j++[(nxf i)[j]]:=w14 hjn
         have e1:nth y j= .int .i64 ((nxf i)[j]:Nat):=hy.nth hjn
         have hatj:=hy.at .i64 hjn
         generalize hK:(nxf i)[j]=k at*
         have hlen2:(nxf i).length≤2:=by rw[←hnxt];exact TS _ _
         have hsj:IntKind.i64.wrap ((j:Int)+1)=((j+1:Nat):Int):=by rw[zc (by omega) (by omega)];omega
         have hixk:idx (.int .i64 (k:Nat)) n=some k:=zw .i64 k n hkn
         have hgk:=xV (s:=kn) (j:=k) (by omega)
         obtain⟨yk,hyk,hyks⟩:=qH hcs (k:=k) (by omega)
         have hltj:((j:Int)<((nxf i).length:Nat))=True:=eq_true (by omega)
         have hSI:=fun m=>(qi _ _ _ _ hyks hql m).eq
         cases hkk:kn.getD k false
         ·rw[hkk] at hgk
          have hst1:=tW (s:=kn) (j:=k) true (by omega)
          have hbl1:k+1≤(bools kn).length:=by rw[tX];omega
          have hbl2:k+1≤cs.length:=by rw[hcs.1];omega
          simp only[go_sem,G0,G1,G2,hy.len,hltj,hatj,e1,za,hixk,w15,hgk,hql.refs_cells,hql.one,hbl2,hbl1,hst1,hsj]
          refine⟨(j+1,kn.set k true,out.set k l,true),by dsimp only;omega,⟨hjn,?_⟩,nz,_,z3F hcs (by omega) hql,rfl⟩
          dsimp only
          rw[hts]
          exact hSQ.new nxf n st (InT d.types) hkn hmem hkk
         ·rw[hkk] at hgk
          by_cases heq:out.getD k []=l
          ·have hd:decide (out.getD k []=l)=true:=decide_eq_true heq
           simp only[go_sem,G0,G1,G2,hy.len,hltj,hatj,e1,za,hixk,w15,hgk,hyk,hSI,hd,hsj]
           refine⟨(j+1,kn,out,ch),by dsimp only;omega,⟨hjn,?_⟩,?_⟩
           ·dsimp only
            rw[hts]
            exact hSQ.same nxf n st (InT d.types) hkk heq
           ·exact⟨_,_,hcs,rfl⟩
          ·have hd:decide (out.getD k []=l)=false:=decide_eq_false heq
           simp only[go_sem,G0,G1,G2,hy.len,hltj,hatj,e1,za,hixk,w15,hgk,hyk,hSI,hd]
           have hng: ¬GoodS nxf st n:=TT nxf st hSQ.r.r.r hSQ.hi hSQ.hs hmem hkk heq
           rw[zg fun hh=>hng (hGF.1 (hSC.1 hh).1)]
           exact z0O fun hh=>hng (hGF.1 hh)
        ·have hje:j=(nxf i).length:=by omega
         subst hje
         rw[w09] at hSQ
         simp only[go_sem,G0,G1,G2,hy.len,show(((nxf i).length:Nat):Int)<((nxf i).length:Nat)↔False from⟨fun h=>by omega,False.elim⟩,hsu]
         exact⟨(i+1,kn,out,ch),by dsimp only;omega,⟨hin,hSQ.fin nxf n st (InT d.types)⟩,nz,e',cs,hcs,rfl⟩
    ·have hie:i=n:=by omega
     subst hie
     simp only[go_sem,G0,G1,G2,hq1l,w03,hin]
     refine⟨(kn,out,ch),?_,⟨hSR.r,fun ec=> ?_⟩,nz,e,cs,hcs,rfl⟩
     ·dsimp only
      have h1:=hSR.le
      cases ch
      ·simp;omega
      ·have:=hSR.lt rfl
       simp;omega
     ·dsimp only at ec
      subst ec
      exact hSR.done nxf _ st (InT d.types)
theorem ze0 (l:List DInstr) (x:AV) (hx:IsSl IsInstr 4 l x) (hc:CodeP l) (h7:Ok07 l) (m:Mem) (hf:m.floor≤m.stk.length+1):
  CallArr vA [x] l.length (fun cs=> ∃s:List Bool,cs=bools s∧s.length=l.length∧ ∀i,s.getD i false=true↔Rch (nxt l) i) id m:=by
 refine XG UM ?_
 obtain⟨stk,cur,nx,live,fl⟩:=m
 dsimp only at hf
 have hln:=hc.len
 have hmx:=hx.max
 have hf':fl≤(stk++[cur]).length:=by simp;omega
 have hnx:=fun i hi=>QE hc h7 (i:=i) hi
 have hl0:0<(List.replicate l.length false).length:=by simp;omega
 have hst0:=tW (s:=List.replicate l.length false) (j:=0) true hl0
 have hbl0:0+1≤(bools (List.replicate l.length false)).length:=by rw[tX];omega
 have hix0:idx (.int .i64 0) l.length=some 0:=zw .i64 0 l.length (by omega)
 simp only[w24,w2e,w39] at hst0 hbl0
 simp only[qd,List.map,go_sem,G0,G2,hx.len,xx (s:=1) (bytes:=1) (n:=l.length) (z:=[.bool false]) (by omega) (by omega) rfl,YI,za,hix0,w15,hbl0,hst0]
 refine zb (α:=List Bool×Bool) (fun z σ=>(RInv (nxt l) l.length z.1∧(z.2=false→ ∀i,z.1.getD i false=true↔Rch (nxt l) i))∧ ∃nz,heads [0,3,4] 1 σ=⟨tmps 50 [(0,x),(3,.arr (stk++[cur]).length 0 nx 0 l.length),(4,.bool z.2)],⟨stk++[cur],[⟨nx,bools z.1⟩],nz,[]::live,fl⟩⟩) (fun z=>2*unm z.1+(if z.2 then 1 else 0)) ((List.replicate l.length false).set 0 true,true) ?_ ?_
 ·refine⟨⟨RInv.start (nxt l) l.length (by omega),fun e=>by cases e⟩,?_⟩
  simp only[go_sem,G0,G1]
  exact⟨_,rfl⟩
 ·rintro⟨s,ch⟩ σ ⟨⟨hR,hdone⟩,nz,hσ⟩
  rw[hσ]
  clear hσ σ
  dsimp only at hR hdone⊢
  cases ch with
  |false=>
   simp only[go_sem,G0,G1,G2]
   exact Q9 (w:=id) (.inl rfl) (cs:=bools s) rfl (z0a _ _ _ _) ⟨_,rfl,hR.len,hdone rfl⟩
  |true=>
   simp only[go_sem,G0,G1,G2]
   refine zb (α:=Nat) (fun i σ=>i≤l.length∧ ∃nz,heads [0,3,4,5] 1 σ=⟨tmps 50 [(0,x),(3,.arr (stk++[cur]).length 0 nx 0 l.length),(4,.bool (ledR (nxt l) s i).2),(5,.int .i64 i)],⟨stk++[cur],[⟨nx,bools (ledR (nxt l) s i).1⟩],nz,[]::live,fl⟩⟩) (fun i=>l.length-i) 0 ?_ ?_
   ·refine⟨w0c _,?_⟩
    simp only[go_sem,G0,G1,ledR]
    exact⟨_,rfl⟩
   ·rintro i σ ⟨hi,nz,hσ⟩
    rw[hσ]
    clear hσ σ
    dsimp only at hi⊢
    by_cases h:i<l.length
    ·have hK:=Q2 (nxt l) l.length hnx hR i hi
     have hstep:ledR (nxt l) s (i+1)=ledI (nxt l) (ledR (nxt l) s i) i:=rfl
     have hsu:IntKind.i64.wrap ((i:Int)+1)=((i+1:Nat):Int):=zd h hmx
     have hixi:idx (.int .i64 (i:Int)) l.length=some i:=zw .i64 i l.length h
     simp only[go_sem,G0,G1,G2,w03,h,hx.len]
     refine(z16 l x hx i h (Tn (hc.at h).1) _).xv fun y k1 ⟨hy,hyt⟩=> ?_
     simp only[go_sem,G0,G2]
     generalize ledR (nxt l) s i=p0 at*
     have hpl:=hK.r.len
     by_cases hin:p0.1.getD i false=true
     ·have hfold: ∀q,q≤(nxt l i).length→LK (nxt l) l.length s i (((nxt l i).take q).foldl ledK p0)∧(((nxt l i).take q).foldl ledK p0).1.getD i false=true:=fun q hq=>by
       have:=QM (nxt l) l.length hK hin (ks:=(nxt l i).take q) (done:=[]) (fun k hk=>⟨w4b hk,hnx i h k (w4b hk)⟩) (fun _ k hk=>by cases hk)
       exact⟨this.1,this.2.1⟩
      refine zb (α:=Nat) (fun q σ=>q≤(nxt l i).length∧ ∃nz,heads [0,3,4,5,6,7] 1 σ=⟨tmps 50 [(0,x),(3,.arr (stk++[cur]).length 0 nx 0 l.length),(4,.bool (((nxt l i).take q).foldl ledK p0).2),(5,.int .i64 i),(6,y),(7,.int .i64 q)],⟨stk++[cur],[⟨nx,bools (((nxt l i).take q).foldl ledK p0).1⟩],nz,[]::live,fl⟩⟩) (fun q=>(nxt l i).length-q) 0 ?_ ?_
      ·refine⟨w0c _,?_⟩
       simp only[go_sem,G0,G1,w24,List.foldl_nil]
       exact⟨_,rfl⟩
      ·rintro q σ ⟨hq,nz,hσ⟩
       rw[hσ]
       clear hσ σ
       dsimp only at hq⊢
       obtain⟨hKq,hiq⟩:=hfold q hq
       by_cases hqn:q<(nxt l i).length
       ·have hsucc:((nxt l i).take (q+1)).foldl ledK p0=ledK (((nxt l i).take q).foldl ledK p0) (nxt l i)[q]:=by rw[w14 hqn,List.foldl_append];rfl
        have hkn:=hnx i h (nxt l i)[q] (w08 hqn)
        generalize ((nxt l i).take q).foldl ledK p0=p at*
        have hpl2:=hKq.r.len
        have e1:nth y q= .int .i64 ((nxt l i)[q]:Nat):=hy.nth hqn
        have hsq:IntKind.i64.wrap ((q:Int)+1)=((q+1:Nat):Int):=by have:=TS l i;rw[zc (by omega) (by omega)];omega
        have hgi:=xV (s:=p.1) (j:=i) (by omega)
        rw[hiq] at hgi
        have hixk:idx (.int .i64 ((nxt l i)[q]:Nat)) l.length=some (nxt l i)[q]:=zw .i64 _ l.length hkn
        have hgk:=xV (s:=p.1) (j:=(nxt l i)[q]) (by omega)
        have hlt:((q:Int)<((nxt l i).length:Nat))=True:=eq_true (by omega)
        simp only[go_sem,G0,G1,G2,hy.len,hlt,za,hixi,w15,hgi,hy.at .i64 hqn,e1,hixk,hgk]
        cases hk:p.1.getD (nxt l i)[q] false
        ·have hst:=tW (s:=p.1) (j:=(nxt l i)[q]) true (by omega)
         have hbl:(nxt l i)[q]+1≤(bools p.1).length:=by rw[tX];omega
         simp only[go_sem,G0,G2,hy.at .i64 hqn,e1,za,hixk,w15,hbl,hst,hsq]
         refine⟨q+1,by omega,by omega,nz,?_⟩
         rw[hsucc];unfold ledK;rw[hk];rfl
        ·simp only[go_sem,G0,G2,hsq]
         refine⟨q+1,by omega,by omega,nz,?_⟩
         rw[hsucc];unfold ledK;rw[hk];rfl
       ·have hqe:q=(nxt l i).length:=by omega
        subst hqe
        rw[w09] at*
        simp only[go_sem,G0,G1,G2,hy.len,show(((nxt l i).length:Nat):Int)<((nxt l i).length:Nat)↔False from⟨fun h=>by omega,False.elim⟩,hsu]
        refine⟨i+1,by omega,by omega,nz,?_⟩
        rw[hstep];unfold ledI;rw[hin];rfl
     ·have hin':p0.1.getD i false=false:=by simpa using hin
      have hgi:=xV (s:=p0.1) (j:=i) (by omega)
      rw[hin'] at hgi
      rw[yg]
      by_cases hq0:((0:Int)<((nxt l i).length:Nat))
      ·simp only[go_sem,G0,G1,G2,hy.len,hq0,za,hixi,w15,hgi,hsu]
       refine⟨i+1,by omega,by omega,k1,?_⟩
       rw[hstep];unfold ledI;rw[hin'];rfl
      ·simp only[go_sem,G0,G1,G2,hy.len,hq0,hsu]
       refine⟨i+1,by omega,by omega,k1,?_⟩
       rw[hstep];unfold ledI;rw[hin'];rfl
    ·have hie:i=l.length:=by omega
     subst hie
     have hK:=Q2 (nxt l) l.length hnx hR l.length (w0b _)
     simp only[go_sem,G0,G1,G2,w03,h,hx.len]
     refine⟨ledR (nxt l) s l.length,?_,⟨hK.r,fun e j=>by rw[(hK.eq e).1];exact z9L (nxt l) l.length hnx hR e j⟩,_,rfl⟩
     have h1:=hK.le
     cases hch:(ledR (nxt l) s l.length).2
     ·simp;omega
     ·have:=hK.lt hch
      simp;omega
end Go.Proofs.W
end
section
namespace Go.Vs
section
variable (nx : Nat → List Nat) (n : Nat) (W : Nat → Nat) (p0 : Nat)
abbrev MS:=List Bool×List Nat
def updM (s:MS) (k:Nat) (fr:Option Nat):MS×Bool:=
 match fr with
 |none=>((s.1.set k true,s.2.set k p0),true)
 |some i=>if s.1.getD k false then((s.1,s.2.set k (s.2.getD k 0&&&(s.2.getD i 0|||W i))),(s.2.getD k 0&&&(s.2.getD i 0|||W i)) !=s.2.getD k 0) else((s.1.set k true,s.2.set k (s.2.getD i 0|||W i)),true)
def phi:List Bool→List Nat→Nat
 |b::s,o::r=>(if b then o else 65536)+phi s r
 |_,_=>0
theorem z0H: ∀{s:List Bool} {o:List Nat} {k v:Nat} {b:Bool},k<s.length→k<o.length→phi (s.set k b) (o.set k v)+(if s.getD k false then o.getD k 0 else 65536)=phi s o+(if b then v else 65536)
 | [],_,_,_,_,h,_=>by simp at h
 |_::_,[],_,_,_,_,h=>by simp at h
 |b0::s,o0::o,0,v,b,_,_=>by simp[phi];omega
 |b0::s,o0::o,k+1,v,b,h,h'=>by
  have:=z0H (s:=s) (o:=o) (k:=k) (v:=v) (b:=b) (by simpa using h) (by simpa using h')
  simp only[w4d,phi,List.getD_cons_succ];omega
theorem zb8: ∀(s:List Bool) (o:List Nat),(∀j,o.getD j 0<65536)→phi s o≤s.length*65536
 | [],_,_=>by simp[phi]
 |_::_,[],_=>by simp[phi]
 |b::s,o0::o,h=>by
  have h0:=h 0
  have:=zb8 s o (fun j=>by have:=h (j+1);simpa using this)
  simp only[List.getD_cons_zero] at h0
  simp only[phi,w29,w42]
  split<;>omega
theorem z0I {a b:Nat} (h:a<65536) (k:b<65536):a|||b<65536:=Nat.or_lt_two_pow (n:=16) h k
theorem zbl {a b:Nat} (h:a<65536):a&&&b<65536:=Nat.lt_of_le_of_lt Nat.and_le_left h
theorem Qh {a b:Nat} (h:a&&&b≠a):a&&&b<a:=Nat.lt_of_le_of_ne Nat.and_le_left h
structure MI (s:MS):Prop where
 l1:s.1.length=n
 l2:s.2.length=n
 zero:s.1.getD 0 false=true
 sub: ∀i,s.1.getD i false=true→Rch nx i
 un: ∀i,s.1.getD i false=false→s.2.getD i 0=0
 p:Sub (s.2.getD 0 0) p0
 abv: ∀M,Sol nx W p0 M→ ∀i,s.1.getD i false=true→Sub (M i) (s.2.getD i 0)
 lt: ∀i,s.2.getD i 0<65536
structure MJ (s:MS) (op:List Nat):Prop where
 r:MI nx n W p0 s
 cl: ∀j,s.1.getD j false=true→j∈op∨ ∀k∈nx j,s.1.getD k false=true∧Sub (s.2.getD k 0) (s.2.getD j 0|||W j)
 o: ∀j∈op,j<n∧s.1.getD j false=true
 b:op.length+phi s.1 s.2≤n*65536
structure MK (i:Nat) (done:List Nat) (M:Nat) (s:MS) (op:List Nat):Prop where
 r:MI nx n W p0 s
 cl: ∀j,s.1.getD j false=true→j=i∨j∈op∨ ∀k∈nx j,s.1.getD k false=true∧Sub (s.2.getD k 0) (s.2.getD j 0|||W j)
 o: ∀j∈op,j<n∧s.1.getD j false=true
 b:op.length+phi s.1 s.2+1≤n*65536
 hi:s.1.getD i false=true
 d: ∀k∈done,s.1.getD k false=true∧Sub (s.2.getD k 0) (s.2.getD i 0|||W i)
 m:2*phi s.1 s.2+op.length+1≤M
theorem zer {α:Type} {s:List α} {k:Nat} {d:α}:s.set k (s.getD k d)=s:=by
 apply w2c
 intro j
 rw[w36]
 by_cases e:k=j
 ·subst e
  rw[if_pos rfl]
  split
  ·rename_i h;simp[w00,h]
  ·rename_i h;rw[w17 (by omega)]
 ·rw[if_neg e]
theorem MK.k (hW: ∀i,W i<65536) {i k M:Nat} {done:List Nat} {s:MS} {op:List Nat} (h:MK nx n W p0 i done M s op) (hk:k∈nx i) (hkn:k<n):MK nx n W p0 i (done++[k]) M (procK (updM W p0) i (s,op) k).1 (procK (updM W p0) i (s,op) k).2:=by
 unfold procK updM
 dsimp only
 obtain⟨met,out⟩:=s
 have hl1:k<met.length:=by rw[h.r.l1];exact hkn
 have hl2:k<out.length:=by rw[h.r.l2];exact hkn
 by_cases hs:met.getD k false=true
 ·simp only[hs,if_true]
  by_cases he:out.getD k 0&&&(out.getD i 0|||W i)=out.getD k 0
  ·have hb:(out.getD k 0&&&(out.getD i 0|||W i) !=out.getD k 0)=false:=by simpa using he
   rw[hb,he,zer]
   refine⟨h.r,h.cl,h.o,h.b,h.hi,fun k' hk'=> ?_,h.m⟩
   rcases w0a.1 hk' with q|q
   ·exact h.d k' q
   ·rw[w11.1 q]
    exact⟨hs,by dsimp only;rw[←he];exact z00 _ _⟩
  ·have hb:(out.getD k 0&&&(out.getD i 0|||W i) !=out.getD k 0)=true:=by simpa using he
   have hki:k≠i:=fun e=>he (by subst e;exact Sub.antisymm (UK _ _) (Sub.and (.refl _) fun s x=>by rw[Nat.testBit_or,x];rfl))
   rw[hb]
   simp only[if_true]
   have hlt:=Qh he
   have hph:=z0H (s:=met) (o:=out) (k:=k) (v:=out.getD k 0&&&(out.getD i 0|||W i)) (b:=true) hl1 hl2
   rw[z5J hs,hs] at hph
   simp only[if_true] at hph
   have hget: ∀j,j≠k→(out.set k (out.getD k 0&&&(out.getD i 0|||W i))).getD j 0=out.getD j 0:=fun j hj=>getD_set_ne (Ne.symm hj)
   have hgk:(out.set k (out.getD k 0&&&(out.getD i 0|||W i))).getD k 0=out.getD k 0&&&(out.getD i 0|||W i):=getD_set_eq hl2
   have hsub: ∀j,Sub ((out.set k (out.getD k 0&&&(out.getD i 0|||W i))).getD j 0) (out.getD j 0):=fun j=>by
    by_cases e:j=k
    ·subst e;rw[hgk];exact UK _ _
    ·rw[hget j e];exact .refl _
   refine⟨⟨h.r.l1,by simp[h.r.l2],h.r.zero,h.r.sub,fun j hj=> ?_,(hsub 0).trans h.r.p,fun M hM j hj=> ?_,fun j=>Nat.lt_of_le_of_lt (hsub j).le (h.r.lt j)⟩,fun j hj=> ?_,fun j hj=> ?_,?_,h.hi,fun k' hk'=> ?_,?_⟩
   ·have e:j≠k:=fun e=>by subst e;rw[hs] at hj;cases hj
    rw[hget j e];exact h.r.un j hj
   ·by_cases e:j=k
    ·subst e;rw[hgk]
     exact Sub.and (h.r.abv M hM _ hj) ((hM.2 i (h.r.sub i h.hi) _ hk).trans (Sub.or (h.r.abv M hM i h.hi) (.refl _)))
    ·rw[hget j e];exact h.r.abv M hM j hj
   ·by_cases e:j=k
    ·subst e;exact .inr (.inl (by simp))
    ·rcases h.cl j hj with q|q|q
     ·exact .inl q
     ·exact .inr (.inl (by simp[q]))
     ·exact .inr (.inr fun k' hk'=>⟨(q k' hk').1,by rw[hget j e];exact(hsub k').trans (q k' hk').2⟩)
   ·rcases w0a.1 hj with q|q
    ·exact h.o j q
    ·rw[w11.1 q];exact⟨hkn,hs⟩
   ·have:=h.b;simp only[w04,w1d] at this⊢;(try dsimp only at this);omega
   ·rw[hget i (Ne.symm hki)]
    rcases w0a.1 hk' with q|q
    ·exact⟨(h.d k' q).1,(hsub k').trans (h.d k' q).2⟩
    ·rw[w11.1 q];exact⟨hs,by rw[hgk];exact z00 _ _⟩
   ·have:=h.m;simp only[w04,w1d];(try dsimp only at this);omega
 ·have hs':met.getD k false=false:=by simpa using hs
  have hki:k≠i:=fun e=>by subst e;exact hs h.hi
  simp only[hs',w28,if_false,if_true]
  have hph:=z0H (s:=met) (o:=out) (k:=k) (v:=out.getD i 0|||W i) (b:=true) hl1 hl2
  rw[hs'] at hph
  simp only[if_true,w28,if_false] at hph
  have hv:=z0I (h.r.lt i) (hW i)
  dsimp only at hv
  have hget: ∀j,j≠k→(out.set k (out.getD i 0|||W i)).getD j 0=out.getD j 0:=fun j hj=>getD_set_ne (Ne.symm hj)
  have hgk:(out.set k (out.getD i 0|||W i)).getD k 0=out.getD i 0|||W i:=getD_set_eq hl2
  have hmet: ∀j,j≠k→(met.set k true).getD j false=met.getD j false:=fun j hj=>getD_set_ne (Ne.symm hj)
  have h0:0≠k:=fun e=>by subst e;rw[h.r.zero] at hs';cases hs'
  refine⟨⟨by simp[h.r.l1],by simp[h.r.l2],zB h.r.zero,fun j hj=> ?_,fun j hj=> ?_,by rw[hget 0 h0];exact h.r.p,fun M hM j hj=> ?_,fun j=> ?_⟩,fun j hj=> ?_,fun j hj=> ?_,?_,zB h.hi,fun k' hk'=> ?_,?_⟩
  ·by_cases e:j=k
   ·subst e;exact .step (h.r.sub i h.hi) hk
   ·rw[hmet j e] at hj;exact h.r.sub j hj
  ·by_cases e:j=k
   ·subst e;rw[zL hl1] at hj;cases hj
   ·rw[hmet j e] at hj;rw[hget j e];exact h.r.un j hj
  ·by_cases e:j=k
   ·subst e;rw[hgk]
    exact(hM.2 i (h.r.sub i h.hi) _ hk).trans (Sub.or (h.r.abv M hM i h.hi) (.refl _))
   ·rw[hmet j e] at hj;rw[hget j e];exact h.r.abv M hM j hj
  ·by_cases e:j=k
   ·subst e;rw[hgk];exact hv
   ·rw[hget j e];exact h.r.lt j
  ·by_cases e:j=k
   ·subst e;exact .inr (.inl (by simp))
   ·rw[hmet j e] at hj
    rcases h.cl j hj with q|q|q
    ·exact .inl q
    ·exact .inr (.inl (by simp[q]))
    ·refine .inr (.inr fun k' hk'=> ?_)
     have hkk:k'≠k:=fun e'=>by subst e';rw[(q k' hk').1] at hs';cases hs'
     exact⟨zB (q k' hk').1,by rw[hget j e,hget k' hkk];exact(q k' hk').2⟩
  ·rcases w0a.1 hj with q|q
   ·exact⟨(h.o j q).1,zB (h.o j q).2⟩
   ·rw[w11.1 q];exact⟨hkn,zL hl1⟩
  ·have:=h.b;simp only[w04,w1d] at this⊢;(try dsimp only at this);omega
  ·rw[hget i (Ne.symm hki)]
   rcases w0a.1 hk' with q|q
   ·have hkk:k'≠k:=fun e'=>by subst e';have:=(h.d k' q).1;rw[this] at hs';cases hs'
    exact⟨zB (h.d k' q).1,by rw[hget k' hkk];exact(h.d k' q).2⟩
   ·rw[w11.1 q];exact⟨zL hl1,by rw[hgk];exact .refl _⟩
  ·have:=h.m;simp only[w04,w1d];(try dsimp only at this);omega
theorem MK.all (hW: ∀i,W i<65536) {i M:Nat}: ∀{ks done:List Nat} {s:MS} {op:List Nat},MK nx n W p0 i done M s op→(∀k∈ks,k∈nx i∧k<n)→MK nx n W p0 i (done++ks) M (proc (updM W p0) i ks (s,op)).1 (proc (updM W p0) i ks (s,op)).2
 | [],done,s,op,h,_=>by rw[w1a,z5Q];exact h
 |k::ks,done,s,op,h,hk=>by
  have h1:=h.k nx n W p0 hW (hk k w1c).1 (hk k w1c).2
  have:=MK.all hW h1 (fun k' hk'=>hk k' (w18 _ hk'))
  rw[w0f,List.singleton_append] at this
  rw[z3x];exact this
theorem MJ.pop {s:MS} {op:List Nat} {i:Nat} (h:MJ nx n W p0 s (op++[i])):MK nx n W p0 i [] (2*phi s.1 s.2+(op++[i]).length) s op:=by
 refine⟨h.r,fun j hj=> ?_,fun j hj=>h.o j (w3c _ hj),?_,(h.o i (by simp)).2,fun k hk=>(by cases hk),?_⟩
 ·rcases h.cl j hj with q|q
  ·rcases w0a.1 q with q|q
   ·exact .inr (.inl q)
   ·exact .inl (w11.1 q)
  ·exact .inr (.inr q)
 ·have:=h.b;simp at this;omega
 ·simp;omega
theorem MJ.next (hW: ∀i,W i<65536) (hnx: ∀i,i<n→ ∀k∈nx i,k<n) {s:MS} {op:List Nat} {i:Nat} (h:MJ nx n W p0 s (op++[i])):
  MJ nx n W p0 (proc (updM W p0) i (nx i) (s,op)).1 (proc (updM W p0) i (nx i) (s,op)).2∧2*phi (proc (updM W p0) i (nx i) (s,op)).1.1 (proc (updM W p0) i (nx i) (s,op)).1.2+(proc (updM W p0) i (nx i) (s,op)).2.length<2*phi s.1 s.2+(op++[i]).length:=by
 have hi:=(h.o i (by simp)).1
 have:=MK.all nx n W p0 hW (h.pop nx n W p0) (ks:=nx i) (fun k hk=>⟨hk,hnx i hi k hk⟩)
 rw[w2e] at this
 refine⟨⟨this.r,fun j hj=> ?_,this.o,by have:=this.b;omega⟩,by have:=this.m;omega⟩
 rcases this.cl j hj with q|q|q
 ·subst q;exact .inr this.d
 ·exact .inl q
 ·exact .inr q
theorem MJ.done {s:MS} (h:MJ nx n W p0 s []) (i:Nat):s.2.getD i 0=mskOf nx W p0 i:=by
 have hcl: ∀j,s.1.getD j false=true→ ∀k∈nx j,s.1.getD k false=true∧Sub (s.2.getD k 0) (s.2.getD j 0|||W j):=fun j hj=>(h.cl j hj).elim (fun q=>by cases q) id
 have hr: ∀j,Rch nx j→s.1.getD j false=true:=fun j hj=>by
  induction hj with
  |zero=>exact h.r.zero
  |step _ hk ih=>exact(hcl _ ih _ hk).1
 refine Great.is nx W p0 (o:=fun i=>s.2.getD i 0) ⟨fun j hj=>h.r.un j ?_,⟨h.r.p,fun j hj k hk=>(hcl j (hr j hj) k hk).2⟩,fun M hM j hj=>h.r.abv M hM j (hr j hj)⟩ i
 cases hb:s.1.getD j false with
 |false=>rfl
 |true=>exact absurd (h.r.sub j hb) hj
theorem MJ.start (hn:0<n) (hp:p0<65536):MJ nx n W p0 (updM W p0 (List.replicate n false,List.replicate n 0) 0 none).1 [0]:=by
 have hl:0<(List.replicate n false).length:=by simpa using hn
 have hl2:0<(List.replicate n 0).length:=by simpa using hn
 have hg: ∀j,(List.replicate n false).getD j false=false:=fun j=>by
  simp only[w00,w3d];split<;>rfl
 have hg2: ∀j,(List.replicate n 0).getD j 0=0:=fun j=>by
  simp only[w00,w3d];split<;>rfl
 have hmet: ∀j,j≠0→((List.replicate n false).set 0 true).getD j false=false:=fun j hj=>by rw[getD_set_ne (Ne.symm hj),hg]
 have hout: ∀j,j≠0→((List.replicate n 0).set 0 p0).getD j 0=0:=fun j hj=>by rw[getD_set_ne (Ne.symm hj),hg2]
 have ho0:((List.replicate n 0).set 0 p0).getD 0 0=p0:=getD_set_eq hl2
 have hph:=z0H (s:=List.replicate n false) (o:=List.replicate n 0) (k:=0) (v:=p0) (b:=true) hl hl2
 have hp0:=zb8 (List.replicate n false) (List.replicate n 0) (fun j=>by rw[hg2];omega)
 rw[hg] at hph
 simp only[List.length_replicate,if_true,w28,if_false] at hph hp0
 unfold updM
 dsimp only
 refine⟨⟨by simp,by simp,zL hl,fun j hj=> ?_,fun j hj=> ?_,by dsimp only;rw[ho0];exact .refl _,fun M hM j hj=> ?_,fun j=> ?_⟩,fun j hj=> ?_,fun j hj=> ?_,?_⟩
 ·by_cases e:j=0
  ·subst e;exact .zero
  ·dsimp only at hj;rw[hmet j e] at hj;cases hj
 ·by_cases e:j=0
  ·subst e;dsimp only at hj;rw[zL hl] at hj;cases hj
  ·exact hout j e
 ·by_cases e:j=0
  ·subst e;dsimp only;rw[ho0];exact hM.1
  ·dsimp only at hj;rw[hmet j e] at hj;cases hj
 ·by_cases e:j=0
  ·subst e;dsimp only;rw[ho0];exact hp
  ·dsimp only;rw[hout j e];omega
 ·by_cases e:j=0
  ·subst e;exact .inl (by simp)
  ·dsimp only at hj;rw[hmet j e] at hj;cases hj
 ·rw[w11.1 hj];exact⟨hn,zL hl⟩
 ·simp only[w1d];omega
def livK (i:Nat) (p:List Nat×Bool) (k:Nat):List Nat×Bool:=if(p.1.getD k 0&&&(p.1.getD i 0|||W i)) !=p.1.getD k 0 then(p.1.set k (p.1.getD k 0&&&(p.1.getD i 0|||W i)),true) else p
def livI (led:List Bool) (p:List Nat×Bool) (i:Nat):List Nat×Bool:=if led.getD i false then(nx i).foldl (livK W i) p else p
def livR (led:List Bool) (m:List Nat):Nat→List Nat×Bool
 |0=>(m,false)
 |i+1=>livI nx W led (livR led m i) i
structure VI (m:List Nat):Prop where
 l:m.length=n
 p:Sub (m.getD 0 0) p0
 abv: ∀M,Sol nx W p0 M→ ∀i,Rch nx i→Sub (M i) (m.getD i 0)
 lt: ∀i,m.getD i 0<65536
structure VK (m:List Nat) (j:Nat) (p:List Nat×Bool):Prop where
 r:VI nx n W p0 p.1
 le:p.1.sum≤m.sum
 eq:p.2=false→p.1=m∧ ∀i,i<j→Rch nx i→ ∀k∈nx i,Sub (m.getD k 0) (m.getD i 0|||W i)
 lt:p.2=true→p.1.sum<m.sum
theorem z8D: ∀{m:List Nat} {k v:Nat},k<m.length→(m.set k v).sum+m.getD k 0=m.sum+v
 | [],_,_,h=>by simp at h
 |a::m,0,v,_=>by simp;omega
 |a::m,k+1,v,h=>by
  have:=z8D (m:=m) (k:=k) (v:=v) (by simpa using h)
  simp only[w4d,List.sum_cons,List.getD_cons_succ];omega
theorem QL {m:List Nat} {j i:Nat} (hr:Rch nx i): ∀{ks done:List Nat} {p:List Nat×Bool},VK nx n W p0 m j p→(∀k∈ks,k∈nx i∧k<n)→(p.2=false→ ∀k∈done,Sub (m.getD k 0) (m.getD i 0|||W i))→
  VK nx n W p0 m j (ks.foldl (livK W i) p)∧((ks.foldl (livK W i) p).2=false→ ∀k∈done++ks,Sub (m.getD k 0) (m.getD i 0|||W i))
 | [],done,p,h,_,hd=>⟨h,by rw[w1a];exact hd⟩
 |k::ks,done,p,h,hk,hd=>by
  have hkk:=hk k w1c
  have h1:VK nx n W p0 m j (livK W i p k)∧((livK W i p k).2=false→ ∀k'∈done++[k],Sub (m.getD k' 0) (m.getD i 0|||W i)):=by
   unfold livK
   have hl:k<p.1.length:=by rw[h.r.l];exact hkk.2
   by_cases he:p.1.getD k 0&&&(p.1.getD i 0|||W i)=p.1.getD k 0
   ·have hb:(p.1.getD k 0&&&(p.1.getD i 0|||W i) !=p.1.getD k 0)=false:=by simpa using he
    rw[hb]
    simp only[w28,if_false]
    refine⟨h,fun e k' hk'=> ?_⟩
    rcases w0a.1 hk' with q|q
    ·exact hd e k' q
    ·rw[w11.1 q,←(h.eq e).1,←he];exact z00 _ _
   ·have hb:(p.1.getD k 0&&&(p.1.getD i 0|||W i) !=p.1.getD k 0)=true:=by simpa using he
    rw[hb]
    simp only[if_true]
    have hlt:=Qh he
    have hs:=z8D (m:=p.1) (v:=p.1.getD k 0&&&(p.1.getD i 0|||W i)) hl
    have hget: ∀j,j≠k→(p.1.set k (p.1.getD k 0&&&(p.1.getD i 0|||W i))).getD j 0=p.1.getD j 0:=fun j hj=>getD_set_ne (Ne.symm hj)
    have hgk:(p.1.set k (p.1.getD k 0&&&(p.1.getD i 0|||W i))).getD k 0=p.1.getD k 0&&&(p.1.getD i 0|||W i):=getD_set_eq hl
    have hsub: ∀j,Sub ((p.1.set k (p.1.getD k 0&&&(p.1.getD i 0|||W i))).getD j 0) (p.1.getD j 0):=fun j=>by
     by_cases e:j=k
     ·subst e;rw[hgk];exact UK _ _
     ·rw[hget j e];exact .refl _
    have hle:=h.le
    refine⟨⟨⟨by simp[h.r.l],(hsub 0).trans h.r.p,fun M hM j hj=> ?_,fun j=>Nat.lt_of_le_of_lt (hsub j).le (h.r.lt j)⟩,by dsimp only;omega,fun e=>(by cases e),fun _=>(by dsimp only;omega)⟩,fun e=>(by cases e)⟩
    by_cases e:j=k
    ·subst e;dsimp only;rw[hgk]
     exact Sub.and (h.r.abv M hM _ hj) ((hM.2 i hr _ hkk.1).trans (Sub.or (h.r.abv M hM i hr) (.refl _)))
    ·dsimp only;rw[hget j e];exact h.r.abv M hM j hj
  have:=QL hr h1.1 (fun k' hk'=>hk k' (w18 _ hk')) h1.2
  rw[w0f,List.singleton_append] at this
  exact this
theorem Q1 (hnx: ∀i,i<n→ ∀k∈nx i,k<n) {led:List Bool} (hled: ∀i,led.getD i false=true↔Rch nx i) {m:List Nat} (h:VI nx n W p0 m): ∀j,j≤n→VK nx n W p0 m j (livR nx W led m j)
 |0,_=>⟨h,w0b _,fun _=>⟨rfl,fun i hi=>absurd hi (w38 _)⟩,fun e=>by cases e⟩
 |j+1,hj=>by
  have ih:=Q1 hnx hled h j (by omega)
  unfold livR livI
  split
  ·rename_i hs
   have hr:=(hled j).1 hs
   obtain⟨q1,q3⟩:=QL nx n W p0 hr ih (ks:=nx j) (done:=[]) (fun k hk=>⟨hk,hnx j (by omega) k hk⟩) (fun _ k hk=>by cases hk)
   refine⟨q1.r,q1.le,fun e=>⟨(q1.eq e).1,fun i hi=> ?_⟩,q1.lt⟩
   by_cases hij:i=j
   ·subst hij;intro _;exact q3 e
   ·exact(q1.eq e).2 i (by omega)
  ·rename_i hs
   refine⟨ih.r,ih.le,fun e=>⟨(ih.eq e).1,fun i hi hri=> ?_⟩,ih.lt⟩
   by_cases hij:i=j
   ·subst hij;exact absurd ((hled i).2 hri) hs
   ·exact(ih.eq e).2 i (by omega) hri
theorem zb7 (hn:0<n) (hnx: ∀i,i<n→ ∀k∈nx i,k<n) {i:Nat} (h:Rch nx i):i<n:=by
 induction h with
 |zero=>exact hn
 |step _ hk ih=>exact hnx _ ih _ hk
theorem z9I (hn:0<n) (hnx: ∀i,i<n→ ∀k∈nx i,k<n) {led:List Bool} (hled: ∀i,led.getD i false=true↔Rch nx i) {m:List Nat} (h:VI nx n W p0 m) (e:(livR nx W led m n).2=false) (i:Nat):(if led.getD i false then m.getD i 0 else 0)=mskOf nx W p0 i:=by
 have hK:=(Q1 nx n W p0 hnx hled h n (w0b _)).eq e
 refine Great.is nx W p0 (o:=fun i=>if led.getD i false then m.getD i 0 else 0) ⟨fun j hj=> ?_,⟨?_,fun j hj k hk=> ?_⟩,fun M hM j hj=> ?_⟩ i
 ·dsimp only;rw[if_neg fun q=>hj ((hled j).1 q)]
 ·dsimp only;rw[if_pos ((hled 0).2 .zero)];exact h.p
 ·dsimp only;rw[if_pos ((hled j).2 hj),if_pos ((hled k).2 (.step hj hk))]
  exact hK.2 j (zb7 nx n hn hnx hj) hj k hk
 ·dsimp only;rw[if_pos ((hled j).2 hj)];exact h.abv M hM j hj
theorem Sol.le {M:Nat→Nat} (h:Sol nx W p0 M) {a:Nat} (hp:Sub p0 a) (hw: ∀i,Sub (W i) a) {i:Nat} (hr:Rch nx i):Sub (M i) a:=by
 induction hr with
 |zero=>exact h.1.trans hp
 |step hr hk ih=>exact(h.2 _ hr _ hk).trans (zbb ih (hw _))
theorem VI.start (hn:0<n) (hnx: ∀i,i<n→ ∀k∈nx i,k<n) {a:Nat} (hp:Sub p0 a) (hw: ∀i,Sub (W i) a) (ha:a<65536):VI nx n W p0 ((List.replicate n a).set 0 p0):=by
 have hl:0<(List.replicate n a).length:=by simpa using hn
 have h0:((List.replicate n a).set 0 p0).getD 0 0=p0:=getD_set_eq hl
 have hp':=hp.le
 refine⟨by simp,by rw[h0];exact .refl _,fun M hM j hj=> ?_,fun j=> ?_⟩
 ·by_cases e:j=0
  ·subst e;rw[h0];exact hM.1
  ·rw[getD_set_ne (Ne.symm e)]
   intro s hs
   have:=hM.le nx W p0 hp hw hj s hs
   simp only[w00,w3d]
   split
   ·exact this
   ·rename_i hjn
    exact absurd (zb7 nx n hn hnx hj) hjn
 ·by_cases e:j=0
  ·subst e;rw[h0];omega
  ·rw[getD_set_ne (Ne.symm e)]
   simp only[w00,w3d]
   split
   ·exact ha
   ·simp
end
end Go.Vs
end
section
namespace Go.Proofs.W
open Go.Vs
set_option linter.unusedSimpArgs false
set_option maxRecDepth 100000
def us (s:List Nat):List AV:=s.map fun n:Nat=> .int .u64 (n:Int)
theorem Vj (s:List Nat):(us s).length=s.length:=by simp[us]
theorem jj {s:List Nat} {j:Nat} (h:j<s.length):takeV false 1 ((us s).drop j)=some (.int .u64 ((s.getD j 0:Nat):Int)):=by
 refine li _ _ ?_
 rw[List.head?_drop]
 simp[us,w00,h]
theorem Vi {s:List Nat} {j:Nat} (v:Nat) (h:j<s.length):(us s).take j++[.int .u64 (v:Int)]++(us s).drop (j+1)=us (s.set j v):=by
 unfold us
 rw[List.map_set,w5b,if_pos (by simpa using h)];simp
theorem z4n (n:Nat):flatRep [.int .u64 0] n=us (List.replicate n 0):=by
 induction n with
 |zero=>rfl
 |succ n ih=>rw[flatRep,ih,w54];rfl
theorem z1o (l l' k:Nat) (s:List Nat):shiftAll l l' k (us s)=us s:=by
 induction s with
 |nil=>rfl
 |cons b r ih=>simp only[us,w35,shiftAll,AV.shift] at ih⊢;rw[ih]
theorem UA (a:Nat) (h:a<65536):(BitVec.ofInt 64 (a:Int)).toNat=a:=by
 rw[BitVec.ofInt_natCast,BitVec.toNat_ofNat];omega
theorem z6J {a b:Nat} (ha:a<65536) (hb:b<65536):evBits .or .u64 (a:Int) (b:Int)=some (.int .u64 ((a|||b:Nat):Int)):=by
 have h:=z0I ha hb
 unfold evBits
 show some (AV.int .u64 (IntKind.u64.wrap (((BitVec.ofInt 64 (a:Int)|||BitVec.ofInt 64 (b:Int):BitVec 64).toNat:Nat):Int)))=_
 rw[BitVec.toNat_or,UA a ha,UA b hb,zH (by omega) (by omega)]
theorem z7X {a b:Nat} (ha:a<65536) (hb:b<65536):evBits .and .u64 (a:Int) (b:Int)=some (.int .u64 ((a&&&b:Nat):Int)):=by
 have h:=zbl (b:=b) ha
 unfold evBits
 show some (AV.int .u64 (IntKind.u64.wrap (((BitVec.ofInt 64 (a:Int)&&&BitVec.ofInt 64 (b:Int):BitVec 64).toNat:Nat):Int)))=_
 rw[BitVec.toNat_and,UA a ha,UA b hb,zH (by omega) (by omega)]
theorem pow16 {s:Nat} (h:s<16):2^s<65536:=Nat.pow_lt_pow_right (by decide) h
theorem zbP {s:Int} (h:0≤s∧s<16):evShift .shl .u64 1 s=some (.int .u64 ((2^s.toNat:Nat):Int)):=by
 have hp:=pow16 (s:=s.toNat) (by omega)
 unfold evShift
 rw[if_neg (by omega)]
 simp only[IntKind.bits,Int.one_mul]
 rw[Nat.min_eq_left (by omega)]
 have:((2:Int)^s.toNat)=((2^s.toNat:Nat):Int):=by simp
 rw[this]
 generalize 2^s.toNat=p at*
 rw[zH (by omega) (by omega)]
theorem z6I {s:Int} (h:0≤s∧s≤16):evShift .shl .u64 1 s=some (.int .u64 ((2^s.toNat:Nat):Int)):=by
 have hp:2^s.toNat≤65536:=w57 (by decide) (show s.toNat≤16 by omega)
 unfold evShift
 rw[if_neg (by omega)]
 simp only[IntKind.bits,Int.one_mul]
 rw[Nat.min_eq_left (by omega)]
 have:((2:Int)^s.toNat)=((2^s.toNat:Nat):Int):=by simp
 rw[this]
 generalize 2^s.toNat=p at*
 rw[zH (by omega) (by omega)]
theorem z7W {a:Nat} {s:Int} (h:0≤s∧s≤16):evShift .shr .u64 (a:Int) s=some (.int .u64 ((a>>>s.toNat:Nat):Int)):=by
 unfold evShift
 rw[if_neg (by omega)]
 simp only[IntKind.bits]
 rw[Nat.min_eq_left (by omega)]
 congr 2
 have:((2:Int)^s.toNat)=((2^s.toNat:Nat):Int):=by simp
 rw[this,Nat.shiftRight_eq_div_pow]
 generalize 2^s.toNat=p at*
 rw[Int.fdiv_eq_ediv_of_nonneg _ (by omega)];simp
def maskK (l:List Int) (k:Nat):Nat:=(l.take k).foldl (fun m s=>m|||2^s.toNat) 0
def maskN (l:List Int):Nat:=maskK l l.length
theorem Tm {l:List Int} {k:Nat} (h:k<l.length):maskK l (k+1)=maskK l k|||2^(l[k]).toNat:=by
 unfold maskK;rw[w14 h,List.foldl_append];rfl
theorem U4 {l:List Int} {n:Nat} (h: ∀s∈l,0≤s∧s<n): ∀k,k≤l.length→maskK l k<2^n
 |0,_=>by unfold maskK;simp;exact Nat.two_pow_pos n
 |k+1,hk=>by
  rw[Tm (by omega)]
  have:=h _ (w08 (show k<l.length by omega))
  exact Nat.or_lt_two_pow (U4 h k (by omega)) (Nat.pow_lt_pow_right (by decide) (by omega))
def Low (l:List Int):Prop:= ∀s∈l,0≤s∧s<16
theorem TX {l:List Int} (h:Low l) {k:Nat} (hk:k≤l.length):maskK l k<65536:=U4 (n:=16) (fun s hs=>by have:=h s hs;omega) k hk
theorem zaG (l:List Int) (x:AV) (hx:IsSl IsI 1 l x) (hl:Low l) (m:Mem):Okv tab Zr [x] m (.int .u64 (maskN l:Nat)):=by
 refine zf z5E ?_
 obtain⟨stk,cur,nx,live,fl⟩:=m
 simp only[Ut,List.map,go_sem,G0,G2,hx.len]
 refine zb (α:=Nat) (fun k σ=>k≤l.length∧ ∃nz,heads [3,6,7,8] 0 σ=⟨tmps 18 [(3,.int .u64 (maskK l k:Nat)),(6,x),(7,.int .i64 l.length),(8,.int .i64 k)],⟨stk++[cur],[],nz,[]::live,fl⟩⟩) (fun k=>l.length-k) 0 ?_ ?_
 ·refine⟨w0c _,?_⟩
  simp only[go_sem,G0,G1]
  exact⟨_,rfl⟩
 ·rintro k σ ⟨hk,nz,hσ⟩
  rw[hσ]
  clear hσ σ
  dsimp only at hk⊢
  by_cases h:k<l.length
  ·have e1:nth x k= .int .i64 l[k]:=hx.nth h
   have hsucc:=zd h hx.max
   have hb:=hl _ (w08 h)
   simp only[go_sem,G0,G1,G2,w03,h,hx.at _ h,e1,zbP hb,z6J (TX hl hk) (pow16 (s:=(l[k]).toNat) (by omega)),hsucc]
   refine⟨k+1,by omega,h,nz,?_⟩
   rw[Tm h]
  ·have:k=l.length:=by omega
   subst this
   simp only[go_sem,G0,G1,G2,w03,h]
   rw[z6 rfl rfl,z8]
   exact⟨⟨_,rfl⟩,rfl⟩
theorem zf7 {c:UInt8} (h:rd c=true):hi c=15:=by
 unfold rd at h
 simp only[w31,beq_iff_eq] at h
 rcases h with rfl|rfl<;>rfl
theorem zf6 {c:UInt8} (h:wt c=true):hi c=15:=by
 unfold wt at h
 simp only[w31,beq_iff_eq] at h
 rcases h with rfl|rfl<;>rfl
theorem z4U {x:DInstr} (hx:InstrP x) (hw:WfI x):Low (rds x):=by
 obtain⟨a,b,c,hs,_⟩:=hx
 have hx:InstrP x:=⟨a,b,c,hs,by assumption⟩
 intro s h
 unfold rds rdsk at h
 simp only[w3a,w53,w47,w0e,decide_eq_true_eq] at h
 obtain⟨k,⟨hk,h1,h2⟩,rfl⟩:=h
 have:=(Z1 hs hx hw hk).2.1
 unfold fitsK at this
 rw[zf7 h1] at this;omega
theorem Q0 {x:DInstr} (hx:InstrP x) (hw:WfI x):Low (wrs x):=by
 obtain⟨a,b,c,hs,_⟩:=hx
 have hx:InstrP x:=⟨a,b,c,hs,by assumption⟩
 intro s h
 unfold wrs wrsk at h
 simp only[w3a,w53,w47,w0e,decide_eq_true_eq] at h
 obtain⟨k,⟨hk,h1,h2⟩,rfl⟩:=h
 have:=(Z1 hs hx hw hk).2.1
 unfold fitsK at this
 rw[zf6 h1] at this;omega
theorem z9k (x:DInstr) (hw:WfI x) (hx:InstrP x) (m:Mem):Okv tab vK [.agg [.int .u8 x.op,.int .i64 x.a,.int .i64 x.b,.int .i64 x.c]] m (.int .u64 (maskN (wrs x):Nat)):=by
 refine zf Ye ?_
 obtain⟨stk,cur,nx,live,fl⟩:=m
 have hl:=Q0 hx hw
 simp only[vE,List.map,go_sem,G3,G0,G2]
 refine(Qs x hw hx _).xv fun r ts n1 ⟨y1,y2,hr,ho⟩=> ?_
 subst hr
 have hy:=ho.r.sl (by have:=Y9 x 3;unfold wrs;omega)
 generalize wrs x=l at*
 simp only[go_sem,G0,G2]
 refine zb (α:=Nat) (fun k σ=>k≤l.length∧ ∃nz e,heads [4,5,6] 1 σ=⟨tmps 26 [(4,y2),(5,.int .u64 (maskK l k:Nat)),(6,.int .i64 k)],⟨stk++[cur],[⟨nx,[.int .u8 x.op,.int .i64 x.a,.int .i64 x.b,.int .i64 x.c]⟩],nz,e::live,fl⟩⟩) (fun k=>l.length-k) 0 ?_ ?_
 ·refine⟨w0c _,?_⟩
  cases ts<;>simp only[go_sem,G0,G1]<;>exact⟨_,_,rfl⟩
 ·rintro k σ ⟨hk,nz,e,hσ⟩
  rw[hσ]
  clear hσ σ
  dsimp only at hk⊢
  by_cases h:k<l.length
  ·have e1:nth y2 k= .int .i64 l[k]:=hy.nth h
   have hsucc:=zd h hy.max
   have hb:=hl _ (w08 h)
   simp only[go_sem,G0,G1,G2,w03,h,hy.len,hy.at _ h,e1,zbP hb,z6J (TX hl hk) (pow16 (s:=(l[k]).toNat) (by omega)),hsucc]
   refine⟨k+1,by omega,h,nz,e,?_⟩
   rw[Tm h]
  ·have:k=l.length:=by omega
   subst this
   simp only[go_sem,G0,G1,G2,w03,h,hy.len]
   rw[z6 rfl rfl,z8]
   exact⟨⟨_,rfl⟩,rfl⟩
theorem z8C (n:Int) (h:0≤n∧n≤16) (m:Mem):Okv tab xM [.int .i64 n] m (.int .u64 ((2^n.toNat-1:Nat):Int)):=by
 refine zf Wb ?_
 obtain⟨stk,cur,nx,live,fl⟩:=m
 have hp:2^n.toNat≤65536:=w57 (by decide) (show n.toNat≤16 by omega)
 have h1:1≤2^n.toNat:=Nat.one_le_two_pow
 have hw:IntKind.u64.wrap (((2^n.toNat:Nat):Int)-1)=((2^n.toNat-1:Nat):Int):=by rw[zH (by omega) (by omega)];omega
 simp only[uA,List.map,go_sem,G0,G2,z6I h,hw]
 rw[z6 rfl rfl,z8]
 exact⟨⟨_,rfl⟩,rfl⟩
theorem zau {S':List (List Blk)} {b0 b1 b2:Blk} {st nx fl n:Nat} {cs:List AV} {rest:List Blk} {live:List (List Nat)} {v:AV} (hv:v.cells=[v]) (hn:n≤cs.length) (hfl:fl≤S'.length) (hb:(n+1)*8≤140737488355328):
  evApp ⟨S',b0::b1::b2::⟨st,cs⟩::rest,nx,live,fl⟩ 1 8 (.grow 1 S'.length 3 st n) (.list 1 .full [v])=some (.grow 1 S'.length 3 nx (n+1),⟨S',b0::b1::b2::⟨nx,cs.take n++[v]⟩::rest,nx+1,live,fl⟩):=by
 unfold evApp
 rw[zh]
 have hblk:Mem.blk ⟨S',b0::b1::b2::⟨st,cs⟩::rest,nx,live,fl⟩ S'.length 3 st=some cs:=by simp[Mem.blk,Mem.row]
 simp only[hblk]
 rw[if_pos (by simp[hn,hfl];omega)]
 simp[Mem.put,hv]
theorem zck {lv:Nat} {a0 a1 a2 a3 b0 b1 b2 b3:Blk} {r:List Blk} {y:AV} {l:List Nat} (h:LI 4 lv (a0::a1::a2::a3::r) y l):LI 4 lv (b0::b1::b2::b3::r) y l:=by
 rcases h with h|⟨k,st,cs,h1,h2,h3,h4,h5⟩
 ·exact .inl h
 ·obtain⟨k,rfl⟩: ∃q,k=q+4:=⟨k-4,by omega⟩
  exact .inr ⟨k+4,st,cs,h1,h2,h3,h4,h5⟩
theorem take4 {α:Type} (a b c e:α) (l:List α):List.take (l.length+4) (a::b::c::e::l)=a::b::c::e::l:=w2f (w0b _)
theorem Q7 {l:List Nat} {i:Nat} (h:i<l.length):l.getD i 0=l[i]:=by rw[w00,w13 h];rfl
theorem z9i (d:DImage) (f:DFunc) (h:FunP d f) (y:AV) (hy:NV d f y) (m:Mem) (hf:m.floor≤m.stk.length+1):
  CallSc vx [y] f.code.length (GoodF d f) (pb (ScrP d f)) (fun cs=>cs=us ((labs d f).map (sumB d.types))) m:=by
 have hy':=hy
 obtain⟨ty,tx,fs,w0,w1,w2,w3,rfl,h0,h1,h2,q0,q1,q2,q3⟩:=hy
 refine z40 ZF ?_
 obtain⟨stk,cur,nx,live,fl⟩:=m
 dsimp only at hf
 have hf':fl≤(stk++[cur]).length+1:=by simp;omega
 have hAf:=fun x hx hw hN l z hz hin hlen c n lv fl'=>zee d h.img h.ty _ _ hy' h.s x hx hw hN l z hz hin hlen ⟨stk++[cur],c,n,lv,fl'⟩
 have hNx:=fun i hi c n lv=>zej f.code w1 q1 h.c h.o i hi ⟨stk++[cur],c,n,lv,fl⟩ hf'
 have hby:=fun ts x hx hin hlen m=>(TE d h.ty f _ hy' ts x hx hin hlen m).eq
 have hln:=h.c.len
 have hnx:=fun i hi=>QE h.c h.o (i:=i) hi
 have hSC:ScrP d f↔GoodF d f∧LastS (nxt f.code) (stF d f) f.code.length:=Iff.rfl
 have hstok:=fun i hi l l' hl hs=>zb0 h (i:=i) hi (l:=l) (l':=l') hl hs
 have hstF: ∀i l,stF d f i l=stS d f (inA f.code i) l:=fun _ _=>rfl
 have hNear:=h.n
 have hC:=h.c
 generalize hn:f.code.length=n at*
 generalize hst:stF d f=st at*
 generalize hnxt:nxt f.code=nxf at*
 have hl0:0<(List.replicate n false).length:=by simp;omega
 have hst0:=tW (s:=List.replicate n false) (j:=0) true hl0
 have hbl0:0+1≤(bools (List.replicate n false)).length:=by rw[tX];omega
 have hix0:idx (.int .i64 0) n=some 0:=zw .i64 0 n (by omega)
 have hq1l:evLen w1=some (.int .i64 n):=by rw[←hn];exact q1.len
 simp only[w24,w2e,w39] at hst0 hbl0
 simp only[vo,List.map,go_sem,G3,G0,G2,hq1l,xx (s:=1) (bytes:=24) (n:=n) (z:=[.nils]) (by omega) (by omega) rfl,xx (s:=1) (bytes:=1) (n:=n) (z:=[.bool false]) (by omega) (by omega) rfl,YI,za,hix0,w15,hbl0,hst0,evLitB,w30,List.flatMap_nil]
 have hT0:InT d.types []:=fun t ht=>by cases ht
 have hGF:GoodF d f↔GoodS nxf st n:=by unfold GoodF;rw[hn,hst,hnxt]
 have hlabs: ∀out:List (List Int),out.length=n→(∀i,out.getD i []=labOf nxf st i)→out=labs d f:=fun out h1 h2=>z8Y (by rw[hn];exact h1) (by rw[hst,hnxt];exact h2)
 have hbox: ∀c:List Blk,(⟨nx,[ty,tx,fs,.str f.name,.int .i64 f.params,.int .i64 f.result,w0,w1,w2,w3]⟩::c:List Blk)=⟨nx,[ty,tx,fs,.str f.name,.int .i64 f.params,.int .i64 f.result,w0,w1,w2,w3]⟩::c:=fun _=>rfl
 refine zb (α:=List Bool×List (List Int)×List Nat) (fun z σ=>SJ nxf n st (InT d.types) z.1 z.2.1 z.2.2∧ ∃nz e cs os st3,lists z.2.1 cs∧z.2.2.length≤os.length∧os.take z.2.2.length=ints z.2.2∧heads [1,4,5,6,7] 4 σ=⟨tmps 136 [(1,.ptr (stk++[cur]).length 0 nx 0),(4,w1),(5,.arr (stk++[cur]).length 1 (nx+1) 0 n),(6,.arr (stk++[cur]).length 2 (nx+1+1) 0 n),(7,.grow 1 (stk++[cur]).length 3 st3 z.2.2.length)],⟨stk++[cur],[⟨nx,[ty,tx,fs,.str f.name,.int .i64 f.params,.int .i64 f.result,w0,w1,w2,w3]⟩,⟨nx+1,cs⟩,⟨nx+1+1,bools z.1⟩,⟨st3,os⟩],nz,e::live,fl⟩⟩) (fun z=>2*unm z.1+z.2.2.length) ((List.replicate n false).set 0 true,List.replicate n [],[0]) ?_ ?_
 ·refine⟨SJ.start nxf n st (InT d.types) (by omega) hT0,?_⟩
  simp only[go_sem,G0,G1]
  exact⟨_,_,_,_,_,z3G n,by simp,rfl,rfl⟩
 ·rintro⟨kn0,out0,op⟩ σ ⟨hJ,nz,e,cs,os,st3,hcs,hos,htk,hσ⟩
  rw[hσ]
  clear hσ σ
  dsimp only at hJ hcs hos htk⊢
  rcases List.eq_nil_or_concat op with rfl|⟨op,i,rfl⟩
  ·obtain⟨hG,hlab⟩:=hJ.done
   have hol:=hJ.r.r.len2
   have hout:=hlabs out0 hol hlab
   have hJt:=hJ.r.t
   have hJl:=hJ.r.len
   subst hout
   simp only[go_sem,G3,G0,G1,G2,XF,w34,show((((0:Nat):Int))>0)=False from eq_false (by decide),hq1l,xx (s:=1) (bytes:=8) (n:=n) (z:=[.int .u64 0]) (by omega) (by omega) rfl]
   have hel:evLen (.arr (stk++[cur]).length 1 (nx+1) 0 n)=some (.int .i64 n):=rfl
   simp only[go_sem,G3,hel]
   refine zb (α:=Nat) (fun k σ=>k≤n∧ ∃so nz e vs,vs.length=n∧(∀j,j<k→vs.getD j 0=sumB d.types ((labs d f).getD j []))∧heads [1,4,5,15,106,107,108] 5 σ=⟨tmps 136 [(1,.ptr (stk++[cur]).length 0 nx 0),(4,w1),(5,.arr (stk++[cur]).length 1 (nx+1) 0 n),(15,.arr (stk++[cur]).length 4 so 0 n),(106,.arr (stk++[cur]).length 1 (nx+1) 0 n),(107,.int .i64 n),(108,.int .i64 k)],⟨stk++[cur],[⟨nx,[ty,tx,fs,.str f.name,.int .i64 f.params,.int .i64 f.result,w0,w1,w2,w3]⟩,⟨nx+1,cs⟩,⟨nx+1+1,bools kn0⟩,⟨st3,os⟩,⟨so,us vs⟩],nz,e::live,fl⟩⟩) (fun k=>n-k) 0 ?_ ?_
   ·refine⟨w0c _,?_⟩
    simp only[go_sem,G0,G1]
    exact⟨_,_,_,List.replicate n 0,by simp,fun j hj=>absurd hj (w38 _),by rw[z4n];rfl⟩
   ·clear hJ hos htk
    rintro k σ ⟨hk,so,nz,e,vs,hvl,hvs,hσ⟩
    rw[hσ]
    clear hσ σ
    dsimp only at hk⊢
    by_cases hkn:k<n
    ·have hixk:idx (.int .i64 (k:Int)) n=some k:=zw .i64 k n hkn
     obtain⟨yk,hyk,hyks⟩:=qH hcs (k:=k) (by omega)
     have hT1:=hJt k
     have hT2:=hJl k
     have hb:=fun m=>hby _ _ hyks hT1 (by omega) m
     have hsu:IntKind.i64.wrap ((k:Int)+1)=((k+1:Nat):Int):=by rw[zc (by omega) (by omega)];omega
     have hB1:sumB d.types ((labs d f).getD k [])≤264*1001:=w4a (TJ h.ty hT1 _ (w0b _)) (Nat.mul_le_mul_left _ (by omega))
     have hwu:IntKind.u64.wrap ((sumB d.types ((labs d f).getD k []):Nat):Int)=((sumB d.types ((labs d f).getD k []):Nat):Int):=zH (by omega) (by omega)
     have hus:=Vi (s:=vs) (j:=k) (sumB d.types ((labs d f).getD k [])) (by omega)
     have hubl:k+1≤(us vs).length:=by rw[Vj];omega
     simp only[go_sem,G3,G0,G1,G2,w03,hkn,za,hixk,w15,hyk,hb,show((0:Int) !=0)=false from rfl,hsu,hwu,hus,hubl]
     refine⟨k+1,by omega,hkn,so,_,e,vs.set k (sumB d.types ((labs d f).getD k [])),by simpa using hvl,fun j hj=> ?_,rfl⟩
     by_cases hjk:k=j
     ·subst hjk
      rw[w00];simp[hvl,hkn]
     ·rw[w00,w36]
      simp only[hjk,if_false]
      rw[←w00];exact hvs j (by omega)
    ·have hke:k=n:=by omega
     subst hke
     have hsub:IntKind.i64.wrap ((k:Int)-1)=((k-1:Nat):Int):=by rw[zc (by omega) (by omega)];omega
     have hixl:idx (.int .i64 ((k-1:Nat):Int)) k=some (k-1):=zw .i64 _ _ (by omega)
     obtain⟨yl,hyl,hyls⟩:=qH hcs (k:=k-1) (by omega)
     simp only[go_sem,G0,G1,G2,w03,hkn,hq1l,hsub,za,hixl,w15,hyl,hyls.len]
     have hb:((((labs d f).getD (k-1) []).length:Int)==0)=pb (ScrP d f):=by
      refine kc ?_
      rw[hSC,hGF,beq_iff_eq,z6m nxf st hG,hlab (k-1)]
      refine⟨fun h=>⟨hG,w1b (by omega)⟩,fun h=>by rw[h.2];rfl⟩
     rw[hb]
     refine z94 (cs:=us vs) rfl (z1o _ _ _ _) ?_
     have hve:vs=(labs d f).map (sumB d.types):=by
      apply List.ext_getElem
      ·rw[hvl,w44,hol]
      ·intro j h1 h2
       have:=hvs j (by omega)
       rw[List.getElem_map,←Q7 (by omega),this]
       congr 1
       simp only[w44] at h2
       rw[w00,w13 h2];rfl
     rw[hve]
  ·rw[List.concat_eq_append] at*
   obtain⟨hi,hki⟩:=hJ.o i (by simp)
   have hb0:=hJ.b
   have hnl:(op++[i]).length=op.length+1:=by simp
   rw[hnl] at hos htk hb0
   have hgt:(((op.length+1:Nat):Int)>0)=True:=eq_true (by omega)
   have hsub:IntKind.i64.wrap (((op.length+1:Nat):Int)-1)=((op.length:Nat):Int):=by rw[zc (by omega) (by omega)];omega
   have hix:idx (.int .i64 ((op.length:Nat):Int)) (op.length+1)=some op.length:=zw .i64 _ _ (by omega)
   have hld:takeV false 1 (os.drop op.length)=some (.int .i64 (i:Nat)):=by
    have h1:os.take (op++[i]).length=ints (op++[i]):=by rw[hnl];exact htk
    have:=ZU h1 (by rw[hnl];exact hos) (j:=op.length) (by simp)
    simpa using this
   have hbd:bound (some (.int .i64 ((op.length:Nat):Int))) (op.length+1) (op.length+1)=some op.length:=by
    unfold bound;simp only;rw[if_pos (by omega)];simp
   have htk2:os.take op.length=ints op:=by
    have:(os.take (op.length+1)).take op.length=(ints (op++[i])).take op.length:=by rw[htk]
    rw[List.take_take,Nat.min_eq_left (by omega)] at this
    rw[this];simp[ints]
   have hic:i<f.code.length:=by omega
   have hixi:idx (.int .i64 (i:Int)) n=some i:=zw .i64 i n hi
   obtain⟨c1,c2,c3⟩:=hC.at hic
   obtain⟨yi,hyi,hyis⟩:=qH hcs (k:=i) (by rw[hJ.r.r.len2];exact hi)
   have htl:=hJ.r.len i
   simp only[go_sem,G3,G0,G1,G2,XF,hnl,hgt,hsub,Qd,hix,w15,hld,Qc,hbd,za,hixi,hyi,q1.at .i64 hic,q1.inA hic]
   refine(hAf _ c1 c2 (hNear i hi) _ _ hyis (hJ.r.t i) (by omega) _ _ _ _).xw fun r ts n1 ⟨q,hr,hq⟩=> ?_
   subst hr
   have hlive: ∃e',pushToks ts (e::live)=e'::live:=by cases ts<;>exact⟨_,rfl⟩
   obtain⟨e',he'⟩:=hlive
   simp only[he',←hstF]
   cases hs:st i (out0.getD i []) with
   |none=>
    have hng: ¬GoodS nxf st n:=T4 nxf st hJ.r.r hki hs
    obtain⟨y,bs,k1,hN,hLI⟩:=hNx i hi [⟨nx,[ty,tx,fs,.str f.name,.int .i64 f.params,.int .i64 f.result,w0,w1,w2,w3]⟩,⟨nx+1,cs⟩,⟨nx+1+1,bools kn0⟩,⟨st3,os⟩] n1 (e'::live)
    simp only[go_sem,G0,G2,Option.isSome_none,hN]
    rw[zg fun hh=>hng (hGF.1 (hSC.1 hh).1)]
    exact z0O fun hh=>hng (hGF.1 hh)
   |some l=>
    have hql:IsSl IsI 1 l q:=hq l (by rw[←hstF];exact hs)
    have hlt:=hstok i hi _ _ (hJ.r.t i) hs
    have hSK:=hJ.pop nxf n st (InT d.types) hs hlt
    obtain⟨y,bs,k1,hN,hLI⟩:=hNx i hi [⟨nx,[ty,tx,fs,.str f.name,.int .i64 f.params,.int .i64 f.result,w0,w1,w2,w3]⟩,⟨nx+1,cs⟩,⟨nx+1+1,bools kn0⟩,⟨st3,os⟩] n1 (e'::live)
    simp only[w29,w34,w39,G3,w21,w2e] at hN hLI
    have hyl:=hLI.len
    simp only[go_sem,G0,G2,Option.isSome_some,hN,show((0:Int) !=0)=false from rfl,hyl]
    refine zb (α:=Nat×List Bool×List (List Int)×List Nat) (fun z σ=>(z.1≤(nxf i).length∧SK nxf n st (InT d.types) i l ((nxf i).take z.1) (2*unm kn0+(op++[i]).length) z.2.1 z.2.2.1 z.2.2.2)∧ ∃nz cs os st3,lists z.2.2.1 cs∧z.2.2.2.length≤os.length∧os.take z.2.2.2.length=ints z.2.2.2∧LI 4 (stk++[cur]).length (⟨nx,[ty,tx,fs,.str f.name,.int .i64 f.params,.int .i64 f.result,w0,w1,w2,w3]⟩::⟨nx+1,cs⟩::⟨nx+1+1,bools z.2.1⟩::⟨st3,os⟩::bs) y (nxf i)∧heads [1,4,5,6,7,9,71,72,73] (bs.length+4) σ=⟨tmps 136 [(1,.ptr (stk++[cur]).length 0 nx 0),(4,w1),(5,.arr (stk++[cur]).length 1 (nx+1) 0 n),(6,.arr (stk++[cur]).length 2 (nx+1+1) 0 n),(7,.grow 1 (stk++[cur]).length 3 st3 z.2.2.2.length),(9,q),(71,y),(72,.int .i64 (nxf i).length),(73,.int .i64 z.1)],⟨stk++[cur],⟨nx,[ty,tx,fs,.str f.name,.int .i64 f.params,.int .i64 f.result,w0,w1,w2,w3]⟩::⟨nx+1,cs⟩::⟨nx+1+1,bools z.2.1⟩::⟨st3,os⟩::bs,nz,e'::live,fl⟩⟩) (fun z=>(nxf i).length-z.1) (0,kn0,out0,op) ?_ ?_
    ·refine⟨⟨w0c _,hSK⟩,?_⟩
     simp only[go_sem,G0,G1,take4]
     exact⟨_,_,_,_,hcs,by omega,htk2,hLI,rfl⟩
    ·clear hcs hki hyi hyis hs htl hJ hSK hos htk htk2 hld hLI hb0
     rintro⟨j,kn,out,op1⟩ σ ⟨⟨hj,hSK⟩,nz,cs,os,st3,hcs,hos,htk,hLI,hσ⟩
     rw[hσ]
     clear hσ σ
     dsimp only at hj hSK hcs hos htk hLI⊢
     have hkl:=hSK.r.r.len1
     have hol:=hSK.r.r.len2
     have hob:=hSK.b
     by_cases hjn:j<(nxf i).length
     ·have hkn:=hnx i hi (nxf i)[j] (w08 hjn)
      have hmem:(nxf i)[j]∈nxf i:=w08 hjn
      have hts:(nxf i).take (j+1)=(nxf i).take j++[(nxf i)[j]]:=w14 hjn
      obtain⟨a,ha,hat⟩:=zcl hLI hjn (nx:=nz) (fl:=fl) (live:=e'::live)
      generalize hK:(nxf i)[j]=k at*
      have hlen2:(nxf i).length≤2:=by rw[←hnxt];exact TS _ _
      have hsj:IntKind.i64.wrap ((j:Int)+1)=((j+1:Nat):Int):=by rw[zc (by omega) (by omega)];omega
      have hixk:idx (.int .i64 (k:Nat)) n=some k:=zw .i64 k n hkn
      have hgk:=xV (s:=kn) (j:=k) (by omega)
      obtain⟨yk,hyk,hyks⟩:=qH hcs (k:=k) (by omega)
      have hltj:((j:Int)<((nxf i).length:Nat))=True:=eq_true (by omega)
      have hSI:=fun m=>(YN _ _ _ _ hyks hql m).eq
      simp only[go_sem,G0,G1,G2,hltj,ha]
      refine z9b hat ?_
      cases hkk:kn.getD k false
      ·rw[hkk] at hgk
       have hst1:=tW (s:=kn) (j:=k) true (by omega)
       have hbl1:k+1≤(bools kn).length:=by rw[tX];omega
       have hbl2:k+1≤cs.length:=by rw[hcs.1];omega
       have happ:=fun b2=>zau (S':=stk++[cur]) (b0:=⟨nx,[ty,tx,fs,.str f.name,.int .i64 f.params,.int .i64 f.result,w0,w1,w2,w3]⟩) (b1:=⟨nx+1,cs⟩) (b2:=b2) (st:=st3) (nx:=nz) (fl:=fl) (n:=op1.length) (cs:=os) (rest:=bs) (live:=e'::live) (v:= .int .i64 (k:Nat)) rfl hos (by simp;omega) (by omega)
       simp only[go_sem,G0,G2,za,hixk,w15,hgk,happ,hql.refs_cells,hql.one,hbl2,hbl1,hst1,hsj,take4]
       refine⟨(j+1,kn.set k true,out.set k l,op1++[k]),by dsimp only;omega,⟨hjn,?_⟩,nz+1,cs.take k++[q]++cs.drop (k+1),os.take op1.length++[.int .i64 (k:Nat)],nz,z3F hcs (by omega) hql,?_,?_,zck hLI,?_⟩
       ·dsimp only
        rw[hts]
        exact hSK.new nxf n st (InT d.types) hkn hmem hkk
       ·dsimp only;simp only[w04,w1d,w1f];omega
       ·dsimp only
        simp only[w04,w1d]
        rw[w2f (by simp;omega),htk];simp[ints]
       ·dsimp only;simp only[w04,w1d]
      ·rw[hkk] at hgk
       by_cases heq:out.getD k []=l
       ·have hd:decide (out.getD k []=l)=true:=decide_eq_true heq
        simp only[go_sem,G0,G2,za,hixk,w15,hgk,hyk,hSI,hd,hsj,take4]
        refine⟨(j+1,kn,out,op1),by dsimp only;omega,⟨hjn,?_⟩,?_⟩
        ·dsimp only
         rw[hts]
         exact hSK.same nxf n st (InT d.types) hkk heq
        ·exact⟨_,_,_,_,hcs,hos,htk,hLI,rfl⟩
       ·have hd:decide (out.getD k []=l)=false:=decide_eq_false heq
        simp only[go_sem,G0,G2,za,hixk,w15,hgk,hyk,hSI,hd]
        have hng: ¬GoodS nxf st n:=TT nxf st hSK.r.r hSK.hi hSK.hs hmem hkk heq
        rw[zg fun hh=>hng (hGF.1 (hSC.1 hh).1)]
        exact z0O fun hh=>hng (hGF.1 hh)
     ·have hje:j=(nxf i).length:=by omega
      subst hje
      rw[w09] at hSK
      obtain⟨h1,h2⟩:=hSK.fin nxf n st (InT d.types)
      simp only[go_sem,G0,G1,G2,show(((nxf i).length:Nat):Int)<((nxf i).length:Nat)↔False from⟨fun h=>by omega,False.elim⟩]
      exact⟨(kn,out,op1),by rw[hnl] at h2;exact h2,h1,_,_,_,_,_,hcs,hos,htk,rfl⟩
theorem z9h (d:DImage) (hd:ImgP d) (f:DFunc) (y:AV) (hy:NV d f y) (hs:SlotsP d f) (x:DInstr) (hx:InstrP x) (hN:NearP d f x) (hop:x.op=1∨x.op=2∨x.op=3∨x.op=4∨x.op=5∨x.op=6∨x.op=7∨x.op=8∨x.op=9∨x.op=10∨x.op=11) (m:Mem) (hf:m.floor≤m.stk.length+1):
  Okv tab zO [y,.agg [.int .u8 x.op,.int .i64 x.a,.int .i64 x.b,.int .i64 x.c]] m (.bool (typP d f x)):=by
 have hy':=hy
 obtain⟨ty,tx,fs,w0,w1,w2,w3,rfl,h0,h1,h2,h3,h4,h5,h6⟩:=hy
 refine zf xa ?_
 obtain⟨stk,cur,nx,live,fl⟩:=m
 dsimp only at hf
 have hf':fl≤(stk++[cur]).length+1:=by simp;omega
 have hsl:=tj hs
 have hS:=fun s m=>(z0X d f _ hy' s m).eq
 have hI:=fun t ht ks z hz m=>(z4f d f _ hy' t ht ks z hz m).eq
 have hE:=fun t e ht ks z hz m=>(z4i d f _ hy' t e ht ks z hz m).eq
 have hM:=fun t i e ht m=>(Uy d f _ hy' t i e ht m).eq
 have hb: ∀X nz,Mem.blk ⟨stk++[cur],[⟨nx,cellsN ty tx fs w0 w1 w2 w3 f⟩,X],nz,[]::live,fl⟩ (stk++[cur]).length 0 nx=some (cellsN ty tx fs w0 w1 w2 w3 f):=fun X nz=>by simp[Mem.blk,Mem.row]
 have hn:=fun l z hz hl X nz=>(z8y d f ty tx fs w0 w1 w2 w3 hy' l z hz hl _ (stk++[cur]).length nx (w0b _) (hb X nz)).eq
 have hfl:=fun t ht X nz=>(z4h d f ty tx fs w0 w1 w2 w3 hy' t ht _ (stk++[cur]).length nx (w0b _) (hb X nz)).eq
 simp only[cellsN] at hn hfl
 have nA:=hn [slotT f x.a] _ (isI1 _ .full) (by simp[hsl])
 have nB:=hn [slotT f x.b] _ (isI1 _ .full) (by simp[hsl])
 have nC:=hn [slotT f x.c] _ (isI1 _ .full) (by simp[hsl])
 have nBC:=hn [slotT f x.b,slotT f x.c] _ (isI2 _ _ .full) (by simp[hsl])
 have nABC:=hn [slotT f x.a,slotT f x.b,slotT f x.c] _ (isI3 _ _ _ .full) (by simp[hsl])
 have gA:=hfl (slotT f x.a) (hsl _)
 have gB:=hfl (slotT f x.b) (hsl _)
 clear hn hfl
 simp only[zZ,List.map,go_sem,G3,G0,G2,hS]
 generalize callNx tab zq _ _=nz
 rcases hop with h|h|h|h|h|h|h|h|h|h|h
 ·skip
  simp only[go_sem,G0,G2,h,nA]
  repeat' (((first|refine zo ?_ ?_|refine zl ?_ ?_|refine zm ?_ ?_|refine zj ?_ ?_|refine zk ?_ ?_)<;>intro hq)<;>simp only[go_sem,reduceIte,G3,G5,G0,G4,G1,G2,hq,nA])
  all_goals
   rw[z6 rfl rfl,z8]
   refine⟨⟨_,rfl⟩,congrArg AV.bool ?_⟩
   unfold typP
   simp only[h,G8,reduceIte,or_false,or_self]<;>first|rfl|simp[*]
 ·skip
  simp only[go_sem,G3,G0,G2,h,G9,hI _ (hsl _) _ _ (isL1 3 .full)]
  repeat' (((first|refine zo ?_ ?_|refine zl ?_ ?_|refine zm ?_ ?_|refine zj ?_ ?_|refine zk ?_ ?_)<;>intro hq)<;>simp only[go_sem,reduceIte,G3,G5,G0,G4,G1,G2,hq,hI _ (hsl _) _ _ (isL1 3 .full)])
  all_goals
   rw[z6 rfl rfl,z8]
   refine⟨⟨_,rfl⟩,congrArg AV.bool ?_⟩
   unfold typP
   simp only[h,G8,reduceIte,or_self]<;>first|rfl|simp[*]
 ·skip
  simp only[go_sem,G0,G2,h,G9,gA]
  repeat' (((first|refine zo ?_ ?_|refine zl ?_ ?_|refine zm ?_ ?_|refine zj ?_ ?_|refine zk ?_ ?_)<;>intro hq)<;>simp only[go_sem,reduceIte,G3,G5,G0,G4,G1,G2,hq,gA])
  all_goals
   rw[z6 rfl rfl,z8]
   refine⟨⟨_,rfl⟩,congrArg AV.bool ?_⟩
   unfold typP
   simp only[h,G8,reduceIte,or_false,or_self]<;>first|rfl|simp[*]
 ·skip
  simp only[go_sem,G0,G2,h,G9]
  repeat' (((first|refine zo ?_ ?_|refine zl ?_ ?_|refine zm ?_ ?_|refine zj ?_ ?_|refine zk ?_ ?_)<;>intro hq)<;>simp only[go_sem,reduceIte,G3,G5,G0,G4,G1,G2,hq,h])
  all_goals
   rw[z6 rfl rfl,z8]
   refine⟨⟨_,rfl⟩,congrArg AV.bool ?_⟩
   unfold typP
   simp only[h,G8,reduceIte,or_self]<;>first|rfl|simp[*]
 ·skip
  simp only[go_sem,G0,G2,h,G9]
  repeat' (((first|refine zo ?_ ?_|refine zl ?_ ?_|refine zm ?_ ?_|refine zj ?_ ?_|refine zk ?_ ?_)<;>intro hq)<;>simp only[go_sem,reduceIte,G3,G5,G0,G4,G1,G2,hq,h])
  all_goals
   rw[z6 rfl rfl,z8]
   refine⟨⟨_,rfl⟩,congrArg AV.bool ?_⟩
   unfold typP
   simp only[h,G8,reduceIte,or_self]<;>first|rfl|simp[*]
 ·skip
  simp only[go_sem,G0,G2,h,G9,nABC]
  repeat' (((first|refine zo ?_ ?_|refine zl ?_ ?_|refine zm ?_ ?_|refine zj ?_ ?_|refine zk ?_ ?_)<;>intro hq)<;>simp only[go_sem,reduceIte,G3,G5,G0,G4,G1,G2,hq,nABC])
  all_goals
   rw[z6 rfl rfl,z8]
   refine⟨⟨_,rfl⟩,congrArg AV.bool ?_⟩
   unfold typP
   simp only[h,G8,reduceIte,or_false,or_self]<;>first|rfl|simp[*]
 ·skip
  simp only[go_sem,G0,G2,h,G9,nABC]
  repeat' (((first|refine zo ?_ ?_|refine zl ?_ ?_|refine zm ?_ ?_|refine zj ?_ ?_|refine zk ?_ ?_)<;>intro hq)<;>simp only[go_sem,reduceIte,G3,G5,G0,G4,G1,G2,hq,nABC])
  all_goals
   rw[z6 rfl rfl,z8]
   refine⟨⟨_,rfl⟩,congrArg AV.bool ?_⟩
   unfold typP
   simp only[h,G8,reduceIte,or_false,or_self,or_true]<;>first|rfl|simp[*]
 ·skip
  simp only[go_sem,G0,G2,h,G9,nABC]
  repeat' (((first|refine zo ?_ ?_|refine zl ?_ ?_|refine zm ?_ ?_|refine zj ?_ ?_|refine zk ?_ ?_)<;>intro hq)<;>simp only[go_sem,reduceIte,G3,G5,G0,G4,G1,G2,hq,nABC])
  all_goals
   rw[z6 rfl rfl,z8]
   refine⟨⟨_,rfl⟩,congrArg AV.bool ?_⟩
   unfold typP
   simp only[h,G8,reduceIte,or_false,or_self,or_true]<;>first|rfl|simp[*]
 ·skip
  simp only[go_sem,G0,G2,h,G9,nABC]
  repeat' (((first|refine zo ?_ ?_|refine zl ?_ ?_|refine zm ?_ ?_|refine zj ?_ ?_|refine zk ?_ ?_)<;>intro hq)<;>simp only[go_sem,reduceIte,G3,G5,G0,G4,G1,G2,hq,nABC])
  all_goals
   rw[z6 rfl rfl,z8]
   refine⟨⟨_,rfl⟩,congrArg AV.bool ?_⟩
   unfold typP
   simp only[h,G8,reduceIte,or_self,or_true]<;>first|rfl|simp[*]
 ·skip
  simp only[go_sem,G0,G2,h,G9,gA]
  repeat' (((first|refine zo ?_ ?_|refine zl ?_ ?_|refine zm ?_ ?_|refine zj ?_ ?_|refine zk ?_ ?_)<;>intro hq)<;>simp only[go_sem,G0,G2,hq,nBC])
  all_goals
   rw[z6 rfl rfl,z8]
   refine⟨⟨_,rfl⟩,congrArg AV.bool ?_⟩
   unfold typP
   simp only[h,G8,reduceIte,or_self]<;>first|rfl|simp[*]
 ·skip
  simp only[go_sem,G0,G2,h,G9,gA]
  repeat' (((first|refine zo ?_ ?_|refine zl ?_ ?_|refine zm ?_ ?_|refine zj ?_ ?_|refine zk ?_ ?_)<;>intro hq)<;>simp only[go_sem,G3,G0,G2,hq,hI _ (hsl _) _ _ (isL3 2 1 4 .full)])
  all_goals
   rw[z6 rfl rfl,z8]
   refine⟨⟨_,rfl⟩,congrArg AV.bool ?_⟩
   unfold typP
   simp only[h,G8,reduceIte,or_self]<;>first|rfl|simp[*]
theorem z9g (d:DImage) (hd:ImgP d) (f:DFunc) (y:AV) (hy:NV d f y) (hs:SlotsP d f) (x:DInstr) (hx:InstrP x) (hN:NearP d f x) (hop:x.op=12∨x.op=13∨x.op=14∨x.op=15∨x.op=16∨x.op=17∨x.op=18∨x.op=19∨x.op=20) (m:Mem) (hf:m.floor≤m.stk.length+1):
  Okv tab zO [y,.agg [.int .u8 x.op,.int .i64 x.a,.int .i64 x.b,.int .i64 x.c]] m (.bool (typP d f x)):=by
 have hy':=hy
 obtain⟨ty,tx,fs,w0,w1,w2,w3,rfl,h0,h1,h2,h3,h4,h5,h6⟩:=hy
 refine zf xa ?_
 obtain⟨stk,cur,nx,live,fl⟩:=m
 dsimp only at hf
 have hf':fl≤(stk++[cur]).length+1:=by simp;omega
 have hsl:=tj hs
 have hS:=fun s m=>(z0X d f _ hy' s m).eq
 have hI:=fun t ht ks z hz m=>(z4f d f _ hy' t ht ks z hz m).eq
 have hE:=fun t e ht ks z hz m=>(z4i d f _ hy' t e ht ks z hz m).eq
 have hM:=fun t i e ht m=>(Uy d f _ hy' t i e ht m).eq
 have hb: ∀X nz,Mem.blk ⟨stk++[cur],[⟨nx,cellsN ty tx fs w0 w1 w2 w3 f⟩,X],nz,[]::live,fl⟩ (stk++[cur]).length 0 nx=some (cellsN ty tx fs w0 w1 w2 w3 f):=fun X nz=>by simp[Mem.blk,Mem.row]
 have hn:=fun l z hz hl X nz=>(z8y d f ty tx fs w0 w1 w2 w3 hy' l z hz hl _ (stk++[cur]).length nx (w0b _) (hb X nz)).eq
 have hfl:=fun t ht X nz=>(z4h d f ty tx fs w0 w1 w2 w3 hy' t ht _ (stk++[cur]).length nx (w0b _) (hb X nz)).eq
 simp only[cellsN] at hn hfl
 have nA:=hn [slotT f x.a] _ (isI1 _ .full) (by simp[hsl])
 have nB:=hn [slotT f x.b] _ (isI1 _ .full) (by simp[hsl])
 have nC:=hn [slotT f x.c] _ (isI1 _ .full) (by simp[hsl])
 have nBC:=hn [slotT f x.b,slotT f x.c] _ (isI2 _ _ .full) (by simp[hsl])
 have nABC:=hn [slotT f x.a,slotT f x.b,slotT f x.c] _ (isI3 _ _ _ .full) (by simp[hsl])
 have gA:=hfl (slotT f x.a) (hsl _)
 have gB:=hfl (slotT f x.b) (hsl _)
 clear hn hfl
 simp only[zZ,List.map,go_sem,G3,G0,G2,hS]
 generalize callNx tab zq _ _=nz
 rcases hop with h|h|h|h|h|h|h|h|h
 ·skip
  simp only[go_sem,G0,G2,h,G9,gA]
  repeat' (((first|refine zo ?_ ?_|refine zl ?_ ?_|refine zm ?_ ?_|refine zj ?_ ?_|refine zk ?_ ?_)<;>intro hq)<;>simp only[go_sem,G0,G2,hq,gB])
  all_goals
   rw[z6 rfl rfl,z8]
   refine⟨⟨_,rfl⟩,congrArg AV.bool ?_⟩
   unfold typP
   simp only[h,G8,reduceIte,or_self]<;>first|rfl|simp[*]
 ·skip
  simp only[go_sem,G3,G0,G2,h,G9,hM _ _ _ (hsl _)]
  repeat' (((first|refine zo ?_ ?_|refine zl ?_ ?_|refine zm ?_ ?_|refine zj ?_ ?_|refine zk ?_ ?_)<;>intro hq)<;>simp only[go_sem,reduceIte,G3,G5,G0,G4,G1,G2,hq,hM _ _ _ (hsl _)])
  all_goals
   rw[z6 rfl rfl,z8]
   refine⟨⟨_,rfl⟩,congrArg AV.bool ?_⟩
   unfold typP
   simp only[h,G8,reduceIte,or_self]<;>first|rfl|simp[*]
 ·skip
  simp only[go_sem,G3,G0,G2,h,G9,hM _ _ _ (hsl _)]
  repeat' (((first|refine zo ?_ ?_|refine zl ?_ ?_|refine zm ?_ ?_|refine zj ?_ ?_|refine zk ?_ ?_)<;>intro hq)<;>simp only[go_sem,reduceIte,G3,G5,G0,G4,G1,G2,hq,hM _ _ _ (hsl _)])
  all_goals
   rw[z6 rfl rfl,z8]
   refine⟨⟨_,rfl⟩,congrArg AV.bool ?_⟩
   unfold typP
   simp only[h,G8,reduceIte,or_self]<;>first|rfl|simp[*]
 ·skip
  simp only[go_sem,G3,G0,G2,h,G9,hI _ (hsl _) _ _ (isL1 4 .full)]
  repeat' (((first|refine zo ?_ ?_|refine zl ?_ ?_|refine zm ?_ ?_|refine zj ?_ ?_|refine zk ?_ ?_)<;>intro hq)<;>simp only[go_sem,reduceIte,G3,G5,G0,G4,G1,G2,hq,hI _ (hsl _) _ _ (isL1 4 .full)])
  all_goals
   rw[z6 rfl rfl,z8]
   refine⟨⟨_,rfl⟩,congrArg AV.bool ?_⟩
   unfold typP
   simp only[h,G8,reduceIte,or_self]<;>first|rfl|simp[*]
 ·skip
  simp only[go_sem,G3,G0,G2,h,G9,hE _ _ (hsl _) _ _ (isL1 4 .full)]
  repeat' (((first|refine zo ?_ ?_|refine zl ?_ ?_|refine zm ?_ ?_|refine zj ?_ ?_|refine zk ?_ ?_)<;>intro hq)<;>simp only[go_sem,reduceIte,G3,G5,G0,G4,G1,G2,hq,hE _ _ (hsl _) _ _ (isL1 4 .full)])
  all_goals
   rw[z6 rfl rfl,z8]
   refine⟨⟨_,rfl⟩,congrArg AV.bool ?_⟩
   unfold typP
   simp only[h,G8,reduceIte,or_self]<;>first|rfl|simp[*]
 ·skip
  simp only[go_sem,G3,G0,G2,h,G9,hE _ _ (hsl _) _ _ (isL1 4 .full)]
  repeat' (((first|refine zo ?_ ?_|refine zl ?_ ?_|refine zm ?_ ?_|refine zj ?_ ?_|refine zk ?_ ?_)<;>intro hq)<;>simp only[go_sem,reduceIte,G3,G5,G0,G4,G1,G2,hq,hE _ _ (hsl _) _ _ (isL1 4 .full)])
  all_goals
   rw[z6 rfl rfl,z8]
   refine⟨⟨_,rfl⟩,congrArg AV.bool ?_⟩
   unfold typP
   simp only[h,G8,reduceIte,or_self]<;>first|rfl|simp[*]
 ·skip
  simp only[go_sem,G3,G0,G2,h,G9,hI _ (hsl _) _ _ (isL1 7 .full)]
  repeat' (((first|refine zo ?_ ?_|refine zl ?_ ?_|refine zm ?_ ?_|refine zj ?_ ?_|refine zk ?_ ?_)<;>intro hq)<;>simp only[go_sem,G0,G2,hq,nB])
  all_goals
   rw[z6 rfl rfl,z8]
   refine⟨⟨_,rfl⟩,congrArg AV.bool ?_⟩
   unfold typP
   simp only[h,G8,reduceIte,or_self]<;>first|rfl|simp[*]
 ·skip
  simp only[go_sem,G3,G0,G2,h,G9,hE _ _ (hsl _) _ _ (isL2 7 6 .full)]
  repeat' (((first|refine zo ?_ ?_|refine zl ?_ ?_|refine zm ?_ ?_|refine zj ?_ ?_|refine zk ?_ ?_)<;>intro hq)<;>simp only[go_sem,G0,G2,hq,nC])
  all_goals
   rw[z6 rfl rfl,z8]
   refine⟨⟨_,rfl⟩,congrArg AV.bool ?_⟩
   unfold typP
   simp only[h,G8,reduceIte,or_self]<;>first|rfl|simp[*]
 ·skip
  simp only[go_sem,G3,G0,G2,h,G9,hE _ _ (hsl _) _ _ (isL2 7 6 .full)]
  repeat' (((first|refine zo ?_ ?_|refine zl ?_ ?_|refine zm ?_ ?_|refine zj ?_ ?_|refine zk ?_ ?_)<;>intro hq)<;>simp only[go_sem,G0,G2,hq,nB])
  all_goals
   rw[z6 rfl rfl,z8]
   refine⟨⟨_,rfl⟩,congrArg AV.bool ?_⟩
   unfold typP
   simp only[h,G8,reduceIte,or_self]<;>first|rfl|simp[*]
theorem z9f (d:DImage) (hd:ImgP d) (f:DFunc) (y:AV) (hy:NV d f y) (hs:SlotsP d f) (x:DInstr) (hx:InstrP x) (hN:NearP d f x) (hop:x.op=21∨x.op=22∨x.op=23∨x.op=24∨x.op=25∨x.op=26∨x.op=27) (m:Mem) (hf:m.floor≤m.stk.length+1):
  Okv tab zO [y,.agg [.int .u8 x.op,.int .i64 x.a,.int .i64 x.b,.int .i64 x.c]] m (.bool (typP d f x)):=by
 have hy':=hy
 obtain⟨ty,tx,fs,w0,w1,w2,w3,rfl,h0,h1,h2,h3,h4,h5,h6⟩:=hy
 refine zf xa ?_
 obtain⟨stk,cur,nx,live,fl⟩:=m
 dsimp only at hf
 have hf':fl≤(stk++[cur]).length+1:=by simp;omega
 have hsl:=tj hs
 have hS:=fun s m=>(z0X d f _ hy' s m).eq
 have hI:=fun t ht ks z hz m=>(z4f d f _ hy' t ht ks z hz m).eq
 have hE:=fun t e ht ks z hz m=>(z4i d f _ hy' t e ht ks z hz m).eq
 have hM:=fun t i e ht m=>(Uy d f _ hy' t i e ht m).eq
 have hb: ∀X nz,Mem.blk ⟨stk++[cur],[⟨nx,cellsN ty tx fs w0 w1 w2 w3 f⟩,X],nz,[]::live,fl⟩ (stk++[cur]).length 0 nx=some (cellsN ty tx fs w0 w1 w2 w3 f):=fun X nz=>by simp[Mem.blk,Mem.row]
 have hn:=fun l z hz hl X nz=>(z8y d f ty tx fs w0 w1 w2 w3 hy' l z hz hl _ (stk++[cur]).length nx (w0b _) (hb X nz)).eq
 have hfl:=fun t ht X nz=>(z4h d f ty tx fs w0 w1 w2 w3 hy' t ht _ (stk++[cur]).length nx (w0b _) (hb X nz)).eq
 simp only[cellsN] at hn hfl
 have nA:=hn [slotT f x.a] _ (isI1 _ .full) (by simp[hsl])
 have nB:=hn [slotT f x.b] _ (isI1 _ .full) (by simp[hsl])
 have nC:=hn [slotT f x.c] _ (isI1 _ .full) (by simp[hsl])
 have nBC:=hn [slotT f x.b,slotT f x.c] _ (isI2 _ _ .full) (by simp[hsl])
 have nABC:=hn [slotT f x.a,slotT f x.b,slotT f x.c] _ (isI3 _ _ _ .full) (by simp[hsl])
 have gA:=hfl (slotT f x.a) (hsl _)
 have gB:=hfl (slotT f x.b) (hsl _)
 clear hn hfl
 simp only[zZ,List.map,go_sem,G3,G0,G2,hS]
 generalize callNx tab zq _ _=nz
 rcases hop with h|h|h|h|h|h|h
 ·skip
  simp only[go_sem,G0,G2,h,G9,nA]
  repeat' (((first|refine zo ?_ ?_|refine zl ?_ ?_|refine zm ?_ ?_|refine zj ?_ ?_|refine zk ?_ ?_)<;>intro hq)<;>simp only[go_sem,G3,G0,G2,hq,hI _ (hsl _) _ _ (isL3 3 7 6 .full)])
  all_goals
   rw[z6 rfl rfl,z8]
   refine⟨⟨_,rfl⟩,congrArg AV.bool ?_⟩
   unfold typP
   simp only[h,G8,reduceIte,or_self]<;>first|rfl|simp[*]
 ·skip
  simp only[go_sem,G0,G2,h,G9]
  repeat' (((first|refine zo ?_ ?_|refine zl ?_ ?_|refine zm ?_ ?_|refine zj ?_ ?_|refine zk ?_ ?_)<;>intro hq)<;>simp only[go_sem,reduceIte,G3,G5,G0,G4,G1,G2,hq,h])
  all_goals
   rw[z6 rfl rfl,z8]
   refine⟨⟨_,rfl⟩,congrArg AV.bool ?_⟩
   unfold typP
   simp only[h,G8,reduceIte,or_self]<;>first|rfl|simp[*]
 ·skip
  simp only[go_sem,G0,G2,h,G9,gA]
  repeat' (((first|refine zo ?_ ?_|refine zl ?_ ?_|refine zm ?_ ?_|refine zj ?_ ?_|refine zk ?_ ?_)<;>intro hq)<;>simp only[go_sem,reduceIte,G3,G5,G0,G4,G1,G2,hq,gA])
  all_goals
   rw[z6 rfl rfl,z8]
   refine⟨⟨_,rfl⟩,congrArg AV.bool ?_⟩
   unfold typP
   simp only[h,G8,reduceIte,or_self,or_true]<;>first|rfl|simp[*]
 ·skip
  simp only[go_sem,G0,G2,h,G9]
  repeat' (((first|refine zo ?_ ?_|refine zl ?_ ?_|refine zm ?_ ?_|refine zj ?_ ?_|refine zk ?_ ?_)<;>intro hq)<;>simp only[go_sem,reduceIte,G3,G5,G0,G4,G1,G2,hq,h])
  all_goals
   rw[z6 rfl rfl,z8]
   refine⟨⟨_,rfl⟩,congrArg AV.bool ?_⟩
   unfold typP
   simp only[h,G8,reduceIte,or_self]<;>first|rfl|simp[*]
 ·obtain⟨q,hq⟩: ∃q:Nat,x.b=q:=⟨x.b.toNat,by have:=z5c hx hN h;omega⟩
  have hqk:q<d.funcs.length:=by have:=z5c hx hN h;omega
  obtain⟨v0,v1,v2,v3,ef,q0,q1,q2,q3⟩:=h2.fnA hqk
  have hat:=h2.at .i64 hqk
  simp only[go_sem,G0,G2,h,G9,hq]
  repeat' (((first|refine zo ?_ ?_|refine zl ?_ ?_|refine zm ?_ ?_|refine zj ?_ ?_|refine zk ?_ ?_)<;>intro hq)<;>simp only[go_sem,G0,G2,hq,hat,ef])
  all_goals
   rw[z6 rfl rfl,z8]
   refine⟨⟨_,rfl⟩,congrArg AV.bool ?_⟩
   unfold typP
   simp only[h,hq,G8,reduceIte,or_self]<;>first|rfl|simp[*]
 ·obtain⟨q,hq⟩: ∃q:Nat,x.a=q:=⟨x.a.toNat,by have:=Ug hx hN (by omega);omega⟩
  have hqk:q<d.funcs.length:=by have:=Ug hx hN (by omega);omega
  obtain⟨v0,v1,v2,v3,ef,q0,q1,q2,q3⟩:=h2.fnA hqk
  have hat:=h2.at .i64 hqk
  have hIG:=hd.at hqk
  have hL:=fun c nz lv=>(z8z d f _ hy' (fnA d.funcs q) _ ⟨v0,v1,v2,v3,rfl,q0,q1,q2,q3⟩ hIG.1 hIG.2.1 ⟨stk++[cur],c,nz,lv,max fl ((stk++[cur]).length+1)⟩ (by simp;omega)).eq
  simp only[go_sem,G3,G0,G2,h,G9,hq,hat,ef,hL]
  repeat' (((first|refine zo ?_ ?_|refine zl ?_ ?_|refine zm ?_ ?_|refine zj ?_ ?_|refine zk ?_ ?_)<;>intro hq)<;>simp only[go_sem,reduceIte,G3,G5,G0,G4,G1,G2,hq,hq,hat,ef,hL])
  all_goals
   rw[z6 rfl rfl,z8]
   refine⟨⟨_,rfl⟩,congrArg AV.bool ?_⟩
   unfold typP
   simp only[h,hq,G8,reduceIte,or_false,or_self,w2d]<;>first|rfl|simp[*]
 ·obtain⟨q,hq⟩: ∃q:Nat,x.a=q:=⟨x.a.toNat,by have:=Ug hx hN (by omega);omega⟩
  have hqk:q<d.funcs.length:=by have:=Ug hx hN (by omega);omega
  obtain⟨v0,v1,v2,v3,ef,q0,q1,q2,q3⟩:=h2.fnA hqk
  have hat:=h2.at .i64 hqk
  have hIG:=hd.at hqk
  have hL:=fun c nz lv=>(z8z d f _ hy' (fnA d.funcs q) _ ⟨v0,v1,v2,v3,rfl,q0,q1,q2,q3⟩ hIG.1 hIG.2.1 ⟨stk++[cur],c,nz,lv,max fl ((stk++[cur]).length+1)⟩ (by simp;omega)).eq
  simp only[go_sem,G3,G0,G2,h,G9,hq,hat,ef,hL]
  repeat' (((first|refine zo ?_ ?_|refine zl ?_ ?_|refine zm ?_ ?_|refine zj ?_ ?_|refine zk ?_ ?_)<;>intro hq)<;>simp only[go_sem,reduceIte,G3,G5,G0,G4,G1,G2,hq,hq,hat,ef,hL])
  all_goals
   rw[z6 rfl rfl,z8]
   refine⟨⟨_,rfl⟩,congrArg AV.bool ?_⟩
   unfold typP
   simp only[h,hq,G8,reduceIte,or_self,or_true,w2d]<;>first|rfl|simp[*]
theorem z9e (d:DImage) (hd:ImgP d) (f:DFunc) (y:AV) (hy:NV d f y) (hs:SlotsP d f) (x:DInstr) (hx:InstrP x) (hN:NearP d f x) (hop:x.op=28∨x.op=29∨x.op=30∨x.op=31∨x.op=32∨x.op=33∨x.op=34) (m:Mem) (hf:m.floor≤m.stk.length+1):
  Okv tab zO [y,.agg [.int .u8 x.op,.int .i64 x.a,.int .i64 x.b,.int .i64 x.c]] m (.bool (typP d f x)):=by
 have hy':=hy
 obtain⟨ty,tx,fs,w0,w1,w2,w3,rfl,h0,h1,h2,h3,h4,h5,h6⟩:=hy
 refine zf xa ?_
 obtain⟨stk,cur,nx,live,fl⟩:=m
 dsimp only at hf
 have hf':fl≤(stk++[cur]).length+1:=by simp;omega
 have hsl:=tj hs
 have hS:=fun s m=>(z0X d f _ hy' s m).eq
 have hI:=fun t ht ks z hz m=>(z4f d f _ hy' t ht ks z hz m).eq
 have hE:=fun t e ht ks z hz m=>(z4i d f _ hy' t e ht ks z hz m).eq
 have hM:=fun t i e ht m=>(Uy d f _ hy' t i e ht m).eq
 have hb: ∀X nz,Mem.blk ⟨stk++[cur],[⟨nx,cellsN ty tx fs w0 w1 w2 w3 f⟩,X],nz,[]::live,fl⟩ (stk++[cur]).length 0 nx=some (cellsN ty tx fs w0 w1 w2 w3 f):=fun X nz=>by simp[Mem.blk,Mem.row]
 have hn:=fun l z hz hl X nz=>(z8y d f ty tx fs w0 w1 w2 w3 hy' l z hz hl _ (stk++[cur]).length nx (w0b _) (hb X nz)).eq
 have hfl:=fun t ht X nz=>(z4h d f ty tx fs w0 w1 w2 w3 hy' t ht _ (stk++[cur]).length nx (w0b _) (hb X nz)).eq
 simp only[cellsN] at hn hfl
 have nA:=hn [slotT f x.a] _ (isI1 _ .full) (by simp[hsl])
 have nB:=hn [slotT f x.b] _ (isI1 _ .full) (by simp[hsl])
 have nC:=hn [slotT f x.c] _ (isI1 _ .full) (by simp[hsl])
 have nBC:=hn [slotT f x.b,slotT f x.c] _ (isI2 _ _ .full) (by simp[hsl])
 have nABC:=hn [slotT f x.a,slotT f x.b,slotT f x.c] _ (isI3 _ _ _ .full) (by simp[hsl])
 have gA:=hfl (slotT f x.a) (hsl _)
 have gB:=hfl (slotT f x.b) (hsl _)
 clear hn hfl
 simp only[zZ,List.map,go_sem,G3,G0,G2,hS]
 generalize callNx tab zq _ _=nz
 rcases hop with h|h|h|h|h|h|h
 ·skip
  simp only[go_sem,G3,G0,G2,h,G9,hI _ (hsl _) _ _ (isL3 2 1 3 .full)]
  repeat' (((first|refine zo ?_ ?_|refine zl ?_ ?_|refine zm ?_ ?_|refine zj ?_ ?_|refine zk ?_ ?_)<;>intro hq)<;>simp only[go_sem,reduceIte,G3,G5,G0,G4,G1,G2,hq,hI _ (hsl _) _ _ (isL3 2 1 3 .full)])
  all_goals
   rw[z6 rfl rfl,z8]
   refine⟨⟨_,rfl⟩,congrArg AV.bool ?_⟩
   unfold typP
   simp only[h,G8,reduceIte,or_self]<;>first|rfl|simp[*]
 ·skip
  simp only[go_sem,G0,G2,h,G9,gA]
  repeat' (((first|refine zo ?_ ?_|refine zl ?_ ?_|refine zm ?_ ?_|refine zj ?_ ?_|refine zk ?_ ?_)<;>intro hq)<;>simp only[go_sem,G0,G2,hq,nB])
  all_goals
   rw[z6 rfl rfl,z8]
   refine⟨⟨_,rfl⟩,congrArg AV.bool ?_⟩
   unfold typP
   simp only[h,G8,reduceIte,or_false,or_self]<;>first|rfl|simp[*]
 ·skip
  simp only[go_sem,G0,G2,h,G9]
  repeat' (((first|refine zo ?_ ?_|refine zl ?_ ?_|refine zm ?_ ?_|refine zj ?_ ?_|refine zk ?_ ?_)<;>intro hq)<;>simp only[go_sem,reduceIte,G3,G5,G0,G4,G1,G2,hq,h])
  all_goals
   rw[z6 rfl rfl,z8]
   refine⟨⟨_,rfl⟩,congrArg AV.bool ?_⟩
   unfold typP
   simp only[h,G8,reduceIte,or_self]<;>first|rfl|simp[*]
 ·skip
  simp only[go_sem,G0,G2,h,G9]
  repeat' (((first|refine zo ?_ ?_|refine zl ?_ ?_|refine zm ?_ ?_|refine zj ?_ ?_|refine zk ?_ ?_)<;>intro hq)<;>simp only[go_sem,reduceIte,G3,G5,G0,G4,G1,G2,hq,h])
  all_goals
   rw[z6 rfl rfl,z8]
   refine⟨⟨_,rfl⟩,congrArg AV.bool ?_⟩
   unfold typP
   simp only[h,G8,reduceIte,or_self]<;>first|rfl|simp[*]
 ·skip
  simp only[go_sem,G0,G2,h,G9,nA]
  repeat' (((first|refine zo ?_ ?_|refine zl ?_ ?_|refine zm ?_ ?_|refine zj ?_ ?_|refine zk ?_ ?_)<;>intro hq)<;>simp only[go_sem,reduceIte,G3,G5,G0,G4,G1,G2,hq,nA])
  all_goals
   rw[z6 rfl rfl,z8]
   refine⟨⟨_,rfl⟩,congrArg AV.bool ?_⟩
   unfold typP
   simp only[h,G8,reduceIte,or_self,or_true]<;>first|rfl|simp[*]
 ·skip
  simp only[go_sem,G0,G2,h,G9,gA]
  repeat' (((first|refine zo ?_ ?_|refine zl ?_ ?_|refine zm ?_ ?_|refine zj ?_ ?_|refine zk ?_ ?_)<;>intro hq)<;>simp only[go_sem,G0,G2,hq,nB])
  all_goals
   rw[z6 rfl rfl,z8]
   refine⟨⟨_,rfl⟩,congrArg AV.bool ?_⟩
   unfold typP
   simp only[h,G8,reduceIte,or_self,or_true]<;>first|rfl|simp[*]
 ·skip
  simp only[go_sem,G0,G2,h,G9]
  repeat' (((first|refine zo ?_ ?_|refine zl ?_ ?_|refine zm ?_ ?_|refine zj ?_ ?_|refine zk ?_ ?_)<;>intro hq)<;>simp only[go_sem,G3,G0,G2,hq])
  all_goals
   rw[z6 rfl rfl,z8]
   refine⟨⟨_,rfl⟩,congrArg AV.bool ?_⟩
   unfold typP
   simp only[h,G8,reduceIte,or_self]<;>first|rfl|simp[*]
theorem z9o (d:DImage) (hd:ImgP d) (y:AV) (hy:IsImage d y) (g:Nat) (hg:g<d.funcs.length) (x:DInstr) (hx:InstrP x) (hw:WfI x) (hN:NearP d (fnA d.funcs g) x) (hop:x.op=1∨x.op=2∨x.op=3∨x.op=4∨x.op=5∨x.op=6∨x.op=7∨x.op=8∨x.op=9∨x.op=10∨x.op=11) (m:Mem) (hf:m.floor≤m.stk.length+1):
  Okv tab zT [y,.int .i64 g,.agg [.int .u8 x.op,.int .i64 x.a,.int .i64 x.b,.int .i64 x.c]] m (.bool (typR d (fnA d.funcs g) x)):=by
 have hy':=hy
 obtain⟨ty,tx,fs,rfl,h0,h1,h2⟩:=hy
 obtain⟨gw0,gw1,gw2,gw3,gef,gq0,gq1,gq2,gq3⟩:=h2.fnA hg
 have ghat:=h2.at .i64 hg
 have hs:=(hd.at hg).1
 refine zf xE ?_
 obtain⟨stk,cur,nx,live,fl⟩:=m
 dsimp only at hf
 have hf':fl≤(stk++[cur]).length+1:=by simp;omega
 have hS:=fun s m=>(TC d _ hy' g hg s m).eq
 generalize fnA d.funcs g=f at*
 have hsl:=tj hs
 have hK:=fun t ht m=>(Qq d _ hy' t ht m).eq
 have hM:=fun t i ht m=>(Ux d _ hy' t i ht m).eq
 have hO:=fun t a b ht m=>(z8x d _ hy' t a b ht m).eq
 have hK1:=hK _ (hsl x.a)
 have hK2:=hK _ (hsl x.b)
 have hK3:=hK _ (hsl x.c)
 have hsl2:=hsl x.b
 simp only[yh,List.map,go_sem,G3,G0,G2,hS]
 generalize callNx tab zC _ _=nz
 simp only[go_sem,G3,G0,G2,hK1,hK2,hK3]
 generalize callNx tab zy _ _=nz2
 rcases hop with h|h|h|h|h|h|h|h|h|h|h
 ·skip
  simp only[go_sem,G0,G2,h]
  repeat' (((first|refine zo ?_ ?_|refine zl ?_ ?_|refine zm ?_ ?_|refine zj ?_ ?_|refine zk ?_ ?_)<;>intro hq)<;>simp only[go_sem,reduceIte,G3,G5,G0,G4,G1,G2,hq,h])
  all_goals
   rw[z6 rfl rfl,z8]
   refine⟨⟨_,rfl⟩,congrArg AV.bool ?_⟩
   unfold typR
   simp only[h,G8,reduceIte,or_false,or_self]<;>first|rfl|simp[*]
 ·skip
  simp only[go_sem,G0,G2,h,G9]
  repeat' (((first|refine zo ?_ ?_|refine zl ?_ ?_|refine zm ?_ ?_|refine zj ?_ ?_|refine zk ?_ ?_)<;>intro hq)<;>simp only[go_sem,reduceIte,G3,G5,G0,G4,G1,G2,hq,h])
  all_goals
   rw[z6 rfl rfl,z8]
   refine⟨⟨_,rfl⟩,congrArg AV.bool ?_⟩
   unfold typR
   simp only[h,G8,reduceIte,or_self]<;>first|rfl|simp[*]
 ·skip
  simp only[go_sem,G0,G2,h,G9]
  repeat' (((first|refine zo ?_ ?_|refine zl ?_ ?_|refine zm ?_ ?_|refine zj ?_ ?_|refine zk ?_ ?_)<;>intro hq)<;>simp only[go_sem,reduceIte,G3,G5,G0,G4,G1,G2,hq,h])
  all_goals
   rw[z6 rfl rfl,z8]
   refine⟨⟨_,rfl⟩,congrArg AV.bool ?_⟩
   unfold typR
   simp only[h,G8,reduceIte,or_false,or_self]<;>first|rfl|simp[*]
 ·skip
  simp only[go_sem,G0,G2,h,G9]
  repeat' (((first|refine zo ?_ ?_|refine zl ?_ ?_|refine zm ?_ ?_|refine zj ?_ ?_|refine zk ?_ ?_)<;>intro hq)<;>simp only[go_sem,reduceIte,G3,G5,G0,G4,G1,G2,hq,h])
  all_goals
   rw[z6 rfl rfl,z8]
   refine⟨⟨_,rfl⟩,congrArg AV.bool ?_⟩
   unfold typR
   simp only[h,G8,reduceIte,or_self]<;>first|rfl|simp[*]
 ·skip
  simp only[go_sem,G0,G2,h,G9]
  repeat' (((first|refine zo ?_ ?_|refine zl ?_ ?_|refine zm ?_ ?_|refine zj ?_ ?_|refine zk ?_ ?_)<;>intro hq)<;>simp only[go_sem,reduceIte,G3,G5,G0,G4,G1,G2,hq,h])
  all_goals
   rw[z6 rfl rfl,z8]
   refine⟨⟨_,rfl⟩,congrArg AV.bool ?_⟩
   unfold typR
   simp only[h,G8,reduceIte,or_self]<;>first|rfl|simp[*]
 ·skip
  simp only[go_sem,G0,G2,h,G9]
  repeat' (((first|refine zo ?_ ?_|refine zl ?_ ?_|refine zm ?_ ?_|refine zj ?_ ?_|refine zk ?_ ?_)<;>intro hq)<;>simp only[go_sem,G0,G2,hq])
  all_goals
   rw[z6 rfl rfl,z8]
   refine⟨⟨_,rfl⟩,congrArg AV.bool ?_⟩
   unfold typR
   simp only[h,G8,reduceIte,or_false,or_self]<;>first|rfl|simp[*]
 ·skip
  simp only[go_sem,G0,G2,h,G9]
  repeat' (((first|refine zo ?_ ?_|refine zl ?_ ?_|refine zm ?_ ?_|refine zj ?_ ?_|refine zk ?_ ?_)<;>intro hq)<;>simp only[go_sem,G0,G2,hq])
  all_goals
   rw[z6 rfl rfl,z8]
   refine⟨⟨_,rfl⟩,congrArg AV.bool ?_⟩
   unfold typR
   simp only[h,G8,reduceIte,or_false,or_self,or_true]<;>first|rfl|simp[*]
 ·skip
  simp only[go_sem,G0,G2,h,G9]
  repeat' (((first|refine zo ?_ ?_|refine zl ?_ ?_|refine zm ?_ ?_|refine zj ?_ ?_|refine zk ?_ ?_)<;>intro hq)<;>simp only[go_sem,G0,G2,hq])
  all_goals
   rw[z6 rfl rfl,z8]
   refine⟨⟨_,rfl⟩,congrArg AV.bool ?_⟩
   unfold typR
   simp only[h,G8,reduceIte,or_false,or_self,or_true]<;>first|rfl|simp[*]
 ·skip
  simp only[go_sem,G0,G2,h,G9]
  repeat' (((first|refine zo ?_ ?_|refine zl ?_ ?_|refine zm ?_ ?_|refine zj ?_ ?_|refine zk ?_ ?_)<;>intro hq)<;>simp only[go_sem,G0,G2,hq])
  all_goals
   rw[z6 rfl rfl,z8]
   refine⟨⟨_,rfl⟩,congrArg AV.bool ?_⟩
   unfold typR
   simp only[h,G8,reduceIte,or_self,or_true]<;>first|rfl|simp[*]
 ·skip
  simp only[go_sem,G0,G2,h,G9]
  repeat' (((first|refine zo ?_ ?_|refine zl ?_ ?_|refine zm ?_ ?_|refine zj ?_ ?_|refine zk ?_ ?_)<;>intro hq)<;>simp only[go_sem,G0,G2,hq])
  all_goals
   rw[z6 rfl rfl,z8]
   refine⟨⟨_,rfl⟩,congrArg AV.bool ?_⟩
   unfold typR
   simp only[h,G8,reduceIte,or_self]<;>first|rfl|simp[*]
 ·have hb0:=TK hx hw hN hs (k:=1) (by omega) (by right;show(shp x.op).getD 1 45=114;rw[h];rfl)
  change 0≤slotT f x.b at hb0
  obtain⟨q,hq⟩: ∃q:Nat,slotT f x.b=q:=⟨(slotT f x.b).toNat,by omega⟩
  have hqk:q<d.types.length:=by have:=hsl x.b;omega
  obtain⟨u0,e2,e3⟩:=h0.tyA hqk
  have hat:=h0.at .i64 hqk
  have hW:=fun m=>(zaJ (tyA d.types q) _ ⟨u0,rfl,e3⟩ m).eq
  rw[hq] at hK2 hsl2
  simp only[hq]
  simp only[go_sem,G0,G2,h,G9]
  repeat' (((first|refine zo ?_ ?_|refine zl ?_ ?_|refine zm ?_ ?_|refine zj ?_ ?_|refine zk ?_ ?_)<;>intro hq)<;>simp only[go_sem,G3,G0,G2,hq,hat,e2,hW])
  all_goals
   rw[z6 rfl rfl,z8]
   refine⟨⟨_,rfl⟩,congrArg AV.bool ?_⟩
   unfold typR
   simp only[h,hq,G8,reduceIte,or_self]<;>first|rfl|simp[*]
theorem z9n (d:DImage) (hd:ImgP d) (y:AV) (hy:IsImage d y) (g:Nat) (hg:g<d.funcs.length) (x:DInstr) (hx:InstrP x) (hw:WfI x) (hN:NearP d (fnA d.funcs g) x) (hop:x.op=12∨x.op=13∨x.op=14∨x.op=15∨x.op=16∨x.op=17∨x.op=18∨x.op=19∨x.op=20) (m:Mem) (hf:m.floor≤m.stk.length+1):
  Okv tab zT [y,.int .i64 g,.agg [.int .u8 x.op,.int .i64 x.a,.int .i64 x.b,.int .i64 x.c]] m (.bool (typR d (fnA d.funcs g) x)):=by
 have hy':=hy
 obtain⟨ty,tx,fs,rfl,h0,h1,h2⟩:=hy
 obtain⟨gw0,gw1,gw2,gw3,gef,gq0,gq1,gq2,gq3⟩:=h2.fnA hg
 have ghat:=h2.at .i64 hg
 have hs:=(hd.at hg).1
 refine zf xE ?_
 obtain⟨stk,cur,nx,live,fl⟩:=m
 dsimp only at hf
 have hf':fl≤(stk++[cur]).length+1:=by simp;omega
 have hS:=fun s m=>(TC d _ hy' g hg s m).eq
 generalize fnA d.funcs g=f at*
 have hsl:=tj hs
 have hK:=fun t ht m=>(Qq d _ hy' t ht m).eq
 have hM:=fun t i ht m=>(Ux d _ hy' t i ht m).eq
 have hO:=fun t a b ht m=>(z8x d _ hy' t a b ht m).eq
 have hK1:=hK _ (hsl x.a)
 have hK2:=hK _ (hsl x.b)
 have hK3:=hK _ (hsl x.c)
 have hsl2:=hsl x.b
 simp only[yh,List.map,go_sem,G3,G0,G2,hS]
 generalize callNx tab zC _ _=nz
 simp only[go_sem,G3,G0,G2,hK1,hK2,hK3]
 generalize callNx tab zy _ _=nz2
 rcases hop with h|h|h|h|h|h|h|h|h
 ·skip
  simp only[go_sem,G0,G2,h,G9]
  repeat' (((first|refine zo ?_ ?_|refine zl ?_ ?_|refine zm ?_ ?_|refine zj ?_ ?_|refine zk ?_ ?_)<;>intro hq)<;>simp only[go_sem,G0,G2,hq])
  all_goals
   rw[z6 rfl rfl,z8]
   refine⟨⟨_,rfl⟩,congrArg AV.bool ?_⟩
   unfold typR
   simp only[h,G8,reduceIte,or_self]<;>first|rfl|simp[*]
 ·skip
  simp only[go_sem,G3,G0,G2,h,G9,hM _ _ (hsl _)]
  repeat' (((first|refine zo ?_ ?_|refine zl ?_ ?_|refine zm ?_ ?_|refine zj ?_ ?_|refine zk ?_ ?_)<;>intro hq)<;>simp only[go_sem,reduceIte,G3,G5,G0,G4,G1,G2,hq,hM _ _ (hsl _)])
  all_goals
   rw[z6 rfl rfl,z8]
   refine⟨⟨_,rfl⟩,congrArg AV.bool ?_⟩
   unfold typR
   simp only[h,G8,reduceIte,or_self]<;>first|rfl|simp[*]
 ·skip
  simp only[go_sem,G3,G0,G2,h,G9,hM _ _ (hsl _)]
  repeat' (((first|refine zo ?_ ?_|refine zl ?_ ?_|refine zm ?_ ?_|refine zj ?_ ?_|refine zk ?_ ?_)<;>intro hq)<;>simp only[go_sem,reduceIte,G3,G5,G0,G4,G1,G2,hq,hM _ _ (hsl _)])
  all_goals
   rw[z6 rfl rfl,z8]
   refine⟨⟨_,rfl⟩,congrArg AV.bool ?_⟩
   unfold typR
   simp only[h,G8,reduceIte,or_self]<;>first|rfl|simp[*]
 ·skip
  simp only[go_sem,G0,G2,h,G9]
  repeat' (((first|refine zo ?_ ?_|refine zl ?_ ?_|refine zm ?_ ?_|refine zj ?_ ?_|refine zk ?_ ?_)<;>intro hq)<;>simp only[go_sem,reduceIte,G3,G5,G0,G4,G1,G2,hq,h])
  all_goals
   rw[z6 rfl rfl,z8]
   refine⟨⟨_,rfl⟩,congrArg AV.bool ?_⟩
   unfold typR
   simp only[h,G8,reduceIte,or_self]<;>first|rfl|simp[*]
 ·skip
  simp only[go_sem,G3,G0,G2,h,G9,hO _ _ _ (hsl _)]
  repeat' (((first|refine zo ?_ ?_|refine zl ?_ ?_|refine zm ?_ ?_|refine zj ?_ ?_|refine zk ?_ ?_)<;>intro hq)<;>simp only[go_sem,reduceIte,G3,G5,G0,G4,G1,G2,hq,hO _ _ _ (hsl _)])
  all_goals
   rw[z6 rfl rfl,z8]
   refine⟨⟨_,rfl⟩,congrArg AV.bool ?_⟩
   unfold typR
   simp only[h,G8,reduceIte,or_self]<;>first|rfl|simp[*]
 ·skip
  simp only[go_sem,G3,G0,G2,h,G9,hO _ _ _ (hsl _)]
  repeat' (((first|refine zo ?_ ?_|refine zl ?_ ?_|refine zm ?_ ?_|refine zj ?_ ?_|refine zk ?_ ?_)<;>intro hq)<;>simp only[go_sem,reduceIte,G3,G5,G0,G4,G1,G2,hq,hO _ _ _ (hsl _)])
  all_goals
   rw[z6 rfl rfl,z8]
   refine⟨⟨_,rfl⟩,congrArg AV.bool ?_⟩
   unfold typR
   simp only[h,G8,reduceIte,or_self]<;>first|rfl|simp[*]
 ·skip
  simp only[go_sem,G0,G2,h,G9]
  repeat' (((first|refine zo ?_ ?_|refine zl ?_ ?_|refine zm ?_ ?_|refine zj ?_ ?_|refine zk ?_ ?_)<;>intro hq)<;>simp only[go_sem,G0,G2,hq])
  all_goals
   rw[z6 rfl rfl,z8]
   refine⟨⟨_,rfl⟩,congrArg AV.bool ?_⟩
   unfold typR
   simp only[h,G8,reduceIte,or_self]<;>first|rfl|simp[*]
 ·skip
  simp only[go_sem,G3,G0,G2,h,G9,hO _ _ _ (hsl _)]
  repeat' (((first|refine zo ?_ ?_|refine zl ?_ ?_|refine zm ?_ ?_|refine zj ?_ ?_|refine zk ?_ ?_)<;>intro hq)<;>simp only[go_sem,G0,G2,hq])
  all_goals
   rw[z6 rfl rfl,z8]
   refine⟨⟨_,rfl⟩,congrArg AV.bool ?_⟩
   unfold typR
   simp only[h,G8,reduceIte,or_self]<;>first|rfl|simp[*]
 ·skip
  simp only[go_sem,G3,G0,G2,h,G9,hO _ _ _ (hsl _)]
  repeat' (((first|refine zo ?_ ?_|refine zl ?_ ?_|refine zm ?_ ?_|refine zj ?_ ?_|refine zk ?_ ?_)<;>intro hq)<;>simp only[go_sem,G0,G2,hq])
  all_goals
   rw[z6 rfl rfl,z8]
   refine⟨⟨_,rfl⟩,congrArg AV.bool ?_⟩
   unfold typR
   simp only[h,G8,reduceIte,or_self]<;>first|rfl|simp[*]
theorem z9m (d:DImage) (hd:ImgP d) (y:AV) (hy:IsImage d y) (g:Nat) (hg:g<d.funcs.length) (x:DInstr) (hx:InstrP x) (hw:WfI x) (hN:NearP d (fnA d.funcs g) x) (hop:x.op=21∨x.op=22∨x.op=23∨x.op=24∨x.op=25∨x.op=26∨x.op=27) (m:Mem) (hf:m.floor≤m.stk.length+1):
  Okv tab zT [y,.int .i64 g,.agg [.int .u8 x.op,.int .i64 x.a,.int .i64 x.b,.int .i64 x.c]] m (.bool (typR d (fnA d.funcs g) x)):=by
 have hy':=hy
 obtain⟨ty,tx,fs,rfl,h0,h1,h2⟩:=hy
 obtain⟨gw0,gw1,gw2,gw3,gef,gq0,gq1,gq2,gq3⟩:=h2.fnA hg
 have ghat:=h2.at .i64 hg
 have hs:=(hd.at hg).1
 refine zf xE ?_
 obtain⟨stk,cur,nx,live,fl⟩:=m
 dsimp only at hf
 have hf':fl≤(stk++[cur]).length+1:=by simp;omega
 have hS:=fun s m=>(TC d _ hy' g hg s m).eq
 generalize fnA d.funcs g=f at*
 have hsl:=tj hs
 have hK:=fun t ht m=>(Qq d _ hy' t ht m).eq
 have hM:=fun t i ht m=>(Ux d _ hy' t i ht m).eq
 have hO:=fun t a b ht m=>(z8x d _ hy' t a b ht m).eq
 have hK1:=hK _ (hsl x.a)
 have hK2:=hK _ (hsl x.b)
 have hK3:=hK _ (hsl x.c)
 have hsl2:=hsl x.b
 simp only[yh,List.map,go_sem,G3,G0,G2,hS]
 generalize callNx tab zC _ _=nz
 simp only[go_sem,G3,G0,G2,hK1,hK2,hK3]
 generalize callNx tab zy _ _=nz2
 rcases hop with h|h|h|h|h|h|h
 ·skip
  simp only[go_sem,G0,G2,h,G9]
  repeat' (((first|refine zo ?_ ?_|refine zl ?_ ?_|refine zm ?_ ?_|refine zj ?_ ?_|refine zk ?_ ?_)<;>intro hq)<;>simp only[go_sem,G0,G2,hq])
  all_goals
   rw[z6 rfl rfl,z8]
   refine⟨⟨_,rfl⟩,congrArg AV.bool ?_⟩
   unfold typR
   simp only[h,G8,reduceIte,or_self]<;>first|rfl|simp[*]
 ·skip
  simp only[go_sem,G0,G2,h,G9]
  repeat' (((first|refine zo ?_ ?_|refine zl ?_ ?_|refine zm ?_ ?_|refine zj ?_ ?_|refine zk ?_ ?_)<;>intro hq)<;>simp only[go_sem,reduceIte,G3,G5,G0,G4,G1,G2,hq,h])
  all_goals
   rw[z6 rfl rfl,z8]
   refine⟨⟨_,rfl⟩,congrArg AV.bool ?_⟩
   unfold typR
   simp only[h,G8,reduceIte,or_self]<;>first|rfl|simp[*]
 ·skip
  simp only[go_sem,G0,G2,h,G9]
  repeat' (((first|refine zo ?_ ?_|refine zl ?_ ?_|refine zm ?_ ?_|refine zj ?_ ?_|refine zk ?_ ?_)<;>intro hq)<;>simp only[go_sem,reduceIte,G3,G5,G0,G4,G1,G2,hq,h])
  all_goals
   rw[z6 rfl rfl,z8]
   refine⟨⟨_,rfl⟩,congrArg AV.bool ?_⟩
   unfold typR
   simp only[h,G8,reduceIte,or_self,or_true]<;>first|rfl|simp[*]
 ·skip
  simp only[go_sem,G0,G2,h,G9]
  repeat' (((first|refine zo ?_ ?_|refine zl ?_ ?_|refine zm ?_ ?_|refine zj ?_ ?_|refine zk ?_ ?_)<;>intro hq)<;>simp only[go_sem,reduceIte,G3,G5,G0,G4,G1,G2,hq,h])
  all_goals
   rw[z6 rfl rfl,z8]
   refine⟨⟨_,rfl⟩,congrArg AV.bool ?_⟩
   unfold typR
   simp only[h,G8,reduceIte,or_self]<;>first|rfl|simp[*]
 ·obtain⟨q,hq⟩: ∃q:Nat,x.b=q:=⟨x.b.toNat,by have:=z5c hx hN h;omega⟩
  have hqk:q<d.funcs.length:=by have:=z5c hx hN h;omega
  obtain⟨v0,v1,v2,v3,ef,q0,q1,q2,q3⟩:=h2.fnA hqk
  have hat:=h2.at .i64 hqk
  simp only[go_sem,G0,G2,h,G9,hq]
  repeat' (((first|refine zo ?_ ?_|refine zl ?_ ?_|refine zm ?_ ?_|refine zj ?_ ?_|refine zk ?_ ?_)<;>intro hq)<;>simp only[go_sem,G0,G2,hq,hat,ef])
  all_goals
   rw[z6 rfl rfl,z8]
   refine⟨⟨_,rfl⟩,congrArg AV.bool ?_⟩
   unfold typR
   simp only[h,hq,G8,reduceIte,or_self]<;>first|rfl|simp[*]
 ·obtain⟨q,hq⟩: ∃q:Nat,x.a=q:=⟨x.a.toNat,by have:=Ug hx hN (by omega);omega⟩
  have hqk:q<d.funcs.length:=by have:=Ug hx hN (by omega);omega
  have hIG:=hd.at hqk
  have hL:=fun c nz lv=>(z5p d _ hy' q hqk hIG.1 hIG.2.1 hIG.2.2.2 ⟨stk++[cur],c,nz,lv,fl⟩ hf').eq
  simp only[go_sem,G3,G0,G2,h,G9,hq,hL]
  repeat' (((first|refine zo ?_ ?_|refine zl ?_ ?_|refine zm ?_ ?_|refine zj ?_ ?_|refine zk ?_ ?_)<;>intro hq)<;>simp only[go_sem,reduceIte,G3,G5,G0,G4,G1,G2,hq,hq,hL])
  all_goals
   rw[z6 rfl rfl,z8]
   refine⟨⟨_,rfl⟩,congrArg AV.bool ?_⟩
   unfold typR
   simp only[h,hq,G8,reduceIte,or_false,or_self,w2d]<;>first|rfl|simp[*]
 ·obtain⟨q,hq⟩: ∃q:Nat,x.a=q:=⟨x.a.toNat,by have:=Ug hx hN (by omega);omega⟩
  have hqk:q<d.funcs.length:=by have:=Ug hx hN (by omega);omega
  have hIG:=hd.at hqk
  have hL:=fun c nz lv=>(z5p d _ hy' q hqk hIG.1 hIG.2.1 hIG.2.2.2 ⟨stk++[cur],c,nz,lv,fl⟩ hf').eq
  simp only[go_sem,G3,G0,G2,h,G9,hq,hL]
  repeat' (((first|refine zo ?_ ?_|refine zl ?_ ?_|refine zm ?_ ?_|refine zj ?_ ?_|refine zk ?_ ?_)<;>intro hq)<;>simp only[go_sem,reduceIte,G3,G5,G0,G4,G1,G2,hq,hq,hL])
  all_goals
   rw[z6 rfl rfl,z8]
   refine⟨⟨_,rfl⟩,congrArg AV.bool ?_⟩
   unfold typR
   simp only[h,hq,G8,reduceIte,or_self,or_true,w2d]<;>first|rfl|simp[*]
theorem z9l (d:DImage) (hd:ImgP d) (y:AV) (hy:IsImage d y) (g:Nat) (hg:g<d.funcs.length) (x:DInstr) (hx:InstrP x) (hw:WfI x) (hN:NearP d (fnA d.funcs g) x) (hop:x.op=28∨x.op=29∨x.op=30∨x.op=31∨x.op=32∨x.op=33∨x.op=34) (m:Mem) (hf:m.floor≤m.stk.length+1):
  Okv tab zT [y,.int .i64 g,.agg [.int .u8 x.op,.int .i64 x.a,.int .i64 x.b,.int .i64 x.c]] m (.bool (typR d (fnA d.funcs g) x)):=by
 have hy':=hy
 obtain⟨ty,tx,fs,rfl,h0,h1,h2⟩:=hy
 obtain⟨gw0,gw1,gw2,gw3,gef,gq0,gq1,gq2,gq3⟩:=h2.fnA hg
 have ghat:=h2.at .i64 hg
 have hs:=(hd.at hg).1
 refine zf xE ?_
 obtain⟨stk,cur,nx,live,fl⟩:=m
 dsimp only at hf
 have hf':fl≤(stk++[cur]).length+1:=by simp;omega
 have hS:=fun s m=>(TC d _ hy' g hg s m).eq
 generalize fnA d.funcs g=f at*
 have hsl:=tj hs
 have hK:=fun t ht m=>(Qq d _ hy' t ht m).eq
 have hM:=fun t i ht m=>(Ux d _ hy' t i ht m).eq
 have hO:=fun t a b ht m=>(z8x d _ hy' t a b ht m).eq
 have hK1:=hK _ (hsl x.a)
 have hK2:=hK _ (hsl x.b)
 have hK3:=hK _ (hsl x.c)
 have hsl2:=hsl x.b
 simp only[yh,List.map,go_sem,G3,G0,G2,hS]
 generalize callNx tab zC _ _=nz
 simp only[go_sem,G3,G0,G2,hK1,hK2,hK3]
 generalize callNx tab zy _ _=nz2
 rcases hop with h|h|h|h|h|h|h
 ·skip
  simp only[go_sem,G0,G2,h,G9]
  repeat' (((first|refine zo ?_ ?_|refine zl ?_ ?_|refine zm ?_ ?_|refine zj ?_ ?_|refine zk ?_ ?_)<;>intro hq)<;>simp only[go_sem,G0,G2,hq])
  all_goals
   rw[z6 rfl rfl,z8]
   refine⟨⟨_,rfl⟩,congrArg AV.bool ?_⟩
   unfold typR
   simp only[h,G8,reduceIte,or_self]<;>first|rfl|simp[*]
 ·skip
  simp only[go_sem,G0,G2,h,G9]
  repeat' (((first|refine zo ?_ ?_|refine zl ?_ ?_|refine zm ?_ ?_|refine zj ?_ ?_|refine zk ?_ ?_)<;>intro hq)<;>simp only[go_sem,G0,G2,hq])
  all_goals
   rw[z6 rfl rfl,z8]
   refine⟨⟨_,rfl⟩,congrArg AV.bool ?_⟩
   unfold typR
   simp only[h,G8,reduceIte,or_false,or_self]<;>first|rfl|simp[*]
 ·skip
  simp only[go_sem,G0,G2,h,G9]
  repeat' (((first|refine zo ?_ ?_|refine zl ?_ ?_|refine zm ?_ ?_|refine zj ?_ ?_|refine zk ?_ ?_)<;>intro hq)<;>simp only[go_sem,reduceIte,G3,G5,G0,G4,G1,G2,hq,h])
  all_goals
   rw[z6 rfl rfl,z8]
   refine⟨⟨_,rfl⟩,congrArg AV.bool ?_⟩
   unfold typR
   simp only[h,G8,reduceIte,or_self]<;>first|rfl|simp[*]
 ·skip
  simp only[go_sem,G0,G2,h,G9]
  repeat' (((first|refine zo ?_ ?_|refine zl ?_ ?_|refine zm ?_ ?_|refine zj ?_ ?_|refine zk ?_ ?_)<;>intro hq)<;>simp only[go_sem,reduceIte,G3,G5,G0,G4,G1,G2,hq,h])
  all_goals
   rw[z6 rfl rfl,z8]
   refine⟨⟨_,rfl⟩,congrArg AV.bool ?_⟩
   unfold typR
   simp only[h,G8,reduceIte,or_self]<;>first|rfl|simp[*]
 ·skip
  simp only[go_sem,G0,G2,h,G9]
  repeat' (((first|refine zo ?_ ?_|refine zl ?_ ?_|refine zm ?_ ?_|refine zj ?_ ?_|refine zk ?_ ?_)<;>intro hq)<;>simp only[go_sem,reduceIte,G3,G5,G0,G4,G1,G2,hq,h])
  all_goals
   rw[z6 rfl rfl,z8]
   refine⟨⟨_,rfl⟩,congrArg AV.bool ?_⟩
   unfold typR
   simp only[h,G8,reduceIte,or_self,or_true]<;>first|rfl|simp[*]
 ·skip
  simp only[go_sem,G0,G2,h,G9]
  repeat' (((first|refine zo ?_ ?_|refine zl ?_ ?_|refine zm ?_ ?_|refine zj ?_ ?_|refine zk ?_ ?_)<;>intro hq)<;>simp only[go_sem,G0,G2,hq])
  all_goals
   rw[z6 rfl rfl,z8]
   refine⟨⟨_,rfl⟩,congrArg AV.bool ?_⟩
   unfold typR
   simp only[h,G8,reduceIte,or_self,or_true]<;>first|rfl|simp[*]
 ·skip
  simp only[go_sem,G0,G2,h,G9]
  repeat' (((first|refine zo ?_ ?_|refine zl ?_ ?_|refine zm ?_ ?_|refine zj ?_ ?_|refine zk ?_ ?_)<;>intro hq)<;>simp only[go_sem,G0,G2,hq,ghat,gef])
  all_goals
   rw[z6 rfl rfl,z8]
   refine⟨⟨_,rfl⟩,congrArg AV.bool ?_⟩
   unfold typR
   simp only[h,G8,reduceIte,or_self]<;>first|rfl|simp[*]
theorem UD {d:DImage} {t k:Int} (hk:k≠0):isT d t [k]=(kindI d.types t==k):=by
 unfold isT
 rw[w40,decide_eq_true_iff,beq_iff_eq,w11]
 refine⟨fun h=>h.2,fun h=>⟨?_,h⟩⟩
 apply Classical.byContradiction
 intro hn
 unfold kindI at h
 rw[if_pos (by omega)] at h
 exact hk h.symm
theorem z1U {d:DImage} {t:Int} {ks:List Int} (h:0≤t):isT d t ks=decide (kindI d.types t∈ks):=by
 unfold isT;simp[h]
theorem z4I {d:DImage} {t a b e:Int} (h:0≤t) (he:0≤e):(ofT d t a b==e)=(decide (kindI d.types t=a∨kindI d.types t=b)&&decide ((tyA d.types t).elem=e)):=by
 unfold ofT
 by_cases hc:kindI d.types t=a∨kindI d.types t=b
 ·rw[if_pos ⟨h,hc⟩];simp[hc];rfl
 ·rw[if_neg (fun q=>hc q.2)]
  simp only[hc,decide_false,Bool.false_and,beq_eq_false_iff_ne,ne_eq];omega
theorem z8W {d:DImage} {t k e:Int} (he:0≤e):(memT d t k==e)=memB d t k e:=by
 unfold memT memB
 rw[w40,beq_iff_eq,decide_eq_true_iff]
 split
 ·rename_i h;exact⟨fun q=>⟨h.1,h.2.1,h.2.2.1,h.2.2.2,q⟩,fun q=>q.2.2.2.2⟩
 ·rename_i h;exact⟨fun q=>by omega,fun q=>absurd ⟨q.1,q.2.1,q.2.2.1,q.2.2.2.1⟩ h⟩
theorem zd5 {d:DImage} {t:Int} (h:0≤t):kindI d.types t=(tyA d.types t).kind:=by unfold kindI;rw[if_neg (by omega)]
theorem zem {d:DImage} {f:DFunc} {x:DInstr} (hs:SlotsP d f) (hx:InstrP x) (hw:WfI x) (hN:NearP d f x):typP d f x=typR d f x:=by
 have h1:isT d (slotT f x.a) [1]=(kindI d.types (slotT f x.a)==1):=UD (by decide)
 have h2:=fun t=>UD (d:=d) (t:=t) (k:=1) (by decide)
 have h3:=fun t=>UD (d:=d) (t:=t) (k:=2) (by decide)
 have h4:=fun t=>UD (d:=d) (t:=t) (k:=3) (by decide)
 have h5:=fun t=>UD (d:=d) (t:=t) (k:=4) (by decide)
 have h6:=fun t=>UD (d:=d) (t:=t) (k:=7) (by decide)
 have nn:=fun k hk hl=>TK hx hw hN hs (k:=k) hk hl
 have n0:=fun hl=>nn 0 (by decide) hl
 have n1:=fun hl=>nn 1 (by decide) hl
 have n2:=fun hl=>nn 2 (by decide) hl
 simp only[opn,sk] at n0 n1 n2
 have hx':=hx
 obtain⟨la,lb,lc,hsh,hf1,hf2,hf3⟩:=hx'
 rcases z1y hx with h|h|h|h|h|h|h|h|h|h|h|h|h|h|h|h|h|h|h|h|h|h|h|h|h|h|h|h|h|h|h|h|h|h
 all_goals
  unfold typP typR
  rw[h] at n0 n1 n2 hsh
  simp only[h,G8,or_false,or_true,if_true,if_false,List.all_cons,List.all_nil,Bool.and_true,h2,h3,h4,h5,h6,Bool.and_assoc]
 all_goals try with_reducible rfl
 ·have:=n1 (by decide)
  rw[z1U this,zd5 this]
  congr 2
  refine decide_eq_decide.2 ?_
  simp only[w32,List.not_mem_nil,or_false];omega
 ·have:=n0 (by decide)
  rw[z8W this]
 ·have:=n2 (by decide)
  rw[z8W this]
 ·have q1:=n1 (by decide)
  have q0:=n0 (by decide)
  rw[z4I q1 q0];simp[Bool.beq_eq_decide_eq]
 ·have q1:=n0 (by decide)
  have q0:=n1 (by decide)
  rw[z4I q1 q0];simp[Bool.beq_eq_decide_eq]
 ·have q1:=n1 (by decide)
  have q0:=n0 (by decide)
  rw[z4I q1 q0,z1U q1]
  simp only[w32,List.not_mem_nil,or_false,Bool.and_assoc]
 ·have q1:=n0 (by decide)
  have q0:=n2 (by decide)
  rw[z4I q1 q0,z1U q1]
  simp only[w32,List.not_mem_nil,or_false,Bool.and_assoc]
 ·have q1:=n1 (by decide)
  rw[z1U q1]
  congr 1
  rw[w40]
  simp[or_assoc]
 ·have e:la=103:=by
   have:shp 25=[103,99,45]:=by decide
   rw[this] at hsh;injection hsh with e _;exact e.symm
  have:lo 103= -1:=by decide
  unfold fitsK at hf1
  rw[e] at hf1
  congr 1
  rw[w40,decide_eq_true_iff,beq_iff_eq];omega
 ·have q1:=n0 (by decide)
  rw[z1U q1,w40]
  simp[or_assoc]
 ·have e:la=101:=by
   have:shp 34=[101,45,45]:=by decide
   rw[this] at hsh;injection hsh with e _;exact e.symm
  have:lo 101= -1:=by decide
  unfold fitsK at hf1
  rw[e] at hf1
  congr 1
  rw[w40,decide_eq_true_iff,beq_iff_eq];omega
theorem zcw (d:DImage) (hd:ImgP d) (f:DFunc) (y:AV) (hy:NV d f y) (hs:SlotsP d f) (x:DInstr) (hx:InstrP x) (hN:NearP d f x) (m:Mem) (hf:m.floor≤m.stk.length+1):
  Okv tab zO [y,.agg [.int .u8 x.op,.int .i64 x.a,.int .i64 x.b,.int .i64 x.c]] m (.bool (typP d f x)):=by
 have h:=z1y hx
 by_cases h1:x.op≤11
 ·exact z9h d hd f y hy hs x hx hN (by omega) m hf
 by_cases h2:x.op≤20
 ·exact z9g d hd f y hy hs x hx hN (by omega) m hf
 by_cases h3:x.op≤27
 ·exact z9f d hd f y hy hs x hx hN (by omega) m hf
 ·exact z9e d hd f y hy hs x hx hN (by omega) m hf
theorem zcB (d:DImage) (hd:ImgP d) (y:AV) (hy:IsImage d y) (g:Nat) (hg:g<d.funcs.length) (x:DInstr) (hx:InstrP x) (hw:WfI x) (hN:NearP d (fnA d.funcs g) x) (m:Mem) (hf:m.floor≤m.stk.length+1):
  Okv tab zT [y,.int .i64 g,.agg [.int .u8 x.op,.int .i64 x.a,.int .i64 x.b,.int .i64 x.c]] m (.bool (typP d (fnA d.funcs g) x)):=by
 rw[zem (hd.at hg).1 hx hw hN]
 have h:=z1y hx
 by_cases h1:x.op≤11
 ·exact z9o d hd y hy g hg x hx hw hN (by omega) m hf
 by_cases h2:x.op≤20
 ·exact z9n d hd y hy g hg x hx hw hN (by omega) m hf
 by_cases h3:x.op≤27
 ·exact z9m d hd y hy g hg x hx hw hN (by omega) m hf
 ·exact z9l d hd y hy g hg x hx hw hN (by omega) m hf
end Go.Proofs.W
end
