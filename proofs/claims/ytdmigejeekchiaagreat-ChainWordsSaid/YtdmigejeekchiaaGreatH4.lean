/-
  Part 5 of the proof, shared by claims of this seat: US13, US14, US15, US25, US31, US26, US32, UZF1, UC1, UC2, UC13, MVbc, UC4, UC14, UC17, US21, UZS1, UZS2, UZR2, USG, UC27, UZR3, UC15, UC18, UC19, UC5, MPla, MPlb, UC6, UC7, UC8.
-/
import Derived.Test.YtdmigejeekchiaaGreatH3
import Derived.Test.YtdmigejeekchiaaGreatH2
set_option maxHeartbeats 64000000
set_option maxRecDepth 1000000
set_option linter.unusedVariables false
set_option linter.unusedSimpArgs false
open Nat renaming reduceMul → G2, reduceAdd → G3, reduceSub → G4, reduceEqDiff → G6, reduceBEq → G7, reduceLT → G8, reduceLeDiff → G9, le_refl → w08, min_eq_left → w0c, zero_le → w0e, mul_one → w11, zero_add → w1f, not_lt_zero → w34, lt_succ_of_lt → w3c, lt_or_ge → w43, lt_of_lt_of_le → w55
open Int renaming reduceEq → H0, reduceLT → H1, reduceLE → H2, reduceAdd → H3, reduceSub → H4, reduceMul → H5, reducePow → H6, reduceToNat → H7, ofNat_lt → w02, toNat_natCast → w07, toNat_zero → w18, toNat_of_nonneg → w45
open Option renaming bind_eq_some_iff → w05, map_some → w06, map_none → w0d, getD_some → w32, bind_some → w36
open List renaming getD_eq_getElem?_getD → w03, getElem_mem → w04, take_length → w0a, mem_append → w0b, take_succ_eq_append_getElem → w0f, take_succ_cons → w10, getElem?_eq_some_iff → w13, length_append → w15, drop_zero → w19, take_zero → w1a, getElem?_append_left → w1b, mem_singleton → w1c, getElem?_eq_getElem → w1d, append_assoc → w1e, length_take → w20, append_nil → w21, getElem?_map → w22, mem_cons_self → w24, cons_append → w26, ext_getElem? → w27, length_singleton → w29, map_append → w2b, mem_cons_of_mem → w2c, flatMap_cons → w2d, nil_append → w2e, map_cons → w30, modify_eq_take_cons_drop → w33, take_of_length_le → w35, all_eq_true → w37, getElem?_append_right → w39, mem_of_mem_take → w3d, flatten_cons → w3e, getElem?_take → w3f, getLast?_singleton → w41, mem_map → w42, replicate_succ → w44, length_nil → w46, length_drop → w47, mem_iff_getElem → w49, set_cons_succ → w4b, getElem?_eq_none → w4c, mem_range → w4d, getElem?_cons_succ → w4e, forall_mem_iff_forall_getElem → w50, mem_append_left → w52, getLast?_append → w53, dropLast_concat → w54, set_cons_zero → w56, mem_cons → w57, length_map → w58, length_cons → w59, mem_append_right → w5a, contains_nil → w5b, set_eq_take_append_cons_drop → w5c
open Bool renaming and_eq_true → w09, false_and → w16, and_false → w17, or_eq_false_iff → w28, or_eq_true → w2f
section
namespace Go.Proofs.W
open Go.Vs
theorem zai {tab:Nat→Option AFunc} {f:Nat} {args:List AV} {m m':Mem} {r:AV} (h:CALL tab f args m=some (r,m')) (hf:m.floor≤m.stk.length+1):m.nx≤m'.nx:=by
 obtain⟨n,h⟩:=X6.1 h
 exact(z3u n _ _ _ _ _ h hf).nx
structure Own2 {α β:Type} (R1:α→AV→Prop) (s1:Nat) (y1:AV) (a:List α) (R2:β→AV→Prop) (s2:Nat) (y2:AV) (b:List β) (e:List Nat) (nx:Nat):Prop where
 l:Own R1 s1 y1 a e
 r:Own R2 s2 y2 b e
 dj: ∀t∈y1.toks,t∉y2.toks
 bl: ∀t∈y1.toks,t<nx
 br: ∀t∈y2.toks,t<nx
section
variable {α β : Type} {R1 : α → AV → Prop} {s1 : Nat} {y1 : AV} {a : List α} {R2 : β → AV → Prop} {s2 : Nat} {y2 : AV} {b : List β} {e : List Nat} {nx : Nat}
theorem Own2.symm (h:Own2 R1 s1 y1 a R2 s2 y2 b e nx):Own2 R2 s2 y2 b R1 s1 y1 a e nx:=⟨h.r,h.l,fun t h1 h2=>h.dj t h2 h1,h.br,h.bl⟩
theorem Own2.nil (e:List Nat) (nx:Nat):Own2 R1 s1 .nils [] R2 s2 .nils [] e nx:=⟨.nil e,.nil e,fun t h=>by simp[AV.toks] at h,fun t h=>by simp[AV.toks] at h,fun t h=>by simp[AV.toks] at h⟩
theorem Own2.mono {e':List Nat} {nx':Nat} (h:Own2 R1 s1 y1 a R2 s2 y2 b e nx) (k: ∀t∈e,t∈e') (hn:nx≤nx'):Own2 R1 s1 y1 a R2 s2 y2 b e' nx':=
 ⟨h.l.mono k,h.r.mono k,h.dj,fun t ht=>w55 (h.bl t ht) hn,fun t ht=>w55 (h.br t ht) hn⟩
theorem z6s {α:Type} {R:α→AV→Prop} {s:Nat} {y:AV} {xs:List α} {e:List Nat} {t:Nat} (h:Own R s y xs e) (ht:t∉y.toks):Own R s y xs (e.erase t):=by
 rcases h with h|⟨tk,ys,h1,h2,h3|⟨u,h3,h4⟩⟩
 ·exact .inl h
 ·exact .inr ⟨tk,ys,h1,h2,.inl h3⟩
 ·refine .inr ⟨tk,ys,h1,h2,.inr ⟨u,(List.mem_erase_of_ne ?_).2 h3,h4⟩⟩
  rintro rfl
  exact ht (by rw[h1,h4];simp[AV.toks])
theorem Own2.app {cs:List α} {z:AV} {zs:List AV} {bytes:Nat} (h:Own2 R1 s1 y1 a R2 s2 y2 b e nx) (hz: ∀m:Mem,m.elems s1 z=some zs) (hc:All2 R1 cs zs) (hl:(a.length+cs.length)*bytes≤140737488355328)
  (stk:List (List Blk)) (cur:List Blk) (rest:List (List Nat)) (fl:Nat):
  ∃y' n e',evApp ⟨stk,cur,nx,e::rest,fl⟩ s1 bytes y1 z=some (y',⟨stk,cur,n,e'::rest,fl⟩)∧Own2 R1 s1 y' (a++cs) R2 s2 y2 b e' n:=by
 have new: ∀ys (e':List Nat),All2 R1 (a++cs) ys→Own R2 s2 y2 b e'→nx∈e'→Own2 R1 s1 (.list s1 (.id nx) ys) (a++cs) R2 s2 y2 b e' (nx+1):=fun ys e' q ho hn=>
  ⟨.inr ⟨_,ys,rfl,q,.inr ⟨nx,hn,rfl⟩⟩,ho,fun t ht h2=>by
   simp only[AV.toks,w1c] at ht
   subst ht
   exact Nat.lt_irrefl _ (h.br _ h2),fun t ht=>by
   simp only[AV.toks,w1c] at ht
   omega,fun t ht=>w3c (h.br t ht)⟩
 rcases Own.app (m:=⟨stk,cur,nx,e::rest,fl⟩) (h.l.mono fun t h=>by simp only[w3e,w0b];exact .inl h) (hz _) hc hl with⟨hcs,q⟩|⟨ys,q,eq⟩|⟨t,ys,q0,hy,_,q,eq⟩
 ·grind
 ·exact⟨_,_,nx::e,eq,new ys _ q (h.r.mono fun t h=>w2c _ h) w24⟩
 ·have ht:t∈e:=by
   rcases h.l with⟨h1,_⟩|⟨tk,ys',e1,_,e2|⟨t',e3,e2⟩⟩
   ·grind
   ·grind
   ·grind
  have hd:dropTok t (e::rest)=e.erase t::rest:=by
   simp only[dropTok];rw[if_pos (by simpa using ht)]
  rw[show(Mem.live ⟨stk,cur,nx,e::rest,fl⟩)=e::rest from rfl,hd] at eq
  refine⟨_,_,nx::e.erase t,eq,new ys _ q ((z6s h.r (h.dj t (by rw[hy];simp[AV.toks]))).mono fun t h=>w2c _ h) w24⟩
variable {tab : Nat → Option AFunc} {ρ : List AV} {k : Kont} {l : List AOper} {d : Option Nat}
theorem Own2.xv1 {cs:List α} {z:AV} {zs:List AV} {bytes fl:Nat} {stk:List (List Blk)} {cur:List Blk} {rest:List (List Nat)} (h:Own2 R1 s1 y1 a R2 s2 y2 b e nx) (hz: ∀m:Mem,m.elems s1 z=some zs) (hc:All2 R1 cs zs) (hl:(a.length+cs.length)*bytes≤140737488355328)
  (q: ∀y' n e',Own2 R1 s1 y' (a++cs) R2 s2 y2 b e' n→Xs tab l (setDst ρ d y') ⟨stk,cur,n,e'::rest,fl⟩ k):Xv tab (evApp ⟨stk,cur,nx,e::rest,fl⟩ s1 bytes y1 z) d l ρ k:=by
 obtain⟨y',n,e',h1,h2⟩:=h.app hz hc hl stk cur rest fl
 rw[h1,tF];exact q y' n e' h2
theorem Own2.xv2 {cs:List β} {z:AV} {zs:List AV} {bytes fl:Nat} {stk:List (List Blk)} {cur:List Blk} {rest:List (List Nat)} (h:Own2 R1 s1 y1 a R2 s2 y2 b e nx) (hz: ∀m:Mem,m.elems s2 z=some zs) (hc:All2 R2 cs zs) (hl:(b.length+cs.length)*bytes≤140737488355328)
  (q: ∀y' n e',Own2 R1 s1 y1 a R2 s2 y' (b++cs) e' n→Xs tab l (setDst ρ d y') ⟨stk,cur,n,e'::rest,fl⟩ k):Xv tab (evApp ⟨stk,cur,nx,e::rest,fl⟩ s2 bytes y2 z) d l ρ k:=by
 obtain⟨y',n,e',h1,h2⟩:=h.symm.app hz hc hl stk cur rest fl
 rw[h1,tF];exact q y' n e' h2.symm
end
theorem zaX {n a:Nat} (ha:is18 a) (hn:n≤4194304) (m:Mem):Okv tab 316 [.int .i64 n,.int .i64 a] m (.int .i64 (up n a:Nat)):=by
 refine zp (tT tJ) ?_
 obtain⟨stk,cur,nx,live,fl⟩:=m
 have e1:IntKind.i64.wrap ((n:Int)+(a:Int))=((n+a:Nat):Int):=by unfold is18 at ha;rw[z6 (by omega) (by omega)];omega
 have e2:IntKind.i64.wrap (((n+a:Nat):Int)-1)=((n+a-1:Nat):Int):=by unfold is18 at ha;rw[z6 (by omega) (by omega)];omega
 have e3:IntKind.i64.wrap (((n+a-1:Nat):Int).tdiv (a:Int))=(((n+a-1)/a:Nat):Int):=by
  rw[z7P]
  have:(n+a-1)/a≤n+a-1:=Nat.div_le_self _ _
  unfold is18 at ha
  generalize (n+a-1)/a=q at*
  rw[z6 (by omega) (by omega)]
 have e4:IntKind.i64.wrap ((((n+a-1)/a:Nat):Int)*(a:Int))=((up n a:Nat):Int):=by
  rw[←Int.natCast_mul]
  have:=XM (n:=n) ha
  show IntKind.i64.wrap ((up n a:Nat):Int)=_
  rw[z6 (by omega) (by omega)]
 have e0: ¬((a:Int)=0):=by unfold is18 at ha;omega
 simp only[tJ,go_sem,G3,G6,G8,e1,e2,e0,e3,e4]
 rw[z4 rfl rfl,z5]
 simp
def szs (ws:List (Nat×Nat)):List Nat:=ws.map Prod.fst
def als (ws:List (Nat×Nat)):List Nat:=ws.map Prod.snd
theorem z1v {ws:List (Nat×Nat)} {j:Nat} (h:j<ws.length):(szs ws)[j]'(by simpa [szs] using h)=(ws.getD j (0,0)).1:=by simp[szs,w03,h]
theorem z5W {ws:List (Nat×Nat)} {j:Nat} (h:j<ws.length):(als ws)[j]'(by simpa [als] using h)=(ws.getD j (0,0)).2:=by simp[als,w03,h]
theorem z3M (ws:List (Nat×Nat)) (hg:GoodP ws) (y1 y2:AV) (h1:IsSl IsN 1 (szs ws) y1) (h2:IsSl IsN 1 (als ws) y2) (fields:List DField) (v:AV) (q1:IsSl IsField 2 fields v) (hf: ∀f∈fields,0≤f.typ∧f.typ<ws.length) (hlen:fields.length≤100) (m:Mem):
  ∃y ts k,CALL tab 275 [y1,y2,v] m=some (.tup [y,.int .i64 ((togEnd 1000000 ws fields).1:Nat),.int .i64 ((togEnd 1000000 ws fields).2:Nat)],{m with nx:=k,live:=pushToks ts m.live})∧Own IsN 1 y (tog 1000000 ws fields).1 ts:=by
 suffices h:Does tab 275 [y1,y2,v] m fun r m'=> ∃y ts k,r= .tup [y,.int .i64 ((togEnd 1000000 ws fields).1:Nat),.int .i64 ((togEnd 1000000 ws fields).2:Nat)]∧m'={m with nx:=k,live:=pushToks ts m.live}∧Own IsN 1 y (tog 1000000 ws fields).1 ts by
  obtain⟨z,e1,y,ts,k,e2,e3,e4⟩:=h
  grind
 refine yD (tT xT) ?_ (Nat.le_of_ble_eq_true rfl)
 obtain⟨stk,cur,nx,live,fl⟩:=m
 simp only[xT,go_sem,G3]
 refine zg (α:=Nat) (fun k σ=>k≤fields.length∧ ∃nz y e,Own IsN 1 y (tog 1000000 ws (fields.take k)).1 e∧heads [0,1,2,9,10,11,12] 0 σ=⟨tmps 55 [(0,y1),(1,y2),(2,v),(9,y),(10,.int .i64 ((tog 1000000 ws (fields.take k)).2.1:Nat)),(11,.int .i64 ((tog 1000000 ws (fields.take k)).2.2:Nat)),(12,.int .i64 k)],⟨stk++[cur],[],nz,e::live,fl⟩⟩) (fun k=>fields.length-k) 0 ?_ ?_
 ·refine⟨w0e _,nx,.nils,[],.nil _,?_⟩
  rfl
 ·rintro k σ ⟨hk,nz,y,e,ho,hσ⟩
  rw[hσ]
  clear hσ σ
  dsimp only at hk⊢
  obtain⟨g1,g2,g3⟩:=Z8 (far:=1000000) (by omega) hg hf k hk
  by_cases h:k<fields.length
  ·have e2:nth v k= .agg [.str fields[k].name,.int .i64 fields[k].typ]:=q1.nth h
   have hat2:=q1.at .i64 h
   have hfk:=hf _ (w04 h)
   have hj:fields[k].typ.toNat<ws.length:=by omega
   have hgk:=hg.get hj
   have ht1:fields[k].typ.toNat<(szs ws).length:=by simpa [szs] using hj
   have ht2:fields[k].typ.toNat<(als ws).length:=by simpa [als] using hj
   have s1:nth y1 fields[k].typ.toNat= .int .i64 ((szs ws)[fields[k].typ.toNat]:Nat):=h1.nth ht1
   have s2:nth y2 fields[k].typ.toNat= .int .i64 ((als ws)[fields[k].typ.toNat]:Nat):=h2.nth ht2
   have a1:=h1.at .i64 ht1
   have a2:=h2.at .i64 ht2
   rw[w45 hfk.1] at a1 a2
   rw[z1v hj] at s1
   rw[z5W hj] at s2
   have hts:=jw 1000000 ws h
   unfold togStep at hts
   generalize tog 1000000 ws (fields.take k)=s at*
   obtain⟨offs,en,mo⟩:=s
   dsimp only at g1 g2 g3 ho
   generalize ws.getD fields[k].typ.toNat (0,0)=pr at*
   have hup:=XM (n:=en) hgk.2
   have ew:IntKind.i64.wrap ((up en pr.2:Nat)+(pr.1:Nat))=((up en pr.2+pr.1:Nat):Int):=by rw[z6 (by omega) (by omega)];omega
   simp only[go_sem,G6,G7,G8,w02,h,q1.len,hat2,e2,a2,s2,(zaX hgk.2 (show en≤4194304 by omega) _).eq]
   refine ho.xv (zh · _ _ _) (yc (R:=IsN) (x:=up en pr.2) rfl) (by simp;omega) fun y' n' e' ho'=> ?_
   simp only[go_sem,G6,G8,a1,s1,a2,s2,ew,z1O,z9Z,zq h q1.max]
   refine⟨k+1,by omega,h,n',y',e',?_,?_⟩
   ·grind
   ·rw[hts]
  ·have:k=fields.length:=by omega
   subst this
   rw[w0a] at*
   have hup:=XM (n:=(tog 1000000 ws fields).2.1) g3
   simp only[go_sem,G6,G7,G8,w02,h,q1.len,(zaX g3 (show(tog 1000000 ws fields).2.1≤4194304 by omega) _).eq,z1O]
   rw[qk (by simp only[AV.refs,refsAny,ho.refs];rfl),z5]
   refine⟨y,_,_,rfl,rfl,?_⟩
   simp only[AV.toks,toksAll,w21]
   exact ho.filter
theorem z5e (l:List DTyp) (x:AV) (hx:IsSl IsTyp 4 l x) (hv:ValidT l) (hl:l.length≤100) (m:Mem) (hf:m.floor≤m.stk.length+1):
  ∃y1 y2 ts k,CALL tab 214 [x] m=some (.tup [y1,y2],{m with nx:=k,live:=pushToks ts m.live})∧Own IsN 1 y1 (szs (exts 1000000 l)) ts∧Own IsN 1 y2 (als (exts 1000000 l)) ts:=by
 suffices h:Does tab 214 [x] m fun r m'=> ∃y1 y2 ts k,r= .tup [y1,y2]∧m'={m with nx:=k,live:=pushToks ts m.live}∧Own IsN 1 y1 (szs (exts 1000000 l)) ts∧Own IsN 1 y2 (als (exts 1000000 l)) ts by
  obtain⟨z,e1,y1,y2,ts,k,e2,e3,e4⟩:=h
  grind
 refine yD (tT um) ?_ (Nat.le_of_ble_eq_true rfl)
 obtain⟨stk,cur,nx,live,fl⟩:=m
 dsimp only at hf
 dsimp only[um,fnOf];simp only[go_sem]
 refine zg (α:=Nat) (fun i σ=>i≤l.length∧ ∃nz y1 y2 e,Own2 IsN 1 y1 (szs (exts 1000000 (l.take i))) IsN 1 y2 (als (exts 1000000 (l.take i))) e nz∧heads [0,4,5,6] 0 σ=⟨tmps 75 [(0,x),(4,y1),(5,y2),(6,.int .i64 i)],⟨stk++[cur],[],nz,e::live,fl⟩⟩) (fun i=>l.length-i) 0 ?_ ?_
 ·refine⟨w0e _,nx,.nils,.nils,[],.nil _ _,?_⟩
  rfl
 ·rintro i σ ⟨hi,nz,y1,y2,e,hO,hσ⟩
  rw[hσ]
  clear hσ σ
  dsimp only at hi⊢
  by_cases h:i<l.length
  ·have hfine:=hv i h
   obtain⟨v,e1,q1⟩:=hx.nth h
   have hat:=hx.at .i64 h
   have hsucc:=zq h hx.max
   have hAl:=xz 1000000 l i hi
   have hrs:=jl 1000000 h
   have hgood:=jm (far:=1000000) (by omega) hv i hi
   have hflen:=tA hfine
   have hlx:=hx.len
   generalize hout:exts 1000000 (l.take i)=A at*
   generalize ht:l[i]=t at*
   clear ht
   obtain⟨kind,elem,len,fields⟩:=t
   dsimp only at e1 q1 hflen
   simp only[go_sem,G6,G7,G8,w02,h,hlx,hat,e1]
   by_cases k1:kind=1
   ·subst k1
    have hV:((1:Nat),(1:Nat))=ext1 1000000 A ⟨1,elem,len,fields⟩:=rfl
    simp only[go_sem,G6,G8]
    refine hO.xv1 (zh · _ _ _) (yc (R:=IsN) (x:=1) rfl) (by simp[szs];omega) fun y1' n1 e1' hO1=> ?_
    simp only[go_sem,G6,G8]
    refine hO1.xv2 (zh · _ _ _) (yc (R:=IsN) (x:=1) rfl) (by simp[als];omega) fun y2' n2 e2' hO2=> ?_
    simp only[go_sem,G6,G8,hsucc]
    refine⟨i+1,by omega,h,n2,y1',y2',e2',?_,rfl⟩
    rw[hrs,←hV]
    simpa [szs,als] using hO2
   have k1':(kind==1)=false:=by simpa using k1
   by_cases k3:kind=3
   ·subst k3
    have hV:((16:Nat),(8:Nat))=ext1 1000000 A ⟨3,elem,len,fields⟩:=rfl
    simp only[go_sem,G6,G8,k1']
    refine hO.xv1 (zh · _ _ _) (yc (R:=IsN) (x:=16) rfl) (by simp[szs];omega) fun y1' n1 e1' hO1=> ?_
    simp only[go_sem,G6,G8]
    refine hO1.xv2 (zh · _ _ _) (yc (R:=IsN) (x:=8) rfl) (by simp[als];omega) fun y2' n2 e2' hO2=> ?_
    simp only[go_sem,G6,G8,hsucc]
    refine⟨i+1,by omega,h,n2,y1',y2',e2',?_,rfl⟩
    rw[hrs,←hV]
    simpa [szs,als] using hO2
   have k3':(kind==3)=false:=by simpa using k3
   by_cases k7:kind=7
   ·subst k7
    have hV:((24:Nat),(8:Nat))=ext1 1000000 A ⟨7,elem,len,fields⟩:=rfl
    simp only[go_sem,G6,G8,k1',k3']
    refine hO.xv1 (zh · _ _ _) (yc (R:=IsN) (x:=24) rfl) (by simp[szs];omega) fun y1' n1 e1' hO1=> ?_
    simp only[go_sem,G6,G8]
    refine hO1.xv2 (zh · _ _ _) (yc (R:=IsN) (x:=8) rfl) (by simp[als];omega) fun y2' n2 e2' hO2=> ?_
    simp only[go_sem,G6,G8,hsucc]
    refine⟨i+1,by omega,h,n2,y1',y2',e2',?_,rfl⟩
    rw[hrs,←hV]
    simpa [szs,als] using hO2
   have k7':(kind==7)=false:=by simpa using k7
   by_cases k6:kind=6
   ·subst k6
    have hel:=hflen.2.2.2.1 rfl
    have hle:=hflen.2.1 rfl
    have hj:elem.toNat<A.length:=by omega
    have hge:=hgood.get hj
    have hV:(min 1000000 (len.toNat*(A.getD elem.toNat (0,0)).1),(A.getD elem.toNat (0,0)).2)=ext1 1000000 A ⟨6,elem,len,fields⟩:=rfl
    have ht1:elem.toNat<(szs A).length:=by simpa [szs] using hj
    have ht2:elem.toNat<(als A).length:=by simpa [als] using hj
    have s1:nth y1 elem.toNat= .int .i64 ((szs A)[elem.toNat]:Nat):=hO.l.nth ht1
    have s2:nth y2 elem.toNat= .int .i64 ((als A)[elem.toNat]:Nat):=hO.r.nth ht2
    have a1:=hO.l.at .i64 ht1
    have a2:=hO.r.at .i64 ht2
    rw[w45 hel.1] at a1 a2
    rw[z1v hj] at s1
    rw[z5W hj] at s2
    generalize A.getD elem.toNat (0,0)=pr at*
    have hmul:len.toNat*pr.1≤16*1048576:=Nat.mul_le_mul (by omega) hge.1
    have ew:IntKind.i64.wrap (len*(pr.1:Int))=((len.toNat*pr.1:Nat):Int):=by
     have:len*(pr.1:Int)=((len.toNat*pr.1:Nat):Int):=by rw[Int.natCast_mul,w45 (by omega)]
     rw[this,z6 (by omega) (by omega)]
    simp only[go_sem,G6,G8,k1',k3',k7',hat,e1,a1,s1,a2,s2,ew,z1O]
    refine hO.xv1 (zh · _ _ _) (yc (R:=IsN) (x:=min 1000000 (len.toNat*pr.1)) rfl) (by simp[szs];omega) fun y1' n1 e1' hO1=> ?_
    simp only[go_sem,G6,G8]
    refine hO1.xv2 (zh · _ _ _) (yc (R:=IsN) (x:=pr.2) rfl) (by simp[als];omega) fun y2' n2 e2' hO2=> ?_
    simp only[go_sem,G6,G8,hsucc]
    refine⟨i+1,by omega,h,n2,y1',y2',e2',?_,rfl⟩
    rw[hrs,←hV]
    simpa [szs,als] using hO2
   have k6':(kind==6)=false:=by simpa using k6
   by_cases k5:kind=5
   ·subst k5
    have hV:togEnd 1000000 A fields=ext1 1000000 A ⟨5,elem,len,fields⟩:=rfl
    obtain⟨yt,ts,kk,hcall,_⟩:=z3M A hgood y1 y2 (hO.l.sl (by simp[szs];omega)) (hO.r.sl (by simp[als];omega)) fields v q1 (by rw[hAl];exact hflen.2.2.2.2.2) (by omega) ⟨stk++[cur],[],nz,e::live,fl⟩
    have hnx:=zai hcall (by simp;omega)
    simp only[go_sem,G6,G8,k1',k3',k7',k6',hat,e1,hcall]
    have hO:=hO.mono (e':=ts++e) (fun t ht=>w5a _ ht) hnx
    generalize togEnd 1000000 A fields=pr at*
    refine hO.xv1 (zh · _ _ _) (yc (R:=IsN) (x:=pr.1) rfl) (by simp[szs];omega) fun y1' n1 e1' hO1=> ?_
    simp only[go_sem,G6,G8]
    refine hO1.xv2 (zh · _ _ _) (yc (R:=IsN) (x:=pr.2) rfl) (by simp[als];omega) fun y2' n2 e2' hO2=> ?_
    simp only[go_sem,G6,G8,hsucc]
    refine⟨i+1,by omega,h,n2,y1',y2',e2',?_,rfl⟩
    rw[hrs,←hV]
    simpa [szs,als] using hO2
   have k5':(kind==5)=false:=by simpa using k5
   have hV:((8:Nat),(8:Nat))=ext1 1000000 A ⟨kind,elem,len,fields⟩:=by unfold ext1;simp only[k1,k3,k7,k6,k5,if_false]
   simp only[go_sem,G6,G8,k1',k3',k7',k6',k5']
   refine hO.xv1 (zh · _ _ _) (yc (R:=IsN) (x:=8) rfl) (by simp[szs];omega) fun y1' n1 e1' hO1=> ?_
   simp only[go_sem,G6,G8]
   refine hO1.xv2 (zh · _ _ _) (yc (R:=IsN) (x:=8) rfl) (by simp[als];omega) fun y2' n2 e2' hO2=> ?_
   simp only[go_sem,G6,G8,hsucc]
   refine⟨i+1,by omega,h,n2,y1',y2',e2',?_,rfl⟩
   rw[hrs,←hV]
   simpa [szs,als] using hO2
  ·have:i=l.length:=by omega
   subst this
   rw[w0a] at hO
   simp only[go_sem,G6,G7,G8,w02,h,hx.len]
   rw[qk (by simp only[AV.refs,refsAny,hO.l.refs,hO.r.refs];rfl),z5]
   refine⟨y1,y2,_,_,rfl,rfl,hO.l.filter.mono ?_,hO.r.filter.mono ?_⟩
   ·intro t ht
    simp only[List.mem_filter,AV.toks,toksAll,w21,List.contains_iff_mem,w0b] at ht⊢
    grind
   ·intro t ht
    simp only[List.mem_filter,AV.toks,toksAll,w21,List.contains_iff_mem,w0b] at ht⊢
    grind
def agree (a b:Nat):Prop:=a=b∨(256<a∧256<b)
def AgL (A B:List (Nat×Nat)):Prop:=A.length=B.length∧ ∀j,agree (A.getD j (0,0)).1 (B.getD j (0,0)).1∧(A.getD j (0,0)).2=(B.getD j (0,0)).2
theorem U6 {f1 f2 x y:Nat} (h1:256<f1) (h2:256<f2) (h:agree x y):agree (min f1 x) (min f2 y):=by unfold agree at*;omega
theorem z3D {x y a:Nat} (ha:is18 a) (h:agree x y):agree (up x a) (up y a):=by
 rcases h with rfl|⟨h1,h2⟩
 ·exact .inl rfl
 ·have:=XM (n:=x) ha;have:=XM (n:=y) ha;exact .inr (by omega)
theorem z7i {a b c d:Nat} (h:agree a b) (k:agree c d):agree (a+c) (b+d):=by unfold agree at*;omega
theorem z0j {f1 f2:Nat} (h1:256<f1) (h1':f1≤1048576) (h2:256<f2) {A B:List (Nat×Nat)} (hg:GoodP A) (h:AgL A B) {fs:List DField} (hf: ∀f∈fs,0≤f.typ∧f.typ<A.length): ∀k,k≤fs.length→
  agree (tog f1 A (fs.take k)).2.1 (tog f2 B (fs.take k)).2.1∧(tog f1 A (fs.take k)).2.2=(tog f2 B (fs.take k)).2.2
 |0,_=>by simp[tog,agree]
 |k+1,hk=>by
  obtain⟨e1,e2⟩:=z0j h1 h1' h2 hg h hf k (by omega)
  obtain⟨_,_,g3⟩:=Z8 h1' hg hf k (by omega)
  have hfk:=hf _ (w04 (show k<fs.length by omega))
  have hgk:=hg.get (j:=fs[k].typ.toNat) (by omega)
  have hj:=h.2 fs[k].typ.toNat
  rw[jw f1 A (show k<fs.length by omega),jw f2 B (show k<fs.length by omega)]
  simp only[togStep]
  rw[←hj.2]
  exact⟨U6 h1 h2 (z7i (z3D hgk.2 e1) hj.1),by rw[e2]⟩
theorem z4G {f1 f2:Nat} (h1:256<f1) (h1':f1≤1048576) (h2:256<f2) {A B:List (Nat×Nat)} (hg:GoodP A) (h:AgL A B) {n i:Nat} {t:DTyp} (hf:FineT n i t) (hi:A.length=i):
  agree (ext1 f1 A t).1 (ext1 f2 B t).1∧(ext1 f1 A t).2=(ext1 f2 B t).2:=by
 have hl:=tA hf
 unfold ext1
 split
 ·simp[agree]
 ·split
  ·simp[agree]
  ·split
   ·simp[agree]
   ·split
    ·rename_i h6
     have hj:=h.2 t.elem.toNat
     refine⟨U6 h1 h2 ?_,hj.2⟩
     have hlen:=(hl.2.1 h6).1
     rcases hj.1 with e|⟨e,e'⟩
     ·rw[e];exact .inl rfl
     ·have m1:=Nat.mul_le_mul (show 1≤t.len.toNat by omega) (w08 (A.getD t.elem.toNat (0,0)).1)
      have m2:=Nat.mul_le_mul (show 1≤t.len.toNat by omega) (w08 (B.getD t.elem.toNat (0,0)).1)
      exact .inr (by omega)
    ·split
     ·have hfs: ∀f∈t.fields,0≤f.typ∧f.typ<A.length:=by rw[hi];exact hl.2.2.2.2.2
      have:=z0j h1 h1' h2 hg h hfs t.fields.length (w08 _)
      have hgd:=Z8 h1' hg hfs t.fields.length (w08 _)
      rw[w0a] at this hgd
      simp only[togEnd]
      rw[←this.2]
      exact⟨U6 h1 h2 (z3D hgd.2.2 this.1),rfl⟩
     ·simp[agree]
theorem ZE {f1 f2:Nat} (h1:256<f1) (h1':f1≤1048576) (h2:256<f2) {l:List DTyp} (hv:ValidT l): ∀i,i≤l.length→AgL (exts f1 (l.take i)) (exts f2 (l.take i))
 |0,_=>by simp[exts,AgL,agree]
 |i+1,hi=>by
  have ih:=ZE h1 h1' h2 hv i (by omega)
  have la:=xz f1 l i (by omega)
  have lb:=xz f2 l i (by omega)
  have he:=z4G h1 h1' h2 (jm h1' hv i (by omega)) ih (hv i (by omega)) la
  rw[jl f1 (show i<l.length by omega),jl f2 (show i<l.length by omega)]
  refine⟨by simp[la,lb],fun j=> ?_⟩
  by_cases hj:j<i
  ·rw[Xa (by omega),Xa (by omega)];exact ih.2 j
  ·by_cases hj2:j=i
   ·grind
   ·simp only[w03]
    rw[w4c (by simp;omega),w4c (by simp;omega)]
    simp[agree]
def FitsP (l:List DTyp):Prop:= ∀i,i<l.length→((exts 1000000 l).getD i (0,0)).1≤256
theorem z8H {l:List DTyp} (hv:ValidT l) (i:Nat):((exts 1048576 l).getD i (0,0)).1≤256↔((exts 1000000 l).getD i (0,0)).1≤256:=by
 have:=(ZE (f1:=1048576) (f2:=1000000) (by omega) (w08 _) (by omega) hv l.length (w08 _)).2 i
 rw[w0a] at this
 unfold agree at this;omega
theorem z2S {m0:Mem} {stk:List (List Blk)} {cur c':List Blk} {nx' fl':Nat} {own:List Nat} {live':List (List Nat)} {k st off len:Nat} {a:Int}:
  ∃bs:List Blk,leave m0 ⟨stk++[cur],c',nx',own::live',fl'⟩ (.tup [.arr (stk++[cur]).length k st off len,.int .i64 a])=some (.tup [.arr stk.length (k+cur.length) st off len,.int .i64 a],⟨stk,cur++bs,nx',live',m0.floor⟩)∧
   ∀ws,c'[k]? =some ⟨st,prs ws⟩→bs[k]? =some ⟨st,prs ws⟩:=by
 have e:own.filter (fun _=>false)=[]:=by simp
 refine⟨c'.map fun b=>⟨b.st,shiftAll (stk++[cur]).length ((stk++[cur]).length-1) cur.length b.cs⟩,?_,?_⟩
 ·unfold leave
  simp only[w53,w41,Option.some_or,AV.refs,refsAny,beq_self_eq_true,Bool.true_or,if_true,AV.toks,toksAll,w21,w5b,e,pushToks,w54,AV.shift,shiftAll]
  simp
 ·intro ws h
  rw[w22,h,w06,z0n]
theorem z1F {ws:List (Nat×Nat)} {j:Nat} (h:j<ws.length):takeV false 1 ((prs ws).drop (j*2))=some (.int .i64 ((ws.getD j (0,0)).1:Int)):=by rw[WQ ws j h,TA]
theorem zbe {ws:List (Nat×Nat)} {j:Nat} (h:j<ws.length):takeV false 1 ((prs ws).drop (j*2+1))=some (.int .i64 ((ws.getD j (0,0)).2:Int)):=by
 rw[←List.drop_drop,WQ ws j h];simp[takeV]
theorem z3U (l:List DTyp) (x:AV) (hx:IsSl IsTyp 4 l x) (hw:WfTypes l) (hc:CheckP l) (i:Nat) (hi:i<l.length) (hs:((exts 1048576 l).getD i (0,0)).1≤256) (stk:List (List Blk)) (cur:List Blk) (nx fl:Nat) (live:List (List Nat)):
  ∃bs j st k,CALL tab 187 [x,.int .i64 i] ⟨stk,cur,nx,live,fl⟩=some (.tup [.arr stk.length (cur.length+j) st 0 l.length,.int .i64 0],⟨stk,cur++bs,k,live,fl⟩)∧bs[j]? =some ⟨st,prs (exts 1048576 l)⟩:=by
 suffices h:Does tab 187 [x,.int .i64 i] ⟨stk,cur,nx,live,fl⟩ fun v m'=> ∃bs j st k,v= .tup [.arr stk.length (cur.length+j) st 0 l.length,.int .i64 0]∧m'=⟨stk,cur++bs,k,live,fl⟩∧bs[j]? =some ⟨st,prs (exts 1048576 l)⟩ by
  obtain⟨z,h1,bs,j,st,k,h2,h3,h4⟩:=h
  grind
 refine yD (tT t9) ?_ (Nat.le_of_ble_eq_true rfl)
 have hC:=qt l x hx hw
 rw[VX hc] at hC
 have hl:=hc.1
 simp only[t9,go_sem,G3,G6,G8,(hC _).eq,show((0:Int) !=0)=false from rfl,hx.len,show¬((i:Int)<0) by omega,show¬((i:Int)≥l.length) by omega]
 obtain⟨bs,j,st,k,hcall,hbs⟩:=qi l x hx hc.2.1 (by omega) (stk++[cur]) [] (callNx tab 204 [x] ⟨stk++[cur],[],nx,[]::live,fl⟩) fl ([]::live)
 have hel:(exts 1048576 l).length=l.length:=by have:=xz 1048576 l l.length (w08 _);rwa [w0a] at this
 have hix:=uG .i64 (p:=(i:Int)) (n:=l.length) (by omega)
 rw[w07] at hix
 simp only[go_sem,G6,G8,hcall,z7,hix,hbs,z1F (ws:=exts 1048576 l) (j:=i) (by omega),show¬((((exts 1048576 l).getD i (0,0)).1:Nat):Int)>256 by omega]
 obtain⟨bs',hbs',hg⟩:=z2S (m0:=⟨stk,cur,nx,live,fl⟩) (stk:=stk) (cur:=cur) (c':=bs) (nx':=k) (own:=[]) (live':=live) (fl':=fl) (k:=j) (st:=st) (off:=0) (len:=l.length) (a:=0)
 rw[hbs',z5]
 grind
theorem z2g (l:List DTyp) (x:AV) (hx:IsSl IsTyp 4 l x) (hw:WfTypes l) (hc:CheckP l) (i:Nat) (hi:i<l.length) (hs: ¬((exts 1048576 l).getD i (0,0)).1≤256) (m:Mem):
  Okv tab 187 [x,.int .i64 i] m (.tup [.nils,.int .i64 16]):=by
 refine zp (tT t9) ?_
 obtain⟨stk,cur,nx,live,fl⟩:=m
 have hC:=qt l x hx hw
 rw[VX hc] at hC
 have hl:=hc.1
 simp only[t9,go_sem,G3,G6,G8,(hC _).eq,show((0:Int) !=0)=false from rfl,hx.len,show¬((i:Int)<0) by omega,show¬((i:Int)≥l.length) by omega]
 obtain⟨bs,j,st,k,hcall,hbs⟩:=qi l x hx hc.2.1 (by omega) (stk++[cur]) [] (callNx tab 204 [x] ⟨stk++[cur],[],nx,[]::live,fl⟩) fl ([]::live)
 have hel:(exts 1048576 l).length=l.length:=by have:=xz 1048576 l l.length (w08 _);rwa [w0a] at this
 have hix:=uG .i64 (p:=(i:Int)) (n:=l.length) (by omega)
 rw[w07] at hix
 simp only[go_sem,G6,G8,hcall,z7,hix,hbs,z1F (ws:=exts 1048576 l) (j:=i) (by omega),show((((exts 1048576 l).getD i (0,0)).1:Nat):Int)>256 by omega]
 rw[z4 rfl rfl,z5]
 simp
theorem Yl (l:List DTyp) (x:AV) (hx:IsSl IsTyp 4 l x) (hw:WfTypes l) (hc:CheckP l) (i:Nat) (hi:i<l.length) (hs:((exts 1048576 l).getD i (0,0)).1≤256) (m:Mem):
  Okv tab 122 [x,.int .i64 i] m (.tup [.int .i64 (((exts 1048576 l).getD i (0,0)).1:Nat),.int .i64 (((exts 1048576 l).getD i (0,0)).2:Nat),.int .i64 0]):=by
 obtain⟨stk,cur,nx,live,fl⟩:=m
 refine zp (tT tC) ?_
 obtain⟨bs,j,st,k,hcall,hbs⟩:=z3U l x hx hw hc i hi hs (stk++[cur]) [] nx fl ([]::live)
 have hel:(exts 1048576 l).length=l.length:=by have:=xz 1048576 l l.length (w08 _);rwa [w0a] at this
 have hix:=uG .i64 (p:=(i:Int)) (n:=l.length) (by omega)
 rw[w07] at hix
 simp only[tC,go_sem,G3,G6,G8,hcall,show((0:Int) !=0)=false from rfl,z7,hix,hbs,z1F (ws:=exts 1048576 l) (j:=i) (by omega),zbe (ws:=exts 1048576 l) (j:=i) (by omega)]
 rw[z4 rfl rfl,z5]
 simp
def sizeErr (l:List DTyp) (i:Nat):Int:=if((exts 1048576 l).getD i (0,0)).1≤256 then 0 else 16
theorem QV (l:List DTyp) (x:AV) (hx:IsSl IsTyp 4 l x) (hw:WfTypes l) (hc:CheckP l) (i:Nat) (hi:i<l.length) (m:Mem):
  ∃a b,Okv tab 122 [x,.int .i64 i] m (.tup [a,b,.int .i64 (sizeErr l i)]):=by
 obtain⟨stk,cur,nx,live,fl⟩:=m
 by_cases hs:((exts 1048576 l).getD i (0,0)).1≤256
 ·exact⟨_,_,by have:=Yl l x hx hw hc i hi hs ⟨stk,cur,nx,live,fl⟩;rwa [show sizeErr l i=0 by unfold sizeErr;rw[if_pos hs]]⟩
 ·refine⟨.int .i64 0,.int .i64 0,?_⟩
  refine zp (tT tC) ?_
  simp only[tC,go_sem,G3,G6,G8,(z2g l x hx hw hc i hi hs _).eq,show((16:Int) !=0)=true from rfl]
  rw[z4 rfl rfl,z5]
  exact⟨⟨_,rfl⟩,by unfold sizeErr;rw[if_neg hs]⟩
end Go.Proofs.W
end
section
namespace Go.Proofs.W
open Go.Vs
attribute [local go_sem high] zm zT
attribute [local go_sem ↓] w06 w0d
attribute [local go_sem low] Yc Yt Yf Yut Yuf yy yz yw yx
attribute [local go_sem 2000] zK
attribute [local go_sem] x6 x5 x9 x8 zR zu y7 zP zW zt yq yn ym hd kep yj w02 AV.bool.injEq AV.int.injEq not_true_eq_false not_false_eq_true true_implies false_implies and_true true_and implies_true zl zI zH zk zJ zw zc z8 zj zB zA zi zC zy zb z9 w07 zD zE zZ w18 evShift IntKind.bits zL zF zG z6 za zQ zx w0c yu yr allLen zd AV.tup.injEq List.cons.injEq AV.agg.injEq zV zU evBuild yo zN zn zM eqC0 eqC1 eqC2 zO w17 w16
attribute [go_sem] ZT
def FineI (m:DImage):Prop:=CheckP m.types∧m.texts.length≤32∧1≤m.funcs.length∧m.funcs.length≤32∧FitsP m.types∧(∀t∈m.texts,t.length≤64)∧(∀f∈m.funcs,FuncP m.types.length f)∧(m.funcs.map DFunc.name).Nodup
theorem T7 {l:List DTyp}:err04 l=0↔CheckP l:=by
 by_cases h:CheckP l
 ·simp[VX h,h]
 ·simp[ZH h,h]
theorem VH {α β:Type} {l:List α} {g:α→β}:(l.map g).Nodup↔ ∀i j (hi:i<l.length) (hj:j<l.length),i<j→g l[i]≠g l[j]:=by
 rw[List.Nodup,List.pairwise_iff_getElem]
 simp
theorem Tm (l:List DTyp) (x:AV) (hx:IsSl IsTyp 4 l x) (hw:WfTypes l) (hc:CheckP l) (i:Nat) (hi:i<l.length) (m:Mem):OkT tab 122 [x,.int .i64 i] m fun r ts _=>ts=[]∧ ∃a b,r= .tup [a,b,.int .i64 (sizeErr l i)]:=by
 obtain⟨a,b,k,h⟩:=QV l x hx hw hc i hi m
 exact⟨_,[],k,by rw[h,xl];rfl,rfl,a,b,rfl⟩
theorem z1m (d:DImage) (x:AV) (hx:IsImage d x) (hw:WfImage d) (m:Mem) (hfl:m.floor≤m.stk.length+1):Okv tab 223 [x] m (.bool (pb (FineI d))):=by
 obtain⟨v0,v1,v2,rfl,h0,h1,h2⟩:=hx
 obtain⟨_,_,_,_,hq⟩:=fnsV h2
 have f:=nd h0.co<|nd h1.co<|nd h2.co<|nd h0.z<|nd h1.z<|nd h2.z<|nd (strV h1)<|nd (fun j hj=>nd (hq j hj).1<|nd (hq j hj).2.1.co<|nd (hq j hj).2.2.1.co<|nd (hq j hj).2.2.2.1.co (hq j hj).2.2.2.2.co)<|nd (fun m=>(qt d.types v0 h0 hw.types m).eq)<|nd Zw jd
 have m0:=h0.max
 have m1:=h1.max
 have m2:=h2.max
 refine okz (tT ZT) fun s c x v g e=> ?_
 subst e
 simp at hfl
 repeat' first|refine ifs ?_ ?_|intro
 rotate_right
 ·have hc:CheckP d.types:=T7.1 (by simpa using ‹¬¬err04 d.types=0›)
  have hz:=fun i=>z8H hc.2.1 i
  refine xn 37 d.types.length [] (fun i _ e=>e=[]∧ ∀j,j<i→((exts 1000000 d.types).getD j (0,0)).1≤256) 0 ?_ fun i v e nz hi hp=> ?_
  ·simp
  obtain⟨rfl,hp⟩:=hp
  refine ifs (fun h=> ?_) fun h=> ?_
  ·refine ot (Tm d.types v0 h0 hw.types hc i (by omega) _) fun r t k hr=> ?_
   obtain⟨rfl,a,b,rfl⟩:=hr
   refine st ?_
   repeat' first|refine ifs ?_ ?_|intro
   all_goals
    clear f
    try simp only[sizeErr,hz,vp,vo,FineI,FitsP] at*
    grind
  refine xn 54 d.texts.length [] (fun i _ e=>e=[]∧ ∀j (hj:j<d.texts.length),j<i→d.texts[j].length≤64) 0 ?_ fun i v e nz hi hp=> ?_
  ·simp
  repeat' first|refine ifs ?_ ?_|intro
  rotate_right
  ·refine xg [66] (fun(i:Nat) v e b=>i≤d.funcs.length∧v 66= .int .i64 (i:Int)∧b=[⟨x,[v0,v1,v2]⟩,⟨nz,[.tup (ents ((d.funcs.map DFunc.name).take i))]⟩]∧(∀j (hj:j<d.funcs.length),j<i→FuncP d.types.length d.funcs[j])∧ ∀j k (hj:j<d.funcs.length) (hk:k<d.funcs.length),j<k→k<i→d.funcs[j].name≠d.funcs[k].name) (fun i=>d.funcs.length-i) 0 ?_ ?_
   ·simp[ents]
   rintro i v e nz' b ⟨hi,h66,rfl,hp,hnd⟩
   refine ifs (fun h=> ?_) fun h=> ?_
   ·have hj:i<d.funcs.length:=by grind
    have hk:=qu DFunc.name hj
    refine ifs (fun h=> ?_) fun hm=> ?_
    rotate_left
    ·rw[vp] at hm
     have f:=nd f (jd _ _ hm)
     refine ow (Vt d.types v0 h0 d.funcs[i] _ ⟨_,_,_,_,rfl,(hq i hj).2⟩ (hw.funcs _ (w04 hj)) _ (by simp;omega)) ?_
     repeat' first|refine ifs ?_ ?_|intro
     ·refine⟨i+1,by omega,by omega,?_⟩
      rw[hk]
      clear f
      simp only[vp,vo,List.mem_take_iff_getElem] at*
      grind
     clear f
     simp only[vp,vo,FineI,w50] at*
     grind
    all_goals
     clear f
     simp only[vp,vo,FineI,FitsP,VH,List.mem_take_iff_getElem] at*
     grind
   all_goals
    clear f
    try simp only[vp,vo,FineI,FitsP,VH,w50] at*
    grind
  all_goals
   clear f
   try simp only[vp,vo,FineI,FitsP,w50] at*
   grind
 all_goals
  clear f
  try simp only[vp,vo,FineI,T7] at*
  grind
end Go.Proofs.W
end
section
namespace Go.Proofs.W
open Go.Vs
def txt (l:List (List UInt8)) (k:Nat):List UInt8:=l.getD k []
theorem UW {l:List (List UInt8)} {j:Nat} (h:j<l.length):l[j]=txt l j:=by simp[txt,w03,h]
def texB (l:List (List UInt8)):Nat→List UInt8
 |0=>minimal l.length
 |k+1=>texB l k++said (txt l k)
def fn0:DFunc:=⟨[],0,0,[],[],[],[]⟩
def fnAt (l:List DFunc) (k:Nat):DFunc:=l.getD k fn0
theorem qb {l:List DFunc} {j:Nat} (h:j<l.length):l[j]=fnAt l j:=by simp[fnAt,w03,h]
def funs (l:List DFunc):Nat→List UInt8
 |0=>minimal l.length
 |k+1=>funs l k++funB (fnAt l k)
def codI (d:DImage):List UInt8:=typs d.types d.types.length++(texB d.texts d.texts.length++funs d.funcs d.funcs.length)
noncomputable def err09 (d:DImage):Int:=if pb (FineI d) then(if(codI d).length>20000 then 4 else 0) else 8
theorem WF {l:List (List UInt8)} (h: ∀t∈l,t.length≤64) (hl:l.length≤32): ∀k,k≤l.length→(texB l k).length≤10+74*k
 |0,_=>zf (by omega)
 |k+1,hk=>by
  have ih:=WF h hl k (by omega)
  have h1:=h _ (w04 (show k<l.length by omega))
  rw[UW (by omega)] at h1
  have:=qG (s:=txt l k) (by omega)
  simp only[texB,w15];omega
theorem z8F {n:Nat} {f:DFunc} (h:FuncP n f) (hn:n≤32) (hw:WfFunc f):(funB f).length≤15000:=by
 have hfo:=Q5 h hn
 obtain⟨⟨g1,g2,g3,g4,g5,g6,g7⟩,g8,g9,g10,g11,g12,g13⟩:=h
 have hnl:=Zb g1
 have m1:=qG (s:=f.name) (by omega)
 have m2:=zf (n:=f.params.toNat) (by omega)
 have m3:=zf (vP hw.result)
 have m4:=qK hfo f.slots.length (w08 _)
 have m5:=zf (n:=f.code.length) (by omega)
 have m6:=Xt g9 hw.code f.code.length (w08 _)
 have r1:=yR g12 (by omega)
 have r2:=yR g13 (by omega)
 have m7:=tB g12 (by omega) hw.sizes (by omega) f.sizes.length (w08 _)
 have m8:=tB g13 (by omega) hw.lives (by omega) f.lives.length (w08 _)
 have hfo16:=hfo.1
 unfold funB
 grind
theorem Q4 {n:Nat} {l:List DFunc} (h: ∀f∈l,FuncP n f) (hn:n≤32) (hw: ∀f∈l,WfFunc f) (hl:l.length≤32): ∀k,k≤l.length→(funs l k).length≤10+15000*k
 |0,_=>zf (by omega)
 |k+1,hk=>by
  have ih:=Q4 h hn hw hl k (by omega)
  have hm:=w04 (show k<l.length by omega)
  have:=z8F (h _ hm) hn (hw _ hm)
  rw[qb (by omega)] at this
  simp only[funs,w15];omega
theorem Qu {S:List (List Blk)} {C:List Blk} {nz fl st:Nat} {e:List Nat} {live:List (List Nat)} {y:AV} {b:List UInt8} (hC:C[1]? =some ⟨st,[y]⟩) (hf:fl≤S.length) (ho:Own IsByte 1 y b e):At ⟨S,C,nz,e::live,fl⟩ S.length 1 st 0 y b live:=
 ⟨rfl,by simp[Mem.blk,Mem.row,hC],hf,[],e,rfl,rfl,ho⟩
theorem Ym (d:DImage) (x:AV) (hx:IsImage d x) (hw:WfImage d) (m:Mem) (hfl:m.floor≤m.stk.length+1):Okp IsByte 1 tab 155 [x] m (if err09 d=0 then codI d else []) (err09 d):=by
 refine TP (tT jP) ?_
 obtain⟨stk,cur,nx,live,fl⟩:=m
 dsimp only at hfl
 have hfl':fl≤(stk++[cur]).length+1:=by simp;omega
 have hfl0:fl≤(stk++[cur]).length:=by simp;omega
 have hx':=hx
 have hag:=hx.agg.1
 have hF:=fun c nz lv=>(z1m d x hx hw ⟨stk++[cur],c,nz,lv,fl⟩ hfl').eq
 obtain⟨types,texts,funcs⟩:=d
 obtain⟨v0,v1,v2,rfl,h0,h1,h2⟩:=hx'
 dsimp only at h0 h1 h2
 simp only[jP,go_sem,G3,G6,G8,hF]
 by_cases hfi:FineI ⟨types,texts,funcs⟩
 case neg=>
  have he:err09 ⟨types,texts,funcs⟩=8:=by unfold err09;rw[zS hfi];rfl
  simp only[go_sem,G6,G8,zS hfi]
  rw[he,if_neg (by decide)]
  exact jE (.nil _)
 simp only[go_sem,G6,G8,yB hfi]
 have he:err09 ⟨types,texts,funcs⟩=if(codI ⟨types,texts,funcs⟩).length>20000 then 4 else 0:=by unfold err09;rw[yB hfi];rfl
 obtain⟨hc,a2,a3,a4,a5,a6,a7,a8⟩:=hfi
 dsimp only at hc a2 a3 a4 a5 a6 a7 a8
 have m1:=WE hc.2.1 hc.1 types.length (w08 _)
 have hcl:=hc.1
 generalize hz0:callNx tab 223 [.agg [v0,v1,v2]] ⟨stk++[cur],[⟨nx,[v0,v1,v2]⟩],nx+1,[]::live,fl⟩=z0
 obtain⟨y1,n1,l1,hc1,hW1⟩:=z9p types v0 h0 hw.types hc.2.1 hcl _ (Qu (S:=stk++[cur]) (C:=[⟨nx,[v0,v1,v2]⟩,⟨z0,[.nils]⟩]) (nz:=z0+1) (e:=[]) (live:=live) (b:=[]) rfl hfl0 (.nil _)) (by simp)
 rw[Z6] at hc1
 obtain⟨e1,rfl,ho1⟩:=WrL.own hW1
 rw[w2e] at ho1
 obtain⟨y2,n2,l2,hc2,hW2⟩:=qF texts.length (by omega) _ (Qu (S:=stk++[cur]) (C:=[⟨nx,[v0,v1,v2]⟩,⟨z0,[y1]⟩]) (nz:=n1) (e:=e1) (live:=live) rfl hfl0 ho1) (by omega)
 rw[Z6] at hc2
 obtain⟨e2,rfl,ho2⟩:=WrL.own hW2
 simp only[w4b,w56] at hc1 hc2
 simp only[go_sem,G3,G6,G8,hc1,h1.len,hc2]
 refine zg (α:=Nat) (fun j σ=>j≤texts.length∧ ∃nz y e,Own IsByte 1 y (typs types types.length++texB texts j) e∧heads [1,4,21,22,23] 2 σ=⟨tmps 53 [(1,.ptr (stk++[cur]).length 0 nx 0),(4,.ptr (stk++[cur]).length 1 z0 0),(21,v1),(22,.int .i64 texts.length),(23,.int .i64 j)],⟨stk++[cur],[⟨nx,[v0,v1,v2]⟩,⟨z0,[y]⟩],nz,e::live,fl⟩⟩) (fun j=>texts.length-j) 0 ?_ ?_
 ·refine⟨w0e _,n2,y2,e2,ho2,?_⟩
  rfl
 ·rintro j σ ⟨hj,nz,y,e,ho,hσ⟩
  rw[hσ]
  clear hσ σ
  dsimp only at hj⊢
  by_cases h:j<texts.length
  ·have ht:nth v1 j= .str (txt texts j):=by
    have:IsStr texts[j] (nth v1 j):=h1.nth h
    rw[UW h] at this;exact this
   have hatv:=h1.at .i64 h
   have hsucc:=zq h h1.max
   have htl:=WF a6 a2 j (by omega)
   have hlt:=a6 _ (w04 h)
   rw[UW h] at hlt
   obtain⟨y3,n3,l3,hc3,hW3⟩:=z3N (txt texts j) (by omega) _ (Qu (S:=stk++[cur]) (C:=[⟨nx,[v0,v1,v2]⟩,⟨z0,[y]⟩]) (nz:=nz) (e:=e) (live:=live) rfl hfl0 ho) (by simp only[w15];omega)
   rw[Z6] at hc3
   obtain⟨e3,rfl,ho3⟩:=WrL.own hW3
   simp only[w4b,w56] at hc3
   simp only[go_sem,G6,G7,G8,w02,h,hatv,ht,hc3,hsucc]
   refine⟨j+1,by omega,h,n3,y3,e3,?_,rfl⟩
   rw[texB,←w1e];exact ho3
  ·have:j=texts.length:=by omega
   subst this
   have m2:=WF a6 a2 texts.length (w08 _)
   obtain⟨y3,n3,l3,hc3,hW3⟩:=qF funcs.length (by omega) _ (Qu (S:=stk++[cur]) (C:=[⟨nx,[v0,v1,v2]⟩,⟨z0,[y]⟩]) (nz:=nz) (e:=e) (live:=live) rfl hfl0 ho) (by simp only[w15];omega)
   rw[Z6] at hc3
   obtain⟨e3,rfl,ho3⟩:=WrL.own hW3
   simp only[w4b,w56] at hc3
   simp only[go_sem,G3,G6,G7,G8,w02,h,h2.len,hc3]
   refine zg (α:=Nat) (fun j σ=>j≤funcs.length∧ ∃nz y e,Own IsByte 1 y (typs types types.length++texB texts texts.length++funs funcs j) e∧heads [4,35,36,37] 2 σ=⟨tmps 53 [(4,.ptr (stk++[cur]).length 1 z0 0),(35,v2),(36,.int .i64 funcs.length),(37,.int .i64 j)],⟨stk++[cur],[⟨nx,[v0,v1,v2]⟩,⟨z0,[y]⟩],nz,e::live,fl⟩⟩) (fun j=>funcs.length-j) 0 ?_ ?_
   ·refine⟨w0e _,n3,y3,e3,ho3,?_⟩
    rfl
   ·rintro j σ ⟨hj,nz,y,e,ho,hσ⟩
    rw[hσ]
    clear hσ σ
    dsimp only at hj⊢
    by_cases h:j<funcs.length
    ·have hmem:=w04 h
     have hfp:=a7 _ hmem
     have hwf:=hw.funcs _ hmem
     have hfn:IsFunc funcs[j] (nth v2 j):=h2.nth h
     rw[qb h] at hfp hwf hfn
     obtain⟨u0,u1,u2,u3,e5,k0,k1,k2,k3⟩:=hfn
     have hfn:IsFunc (fnAt funcs j) (nth v2 j):=⟨u0,u1,u2,u3,e5,k0,k1,k2,k3⟩
     rw[e5] at hfn
     have hatv:=h2.at .i64 h
     have hsucc:=zq h h2.max
     have hfl2:=Q4 a7 hcl hw.funcs a4 j (by omega)
     obtain⟨y4,n4,l4,hc4,hW4⟩:=z3T (fnAt funcs j) _ hfn hwf types.length hcl hfp _ (Qu (S:=stk++[cur]) (C:=[⟨nx,[v0,v1,v2]⟩,⟨z0,[y]⟩,⟨nz,[.str (fnAt funcs j).name,.int .i64 (fnAt funcs j).params,.int .i64 (fnAt funcs j).result,u0,u1,u2,u3]⟩]) (nz:=nz+1) (e:=e) (live:=live) rfl hfl0 ho) (by simp only[w15];omega)
     rw[Z6] at hc4
     obtain⟨e4,rfl,ho4⟩:=WrL.own hW4
     simp only[w4b,w56] at hc4
     simp only[go_sem,G3,G6,G7,G8,w02,h,hatv,e5,k0.one,k1.one,k2.one,k3.one,hc4,show((0:Int) !=0)=false from rfl,hsucc]
     refine⟨j+1,by omega,h,n4,y4,e4,?_,rfl⟩
     rw[funs,←w1e];exact ho4
    ·have:j=funcs.length:=by omega
     subst this
     have hcod:typs types types.length++texB texts texts.length++funs funcs funcs.length=codI ⟨types,texts,funcs⟩:=by unfold codI;rw[w1e]
     rw[hcod] at ho
     rw[he]
     by_cases hbig:(codI ⟨types,texts,funcs⟩).length>20000
     ·simp only[go_sem,G6,G7,G8,w02,h,ho.len,show((codI ⟨types,texts,funcs⟩).length:Int)>20000 by omega]
      rw[if_pos hbig,if_neg (by decide)]
      exact jE (.nil _)
     ·simp only[go_sem,G6,G7,G8,w02,h,ho.len,show¬((codI ⟨types,texts,funcs⟩).length:Int)>20000 by omega]
      rw[if_neg hbig,if_pos rfl]
      exact jE ho
theorem XI (d:DImage) (x:AV) (hx:IsImage d x) (hw:WfImage d) (m:Mem) (hfl:m.floor≤m.stk.length+1):Okv tab 82 [x] m (.int .i64 (err09 d)):=by
 refine zp (tT kP) ?_
 obtain⟨stk,cur,nx,live,fl⟩:=m
 dsimp only at hfl
 have hfl':fl≤(stk++[cur]).length+1:=by simp;omega
 have hag:=hx.agg
 have hE:=fun c nz lv=>Ym d x hx hw ⟨stk++[cur],c,nz,lv,fl⟩ hfl'
 obtain⟨v0,v1,v2,rfl,_⟩:=hx
 simp only[kP,go_sem,G3,G6,G8]
 refine(hE _ _ _).xv fun yb ts nb hob=> ?_
 simp only[go_sem,G6,G8]
 rw[z4 rfl rfl,z5]
 simp
end Go.Proofs.W
end
section
namespace Go.Proofs.W
open Go.Vs
attribute [local go_sem high] zm zT
attribute [local go_sem ↓] w06 w0d
attribute [local go_sem low] Yc Yt Yf Yut Yuf yy yz yw yx
attribute [local go_sem 2000] zK
attribute [local go_sem] x6 x5 x9 x8 zR zu y7 zP zW zt yq yn ym hd kep yj w02 AV.bool.injEq AV.int.injEq not_true_eq_false not_false_eq_true true_implies false_implies and_true true_and implies_true zl zI zH zk zJ zw zc z8 zj zB zA zi zC zy zb z9 w07 zD zE zZ w18 evShift IntKind.bits zL zF zG z6 za zQ zx w0c yu yr allLen zd AV.tup.injEq List.cons.injEq AV.agg.injEq zV zU evBuild yo zN zn zM eqC0 eqC1 eqC2 zO w17 w16
attribute [go_sem] uU
theorem z7A (l:List DTyp) (x:AV) (hx:IsSl IsTyp 4 l x) (hv:ValidT l) (hl:l.length≤100) (m:Mem) (hf:m.floor≤m.stk.length+1):OkT tab 214 [x] m fun r _ _=> ∃y1 y2,r= .tup [y1,y2]∧IsSl IsN 1 (szs (exts 1000000 l)) y1∧IsSl IsN 1 (als (exts 1000000 l)) y2:=by
 have hel:=xz 1000000 l l.length (w08 _)
 rw[w0a] at hel
 obtain⟨y1,y2,ts,k,h,h1,h2⟩:=z5e l x hx hv hl m hf
 exact⟨_,ts,k,h,y1,y2,rfl,h1.sl (by simp[szs];omega),h2.sl (by simp[als];omega)⟩
theorem z1g (d:DImage) (x:AV) (hx:IsImage d x) (hw:WfImage d) (m:Mem) (hfl:m.floor≤m.stk.length+1):Okv tab 153 [x] m (.bool (pb (FineI d))):=by
 obtain⟨v0,v1,v2,rfl,h0,h1,h2⟩:=hx
 obtain⟨_,_,_,_,hq⟩:=fnsV h2
 have f:=nd h0.co<|nd h1.co<|nd h2.co<|nd h0.z<|nd h1.z<|nd h2.z<|nd (strV h1)<|nd (fun j hj=>nd (hq j hj).1<|nd (hq j hj).2.1.co<|nd (hq j hj).2.2.1.co<|nd (hq j hj).2.2.2.1.co (hq j hj).2.2.2.2.co)<|nd (fun m=>(Y9 d.types v0 h0 hw.types m).eq) fun j (hj:j<d.funcs.length) m=>(Vo d.types v0 h0 d.funcs[j] _ ⟨_,_,_,_,rfl,(hq j hj).2⟩ (hw.funcs _ (w04 hj)) m).eq
 have m0:=h0.max
 have m1:=h1.max
 have m2:=h2.max
 refine okz (tT uU) fun s c x v g e=> ?_
 subst e
 simp at hfl
 repeat' first|refine ifs ?_ ?_|intro
 rotate_right
 ·have hc:CheckP d.types:=T7.1 (by simpa using ‹¬¬err04 d.types=0›)
  have hel:(exts 1000000 d.types).length=d.types.length:=by have:=xz 1000000 d.types d.types.length (w08 _);rwa [w0a] at this
  refine ot (z7A d.types v0 h0 hc.2.1 (by have:=hc.1;omega) _ (by simp;omega)) fun r t k hr=> ?_
  obtain⟨y1,y2,rfl,hs1,hs2⟩:=hr
  have f:=nd f<|nd hs1.z<|nd hs1.co<|nd hs2.co<|nd (show(szs (exts 1000000 d.types)).length=d.types.length by simp[szs,hel]) fun j (hj:j<d.types.length)=>show nth y1 j= .int .i64 (((exts 1000000 d.types).getD j (0,0)).1:Nat) by
   have:=hs1.nth (i:=j) (by simp[szs];omega)
   rw[z1v (by omega)] at this
   exact this
  refine st ?_
  refine xn 5 d.types.length [] (fun i _ _=> ∀j,j<i→((exts 1000000 d.types).getD j (0,0)).1≤256) 0 ?_ fun i v e nz hi hp=> ?_
  ·simp
  repeat' first|refine ifs ?_ ?_|intro
  any_goals refine xn 6 d.texts.length [] (fun i _ _=> ∀j (hj:j<d.texts.length),j<i→d.texts[j].length≤64) 0 ?_ fun i v e nz hi hp=> ?_
  repeat' first|refine ifs ?_ ?_|intro
  any_goals refine xn 7 d.funcs.length [8] (fun i _ _=> ∀j (hj:j<d.funcs.length),j<i→FuncP d.types.length d.funcs[j]∧ ∀k (hk:k<d.funcs.length),k<j→d.funcs[k].name≠d.funcs[j].name) 0 ?_ fun i v e nz hi hp=> ?_
  repeat' first|refine ifs ?_ ?_|intro
  any_goals refine xn 8 i [] (fun k _ _=> ∀j (hj:j<d.funcs.length),j<k→d.funcs[j].name≠d.funcs[i].name) 0 ?_ fun i v e nz hi hp=> ?_
  repeat' first|refine ifs ?_ ?_|intro
  all_goals
   clear f
   try simp only[vp,vo,FineI,FitsP,VH,w50] at*
   grind
 all_goals
  clear f
  try simp only[vp,vo,FineI,T7] at*
  grind
attribute [go_sem] vA ue uf
theorem nm {α:Type} {P:α→Prop} {x:α} (h:P x): ∃y,x=y∧P y:=⟨x,rfl,h⟩
theorem Vp {n:Int} (h0:0≤n) (h:n<4611686018427387904) (m:Mem):Okl IsByte 1 tab 216 [.int .i64 n] m (minimal n.toNat):=by
 obtain⟨k,rfl⟩:=Int.eq_ofNat_of_zero_le h0
 exact yK k (by omega) m
theorem Yi (l:List DField) (v:AV) (hv:IsSl IsField 2 l v) (hf:FOk l) (m:Mem):Okl IsByte 1 tab 217 [v] m (flds l l.length):=by
 have f:=nd hv.z<|nd hv.co (fieldV hv)
 have h16:=hf.1
 have m0:=hv.max
 refine oklz (tT vA) fun s c x _ g _=> ?_
 refine oc (yK l.length (by omega) _) fun y t k ho=> ?_
 refine xn 4 l.length [3] (fun j v e=>Own IsByte 1 (v 3) (flds l j) e) 0 ?_ fun j v e nz hj ho=> ?_
 ·exact ho
 refine ifs (fun h=> ?_) fun h=> ?_
 ·obtain⟨h1,h2,h3⟩:=hf.at (k:=j) (by omega)
  have hL:=qK hf j hj
  rw[←Zh (by omega)] at h1 h2 h3
  have m1:=qG (s:=l[j].name) (by omega)
  have m2:= @zf l[j].typ.toNat (by omega)
  have f:=nd f ho.co
  refine st ?_
  refine oc (uE l[j].name (by omega) _) fun y t k h1=> ?_
  refine ob ho h1 (by omega) fun y k e ho=> ?_
  refine oc (Vp h2 (by omega) _) fun y t k h1=> ?_
  refine ob ho h1 (by simp;omega) fun y k e ho=> ?_
  exact⟨by omega,by rw[flds,←Zh (by omega),←w1e];exact ho⟩
 ·obtain rfl:j=l.length:=by omega
  exact fo ho rfl
theorem QQ (d:DImage) (x:AV) (hx:IsImage d x) (hw:WfImage d) (hfi:FineI d) (m:Mem):Okl IsByte 1 tab 154 [x] m (codI d):=by
 obtain⟨v0,v1,v2,rfl,h0,h1,h2⟩:=hx
 obtain⟨hc,a2,a3,a4,a5,a6,a7,a8⟩:=hfi
 have hcl:=hc.1
 obtain⟨_,ht⟩:=typesV h0
 obtain⟨_,_,_,_,hq⟩:=fnsV h2
 have f0:=nd h0.co<|nd h1.co<|nd h2.co<|nd h0.z<|nd h1.z<|nd h2.z<|nd (strV h1)<|nd (fun j hj=>nd (ht j hj).1 (ht j hj).2.co)<|fun j hj=>nd (hq j hj).1<|nd (hq j hj).2.1.z<|nd (hq j hj).2.2.1.z<|nd (hq j hj).2.1.co<|nd (hq j hj).2.2.1.co<|nd (hq j hj).2.2.2.1.co (hq j hj).2.2.2.2.co
 have f:=f0
 have m0:=h0.max
 have m1:=h1.max
 have m2:=h2.max
 refine oklz (tT ue) fun s c x _ g _=> ?_
 refine oc (yK d.types.length (by omega) _) fun y t k ho=> ?_
 refine xn 4 d.types.length [3] (fun j v e=>Own IsByte 1 (v 3) (typs d.types j) e) 0 ?_ fun j v e nz hj ho=> ?_
 ·exact ho
 have hL:=WE hc.2.1 hcl j hj
 refine ifs (fun h=> ?_) fun h=> ?_
 ·have hj:j<d.types.length:=by omega
  have hF:=hc.2.1 j hj
  have hk:=(hw.types _ (w04 hj)).kind
  have hn:=tA hF
  have hfo:=Q9 hF (by omega)
  have f:=nd f0 ho.co
  refine st ?_
  refine oa ho (byI (by unfold inU8 at hk;omega)) (by simp;omega) fun y k e ho=> ?_
  have hT: ∀B,typB d.types[j]=B→typs d.types (j+1)=typs d.types j++[UInt8.ofNat d.types[j].kind.toNat]++B:=fun B h=>by
   rw[typs,←Vy hj,h,w1e]
  refine ifs (fun k4=> ?_) fun k4=> ?_
  ·obtain⟨q1,q2,_⟩:=hn.2.2.1 (.inl k4)
   have m1:= @zf d.types[j].elem.toNat (by omega)
   refine oc (Vp q1 (by omega) _) fun y t k h1=> ?_
   refine ob ho h1 (by simp;omega) fun y k e ho=> ?_
   exact⟨hj,by rw[hT (minimal d.types[j].elem.toNat) (by unfold typB;rw[if_pos (.inl k4)])];exact ho⟩
  refine ifs (fun k7=> ?_) fun k7=> ?_
  ·obtain⟨q1,q2,_⟩:=hn.2.2.1 (.inr k7)
   have m1:= @zf d.types[j].elem.toNat (by omega)
   refine oc (Vp q1 (by omega) _) fun y t k h1=> ?_
   refine ob ho h1 (by simp;omega) fun y k e ho=> ?_
   exact⟨hj,by rw[hT (minimal d.types[j].elem.toNat) (by unfold typB;rw[if_pos (.inr k7)])];exact ho⟩
  have k47: ¬(d.types[j].kind=4∨d.types[j].kind=7):=by omega
  refine ifs (fun k6=> ?_) fun k6=> ?_
  ·obtain⟨q1,q2,_⟩:=hn.2.2.2.1 k6
   have q3:=hn.2.1 k6
   have m1:= @zf d.types[j].elem.toNat (by omega)
   have m2:= @zf d.types[j].len.toNat (by omega)
   refine oc (Vp q1 (by omega) _) fun y t k h1=> ?_
   refine ob ho h1 (by simp;omega) fun y k e ho=> ?_
   refine oc (Vp (by omega) (by omega) _) fun y t k h1=> ?_
   refine ob ho h1 (by simp;omega) fun y k e ho=> ?_
   exact⟨hj,by rw[hT _ (by unfold typB;rw[if_neg k47,if_pos k6]),←w1e];exact ho⟩
  refine ifs (fun k5=> ?_) fun k5=> ?_
  ·have m5:=qK (hfo k5) _ (w08 _)
   have:=(hfo k5).1
   refine oc (Yi d.types[j].fields _ (ht j hj).2 (hfo k5) _) fun y t k h1=> ?_
   refine ob ho h1 (by simp;omega) fun y k e ho=> ?_
   exact⟨hj,by rw[hT _ (by unfold typB;rw[if_neg k47,if_neg k6,if_pos k5])];exact ho⟩
  exact⟨hj,by rw[hT [] (by unfold typB;rw[if_neg k47,if_neg k6,if_neg k5]),w21];exact ho⟩
 ·obtain rfl:j=d.types.length:=by omega
  have mn:= @zf d.texts.length (by omega)
  refine oc (yK d.texts.length (by omega) _) fun y t k h1=> ?_
  refine ob ho h1 (by omega) fun y k e ho=> ?_
  refine xn 6 d.texts.length [3] (fun j v e=>Own IsByte 1 (v 3) (typs d.types d.types.length++texB d.texts j) e) 0 ?_ fun j v e nz hj ho=> ?_
  ·exact ho
  have hX:=WF a6 a2 j hj
  refine ifs (fun h=> ?_) fun h=> ?_
  ·have hj:j<d.texts.length:=by omega
   have hl:=a6 _ (w04 hj)
   have m3:=qG (s:=d.texts[j]) (by omega)
   have f:=nd f0 ho.co
   refine st ?_
   refine oc (uE d.texts[j] (by omega) _) fun y t k h1=> ?_
   refine ob ho h1 (by simp;omega) fun y k e ho=> ?_
   exact⟨hj,by rw[texB,←UW hj,←w1e];exact ho⟩
  obtain rfl:j=d.texts.length:=by omega
  have mn:= @zf d.funcs.length (by omega)
  refine oc (yK d.funcs.length (by omega) _) fun y t k h1=> ?_
  refine ob ho h1 (by simp;omega) fun y k e ho=> ?_
  refine xn 7 d.funcs.length [3] (fun j v e=>Own IsByte 1 (v 3) (typs d.types d.types.length++texB d.texts d.texts.length++funs d.funcs j) e) 0 ?_ fun j v e nz hj ho=> ?_
  ·exact ho
  have hU:=Q4 a7 hcl hw.funcs a4 j hj
  refine ifs (fun h=> ?_) fun h=> ?_
  ·have hj:j<d.funcs.length:=by omega
   have hm:=w04 hj
   have hwf:=hw.funcs _ hm
   obtain⟨⟨g1,g2,g3,g4,g5,g6,g7⟩,g8,g9,g10,g11,g12,g13⟩:=a7 _ hm
   have hfo:=Q5 (a7 _ hm) hcl
   have hnl:=Zb g1
   have m1:=qG (s:=d.funcs[j].name) (by omega)
   have m2:= @zf d.funcs[j].params.toNat (by omega)
   have m3:=zf (vP hwf.result)
   have m4:=qK hfo _ (w08 _)
   have m5:= @zf d.funcs[j].code.length (by omega)
   have m7:=tB g12 (by omega) hwf.sizes (by have:=yR g12 (by omega);omega) _ (w08 _)
   have m8:=tB g13 (by omega) hwf.lives (by have:=yR g13 (by omega);omega) _ (w08 _)
   have r1:=yR g12 (by omega)
   have r2:=yR g13 (by omega)
   have f:=nd f0<|nd ho.co fun m=>(tW d.funcs[j].result hwf.result m).eq
   refine st ?_
   refine oc (uE d.funcs[j].name (by omega) _) fun y t k h1=> ?_
   refine ob ho h1 (by simp;omega) fun y k e ho=> ?_
   refine oc (Vp g4 (by omega) _) fun y t k h1=> ?_
   refine ob ho h1 (by simp;omega) fun y k e ho=> ?_
   refine oc (ya _ (vP hwf.result) _) fun y t k h1=> ?_
   refine ob ho h1 (by simp;omega) fun y k e ho=> ?_
   refine oc (Yi _ _ (hq j hj).2.1 hfo _) fun y t k h1=> ?_
   refine ob ho h1 (by simp;omega) fun y k e ho=> ?_
   refine oc (yK d.funcs[j].code.length (by omega) _) fun y t k h1=> ?_
   refine ob ho h1 (by simp;omega) fun y k e ho=> ?_
   obtain⟨B,hB,ho⟩:=nm (P:=fun B=>Own IsByte 1 y B e) ho
   have hb:B.length≤800000:=by rw[←hB];simp;omega
   have f:=nd f0 (instrV (hq j hj).2.2.1)
   have mc:=(hq j hj).2.2.1.max
   refine xn 9 d.funcs[j].code.length [3] (fun q v e=>Own IsByte 1 (v 3) (B++codes d.funcs[j].code q) e) 0 ?_ fun q v e nz hj' ho=> ?_
   ·simpa [codes] using ho
   have m6:=Xt g9 hwf.code q hj'
   refine ifs (fun h=> ?_) fun h=> ?_
   ·have hj':q<d.funcs[j].code.length:=by omega
    have hm:=w04 hj'
    have hwi:=z19 (hwf.code _ hm)
    have hc6:=Qn (g9 _ hm) hwi
    have f:=nd f ho.co
    refine st ?_
    refine oc (QS d.funcs[j].code[q] (hwf.code _ hm).op hwi (g9 _ hm) _) fun y t k h1=> ?_
    refine ob ho h1 (by simp;omega) fun y k e ho=> ?_
    exact⟨hj',by rw[codes,←VP hj',←w1e];exact ho⟩
   obtain rfl:q=d.funcs[j].code.length:=by omega
   have f:=nd f ho.co
   refine st ?_
   refine oc (XD _ _ (hq j hj).2.2.2.1 _ g12 (by omega) hwf.sizes (by omega) _) fun y t k h1=> ?_
   refine ob ho h1 (by simp;omega) fun y k e ho=> ?_
   refine oc (XD _ _ (hq j hj).2.2.2.2 _ g13 (by omega) hwf.lives (by omega) _) fun y t k h1=> ?_
   refine ob ho h1 (by simp;omega) fun y k e ho=> ?_
   refine⟨hj,?_⟩
   rw[funs,←qb hj]
   subst hB
   simpa [funB] using ho
  ·obtain rfl:j=d.funcs.length:=by omega
   exact fo ho (w1e _ _ _)
theorem kq (d:DImage) (x:AV) (hx:IsImage d x) (hw:WfImage d) (m:Mem) (hfl:m.floor≤m.stk.length+1):Okv tab 80 [x] m (.int .i64 (err09 d)):=by
 obtain⟨v0,v1,v2,rfl,h0,h1,h2⟩:=hx
 have f:=nd h0.co<|nd h1.co h2.co
 unfold err09
 refine okz (tT uf) fun s c x v g e=> ?_
 subst e
 simp at hfl
 refine ow (z1g d _ ⟨_,_,_,rfl,h0,h1,h2⟩ hw _ (by simp;omega)) fun n=> ?_
 refine ifs (fun hf=> ?_) fun hf=> ?_
 ·have hf:=vp.1 hf
  refine oc (QQ d _ ⟨_,_,_,rfl,h0,h1,h2⟩ hw hf _) fun y t k ho=> ?_
  have f:=ho.len
  refine st ?_
  refine ifs (fun hf=> ?_) fun hf=> ?_
  all_goals grind
 ·trivial
attribute [go_sem] ZU uc uV
def codeLen (d:DImage) (k:Int):Int:=(fnAt d.funcs k.toNat).code.length
def badB (d:DImage) (n:Int):Bool:=decide (n<256∨n/256>d.funcs.length∨n%256≥codeLen d (n/256-1))
noncomputable def findR (d:DImage) (n:Int):Int×Int×Int:=if err09 d=0 then if badB d n=true then(0,0,6) else(n/256-1,n%256,0) else(0,0,err09 d)
noncomputable abbrev findV (d:DImage) (n:Int):AV:= .tup [.int .i64 (findR d n).1,.int .i64 (findR d n).2.1,.int .i64 (findR d n).2.2]
theorem Zq (d:DImage) (x:AV) (hx:IsImage d x) (hw:WfImage d) (hs:d.funcs.length≤100000) (n:Int) (hn:0≤n∧n<18446744073709551616) (m:Mem) (hf:m.floor≤m.stk.length+1):Okv tab 74 [x,.int .u64 n] m (findV d n):=by
 have hC:=XI d x hx hw
 obtain⟨v0,v1,v2,rfl,h0,h1,h2⟩:=hx
 obtain⟨s,c,z,v,hq⟩:=fnsV h2
 have f:=nd h2.z fun j hj=>nd (hq j hj).1 (hq j hj).2.2.1.z.1
 refine okz (tT ZU) fun s c x v g e=> ?_
 subst e
 refine ow (hC _ (by simp at*;omega)) fun k=> ?_
 repeat' first|refine ifs ?_ ?_|intro
 all_goals clear f hC hq;grind [findR,badB,codeLen,qb]
theorem QP (d:DImage) (x:AV) (hx:IsImage d x) (hs:d.funcs.length≤100000) (n:Int) (hn:0≤n∧n<18446744073709551616) (m:Mem):
  Okv tab 81 [x,.int .u64 n] m (.tup [.int .i64 (if badB d n=true then 0 else n/256-1),.int .i64 (if badB d n=true then 0 else n%256),.bool (!badB d n)]):=by
 obtain⟨v0,v1,v2,rfl,h0,h1,h2⟩:=hx
 obtain⟨s,c,z,v,hq⟩:=fnsV h2
 have f:=nd h2.z fun j hj=>nd (hq j hj).1 (hq j hj).2.2.1.z.1
 refine okz (tT uc) fun s c x v g e=> ?_
 repeat' first|refine ifs ?_ ?_|intro
 all_goals clear f hq;grind [badB,codeLen,qb]
theorem z1h (d:DImage) (x:AV) (hx:IsImage d x) (hw:WfImage d) (hs:d.funcs.length≤100000) (n:Int) (hn:0≤n∧n<18446744073709551616) (m:Mem) (hf:m.floor≤m.stk.length+1):Okv tab 25 [x,.int .u64 n] m (findV d n):=by
 have hC:=kq d x hx hw
 have f:=fun m=>(QP d x hx hs n hn m).eq
 obtain⟨v0,v1,v2,rfl,h0,h1,h2⟩:=hx
 refine okz (tT uV) fun s c x v g e=> ?_
 subst e
 refine ow (hC _ (by simp at*;omega)) fun k=> ?_
 repeat' first|refine ifs ?_ ?_|intro
 all_goals clear f hC;grind [findR]
end Go.Proofs.W
end
section
namespace Go.Proofs.W
open Go.Vs
theorem T9 {p q:Prop} [Decidable p] [Decidable q] (h:p↔q):AV.bool (decide p)=AV.bool (decide q):=congrArg AV.bool (decide_eq_decide.2 h)
theorem Qt {q:Prop} [Decidable q] (h: ¬q):AV.bool false=AV.bool (decide q):=congrArg AV.bool (decide_eq_false h).symm
theorem zbr {b:Bool} {q:Prop} [Decidable q] (h:b=true↔q):AV.bool b=AV.bool (decide q):=congrArg AV.bool (by rw[Bool.eq_iff_iff,decide_eq_true_eq];exact h)
def t00:DTyp:=⟨0,0,0,[]⟩
def f00:DField:=⟨[],0⟩
def tyA (l:List DTyp) (t:Int):DTyp:=l.getD t.toNat t00
def fdA (l:List DField) (i:Int):DField:=l.getD i.toNat f00
theorem z9C {l:List DTyp} {k:Nat} (h:k<l.length):tyA l k=l[k]:=by simp[tyA,w03,h]
theorem V8 {l:List DField} {k:Nat} (h:k<l.length):fdA l k=l[k]:=by simp[fdA,w03,h]
def kindI (l:List DTyp) (t:Int):Int:=if t<0 then 0 else(tyA l t).kind
def slotT (f:DFunc) (s:Int):Int:=if 0≤s∧s<f.slots.length then(fdA f.slots s).typ else-1
def called (x:DInstr):Int:=if x.op=25 then x.b else if x.op=26∨x.op=27 then x.a else-1
def NV (d:DImage) (f:DFunc) (y:AV):Prop:= ∃ty tx fs w0 w1 w2 w3,y= .agg [ty,tx,fs,.str f.name,.int .i64 f.params,.int .i64 f.result,w0,w1,w2,w3]∧IsSl IsTyp 4 d.types ty∧IsSl IsStr 1 d.texts tx∧IsSl IsFunc 7 d.funcs fs∧
 IsSl IsField 2 f.slots w0∧IsSl IsInstr 4 f.code w1∧IsSl IsRun 2 f.sizes w2∧IsSl IsRun 2 f.lives w3
theorem _root_.Go.Vs.IsSl.tyA {l:List DTyp} {x:AV} (hx:IsSl IsTyp 4 l x) {j:Nat} (h:j<l.length): ∃v0,nth x j= .agg [.int .u8 (tyA l j).kind,.int .i64 (tyA l j).elem,.int .i64 (tyA l j).len,v0]∧IsSl IsField 2 (tyA l j).fields v0:=by
 obtain⟨v0,h1,h2⟩:=hx.nth h
 rw[←z9C h] at h1 h2
 exact⟨v0,h1,h2⟩
theorem _root_.Go.Vs.IsSl.fdA {l:List DField} {x:AV} (hx:IsSl IsField 2 l x) {j:Nat} (h:j<l.length):nth x j= .agg [.str (fdA l j).name,.int .i64 (fdA l j).typ]:=by
 rw[V8 h];exact hx.fld h
theorem tG {α:Type} {R:α→AV→Prop} {s:Nat} (l:List α) (x:AV) (hx:IsSl R s l x) (i:Int) (m:Mem):Okv tab 338 [x,.int .i64 i] m (.bool (decide (0≤i∧i<l.length))):=by
 refine zp (tT xW) ?_
 obtain⟨stk,cur,nx,live,fl⟩:=m
 generalize hr:decide (0≤i∧i<(l.length:Int))=r
 simp only[xW,go_sem,G3,G6,G8]
 by_cases h:i≥0
 ·simp only[go_sem,G6,G8,h,hx.len]
  rw[z4 rfl rfl,z5]
  exact⟨⟨_,rfl⟩,by rw[←hr];exact T9 (by omega)⟩
 ·simp only[go_sem,G6,G8,h]
  rw[z4 rfl rfl,z5]
  exact⟨⟨_,rfl⟩,by rw[←hr];exact Qt (by omega)⟩
theorem Y1 {α:Type} {R:α→AV→Prop} {s:Nat} (l:List α) (x:AV) (hx:IsSl R s l x) (i:Int) (m:Mem):Okv tab 340 [x,.int .i64 i] m (.bool (decide (0≤i∧i<l.length))):=by
 refine zp (tT uz) ?_
 obtain⟨stk,cur,nx,live,fl⟩:=m
 generalize hr:decide (0≤i∧i<(l.length:Int))=r
 simp only[uz,go_sem,G3,G6,G8]
 by_cases h:i≥0
 ·simp only[go_sem,G6,G8,h,hx.len]
  rw[z4 rfl rfl,z5]
  exact⟨⟨_,rfl⟩,by rw[←hr];exact T9 (by omega)⟩
 ·simp only[go_sem,G6,G8,h]
  rw[z4 rfl rfl,z5]
  exact⟨⟨_,rfl⟩,by rw[←hr];exact Qt (by omega)⟩
theorem Yo (x:DInstr) (m:Mem):Okv tab 339 [.agg [.int .u8 x.op,.int .i64 x.a,.int .i64 x.b,.int .i64 x.c]] m (.int .i64 (called x)):=by
 refine zp (tT jS) ?_
 obtain⟨stk,cur,nx,live,fl⟩:=m
 simp only[jS,go_sem,G3,G6,G8]
 repeat' (((first|refine uD ?_ ?_|refine xu ?_ ?_|refine xx ?_ ?_|refine xq ?_ ?_|refine xr ?_ ?_)<;>intro hq)<;>simp only[go_sem,G6,G8,hq])
 all_goals
  rw[z4 rfl rfl,z5]
  refine⟨⟨_,rfl⟩,?_⟩
  unfold called
  simp only[beq_iff_eq,beq_eq_false_iff_ne,ne_eq] at*
  simp[*]
theorem tR (x:DInstr) (m:Mem):Okv tab 391 [.agg [.int .u8 x.op,.int .i64 x.a,.int .i64 x.b,.int .i64 x.c]] m (.int .i64 (called x)):=by
 refine zp (tT vy) ?_
 obtain⟨stk,cur,nx,live,fl⟩:=m
 simp only[vy,go_sem,G3,G6,G8]
 repeat' (((first|refine uD ?_ ?_|refine xu ?_ ?_|refine xx ?_ ?_|refine xq ?_ ?_|refine xr ?_ ?_)<;>intro hq)<;>simp only[go_sem,G6,G8,hq])
 all_goals
  rw[z4 rfl rfl,z5]
  refine⟨⟨_,rfl⟩,?_⟩
  unfold called
  simp only[beq_iff_eq,beq_eq_false_iff_ne,ne_eq] at*
  simp[*]
theorem z7q (d:DImage) (f:DFunc) (y:AV) (hy:NV d f y) (s:Int) (m:Mem):Okv tab 341 [y,.int .i64 s] m (.int .i64 (slotT f s)):=by
 obtain⟨ty,tx,fs,w0,w1,w2,w3,rfl,h0,h1,h2,h3,h4,h5,h6⟩:=hy
 refine zp (tT uA) ?_
 obtain⟨stk,cur,nx,live,fl⟩:=m
 simp only[uA,go_sem,G3,G6,G8,(tG _ _ h3 _ _).eq]
 by_cases h:0≤s∧s<f.slots.length
 ·obtain⟨k,rfl⟩: ∃k:Nat,s=k:=⟨s.toNat,by omega⟩
  have hk:k<f.slots.length:=by omega
  have hd:decide ((0:Int)≤k∧(k:Int)<f.slots.length)=true:=by simpa using h
  simp only[go_sem,G3,G6,G8,hd,h3.at _ hk,h3.fdA hk]
  rw[z4 rfl rfl,z5]
  exact⟨⟨_,rfl⟩,by unfold slotT;rw[if_pos h]⟩
 ·simp only[go_sem,G6,G8,h]
  rw[z4 rfl rfl,z5]
  exact⟨⟨_,rfl⟩,by unfold slotT;rw[if_neg h]⟩
theorem z3R (d:DImage) (y:AV) (hy:IsImage d y) (t:Int) (ht:t<d.types.length) (m:Mem):Okv tab 393 [y,.int .i64 t] m (.int .u8 (kindI d.types t)):=by
 obtain⟨ty,tx,fs,rfl,h0,h1,h2⟩:=hy
 refine zp (tT uQ) ?_
 obtain⟨stk,cur,nx,live,fl⟩:=m
 simp only[uQ,go_sem,G3,G6,G8]
 by_cases h:t<0
 ·simp only[go_sem,G6,G8,h]
  rw[z4 rfl rfl,z5]
  exact⟨⟨_,rfl⟩,by unfold kindI;rw[if_pos h]⟩
 ·obtain⟨k,rfl⟩: ∃k:Nat,t=k:=⟨t.toNat,by omega⟩
  have hk:k<d.types.length:=by omega
  obtain⟨v0,e1,e2⟩:=h0.tyA hk
  simp only[go_sem,G6,G8,h,h0.at _ hk,e1]
  rw[z4 rfl rfl,z5]
  exact⟨⟨_,rfl⟩,by unfold kindI;rw[if_neg h]⟩
theorem z3X (l:List Int) (x:AV) (hx:IsSl (IsK .u8) 1 l x) (v:Int) (m:Mem):Ok tab 390 [x,.int .u8 v] m (fun r=> ∃i,r= .int .i64 i∧(0≤i↔v∈l)):=by
 refine z0v (tT xF) ?_
 obtain⟨stk,cur,nx,live,fl⟩:=m
 simp only[xF,go_sem,G3,G6,G8,hx.len]
 refine zg (α:=Nat) (fun k σ=>(k≤l.length∧v∉l.take k)∧ ∃nz,heads [0,1,7,8] 0 σ=⟨tmps 19 [(0,x),(1,.int .u8 v),(7,.int .i64 l.length),(8,.int .i64 k)],⟨stk++[cur],[],nz,[]::live,fl⟩⟩) (fun k=>l.length-k) 0 ?_ ?_
 ·refine⟨⟨w0e _,by simp⟩,?_⟩
  simp only[go_sem,G6,G7]
  exact⟨_,rfl⟩
 ·rintro k σ ⟨⟨hk,hv⟩,nz,hσ⟩
  rw[hσ]
  clear hσ σ
  dsimp only at hk hv⊢
  by_cases h:k<l.length
  ·have e1:nth x k= .int .u8 l[k]:=hx.nth h
   have hat:=hx.at .i64 h
   have hsucc:=zq h hx.max
   by_cases hq:v=l[k]
   ·have hq':(v==l[k])=true:=by simpa using hq
    simp only[go_sem,G6,G7,G8,w02,h,hat,e1,hq']
    rw[z4 rfl rfl,z5]
    exact⟨⟨_,rfl⟩,_,rfl,⟨fun _=>hq▸w04 h,fun _=>by omega⟩⟩
   ·have hq':(v==l[k])=false:=by simpa using hq
    simp only[go_sem,G6,G7,G8,w02,h,hat,e1,hq',hsucc]
    refine⟨k+1,by omega,⟨h,?_⟩,_,rfl⟩
    rw[w0f h]
    simp only[w0b,w1c,not_or];exact⟨hv,hq⟩
  ·have:k=l.length:=by omega
   subst this
   rw[w0a] at hv
   simp only[go_sem,G6,G7,G8,w02,h]
   rw[z4 rfl rfl,z5]
   exact⟨⟨_,rfl⟩,_,rfl,⟨fun h=>absurd h (by decide),fun h=>absurd h hv⟩⟩
theorem z04 (l:List Int) (x:AV) (hx:IsSl (IsK .u8) 1 l x) (v:Int) (m:Mem):Okv tab 377 [x,.int .u8 v] m (.bool (decide (v∈l))):=by
 refine zp (tT xd) ?_
 obtain⟨stk,cur,nx,live,fl⟩:=m
 simp only[xd,go_sem,G3,G6,G8]
 refine(z3X l x hx v _).xv fun y n ⟨i,hy,hi⟩=> ?_
 subst hy
 simp only[go_sem,G6,G8]
 rw[z4 rfl rfl,z5]
 exact⟨⟨_,rfl⟩,T9 hi⟩
theorem isL1 (a:Int) (tk:Tok):IsSl (IsK .u8) 1 [a] (.list 1 tk [.int .u8 a]):= .mk ⟨rfl,trivial⟩ (by simp)
theorem isL2 (a b:Int) (tk:Tok):IsSl (IsK .u8) 1 [a,b] (.list 1 tk [.int .u8 a,.int .u8 b]):= .mk ⟨rfl,rfl,trivial⟩ (by simp)
theorem isL3 (a b c:Int) (tk:Tok):IsSl (IsK .u8) 1 [a,b,c] (.list 1 tk [.int .u8 a,.int .u8 b,.int .u8 c]):= .mk ⟨rfl,rfl,rfl,trivial⟩ (by simp)
def isT (d:DImage) (t:Int) (ks:List Int):Bool:=decide (0≤t∧kindI d.types t∈ks)
theorem z3S (d:DImage) (f:DFunc) (y:AV) (hy:NV d f y) (t:Int) (ht:t<d.types.length) (ks:List Int) (x:AV) (hx:IsSl (IsK .u8) 1 ks x) (m:Mem):Okv tab 345 [y,.int .i64 t,x] m (.bool (isT d t ks)):=by
 obtain⟨ty,tx,fs,w0,w1,w2,w3,rfl,h0,h1,h2,h3,h4,h5,h6⟩:=hy
 refine zp (tT tt) ?_
 obtain⟨stk,cur,nx,live,fl⟩:=m
 simp only[tt,go_sem,G3,G6,G8]
 by_cases h:t≥0
 ·obtain⟨k,rfl⟩: ∃k:Nat,t=k:=⟨t.toNat,by omega⟩
  have hk:k<d.types.length:=by omega
  obtain⟨v0,e1,e2⟩:=h0.tyA hk
  simp only[go_sem,G6,G8,h,h0.at _ hk,e1,(z04 _ _ hx _ _).eq]
  rw[z4 rfl rfl,z5]
  exact⟨⟨_,rfl⟩,by unfold isT kindI;rw[if_neg (by omega)];exact T9 ⟨fun h=>⟨by omega,h⟩,fun h=>h.2⟩⟩
 ·simp only[go_sem,G6,G8,h]
  rw[z4 rfl rfl,z5]
  exact⟨⟨_,rfl⟩,by unfold isT;exact Qt (fun h'=>h (by omega))⟩
theorem z7u (d:DImage) (f:DFunc) (y:AV) (hy:NV d f y) (t e:Int) (ht:t<d.types.length) (ks:List Int) (x:AV) (hx:IsSl (IsK .u8) 1 ks x) (m:Mem):Okv tab 348 [y,.int .i64 t,.int .i64 e,x] m (.bool (isT d t ks&&decide ((tyA d.types t).elem=e))):=by
 have hy':=hy
 obtain⟨ty,tx,fs,w0,w1,w2,w3,rfl,h0,h1,h2,h3,h4,h5,h6⟩:=hy
 refine zp (tT uC) ?_
 obtain⟨stk,cur,nx,live,fl⟩:=m
 simp only[uC,go_sem,G3,G6,G8,(z3S d f _ hy' t ht ks x hx _).eq]
 by_cases h:isT d t ks=true
 ·have h':=h
  unfold isT at h'
  simp only[decide_eq_true_eq] at h'
  obtain⟨k,rfl⟩: ∃k:Nat,t=k:=⟨t.toNat,by omega⟩
  have hk:k<d.types.length:=by omega
  obtain⟨v0,e1,e2⟩:=h0.tyA hk
  simp only[go_sem,G6,G8,h,h0.at _ hk,e1]
  rw[z4 rfl rfl,z5]
  exact⟨⟨_,rfl⟩,rfl⟩
 ·have h2:isT d t ks=false:=by simpa using h
  simp only[go_sem,G6,G8,h2]
  rw[z4 rfl rfl,z5]
  exact⟨⟨_,rfl⟩,rfl⟩
def memT (d:DImage) (t k:Int):Int:=if 0≤t∧kindI d.types t=5∧0≤k∧k<(tyA d.types t).fields.length then(fdA (tyA d.types t).fields k).typ else-1
def memB (d:DImage) (t k e:Int):Bool:=decide (0≤t∧kindI d.types t=5∧0≤k∧k<(tyA d.types t).fields.length∧(fdA (tyA d.types t).fields k).typ=e)
theorem z69 (d:DImage) (f:DFunc) (y:AV) (hy:NV d f y) (t i e:Int) (ht:t<d.types.length) (m:Mem):Okv tab 347 [y,.int .i64 t,.int .i64 i,.int .i64 e] m (.bool (memB d t i e)):=by
 have hy':=hy
 obtain⟨ty,tx,fs,w0,w1,w2,w3,rfl,h0,h1,h2,h3,h4,h5,h6⟩:=hy
 refine zp (tT vk) ?_
 obtain⟨stk,cur,nx,live,fl⟩:=m
 simp only[vk,go_sem,G3,G6,G8,(z3S d f _ hy' t ht [5] _ (isL1 5 _) _).eq]
 by_cases h:isT d t [5]=true
 ·have h':=h
  unfold isT at h'
  simp only[decide_eq_true_eq,w1c] at h'
  obtain⟨k,rfl⟩: ∃k:Nat,t=k:=⟨t.toNat,by omega⟩
  have hk:k<d.types.length:=by omega
  obtain⟨v0,e1,e2⟩:=h0.tyA hk
  simp only[go_sem,G6,G8,h,h0.at _ hk,e1,(tG _ _ e2 _ _).eq]
  by_cases hi:0≤i∧i<(tyA d.types k).fields.length
  ·obtain⟨j,rfl⟩: ∃j:Nat,i=j:=⟨i.toNat,by omega⟩
   have hj:j<(tyA d.types k).fields.length:=by omega
   have hd:decide ((0:Int)≤j∧(j:Int)<(tyA d.types k).fields.length)=true:=by simpa using hi
   simp only[go_sem,G6,G8,hd,h0.at _ hk,e1,e2.at _ hj,e2.fdA hj]
   rw[z4 rfl rfl,z5]
   refine⟨⟨_,rfl⟩,?_⟩
   unfold memB
   exact zbr (by rw[beq_iff_eq];exact⟨fun q=>⟨h'.1,h'.2,hi.1,hi.2,q⟩,fun q=>q.2.2.2.2⟩)
  ·have hd:decide (0≤i∧i<(tyA d.types k).fields.length)=false:=by simpa using hi
   simp only[go_sem,G6,G8,hd]
   rw[z4 rfl rfl,z5]
   exact⟨⟨_,rfl⟩,by unfold memB;exact Qt (fun q=>hi ⟨q.2.2.1,q.2.2.2.1⟩)⟩
 ·have h2:isT d t [5]=false:=by simpa using h
  simp only[go_sem,G6,G8,h2]
  rw[z4 rfl rfl,z5]
  exact⟨⟨_,rfl⟩,by unfold memB;exact Qt (fun q=>h (by unfold isT;simpa using ⟨q.1,q.2.1⟩))⟩
theorem z68 (d:DImage) (y:AV) (hy:IsImage d y) (t i:Int) (ht:t<d.types.length) (m:Mem):Okv tab 395 [y,.int .i64 t,.int .i64 i] m (.int .i64 (memT d t i)):=by
 have hy':=hy
 obtain⟨ty,tx,fs,rfl,h0,h1,h2⟩:=hy
 refine zp (tT vw) ?_
 obtain⟨stk,cur,nx,live,fl⟩:=m
 simp only[vw,go_sem,G3,G6,G8,(z3R d _ hy' t ht _).eq]
 by_cases h:0≤t∧kindI d.types t=5
 ·obtain⟨k,rfl⟩: ∃k:Nat,t=k:=⟨t.toNat,by omega⟩
  have hk:k<d.types.length:=by omega
  obtain⟨v0,e1,e2⟩:=h0.tyA hk
  have h5:(kindI d.types k !=5)=false:=by simpa using h.2
  by_cases hi:0≤i∧i<(tyA d.types k).fields.length
  ·obtain⟨j,rfl⟩: ∃j:Nat,i=j:=⟨i.toNat,by omega⟩
   have hj:j<(tyA d.types k).fields.length:=by omega
   simp only[go_sem,G6,G8,h5,show¬((j:Int)<0) by omega,h0.at _ hk,e1,e2.len,show¬((j:Int)≥(tyA d.types k).fields.length) by omega,e2.at _ hj,e2.fdA hj]
   rw[z4 rfl rfl,z5]
   exact⟨⟨_,rfl⟩,by unfold memT;rw[if_pos ⟨h.1,h.2,hi⟩]⟩
  ·have hm:memT d k i= -1:=by unfold memT;rw[if_neg fun q=>hi q.2.2]
   by_cases hi0:i<0
   ·simp only[go_sem,G6,G8,h5,hi0]
    rw[z4 rfl rfl,z5]
    exact⟨⟨_,rfl⟩,by rw[hm]⟩
   ·simp only[go_sem,G6,G8,h5,hi0,h0.at _ hk,e1,e2.len,show i≥(tyA d.types k).fields.length by omega]
    rw[z4 rfl rfl,z5]
    exact⟨⟨_,rfl⟩,by rw[hm]⟩
 ·have h5:(kindI d.types t !=5)=true:=by
   rw[bne_iff_ne];intro e
   by_cases ht0:0≤t
   ·exact h ⟨ht0,e⟩
   ·unfold kindI at e;rw[if_pos (by omega)] at e;omega
  simp only[go_sem,G6,G8,h5]
  rw[z4 rfl rfl,z5]
  exact⟨⟨_,rfl⟩,by unfold memT;rw[if_neg fun q=>h ⟨q.1,q.2.1⟩]⟩
def ofT (d:DImage) (t a b:Int):Int:=if 0≤t∧(kindI d.types t=a∨kindI d.types t=b) then(tyA d.types t).elem else-1
theorem zbN (d:DImage) (y:AV) (hy:IsImage d y) (t a b:Int) (ht:t<d.types.length) (m:Mem):Okv tab 396 [y,.int .i64 t,.int .u8 a,.int .u8 b] m (.int .i64 (ofT d t a b)):=by
 have hy':=hy
 obtain⟨ty,tx,fs,rfl,h0,h1,h2⟩:=hy
 refine zp (tT tI) ?_
 obtain⟨stk,cur,nx,live,fl⟩:=m
 simp only[tI,go_sem,G3,G6,G8,(z3R d _ hy' t ht _).eq]
 by_cases h:t<0
 ·simp only[go_sem,G6,G8,h]
  rw[z4 rfl rfl,z5]
  exact⟨⟨_,rfl⟩,by unfold ofT;rw[if_neg (by omega)]⟩
 ·obtain⟨k,rfl⟩: ∃k:Nat,t=k:=⟨t.toNat,by omega⟩
  have hk:k<d.types.length:=by omega
  obtain⟨v0,e1,e2⟩:=h0.tyA hk
  simp only[go_sem,G6,G8,h]
  have fine:kindI d.types k=a∨kindI d.types k=b→ofT d k a b=(tyA d.types k).elem:=fun q=>by unfold ofT;rw[if_pos ⟨by omega,q⟩]
  by_cases ha:kindI d.types k=a
  ·have ha':(kindI d.types k !=a)=false:=by simpa using ha
   simp only[go_sem,G6,G8,ha',h0.at _ hk,e1]
   rw[z4 rfl rfl,z5]
   exact⟨⟨_,rfl⟩,by rw[fine (.inl ha)]⟩
  ·have ha':(kindI d.types k !=a)=true:=by simpa using ha
   by_cases hb:kindI d.types k=b
   ·have hb':(kindI d.types k !=b)=false:=by simpa using hb
    simp only[go_sem,G6,G8,ha',hb',h0.at _ hk,e1]
    rw[z4 rfl rfl,z5]
    exact⟨⟨_,rfl⟩,by rw[fine (.inr hb)]⟩
   ·have hb':(kindI d.types k !=b)=true:=by simpa using hb
    simp only[go_sem,G6,G8,ha',hb']
    rw[z4 rfl rfl,z5]
    exact⟨⟨_,rfl⟩,by unfold ofT;rw[if_neg fun q=>q.2.elim ha hb]⟩
abbrev IsI:Int→AV→Prop:=IsK .i64
def rdsk (x:DInstr) (k:Nat):List Int:=((List.range k).filter fun j=>rd (sk x j)&&decide (0≤opn x j)).map (opn x)
def wrsk (x:DInstr) (k:Nat):List Int:=((List.range k).filter fun j=>wt (sk x j)&&decide (0≤opn x j)).map (opn x)
def rds (x:DInstr):List Int:=rdsk x 3
def wrs (x:DInstr):List Int:=wrsk x 3
theorem z1C {x:DInstr} {k:Nat} (h:rd (sk x k)=true) (h':0≤opn x k):rdsk x (k+1)=rdsk x k++[opn x k]:=by
 unfold rdsk;rw[List.range_succ,List.filter_append,w2b];simp[h,h']
theorem TK {x:DInstr} {k:Nat} (h: ¬(rd (sk x k)=true∧0≤opn x k)):rdsk x (k+1)=rdsk x k:=by
 unfold rdsk;rw[List.range_succ,List.filter_append,w2b];simp at h⊢;exact h
theorem z17 {x:DInstr} {k:Nat} (h:wt (sk x k)=true) (h':0≤opn x k):wrsk x (k+1)=wrsk x k++[opn x k]:=by
 unfold wrsk;rw[List.range_succ,List.filter_append,w2b];simp[h,h']
theorem Tc {x:DInstr} {k:Nat} (h: ¬(wt (sk x k)=true∧0≤opn x k)):wrsk x (k+1)=wrsk x k:=by
 unfold wrsk;rw[List.range_succ,List.filter_append,w2b];simp at h⊢;exact h
theorem YA (x:DInstr) (k:Nat):(rdsk x k).length≤k:=by unfold rdsk;rw[w58];exact Nat.le_trans (List.length_filter_le _ _) (by simp)
theorem Z5 (x:DInstr) (k:Nat):(wrsk x k).length≤k:=by unfold wrsk;rw[w58];exact Nat.le_trans (List.length_filter_le _ _) (by simp)
theorem ZN (a:Int):All2 IsI [a] [.int .i64 a]:=⟨rfl,trivial⟩
theorem z2z {y1 y2:AV} {a b:List Int} {own:List Nat} {nx:Nat} (h:Own2 IsI 1 y1 a IsI 1 y2 b own nx) {r:AV} (hr: ∀t,t∈y1.toks∨t∈y2.toks→t∈r.toks):Own2 IsI 1 y1 a IsI 1 y2 b (own.filter fun t=>r.toks.contains t) nx:=by
 have key: ∀{y:AV} {xs:List Int},Own IsI 1 y xs own→(∀t∈y.toks,t∈r.toks)→Own IsI 1 y xs (own.filter fun t=>r.toks.contains t):=by
  intro y xs h k
  rcases h with h|⟨tk,ys,rfl,h2,h3|⟨t,h3,rfl⟩⟩
  ·exact .inl h
  ·exact .inr ⟨tk,ys,rfl,h2,.inl h3⟩
  ·exact .inr ⟨_,ys,rfl,h2,.inr ⟨t,List.mem_filter.2 ⟨h3,by simpa using k t (by simp[AV.toks])⟩,rfl⟩⟩
 exact⟨key h.l fun t ht=>hr t (.inl ht),key h.r fun t ht=>hr t (.inr ht),h.dj,h.bl,h.br⟩
theorem Vw (x:DInstr) (hw:WfI x) (hx:InstrP x) (m:Mem):OkT tab 361 [.agg [.int .u8 x.op,.int .i64 x.a,.int .i64 x.b,.int .i64 x.c]] m (fun r ts n=> ∃y1 y2,r= .tup [y1,y2]∧Own2 IsI 1 y1 (rds x) IsI 1 y2 (wrs x) ts n):=by
 refine Zs (tT vf) ?_
 obtain⟨stk,cur,nx,live,fl⟩:=m
 have hx':=hx
 obtain⟨a,b,c,hs,_⟩:=hx'
 simp only[vf,go_sem,G3,G6,G8,(UV x.op _).eq,(tY x _).eq,hs]
 refine zg (α:=Nat) (fun k σ=>k≤3∧ ∃nz y1 y2 e,Own2 IsI 1 y1 (rdsk x k) IsI 1 y2 (wrsk x k) e nz∧heads [4,5,6,7,8] 2 σ=⟨tmps 64 [(4,y1),(5,y2),(6,.str [a,b,c]),(7,.ptr (stk++[cur]).length 1 (nx+1) 0),(8,.int .i64 k)],⟨stk++[cur],[⟨nx,[.int .u8 x.op,.int .i64 x.a,.int .i64 x.b,.int .i64 x.c]⟩,⟨nx+1,[.int .i64 x.a,.int .i64 x.b,.int .i64 x.c]⟩],nz,e::live,fl⟩⟩) (fun k=>3-k) 0 ?_ ?_
 ·refine⟨w0e _,?_⟩
  simp only[go_sem,G6,G7]
  exact⟨_,_,_,[],.nil _ _,rfl⟩
 ·rintro k σ ⟨hk,nz,y1,y2,e,ho,hσ⟩
  rw[hσ]
  clear hσ σ
  dsimp only at hk⊢
  by_cases h:k<3
  ·obtain⟨hlt,hfit,hin,hcnt,hget⟩:=jC hs hx hw h
   have hix:idx (.int .i64 (k:Int)) 3=some k:=zX .i64 k 3 h
   have hc3:=cell3 x h
   have hlt3:((k:Int)<3)=True:=eq_true (by omega)
   have hsucc:IntKind.i64.wrap ((k:Int)+1)=((k+1:Nat):Int):=by rw[z6 (by omega) (by omega)];omega
   have hl1:=YA x k
   have hl2:=Z5 x k
   have q: ∀c:UInt8,(((sk x k).toNat:Int)==(c.toNat:Int))=(sk x k==c):=fun c=>by
    rw[Bool.eq_iff_iff,beq_iff_eq,beq_iff_eq,Int.ofNat_inj,UInt8.toNat_inj]
   have q114:=q 114
   have q101:=q 101
   have q119:=q 119
   have q103:=q 103
   change (((sk x k).toNat:Int)==114)=_ at q114
   change (((sk x k).toNat:Int)==101)=_ at q101
   change (((sk x k).toNat:Int)==119)=_ at q119
   change (((sk x k).toNat:Int)==103)=_ at q103
   by_cases hr:rd (sk x k)=true∧0≤opn x k
   ·obtain⟨hr,hp⟩:=hr
    have hw':wt (sk x k)=false:=by
     unfold rd at hr;unfold wt
     grind
    have hge:opn x k≥0:=hp
    have w1:(sk x k==119)=false:=by unfold wt at hw';simp only[w28] at hw';exact hw'.1
    have w2:(sk x k==103)=false:=by unfold wt at hw';simp only[w28] at hw';exact hw'.2
    by_cases r1:(sk x k==114)=true
    ·simp only[go_sem,G3,G6,G7,G8,hlt3,hix,hget,q114,r1,evIaddrA,w11,hc3,hge]
     refine ho.xv1 (zh · 1 .full [.int .i64 (opn x k)]) (ZN _) (by simp;omega) fun y' n' e' ho'=> ?_
     simp only[go_sem,G3,G6,G8,hix,hget,q119,q103,w1,w2,hsucc]
     ·refine⟨k+1,by omega,by omega,_,_,_,_,?_,rfl⟩
      rw[z1C hr hp,Tc (by simp[hw'])];assumption
    ·have r1:(sk x k==114)=false:=by simpa using r1
     have r2:(sk x k==101)=true:=by unfold rd at hr;rw[r1] at hr;simpa using hr
     simp only[go_sem,G3,G6,G7,G8,hlt3,hix,hget,q114,q101,r1,r2,evIaddrA,w11,hc3,hge]
     refine ho.xv1 (zh · 1 .full [.int .i64 (opn x k)]) (ZN _) (by simp;omega) fun y' n' e' ho'=> ?_
     simp only[go_sem,G3,G6,G8,hix,hget,q119,q103,w1,w2,hsucc]
     ·refine⟨k+1,by omega,by omega,_,_,_,_,?_,rfl⟩
      rw[z1C hr hp,Tc (by simp[hw'])];assumption
   ·by_cases hwp:wt (sk x k)=true∧0≤opn x k
    ·obtain⟨hwt,hp⟩:=hwp
     have hge:opn x k≥0:=hp
     have hr':rd (sk x k)=false:=by
      grind
     have r1:(sk x k==114)=false:=by unfold rd at hr';simp only[w28] at hr';exact hr'.1
     have r2:(sk x k==101)=false:=by unfold rd at hr';simp only[w28] at hr';exact hr'.2
     by_cases w1:(sk x k==119)=true
     ·simp only[go_sem,G3,G6,G7,G8,hlt3,hix,hget,q114,q101,q119,r1,r2,w1,evIaddrA,w11,hc3,hge]
      refine ho.xv2 (zh · 1 .full [.int .i64 (opn x k)]) (ZN _) (by simp;omega) fun y' n' e' ho'=> ?_
      simp only[go_sem,G6,G8,hsucc]
      ·refine⟨k+1,by omega,by omega,_,_,_,_,?_,rfl⟩
       rw[TK hr,z17 hwt hp];assumption
     ·have w1:(sk x k==119)=false:=by simpa using w1
      have w2:(sk x k==103)=true:=by unfold wt at hwt;rw[w1] at hwt;simpa using hwt
      simp only[go_sem,G3,G6,G7,G8,hlt3,hix,hget,q114,q101,q119,q103,r1,r2,w1,w2,evIaddrA,w11,hc3,hge]
      refine ho.xv2 (zh · 1 .full [.int .i64 (opn x k)]) (ZN _) (by simp;omega) fun y' n' e' ho'=> ?_
      simp only[go_sem,G6,G8,hsucc]
      ·refine⟨k+1,by omega,by omega,_,_,_,_,?_,rfl⟩
       rw[TK hr,z17 hwt hp];assumption
    ·simp only[go_sem,G3,G6,G7,G8,hlt3,hix,hget,q114]
     repeat' (((first|refine uD ?_ ?_|refine xu ?_ ?_|refine xx ?_ ?_|refine xq ?_ ?_|refine xr ?_ ?_)<;>intro hq)<;>simp only[go_sem,G3,G6,G8,hq,hix,hget,q101,q119,q103,evIaddrA,w11,hc3,hsucc])
     all_goals first
      |(refine⟨k+1,by omega,by omega,_,_,_,_,?_,rfl⟩;rw[TK hr,Tc hwp];exact ho)
      |(exfalso;simp only[rd,wt,w2f,decide_eq_true_eq] at*;simp_all)
  ·have:k=3:=by omega
   subst this
   simp only[go_sem,G4,G6,G7,G8,show(((3:Nat):Int)<3)=False from eq_false (by decide)]
   refine yL ?_ ⟨y1,y2,rfl,z2z ho fun t ht=> ?_⟩
   ·simp only[AV.refs,refsAny,ho.l.refs,ho.r.refs];rfl
   ·simp only[AV.toks,toksAll,w0b,List.not_mem_nil,or_false];exact ht
theorem cellR {x:DInstr} {a b c:UInt8} (hs:shp x.op=[a,b,c]) {k:Nat} (h:k<3):takeV false 1 (([.bool (rd a),.bool (wt a),.int .i64 (lo b),.int .i64 (hi b),.bool (rd b),.bool (wt b),.int .i64 (lo c),.int .i64 (hi c),.bool (rd c),.bool (wt c)]:List AV).drop (k*4))=some (.bool (rd (sk x k))):=by
 unfold sk;rw[hs]
 rcases three h with rfl|rfl|rfl<;>rfl
theorem cellW {x:DInstr} {a b c:UInt8} (hs:shp x.op=[a,b,c]) {k:Nat} (h:k<3):takeV false 1 (([.bool (wt a),.int .i64 (lo b),.int .i64 (hi b),.bool (rd b),.bool (wt b),.int .i64 (lo c),.int .i64 (hi c),.bool (rd c),.bool (wt c)]:List AV).drop (k*4))=some (.bool (wt (sk x k))):=by
 unfold sk;rw[hs]
 rcases three h with rfl|rfl|rfl<;>rfl
theorem z1p (x:DInstr) (hw:WfI x) (hx:InstrP x) (m:Mem) (hf:m.floor≤m.stk.length+1):OkT tab 303 [.agg [.int .u8 x.op,.int .i64 x.a,.int .i64 x.b,.int .i64 x.c]] m (fun r ts n=> ∃y1 y2,r= .tup [y1,y2,.int .i64 0]∧Own2 IsI 1 y1 (rds x) IsI 1 y2 (wrs x) ts n):=by
 refine Zs (tT X0) ?_
 obtain⟨stk,cur,nx,live,fl⟩:=m
 dsimp only at hf
 have hf':fl≤(stk++[cur]).length+1:=by simp;omega
 have hx':=hx
 obtain⟨a,b,c,hs,_⟩:=hx'
 have hS:=fun c nz lv=>(Yj x.op ⟨stk++[cur],c,nz,lv,fl⟩ hf').eq
 have hC:=fun c nz lv=>(jX x ⟨stk++[cur],c,nz,lv,fl⟩ hf').eq
 rw[jF hx] at hC
 simp only[X0,go_sem,G3,G6,G8,hC,show((0:Int) !=0)=false from rfl,hS,TH hs,(ju x _).eq]
 refine zg (α:=Nat) (fun k σ=>k≤3∧ ∃nz st y1 y2 e,Own2 IsI 1 y1 (rdsk x k) IsI 1 y2 (wrsk x k) e nz∧heads [2,3,6,22,23] 2 σ=⟨tmps 54 [(2,y1),(3,y2),(6,.ptr (stk++[cur]).length 1 st 0),(22,.agg [.int .i64 x.a,.int .i64 x.b,.int .i64 x.c]),(23,.int .i64 k)],⟨stk++[cur],[⟨nx,[.int .u8 x.op,.int .i64 x.a,.int .i64 x.b,.int .i64 x.c]⟩,⟨st,[.int .i64 (lo a),.int .i64 (hi a),.bool (rd a),.bool (wt a),.int .i64 (lo b),.int .i64 (hi b),.bool (rd b),.bool (wt b),.int .i64 (lo c),.int .i64 (hi c),.bool (rd c),.bool (wt c)]⟩],nz,e::live,fl⟩⟩) (fun k=>3-k) 0 ?_ ?_
 ·refine⟨w0e _,?_⟩
  simp only[go_sem,G6,G7]
  exact⟨_,_,_,_,[],.nil _ _,rfl⟩
 ·rintro k σ ⟨hk,nz,st,y1,y2,e,ho,hσ⟩
  rw[hσ]
  clear hσ σ
  dsimp only at hk⊢
  by_cases h:k<3
  ·have hix:idx (.int .i64 (k:Int)) 3=some k:=zX .i64 k 3 h
   have hc3:=cell3 x h
   have hcr:=cellR hs h
   have hcw:=cellW hs h
   have hlt3:((k:Int)<3)=True:=eq_true (by omega)
   have hsucc:IntKind.i64.wrap ((k:Int)+1)=((k+1:Nat):Int):=by rw[z6 (by omega) (by omega)];omega
   have hl1:=YA x k
   have hl2:=Z5 x k
   simp only[go_sem,G6,G7,G8,hlt3,hix,w11,hc3,evIaddrA,hcr]
   by_cases hr:rd (sk x k)=true∧0≤opn x k
   ·obtain⟨hr,hp⟩:=hr
    have hge:opn x k≥0:=hp
    simp only[go_sem,G6,G8,hr,hge]
    refine ho.xv1 (zh · 1 .full [.int .i64 (opn x k)]) (ZN _) (by simp;omega) fun y' n' e' ho'=> ?_
    simp only[go_sem,G6,G8,hix,evIaddrA,hcw]
    by_cases hwt:wt (sk x k)=true
    ·simp only[go_sem,G6,G8,hwt,hge]
     refine ho'.xv2 (zh · 1 .full [.int .i64 (opn x k)]) (ZN _) (by simp;omega) fun y2' n2 e2 ho2=> ?_
     simp only[go_sem,G6,G8,hsucc]
     refine⟨k+1,by omega,by omega,_,_,_,_,_,?_,rfl⟩
     rw[z1C hr hp,z17 hwt hp];exact ho2
    ·have hwt':wt (sk x k)=false:=by simpa using hwt
     simp only[go_sem,G6,G8,hwt',hsucc]
     refine⟨k+1,by omega,by omega,_,_,_,_,_,?_,rfl⟩
     rw[z1C hr hp,Tc (fun q=>hwt q.1)];exact ho'
   ·by_cases hwp:wt (sk x k)=true∧0≤opn x k
    ·obtain⟨hwt,hp⟩:=hwp
     have hge:opn x k≥0:=hp
     have hr':rd (sk x k)=false:=by
      grind
     simp only[go_sem,G6,G8,hr',hix,evIaddrA,hcw,hwt,hge]
     refine ho.xv2 (zh · 1 .full [.int .i64 (opn x k)]) (ZN _) (by simp;omega) fun y2' n2 e2 ho2=> ?_
     simp only[go_sem,G6,G8,hsucc]
     refine⟨k+1,by omega,by omega,_,_,_,_,_,?_,rfl⟩
     rw[TK hr,z17 hwt hp];exact ho2
    ·repeat' (((first|refine uD ?_ ?_|refine xu ?_ ?_|refine xx ?_ ?_|refine xq ?_ ?_|refine xr ?_ ?_)<;>intro hq)<;>simp only[go_sem,G6,G8,hq,hix,evIaddrA,hcw,hsucc])
     all_goals first
      |(refine⟨k+1,by omega,by omega,_,_,_,_,_,?_,rfl⟩;rw[TK hr,Tc hwp];exact ho)
      |(exfalso;simp only[decide_eq_true_eq] at*;simp_all)
  ·have:k=3:=by omega
   subst this
   simp only[go_sem,G4,G6,G7,G8,show(((3:Nat):Int)<3)=False from eq_false (by decide)]
   refine yL ?_ ⟨y1,y2,rfl,z2z ho fun t ht=> ?_⟩
   ·simp only[AV.refs,refsAny,ho.l.refs,ho.r.refs];rfl
   ·simp only[AV.toks,toksAll,w0b,List.not_mem_nil,or_false];exact ht
theorem z82 {x:DInstr}: ∀s∈rds x,0≤s:=by
 intro s h
 unfold rds rdsk at h
 grind
theorem zaW {x:DInstr}: ∀s∈wrs x,0≤s:=by
 intro s h
 unfold wrs wrsk at h
 grind
def NearP (d:DImage) (f:DFunc) (x:DInstr):Prop:=(∀s∈rds x++wrs x,s<f.slots.length)∧called x<d.funcs.length∧(x.op=2→x.b<d.texts.length)
theorem zba {x:DInstr} (h:InstrP x) (e:x.op=2):0≤x.b:=by
 obtain⟨a,b,c,hs,f1,f2,f3⟩:=h
 rw[e] at hs
 have:shp 2=[119,116,45]:=by decide
 rw[this] at hs
 injection hs with _ hs
 injection hs with hs _
 subst hs
 have:lo 116=0:=by decide
 unfold fitsK at f2;omega
theorem zb0 (d:DImage) (f:DFunc) (y:AV) (hy:NV d f y) (x:DInstr) (hx:InstrP x) (hw:WfI x) (m:Mem) (hf:m.floor≤m.stk.length+1):
  Okv tab 299 [y,.agg [.int .u8 x.op,.int .i64 x.a,.int .i64 x.b,.int .i64 x.c]] m (.int .i64 (if pb (NearP d f x) then 0 else 16)):=by
 obtain⟨ty,tx,fs,w0,w1,w2,w3,rfl,h0,h1,h2,h3,h4,h5,h6⟩:=hy
 refine zp (tT uB) ?_
 obtain⟨stk,cur,nx,live,fl⟩:=m
 dsimp only at hf
 have hf':fl≤(stk++[cur]).length+1:=by simp;omega
 simp only[uB,go_sem,G3,G6,G8]
 refine(z1p x hw hx _ hf').xv fun r ts n1 ⟨y1,y2,hr,ho⟩=> ?_
 subst hr
 have hl1:=YA x 3
 have hl2:=Z5 x 3
 have hlive: ∃e,pushToks ts ([]::live)=e::live∧Own2 IsI 1 y1 (rds x) IsI 1 y2 (wrs x) e n1:=by
  cases ts with
  |nil=>exact⟨[],rfl,ho⟩
  |cons t ts=>exact⟨_,rfl,by simpa using ho⟩
 obtain⟨e,he,ho⟩:=hlive
 simp only[he]
 simp only[go_sem,G6,G8,show((0:Int) !=0)=false from rfl]
 obtain⟨z2,hz2,hc2⟩:=ho.r.elems
 refine ho.l.xv hz2 hc2 (by unfold rds wrs;omega) fun y3 n3 e3 ho3=> ?_
 have hy3:=ho3.sl (by rw[w15];unfold rds wrs;omega)
 have hlen3:(rds x++wrs x).length≤6:=by rw[w15];unfold rds wrs;omega
 have hnn: ∀s∈rds x++wrs x,0≤s:=fun s hs=>by
  rcases w0b.1 hs with q|q
  ·exact z82 s q
  ·exact zaW s q
 have hNP:NearP d f x↔(∀s∈rds x++wrs x,s<f.slots.length)∧called x<d.funcs.length∧(x.op=2→x.b<d.texts.length):=Iff.rfl
 generalize hL:rds x++wrs x=l at*
 simp only[go_sem,G3,G6,G8,hy3.len]
 refine zg (α:=Nat) (fun k σ=>(k≤l.length∧ ∀j,(hj:j<k)→(hl:j<l.length)→l[j]<f.slots.length)∧ ∃nz e,heads [2,3,22,23,24] 2 σ=⟨tmps 57 [(2,.ptr (stk++[cur]).length 0 nx 0),(3,.ptr (stk++[cur]).length 1 (nx+1) 0),(22,y3),(23,.int .i64 l.length),(24,.int .i64 k)],⟨stk++[cur],[⟨nx,[ty,tx,fs,.str f.name,.int .i64 f.params,.int .i64 f.result,w0,w1,w2,w3]⟩,⟨nx+1,[.int .u8 x.op,.int .i64 x.a,.int .i64 x.b,.int .i64 x.c]⟩],nz,e::live,fl⟩⟩) (fun k=>l.length-k) 0 ?_ ?_
 ·refine⟨⟨w0e _,fun j h=>absurd h (w34 _)⟩,?_⟩
  simp only[go_sem,G6,G7]
  simp
 ·rintro k σ ⟨⟨hk,ht⟩,nz,e4,hσ⟩
  rw[hσ]
  clear hσ σ
  dsimp only at hk ht⊢
  by_cases h:k<l.length
  ·have e1:nth y3 k= .int .i64 l[k]:=hy3.nth h
   have hsucc:=zq h hy3.max
   have hnn':=hnn _ (w04 h)
   simp only[go_sem,G3,G6,G7,G8,w02,h,hy3.at _ h,e1,(tG _ _ h3 _ _).eq]
   by_cases hq:l[k]<f.slots.length
   ·have hd:decide (0≤l[k]∧l[k]<f.slots.length)=true:=decide_eq_true ⟨hnn',hq⟩
    simp only[go_sem,G6,G8,hd,hsucc]
    refine⟨k+1,by omega,⟨h,fun j hj hl=> ?_⟩,_,_,rfl⟩
    grind
   ·have hd:decide (0≤l[k]∧l[k]<f.slots.length)=false:=decide_eq_false fun q=>hq q.2
    simp only[go_sem,G6,G8,hd]
    rw[z4 rfl rfl,z5]
    refine⟨⟨_,rfl⟩,?_⟩
    rw[zS fun q=>hq ((hNP.1 q).1 _ (w04 h))];rfl
  ·have hke:k=l.length:=by omega
   subst hke
   have hall: ∀s∈l,s<f.slots.length:=fun s hs=>by
    obtain⟨j,hj,rfl⟩:=w49.1 hs
    grind
   simp only[go_sem,G3,G6,G7,G8,w02,h,(Yo x _).eq,h2.len]
   by_cases hcl:called x≥d.funcs.length
   ·simp only[go_sem,G6,G8,hcl]
    rw[z4 rfl rfl,z5]
    refine⟨⟨_,rfl⟩,?_⟩
    rw[zS fun q=>by have:=(hNP.1 q).2.1;omega];rfl
   ·by_cases h2o:x.op=2
    ·have h2b:(x.op==2)=true:=by simpa using h2o
     have hnn2:=zba hx h2o
     by_cases hb:x.b<d.texts.length
     ·have hd:decide (0≤x.b∧x.b<d.texts.length)=true:=decide_eq_true ⟨hnn2,hb⟩
      simp only[go_sem,G6,G8,hcl,h2b,(Y1 _ _ h1 _ _).eq,hd]
      rw[z4 rfl rfl,z5]
      refine⟨⟨_,rfl⟩,?_⟩
      rw[yB (hNP.2 ⟨hall,by omega,fun _=>hb⟩)];rfl
     ·have hd:decide (0≤x.b∧x.b<d.texts.length)=false:=decide_eq_false fun q=>hb q.2
      simp only[go_sem,G6,G8,hcl,h2b,(Y1 _ _ h1 _ _).eq,hd]
      rw[z4 rfl rfl,z5]
      refine⟨⟨_,rfl⟩,?_⟩
      rw[zS fun q=>hb ((hNP.1 q).2.2 h2o)];rfl
    ·have h2b:(x.op==2)=false:=by simpa using h2o
     simp only[go_sem,G6,G8,hcl,h2b]
     rw[z4 rfl rfl,z5]
     refine⟨⟨_,rfl⟩,?_⟩
     rw[yB (hNP.2 ⟨hall,by omega,fun q=>absurd q h2o⟩)];rfl
def fn00:DFunc:=⟨[],0,0,[],[],[],[]⟩
def fnA (l:List DFunc) (k:Nat):DFunc:=l.getD k fn00
theorem V5 {l:List DFunc} {j:Nat} (h:j<l.length):l[j]=fnA l j:=by simp[fnA,w03,h]
theorem _root_.Go.Vs.IsSl.fnA {l:List DFunc} {x:AV} (hx:IsSl IsFunc 7 l x) {j:Nat} (h:j<l.length): ∃w0 w1 w2 w3,Vs.nth x j= .agg [.str (fnA l j).name,.int .i64 (fnA l j).params,.int .i64 (fnA l j).result,w0,w1,w2,w3]∧
  IsSl IsField 2 (fnA l j).slots w0∧IsSl IsInstr 4 (fnA l j).code w1∧IsSl IsRun 2 (fnA l j).sizes w2∧IsSl IsRun 2 (fnA l j).lives w3:=by
 rw[←V5 h];exact hx.nth h
theorem zb5 (d:DImage) (y:AV) (hy:IsImage d y) (g:Nat) (hg:g<d.funcs.length) (x:DInstr) (hx:InstrP x) (hw:WfI x) (m:Mem):
  Okv tab 381 [y,.int .i64 g,.agg [.int .u8 x.op,.int .i64 x.a,.int .i64 x.b,.int .i64 x.c]] m (.bool (pb (NearP d (fnA d.funcs g) x))):=by
 obtain⟨ty,tx,fs,rfl,h0,h1,h2⟩:=hy
 obtain⟨w0,w1,w2,w3,ef,h3,h4,h5,h6⟩:=h2.fnA hg
 have hatg:=h2.at .i64 hg
 refine zp (tT uS) ?_
 obtain⟨stk,cur,nx,live,fl⟩:=m
 simp only[uS,go_sem,G3,G6,G8]
 refine(Vw x hw hx _).xv fun r ts n1 ⟨y1,y2,hr,ho⟩=> ?_
 subst hr
 have hl1:=YA x 3
 have hl2:=Z5 x 3
 have hlive: ∃e,pushToks ts ([]::live)=e::live∧Own2 IsI 1 y1 (rds x) IsI 1 y2 (wrs x) e n1:=by
  cases ts with
  |nil=>exact⟨[],rfl,ho⟩
  |cons t ts=>exact⟨_,rfl,by simpa using ho⟩
 obtain⟨e,he,ho⟩:=hlive
 simp only[he]
 simp only[go_sem,G6,G8]
 obtain⟨z1,hz1,hc1⟩:=ho.l.elems
 obtain⟨z2,hz2,hc2⟩:=ho.r.elems
 have hn:Own IsI 1 (.list 1 .full []) [] e:=Own.full (R:=IsI) (xs:=[]) (ys:=[]) trivial e
 refine hn.xv hz1 hc1 (by unfold rds;simp;omega) fun y3 n3 e3 ho3=> ?_
 simp only[go_sem,G6,G8]
 rw[w2e] at ho3
 refine ho3.xv hz2 hc2 (by unfold rds wrs;omega) fun y4 n4 e4 ho4=> ?_
 have hy3:=ho4.sl (by rw[w15];unfold rds wrs;omega)
 have hNP:NearP d (fnA d.funcs g) x↔(∀s∈rds x++wrs x,s<(fnA d.funcs g).slots.length)∧called x<d.funcs.length∧(x.op=2→x.b<d.texts.length):=Iff.rfl
 generalize fnA d.funcs g=f at*
 generalize hL:rds x++wrs x=l at*
 simp only[go_sem,G3,G6,G8]
 refine zg (α:=Nat) (fun k σ=>(k≤l.length∧ ∀j,(hj:j<k)→(hl:j<l.length)→l[j]<f.slots.length)∧ ∃nz e,heads [1,3,5,9,10] 2 σ=⟨tmps 60 [(1,.int .i64 g),(3,.ptr (stk++[cur]).length 0 nx 0),(5,.ptr (stk++[cur]).length 1 (nx+1) 0),(9,y4),(10,.int .i64 k)],⟨stk++[cur],[⟨nx,[ty,tx,fs]⟩,⟨nx+1,[.int .u8 x.op,.int .i64 x.a,.int .i64 x.b,.int .i64 x.c]⟩],nz,e::live,fl⟩⟩) (fun k=>l.length-k) 0 ?_ ?_
 ·refine⟨⟨w0e _,fun j h=>absurd h (w34 _)⟩,?_⟩
  simp only[go_sem,G6,G7]
  simp
 ·rintro k σ ⟨⟨hk,ht⟩,nz,e5,hσ⟩
  rw[hσ]
  clear hσ σ
  dsimp only at hk ht⊢
  by_cases h:k<l.length
  ·have e1:nth y4 k= .int .i64 l[k]:=hy3.nth h
   have hsucc:=zq h hy3.max
   by_cases hq:l[k]<f.slots.length
   ·simp only[go_sem,G6,G7,G8,w02,h,hy3.len,hy3.at _ h,e1,hatg,ef,h3.len,show¬l[k]≥f.slots.length by omega,hsucc]
    refine⟨k+1,by omega,⟨h,fun j hj hl=> ?_⟩,_,_,rfl⟩
    grind
   ·simp only[go_sem,G6,G7,G8,w02,h,hy3.len,hy3.at _ h,e1,hatg,ef,h3.len,show l[k]≥f.slots.length by omega]
    rw[z4 rfl rfl,z5]
    refine⟨⟨_,rfl⟩,?_⟩
    rw[zS fun q=>hq ((hNP.1 q).1 _ (w04 h))]
  ·have hke:k=l.length:=by omega
   subst hke
   have hall: ∀s∈l,s<f.slots.length:=fun s hs=>by
    obtain⟨j,hj,rfl⟩:=w49.1 hs
    grind
   simp only[go_sem,G3,G6,G7,G8,w02,h,hy3.len,(tR x _).eq,h2.len]
   by_cases hcl:called x<d.funcs.length
   ·by_cases h2o:x.op=2
    ·have h2b:(x.op !=2)=false:=by simpa using h2o
     simp only[go_sem,G6,G8,hcl,h2b,h1.len]
     rw[z4 rfl rfl,z5]
     refine⟨⟨_,rfl⟩,congrArg AV.bool (Za ?_)⟩
     grind
    ·have h2b:(x.op !=2)=true:=by simpa using h2o
     simp only[go_sem,G6,G8,hcl,h2b]
     rw[z4 rfl rfl,z5]
     refine⟨⟨_,rfl⟩,?_⟩
     rw[yB (hNP.2 ⟨hall,hcl,fun q=>absurd q h2o⟩)]
   ·simp only[go_sem,G6,G8,hcl]
    rw[z4 rfl rfl,z5]
    refine⟨⟨_,rfl⟩,?_⟩
    rw[zS fun q=>hcl (hNP.1 q).2.1]
end Go.Proofs.W
end
section
namespace Go.Vs
def rwC (stk:List (List Blk)) (cur:List Blk) (lv k st:Nat) (y:List AV):List (List Blk):=(stk++[cur]).modify lv fun f=>f.set k ⟨st,y⟩
section
variable {stk : List (List Blk)} {cur : List Blk} {lv k st : Nat} {y y' : List AV}
theorem z5o:(rwC stk cur lv k st y).length=(stk++[cur]).length:=by simp[rwC]
theorem z5p (h:lv≤stk.length) (hk:k<((stk++[cur]).getD lv []).length):((rwC stk cur lv k st y).getD lv [])[k]? =some ⟨st,y⟩:=by
 have hl:lv<(stk++[cur]).length:=by simp;omega
 unfold rwC
 grind
theorem z5n:(rwC stk cur lv k st y).modify lv (fun f=>f.set k ⟨st,y'⟩)=rwC stk cur lv k st y':=by
 unfold rwC
 apply w27
 intro j
 simp only[List.getElem?_modify]
 cases (stk++[cur])[j]? with
 |none=>simp
 |some f=>
  simp_all
theorem z7W (h:((stk++[cur]).getD lv [])[k]? =some ⟨st,y⟩):stk++[cur]=rwC stk cur lv k st y:=by
 unfold rwC
 apply w27
 intro j
 simp only[List.getElem?_modify]
 by_cases e:lv=j
 ·subst e
  simp only[w03] at h
  cases hq:(stk++[cur])[lv]? with
  |none=>rfl
  |some f=>
   rw[hq] at h
   simp only[w32] at h
   simp only[if_true,Option.map_eq_map,w06,Option.some.injEq]
   apply w27
   grind
 ·simp[e]
def wroteC (m:Mem) (lv k st:Nat) (y:List AV) (n:Nat) (l:List (List Nat)):Mem:={m.put lv k st y with nx:=n,live:=l}
theorem Td {nx fl n:Nat} {live l:List (List Nat)}:wroteC ⟨stk,cur,nx,live,fl⟩ stk.length k st y' n l=⟨stk,cur.set k ⟨st,y'⟩,n,l,fl⟩:=by
 unfold wroteC Mem.put
 simp
theorem Zc {m0:Mem} {c':List Blk} {nx' fl':Nat} {own:List Nat} {live':List (List Nat)} {r:AV} (hlv:lv≤stk.length) (h1:r.refs (stk++[cur]).length=false) (h2:r.toks=[]) (nx:Nat) (live:List (List Nat)):
  leave m0 ⟨rwC stk cur lv k st y,c',nx',own::live',fl'⟩ r=some (r,wroteC ⟨stk,cur,nx,live,m0.floor⟩ lv k st y nx' live'):=by
 unfold wroteC
 by_cases e:lv=stk.length
 ·have:rwC stk cur lv k st y=stk++[cur.set k ⟨st,y⟩]:=by
   unfold rwC;subst e
   rw[w33 (by simp)];simp
  rw[this,yg (by simpa using h1) h2]
  unfold Mem.put
  simp[e]
 ·have:rwC stk cur lv k st y=(stk.modify lv fun f=>f.set k ⟨st,y⟩)++[cur]:=by
   unfold rwC
   apply w27
   grind
  rw[this,yg (by simpa using h1) h2]
  unfold Mem.put
  simp[e]
end
theorem uF {S:List (List Blk)} {C:List Blk} {nx fl:Nat} {live:List (List Nat)} {lv k st:Nat} {cs:List AV} (h:Mem.blk ⟨S,C,nx,live,fl⟩ lv k st=some cs) (hlv:lv≤S.length):((S++[C]).getD lv [])[k]? =some ⟨st,cs⟩:=by
 unfold Mem.blk at h
 split at h
 ·rename_i b hb
  split at h
  ·rename_i e
   injection h with h
   have hb':b=⟨st,cs⟩:=by rw[←h,←eq_of_beq e]
   subst hb'
   unfold Mem.row at hb
   grind
  ·cases h
 ·cases h
theorem Wt {S:List (List Blk)} {C c:List Blk} {nx fl n L k st:Nat} {live l:List (List Nat)} {y:List AV} (h:L≤S.length):wroteC ⟨S++[C],c,nx,live,fl⟩ L k st y n l=⟨rwC S C L k st y,c,n,l,fl⟩:=by
 unfold wroteC Mem.put rwC
 grind
theorem z8W {S:List (List Blk)} {C:List Blk} {nx fl:Nat} {live:List (List Nat)} {lv k st:Nat} {cs:List AV} (h:Mem.blk ⟨S,C,nx,live,fl⟩ lv k st=some cs) (hlv:lv≤S.length):k<((S++[C]).getD lv []).length:=
 (w13.1 (uF h hlv)).1
theorem jq {S:List (List Blk)} {C c:List Blk} {nx fl nx' fl':Nat} {live live':List (List Nat)} {lv k st:Nat} {cs:List AV} (h:Mem.blk ⟨S,C,nx,live,fl⟩ lv k st=some cs) (hlv:lv≤S.length):Mem.blk ⟨S++[C],c,nx',live',fl'⟩ lv k st=some cs:=by
 have h1:=uF h hlv
 unfold Mem.blk Mem.row
 grind
end Go.Vs
end
section
namespace Go.Proofs.W
open Go.Vs
theorem Z9 (j:Nat) (l:List (List Nat)):Vs.sink j [] l=l:=rfl
theorem z9t (p:Int) (m:Mem):Okv tab 417 [.int .i64 p] m (.bool false):=by
 refine zp (tT qX) ?_
 obtain⟨stk,cur,nx,live,fl⟩:=m
 simp only[qX,go_sem,G6,G8]
 rw[z4 rfl rfl,z5]
 simp
theorem z7G (p q:Int) (m:Mem):Okv tab 407 [.int .i64 p,.int .i64 q] m (.bool (decide (p<q))):=by
 refine zp (tT jR) ?_
 obtain⟨stk,cur,nx,live,fl⟩:=m
 simp only[jR,go_sem,G3,G6,G8,(z9t p _).eq]
 rw[z4 rfl rfl,z5]
 simp
def Sets (tab:Nat→Option AFunc) (f:Nat) (args:List AV) (m:Mem) (L k st:Nat) (y:List AV) (r:AV):Prop:= ∃n,CALL tab f args m=some (r,wroteC m L k st y n m.live)
noncomputable def setsNx (tab:Nat→Option AFunc) (f:Nat) (args:List AV) (m:Mem):Nat:=match CALL tab f args m with|some (_,m')=>m'.nx|none=>0
theorem Sets.eq {tab:Nat→Option AFunc} {f:Nat} {args:List AV} {m:Mem} {L k st:Nat} {y:List AV} {r:AV} (h:Sets tab f args m L k st y r):CALL tab f args m=some (r,wroteC m L k st y (setsNx tab f args m) m.live):=by
 obtain⟨n,h⟩:=h
 rw[h]
 unfold setsNx
 rw[h]
 rfl
theorem UX {tab:Nat→Option AFunc} {f:Nat} {fn:AFunc} (h:tab f=some fn) {args:List AV} {m:Mem} {L k st:Nat} {y:List AV} {r:AV} (hx:X tab fn.body (mk fn.ntmps (.tup []) (numb 0 args)) (enter m) (.fin fn.res m fun v m'=> ∃n,v=r∧m'=wroteC m L k st y n m.live)) (hn:args.length≤fn.ntmps:=by exact Nat.le_of_ble_eq_true rfl):
  Sets tab f args m L k st y r:=by
 obtain⟨x,h1,n,h2,h3⟩:=yD h hx hn;exact⟨n,by rw[h1,←h2,←h3]⟩
theorem li (l:List AV) (k:Nat) {v:AV} (h:(l.drop k).head? =some v):takeV false 1 (l.drop k)=some v:=by
 unfold takeV
 cases hd:l.drop k with
 |nil=>rw[hd] at h;cases h
 |cons a r=>rw[hd] at h;simp at h⊢;exact h
theorem z7t (p q:Int) (S:List (List Blk)) (C:List Blk) (nx fl:Nat) (live:List (List Nat)) (L k st:Nat) (hL:L≤S.length) (hfl:fl≤L) (hb:Mem.blk ⟨S,C,nx,live,fl⟩ L k st=some [.int .i64 p,.int .i64 q]):
  Sets tab 401 [.grow 1 L k st 2,.int .i64 0,.int .i64 2] ⟨S,C,nx,live,fl⟩ L k st [.int .i64 (min p q),.int .i64 (max p q)] (.tup []):=by
 refine UX (tT yT) ?_
 have hrow:=uF hb hL
 have hk:=z8W hb hL
 have hne: ∀y,(L==(rwC S C L k st y).length)=false:=fun y=>by rw[z5o];simp;omega
 have hget: ∀y,((rwC S C L k st y).getD L [])[k]? =some ⟨st,y⟩:=fun y=>z5p hL hk
 have i0:idx (.int .i64 0) 2=some 0:=rfl
 have i1:idx (.int .i64 1) 2=some 1:=rfl
 have a01:IntKind.i64.wrap (0+1)=1:=rfl
 have a12:IntKind.i64.wrap (1+1)=2:=rfl
 have s10:IntKind.i64.wrap (1-1)=0:=rfl
 simp only[yT,go_sem,G3,G6,G8,z7W hrow]
 rw[yW]
 simp only[go_sem,G6,G7,G8,a01,show((1:Int)<2)=True from eq_true (by decide)]
 rw[yW]
 by_cases h:q<p
 ·have h1:min p q=q:=by omega
  have h2:max p q=p:=by omega
  rw[h1,h2]
  simp only[go_sem,G3,G6,G9,G7,G8,show((1:Int)>0)=True from eq_true (by decide),evIaddr,i0,i1,hne,hget,s10,w11,(z7G q p _).eq,h,hfl,z5n,Z9]
  rw[yW]
  simp only[go_sem,G6,G7,G8,show((0:Int)>0)=False from eq_false (by decide),a12]
  rw[yW]
  simp only[go_sem,G6,G7,G8,show((2:Int)<2)=False from eq_false (by decide)]
  rw[Zc hL rfl rfl nx live,z5]
  grind
 ·have h1:min p q=p:=by omega
  have h2:max p q=q:=by omega
  rw[h1,h2]
  simp only[go_sem,G6,G7,G8,show((1:Int)>0)=True from eq_true (by decide),evIaddr,i0,i1,hne,hget,s10,w11,(z7G q p _).eq,h,a12]
  rw[yW]
  simp only[go_sem,G6,G7,G8,show((2:Int)<2)=False from eq_false (by decide)]
  rw[Zc hL rfl rfl nx live,z5]
  grind
theorem zbM (p q:Int) (S:List (List Blk)) (C:List Blk) (nx fl:Nat) (live:List (List Nat)) (L k st:Nat) (hL:L≤S.length) (hfl:fl≤L) (hb:Mem.blk ⟨S,C,nx,live,fl⟩ L k st=some [.int .i64 p,.int .i64 q]) (z:Int):
  Sets tab 399 [.grow 1 L k st 2,.int .i64 0,.int .i64 2,.int .i64 z] ⟨S,C,nx,live,fl⟩ L k st [.int .i64 (min p q),.int .i64 (max p q)] (.tup []):=by
 refine UX (tT xp) ?_
 simp only[xp,go_sem,G3]
 rw[yW]
 simp only[go_sem,G6,G7,G8,show IntKind.i64.wrap (2-0)=2 from rfl,show((2:Int)≤12)=True from eq_true (by decide),(z7t p q (S++[C]) [] nx fl ([]::live) L k st (by simp;omega) hfl (jq hb hL)).eq,Wt hL]
 rw[Zc hL rfl rfl nx live,z5]
 grind
theorem z9B (m:Mem):Okv tab 411 [.int .u64 2] m (.int .i64 2):=by
 refine zp (tT qd) ?_
 obtain⟨stk,cur,nx,live,fl⟩:=m
 simp only[qd,go_sem,G3,G6,G8,show((2:Int)≥4294967296)=False from eq_false (by decide),show((2:Int)≥65536)=False from eq_false (by decide),show((2:Int)≥256)=False from eq_false (by decide),show IntKind.u8.wrap 2=2 from rfl,show idx (.int .u8 2) 256=some 2 from rfl,
  UInt8.toNat_ofNat]
 rw[z4 rfl rfl,z5]
 exact⟨⟨_,rfl⟩,rfl⟩
theorem zbP (m:Mem):Okv tab 400 [.int .u64 2] m (.int .i64 2):=by
 refine zp (tT qT) ?_
 obtain⟨stk,cur,nx,live,fl⟩:=m
 simp only[qT,go_sem,G6,G8,(z9B _).eq]
 rw[z4 rfl rfl,z5]
 simp
theorem zb3 (p q:Int) (S:List (List Blk)) (C:List Blk) (nx fl:Nat) (live:List (List Nat)) (L k st:Nat) (hL:L≤S.length) (hfl:fl≤L) (hb:Mem.blk ⟨S,C,nx,live,fl⟩ L k st=some [.int .i64 p,.int .i64 q]):
  Sets tab 388 [.grow 1 L k st 2] ⟨S,C,nx,live,fl⟩ L k st [.int .i64 (min p q),.int .i64 (max p q)] (.tup []):=by
 refine UX (tT uw) ?_
 have hP:=fun n z=>(zbM p q (S++[C]) [] n fl ([]::live) L k st (by simp;omega) hfl (jq hb hL) z).eq
 simp only[uw,go_sem,G6,G8,evLen,show IntKind.u64.wrap (2:Int)=2 from rfl,(zbP _).eq,show(((2:Nat):Int))=2 from rfl,hP,Wt hL]
 rw[Zc hL rfl rfl nx live,z5]
 grind
theorem z1q (p q:Int) (h:p≠q) (S:List (List Blk)) (C:List Blk) (nx fl:Nat) (live:List (List Nat)) (L k st:Nat) (hL:L≤S.length) (hb:Mem.blk ⟨S,C,nx,live,fl⟩ L k st=some [.int .i64 p,.int .i64 q]):
  Okv tab 389 [.grow 1 L k st 2] ⟨S,C,nx,live,fl⟩ (.grow 1 L k st 2):=by
 refine zp (tT yP) ?_
 have hrow:=uF hb hL
 have hne:(L==(S++[C]).length)=false:=by simp;omega
 have i0:idx (.int .i64 0) 2=some 0:=rfl
 have i1:idx (.int .i64 1) 2=some 1:=rfl
 have hq:(q==p)=false:=by simpa using fun e:q=p=>h e.symm
 simp only[yP,go_sem,G6,G8,evLen,show(((2:Nat):Int)<2)=False from eq_false (by decide)]
 rw[yW]
 simp only[go_sem,G6,G7,G8,evLen,show((1:Int)<((2:Nat):Int))=True from eq_true (by decide),evIaddr,i0,i1,show IntKind.i64.wrap (1-1)=0 from rfl,hne,hrow,w11,hq,show IntKind.i64.wrap (1+1)=2 from rfl]
 rw[yW]
 simp only[go_sem,G6,G7,G8,evLen,show((2:Int)<((2:Nat):Int))=False from eq_false (by decide)]
 rw[z4 (by simp only[AV.refs];simp;omega) rfl,z5]
 simp
theorem z1r (p:Int) (S:List (List Blk)) (C:List Blk) (nx fl:Nat) (live:List (List Nat)) (L k st:Nat) (hL:L≤S.length) (hfl:fl≤L) (hb:Mem.blk ⟨S,C,nx,live,fl⟩ L k st=some [.int .i64 p,.int .i64 p]):
  Sets tab 389 [.grow 1 L k st 2] ⟨S,C,nx,live,fl⟩ L k st [.int .i64 p,.int .i64 0] (.grow 1 L k st 1):=by
 refine UX (tT yP) ?_
 have hrow:=uF hb hL
 have hk:=z8W hb hL
 have hne: ∀y,(L==(rwC S C L k st y).length)=false:=fun y=>by rw[z5o];simp;omega
 have hget: ∀y,((rwC S C L k st y).getD L [])[k]? =some ⟨st,y⟩:=fun y=>z5p hL hk
 have i0:idx (.int .i64 0) 2=some 0:=rfl
 have i1:idx (.int .i64 1) 2=some 1:=rfl
 have b1:bound (some (.int .i64 1)) 2 0=some 1:=rfl
 have b2:bound (none:Option AV) 2 2=some 2:=rfl
 have b3:bound (some (.int .i64 1)) 2 2=some 1:=rfl
 have b4:bound (none:Option AV) 1 0=some 0:=rfl
 simp only[yP,go_sem,G6,G8,evLen,show(((2:Nat):Int)<2)=False from eq_false (by decide),z7W hrow]
 rw[yW]
 simp only[go_sem,G4,G6,G7,G8,evLen,show((1:Int)<((2:Nat):Int))=True from eq_true (by decide),evIaddr,i0,i1,show IntKind.i64.wrap (1-1)=0 from rfl,hne,hget,w11,evSlice,b1,b2]
 rw[yW]
 simp only[go_sem,G3,G4,G6,G7,G8,evLen,show((1:Int)<((1:Nat):Int))=False from eq_false (by decide),evSlice,b1,b2,b3,b4,show((1:Nat)==0)=false from rfl,show((0:Nat)==0)=true from rfl,evClr,evClr0,AV.asArr,hne,hget,hfl,z5n,flatRep,w11,Nat.one_ne_zero]
 rw[Zc hL (by simp only[AV.refs];simp;omega) rfl nx live,z5]
 grind
def SlotsP (d:DImage) (f:DFunc):Prop:= ∀s∈f.slots,0≤s.typ∧s.typ<d.types.length
theorem Yw {d:DImage} {f:DFunc} (h:SlotsP d f) (s:Int):slotT f s<d.types.length:=by
 unfold slotT
 split
 ·rename_i hs
  obtain⟨k,rfl⟩: ∃k:Nat,s=k:=⟨s.toNat,by omega⟩
  have hk:k<f.slots.length:=by omega
  rw[V8 hk]
  exact(h _ (w04 hk)).2
 ·omega
def cellsN (ty tx fs w0 w1 w2 w3:AV) (f:DFunc):List AV:=[ty,tx,fs,.str f.name,.int .i64 f.params,.int .i64 f.result,w0,w1,w2,w3]
section
variable (d : DImage) (f : DFunc) (ty tx fs w0 w1 w2 w3 : AV) (hy : NV d f (.agg (cellsN ty tx fs w0 w1 w2 w3 f)))
include hy
theorem zb2 (t:Int) (ht:t<d.types.length) (m:Mem) (L st:Nat) (hL:L≤m.stk.length) (hb:m.blk L 0 st=some (cellsN ty tx fs w0 w1 w2 w3 f)):Okv tab 346 [.int .i64 t,.ptr L 0 st 0] m (.bool (isT d t [1])):=by
 refine zp (tT xX) ?_
 obtain⟨stk,cur,nx,live,fl⟩:=m
 have hI:=fun m=>(z3S d f _ hy t ht [1] _ (isL1 1 .full) m).eq
 simp only[cellsN] at hI
 have hrow:=uF hb hL
 have hne:(L==(stk++[cur]).length)=false:=by simp at hL⊢;omega
 simp only[xX,go_sem,G3,G6,G8,hne,hrow,cellsN]
 simp only[go_sem,G6,G8,hI]
 rw[z4 rfl rfl,z5]
 simp
theorem z7s (t:Int) (ht:t<d.types.length) (m:Mem) (L st:Nat) (hL:L≤m.stk.length) (hb:m.blk L 0 st=some (cellsN ty tx fs w0 w1 w2 w3 f)):Okv tab 378 [.int .i64 t,.ptr L 0 st 0] m (.bool (isT d t [1,2,4])):=by
 refine zp (tT v8) ?_
 obtain⟨stk,cur,nx,live,fl⟩:=m
 have hI:=fun m=>(z3S d f _ hy t ht [1,2,4] _ (isL3 1 2 4 .full) m).eq
 simp only[cellsN] at hI
 have hrow:=uF hb hL
 have hne:(L==(stk++[cur]).length)=false:=by simp at hL⊢;omega
 simp only[v8,go_sem,G3,G6,G8,hne,hrow,cellsN]
 simp only[go_sem,G6,G8,hI]
 rw[z4 rfl rfl,z5]
 simp
theorem z9r (t:Int) (ht:t<d.types.length) (m:Mem) (L st:Nat) (hL:L≤m.stk.length) (hb:m.blk L 0 st=some (cellsN ty tx fs w0 w1 w2 w3 f)):Okv tab 344 [.int .i64 t,.ptr L 0 st 0] m (.bool (!isT d t [2])):=by
 refine zp (tT xG) ?_
 obtain⟨stk,cur,nx,live,fl⟩:=m
 have hI:=fun m=>(z3S d f _ hy t ht [2] _ (isL1 2 .full) m).eq
 simp only[cellsN] at hI
 have hrow:=uF hb hL
 have hne:(L==(stk++[cur]).length)=false:=by simp at hL⊢;omega
 simp only[xG,go_sem,G3,G6,G8,hne,hrow,cellsN]
 simp only[go_sem,G6,G8,hI]
 rw[z4 rfl rfl,z5]
 simp
theorem z7I (l:List Int) (x:AV) (hx:IsSl IsI 1 l x) (hl: ∀t∈l,t<d.types.length) (m:Mem) (L st:Nat) (hL:L≤m.stk.length) (hb:m.blk L 0 st=some (cellsN ty tx fs w0 w1 w2 w3 f)):
  Ok tab 376 [x,.fn (.func 344) [] [.ptr L 0 st 0]] m (fun r=> ∃i,r= .int .i64 i∧(0≤i↔ ∃t∈l,isT d t [2]=false)):=by
 refine z0v (tT yG) ?_
 obtain⟨stk,cur,nx,live,fl⟩:=m
 simp only[yG,go_sem,G3,G6,G8,hx.len]
 refine zg (α:=Nat) (fun k σ=>(k≤l.length∧ ∀t∈l.take k,isT d t [2]=true)∧ ∃nz,heads [0,1,7,8] 0 σ=⟨tmps 19 [(0,x),(1,.fn (.func 344) [] [.ptr L 0 st 0]),(7,.int .i64 l.length),(8,.int .i64 k)],⟨stk++[cur],[],nz,[]::live,fl⟩⟩) (fun k=>l.length-k) 0 ?_ ?_
 ·refine⟨⟨w0e _,by simp⟩,?_⟩
  simp only[go_sem,G6,G7]
  simp
 ·rintro k σ ⟨⟨hk,hv⟩,nz,hσ⟩
  rw[hσ]
  clear hσ σ
  dsimp only at hk hv⊢
  by_cases h:k<l.length
  ·have e1:nth x k= .int .i64 l[k]:=hx.nth h
   have hsucc:=zq h hx.max
   have hC:=(z9r d f ty tx fs w0 w1 w2 w3 hy l[k] (hl _ (w04 h)) ⟨stk++[cur],[],nz,[]::live,fl⟩ L st (by simp at hL⊢;omega) (jq hb hL)).eq
   simp only[go_sem,G6,G7,G8,w02,h,hx.at _ h,e1,hC]
   cases hq:isT d l[k] [2]
   ·simp only[go_sem,G6,G8]
    rw[z4 rfl rfl,z5]
    grind
   ·simp only[go_sem,G6,G8,hsucc]
    refine⟨k+1,by omega,⟨h,fun t ht=> ?_⟩,_,rfl⟩
    rw[w0f h] at ht
    grind
  ·have:k=l.length:=by omega
   subst this
   rw[w0a] at hv
   simp only[go_sem,G6,G7,G8,w02,h]
   rw[z4 rfl rfl,z5]
   grind
theorem z2h (l:List Int) (x:AV) (hx:IsSl IsI 1 l x) (hl: ∀t∈l,t<d.types.length) (m:Mem) (L st:Nat) (hL:L≤m.stk.length) (hb:m.blk L 0 st=some (cellsN ty tx fs w0 w1 w2 w3 f)):
  Okv tab 343 [x,.fn (.func 344) [] [.ptr L 0 st 0]] m (.bool (!l.all fun t=>isT d t [2])):=by
 refine zp (tT yA) ?_
 obtain⟨stk,cur,nx,live,fl⟩:=m
 simp only[yA,go_sem,G3,G6,G8]
 refine(z7I d f ty tx fs w0 w1 w2 w3 hy l x hx hl _ L st (by simp at hL⊢;omega) (jq hb hL)).xv fun y n ⟨i,hy,hi⟩=> ?_
 subst hy
 simp only[go_sem,G6,G8]
 rw[z4 rfl rfl,z5]
 grind
theorem zbO (l:List Int) (x:AV) (hx:IsSl IsI 1 l x) (hl: ∀t∈l,t<d.types.length) (m:Mem) (L st:Nat) (hL:L≤m.stk.length) (hb:m.blk L 0 st=some (cellsN ty tx fs w0 w1 w2 w3 f)):
  Okv tab 342 [x,.ptr L 0 st 0] m (.bool (l.all fun t=>isT d t [2])):=by
 refine zp (tT xY) ?_
 obtain⟨stk,cur,nx,live,fl⟩:=m
 simp only[xY,go_sem,G3,G6,G8,(z2h d f ty tx fs w0 w1 w2 w3 hy l x hx hl ⟨stk++[cur],[],nx,[]::live,fl⟩ L st (by simp at hL⊢;omega) (jq hb hL)).eq]
 rw[z4 rfl rfl,z5]
 simp
end
def laterB (d:DImage) (g:DFunc):Bool:=decide (g.result<0)&&(decide (g.params=0)||(decide (g.params=1)&&isT d (fdA g.slots 0).typ [1,2,4]))
theorem z9s (d:DImage) (f:DFunc) (y:AV) (hy:NV d f y) (g:DFunc) (z:AV) (hz:IsFunc g z) (hg:SlotsP d g) (hgp:g.params≤g.slots.length) (m:Mem) (hf:m.floor≤m.stk.length+1):Okv tab 349 [y,z] m (.bool (laterB d g)):=by
 have hy':=hy
 obtain⟨ty,tx,fs,w0,w1,w2,w3,rfl,h0,h1,h2,h3,h4,h5,h6⟩:=hy
 obtain⟨v0,v1,v2,v3,rfl,q0,q1,q2,q3⟩:=hz
 refine zp (tT vN) ?_
 obtain⟨stk,cur,nx,live,fl⟩:=m
 simp only[vN,go_sem,G3,G6,G8]
 unfold laterB
 by_cases hr:g.result<0
 ·by_cases hp0:g.params=0
  ·have e0:(g.params==0)=true:=by simpa using hp0
   simp only[go_sem,G6,G8,hr,e0]
   rw[z4 rfl rfl,z5]
   grind
  ·have e0:(g.params==0)=false:=by simpa using hp0
   by_cases hp1:g.params=1
   ·have e1:(g.params==1)=true:=by simpa using hp1
    have hlen:0<g.slots.length:=by omega
    have hat:evIaddr 2 v0 (.int .i64 0)=some (.ro (nth v0 0).cells):=q0.at .i64 hlen
    have eg:nth v0 0= .agg [.str (fdA g.slots 0).name,.int .i64 (fdA g.slots 0).typ]:=q0.fdA hlen
    have ht:(fdA g.slots 0).typ<d.types.length:=by
     have h00:fdA g.slots 0=g.slots[0]:=V8 hlen
     rw[h00];exact(hg _ (w04 hlen)).2
    have hC:=fun nz=>(z7s d f ty tx fs w0 w1 w2 w3 hy' (fdA g.slots 0).typ ht ⟨stk++[cur],[⟨nx,cellsN ty tx fs w0 w1 w2 w3 f⟩,⟨nx+1,[.str g.name,.int .i64 g.params,.int .i64 g.result,v0,v1,v2,v3]⟩],nz,[]::live,fl⟩ (stk++[cur]).length nx (w08 _) (by simp[Mem.blk,Mem.row])).eq
    simp only[cellsN] at hC
    simp only[go_sem,G6,G8,hr,e0,e1,hat,eg,hC]
    rw[z4 rfl rfl,z5]
    grind
   ·have e1:(g.params==1)=false:=by simpa using hp1
    simp only[go_sem,G6,G8,hr,e0,e1]
    rw[z4 rfl rfl,z5]
    grind
 ·simp only[go_sem,G6,G8,hr]
  rw[z4 rfl rfl,z5]
  simp
theorem z7v (t:DTyp) (z:AV) (hz:IsTyp t z) (m:Mem):Okv tab 394 [z] m (.bool (decide (t.kind∈[1,2,4]))):=by
 obtain⟨v,rfl,_⟩:=hz
 refine zp (tT uR) ?_
 obtain⟨stk,cur,nx,live,fl⟩:=m
 simp only[uR,go_sem,G3,G6,G8]
 repeat' (((first|refine uD ?_ ?_|refine xu ?_ ?_|refine xx ?_ ?_|refine xq ?_ ?_|refine xr ?_ ?_)<;>intro hq)<;>simp only[go_sem,G6,G8,hq])
 all_goals
  rw[z4 rfl rfl,z5]
  refine⟨⟨_,rfl⟩,congrArg AV.bool ?_⟩
  simp only[beq_iff_eq,beq_eq_false_iff_ne,ne_eq] at*
  rw[Bool.eq_iff_iff]
  simp[*]
theorem z7H (d:DImage) (y:AV) (hy:IsImage d y) (k:Nat) (hk:k<d.funcs.length) (hg:SlotsP d (fnA d.funcs k)) (hgp:(fnA d.funcs k).params≤(fnA d.funcs k).slots.length) (hgr: -1≤(fnA d.funcs k).result) (m:Mem) (hf:m.floor≤m.stk.length+1):Okv tab 397 [y,.int .i64 k] m (.bool (laterB d (fnA d.funcs k))):=by
 obtain⟨ty,tx,fs,rfl,h0,h1,h2⟩:=hy
 obtain⟨v0,v1,v2,v3,ef,q0,q1,q2,q3⟩:=h2.fnA hk
 have hatg:=h2.at .i64 hk
 generalize fnA d.funcs k=g at*
 refine zp (tT u7) ?_
 obtain⟨stk,cur,nx,live,fl⟩:=m
 simp only[u7,go_sem,G3,G6,G8,hatg,ef,q0.one,q1.one,q2.one,q3.one]
 unfold laterB
 by_cases hr:g.result<0
 ·have er:(g.result== -1)=true:=by rw[beq_iff_eq];omega
  by_cases hp0:g.params=0
  ·have e0:(g.params==0)=true:=by simpa using hp0
   simp only[go_sem,G6,G8,er,e0]
   rw[z4 rfl rfl,z5]
   grind
  ·have e0:(g.params==0)=false:=by simpa using hp0
   by_cases hp1:g.params=1
   ·have e1:(g.params==1)=true:=by simpa using hp1
    have hlen:0<g.slots.length:=by omega
    have hat:evIaddr 2 v0 (.int .i64 0)=some (.ro (nth v0 0).cells):=q0.at .i64 hlen
    have eg:nth v0 0= .agg [.str (fdA g.slots 0).name,.int .i64 (fdA g.slots 0).typ]:=q0.fdA hlen
    have h00:fdA g.slots 0=g.slots[0]:=V8 hlen
    have ht:0≤(fdA g.slots 0).typ∧(fdA g.slots 0).typ<d.types.length:=by rw[h00];exact hg _ (w04 hlen)
    generalize (fdA g.slots 0).typ=t at*
    obtain⟨q,rfl⟩: ∃q:Nat,t=q:=⟨t.toNat,by omega⟩
    have hq:q<d.types.length:=by omega
    obtain⟨u0,e2,e3⟩:=h0.tyA hq
    have hW:=fun m=>(z7v (tyA d.types q) _ ⟨u0,rfl,e3⟩ m).eq
    simp only[go_sem,G3,G6,G8,er,e0,e1,hat,eg,h0.at _ hq,e2,hW]
    rw[z4 rfl rfl,z5]
    refine⟨⟨_,rfl⟩,congrArg AV.bool ?_⟩
    unfold isT kindI
    grind
   ·have e1:(g.params==1)=false:=by simpa using hp1
    simp only[go_sem,G6,G8,er,e0,e1]
    rw[z4 rfl rfl,z5]
    grind
 ·have er:(g.result== -1)=false:=by rw[beq_eq_false_iff_ne];omega
  simp only[go_sem,G6,G8,er]
  rw[z4 rfl rfl,z5]
  grind
theorem z5d (d:DImage) (y:AV) (hy:IsImage d y) (k:Nat) (hk:k<d.funcs.length) (s:Int) (m:Mem):Okv tab 392 [y,.int .i64 k,.int .i64 s] m (.int .i64 (slotT (fnA d.funcs k) s)):=by
 obtain⟨ty,tx,fs,rfl,h0,h1,h2⟩:=hy
 obtain⟨v0,v1,v2,v3,ef,q0,q1,q2,q3⟩:=h2.fnA hk
 have hatg:=h2.at .i64 hk
 generalize fnA d.funcs k=g at*
 refine zp (tT uP) ?_
 obtain⟨stk,cur,nx,live,fl⟩:=m
 simp only[uP,go_sem,G3,G6,G8]
 by_cases h:0≤s∧s<g.slots.length
 ·obtain⟨j,rfl⟩: ∃j:Nat,s=j:=⟨s.toNat,by omega⟩
  have hj:j<g.slots.length:=by omega
  simp only[go_sem,G6,G8,show¬((j:Int)<0) by omega,hatg,ef,q0.len,show¬((j:Int)≥g.slots.length) by omega,q0.at _ hj,q0.fdA hj]
  rw[z4 rfl rfl,z5]
  exact⟨⟨_,rfl⟩,by unfold slotT;rw[if_pos h]⟩
 ·by_cases hs:s<0
  ·simp only[go_sem,G6,G8,hs]
   rw[z4 rfl rfl,z5]
   exact⟨⟨_,rfl⟩,by unfold slotT;rw[if_neg h]⟩
  ·simp only[go_sem,G6,G8,hs,hatg,ef,q0.len,show s≥g.slots.length by omega]
   rw[z4 rfl rfl,z5]
   exact⟨⟨_,rfl⟩,by unfold slotT;rw[if_neg h]⟩
def up8 (n:Nat):Nat:=(n+7)/8*8
def szT (l:List DTyp) (t:Int):Nat:=((exts 1000000 l).getD t.toNat (0,0)).1
def sumK (l:List DTyp) (ts:List Int) (k:Nat):Nat:=((ts.take k).map fun t=>up8 (szT l t)).sum
def sumB (l:List DTyp) (ts:List Int):Nat:=sumK l ts ts.length
theorem VA {l:List DTyp} {ts:List Int} {k:Nat} (h:k<ts.length):sumK l ts (k+1)=sumK l ts k+up8 (szT l ts[k]):=by
 unfold sumK;rw[w0f h,w2b,List.sum_append];simp
structure TypP (l:List DTyp):Prop where
 w:WfTypes l
 c:CheckP l
 f:FitsP l
theorem TypP.le {l:List DTyp} (h:TypP l) {k:Nat} (hk:k<l.length):szT l k≤256:=h.f k hk
theorem TypP.same {l:List DTyp} (h:TypP l) {k:Nat} (hk:k<l.length):((exts 1048576 l).getD k (0,0)).1=szT l k:=by
 have:=(ZE (f1:=1048576) (f2:=1000000) (by omega) (w08 _) (by omega) h.c.2.1 l.length (w08 _)).2 k
 rw[w0a] at this
 have hle:=h.le hk
 unfold agree at this
 unfold szT at hle⊢
 grind
theorem andNot7: ∀n:Fin 300,(BitVec.ofNat 64 n.val&&& ~~~(BitVec.ofNat 64 7)).toNat=n.val/8*8:=by decide
theorem z6Z {n:Nat} (h:n<300):evBits .andNot .i64 (n:Int) 7=some (.int .i64 ((n/8*8:Nat):Int)):=by
 unfold evBits
 show some (AV.int .i64 (IntKind.i64.wrap (((BitVec.ofInt 64 (n:Int)&&& ~~~(BitVec.ofInt 64 (7:Int)):BitVec 64).toNat:Nat):Int)))=_
 have e1:BitVec.ofInt 64 (n:Int)=BitVec.ofNat 64 n:=BitVec.ofInt_natCast ..
 have e2:BitVec.ofInt 64 (7:Int)=BitVec.ofNat 64 7:=by decide
 rw[e1,e2,andNot7 ⟨n,h⟩,z6 (by omega) (by omega)]
theorem z9x (n:Nat) (h:n≤256) (m:Mem):Okv tab 143 [.int .i64 n] m (.tup [.int .i64 (up8 n:Nat),.int .i64 0]):=by
 refine zp (tT ta) ?_
 obtain⟨stk,cur,nx,live,fl⟩:=m
 have hw:IntKind.i64.wrap ((n:Int)+7)=((n+7:Nat):Int):=by rw[z6 (by omega) (by omega)];omega
 simp only[ta,go_sem,G6,G8,show¬((n:Int)<0) by omega,show¬((n:Int)>1073741824) by omega,hw,z6Z (n:=n+7) (by omega)]
 rw[z4 rfl rfl,z5]
 exact⟨⟨_,rfl⟩,rfl⟩
theorem z6b (n:Nat) (h:n≤256) (m:Mem):Okv tab 263 [.int .i64 n] m (.int .i64 (up8 n:Nat)):=by
 refine zp (tT xj) ?_
 obtain⟨stk,cur,nx,live,fl⟩:=m
 have hU:=fun m=>(zaX (n:=n) (a:=8) (.inr rfl) (by omega) m).eq
 have e8:(((8:Nat):Int))=8:=rfl
 rw[e8] at hU
 simp only[xj,go_sem,G6,G8,hU]
 rw[z4 rfl rfl,z5]
 refine⟨⟨_,rfl⟩,?_⟩
 rfl
def InT (l:List DTyp) (ts:List Int):Prop:= ∀t∈ts,0≤t∧t<l.length
theorem WG {l:List DTyp} {ts:List Int} (hl:TypP l) (h:InT l ts): ∀k,k≤ts.length→sumK l ts k≤264*k
 |0,_=>by simp[sumK]
 |k+1,hk=>by
  have ih:=WG hl h k (by omega)
  rw[VA (by omega)]
  obtain⟨q,hq⟩: ∃q:Nat,ts[k]=q:=⟨(ts[k]).toNat,by have:=h _ (w04 (show k<ts.length by omega));omega⟩
  have hql:q<l.length:=by have:=h _ (w04 (show k<ts.length by omega));omega
  rw[hq]
  have:=hl.le hql
  unfold up8;omega
theorem WB (d:DImage) (hT:TypP d.types) (f:DFunc) (y:AV) (hy:NV d f y) (ts:List Int) (x:AV) (hx:IsSl IsI 1 ts x) (hin:InT d.types ts) (hlen:ts.length≤100000) (m:Mem):Okv tab 353 [y,x] m (.tup [.int .i64 (sumB d.types ts:Nat),.int .i64 0]):=by
 obtain⟨ty,tx,fs,w0,w1,w2,w3,rfl,h0,h1,h2,h3,h4,h5,h6⟩:=hy
 refine zp (tT vO) ?_
 obtain⟨stk,cur,nx,live,fl⟩:=m
 simp only[vO,go_sem,G3,G6,G8,hx.len]
 refine zg (α:=Nat) (fun k σ=>k≤ts.length∧ ∃nz,heads [2,6,12,13,14] 1 σ=⟨tmps 43 [(2,.ptr (stk++[cur]).length 0 nx 0),(6,.int .i64 (sumK d.types ts k:Nat)),(12,x),(13,.int .i64 ts.length),(14,.int .i64 k)],⟨stk++[cur],[⟨nx,[ty,tx,fs,.str f.name,.int .i64 f.params,.int .i64 f.result,w0,w1,w2,w3]⟩],nz,[]::live,fl⟩⟩) (fun k=>ts.length-k) 0 ?_ ?_
 ·refine⟨w0e _,?_⟩
  simp only[go_sem,G6,G7]
  exact⟨_,rfl⟩
 ·rintro k σ ⟨hk,nz,hσ⟩
  rw[hσ]
  clear hσ σ
  dsimp only at hk⊢
  by_cases h:k<ts.length
  ·have e1:nth x k= .int .i64 ts[k]:=hx.nth h
   have hsucc:=zq h hx.max
   have hss:=VA (l:=d.types) h
   have hb:=hin _ (w04 h)
   have hat:=hx.at .i64 h
   have hs1:=WG hT hin k hk
   generalize ts[k]=t at*
   obtain⟨q,rfl⟩: ∃q:Nat,t=q:=⟨t.toNat,by omega⟩
   have hq:q<d.types.length:=by omega
   have hle:=hT.le hq
   have hS:=fun m=>(Yl d.types ty h0 hT.w hT.c q hq (by rw[hT.same hq];exact hle) m).eq
   rw[hT.same hq] at hS
   have hw:IntKind.i64.wrap ((sumK d.types ts k:Nat)+(up8 (szT d.types q):Nat):Int)=((sumK d.types ts k+up8 (szT d.types q):Nat):Int):=by
    unfold up8
    rw[z6 (by omega) (by omega)];omega
   simp only[go_sem,G6,G7,G8,w02,h,hat,e1,hS,show((0:Int) !=0)=false from rfl,(z9x _ hle _).eq,hw,hsucc]
   refine⟨k+1,by omega,h,?_⟩
   simp_all
  ·have:k=ts.length:=by omega
   subst this
   simp only[go_sem,G6,G7,G8,w02,h]
   rw[z4 rfl rfl,z5]
   exact⟨⟨_,rfl⟩,rfl⟩
theorem zbb {l:List DTyp} (h:TypP l) {k:Nat} (hk:k<l.length):k<(szs (exts 1000000 l)).length∧ ∀hk',(szs (exts 1000000 l))[k]'hk'=szT l k:=by
 have hel:(exts 1000000 l).length=l.length:=by have:=xz 1000000 l l.length (w08 _);rwa [w0a] at this
 have hk2:k<(szs (exts 1000000 l)).length:=by unfold szs;rw[w58,hel];exact hk
 refine⟨hk2,fun hk'=> ?_⟩
 unfold szT
 rw[w07]
 simp only[szs,List.getElem_map,w03,w1d (show k<(exts 1000000 l).length by rw[hel];exact hk),w32]
theorem z1t (d:DImage) (hT:TypP d.types) (y:AV) (hy:IsImage d y) (ts:List Int) (x:AV) (hx:IsSl IsI 1 ts x) (hin:InT d.types ts) (hlen:ts.length≤100000) (m:Mem) (hf:m.floor≤m.stk.length+1):Okv tab 362 [y,x] m (.int .i64 (sumB d.types ts:Nat)):=by
 obtain⟨ty,tx,fs,rfl,h0,h1,h2⟩:=hy
 refine zp (tT ub) ?_
 obtain⟨stk,cur,nx,live,fl⟩:=m
 dsimp only at hf
 have hf':fl≤(stk++[cur]).length+1:=by simp;omega
 obtain⟨z1,z2,t2,k2,hcall,ho1,ho2⟩:=z5e d.types ty h0 hT.c.2.1 (by have:=hT.c.1;omega) ⟨stk++[cur],[⟨nx,[ty,tx,fs]⟩],nx+1,[]::live,fl⟩ hf'
 have hel:(exts 1000000 d.types).length=d.types.length:=by have:=xz 1000000 d.types d.types.length (w08 _);rwa [w0a] at this
 have hz1:=ho1.sl (by unfold szs;rw[w58,hel];exact h0.max)
 have hlive: ∃e,pushToks t2 ([]::live)=e::live:=by cases t2<;>exact⟨_,rfl⟩
 obtain⟨e,he⟩:=hlive
 dsimp only at hcall
 rw[he] at hcall
 simp only[ub,go_sem,G3,G6,G8,hcall]
 refine zg (α:=Nat) (fun k σ=>k≤ts.length∧ ∃nz,heads [1,5,7,8] 1 σ=⟨tmps 32 [(1,x),(5,z1),(7,.int .i64 (sumK d.types ts k:Nat)),(8,.int .i64 k)],⟨stk++[cur],[⟨nx,[ty,tx,fs]⟩],nz,e::live,fl⟩⟩) (fun k=>ts.length-k) 0 ?_ ?_
 ·refine⟨w0e _,?_⟩
  simp only[go_sem,G6,G7]
  exact⟨_,rfl⟩
 ·rintro k σ ⟨hk,nz,hσ⟩
  rw[hσ]
  clear hσ σ
  dsimp only at hk⊢
  by_cases h:k<ts.length
  ·have e1:nth x k= .int .i64 ts[k]:=hx.nth h
   have hsucc:=zq h hx.max
   have hss:=VA (l:=d.types) h
   have hb:=hin _ (w04 h)
   have hat:=hx.at .i64 h
   have hs1:=WG hT hin k hk
   generalize ts[k]=t at*
   obtain⟨q,rfl⟩: ∃q:Nat,t=q:=⟨t.toNat,by omega⟩
   have hq:q<d.types.length:=by omega
   have hle:=hT.le hq
   obtain⟨hq2,hq3⟩:=zbb hT hq
   have e2:nth z1 q= .int .i64 ((szT d.types q:Nat):Int):=by have:=hz1.nth hq2;rw[hq3] at this;exact this
   have hw:IntKind.i64.wrap ((sumK d.types ts k:Nat)+(up8 (szT d.types q):Nat):Int)=((sumK d.types ts k+up8 (szT d.types q):Nat):Int):=by
    unfold up8
    rw[z6 (by omega) (by omega)];omega
   simp only[go_sem,G6,G7,G8,w02,h,hx.len,hat,e1,hz1.at .i64 hq2,e2,(z6b _ hle _).eq,hw,hsucc]
   refine⟨k+1,by omega,h,?_⟩
   grind
  ·have:k=ts.length:=by omega
   subst this
   simp only[go_sem,G6,G7,G8,w02,h,hx.len]
   rw[z4 rfl rfl,z5]
   exact⟨⟨_,rfl⟩,rfl⟩
def valR (l:List DRun) (i:Int):Nat→Int
 |0=>0
 |k+1=>if(runAt l k).frm≤i then(runAt l k).value else valR l i k
theorem VS {l:List DRun} {n:Int} (h:FineR l n) (a:Nat): ∀b,a≤b→b<l.length→(runAt l a).frm≤(runAt l b).frm
 |0,hab,_=>by have:a=0:=by omega
              subst this;exact Int.le_refl _
 |b+1,hab,hb=>by
  by_cases e:a=b+1
  ·subst e;exact Int.le_refl _
  ·have ih:=VS h a b (by omega) (by omega)
   have:=((h.2.2 (b+1) hb).2 (by omega)).1
   simp only[Nat.add_sub_cancel] at this;omega
theorem z5g {l:List DRun} {n i:Int} (h:FineR l n) (b:Nat) (hb0:0<b) (hlow:(runAt l (b-1)).frm≤i) (hhi: ∀k,b≤k→k<l.length→i<(runAt l k).frm): ∀k,b≤k→k≤l.length→valR l i k=(runAt l (b-1)).value
 |0,hk,_=>by omega
 |k+1,hk,hl=>by
  unfold valR
  by_cases e:b=k+1
  ·subst e;simp only[Nat.add_sub_cancel] at hlow⊢;rw[if_pos hlow]
  ·have:=hhi k (by omega) (by omega)
   rw[if_neg (by omega)]
   exact z5g h b hb0 hlow hhi k (by omega) (by omega)
theorem zb6 (l:List DRun) (x:AV) (hx:IsSl IsRun 2 l x) (i:Int) (k:Nat) (hk:k<l.length) (m:Mem) (lv st st2:Nat) (hlv:lv≤m.stk.length) (h1:m.blk lv 0 st=some [x]) (h2:m.blk lv 1 st2=some [.int .i64 i]):
  Okv tab 146 [.int .i64 k,.ptr lv 0 st 0,.ptr lv 1 st2 0] m (.bool (decide ((runAt l k).frm>i))):=by
 refine zp (tT kE) ?_
 obtain⟨stk,cur,nx,live,fl⟩:=m
 have hne:(lv==(stk++[cur]).length)=false:=by simp at hlv⊢;omega
 have hrow:(stk++[cur]).getD lv []=(Mem.row ⟨stk,cur,nx,live,fl⟩ lv):=by
  unfold Mem.row
  simp only at hlv⊢
  by_cases e:lv=stk.length
  ·subst e;simp
  ·rw[if_neg (by simpa using e)]
   simp only[w03]
   rw[w1b (by omega)]
 have b1:=W6 h1
 have b2:=W6 h2
 rw[←hrow] at b1 b2
 simp only[kE,go_sem,reduceIte,G3,G4,G6,G9,G7,G8,hne,b1,b2,hx.at _ hk,IsSl.run hx hk]
 rw[z4 rfl rfl,z5]
 exact⟨⟨_,rfl⟩,rfl⟩
theorem z7B (l:List DRun) (x:AV) (hx:IsSl IsRun 2 l x) (n:Int) (hfine:FineR l n) (hl:l.length≤1000) (i:Int) (m:Mem) (lv st st2:Nat) (hlv:lv≤m.stk.length) (h1:m.blk lv 0 st=some [x]) (h2:m.blk lv 1 st2=some [.int .i64 i]):
  Ok tab 145 [.int .i64 l.length,.fn (.func 146) [] [.ptr lv 0 st 0,.ptr lv 1 st2 0]] m (fun r=> ∃b:Nat,r= .int .i64 b∧b≤l.length∧(∀k,k<b→(runAt l k).frm≤i)∧ ∀k,b≤k→k<l.length→i<(runAt l k).frm):=by
 refine z0v (tT kG) ?_
 obtain⟨stk,cur,nx,live,fl⟩:=m
 have hblk: ∀(c:List Blk) (nz:Nat) (lv2:List (List Nat)) (k s:Nat),(Mem.blk ⟨stk++[cur],c,nz,lv2,fl⟩ lv k s)=Mem.blk ⟨stk,cur,nx,live,fl⟩ lv k s:=fun c nz lv2 k s=>by
  unfold Mem.blk Mem.row
  simp only at hlv⊢
  rw[if_neg (by simp;omega)]
  by_cases e:lv=stk.length
  ·subst e;simp
  ·rw[if_neg (by simpa using e)]
   simp only[w03]
   rw[w1b (by omega)]
 simp only[kG,go_sem,reduceIte,G3,G4,G6,G9,G7,G8]
 refine zg (α:=Nat×Nat) (fun z σ=>(z.1≤z.2∧z.2≤l.length∧(∀k,k<z.1→(runAt l k).frm≤i)∧ ∀k,z.2≤k→k<l.length→i<(runAt l k).frm)∧ ∃nz,heads [1,5,6] 0 σ=⟨tmps 26 [(1,.fn (.func 146) [] [.ptr lv 0 st 0,.ptr lv 1 st2 0]),(5,.int .i64 z.1),(6,.int .i64 z.2)],⟨stk++[cur],[],nz,[]::live,fl⟩⟩) (fun z=>z.2-z.1) (0,l.length) ?_ ?_
 ·refine⟨⟨w0e _,w08 _,fun k h=>absurd h (w34 _),fun k h h'=>by dsimp only at h;omega⟩,?_⟩
  simp only[go_sem,reduceIte,G3,G4,G6,G9,G7,G8]
  exact⟨_,rfl⟩
 ·rintro⟨a,b⟩ σ ⟨⟨hab,hb,hlow,hhi⟩,nz,hσ⟩
  rw[hσ]
  clear hσ σ
  dsimp only at hab hb hlow hhi⊢
  by_cases h:a<b
  ·have e1:IntKind.i64.wrap ((a:Int)+(b:Int))=((a+b:Nat):Int):=by rw[z6 (by omega) (by omega)];omega
   have e2:IntKind.u64.wrap ((a+b:Nat):Int)=((a+b:Nat):Int):=za (by omega) (by omega)
   have e3:((a+b:Nat):Int).fdiv (2^min (Int.toNat 1) 64)=(((a+b)/2:Nat):Int):=by
    rw[Int.fdiv_eq_ediv_of_nonneg _ (by decide)];simp
   have e4:IntKind.i64.wrap (((a+b)/2:Nat):Int)=(((a+b)/2:Nat):Int):=z6 (by omega) (by omega)
   generalize hh:(a+b)/2=c at*
   have hc:c<l.length:=by omega
   have hA:=zb6 l x hx i c hc ⟨stk++[cur],[],nz,[]::live,fl⟩ lv st st2 (by simp at hlv⊢;omega) (by rw[hblk];exact h1) (by rw[hblk];exact h2)
   simp only[go_sem,reduceIte,G3,G4,G6,G9,G7,G8,w02,h,e1,e2,evShift,IntKind.bits,(by decide: ¬((1:Int)<0)),e3,e4,hA.eq]
   by_cases hq:(runAt l c).frm>i
   ·simp only[go_sem,reduceIte,G3,G4,G6,G9,G7,G8,hq]
    refine⟨(a,c),by dsimp only;omega,⟨by dsimp only;omega,by dsimp only;omega,hlow,fun k hk hkl=> ?_⟩,_,rfl⟩
    have:=VS hfine c k hk hkl
    dsimp only at hk;omega
   ·have hs:IntKind.i64.wrap ((c:Int)+1)=((c+1:Nat):Int):=zq hc hx.max
    simp only[go_sem,reduceIte,G3,G4,G6,G9,G7,G8,hq,hs]
    refine⟨(c+1,b),by dsimp only;omega,⟨by dsimp only;omega,hb,fun k hk=> ?_,hhi⟩,_,rfl⟩
    have:=VS hfine k c (by dsimp only at hk;omega) hc
    omega
  ·have:a=b:=by omega
   subst this
   simp only[go_sem,reduceIte,G3,G4,G6,G9,G7,G8,w02,h]
   rw[z4 rfl rfl,z5]
   exact⟨⟨_,rfl⟩,a,rfl,hb,hlow,hhi⟩
theorem z2b (l:List DRun) (x:AV) (hx:IsSl IsRun 2 l x) (n i:Int) (hfine:FineR l n) (hn:1≤n∧n≤200) (hi:0≤i∧i<n) (hl:l.length≤1000) (m:Mem):Okv tab 76 [x,.int .i64 n,.int .i64 i] m (.tup [.int .u64 (valR l i l.length),.int .i64 0]):=by
 refine zp (tT YV) ?_
 obtain⟨stk,cur,nx,live,fl⟩:=m
 have hC:=tX l x hx n
 rw[show err08 l n=0 by unfold err08;rw[if_neg (by omega),yB hfine];rfl] at hC
 have hcell:=hx.refs_cells
 simp only[YV,go_sem,reduceIte,G3,G4,G6,G9,G7,G8,hcell,(hC _).eq,show((0:Int) !=0)=false from rfl,show¬i<0 by omega,show¬i≥n by omega,hx.len]
 obtain⟨r,k,hcall,b,rfl,hb,hlow,hhi⟩:=z7B l x hx n hfine hl i ⟨stk++[cur],[⟨nx,[x]⟩,⟨nx+1,[.int .i64 i]⟩],callNx tab 144 [x,.int .i64 n] ⟨stk++[cur],[⟨nx,[x]⟩,⟨nx+1,[.int .i64 i]⟩],nx+1+1,[]::live,fl⟩,[]::live,fl⟩ (stk++[cur]).length nx (nx+1) (w08 _) (by simp[Mem.blk,Mem.row]) (by simp[Mem.blk,Mem.row])
 have hb0:0<b:=by
  rcases Nat.eq_zero_or_pos b with h|h
  ·have:=hhi 0 (by omega) hfine.1
   rw[hfine.2.1] at this;omega
  ·exact h
 have hsub:IntKind.i64.wrap ((b:Int)-1)=(b:Int)-1:=z6 (by omega) (by omega)
 have hat:=z25 hx hb0 (show b-1<l.length by omega)
 have e1:=IsSl.run hx (show b-1<l.length by omega)
 simp only[go_sem,reduceIte,G3,G4,G6,G9,G7,G8,hcall,hsub,hat,e1]
 rw[z4 rfl rfl,z5]
 refine⟨⟨_,rfl⟩,?_⟩
 rw[z5g hfine b hb0 (hlow _ (by omega)) hhi l.length hb (w08 _)]
end Go.Proofs.W
end
section
namespace Go.Proofs.W
open Go.Vs
attribute [local go_sem high] zm zT
attribute [local go_sem ↓] w06 w0d
attribute [local go_sem low] Yc Yt Yf Yut Yuf yy yz yw yx
attribute [local go_sem 2000] zK
attribute [local go_sem] x6 x5 x9 x8 zR zu y7 zP zW zt yq yn ym hd kep yj w02 AV.bool.injEq AV.int.injEq not_true_eq_false not_false_eq_true true_implies false_implies and_true true_and implies_true zl zI zH zk zJ zw zc z8 zj zB zA zi zC zy zb z9 w07 zD zE zZ w18 evShift IntKind.bits zL zF zG z6 za zQ zx w0c yu yr allLen zd AV.tup.injEq List.cons.injEq AV.agg.injEq zV zU evBuild yo zN zn zM eqC0 eqC1 eqC2 zO w17 w16
attribute [go_sem] ta xj qo ZW ZX
theorem z91 {n:Nat} (hn:n≤4000000):evBits .andNot .i64 ((n:Int)+7) 7=some (.int .i64 ((up n 8:Nat):Int)):=by
 have h:=U4 (n:=n) (a:=8) (.inr rfl) (by omega)
 rw[show IntKind.i64.wrap (IntKind.i64.wrap ((n:Int)+((8:Nat):Int))-1)=n+7 by rw[@z6 ((n:Int)+((8:Nat):Int)) (by omega) (by omega),z6 (by omega) (by omega)];omega,show IntKind.i64.wrap (((8:Nat):Int)-1)=7 from rfl] at h
 exact h
theorem Tn (n:Nat) (h:n≤100000) (m:Mem):Okv tab 143 [.int .i64 n] m (.tup [.int .i64 (up n 8:Nat),.int .i64 0]):=by
 have f:=z91 (n:=n) (by omega)
 refine okz (tT ta) fun s c x v g _=> ?_
 repeat' first|refine ifs ?_ ?_|intro
 all_goals first|omega|trivial
theorem VC {l:List DTyp} (hT:TypP l) {fs:List DField} (hf: ∀f∈fs,0≤f.typ∧f.typ<l.length) (hn:fs.length≤16): ∀k,k≤fs.length→tog 1048576 (exts 1048576 l) (fs.take k)=tog 1000000 (exts 1000000 l) (fs.take k)∧(tog 1000000 (exts 1000000 l) (fs.take k)).2.1≤264*k∧is18 (tog 1000000 (exts 1000000 l) (fs.take k)).2.2
 |0,_=>by simp[tog,is18]
 |k+1,hk=>by
  obtain⟨h1,h2,h3⟩:=VC hT hf hn k (by omega)
  have hfk:=hf _ (w04 (show k<fs.length by omega))
  have hA:=(ZE (f1:=1048576) (f2:=1000000) (by omega) (w08 _) (by omega) hT.c.2.1 l.length (w08 _)).2 fs[k].typ.toNat
  have hg:=jm (far:=1000000) (by omega) hT.c.2.1 l.length (w08 _)
  have hl:=xz 1000000 l l.length (w08 _)
  rw[w0a] at hA hg hl
  have hgk:=hg.get (j:=fs[k].typ.toNat) (by omega)
  have hs:=hT.same (k:=fs[k].typ.toNat) (by omega)
  have hle:=hT.le (k:=fs[k].typ.toNat) (by omega)
  unfold szT at hs hle
  rw[w07] at hs hle
  have e:(exts 1048576 l).getD fs[k].typ.toNat (0,0)=(exts 1000000 l).getD fs[k].typ.toNat (0,0):=Prod.ext hs hA.2
  rw[jw _ _ (show k<fs.length by omega),jw _ _ (show k<fs.length by omega),h1]
  have:=XM (n:=(tog 1000000 (exts 1000000 l) (fs.take k)).2.1) hgk.2
  simp only[togStep,e]
  refine⟨?_,by omega,z31 h3 hgk.2⟩
  rw[Nat.min_eq_right (by omega),Nat.min_eq_right (by omega)]
def slotEnd (l:List DTyp) (fs:List DField):Nat:=(togEnd 1000000 (exts 1000000 l) fs).1
theorem W5 {l:List DTyp} (hT:TypP l) {fs:List DField} (hf: ∀f∈fs,0≤f.typ∧f.typ<l.length) (hn:fs.length≤16):slotEnd l fs≤4240∧(togEnd 1048576 (exts 1048576 l) fs).1=slotEnd l fs:=by
 obtain⟨h1,h2,h3⟩:=VC hT hf hn fs.length (w08 _)
 rw[w0a] at h1 h2 h3
 have:=XM (n:=(tog 1000000 (exts 1000000 l) fs).2.1) h3
 unfold slotEnd togEnd
 rw[h1]
 dsimp only
 omega
theorem oe {tab:Nat→Option AFunc} {f:Nat} {args:List AV} {m:Mem} {r:AV×Mem} {F:AV×Mem→Prop} {Q:Prop} (h:CALL tab f args m=some r) (q:Q) (eq:F r=Q:=by exact SE): @Cl (CALL tab f args m) ⟨F⟩:=⟨_,h,eq.mpr q⟩
theorem z0E {m0:Mem} {stk:List (List Blk)} {cur c':List Blk} {nx' fl':Nat} {live':List (List Nat)} {own:List Nat} {k st len:Nat} {r:List AV} (hr: ∀l l' k,shiftAll l l' k r=r) (ht:toksAll r=[]) {ws:List Nat} (hc:c'[k]? =some ⟨st,ints ws⟩):
  ∃bs:List Blk,leave m0 ⟨stk++[cur],c',nx',own::live',fl'⟩ (.tup (.arr (stk++[cur]).length k st 0 len::r))=some (.tup (.arr stk.length (cur.length+k) st 0 len::r),⟨stk,cur++bs,nx',live',m0.floor⟩)∧bs[k]? =some ⟨st,ints ws⟩:=by
 have e:own.filter (fun _=>false)=[]:=by simp
 refine⟨c'.map fun b=>⟨b.st,shiftAll (stk++[cur]).length ((stk++[cur]).length-1) cur.length b.cs⟩,?_,?_⟩
 ·unfold leave
  simp only[w53,w41,Option.some_or,AV.refs,refsAny,beq_self_eq_true,Bool.true_or,if_true,AV.toks,toksAll,ht,w21,w5b,e,pushToks,w54,AV.shift,shiftAll,hr]
  simp[Nat.add_comm]
 ·rw[w22,hc,w06,Zr]
theorem Vr (l:List DTyp) (x:AV) (hx:IsSl IsTyp 4 l x) (hT:TypP l) (fs:List DField) (v:AV) (q1:IsSl IsField 2 fs v) (hf: ∀f∈fs,0≤f.typ∧f.typ<l.length) (hn:fs.length≤16) (stk:List (List Blk)) (cur:List Blk) (nx fl:Nat) (live:List (List Nat)):
  ∃bs j s k n,CALL tab 142 [x,v] ⟨stk,cur,nx,live,fl⟩=some (.tup [.arr stk.length (cur.length+j) s 0 fs.length,.int .i64 (slotEnd l fs:Nat),.int .i64 n,.int .i64 0],⟨stk,cur++bs,k,live,fl⟩)∧bs[j]? =some ⟨s,ints (tog 1000000 (exts 1000000 l) fs).1⟩:=by
 suffices h:Does tab 142 [x,v] ⟨stk,cur,nx,live,fl⟩ fun r m'=> ∃bs j s k n,r= .tup [.arr stk.length (cur.length+j) s 0 fs.length,.int .i64 (slotEnd l fs:Nat),.int .i64 n,.int .i64 0]∧m'=⟨stk,cur++bs,k,live,fl⟩∧bs[j]? =some ⟨s,ints (tog 1000000 (exts 1000000 l) fs).1⟩ by
  obtain⟨z,h1,bs,j,s,k,n,h2,h3,h4⟩:=h
  exact⟨bs,j,s,k,n,by rw[h1,←h2,←h3],h4⟩
 have hC:=qt l x hx hT.w
 rw[VX hT.c] at hC
 have hl:=hT.c.1
 have f:=nd q1.z (nd q1.co (nd hx.z (nd hx.co (show¬(fs.length:Int)>16 by omega))))
 refine yD (tT qo) ?_ (Nat.le_of_ble_eq_true rfl)
 refine st ?_
 refine ow (hC _) fun k=> ?_
 obtain⟨bs,j,sq,k,hcall,hbs⟩:=qi l x hx hT.c.2.1 (by omega) (stk++[cur]) [] k fl ([]::live)
 have f:=nd f (nd (@w0a Blk) (nd (fun c:List Blk=> @List.take_left _ bs c) (nd (fun(B:List Blk) (a:Blk)=>show(B++[a])[B.length]? =some a by simp) fun(B:List Blk) (a b:Blk)=>show(B++[a]).set B.length b=B++[b] by simp)))
 have f:=nd f (nd (fun j (hj:j<fs.length)=>show nth v j= .agg [.str fs[j].name,.int .i64 fs[j].typ] from q1.nth hj) (nd (fun j (hj:j<fs.length)=>show¬fs[j].typ<0 by have:=hf _ (w04 hj);omega) fun j (hj:j<fs.length)=>show¬fs[j].typ≥l.length by have:=hf _ (w04 hj);omega))
 refine oe hcall ?_
 refine xn 27 fs.length [] (fun _ _ e=>e=[]) 0 ?_ fun i v e nz hi he=> ?_
 ·trivial
 subst he
 refine ifs (fun hi=> ?_) fun hi=> ?_
 ·trivial
 have hel:(exts 1048576 l).length=l.length:=by have:=xz 1048576 l l.length (w08 _);rwa [w0a] at this
 have hft:=fun i (hi:i<fs.length)=>hf _ (w04 hi)
 have hjb:j<bs.length:=(w13.1 hbs).1
 have f:=nd f (nd z7 (nd (fun i (hi:i<fs.length)=>uG .i64 (p:=fs[i].typ) (n:=l.length) (hft i hi)) (nd (fun a:List Blk=>show(bs++a)[j]? =some ⟨sq,prs (exts 1048576 l)⟩ by rw[w1b hjb,hbs]) (nd hbs
  (nd (fun i (hi:i<fs.length)=>z1F (ws:=exts 1048576 l) (j:=fs[i].typ.toNat) (by have:=hft i hi;omega)) fun i (hi:i<fs.length)=>show¬((((exts 1048576 l).getD fs[i].typ.toNat (0,0)).1:Nat):Int)>256 by
   have:=hft i hi
   have h1:=hT.same (k:=fs[i].typ.toNat) (by omega)
   have h2:=hT.le (k:=fs[i].typ.toNat) (by omega)
   rw[h1];omega)))))
 refine xn 44 fs.length [] (fun _ _ e=>e=[]) 0 ?_ fun i v e nz hi he=> ?_
 ·trivial
 subst he
 refine ifs (fun hi=> ?_) fun hi=> ?_
 ·trivial
 have hg:=jm (far:=1048576) (w08 _) hT.c.2.1 l.length (w08 _)
 rw[w0a] at hg
 obtain⟨bs2,j2,s2,k2,hcall2,hbs2⟩:=Wx (exts 1048576 l) (exts 1048576 l) hg (w08 _) (fun _ _=>rfl) fs _ q1 (by rw[hel];exact hf) (by omega) (stk++[cur]) bs nz fl ([]::live) (stk++[cur]).length j sq (w08 _) (by simpa using hbs)
 rw[hel] at hcall2
 obtain⟨t1,-,-⟩:=VC hT hf hn fs.length (w08 _)
 rw[w0a] at t1
 rw[(W5 hT hf hn).2] at hcall2
 rw[t1] at hbs2
 have hjb2:j2<bs2.length:=(w13.1 hbs2).1
 refine oe hcall2 ?_
 obtain⟨bs',e1,e2⟩:=z0E (m0:=⟨stk,cur,nx,live,fl⟩) (stk:=stk) (cur:=cur) (nx':=k2+1) (fl':=fl) (own:=[]) (live':=live) (k:=bs.length+j2) (st:=s2) (len:=fs.length) (r:=[.int .i64 (slotEnd l fs:Nat),.int .i64 (togEnd 1048576 (exts 1048576 l) fs).2,.int .i64 0]) (ws:=(tog 1000000 (exts 1000000 l) fs).1) (c':=bs++bs2++[⟨k2,[.int .i64 (slotEnd l fs:Nat),.int .i64 (togEnd 1048576 (exts 1048576 l) fs).2]⟩]) (fun _ _ _=>rfl) rfl (by rw[w1e,w39 (by omega),Nat.add_sub_cancel_left,w1b hjb2,hbs2])
 exact Opt.of_eq e1 ⟨bs',_,_,_,_,rfl,rfl,e2⟩
theorem V6 {d:DImage} (h:err09 d=0):FineI d:=by
 unfold err09 at h
 by_cases hf:FineI d
 ·exact hf
 ·rw[zS hf] at h;simp at h
theorem FineI.typ {d:DImage} (h:FineI d) (hw:WfImage d):TypP d.types:=⟨hw.types,h.1,h.2.2.2.2.1⟩
theorem FineI.fn {d:DImage} (h:FineI d) {k:Nat} (hk:k<d.funcs.length):FuncP d.types.length d.funcs[k]:=h.2.2.2.2.2.2.1 _ (w04 hk)
theorem z1n (d:DImage) (x:AV) (hx:IsImage d x) (hw:WfImage d) (he:err09 d=0) (k:Nat) (hk:k<d.funcs.length) (stk:List (List Blk)) (cur:List Blk) (nx fl:Nat) (live:List (List Nat)):
  ∃bs j s q,CALL tab 75 [x,.int .i64 (k:Int)] ⟨stk,cur,nx,live,fl⟩=some (.tup [.arr stk.length (cur.length+j) s 0 d.funcs[k].slots.length,.int .i64 (up (slotEnd d.types d.funcs[k].slots) 8:Nat)],⟨stk,cur++bs,q,live,fl⟩)∧bs[j]? =some ⟨s,ints (tog 1000000 (exts 1000000 d.types) d.funcs[k].slots).1⟩:=by
 suffices h:Does tab 75 [x,.int .i64 (k:Int)] ⟨stk,cur,nx,live,fl⟩ fun r m'=> ∃bs j s q,r= .tup [.arr stk.length (cur.length+j) s 0 d.funcs[k].slots.length,.int .i64 (up (slotEnd d.types d.funcs[k].slots) 8:Nat)]∧m'=⟨stk,cur++bs,q,live,fl⟩∧bs[j]? =some ⟨s,ints (tog 1000000 (exts 1000000 d.types) d.funcs[k].slots).1⟩ by
  obtain⟨z,h1,bs,j,s,q,h2,h3,h4⟩:=h
  exact⟨bs,j,s,q,by rw[h1,←h2,←h3],h4⟩
 have hI:=V6 he
 have hT:=hI.typ hw
 obtain⟨⟨_,hn,_⟩,hf,_⟩:=hI.fn hk
 obtain⟨v0,v1,v2,rfl,h0,h1,h2⟩:=hx
 obtain⟨s,c,z,v,hq⟩:=fnsV h2
 obtain⟨q0,q1,q2,q3,q4⟩:=hq k hk
 have hs:=(W5 hT hf (by omega)).1
 have f:=nd h0.co (nd h1.co (nd h2.co (nd h2.z (nd q0 (nd q1.co (nd q2.co (nd q3.co (nd q4.co hk))))))))
 refine yD (tT ZW) ?_ (Nat.le_of_ble_eq_true rfl)
 refine st ?_
 obtain⟨bs,j,sq,q,n,hcall,hbs⟩:=Vr d.types v0 h0 hT d.funcs[k].slots (s k) q1 hf (by omega) (stk++[cur]) [⟨nx,[v0,v1,v2]⟩] (nx+1) (max fl ((stk++[cur]).length+1)) ([]::live)
 refine oe hcall ?_
 refine ow (Tn _ (by omega) _) fun q'=> ?_
 obtain⟨bs',e1,e2⟩:=z0E (m0:=⟨stk,cur,nx,live,fl⟩) (stk:=stk) (cur:=cur) (nx':=q') (fl':=fl) (own:=[]) (live':=live) (k:=1+j) (st:=sq) (len:=d.funcs[k].slots.length) (r:=[.int .i64 (up (slotEnd d.types d.funcs[k].slots) 8:Nat)]) (ws:=(tog 1000000 (exts 1000000 d.types) d.funcs[k].slots).1) (c':=⟨nx,[v0,v1,v2]⟩::bs) (fun _ _ _=>rfl) rfl (by rw[Nat.add_comm,w4e,hbs])
 exact Opt.of_eq e1 ⟨bs',_,_,_,rfl,rfl,e2⟩
def sizeN (d:DImage) (k i:Int):Int:=24+(up (slotEnd d.types (fnAt d.funcs k.toNat).slots) 8:Nat)+valR (fnAt d.funcs k.toNat).sizes i (fnAt d.funcs k.toNat).sizes.length
noncomputable def sizeR (d:DImage) (n:Int):Int×Int:=
 if(findR d n).2.2≠0 then(0,(findR d n).2.2) else if sizeN d (findR d n).1 (findR d n).2.1>4096 then(0,16) else(sizeN d (findR d n).1 (findR d n).2.1,0)
theorem z1W {d:DImage} {n:Int} (hn:0≤n) (h:(findR d n).2.2=0):err09 d=0∧0≤(findR d n).1∧(findR d n).1<d.funcs.length∧0≤(findR d n).2.1∧(findR d n).2.1<(fnAt d.funcs (findR d n).1.toNat).code.length:=by
 by_cases he:err09 d=0
 ·cases hb:badB d n
  ·have:findR d n=(n/256-1,n%256,0):=by simp[findR,he,hb]
   rw[this]
   have hb: ¬(n<256∨n/256>d.funcs.length∨n%256≥codeLen d (n/256-1)):=of_decide_eq_false hb
   unfold codeLen at hb
   dsimp only
   exact⟨he,by omega,by omega,by omega,by omega⟩
  ·simp[findR,he,hb] at h
 ·simp[findR,he] at h
theorem Tw {l:List DRun} (h: ∀r∈l,inU64 r.value) (i:Int): ∀k,k≤l.length→0≤valR l i k∧valR l i k<18446744073709551616
 |0,_=>by simp[valR]
 |k+1,hk=>by
  unfold valR
  split
  ·have:=h _ (w04 (show k<l.length by omega))
   unfold inU64 at this
   simpa [runAt,w03,show k<l.length by omega] using this
  ·exact Tw h i k (by omega)
theorem z1o (d:DImage) (x:AV) (hx:IsImage d x) (hw:WfImage d) (hs:d.funcs.length≤100000) (n:Int) (hn:0≤n∧n<18446744073709551616) (m:Mem) (hf:m.floor≤m.stk.length+1):Okv tab 23 [x,.int .u64 n] m (.tup [.int .i64 (sizeR d n).1,.int .i64 (sizeR d n).2]):=by
 have hF:=Zq d x hx hw hs n hn
 have hL:=fun he k hk=>z1n d x hx hw he k hk
 have hi:= @z1W d n hn.1
 have hq:=fun he k hk=>(V6 (d:=d) he).fn (k:=k) hk
 obtain⟨v0,v1,v2,rfl,h0,h1,h2⟩:=hx
 have f:=nd h0.co (nd h1.co (nd h2.co h2.z))
 refine okz (tT ZX) fun s c x v g em=> ?_
 subst em
 refine ow (hF _ (by simp at*;omega)) fun k=> ?_
 refine ifs (fun h=> ?_) fun h=> ?_
 ·simp[sizeR,h]
 have h3:(findR d n).2.2=0:=by simpa using h
 obtain⟨he,hi⟩:=hi h3
 obtain⟨j,hj⟩: ∃j:Nat,(findR d n).1=j:=⟨_,(w45 hi.1).symm⟩
 obtain⟨i,hii⟩: ∃i:Nat,(findR d n).2.1=i:=⟨_,(w45 hi.2.2.1).symm⟩
 have hk:j<d.funcs.length:=by omega
 have hfn:=hq he j hk
 have hT:=(V6 he).typ hw
 have hw:=hw.funcs _ (w04 hk)
 obtain⟨bs,j',sq,q,hcall,-⟩:=hL he j hk (s++[c]) [⟨x,[v0,v1,v2]⟩] k g ([]::v)
 have hS:sizeR d n=if sizeN d j i>4096 then(0,16) else(sizeN d j i,0):=by unfold sizeR;rw[if_neg (by omega),hj,hii]
 unfold sizeN at hS
 rw[hj,hii] at hi⊢
 rw[hS]
 rw[w07,←qb hk] at hi⊢
 obtain⟨s0,c0,z0,w0,hz⟩:=fnsV h2
 obtain⟨q0,q1,q2,q3,q4⟩:=hz j hk
 generalize d.funcs[j]=fn at*
 obtain⟨⟨_,hsl,_⟩,hsf,_,hc1,hc2,hfs,_⟩:=hfn
 have hv:=Tw (fun r hr=>(hw.sizes r hr).value) i fn.sizes.length (w08 _)
 have hsz:=(W5 hT hsf (by omega)).1
 have hup:=XM (n:=slotEnd d.types fn.slots) (a:=8) (.inr rfl)
 have f:=nd f (nd q0 (nd hk (nd q2.z (nd q3.co (nd q2.co fun m=>(z2b fn.sizes (z0 j) q3 fn.code.length i hfs (by omega) (by omega) (by have:=yR hfs (by omega);omega) m).eq)))))
 refine oe hcall ?_
 generalize valR fn.sizes i fn.sizes.length=vv at*
 generalize up (slotEnd d.types fn.slots) 8=uu at*
 have hwr:= @z6 vv
 refine ifs (fun h5=> ?_) fun h5=> ?_
 ·rw[if_pos (by omega)]
  exact nd rfl rfl
 refine ifs (fun h6=> ?_) fun h6=> ?_<;>trivial
attribute [go_sem] vq Z0 vU xH
def headed (h:Int) (l:List Int):Bool:=decide (h=l.headD 0)
theorem XJ (h:Int) (l:List Int) (y:AV) (hy:IsSl (IsK .u64) 1 l y) (m:Mem):Okv tab 90 [.int .u64 h,y] m (.bool (headed h l)):=by
 have f:=nd hy.z (nthK hy)
 refine okz (tT Z0) fun s c x v g _=> ?_
 repeat' first|refine ifs ?_ ?_|intro
 all_goals clear f;cases l<;>grind [headed]
theorem Yg (h:Int) (l:List Int) (y:AV) (hy:IsSl (IsK .u64) 1 l y) (m:Mem):Okv tab 97 [.int .u64 h,y] m (.bool (headed h l)):=by
 have f:=nd hy.z (nthK hy)
 refine okz (tT vq) fun s c x v g _=> ?_
 repeat' first|refine ifs ?_ ?_|intro
 all_goals clear f;cases l<;>grind [headed]
def great28 (h:DRegion) (l:List DRegion) (r:List DRoutine):Bool:=decide (20<r.length∨20<l.length)||gr (·.bytes.length) 20000 40000 (h::l)
theorem QK (h:DRegion) (l:List DRegion) (r:List DRoutine) (x y z:AV) (hx:IsRegion h x) (hy:IsSl IsRegion 2 l y) (hz:IsSl IsRoutine 6 r z) (m:Mem):Okv tab 60 [x,y,z] m (.bool (great28 h l r)):=by
 obtain⟨w,rfl,hw⟩:=hx
 have f:=nd hw.one (nd hy.z hz.z)
 refine okz (tT vU) fun s c x v g _=> ?_
 repeat' first|refine ifs ?_ ?_|intro
 rotate_right
 ·refine ov (.full (show All2 IsRegion [h] [.agg [.int .u64 h.base,w]] from⟨⟨_,rfl,hw⟩,trivial⟩) _) hy (by simp;omega) fun y n e ho=> ?_
  refine ow (QO _ _ (ho.sl (by simp;omega)) _) fun n=> ?_
  grind [great28]
 all_goals grind [great28]
attribute [go_sem] ur ud
def bad04 (t:DTyp):Bool:=decide (20<t.fields.length)||t.fields.any fun f=>decide (100<f.name.length)
def great04 (l:List DTyp):Bool:=decide (40<l.length)||l.any bad04
theorem z8Z {α:Type} {p:α→Bool} {l:List α}:l.any p=false↔ ∀j (hj:j<l.length),p l[j]=false:=by
 rw[List.any_eq_false]
 exact⟨fun h j hj=>by simpa using h _ (w04 hj),fun h x hx=>by obtain⟨j,hj,rfl⟩:=w49.1 hx;simpa using h j hj⟩
theorem g04 {l:List DTyp}:great04 l=false↔l.length≤40∧ ∀j (hj:j<l.length),l[j].fields.length≤20∧ ∀k (hk:k<l[j].fields.length),l[j].fields[k].name.length≤100:=by
 simp only[great04,bad04,w28,z8Z,decide_eq_false_iff_not,Nat.not_lt]
theorem Y8 (xs:List DTyp) (x:AV) (hx:IsSl IsTyp 4 xs x) (m:Mem):Okv tab 132 [x] m (.bool (great04 xs)):=by
 obtain⟨z,hz⟩:=typesV hx
 have f:=nd hx.z<|nd (fun j hj=>nd (hz j hj).1<|nd (hz j hj).2.z (fun k (hk:k<xs[j].fields.length)=>show nth (z j) k=_ from(hz j hj).2.nth hk)) hx.max
 have g:= @g04 xs
 refine okz (tT ur) fun s c x v g _=> ?_
 clear hx hz
 refine ifs (fun h=> ?_) fun h=> ?_
 ·clear f;grind
 refine xn 3 xs.length [] (fun i _ _=> ∀j (hj:j<xs.length),j<i→xs[j].fields.length≤20∧ ∀k (hk:k<xs[j].fields.length),xs[j].fields[k].name.length≤100) 0 ?_ fun i v e nz hi hp=> ?_
 ·exact fun j hj hi=>by omega
 refine ifs (fun hi=> ?_) fun hi=> ?_
 ·refine ifs (fun h=> ?_) fun h=> ?_
  ·clear f;grind
  refine xn 4 xs[i].fields.length [] (fun k _ _=> ∀j (hj:j<xs[i].fields.length),j<k→xs[i].fields[j].name.length≤100) 0 ?_ fun k v e nz hk hq=> ?_
  ·exact fun j hj hi=>by omega
  repeat' first|refine ifs ?_ ?_|intro
  all_goals clear f;grind
 ·clear f;grind
def greatF (f:DFunc):Bool:=decide (100<f.name.length)||decide (20<f.slots.length)||decide (210<f.code.length)||decide (210<f.sizes.length)||decide (210<f.lives.length)||f.slots.any fun s=>decide (100<s.name.length)
def sumCode (l:List DFunc):Nat:=(l.map fun f=>f.code.length).sum
theorem WH (l:List DFunc) (i:Nat) (h:i<l.length):sumCode (l.take (i+1))=sumCode (l.take i)+l[i].code.length:=by
 unfold sumCode
 rw[w0f h,w2b,List.sum_append];rfl
theorem US (l:List DFunc) (i:Nat):sumCode (l.take i)≤sumCode l:=by
 have:sumCode l=sumCode (l.take i)+sumCode (l.drop i):=by
  conv=>lhs;rw[←List.take_append_drop i l]
  unfold sumCode
  rw[w2b,List.sum_append]
 omega
def great09 (m:DImage):Bool:=great04 m.types||decide (40<m.texts.length)||decide (40<m.funcs.length)||m.texts.any (fun t=>decide (100<t.length))||m.funcs.any greatF||decide (1000<sumCode m.funcs)
theorem gF {f:DFunc}:greatF f=false↔f.name.length≤100∧f.slots.length≤20∧f.code.length≤210∧f.sizes.length≤210∧f.lives.length≤210∧ ∀k (hk:k<f.slots.length),f.slots[k].name.length≤100:=by
 simp only[greatF,w28,z8Z,decide_eq_false_iff_not,Nat.not_lt,and_assoc]
theorem g09 {d:DImage}:great09 d=false↔great04 d.types=false∧d.texts.length≤40∧d.funcs.length≤40∧(∀j (hj:j<d.texts.length),d.texts[j].length≤100)∧(∀j (hj:j<d.funcs.length),greatF d.funcs[j]=false)∧sumCode d.funcs≤1000:=by
 simp only[great09,w28,z8Z,decide_eq_false_iff_not,Nat.not_lt,and_assoc]
theorem Y6 (d:DImage) (x:AV) (hx:IsImage d x) (m:Mem):Okv tab 62 [x] m (.bool (great09 d)):=by
 obtain⟨v0,v1,v2,rfl,h0,h1,h2⟩:=hx
 obtain⟨a,b,c0,c1,hq⟩:=fnsV h2
 have f:=nd h0.co<|nd h1.co<|nd h2.co<|nd h1.z<|nd h2.z<|nd (strV h1)<|nd (fun j hj=>nd (hq j hj).1<|nd (hq j hj).2.1.z<|nd (hq j hj).2.1.co<|nd (fun k (hk:k<d.funcs[j].slots.length)=>show nth (a j) k=_ from(hq j hj).2.1.nth hk)<|nd (hq j hj).2.2.1.co<|nd (hq j hj).2.2.1.z<|nd (hq j hj).2.2.2.1.co<|nd (hq j hj).2.2.2.1.z<|nd (hq j hj).2.2.2.2.co (hq j hj).2.2.2.2.z) fun m=>(Y8 _ _ h0 m).eq
 have m1:=h1.max
 have m2:=h2.max
 have g:= @g09 d
 have hW:=fun j (hj:j<d.funcs.length) (hs:sumCode (d.funcs.take j)≤1000) (hc:d.funcs[j].code.length≤210)=>show IntKind.i64.wrap ((sumCode (d.funcs.take j):Int)+d.funcs[j].code.length)=((sumCode (d.funcs.take (j+1)):Nat):Int) from by
  have:=WH d.funcs j hj
  rw[z6 (by omega) (by omega)];omega
 refine okz (tT ud) fun s c x v g _=> ?_
 clear h0 h1 h2 hq
 repeat' first|refine ifs ?_ ?_|intro
 rotate_right
 ·refine xn 3 d.texts.length [] (fun i _ _=> ∀j (hj:j<d.texts.length),j<i→d.texts[j].length≤100) 0 ?_ fun i v e nz hi hp=> ?_
  ·exact fun j hj hi=>by omega
  repeat' first|refine ifs ?_ ?_|intro
  rotate_right
  ·refine xg [4,5] (fun(i:Nat) v e b=>i≤d.funcs.length∧v 5= .int .i64 (i:Int)∧v 4= .int .i64 (sumCode (d.funcs.take i):Nat)∧b=[⟨x,[v0,v1,v2]⟩]∧sumCode (d.funcs.take i)≤1000∧ ∀j (hj:j<d.funcs.length),j<i→greatF d.funcs[j]=false) (fun i=>d.funcs.length-i) 0 ?_ ?_
   ·simp[sumCode]
   rintro i v e nz b ⟨hi,h5,h4,rfl,hs,hp⟩
   have hle:=US d.funcs (i+1)
   refine ifs (fun hi=> ?_) fun hi=> ?_
   ·have hw:=hW i hi hs
    have he:=WH d.funcs i hi
    clear hW
    repeat' first|refine ifs ?_ ?_|intro
    rotate_right
    ·have hw:=hw (by omega)
     have f:=nd f hw
     refine xn 7 d.funcs[i].slots.length [] (fun k _ _=> ∀j (hj:j<d.funcs[i].slots.length),j<k→d.funcs[i].slots[j].name.length≤100) 0 ?_ fun k v e nz hk hq=> ?_
     ·exact fun j hj hi=>by omega
     repeat' first|refine ifs ?_ ?_|intro
     rotate_right
     ·refine⟨i+1,by omega,?_⟩
      clear f
      clear f
      grind [gF]
     all_goals clear f;clear f;grind [gF]
    all_goals clear f;grind [gF]
   ·clear f
    rw[show i=d.funcs.length by omega,w0a] at hs
    grind
  all_goals clear f;grind
 all_goals clear f;grind
end Go.Proofs.W
end
section
namespace Go.Proofs.W
open Go.Vs
theorem jr {α:Type} {R:α→AV→Prop} {s bytes:Nat} {stk:List (List Blk)} {cur:List Blk} {nx fl:Nat} {e:List Nat} {rest:List (List Nat)} {xs:List α} {z:AV} (hz:IsSl R s xs z) (hl:xs.length*bytes≤140737488355328):
  ∃y n e',evApp ⟨stk,cur,nx,e::rest,fl⟩ s bytes (.list s .full []) z=some (y,⟨stk,cur,n,e'::rest,fl⟩)∧IsSl R s xs y∧ ∀t∈e,t∈e':=by
 obtain⟨zs,h1,h2⟩:=hz.elems_any
 have ho:Own R s (.list s .full []) ([]:List α) (Mem.live ⟨stk,cur,nx,e::rest,fl⟩).flatten:=Own.full (show All2 R [] [] from trivial) _
 have hmx:=hz.max
 rcases ho.app (m:=⟨stk,cur,nx,e::rest,fl⟩) (h1 _) h2 (by simpa using hl) with⟨hcs,q⟩|⟨ys,q,eq⟩|⟨t,ys,q0,hy,_,q,eq⟩
 ·subst hcs;exact⟨_,_,_,q,.mk (show All2 R [] [] from trivial) (by simp),fun t h=>h⟩
 ·exact⟨_,_,_,eq,.mk q hmx,fun t h=>w2c _ h⟩
 ·cases hy
theorem z7y (l:List DTyp) (x:AV) (hx:IsSl IsTyp 4 l x) (hs:l.length≤1000∧ ∀t∈l,t.fields.length≤1000) (m:Mem):Okl IsTyp 4 tab 133 [x] m l:=by
 refine qQ (tT t6) ?_
 obtain⟨stk,cur,nx,live,fl⟩:=m
 dsimp only[t6,fnOf];simp only[go_sem]
 refine zg (α:=Nat) (fun k σ=>k≤l.length∧ ∃nz y e,Own IsTyp 4 y (l.take k) e∧heads [0,3,4] 0 σ=⟨tmps 29 [(0,x),(3,y),(4,.int .i64 k)],⟨stk++[cur],[],nz,e::live,fl⟩⟩) (fun k=>l.length-k) 0 ?_ ?_
 ·refine⟨w0e _,?_⟩
  simp only[go_sem,G6,G7]
  exact⟨_,_,[],.nil _,rfl⟩
 ·rintro k σ ⟨hk,nz,y,e,ho,hσ⟩
  rw[hσ]
  clear hσ σ
  dsimp only at hk⊢
  by_cases h:k<l.length
  ·have hsucc:=zq h hx.max
   obtain⟨v0,e1,e2⟩:=hx.nth h
   have hat:=hx.at .i64 h
   have htk:=w0f h
   have hfl:=hs.2 _ (w04 h)
   have hkl:(l.take k).length=k:=by rw[w20];omega
   simp only[go_sem,G3,G6,G7,G8,hx.len,w02,h,hat,e1,e2.one]
   obtain⟨y',n',e',ha,hy',hm⟩:=jr (stk:=stk++[cur]) (cur:=[⟨nz,[.int .u8 l[k].kind,.int .i64 l[k].elem,.int .i64 l[k].len,v0]⟩]) (nx:=nz+1) (fl:=fl) (e:=e) (rest:=live) (bytes:=24) e2 (by omega)
   simp only[go_sem,G3,G6,G8,ha,hy'.one,hy'.refs_cells]
   have ho':=ho.mono hm
   refine ho'.xv (cs:=[l[k]]) (zh · 4 .full [.agg [.int .u8 l[k].kind,.int .i64 l[k].elem,.int .i64 l[k].len,y']]) (show All2 IsTyp [l[k]] [.agg [.int .u8 l[k].kind,.int .i64 l[k].elem,.int .i64 l[k].len,y']] from⟨⟨y',rfl,hy'⟩,trivial⟩) (by rw[hkl,w29];omega) fun y2 n2 e2 ho2=> ?_
   simp only[go_sem,G6,G8,hsucc]
   exact⟨k+1,by omega,h,n2,y2,e2,by rw[htk];exact ho2,rfl⟩
  ·have:k=l.length:=by omega
   subst this
   rw[w0a] at ho
   simp only[go_sem,G6,G7,G8,hx.len,w02,h]
   exact tf ho
structure SmallI (d:DImage):Prop where
 t:d.types.length≤1000∧ ∀t∈d.types,t.fields.length≤1000
 x:d.texts.length≤1000
 f:d.funcs.length≤1000∧ ∀f∈d.funcs,f.slots.length≤1000∧f.code.length≤1000∧f.sizes.length≤1000∧f.lives.length≤1000
theorem SmallI.of {d:DImage} (h:great09 d=false):SmallI d:=by
 unfold great09 great04 greatF at h
 simp only[w28,List.any_eq_false,bad04,decide_eq_false_iff_not,Bool.not_eq_true,Nat.not_lt] at h
 obtain⟨⟨⟨⟨⟨⟨h1,h2⟩,h3⟩,h4⟩,h5⟩,h6⟩,h7⟩:=h
 exact⟨⟨by omega,fun t ht=>by have:=(h2 t ht).1;omega⟩,by omega,by omega,fun f hf=>by have:=h6 f hf;omega⟩
theorem z7x (d:DImage) (y:AV) (hy:IsImage d y) (hs:SmallI d) (m:Mem) (hf:m.floor≤m.stk.length+1):OkT tab 63 [y] m (fun r _ _=>IsImage d r):=by
 obtain⟨ty,tx,fs,rfl,h0,h1,h2⟩:=hy
 refine Zs (tT uT) ?_
 obtain⟨stk,cur,nx,live,fl⟩:=m
 obtain⟨z0,t0,k0,hc,hz⟩:=z7y d.types ty h0 hs.t ⟨stk++[cur],[⟨nx,[ty,tx,fs]⟩,⟨nx+1,[.nils,.nils,.nils]⟩,⟨nx+1+1,[.nils,.nils,.nils]⟩],nx+1+1+1,[]::live,max fl ((stk++[cur]).length+1)⟩
 have hlive: ∃e',pushToks t0 ([]::live)=e'::live:=by cases t0<;>exact⟨_,rfl⟩
 obtain⟨e0,he0⟩:=hlive
 simp only[he0] at hc
 have hzs:=hz.sl h0.max
 obtain⟨z1,k1,e1,ha1,hz1,hm1⟩:=jr (stk:=stk++[cur]) (cur:=[⟨nx,[ty,tx,fs]⟩,⟨nx+1,[.nils,.nils,.nils]⟩,⟨nx+1+1,[.nils,.nils,.nils]⟩]) (nx:=k0) (fl:=max fl ((stk++[cur]).length+1)) (e:=e0) (rest:=live) (bytes:=16) h1 (by have:=hs.x;omega)
 simp only[uT,go_sem,G3,G6,G9,G8,hc,ha1,hzs.one,hz1.one,hzs.refs_cells,hz1.refs_cells,evBuild]
 refine zg (α:=Nat) (fun k σ=>k≤d.funcs.length∧ ∃nz y e,Own IsFunc 7 y (d.funcs.take k) e∧heads [1,2,3,4] 3 σ=⟨tmps 53 [(1,.ptr (stk++[cur]).length 0 nx 0),(2,.ptr (stk++[cur]).length 1 (nx+1) 0),(3,.ptr (stk++[cur]).length 2 (nx+1+1) 0),(4,.int .i64 k)],⟨stk++[cur],[⟨nx,[ty,tx,fs]⟩,⟨nx+1,[.nils,.nils,.nils]⟩,⟨nx+1+1,[z0,z1,y]⟩],nz,e::live,fl⟩⟩) (fun k=>d.funcs.length-k) 0 ?_ ?_
 ·refine⟨w0e _,?_⟩
  simp only[go_sem,G6,G7]
  exact⟨_,_,_,.nil _,rfl⟩
 ·rintro k σ ⟨hk,nz,y,e,ho,hσ⟩
  rw[hσ]
  clear hσ σ
  dsimp only at hk⊢
  by_cases h:k<d.funcs.length
  ·have hsucc:=zq h h2.max
   obtain⟨w0,w1,w2,w3,ef,q0,q1,q2,q3⟩:=h2.nth h
   have hat:=h2.at .i64 h
   have htk:=w0f h
   obtain⟨f0,f1,f2,f3⟩:=hs.f.2 _ (w04 h)
   have hfn:=hs.f.1
   have hkl:(d.funcs.take k).length=k:=by rw[w20];omega
   have o3:=q0.one
   have o4:=q1.one
   have o5:=q2.one
   have o6:=q3.one
   simp only[go_sem,G3,G6,G7,G8,h2.len,w02,h,hat,ef,o3,o4,o5,o6]
   generalize d.funcs[k]=f at*
   obtain⟨v0,n0,e0,a0,p0,m0⟩:=jr (stk:=stk++[cur]) (cur:=[⟨nx,[ty,tx,fs]⟩,⟨nx+1,[.nils,.nils,.nils]⟩,⟨nx+1+1,[z0,z1,y]⟩,⟨nz,[.str f.name,.int .i64 f.params,.int .i64 f.result,w0,w1,w2,w3]⟩]) (nx:=nz+1) (fl:=fl) (e:=e) (rest:=live) (bytes:=24) q0 (by omega)
   simp only[go_sem,G3,G6,G9,G8,a0,p0.one,p0.refs_cells]
   obtain⟨v1,n1,e1,a1,p1,m1⟩:=jr (stk:=stk++[cur]) (cur:=[⟨nx,[ty,tx,fs]⟩,⟨nx+1,[.nils,.nils,.nils]⟩,⟨nx+1+1,[z0,z1,y]⟩,⟨nz,[.str f.name,.int .i64 f.params,.int .i64 f.result,v0,w1,w2,w3]⟩]) (nx:=n0) (fl:=fl) (e:=e0) (rest:=live) (bytes:=32) q1 (by omega)
   simp only[go_sem,G3,G6,G9,G8,a1,p1.one,p1.refs_cells]
   obtain⟨v2,n2,e2,a2,p2,m2⟩:=jr (stk:=stk++[cur]) (cur:=[⟨nx,[ty,tx,fs]⟩,⟨nx+1,[.nils,.nils,.nils]⟩,⟨nx+1+1,[z0,z1,y]⟩,⟨nz,[.str f.name,.int .i64 f.params,.int .i64 f.result,v0,v1,w2,w3]⟩]) (nx:=n1) (fl:=fl) (e:=e1) (rest:=live) (bytes:=16) q2 (by omega)
   simp only[go_sem,G3,G6,G9,G8,a2,p2.one,p2.refs_cells]
   obtain⟨v3,n3,e3,a3,p3,m3⟩:=jr (stk:=stk++[cur]) (cur:=[⟨nx,[ty,tx,fs]⟩,⟨nx+1,[.nils,.nils,.nils]⟩,⟨nx+1+1,[z0,z1,y]⟩,⟨nz,[.str f.name,.int .i64 f.params,.int .i64 f.result,v0,v1,v2,w3]⟩]) (nx:=n2) (fl:=fl) (e:=e2) (rest:=live) (bytes:=16) q3 (by omega)
   simp only[go_sem,G3,G6,G8,a3,p0.one,p1.one,p2.one,p3.one,p3.refs_cells]
   have ho':=((((ho.mono m0).mono m1).mono m2).mono m3)
   refine ho'.xv (cs:=[f]) (zh · 7 .full [.agg [.str f.name,.int .i64 f.params,.int .i64 f.result,v0,v1,v2,v3]]) (show All2 IsFunc [f] [.agg [.str f.name,.int .i64 f.params,.int .i64 f.result,v0,v1,v2,v3]] from⟨⟨v0,v1,v2,v3,rfl,p0,p1,p2,p3⟩,trivial⟩) (by rw[hkl,w29];omega) fun y2 n2 e2 ho2=> ?_
   simp only[go_sem,G3,G6,G8,hsucc,ho2.one,ho2.cells]
   exact⟨k+1,by omega,h,n2,y2,e2,by rw[htk];exact ho2,rfl⟩
  ·have:k=d.funcs.length:=by omega
   subst this
   rw[w0a] at ho
   have hos:=ho.sl h2.max
   simp only[go_sem,G3,G6,G7,G8,h2.len,w02,h,hzs.one,hz1.one,hos.one]
   refine yL (by simp only[AV.refs,refsAny,hzs.refs,hz1.refs,hos.refs];rfl) ?_
   exact⟨_,_,_,rfl,hzs,hz1,hos⟩
end Go.Proofs.W
end
section
namespace Go.Proofs.W
open Go.Vs
attribute [local go_sem high] zm zT
attribute [local go_sem ↓] w06 w0d
attribute [local go_sem low] Yc Yt Yf Yut Yuf yy yz yw yx
attribute [local go_sem 2000] zK
attribute [local go_sem] x6 x5 x9 x8 zR zu y7 zP zW zt yq yn ym hd kep yj w02 AV.bool.injEq AV.int.injEq not_true_eq_false not_false_eq_true true_implies false_implies and_true true_and implies_true zl zI zH zk zJ zw zc z8 zj zB zA zi zC zy zb z9 w07 zD zE zZ w18 evShift IntKind.bits zL zF zG z6 za zQ zx w0c yu yr allLen zd AV.tup.injEq List.cons.injEq AV.agg.injEq zV zU evBuild yo zN zn zM eqC0 eqC1 eqC2 zO w17 w16
attribute [go_sem] xH
def large28 (d:DDump):Bool:=great28 d.heap d.stacks d.routines||gr List.length 420 1000 d.defers||gr List.length 420 1000 d.panics||great09 d.image
structure DumpV (d:DDump) (v0 v1 v2 v3 v4 v5 v6 v7:AV):Prop where
 i:IsImage d.image (.agg [v0,v1,v2])
 h:IsRegion d.heap (.agg [.int .u64 d.heap.base,v3])
 hb:IsBytes d.heap.bytes v3
 s:IsSl IsRegion 2 d.stacks v4
 r:IsSl IsRoutine 6 d.routines v5
 f:IsSl (IsSl (IsK .u64) 1) 1 d.defers v6
 p:IsSl (IsSl (IsK .u64) 1) 1 d.panics v7
 o:v0.one=true∧v1.one=true∧v2.one=true∧v3.one=true∧v4.one=true∧v5.one=true∧v6.one=true∧v7.one=true
abbrev dumpA (d:DDump) (v0 v1 v2 v3 v4 v5 v6 v7:AV):AV:= .agg [v0,v1,v2,.int .u8 d.ended.outcome,.int .i64 d.ended.failing,.int .i64 d.ended.steps,.int .u64 d.heap.base,v3,v4,v5,v6,v7]
theorem IsDump.v {d:DDump} {y:AV} (h:IsDump d y): ∃v0 v1 v2 v3 v4 v5 v6 v7,y=dumpA d v0 v1 v2 v3 v4 v5 v6 v7∧DumpV d v0 v1 v2 v3 v4 v5 v6 v7:=by
 obtain⟨v0,v1,v2,v3,v4,v5,v6,v7,rfl,h0,h1,h2,h3,h4,h5,h6,h7⟩:=h
 exact⟨v0,v1,v2,v3,v4,v5,v6,v7,rfl,⟨_,_,_,rfl,h0,h1,h2⟩,⟨_,rfl,h3⟩,h3,h4,h5,h6,h7,h0.one,h1.one,h2.one,h3.one,h4.one,h5.one,h6.one,h7.one⟩
theorem kp (d:DDump) (y:AV) (hy:IsDump d y) (m:Mem):Okv tab 15 [y] m (.bool (large28 d)):=by
 obtain⟨v0,v1,v2,v3,v4,v5,v6,v7,rfl,h⟩:=IsDump.v hy
 have f:=nd (fun m=>(QK _ _ _ _ _ _ h.h h.s h.r m).eq) (nd (fun m=>(XC _ _ h.f m).eq) (nd (fun m=>(XC _ _ h.p m).eq) fun m=>(Y6 _ _ h.i m).eq))
 refine okz (tT xH) fun s c x v g _=> ?_
 repeat' first|refine ifs ?_ ?_|intro
 all_goals clear f;grind [large28]
end Go.Proofs.W
end
section
namespace Go.Proofs.W
open Go.Vs
theorem z8b {x:DInstr} (h:InstrP x):x.op=1∨x.op=2∨x.op=3∨x.op=4∨x.op=5∨x.op=6∨x.op=7∨x.op=8∨x.op=9∨x.op=10∨x.op=11∨x.op=12∨x.op=13∨x.op=14∨x.op=15∨x.op=16∨x.op=17∨x.op=18∨x.op=19∨x.op=20∨x.op=21∨x.op=22∨x.op=23∨x.op=24∨x.op=25∨x.op=26∨x.op=27∨x.op=28∨x.op=29∨x.op=30∨x.op=31∨x.op=32∨x.op=33∨x.op=34:=by
 obtain⟨a,b,c,hs,_⟩:=h
 by_cases hq:1≤x.op∧x.op≤34
 ·omega
 ·exfalso
  unfold shp at hs
  repeat rw[if_neg (by omega)] at hs
  cases hs
def typP (d:DImage) (f:DFunc) (x:DInstr):Bool:=if x.op=1∨x.op=32 then([slotT f x.a].all fun t=>isT d t [2]) else if x.op=2 then(isT d (slotT f x.a) [3]) else if x.op=3∨x.op=23 then(isT d (slotT f x.a) [1]) else if x.op=5 then(slotT f x.a==slotT f x.b) else if x.op=6∨x.op=7∨x.op=8∨x.op=9 then([slotT f x.a,slotT f x.b,slotT f x.c].all fun t=>isT d t [2]) else if x.op=10 then(isT d (slotT f x.a) [1]&&[slotT f x.b,slotT f x.c].all fun t=>isT d t [2]) else if x.op=11 then((isT d (slotT f x.a) [1]&&(slotT f x.b==slotT f x.c))&&isT d (slotT f x.b) [2,1,4]) else if x.op=12 then(isT d (slotT f x.a) [1]&&isT d (slotT f x.b) [1]) else if x.op=13 then(memB d (slotT f x.b) x.c (slotT f x.a)) else if x.op=14 then(memB d (slotT f x.a) x.b (slotT f x.c)) else if x.op=15 then(isT d (slotT f x.a) [4]) else if x.op=16 then(isT d (slotT f x.b) [4]&&decide ((tyA d.types (slotT f x.b)).elem=slotT f x.a)) else if x.op=17 then(isT d (slotT f x.a) [4]&&decide ((tyA d.types (slotT f x.a)).elem=slotT f x.b)) else if x.op=18 then(isT d (slotT f x.a) [7]&&[slotT f x.b].all fun t=>isT d t [2]) else if x.op=19 then((isT d (slotT f x.b) [7,6]&&decide ((tyA d.types (slotT f x.b)).elem=slotT f x.a))&&[slotT f x.c].all fun t=>isT d t [2]) else if x.op=20 then((isT d (slotT f x.a) [7,6]&&decide ((tyA d.types (slotT f x.a)).elem=slotT f x.c))&&[slotT f x.b].all fun t=>isT d t [2]) else if x.op=21 then(([slotT f x.a].all fun t=>isT d t [2])&&isT d (slotT f x.b) [3,7,6]) else if x.op=25 then(decide (x.a<0)||((fnA d.funcs x.b.toNat).result==slotT f x.a)) else if x.op=26∨x.op=27 then(laterB d (fnA d.funcs x.a.toNat)) else if x.op=28 then(isT d (slotT f x.a) [2,1,3]) else if x.op=29∨x.op=33 then(isT d (slotT f x.a) [1]&&[slotT f x.b].all fun t=>isT d t [2]) else if x.op=34 then(decide (x.a<0)||(f.result==slotT f x.a)) else true
def typR (d:DImage) (f:DFunc) (x:DInstr):Bool:=if x.op=1∨x.op=32 then(kindI d.types (slotT f x.a)==2) else if x.op=2 then(kindI d.types (slotT f x.a)==3) else if x.op=3∨x.op=23 then(kindI d.types (slotT f x.a)==1) else if x.op=5 then(slotT f x.a==slotT f x.b) else if x.op=6∨x.op=7∨x.op=8∨x.op=9 then((kindI d.types (slotT f x.a)==2&&kindI d.types (slotT f x.b)==2)&&kindI d.types (slotT f x.c)==2) else if x.op=10 then((kindI d.types (slotT f x.a)==1&&kindI d.types (slotT f x.b)==2)&&kindI d.types (slotT f x.c)==2) else if x.op=11 then((kindI d.types (slotT f x.a)==1&&slotT f x.b==slotT f x.c)&&decide ((tyA d.types (slotT f x.b)).kind∈[1,2,4])) else if x.op=12 then(kindI d.types (slotT f x.a)==1&&kindI d.types (slotT f x.b)==1) else if x.op=13 then(memT d (slotT f x.b) x.c==slotT f x.a) else if x.op=14 then(memT d (slotT f x.a) x.b==slotT f x.c) else if x.op=15 then(kindI d.types (slotT f x.a)==4) else if x.op=16 then(ofT d (slotT f x.b) 4 4==slotT f x.a) else if x.op=17 then(ofT d (slotT f x.a) 4 4==slotT f x.b) else if x.op=18 then(kindI d.types (slotT f x.a)==7&&kindI d.types (slotT f x.b)==2) else if x.op=19 then(ofT d (slotT f x.b) 7 6==slotT f x.a&&kindI d.types (slotT f x.c)==2) else if x.op=20 then(ofT d (slotT f x.a) 7 6==slotT f x.c&&kindI d.types (slotT f x.b)==2) else if x.op=21 then(kindI d.types (slotT f x.a)==2&&((kindI d.types (slotT f x.b)==3||kindI d.types (slotT f x.b)==7)||kindI d.types (slotT f x.b)==6)) else if x.op=25 then(x.a== -1||((fnA d.funcs x.b.toNat).result==slotT f x.a)) else if x.op=26∨x.op=27 then(laterB d (fnA d.funcs x.a.toNat)) else if x.op=28 then((kindI d.types (slotT f x.a)==2||kindI d.types (slotT f x.a)==1)||kindI d.types (slotT f x.a)==3) else if x.op=29∨x.op=33 then(kindI d.types (slotT f x.a)==1&&kindI d.types (slotT f x.b)==2) else if x.op=34 then(x.a== -1||(f.result==slotT f x.a)) else true
theorem isI1 (a:Int) (tk:Tok):IsSl IsI 1 [a] (.list 1 tk [.int .i64 a]):= .mk ⟨rfl,trivial⟩ (by simp)
theorem isI2 (a b:Int) (tk:Tok):IsSl IsI 1 [a,b] (.list 1 tk [.int .i64 a,.int .i64 b]):= .mk ⟨rfl,rfl,trivial⟩ (by simp)
theorem isI3 (a b c:Int) (tk:Tok):IsSl IsI 1 [a,b,c] (.list 1 tk [.int .i64 a,.int .i64 b,.int .i64 c]):= .mk ⟨rfl,rfl,rfl,trivial⟩ (by simp)
structure ImgP (d:DImage):Prop where
 s: ∀g∈d.funcs,SlotsP d g∧g.params≤g.slots.length∧0≤g.params∧ -1≤g.result
theorem ImgP.at {d:DImage} (h:ImgP d) {k:Nat} (hk:k<d.funcs.length):SlotsP d (fnA d.funcs k)∧(fnA d.funcs k).params≤(fnA d.funcs k).slots.length∧0≤(fnA d.funcs k).params∧ -1≤(fnA d.funcs k).result:=by
 rw[←V5 hk];exact h.s _ (w04 hk)
theorem WI {d:DImage} {f:DFunc} {x:DInstr} (hx:InstrP x) (hw:WfI x) (hN:NearP d f x) (hs:SlotsP d f) {k:Nat} (hk:k<3) (hl:sk x k=119∨sk x k=114):0≤slotT f (opn x k):=by
 obtain⟨a,b,c,hsh,hh⟩:=hx
 have hx:InstrP x:=⟨a,b,c,hsh,hh⟩
 have hfit:=(jC hsh hx hw hk).2.1
 have h0:0≤opn x k:=by
  unfold fitsK at hfit
  rcases hl with e|e<;>rw[e] at hfit
  ·have:lo 119=0:=by decide
   omega
  ·have:lo 114=0:=by decide
   omega
 have hmem:opn x k∈rds x++wrs x:=by
  rw[w0b]
  rcases hl with e|e
  ·right
   unfold wrs wrsk
   simp only[w42,List.mem_filter,w4d,w09,decide_eq_true_eq]
   exact⟨k,⟨hk,by rw[e];rfl,h0⟩,rfl⟩
  ·left
   unfold rds rdsk
   simp only[w42,List.mem_filter,w4d,w09,decide_eq_true_eq]
   exact⟨k,⟨hk,by rw[e];rfl,h0⟩,rfl⟩
 have hlt:=hN.1 _ hmem
 unfold slotT
 rw[if_pos ⟨h0,hlt⟩]
 obtain⟨j,hj⟩: ∃j:Nat,opn x k=j:=⟨(opn x k).toNat,by omega⟩
 have hj':j<f.slots.length:=by omega
 rw[hj,V8 hj']
 exact(hs _ (w04 hj')).1
theorem z8S {d:DImage} {f:DFunc} {x:DInstr} (hx:InstrP x) (hN:NearP d f x) (h:x.op=25):0≤x.b∧x.b<d.funcs.length:=by
 have h2:=hN.2.1
 unfold called at h2
 rw[if_pos h] at h2
 refine⟨?_,h2⟩
 obtain⟨a,b,c,hs,f1,f2,f3⟩:=hx
 rw[h] at hs
 have:shp 25=[103,99,45]:=by decide
 rw[this] at hs
 injection hs with _ hs
 injection hs with hs _
 subst hs
 have:lo 99=0:=by decide
 unfold fitsK at f2;omega
theorem z8T {d:DImage} {f:DFunc} {x:DInstr} (hx:InstrP x) (hN:NearP d f x) (h:x.op=26∨x.op=27):0≤x.a∧x.a<d.funcs.length:=by
 have h2:=hN.2.1
 unfold called at h2
 rw[if_neg (by omega),if_pos h] at h2
 refine⟨?_,h2⟩
 obtain⟨a,b,c,hs,f1,f2,f3⟩:=hx
 have:shp x.op=[99,45,45]:=by rcases h with h|h<;>rw[h]<;>decide
 rw[this] at hs
 injection hs with hs _
 subst hs
 have:lo 99=0:=by decide
 unfold fitsK at f1;omega
theorem _root_.Go.Vs.IsSl.fromN {α:Type} {R:α→AV→Prop} {s:Nat} {xs:List α} {y:AV} (h:IsSl R s xs y) {n:Nat} (hn:n≤xs.length): ∃y',evSlice s y (some (.int .i64 (n:Nat))) none none=some y'∧IsSl R s (xs.drop n) y':=by
 rcases h with⟨hm,⟨rfl,rfl⟩|⟨tk,ys,rfl,h⟩⟩
 ·have:n=0:=by simpa using hn
  subst this
  exact⟨.nils,by simp[evSlice,bound],.nil s⟩
 ·have hl:=h.len
  have hb:bound (some (.int .i64 (n:Int))) ys.length 0=some n:=by
   unfold bound;simp only;rw[if_pos (by omega)];simp
  have e:evSlice s (.list s tk ys) (some (.int .i64 (n:Int))) none none=some (.list s (if ys.length==ys.length&&(n==0||decide (n<ys.length)) then tk else .none) ((ys.take ys.length).drop n)):=by
   unfold evSlice
   simp only[beq_self_eq_true,if_true]
   rw[show bound none ys.length ys.length=some ys.length from rfl,w36,hb]
   simp
  refine⟨_,e,?_⟩
  rw[w0a]
  exact .mk (h.drop n) (by rw[w47];omega)
theorem _root_.Go.Vs.IsSl.toN {α:Type} {R:α→AV→Prop} {s:Nat} {xs:List α} {y:AV} (h:IsSl R s xs y) {n:Nat} (hn:n≤xs.length): ∃y',evSlice s y none (some (.int .i64 (n:Nat))) none=some y'∧IsSl R s (xs.take n) y':=by
 rcases h with⟨hm,⟨rfl,rfl⟩|⟨tk,ys,rfl,h⟩⟩
 ·have:n=0:=by simpa using hn
  subst this
  exact⟨.nils,by simp[evSlice,bound],.nil s⟩
 ·have hl:=h.len
  have hb:bound (some (.int .i64 (n:Int))) ys.length ys.length=some n:=by
   unfold bound;simp only;rw[if_pos (by omega)];simp
  have e: ∃tk',evSlice s (.list s tk ys) none (some (.int .i64 (n:Int))) none=some (.list s tk' ((ys.take n).drop 0)):=by
   unfold evSlice
   simp only[beq_self_eq_true,if_true]
   rw[hb,w36,show bound none n 0=some 0 from rfl]
   simp
  obtain⟨tk',e⟩:=e
  refine⟨_,e,?_⟩
  rw[w19]
  exact .mk (h.take n) (by rw[w20];omega)
theorem z3Y (m:Mem):Okv tab 379 [.nils] m .nils:=by
 refine zp (tT yZ) ?_
 obtain⟨stk,cur,nx,live,fl⟩:=m
 have hsl:evSlice 1 .nils none (some (.int .i64 0)) (some (.int .i64 0))=some .nils:=rfl
 simp only[yZ,go_sem,G6,G8,evLen,hsl]
 rw[z4 rfl rfl,z5]
 simp
theorem z2i (tk:Tok) (ys:List AV) (m:Mem):Okv tab 379 [.list 1 tk ys] m (.list 1 .full ys):=by
 refine zp (tT yZ) ?_
 obtain⟨stk,cur,nx,live,fl⟩:=m
 have hb: ∀d,bound (some (.int .i64 (ys.length:Int))) ys.length d=some ys.length:=fun d=>by
  unfold bound;simp only;rw[if_pos (by omega)];simp
 have hb0:bound (none:Option AV) ys.length 0=some 0:=rfl
 simp only[yZ,go_sem,G6,G8,evLen,evSlice,hb,hb0,w0a]
 rw[z4 rfl rfl,z5]
 simp
theorem z8X {S:List (List Blk)} {C:List Blk} {nx fl:Nat} {live:List (List Nat)} {v:AV}:evApp ⟨S,C,nx,live,fl⟩ 1 8 .nils (.list 1 .full [v])=some (.list 1 (.id nx) [v],⟨S,C,nx+1,addTok nx live,fl⟩):=by
 rfl
theorem z7g {S:List (List Blk)} {C:List Blk} {nx fl:Nat} {live:List (List Nat)} {ys:List AV} {v:AV} (h:ys.length≤100000):evApp ⟨S,C,nx,live,fl⟩ 1 8 (.list 1 .full ys) (.list 1 .full [v])=some (.list 1 (.id nx) (ys++[v]),⟨S,C,nx+1,addTok nx live,fl⟩):=by
 unfold evApp;rw[zh]
 grind
def parT (g:DFunc):List Int:=(List.range g.params.toNat).map fun i=>(fdA g.slots (i:Nat)).typ
theorem TN (g:DFunc):(parT g).length=g.params.toNat:=by simp[parT]
theorem z2x {g:DFunc} {i:Nat} (h:i<(parT g).length):(parT g)[i]=(fdA g.slots (i:Nat)).typ:=by simp[parT]
def pops (d:DImage) (x:DInstr) (l:List Int):Option (List Int):=
 if 0≤called x then(if(parT (fnA d.funcs (called x).toNat)).length≤l.length∧l.drop (l.length-(parT (fnA d.funcs (called x).toNat)).length)=parT (fnA d.funcs (called x).toNat) then some (l.take (l.length-(parT (fnA d.funcs (called x).toNat)).length)) else none) else some l
def stS (d:DImage) (f:DFunc) (x:DInstr) (l:List Int):Option (List Int):=
 (pops d x (if x.op=24 then l++[slotT f x.a] else l)).bind fun l2=>if sumB d.types l2≤4096 then some l2 else none
theorem z7Q {d:DImage} {f:DFunc} {x:DInstr} {l l':List Int} (hx:InstrP x) (hw:WfI x) (hN:NearP d f x) (hs:SlotsP d f) (hl:InT d.types l) (h:stS d f x l=some l'):InT d.types l'∧l'.length≤l.length+1:=by
 have h1:InT d.types (if x.op=24 then l++[slotT f x.a] else l)∧(if x.op=24 then l++[slotT f x.a] else l).length≤l.length+1:=by
  split
  ·rename_i e
   refine⟨fun t ht=> ?_,by simp⟩
   rcases w0b.1 ht with q|q
   ·exact hl t q
   ·rw[w1c.1 q]
    have:=WI hx hw hN hs (k:=0) (by omega) (by right;show(shp x.op).getD 0 45=114;rw[e];rfl)
    exact⟨this,Yw hs _⟩
  ·grind
 unfold stS at h
 rw[w05] at h
 generalize (if x.op=24 then l++[slotT f x.a] else l)=l1 at*
 obtain⟨l2,h2,h3⟩:=h
 split at h3
 ·injection h3 with h3;subst h3
  unfold pops at h2
  split at h2
  ·split at h2
   ·injection h2 with h2;subst h2
    exact⟨fun t ht=>h1.1 t (w3d ht),by rw[w20];omega⟩
   ·cases h2
  ·grind
 ·cases h3
theorem VZ {x:DInstr} (h:x.op=24):called x= -1:=by unfold called;rw[if_neg (by omega),if_neg (by omega)]
theorem zaY (d:DImage) (hd:ImgP d) (hT:TypP d.types) (f:DFunc) (y:AV) (hy:NV d f y) (hs:SlotsP d f) (x:DInstr) (hx:InstrP x) (hw:WfI x) (hN:NearP d f x) (l:List Int) (z:AV) (hz:IsSl IsI 1 l z) (hin:InT d.types l) (hlen:l.length≤1000) (m:Mem):
  OkT tab 350 [y,.agg [.int .u8 x.op,.int .i64 x.a,.int .i64 x.b,.int .i64 x.c],z] m (fun r _ _=> ∃q,r= .tup [q,.bool (stS d f x l).isSome]∧ ∀l',stS d f x l=some l'→IsSl IsI 1 l' q):=by
 have hy':=hy
 obtain⟨ty,tx,fs,w0,w1,w2,w3,rfl,h0,h1,h2,h3,h4,h5,h6⟩:=hy
 refine Zs (tT yM) ?_
 obtain⟨stk,cur,nx,live,fl⟩:=m
 have hS:=fun s m=>(z7q d f _ hy' s m).eq
 have hCa:=fun m=>(Yo x m).eq
 by_cases h24:x.op=24
 ·have e24:(x.op==24)=true:=by simpa using h24
  have hcl:=VZ h24
  have hst:stS d f x l=if sumB d.types (l++[slotT f x.a])≤4096 then some (l++[slotT f x.a]) else none:=by
   unfold stS pops
   grind
  have hin2:InT d.types (l++[slotT f x.a]):=by
   intro t ht
   rcases w0b.1 ht with q|q
   ·exact hin t q
   ·rw[w1c.1 q]
    have:=WI hx hw hN hs (k:=0) (by omega) (by right;show(shp x.op).getD 0 45=114;rw[h24];rfl)
    exact⟨this,Yw hs _⟩
  rw[hcl] at hCa
  have fin: ∀(q:AV),IsSl IsI 1 (l++[slotT f x.a]) q→ ∃q',(AV.tup [q,.bool (decide (((sumB d.types (l++[slotT f x.a]):Nat):Int)≤4096))])= .tup [q',.bool (stS d f x l).isSome]∧ ∀l',stS d f x l=some l'→IsSl IsI 1 l' q':=fun q hq=>by
   rw[hst]
   by_cases hle:sumB d.types (l++[slotT f x.a])≤4096
   ·rw[if_pos hle,decide_eq_true (by omega)]
    simp_all
   ·rw[if_neg hle,decide_eq_false (by omega)]
    simp
  rcases hz with⟨hzm,⟨rfl,rfl⟩|⟨tk,ys,rfl,hys⟩⟩
  ·have hq:IsSl IsI 1 ([]++[slotT f x.a]) (.list 1 (.id (callNx tab 341 [.agg [ty,tx,fs,.str f.name,.int .i64 f.params,.int .i64 f.result,w0,w1,w2,w3],.int .i64 x.a] ⟨stk++[cur],[⟨nx,[ty,tx,fs,.str f.name,.int .i64 f.params,.int .i64 f.result,w0,w1,w2,w3]⟩,⟨nx+1,[.int .u8 x.op,.int .i64 x.a,.int .i64 x.b,.int .i64 x.c]⟩],callNx tab 379 [.nils] ⟨stk++[cur],[⟨nx,[ty,tx,fs,.str f.name,.int .i64 f.params,.int .i64 f.result,w0,w1,w2,w3]⟩,⟨nx+1,[.int .u8 x.op,.int .i64 x.a,.int .i64 x.b,.int .i64 x.c]⟩],nx+1+1,[]::live,max fl ((stk++[cur]).length+1)⟩,[]::live,max fl ((stk++[cur]).length+1)⟩)) [.int .i64 (slotT f x.a)]):= .mk ⟨rfl,trivial⟩ (by simp)
   simp only[yM,go_sem,G3,G6,G8,e24,(z3Y _).eq,hS,z8X,hCa,show((-1:Int)≥0)=False from eq_false (by decide)]
   generalize callNx tab 341 _ _=k1 at*
   simp only[go_sem,G6,G8,(WB d hT f _ hy' _ _ hq hin2 (by simp) _).eq,show((0:Int)==0)=true from rfl]
   exact yL rfl (fin _ hq)
  ·have hyl:=hys.len
   have hq: ∀k1,IsSl IsI 1 (l++[slotT f x.a]) (.list 1 (.id k1) (ys++[.int .i64 (slotT f x.a)])):=fun k1=> .mk (hys.append (ys':=[.int .i64 (slotT f x.a)]) ⟨rfl,trivial⟩) (by simp;omega)
   simp only[yM,go_sem,G3,G6,G8,e24,(z2i _ _ _).eq,hS,z7g (ys:=ys) (by omega),hCa,show((-1:Int)≥0)=False from eq_false (by decide)]
   generalize callNx tab 341 _ _=k1 at*
   simp only[go_sem,G6,G8,(WB d hT f _ hy' _ _ (hq _) hin2 (by simp;omega) _).eq,show((0:Int)==0)=true from rfl]
   exact yL rfl (fin _ (hq _))
 have e24:(x.op==24)=false:=by simpa using h24
 by_cases hcl:0≤called x
 ·obtain⟨g,hg⟩: ∃g:Nat,called x=g:=⟨(called x).toNat,by omega⟩
  have hgl:g<d.funcs.length:=by have:=hN.2.1;omega
  obtain⟨v0,v1,v2,v3,ef,q0,q1,q2,q3⟩:=h2.fnA hgl
  have hat:=h2.at .i64 hgl
  obtain⟨g1,g2,g3,g4⟩:=hd.at hgl
  have hst:stS d f x l=if(parT (fnA d.funcs g)).length≤l.length∧l.drop (l.length-(parT (fnA d.funcs g)).length)=parT (fnA d.funcs g) then(if sumB d.types (l.take (l.length-(parT (fnA d.funcs g)).length))≤4096 then some (l.take (l.length-(parT (fnA d.funcs g)).length)) else none) else none:=by
   unfold stS pops
   rw[if_neg h24,if_pos hcl,hg,w07]
   split<;>rfl
  have hpl:=TN (fnA d.funcs g)
  have hpg:=fun i h=>z2x (g:=fnA d.funcs g) (i:=i) h
  rw[hg] at hCa
  generalize fnA d.funcs g=F at*
  generalize hP:parT F=P at*
  have hsub:IntKind.i64.wrap ((l.length:Int)-F.params)=(l.length:Int)-P.length:=by
   have:=q0.max
   rw[z6 (by omega) (by omega)];omega
  simp only[yM,go_sem,G3,G6,G8,e24,hCa,show((g:Int)≥0)=True from eq_true (by omega),hat,ef,q0.one,q1.one,q2.one,q3.one,hz.len,hsub]
  by_cases hle:P.length≤l.length
  ·have hsub2:((l.length:Int)-P.length)=((l.length-P.length:Nat):Int):=by omega
   obtain⟨z1,hz1,hzs1⟩:=hz.fromN (n:=l.length-P.length) (by omega)
   obtain⟨z2,hz2,hzs2⟩:=hz.toN (n:=l.length-P.length) (by omega)
   have hdl:(l.drop (l.length-P.length)).length=P.length:=by rw[w47];omega
   simp only[go_sem,G3,G6,G8,hsub2,show¬(((l.length-P.length:Nat):Int)<0) by omega,hz1,hzs1.len,hdl]
   generalize callNx tab 339 _ _=k0
   refine zg (α:=Nat) (fun k σ=>(k≤P.length∧ ∀j,j<k→(l.drop (l.length-P.length))[j]? =P[j]?)∧ ∃nz,heads [2,3,9,10,45,46,47] 3 σ=⟨tmps 77 [(2,z),(3,.ptr (stk++[cur]).length 0 nx 0),(9,.ptr (stk++[cur]).length 2 k0 0),(10,.int .i64 (l.length-P.length:Nat)),(45,z1),(46,.int .i64 P.length),(47,.int .i64 k)],⟨stk++[cur],[⟨nx,[ty,tx,fs,.str f.name,.int .i64 f.params,.int .i64 f.result,w0,w1,w2,w3]⟩,⟨nx+1,[.int .u8 x.op,.int .i64 x.a,.int .i64 x.b,.int .i64 x.c]⟩,⟨k0,[.str F.name,.int .i64 F.params,.int .i64 F.result,v0,v1,v2,v3]⟩],nz,[]::live,fl⟩⟩) (fun k=>P.length-k) 0 ?_ ?_
   ·refine⟨⟨w0e _,fun j h=>absurd h (w34 _)⟩,?_⟩
    simp only[go_sem,G6,G7]
    simp
   ·rintro k σ ⟨⟨hk,ht⟩,nz,hσ⟩
    rw[hσ]
    clear hσ σ
    dsimp only at hk ht⊢
    by_cases h:k<P.length
    ·have hkd:k<(l.drop (l.length-P.length)).length:=by omega
     have e1:nth z1 k= .int .i64 (l.drop (l.length-P.length))[k]:=hzs1.nth hkd
     have hsucc:IntKind.i64.wrap ((k:Int)+1)=((k+1:Nat):Int):=by rw[z6 (by omega) (by omega)];omega
     have hks:k<F.slots.length:=by omega
     have hgp:=hpg k h
     by_cases hq:(fdA F.slots (k:Nat)).typ=(l.drop (l.length-P.length))[k]
     ·have hqb:((fdA F.slots (k:Nat)).typ !=(l.drop (l.length-P.length))[k])=false:=by simpa using hq
      simp only[go_sem,G6,G7,G8,w02,h,hzs1.at .i64 hkd,e1,q0.at .i64 hks,q0.fdA hks,hqb,hsucc]
      refine⟨k+1,by omega,⟨h,fun j hj=> ?_⟩,_,rfl⟩
      grind
     ·have hqb:((fdA F.slots (k:Nat)).typ !=(l.drop (l.length-P.length))[k])=true:=by simpa using hq
      simp only[go_sem,G6,G7,G8,w02,h,hzs1.at .i64 hkd,e1,q0.at .i64 hks,q0.fdA hks,hqb]
      have hno:stS d f x l=none:=by
       grind
      refine yL rfl ⟨.nils,by rw[hno];rfl,fun l' h=>by rw[hno] at h;cases h⟩
    ·have hke:k=P.length:=by omega
     subst hke
     have heq:l.drop (l.length-P.length)=P:=by
      apply w27
      grind
     have hin2:InT d.types (l.take (l.length-P.length)):=fun t ht=>hin t (w3d ht)
     have hB:=fun m=>(WB d hT f _ hy' _ _ hzs2 hin2 (by rw[w20];omega) m).eq
     simp only[go_sem,G3,G6,G7,G8,w02,h,hz2,hB,show((0:Int)==0)=true from rfl]
     rw[if_pos ⟨hle,heq⟩] at hst
     refine yL (by simp only[AV.refs,refsAny,hzs2.refs];rfl) ?_
     rw[hst]
     by_cases hle2:sumB d.types (l.take (l.length-P.length))≤4096
     ·rw[if_pos hle2,decide_eq_true (by omega)]
      simp_all
     ·rw[if_neg hle2,decide_eq_false (by omega)]
      simp
  ·have hno:stS d f x l=none:=by rw[hst,if_neg fun q=>hle q.1]
   simp only[go_sem,G6,G8,show(((l.length:Int)-P.length)<0)=True from eq_true (by omega)]
   refine yL rfl ⟨.nils,by rw[hno];rfl,fun l' h=>by rw[hno] at h;cases h⟩
 ·have hst:stS d f x l=if sumB d.types l≤4096 then some l else none:=by
   unfold stS pops
   grind
  have hB:=fun m=>(WB d hT f _ hy' _ _ hz hin (by omega) m).eq
  simp only[yM,go_sem,G3,G6,G8,e24,hCa,show¬(called x≥0) by omega,hB,show((0:Int)==0)=true from rfl]
  refine yL (by simp only[AV.refs,refsAny,hz.refs];rfl) ?_
  rw[hst]
  by_cases hle2:sumB d.types l≤4096
  ·rw[if_pos hle2,decide_eq_true (by omega)]
   simp_all
  ·rw[if_neg hle2,decide_eq_false (by omega)]
   simp
def takeT (d:DImage) (x:DInstr):List Int:=if 0≤called x then parT (fnA d.funcs (called x).toNat) else []
def pushT (f:DFunc) (x:DInstr):Int:=if x.op=24 then slotT f x.a else-1
theorem zbc {d:DImage} {f:DFunc} {x:DInstr} {l:List Int} (hp:x.op=24→0≤slotT f x.a):stS d f x l=
  if(takeT d x).length≤l.length∧l.drop (l.length-(takeT d x).length)=takeT d x then(if sumB d.types (l.take (l.length-(takeT d x).length)++(if 0≤pushT f x then [pushT f x] else []))≤4096 then some (l.take (l.length-(takeT d x).length)++(if 0≤pushT f x then [pushT f x] else [])) else none) else none:=by
 unfold stS pops takeT pushT
 by_cases h24:x.op=24
 ·have hcl:=VZ h24
  simp_all
 ·rw[if_neg h24,if_neg h24]
  simp only[show¬(0:Int)≤ -1 by omega,if_false,w21]
  by_cases hcl:0≤called x
  ·grind
  ·simp only[hcl,if_false,w46,Nat.sub_zero,w0e,true_and,List.drop_length,if_true,w0a]
   rfl
theorem z7C (d:DImage) (hd:ImgP d) (hsl: ∀k,k<d.funcs.length→(fnA d.funcs k).slots.length≤1000) (y:AV) (hy:IsImage d y) (g:Nat) (hg:g<d.funcs.length) (x:DInstr) (hN:NearP d (fnA d.funcs g) x) (m:Mem):
  OkT tab 398 [y,.int .i64 g,.agg [.int .u8 x.op,.int .i64 x.a,.int .i64 x.b,.int .i64 x.c]] m (fun r ts _=> ∃q,r= .tup [q,.int .i64 (pushT (fnA d.funcs g) x)]∧Own IsI 1 q (takeT d x) ts):=by
 have hy':=hy
 obtain⟨ty,tx,fs,rfl,h0,h1,h2⟩:=hy
 refine Zs (tT yU) ?_
 obtain⟨stk,cur,nx,live,fl⟩:=m
 have hS:=fun s m=>(z5d d _ hy' g hg s m).eq
 have hCa:=fun m=>(tR x m).eq
 generalize fnA d.funcs g=f at*
 by_cases h24:x.op=24
 ·have e24:(x.op==24)=true:=by simpa using h24
  simp only[yU,go_sem,G3,G6,G8,e24,hS]
  refine yL rfl ⟨.nils,by unfold pushT;rw[if_pos h24],?_⟩
  unfold takeT
  rw[VZ h24,if_neg (by omega)]
  exact .nil _
 have e24:(x.op==24)=false:=by simpa using h24
 have hpu:pushT f x= -1:=by unfold pushT;rw[if_neg h24]
 by_cases hcl:0≤called x
 ·obtain⟨k,hk⟩: ∃k:Nat,called x=k:=⟨(called x).toNat,by omega⟩
  have hkl:k<d.funcs.length:=by have:=hN.2.1;omega
  obtain⟨v0,v1,v2,v3,ef,q0,q1,q2,q3⟩:=h2.fnA hkl
  have hat:=h2.at .i64 hkl
  obtain⟨g1,g2,g3,g4⟩:=hd.at hkl
  have g5:=hsl k hkl
  have hta:takeT d x=parT (fnA d.funcs k):=by unfold takeT;rw[if_pos hcl,hk,w07]
  rw[hta]
  rw[hk] at hCa
  generalize fnA d.funcs k=F at*
  have hpl:=TN F
  have hpg:=fun i h=>z2x (g:=F) (i:=i) h
  have hmx:=q0.max
  generalize hP:parT F=P at*
  simp only[yU,go_sem,G3,G6,G8,e24,hCa,show((k:Int)≥0)=True from eq_true (by omega)]
  refine zg (α:=Nat) (fun i σ=>i≤P.length∧ ∃nz q e,Own IsI 1 q (P.take i) e∧heads [3,8,9,10] 2 σ=⟨tmps 47 [(3,.ptr (stk++[cur]).length 0 nx 0),(8,q),(9,.int .i64 k),(10,.int .i64 i)],⟨stk++[cur],[⟨nx,[ty,tx,fs]⟩,⟨nx+1,[.int .u8 x.op,.int .i64 x.a,.int .i64 x.b,.int .i64 x.c]⟩],nz,e::live,fl⟩⟩) (fun i=>P.length-i) 0 ?_ ?_
  ·refine⟨w0e _,?_⟩
   simp only[go_sem,G6,G7]
   exact⟨_,_,[],by simpa using Own.nil (R:=IsI) (s:=1) [],rfl⟩
  ·rintro i σ ⟨hi,nz,q,e,ho,hσ⟩
   rw[hσ]
   clear hσ σ
   dsimp only at hi⊢
   by_cases h:i<P.length
   ·have hsucc:IntKind.i64.wrap ((i:Int)+1)=((i+1:Nat):Int):=by rw[z6 (by omega) (by omega)];omega
    have hks:i<F.slots.length:=by omega
    simp only[go_sem,G6,G7,G8,hat,ef,show((i:Int)<F.params)=True from eq_true (by omega),q0.at .i64 hks,q0.fdA hks]
    refine ho.xv (zh · 1 .full [.int .i64 (fdA F.slots (i:Nat)).typ]) (ZN _) (by rw[w20];simp;omega) fun q' n' e' ho'=> ?_
    simp only[go_sem,G6,G8,hsucc]
    refine⟨i+1,by omega,h,_,q',e',?_,rfl⟩
    rw[w0f h,hpg i h];exact ho'
   ·have hie:i=P.length:=by omega
    subst hie
    rw[w0a] at ho
    simp only[go_sem,G6,G7,G8,hat,ef,show(((P.length:Nat):Int)<F.params)=False from eq_false (by omega)]
    refine yL (by simp only[AV.refs,refsAny,ho.refs];rfl) ⟨q,by rw[hpu],?_⟩
    have:=ho.filter
    simp only[AV.toks,toksAll,w21]
    exact this
 ·simp only[yU,go_sem,G3,G6,G8,e24,hCa,show¬(called x≥0) by omega]
  refine yL rfl ⟨.nils,by rw[hpu],?_⟩
  unfold takeT
  rw[if_neg hcl]
  exact .nil _
theorem z9u (d:DImage) (hd:ImgP d) (hsl: ∀k,k<d.funcs.length→(fnA d.funcs k).slots.length≤1000) (hT:TypP d.types) (y:AV) (hy:IsImage d y) (g:Nat) (hg:g<d.funcs.length) (x:DInstr) (hx:InstrP x) (hw:WfI x) (hN:NearP d (fnA d.funcs g) x) (l:List Int) (z:AV) (hz:IsSl IsI 1 l z) (hin:InT d.types l) (hlen:l.length≤1000) (m:Mem) (hf:m.floor≤m.stk.length+1):
  OkT tab 383 [y,.int .i64 g,.agg [.int .u8 x.op,.int .i64 x.a,.int .i64 x.b,.int .i64 x.c],z] m (fun r _ _=> ∃q,r= .tup [q,.bool (stS d (fnA d.funcs g) x l).isSome]∧ ∀l',stS d (fnA d.funcs g) x l=some l'→IsSl IsI 1 l' q):=by
 have hy':=hy
 have hs:=(hd.at hg).1
 have hp24:x.op=24→0≤slotT (fnA d.funcs g) x.a:=fun e=>WI hx hw hN hs (k:=0) (by omega) (by right;show(shp x.op).getD 0 45=114;rw[e];rfl)
 have hst:=zbc (d:=d) (f:=fnA d.funcs g) (x:=x) (l:=l) hp24
 have hstin:=fun l' h=>z7Q (l':=l') hx hw hN hs hin h
 obtain⟨ty,tx,fs,rfl,h0,h1,h2⟩:=hy
 refine Zs (tT u4) ?_
 obtain⟨stk,cur,nx,live,fl⟩:=m
 dsimp only at hf
 have hf':fl≤(stk++[cur]).length+1:=by simp;omega
 have hpt:0≤pushT (fnA d.funcs g) x→pushT (fnA d.funcs g) x<d.types.length:=fun _=>by
  unfold pushT
  split
  ·exact Yw hs _
  ·omega
 have hTl:(takeT d x).length≤9223372036854775807:=by
  unfold takeT
  split
  ·rename_i hcl
   obtain⟨k,hk⟩: ∃k:Nat,called x=k:=⟨(called x).toNat,by omega⟩
   have hkl:k<d.funcs.length:=by have:=hN.2.1;omega
   obtain⟨v0,v1,v2,v3,ef,q0,q1,q2,q3⟩:=h2.fnA hkl
   have h1:=(hd.at hkl).2.1
   have h3:=q0.max
   rw[hk,w07,TN];omega
  ·simp
 simp only[u4,go_sem,G3,G6,G8]
 refine(z7C d hd hsl _ hy' g hg x hN _).xv fun r ts n1 ⟨q,hr,ho⟩=> ?_
 subst hr
 have hlive: ∃e,pushToks ts ([]::live)=e::live:=by cases ts<;>exact⟨_,rfl⟩
 obtain⟨e,he⟩:=hlive
 simp only[he]
 generalize pushT (fnA d.funcs g) x=p at*
 generalize hTe:takeT d x=T at*
 generalize stS d (fnA d.funcs g) x l=res at*
 have hq:=ho.sl (by omega)
 have hsub:IntKind.i64.wrap ((l.length:Int)-T.length)=(l.length:Int)-T.length:=by rw[z6 (by omega) (by omega)]
 simp only[go_sem,G6,G8,hz.len,hq.len,hsub]
 by_cases hle:T.length≤l.length
 ·have hsub2:((l.length:Int)-T.length)=((l.length-T.length:Nat):Int):=by omega
  obtain⟨z1,hz1,hzs1⟩:=hz.fromN (n:=l.length-T.length) (by omega)
  obtain⟨z2,hz2,hzs2⟩:=hz.toN (n:=l.length-T.length) (by omega)
  simp only[go_sem,G6,G8,hsub2,show¬(((l.length-T.length:Nat):Int)<0) by omega,hz1,(tu _ _ _ _ hzs1 hq _).eq]
  by_cases heq:l.drop (l.length-T.length)=T
  ·rw[if_pos ⟨hle,heq⟩] at hst
   have hdt:decide (l.drop (l.length-T.length)=T)=true:=decide_eq_true heq
   simp only[go_sem,G6,G8,hdt,hz2]
   obtain⟨zz2,hzz2,hcc2⟩:=hzs2.elems_any
   have hn:Own IsI 1 (.list 1 .full []) [] e:=Own.full (R:=IsI) (xs:=[]) (ys:=[]) trivial e
   refine hn.xv hzz2 hcc2 (by rw[w20];simp;omega) fun y3 n3 e3 ho3=> ?_
   rw[w2e] at ho3
   by_cases hp0:0≤p
   ·rw[if_pos hp0] at hst
    simp only[go_sem,G6,G8,show(p≥0)=True from eq_true hp0]
    refine ho3.xv (zh · 1 .full [.int .i64 p]) (ZN _) (by rw[w20];simp;omega) fun y4 n4 e4 ho4=> ?_
    have hin4:InT d.types (l.take (l.length-T.length)++[p]):=fun t ht=>by
     rcases w0b.1 ht with a|a
     ·exact hin t (w3d a)
     ·grind
    have hs4:=ho4.sl (by simp;omega)
    have hB:=fun c n lv=>(z1t d hT _ hy' _ _ hs4 hin4 (by simp;omega) ⟨stk++[cur],c,n,lv,fl⟩ hf').eq
    simp only[go_sem,G3,G6,G8,hB]
    refine yL (by simp only[AV.refs,refsAny,ho4.refs];rfl) ?_
    rw[hst]
    by_cases hle2:sumB d.types (l.take (l.length-T.length)++[p])≤4096
    ·rw[if_pos hle2,decide_eq_true (by omega)]
     simp_all
    ·rw[if_neg hle2,decide_eq_false (by omega)]
     simp
   ·rw[if_neg hp0,w21] at hst
    have hin4:InT d.types (l.take (l.length-T.length)):=fun t ht=>hin t (w3d ht)
    have hs4:=ho3.sl (by rw[w20];omega)
    have hB:=fun c n lv=>(z1t d hT _ hy' _ _ hs4 hin4 (by rw[w20];omega) ⟨stk++[cur],c,n,lv,fl⟩ hf').eq
    simp only[go_sem,G3,G6,G8,show(p≥0)=False from eq_false hp0,hB]
    refine yL (by simp only[AV.refs,refsAny,ho3.refs];rfl) ?_
    rw[hst]
    by_cases hle2:sumB d.types (l.take (l.length-T.length))≤4096
    ·rw[if_pos hle2,decide_eq_true (by omega)]
     simp_all
    ·rw[if_neg hle2,decide_eq_false (by omega)]
     simp
  ·rw[if_neg fun a=>heq a.2] at hst
   have hdt:decide (l.drop (l.length-T.length)=T)=false:=decide_eq_false heq
   simp only[go_sem,G6,G8,hdt]
   refine yL rfl ⟨.nils,by rw[hst];rfl,fun l' h=>by rw[hst] at h;cases h⟩
 ·rw[if_neg fun a=>hle a.1] at hst
  simp only[go_sem,G6,G8,show(((l.length:Int)-T.length)<0)=True from eq_true (by omega)]
  refine yL rfl ⟨.nils,by rw[hst];rfl,fun l' h=>by rw[hst] at h;cases h⟩
def i00:DInstr:=⟨0,0,0,0⟩
def inA (l:List DInstr) (k:Nat):DInstr:=l.getD k i00
theorem z5I {l:List DInstr} {j:Nat} (h:j<l.length):l[j]=inA l j:=by simp[inA,w03,h]
theorem _root_.Go.Vs.IsSl.inA {l:List DInstr} {x:AV} (hx:IsSl IsInstr 4 l x) {j:Nat} (h:j<l.length):Vs.nth x j= .agg [.int .u8 (inA l j).op,.int .i64 (inA l j).a,.int .i64 (inA l j).b,.int .i64 (inA l j).c]:=by
 rw[←z5I h];exact hx.nth h
def Ok07 (l:List DInstr):Prop:=(∀j,j<l.length→((inA l j).op=22→(inA l j).a<l.length)∧((inA l j).op=23→(inA l j).b<l.length))∧inA l (l.length-1)=⟨34,-1,0,0⟩
def nxt1 (x:DInstr) (i:Nat):List Nat:=
 if x.op=34∨x.op=28∨x.op=30 then [] else if x.op=22 then [x.a.toNat] else if x.op=23 then(if x.b=i+1 then [i+1] else [min (i+1) x.b.toNat,max (i+1) x.b.toNat]) else [i+1]
def nxt (l:List DInstr) (i:Nat):List Nat:=nxt1 (inA l i) i
theorem WR (l:List DInstr) (i:Nat):(nxt l i).length≤2:=by unfold nxt nxt1;(repeat' split)<;>simp
def LI (lo lv:Nat) (cur:List Blk) (y:AV) (l:List Nat):Prop:=
 (IsSl IsN 1 l y∧y.toks=[])∨ ∃k st cs,y= .grow 1 lv k st l.length∧cur[k]? =some ⟨st,cs⟩∧l.length≤cs.length∧cs.take l.length=ints l∧lo≤k
theorem LI.len {lo lv:Nat} {cur:List Blk} {y:AV} {l:List Nat} (h:LI lo lv cur y l):evLen y=some (.int .i64 l.length):=by
 rcases h with h|⟨k,st,cs,rfl,_⟩
 ·exact h.1.len
 ·rfl
theorem kz {cs:List AV} {l:List Nat} (h:cs.take l.length=ints l) (hl:l.length≤cs.length) {j:Nat} (hj:j<l.length):takeV false 1 (cs.drop j)=some (.int .i64 (l[j]:Nat)):=by
 have hc:cs[j]? =some (.int .i64 (l[j]:Nat)):=by
  have:(cs.take l.length)[j]? =(ints l)[j]? :=by rw[h]
  rw[w3f,if_pos hj] at this
  rw[this]
  simp[ints,hj]
 refine li _ _ ?_
 simp_all
theorem isN1 (a:Nat) (tk:Tok):IsSl IsN 1 [a] (.list 1 tk [.int .i64 (a:Nat)]):= .mk ⟨rfl,trivial⟩ (by simp)
theorem isN2 (a b:Nat) (tk:Tok):IsSl IsN 1 [a,b] (.list 1 tk [.int .i64 (a:Nat),.int .i64 (b:Nat)]):= .mk ⟨rfl,rfl,trivial⟩ (by simp)
theorem z5u {l:List DInstr} {i:Nat} (h:(inA l i).op=34∨(inA l i).op=28∨(inA l i).op=30):nxt l i=[]:=by unfold nxt nxt1;rw[if_pos h]
theorem z2B {l:List DInstr} {i:Nat} (h:(inA l i).op=22):nxt l i=[(inA l i).a.toNat]:=by unfold nxt nxt1;rw[if_neg (by omega),if_pos h]
theorem z5w {l:List DInstr} {i:Nat} (h:(inA l i).op=23) (h':(inA l i).b=i+1):nxt l i=[i+1]:=by unfold nxt nxt1;rw[if_neg (by omega),if_neg (by omega),if_pos h,if_pos h']
theorem z5v {l:List DInstr} {i:Nat} (h:(inA l i).op=23) (h':(inA l i).b≠i+1):nxt l i=[min (i+1) (inA l i).b.toNat,max (i+1) (inA l i).b.toNat]:=by unfold nxt nxt1;rw[if_neg (by omega),if_neg (by omega),if_pos h,if_neg h']
theorem z2C {l:List DInstr} {i:Nat} (h: ¬((inA l i).op=34∨(inA l i).op=28∨(inA l i).op=30)) (h2:(inA l i).op≠22) (h3:(inA l i).op≠23):nxt l i=[i+1]:=by unfold nxt nxt1;rw[if_neg h,if_neg h2,if_neg h3]
def Jmp (x:DInstr):Prop:=(x.op=22→0≤x.a)∧(x.op=23→0≤x.b)
theorem Tv (l:List DInstr) (x:AV) (hx:IsSl IsInstr 4 l x) (i:Nat) (hi:i<l.length) (hj:Jmp (inA l i)) (m:Mem):Ok tab 380 [x,.int .i64 i] m (fun r=>IsSl IsN 1 (nxt l i) r∧r.toks=[]):=by
 refine z0v (tT vB) ?_
 obtain⟨stk,cur,nx,live,fl⟩:=m
 have hmx:=hx.max
 have hsu:IntKind.i64.wrap ((i:Int)+1)=((i+1:Nat):Int):=zq hi hmx
 simp only[vB,go_sem,G3,G6,G8,hx.at _ hi,hx.inA hi]
 by_cases h:(inA l i).op=34∨(inA l i).op=28∨(inA l i).op=30
 ·rw[z5u h]
  repeat' (((first|refine uD ?_ ?_|refine xu ?_ ?_|refine xx ?_ ?_|refine xq ?_ ?_|refine xr ?_ ?_)<;>intro hq)<;>simp only[go_sem,G6,G8,hq])
  all_goals first
   |(rw[z4 rfl rfl,z5];exact⟨⟨_,rfl⟩,.nil 1,rfl⟩)
   |(exfalso;simp only[beq_iff_eq,beq_eq_false_iff_ne,ne_eq] at*;omega)
 have e1:((inA l i).op==34)=false:=by rw[beq_eq_false_iff_ne];omega
 have e2:((inA l i).op==28)=false:=by rw[beq_eq_false_iff_ne];omega
 have e3:((inA l i).op==30)=false:=by rw[beq_eq_false_iff_ne];omega
 by_cases h2:(inA l i).op=22
 ·have e4:((inA l i).op==22)=true:=by simpa using h2
  simp only[go_sem,G6,G8,e1,e2,e3,e4]
  rw[z4 rfl rfl,z5,z2B h2]
  have ha:=hj.1 h2
  refine⟨⟨_,rfl⟩,?_,rfl⟩
  have:=isN1 (inA l i).a.toNat .full
  grind
 have e4:((inA l i).op==22)=false:=by simpa using h2
 by_cases h3:(inA l i).op=23
 ·have e5:((inA l i).op==23)=true:=by simpa using h3
  have hb:=hj.2 h3
  by_cases h4:(inA l i).b=i+1
  ·have e6:((inA l i).b==((i+1:Nat):Int))=true:=by rw[beq_iff_eq];omega
   simp only[go_sem,G6,G8,e1,e2,e3,e4,e5,hsu,e6]
   rw[z4 rfl rfl,z5,z5w h3 h4]
   exact⟨⟨_,rfl⟩,isN1 _ _,rfl⟩
  ·have e6:((inA l i).b==((i+1:Nat):Int))=false:=by rw[beq_eq_false_iff_ne];omega
   have e7:(if(inA l i).b<((i+1:Nat):Int) then(inA l i).b else((i+1:Nat):Int))=((min (i+1) (inA l i).b.toNat:Nat):Int):=by split<;>omega
   have e8:(if(inA l i).b>((i+1:Nat):Int) then(inA l i).b else((i+1:Nat):Int))=((max (i+1) (inA l i).b.toNat:Nat):Int):=by split<;>omega
   simp only[go_sem,G6,G8,e1,e2,e3,e4,e5,hsu,e6,e7,e8]
   rw[z4 rfl rfl,z5,z5v h3 h4]
   exact⟨⟨_,rfl⟩,isN2 _ _ _,rfl⟩
 have e5:((inA l i).op==23)=false:=by simpa using h3
 simp only[go_sem,G6,G8,e1,e2,e3,e4,e5,hsu]
 rw[z4 rfl rfl,z5,z2C h h2 h3]
 exact⟨⟨_,rfl⟩,isN1 _ _,rfl⟩
def CallLI (f:Nat) (args:List AV) (l:List Nat) (w:AV→AV) (m:Mem):Prop:=
 ∃y bs k,CALL tab f args m=some (w y,{m with cur:=m.cur++bs,nx:=k})∧LI m.cur.length m.stk.length (m.cur++bs) y l
theorem Zy {m0:Mem} {stk:List (List Blk)} {cur c':List Blk} {nx' fl':Nat} {own:List Nat} {live':List (List Nat)} {y:AV} (h1:y.refs (stk++[cur]).length=false) (h2:y.toks=[]):
  leave m0 ⟨stk++[cur],c',nx',own::live',fl'⟩ y=some (y,⟨stk,cur++[],nx',live',m0.floor⟩):=by
 rw[w21];exact yg h1 h2
theorem YD {m0:Mem} {stk:List (List Blk)} {cur c':List Blk} {nx' fl':Nat} {own:List Nat} {live':List (List Nat)} {k st s n:Nat} {w:AV→AV} (hw:w=id∨w=fun y=> .tup [y,.int .i64 0]):
  ∃bs:List Blk,leave m0 ⟨stk++[cur],c',nx',own::live',fl'⟩ (w (.grow s (stk++[cur]).length k st n))=some (w (.grow s stk.length (k+cur.length) st n),⟨stk,cur++bs,nx',live',m0.floor⟩)∧
   bs=c'.map fun b=>⟨b.st,shiftAll (stk++[cur]).length ((stk++[cur]).length-1) cur.length b.cs⟩:=by
 have e:own.filter (fun _=>false)=[]:=by simp
 refine⟨_,?_,rfl⟩
 rcases hw with rfl|rfl
 ·unfold leave
  simp only[id,w53,w41,Option.some_or,AV.refs,beq_self_eq_true,if_true,AV.toks,w5b,e,pushToks,w54,AV.shift]
  simp
 ·unfold leave
  simp only[w53,w41,Option.some_or,AV.refs,refsAny,beq_self_eq_true,Bool.true_or,if_true,AV.toks,toksAll,w21,w5b,e,pushToks,w54,AV.shift,shiftAll]
  simp
theorem z0V {f:Nat} {fn:AFunc} (h:tab f=some fn) {args:List AV} {l:List Nat} {w:AV→AV} {m:Mem} (hx:X tab fn.body (mk fn.ntmps (.tup []) (numb 0 args)) (enter m) (.fin fn.res m fun v m'=> ∃y bs k,v=w y∧m'={m with cur:=m.cur++bs,nx:=k}∧LI m.cur.length m.stk.length (m.cur++bs) y l)) (hn:args.length≤fn.ntmps:=by exact Nat.le_of_ble_eq_true rfl):
  CallLI f args l w m:=by
 obtain⟨x,h1,y,bs,k,h2,h3,h4⟩:=yD h hx hn;exact⟨y,bs,k,by rw[h1,←h2,←h3],h4⟩
theorem QE {stk:List (List Blk)} {cur c' bs:List Blk} {k st:Nat} {cs:List AV} {l:List Nat} (hb:bs=c'.map fun b=>(⟨b.st,shiftAll (stk++[cur]).length ((stk++[cur]).length-1) cur.length b.cs⟩:Blk)) (hk:c'[k]? =some ⟨st,cs⟩) (hl:l.length≤cs.length) (ht:cs.take l.length=ints l):
  LI cur.length stk.length (cur++bs) (.grow 1 stk.length (k+cur.length) st l.length) l:=by
 have hlen: ∀(a b c:Nat) (xs:List AV),(shiftAll a b c xs).length=xs.length:=fun a b c xs=>yY a b c xs
 have htk: ∀(a b c n:Nat) (xs:List AV),(shiftAll a b c xs).take n=shiftAll a b c (xs.take n):=by
  intro a b c n xs
  induction xs generalizing n with
  |nil=>simp[shiftAll]
  |cons x r ih=>cases n<;>simp[shiftAll,ih]
 refine .inr ⟨k+cur.length,st,shiftAll (stk++[cur]).length ((stk++[cur]).length-1) cur.length cs,rfl,?_,by rw[hlen];exact hl,by rw[htk,ht,Zr],by omega⟩
 grind
theorem z2f (l:List DInstr) (x:AV) (hx:IsSl IsInstr 4 l x) (i:Nat) (hi:i<l.length) (hj:Jmp (inA l i)) (m:Mem) (hf:m.floor≤m.stk.length+1):CallLI 375 [x,.int .i64 i] (nxt l i) id m:=by
 refine z0V (tT kR) ?_
 obtain⟨stk,cur,nx,live,fl⟩:=m
 dsimp only at hf
 have hmx:=hx.max
 have hsu:IntKind.i64.wrap ((i:Int)+1)=((i+1:Nat):Int):=zq hi hmx
 have hf':fl≤(stk++[cur]).length:=by simp;omega
 simp only[kR,go_sem,G3,G6,G8,hx.at _ hi,hx.inA hi]
 by_cases h:(inA l i).op=34∨(inA l i).op=28∨(inA l i).op=30
 ·rw[z5u h]
  repeat' (((first|refine uD ?_ ?_|refine xu ?_ ?_|refine xx ?_ ?_|refine xq ?_ ?_|refine xr ?_ ?_)<;>intro hq)<;>simp only[go_sem,G6,G8,hq])
  all_goals first
   |(rw[Zy rfl rfl,z5];exact⟨_,[],_,rfl,rfl,.inl ⟨.nil 1,rfl⟩⟩)
   |(exfalso;simp only[beq_iff_eq,beq_eq_false_iff_ne,ne_eq] at*;omega)
 have e1:((inA l i).op==34)=false:=by rw[beq_eq_false_iff_ne];omega
 have e2:((inA l i).op==28)=false:=by rw[beq_eq_false_iff_ne];omega
 have e3:((inA l i).op==30)=false:=by rw[beq_eq_false_iff_ne];omega
 by_cases h2:(inA l i).op=22
 ·have e4:((inA l i).op==22)=true:=by simpa using h2
  simp only[go_sem,G6,G8,e1,e2,e3,e4]
  rw[Zy rfl rfl,z5,z2B h2]
  have ha:=hj.1 h2
  refine⟨_,[],_,rfl,rfl,.inl ⟨?_,rfl⟩⟩
  have:=isN1 (inA l i).a.toNat .full
  grind
 have e4:((inA l i).op==22)=false:=by simpa using h2
 by_cases h3:(inA l i).op=23
 ·have e5:((inA l i).op==23)=true:=by simpa using h3
  have hb:=hj.2 h3
  simp only[go_sem,G3,G6,G8,e1,e2,e3,e4,e5,hsu,evLitB,w2d,List.flatMap_nil]
  have hS:=fun nz=>(zb3 ((i+1:Nat):Int) (inA l i).b (stk++[cur]) [⟨nx,[.int .u8 (inA l i).op,.int .i64 (inA l i).a,.int .i64 (inA l i).b,.int .i64 (inA l i).c]⟩,⟨nx+1,[.int .i64 ((i+1:Nat):Int),.int .i64 (inA l i).b]⟩] nz fl ([]::live) (stk++[cur]).length 1 (nx+1) (w08 _) hf' (by simp[Mem.blk,Mem.row])).eq
  simp only[go_sem,G6,G8,hS,Td]
  by_cases h4:(inA l i).b=i+1
  ·have e6:min ((i+1:Nat):Int) (inA l i).b=((i+1:Nat):Int):=by omega
   have e7:max ((i+1:Nat):Int) (inA l i).b=((i+1:Nat):Int):=by omega
   have hC:=fun nz=>(z1r ((i+1:Nat):Int) (stk++[cur]) [⟨nx,[.int .u8 (inA l i).op,.int .i64 (inA l i).a,.int .i64 (inA l i).b,.int .i64 (inA l i).c]⟩,⟨nx+1,[.int .i64 ((i+1:Nat):Int),.int .i64 ((i+1:Nat):Int)]⟩] nz fl ([]::live) (stk++[cur]).length 1 (nx+1) (w08 _) hf' (by simp[Mem.blk,Mem.row])).eq
   simp only[go_sem,G6,G8,e6,e7,hC,Td]
   obtain⟨bs,hbs,hbe⟩:=YD (m0:=⟨stk,cur,nx,live,fl⟩) (stk:=stk) (cur:=cur) (c':=[⟨nx,[.int .u8 (inA l i).op,.int .i64 (inA l i).a,.int .i64 (inA l i).b,.int .i64 (inA l i).c]⟩,⟨nx+1,[.int .i64 ((i+1:Nat):Int),.int .i64 0]⟩]) (nx':=setsNx tab 389 [.grow 1 (stk++[cur]).length 1 (nx+1) 2] ⟨stk++[cur],[⟨nx,[.int .u8 (inA l i).op,.int .i64 (inA l i).a,.int .i64 (inA l i).b,.int .i64 (inA l i).c]⟩,⟨nx+1,[.int .i64 ((i+1:Nat):Int),.int .i64 ((i+1:Nat):Int)]⟩],setsNx tab 388 [.grow 1 (stk++[cur]).length 1 (nx+1) 2] ⟨stk++[cur],[⟨nx,[.int .u8 (inA l i).op,.int .i64 (inA l i).a,.int .i64 (inA l i).b,.int .i64 (inA l i).c]⟩,⟨nx+1,[.int .i64 ((i+1:Nat):Int),.int .i64 (inA l i).b]⟩],nx+1+1,[]::live,fl⟩,[]::live,fl⟩) (own:=[]) (live':=live) (fl':=fl) (k:=1) (st:=nx+1) (s:=1) (n:=1) (w:=id) (.inl rfl)
   simp only[id] at hbs
   rw[hbs,z5,z5w h3 h4]
   exact⟨_,bs,_,rfl,rfl,QE (l:=[i+1]) hbe rfl (by simp) rfl⟩
  ·have hC:=fun nz=>(z1q (min ((i+1:Nat):Int) (inA l i).b) (max ((i+1:Nat):Int) (inA l i).b) (by omega) (stk++[cur]) [⟨nx,[.int .u8 (inA l i).op,.int .i64 (inA l i).a,.int .i64 (inA l i).b,.int .i64 (inA l i).c]⟩,⟨nx+1,[.int .i64 (min ((i+1:Nat):Int) (inA l i).b),.int .i64 (max ((i+1:Nat):Int) (inA l i).b)]⟩] nz fl ([]::live) (stk++[cur]).length 1 (nx+1) (w08 _) (by simp[Mem.blk,Mem.row])).eq
   simp only[go_sem,G6,G8,hC]
   generalize callNx tab 389 _ _=kk
   obtain⟨bs,hbs,hbe⟩:=YD (m0:=⟨stk,cur,nx,live,fl⟩) (stk:=stk) (cur:=cur) (c':=[⟨nx,[.int .u8 (inA l i).op,.int .i64 (inA l i).a,.int .i64 (inA l i).b,.int .i64 (inA l i).c]⟩,⟨nx+1,[.int .i64 (min ((i+1:Nat):Int) (inA l i).b),.int .i64 (max ((i+1:Nat):Int) (inA l i).b)]⟩]) (nx':=kk) (own:=[]) (live':=live) (fl':=fl) (k:=1) (st:=nx+1) (s:=1) (n:=2) (w:=id) (.inl rfl)
   simp only[id] at hbs
   rw[hbs,z5,z5v h3 h4]
   refine⟨_,bs,_,rfl,rfl,QE (l:=[min (i+1) (inA l i).b.toNat,max (i+1) (inA l i).b.toNat]) hbe rfl (by simp) ?_⟩
   simp only[ints,w30,List.map_nil,w59,w46,w10,w1a]
   rw[show(min ((i+1:Nat):Int) (inA l i).b)=((min (i+1) (inA l i).b.toNat:Nat):Int) by omega,show(max ((i+1:Nat):Int) (inA l i).b)=((max (i+1) (inA l i).b.toNat:Nat):Int) by omega]
 have e5:((inA l i).op==23)=false:=by simpa using h3
 simp only[go_sem,G6,G8,e1,e2,e3,e4,e5,hsu]
 rw[Zy rfl rfl,z5,z2C h h2 h3]
 exact⟨_,[],_,rfl,rfl,.inl ⟨isN1 _ _,rfl⟩⟩
end Go.Proofs.W
end
section
namespace Go.Vs
section
variable (nx : Nat → List Nat)
inductive Rch:Nat→Prop
 |zero:Rch 0
 |step {i k:Nat}:Rch i→k∈nx i→Rch k
structure RInv (n:Nat) (s:List Bool):Prop where
 len:s.length=n
 zero:s.getD 0 false=true
 sub: ∀i,s.getD i false=true→Rch nx i
theorem RInv.set {n k i:Nat} {s:List Bool} (h:RInv nx n s) (hi:s.getD i false=true) (hk:k∈nx i):RInv nx n (s.set k true):=by
 refine⟨by simp[h.len],?_,fun j hj=> ?_⟩
 ·simp only[w03,List.getElem?_set]
  have:=h.zero
  grind
 ·by_cases e:k=j
  ·subst e;exact .step (h.sub i hi) hk
  ·refine h.sub j ?_
   grind
theorem RInv.all {n:Nat} {s:List Bool} (h:RInv nx n s) (hc: ∀i,s.getD i false=true→ ∀k∈nx i,s.getD k false=true) (i:Nat):s.getD i false=true↔Rch nx i:=by
 refine⟨h.sub i,fun hr=> ?_⟩
 induction hr with
 |zero=>exact h.zero
 |step _ hk ih=>exact hc _ ih _ hk
def unm (s:List Bool):Nat:=(s.filter fun b=> !b).length
theorem WD {s:List Bool} {k:Nat} (hk:k<s.length) (h:s.getD k false=false):unm (s.set k true)+1=unm s:=by
 induction s generalizing k with
 |nil=>simp at hk
 |cons b s ih=>
  cases k with
  |zero=>
   have:b=false:=by simpa using h
   subst this
   simp[unm]
  |succ k=>
   have:=ih (k:=k) (by simpa using hk) (by simpa using h)
   unfold unm at this⊢
   grind
theorem tw {s:List Bool} {k:Nat} (hk:k<s.length):(s.set k true).getD k false=true:=by
 grind
theorem ye {s:List Bool} {k j:Nat} (h:s.getD j false=true):(s.set k true).getD j false=true:=by
 grind
theorem getD_set_ne {α:Type} {s:List α} {k j:Nat} {v d:α} (h:k≠j):(s.set k v).getD j d=s.getD j d:=by
 grind
theorem getD_set_eq {α:Type} {s:List α} {k:Nat} {v d:α} (h:k<s.length):(s.set k v).getD k d=v:=by
 grind
variable (st : Nat → List Int → Option (List Int))
inductive Lab:Nat→List Int→Prop
 |zero:Lab 0 []
 |step {i k:Nat} {l l':List Int}:Lab i l→st i l=some l'→k∈nx i→Lab k l'
def GoodS (n:Nat):Prop:=(∀i l,Lab nx st i l→(st i l).isSome=true)∧(∀i l l',Lab nx st i l→Lab nx st i l'→l=l')
def LastS (n:Nat):Prop:= ∀l,Lab nx st (n-1) l→l=[]
noncomputable def labOf (i:Nat):List Int:=open Classical in if h: ∃l,Lab nx st i l then h.choose else []
structure SInv (n:Nat) (kn:List Bool) (out:List (List Int)):Prop where
 len1:kn.length=n
 len2:out.length=n
 zero:kn.getD 0 false=true∧out.getD 0 []=[]
 lab: ∀i,kn.getD i false=true→Lab nx st i (out.getD i [])
 un: ∀i,kn.getD i false=false→out.getD i []=[]
theorem SInv.set {n k i:Nat} {kn:List Bool} {out:List (List Int)} {l:List Int} (h:SInv nx st n kn out) (hkn:k<n) (hu:kn.getD k false=false) (hi:kn.getD i false=true) (hs:st i (out.getD i [])=some l) (hk:k∈nx i):SInv nx st n (kn.set k true) (out.set k l):=by
 have h0:k≠0:=fun e=>by subst e;rw[h.zero.1] at hu;cases hu
 refine⟨by simp[h.len1],by simp[h.len2],⟨ye h.zero.1,by rw[getD_set_ne h0];exact h.zero.2⟩,fun j hj=> ?_,fun j hj=> ?_⟩
 ·by_cases e:k=j
  ·subst e
   rw[getD_set_eq (by rw[h.len2];exact hkn)]
   exact .step (h.lab i hi) hs hk
  ·rw[getD_set_ne e] at hj⊢;exact h.lab j hj
 ·by_cases e:k=j
  ·subst e;rw[getD_set_eq (by rw[h.len1];exact hkn)] at hj;cases hj
  ·rw[getD_set_ne e] at hj⊢;exact h.un j hj
theorem SInv.all {n:Nat} {kn:List Bool} {out:List (List Int)} (h:SInv nx st n kn out) (hc: ∀i,kn.getD i false=true→ ∃l,st i (out.getD i [])=some l∧ ∀k∈nx i,kn.getD k false=true∧out.getD k []=l):
  GoodS nx st n∧ ∀i,out.getD i []=labOf nx st i:=by
 have key: ∀i l,Lab nx st i l→kn.getD i false=true∧l=out.getD i []:=by
  intro i l hl
  induction hl with
  |zero=>exact⟨h.zero.1,h.zero.2.symm⟩
  |step _ hs hk ih=>
   grind
 refine⟨⟨fun i l hl=> ?_,fun i l l' h1 h2=> ?_⟩,fun i=> ?_⟩
 ·grind
 ·grind
 ·unfold labOf
  split
  ·grind
  ·rename_i he
   cases hk:kn.getD i false with
   |true=>exact absurd ⟨_,h.lab i hk⟩ he
   |false=>exact h.un i hk
theorem XP {n i:Nat} {kn:List Bool} {out:List (List Int)} (h:SInv nx st n kn out) (hi:kn.getD i false=true) (hs:st i (out.getD i [])=none): ¬GoodS nx st n:=fun hg=>by
 have:=hg.1 i _ (h.lab i hi);rw[hs] at this;cases this
theorem WT {n i k:Nat} {kn:List Bool} {out:List (List Int)} {l:List Int} (h:SInv nx st n kn out) (hi:kn.getD i false=true) (hs:st i (out.getD i [])=some l) (hk:k∈nx i) (hkn:kn.getD k false=true) (hne:out.getD k []≠l): ¬GoodS nx st n:=fun hg=>
 hne (hg.2 k _ _ (h.lab k hkn) (.step (h.lab i hi) hs hk))
theorem z2V {n:Nat} (hg:GoodS nx st n):LastS nx st n↔labOf nx st (n-1)=[]:=by
 unfold LastS labOf
 split
 ·rename_i he
  exact⟨fun h=>h _ he.choose_spec,fun h l hl=>by rw[←h];exact hg.2 _ _ _ hl he.choose_spec⟩
 ·grind
variable (W : Nat → Nat) (p0 : Nat)
def Sub (a b:Nat):Prop:= ∀s,a.testBit s=true→b.testBit s=true
theorem Sub.refl (a:Nat):Sub a a:=fun _ h=>h
theorem Sub.trans {a b c:Nat} (h:Sub a b) (k:Sub b c):Sub a c:=fun s x=>k s (h s x)
theorem Sub.antisymm {a b:Nat} (h:Sub a b) (k:Sub b a):a=b:=Nat.eq_of_testBit_eq fun s=>by
 rw[Bool.eq_iff_iff];exact⟨h s,k s⟩
theorem Sub.and {a b c:Nat} (h:Sub a b) (k:Sub a c):Sub a (b&&&c):=fun s x=>by rw[Nat.testBit_and,h s x,k s x];rfl
theorem Sub.or {a b c d:Nat} (h:Sub a b) (k:Sub c d):Sub (a|||c) (b|||d):=fun s x=>by
 rw[Nat.testBit_or,w2f] at x⊢;exact x.imp (h s) (k s)
theorem Xy (a b:Nat):Sub (a&&&b) a:=fun s x=>by rw[Nat.testBit_and,w09] at x;exact x.1
theorem U3 (a b:Nat):Sub (a&&&b) b:=fun s x=>by rw[Nat.testBit_and,w09] at x;exact x.2
theorem z8a {a b c:Nat} (h:Sub a c) (k:Sub b c):Sub (a|||b) c:=fun s x=>by
 rw[Nat.testBit_or,w2f] at x;exact x.elim (h s) (k s)
theorem Sub.le {a b:Nat} (h:Sub a b):a≤b:=by
 have:a&&&b=a:=Sub.antisymm (Xy a b) (Sub.and (.refl a) h)
 rw[←this];exact Nat.and_le_right
def Sol (M:Nat→Nat):Prop:=Sub (M 0) p0∧ ∀i,Rch nx i→ ∀k∈nx i,Sub (M k) (M i|||W i)
def Great (out:Nat→Nat):Prop:=(∀i,¬Rch nx i→out i=0)∧Sol nx W p0 out∧ ∀M,Sol nx W p0 M→ ∀i,Rch nx i→Sub (M i) (out i)
theorem Great.unique {a b:Nat→Nat} (h:Great nx W p0 a) (k:Great nx W p0 b) (i:Nat):a i=b i:=by
 by_cases hr:Rch nx i
 ·exact Sub.antisymm (k.2.2 _ h.2.1 i hr) (h.2.2 _ k.2.1 i hr)
 ·rw[h.1 i hr,k.1 i hr]
noncomputable def mskOf (i:Nat):Nat:=open Classical in if h: ∃o,Great nx W p0 o then h.choose i else 0
theorem Great.is {o:Nat→Nat} (h:Great nx W p0 o) (i:Nat):o i=mskOf nx W p0 i:=by
 unfold mskOf
 rw[dif_pos ⟨o,h⟩]
 exact h.unique nx W p0 (Exists.choose_spec (⟨o,h⟩: ∃o,Great nx W p0 o)) i
theorem Great.le {n a:Nat} {o:Nat→Nat} (h:Great nx W p0 o) (hp:Sub p0 a) (hw: ∀i,Sub (W i) a) (i:Nat):Sub (o i) a:=by
 by_cases hr:Rch nx i
 ·induction hr with
  |zero=>exact h.2.1.1.trans hp
  |step hr hk ih=>exact(h.2.1.2 _ hr _ hk).trans (z8a ih (hw _))
 ·rw[h.1 i hr];intro s hs;simp at hs
end
section
variable {σ : Type} (upd : σ → Nat → Option Nat → σ × Bool)
def procK (i:Nat) (p:σ×List Nat) (k:Nat):σ×List Nat:=((upd p.1 k (some i)).1,if(upd p.1 k (some i)).2 then p.2++[k] else p.2)
def proc (i:Nat) (ks:List Nat) (p:σ×List Nat):σ×List Nat:=ks.foldl (procK upd i) p
theorem z6p {i j:Nat} {ks:List Nat} (h:j<ks.length) (p:σ×List Nat):proc upd i (ks.take (j+1)) p=procK upd i (proc upd i (ks.take j) p) ks[j]:=by
 unfold proc;rw[w0f h,List.foldl_append];rfl
theorem z6q {i k:Nat} {p:σ×List Nat}:(procK upd i p k).2.length≤p.2.length+1:=by
 unfold procK;simp only;split<;>simp
theorem z2w {i:Nat}: ∀(ks:List Nat) (p:σ×List Nat),(proc upd i ks p).2.length≤p.2.length+ks.length
 | [],_=>by simp[proc]
 |k::ks,p=>by
  have:=z2w (i:=i) ks (procK upd i p k)
  have h1:=z6q upd (i:=i) (k:=k) (p:=p)
  unfold proc at this⊢
  grind
end
theorem z2v {σ:Type} (upd:σ→Nat→Option Nat→σ×Bool) (i:Nat) (p:σ×List Nat):proc upd i [] p=p:=rfl
section
variable (nx : Nat → List Nat) (n : Nat)
def updR (s:List Bool) (k:Nat) (_:Option Nat):List Bool×Bool:=(s.set k true,!(s.getD k false))
structure RJ (s:List Bool) (op:List Nat):Prop where
 r:RInv nx n s
 cl: ∀j,s.getD j false=true→j∈op∨ ∀k∈nx j,s.getD k false=true
 o: ∀j∈op,j<n∧s.getD j false=true
 b:op.length+unm s≤n
structure RK (i:Nat) (done:List Nat) (M:Nat) (s:List Bool) (op:List Nat):Prop where
 r:RInv nx n s
 cl: ∀j,s.getD j false=true→j=i∨j∈op∨ ∀k∈nx j,s.getD k false=true
 o: ∀j∈op,j<n∧s.getD j false=true
 b:op.length+unm s+1≤n
 i:s.getD i false=true
 d: ∀k∈done,s.getD k false=true
 m:2*unm s+op.length+1≤M
theorem z2q {s:List Bool} {k:Nat} (h:s.getD k false=true):s.set k true=s:=by
 apply w27
 grind
theorem RK.k {i k M:Nat} {done:List Nat} {s:List Bool} {op:List Nat} (h:RK nx n i done M s op) (hk:k∈nx i) (hkn:k<n):RK nx n i (done++[k]) M (procK updR i (s,op) k).1 (procK updR i (s,op) k).2:=by
 unfold procK updR
 dsimp only
 by_cases hs:s.getD k false=true
 ·rw[z2q hs,hs]
  exact⟨h.r,h.cl,h.o,h.b,h.i,fun k' hk'=>by rcases w0b.1 hk' with q|q;·exact h.d k' q
                                            ·rw[w1c.1 q];exact hs,h.m⟩
 ·have hs':s.getD k false=false:=by simpa using hs
  rw[hs']
  have hkl:k<s.length:=by rw[h.r.len];exact hkn
  have hu:=WD hkl hs'
  refine⟨h.r.set nx h.i hk,fun j hj=> ?_,fun j hj=> ?_,?_,ye h.i,fun k' hk'=> ?_,?_⟩
  ·by_cases e:k=j
   ·grind
   ·rw[getD_set_ne e] at hj
    rcases h.cl j hj with q|q|q
    ·exact .inl q
    ·grind
    ·grind
  ·simp only[Bool.not_false,if_true,w0b,w1c] at hj
   rcases hj with q|rfl
   ·exact⟨(h.o j q).1,ye (h.o j q).2⟩
   ·grind
  ·simp only[Bool.not_false,if_true,w15,w29]
   have:=h.b;omega
  ·rcases w0b.1 hk' with q|q
   ·exact ye (h.d k' q)
   ·grind
  ·simp only[Bool.not_false,if_true,w15,w29]
   have:=h.m;omega
theorem RK.all {i M:Nat}: ∀{ks done:List Nat} {s:List Bool} {op:List Nat},RK nx n i done M s op→(∀k∈ks,k∈nx i∧k<n)→RK nx n i (done++ks) M (proc updR i ks (s,op)).1 (proc updR i ks (s,op)).2
 | [],done,s,op,h,_=>by rw[w21,z2v];exact h
 |k::ks,done,s,op,h,hk=>by
  have h1:=h.k nx n (hk k w24).1 (hk k w24).2
  have:=RK.all h1 (fun k' hk'=>hk k' (w2c _ hk'))
  rw[w1e,List.singleton_append] at this
  trivial
theorem RJ.pop {s:List Bool} {op:List Nat} {i:Nat} (h:RJ nx n s (op++[i])):RK nx n i [] (2*unm s+(op++[i]).length) s op:=by
 refine⟨h.r,fun j hj=> ?_,fun j hj=>h.o j (w52 _ hj),?_,(h.o i (by simp)).2,fun k hk=>(by cases hk),?_⟩
 ·rcases h.cl j hj with q|q
  ·grind
  ·grind
 ·have:=h.b;simp at this;omega
 ·simp;omega
theorem RJ.next (hnx: ∀i,i<n→ ∀k∈nx i,k<n) {s:List Bool} {op:List Nat} {i:Nat} (h:RJ nx n s (op++[i])):
  RJ nx n (proc updR i (nx i) (s,op)).1 (proc updR i (nx i) (s,op)).2∧2*unm (proc updR i (nx i) (s,op)).1+(proc updR i (nx i) (s,op)).2.length<2*unm s+(op++[i]).length:=by
 have hi:=(h.o i (by simp)).1
 have:=RK.all nx n (h.pop nx n) (ks:=nx i) (fun k hk=>⟨hk,hnx i hi k hk⟩)
 rw[w2e] at this
 refine⟨⟨this.r,fun j hj=> ?_,this.o,by have:=this.b;omega⟩,by have:=this.m;omega⟩
 rcases this.cl j hj with q|q|q
 ·subst q;exact .inr this.d
 ·exact .inl q
 ·exact .inr q
theorem RJ.done {s:List Bool} (h:RJ nx n s []) (i:Nat):s.getD i false=true↔Rch nx i:=
 h.r.all nx (fun j hj=>(h.cl j hj).elim (fun q=>by cases q) id) i
theorem RJ.start (hn:0<n):RJ nx n ((List.replicate n false).set 0 true) [0]:=by
 have hl:0<(List.replicate n false).length:=by simpa using hn
 have hg: ∀j,(List.replicate n false).getD j false=false:=fun j=>by
  grind
 have hu:unm (List.replicate n false)=n:=by unfold unm;rw[List.filter_eq_self.2 (by simp)];simp
 have h1:=WD hl (hg 0)
 refine⟨⟨by simp,tw hl,fun j hj=> ?_⟩,fun j hj=> ?_,fun j hj=> ?_,?_⟩
 ·by_cases e:0=j
  ·subst e;exact .zero
  ·grind
 ·grind
 ·grind
 ·grind
def ledK (p:List Bool×Bool) (k:Nat):List Bool×Bool:=if p.1.getD k false then p else(p.1.set k true,true)
def ledI (p:List Bool×Bool) (i:Nat):List Bool×Bool:=if p.1.getD i false then(nx i).foldl ledK p else p
def ledR (s:List Bool):Nat→List Bool×Bool
 |0=>(s,false)
 |i+1=>ledI nx (ledR s i) i
structure LK (s:List Bool) (j:Nat) (p:List Bool×Bool):Prop where
 r:RInv nx n p.1
 le:unm p.1≤unm s
 eq:p.2=false→p.1=s∧ ∀i,i<j→s.getD i false=true→ ∀k∈nx i,s.getD k false=true
 lt:p.2=true→unm p.1<unm s
theorem VO {s:List Bool} {j i:Nat}: ∀{ks done:List Nat} {p:List Bool×Bool},LK nx n s j p→p.1.getD i false=true→(∀k∈ks,k∈nx i∧k<n)→(p.2=false→ ∀k∈done,s.getD k false=true)→
  LK nx n s j (ks.foldl ledK p)∧(ks.foldl ledK p).1.getD i false=true∧((ks.foldl ledK p).2=false→ ∀k∈done++ks,s.getD k false=true)
 | [],done,p,h,hi,_,hd=>⟨h,hi,by rw[w21];exact hd⟩
 |k::ks,done,p,h,hi,hk,hd=>by
  have hkk:=hk k w24
  have h1:LK nx n s j (ledK p k)∧(ledK p k).1.getD i false=true∧((ledK p k).2=false→ ∀k'∈done++[k],s.getD k' false=true):=by
   unfold ledK
   split
   ·rename_i hs
    refine⟨h,hi,fun e k' hk'=> ?_⟩
    rcases w0b.1 hk' with q|q
    ·grind
    ·rw[w1c.1 q,←(h.eq e).1];exact hs
   ·rename_i hs
    have hs':p.1.getD k false=false:=by simpa using hs
    have hkl:k<p.1.length:=by rw[h.r.len];exact hkk.2
    have hu:=WD hkl hs'
    have hle:=h.le
    exact⟨⟨h.r.set nx hi hkk.1,by simp only;omega,fun e=>(by cases e),fun _=>(by simp only;omega)⟩,ye hi,fun e=>(by cases e)⟩
  have:=VO h1.1 h1.2.1 (fun k' hk'=>hk k' (w2c _ hk')) h1.2.2
  grind
theorem WZ (hnx: ∀i,i<n→ ∀k∈nx i,k<n) {s:List Bool} (h:RInv nx n s): ∀j,j≤n→LK nx n s j (ledR nx s j)
 |0,_=>⟨h,w08 _,fun _=>⟨rfl,fun i hi=>absurd hi (w34 _)⟩,fun e=>by cases e⟩
 |j+1,hj=>by
  have ih:=WZ hnx h j (by omega)
  unfold ledR ledI
  split
  ·rename_i hs
   obtain⟨q1,q2,q3⟩:=VO nx n ih hs (ks:=nx j) (done:=[]) (fun k hk=>⟨hk,hnx j (by omega) k hk⟩) (fun _ k hk=>by cases hk)
   refine⟨q1.r,q1.le,fun e=>⟨(q1.eq e).1,fun i hi=> ?_⟩,q1.lt⟩
   by_cases hij:i=j
   ·grind
   ·exact(q1.eq e).2 i (by omega)
  ·rename_i hs
   refine⟨ih.r,ih.le,fun e=>⟨(ih.eq e).1,fun i hi hsi=> ?_⟩,ih.lt⟩
   by_cases hij:i=j
   ·subst hij;rw[←(ih.eq e).1] at hsi;exact absurd hsi hs
   ·exact(ih.eq e).2 i (by omega) hsi
theorem z6A (hnx: ∀i,i<n→ ∀k∈nx i,k<n) {s:List Bool} (h:RInv nx n s) (e:(ledR nx s n).2=false) (i:Nat):s.getD i false=true↔Rch nx i:=by
 have:=(WZ nx n hnx h n (w08 _)).eq e
 refine h.all nx (fun j hj=>this.2 j ?_ hj) i
 rw[w03] at hj
 rcases w43 j s.length with q|q
 ·rw[←h.len];exact q
 ·grind
theorem RInv.start (hn:0<n):RInv nx n ((List.replicate n false).set 0 true):=(RJ.start nx n hn).r
end
end Go.Vs
end
section
namespace Go.Proofs.W
open Go.Vs
theorem ZG (s l k st n:Nat):evLen (.grow s l k st n)=some (.int .i64 n):=rfl
theorem Vb (s s' l k st n:Nat) (i:AV):evIaddr s (.grow s' l k st n) i=(idx i n).map fun j=> .ptr l k st (j*s):=rfl
theorem Va (s s' l k st n:Nat) (hi:AV):evSlice s (.grow s' l k st n) none (some hi) none=(bound (some hi) n n).map fun h=> .grow s' l k st h:=by
 simp only[evSlice]
 cases bound (some hi) n n<;>simp[bound]
theorem z8Y {S':List (List Blk)} {st nx fl n:Nat} {cs:List AV} {rest:List Blk} {live:List (List Nat)} {v:AV} (hv:v.cells=[v]) (hn:n≤cs.length) (hfl:fl≤S'.length) (hb:(n+1)*8≤140737488355328):
  evApp ⟨S',⟨st,cs⟩::rest,nx,live,fl⟩ 1 8 (.grow 1 S'.length 0 st n) (.list 1 .full [v])=some (.grow 1 S'.length 0 nx (n+1),⟨S',⟨nx,cs.take n++[v]⟩::rest,nx+1,live,fl⟩):=by
 unfold evApp
 rw[zh]
 have hblk:Mem.blk ⟨S',⟨st,cs⟩::rest,nx,live,fl⟩ S'.length 0 st=some cs:=by simp[Mem.blk,Mem.row]
 simp only[hblk]
 rw[if_pos (by simp[hn,hfl];omega)]
 simp[Mem.put,hv]
def frm:Option Nat→Int
 |none=> -1
 |some i=>i
def Meets {σ:Type} (S:List (List Blk)) (C:σ→List Blk) (f:AV) (fl:Nat) (P:σ→Nat→Option Nat→Prop) (upd:σ→Nat→Option Nat→σ×Bool):Prop:=
 ∃g first caps,f= .fn (.func g) first caps∧ ∀s k fr c nz lv,P s k fr→ ∃nz',CALL tab g (first++[.int .i64 (k:Nat),.int .i64 (frm fr)]++caps) ⟨S++[C s],c,nz,lv,fl⟩=some (.bool (upd s k fr).2,⟨S++[C (upd s k fr).1],c,nz',lv,fl⟩)
theorem z9g {lo:Nat} {S':List (List Blk)} {cur:List Blk} {y:AV} {l:List Nat} (h:LI lo S'.length cur y l) {j:Nat} (hj:j<l.length) {nx fl:Nat} {live:List (List Nat)}:
  ∃a,evIaddr 1 y (.int .i64 (j:Nat))=some a∧(Mem.at ⟨S',cur,nx,live,fl⟩ a).bind (fun cs=>(takeV false 1 cs))=some (.int .i64 (l[j]:Nat)):=by
 rcases h with⟨h,_⟩|⟨k,st,cs,rfl,h2,h3,h4,_⟩
 ·have e1:nth y j= .int .i64 (l[j]:Nat):=h.nth hj
  exact⟨_,h.at .i64 hj,by rw[e1];rfl⟩
 ·refine⟨.ptr S'.length k st (j*1),?_,?_⟩
  ·simp only[evIaddr,zX .i64 j l.length hj,w06]
  ·simp only[Mem.at,Mem.blk,Mem.row,beq_self_eq_true,if_true,h2,w06,w36,w11]
   exact kz h4 h3 hj
theorem zaz {lv lo:Nat} {a b:Blk} {r:List Blk} {y:AV} {l:List Nat} (h:LI (lo+1) lv (a::r) y l):LI (lo+1) lv (b::r) y l:=by
 rcases h with h|⟨k,st,cs,h1,h2,h3,h4,h5⟩
 ·exact .inl h
 ·cases k with
  |zero=>omega
  |succ k=>exact .inr ⟨k+1,st,cs,h1,h2,h3,h4,h5⟩
theorem z5X {tab:Nat→Option AFunc} {o:Option (List AV)} {f:List AV→Option AV} {m:Mem} {d:Option Nat} {l:List AOper} {ρ:List AV} {k:Kont} {v:AV} (h:o.bind f=some v) (q:Xs tab l (setDst ρ d v) m k):Xv tab (o.bind fun cs=>(f cs).map fun v=>(v,m)) d l ρ k:=by
 cases o with
 |none=>cases h
 |some cs=>simp only[w36] at h⊢;rw[h];simp only[w06];rw[tF];exact q
theorem z2c {σ:Type} (l:List DInstr) (x:AV) (hx:IsSl IsInstr 4 l x) (hjm: ∀j,j<l.length→Jmp (inA l j)) (S:List (List Blk)) (C:σ→List Blk) (f:AV) (fl:Nat) (hfl:fl≤S.length) (P:σ→Nat→Option Nat→Prop) (upd:σ→Nat→Option Nat→σ×Bool)
  (hf:Meets S C f fl P upd) (J:σ→List Nat→Prop) (μ:σ→List Nat→Nat) (s0:σ) (hP0:P s0 0 none) (hJ0:J (upd s0 0 none).1 [0]) (hlen: ∀s op,J s op→op.length≤1000000000) (hop: ∀s op,J s op→ ∀i∈op,i<l.length)
  (hP: ∀s op i,J s (op++[i])→ ∀j (hj:j<(nxt l i).length),P (proc upd i ((nxt l i).take j) (s,op)).1 (nxt l i)[j] (some i))
  (hnext: ∀s op i,J s (op++[i])→J (proc upd i (nxt l i) (s,op)).1 (proc upd i (nxt l i) (s,op)).2∧μ (proc upd i (nxt l i) (s,op)).1 (proc upd i (nxt l i) (s,op)).2<μ s (op++[i]))
  (nx:Nat) (live:List (List Nat)): ∃s' n',CALL tab 336 [x,f] ⟨S,C s0,nx,live,fl⟩=some (.tup [],⟨S,C s',n',live,fl⟩)∧J s' []:=by
 suffices h:Does tab 336 [x,f] ⟨S,C s0,nx,live,fl⟩ fun v m'=> ∃s' n',v= .tup []∧m'=⟨S,C s',n',live,fl⟩∧J s' [] by
  obtain⟨z,h1,s',n',h2,h3,h4⟩:=h
  grind
 refine yD (tT kQ) ?_ (Nat.le_of_ble_eq_true rfl)
 obtain⟨g,first,caps,rfl,hcall⟩:=hf
 have hmx:=hx.max
 have hl: ∀s,(S++[C s]).length=S.length+1:=fun s=>by simp
 obtain⟨n1,hc0⟩:=hcall s0 0 none [] nx ([]::live) hP0
 replace hc0:CALL tab g (first++[.int .i64 0,.int .i64 (-1)]++caps) ⟨S++[C s0],[],nx,[]::live,fl⟩=some (.bool (upd s0 0 none).2,⟨S++[C (upd s0 0 none).1],[],n1,[]::live,fl⟩):=hc0
 simp only[kQ,go_sem,G3,G6,G8,hc0,evLitB,w2d,List.flatMap_nil,hl]
 refine zg (α:=σ×List Nat) (fun z σ'=>J z.1 z.2∧ ∃nz st cs,z.2.length≤cs.length∧cs.take z.2.length=ints z.2∧heads [0,1,4] 1 σ'=⟨tmps 42 [(0,x),(1,.fn (.func g) first caps),(4,.grow 1 (S.length+1) 0 st z.2.length)],⟨S++[C z.1],[⟨st,cs⟩],nz,[]::live,fl⟩⟩) (fun z=>μ z.1 z.2) ((upd s0 0 none).1,[0]) ?_ ?_
 ·refine⟨hJ0,?_⟩
  simp only[go_sem,G6,G7]
  exact⟨_,_,_,by simp,rfl,rfl⟩
 ·rintro⟨s,op⟩ σ' ⟨hJ,nz,st,cs,hcs,htk,hσ⟩
  rw[hσ]
  clear hσ σ'
  dsimp only at hJ hcs htk⊢
  rcases List.eq_nil_or_concat op with rfl|⟨op,i,rfl⟩
  ·simp only[go_sem,G6,G7,G8,ZG,w46,show((((0:Nat):Int))>0)=False from eq_false (by decide)]
   rw[yg rfl rfl,z5]
   grind
  ·rw[List.concat_eq_append] at*
   have hi:i<l.length:=hop _ _ hJ i (by simp)
   have hol:=hlen _ _ hJ
   have hn:(op++[i]).length=op.length+1:=by simp
   rw[hn] at hcs htk hol
   have hgt:(((op.length+1:Nat):Int)>0)=True:=eq_true (by omega)
   have hsub:IntKind.i64.wrap (((op.length+1:Nat):Int)-1)=((op.length:Nat):Int):=by rw[z6 (by omega) (by omega)];omega
   have hix:idx (.int .i64 ((op.length:Nat):Int)) (op.length+1)=some op.length:=zX .i64 _ _ (by omega)
   have hld:takeV false 1 (cs.drop op.length)=some (.int .i64 (i:Nat)):=by
    have h1:cs.take (op++[i]).length=ints (op++[i]):=by rw[hn];exact htk
    have:=kz h1 (by rw[hn];exact hcs) (j:=op.length) (by simp)
    grind
   have hbd:bound (some (.int .i64 ((op.length:Nat):Int))) (op.length+1) (op.length+1)=some op.length:=by
    unfold bound;simp only;rw[if_pos (by omega)];simp
   have htk2:cs.take op.length=ints op:=by
    have:(cs.take (op.length+1)).take op.length=(ints (op++[i])).take op.length:=by rw[htk]
    rw[List.take_take,w0c (by omega)] at this
    rw[this];simp[ints]
   obtain⟨y,bs,k1,hB,hLI⟩:=z2f l x hx i hi (hjm i hi) ⟨S++[C s],[⟨st,cs⟩],nz,[]::live,fl⟩ (by simp;omega)
   simp only[id,hl] at hB hLI
   have hyl:=hLI.len
   simp only[go_sem,G6,G7,G8,ZG,hn,hgt,hsub,Vb,hix,hl,w11,hld,Va,hbd,hB,hyl]
   obtain⟨hJn,hμ⟩:=hnext s op i hJ
   refine zg (α:=Nat) (fun j σ'=>j≤(nxt l i).length∧ ∃nz st cs,(proc upd i ((nxt l i).take j) (s,op)).2.length≤cs.length∧cs.take (proc upd i ((nxt l i).take j) (s,op)).2.length=ints (proc upd i ((nxt l i).take j) (s,op)).2∧LI 1 (S.length+1) (⟨st,cs⟩::bs) y (nxt l i)∧
    heads [0,1,4,5,27,28,29] (bs.length+1) σ'=⟨tmps 42 [(0,x),(1,.fn (.func g) first caps),(4,.grow 1 (S.length+1) 0 st (proc upd i ((nxt l i).take j) (s,op)).2.length),(5,.int .i64 i),(27,y),(28,.int .i64 (nxt l i).length),(29,.int .i64 j)],⟨S++[C (proc upd i ((nxt l i).take j) (s,op)).1],⟨st,cs⟩::bs,nz,[]::live,fl⟩⟩) (fun j=>(nxt l i).length-j) 0 ?_ ?_
   ·refine⟨w0e _,?_⟩
    simp only[go_sem,G6,G7,w0a,w1a,proc,List.foldl_nil]
    grind
   ·rintro j σ' ⟨hj,nz,st,cs,hcs,htk,hLI,hσ⟩
    rw[hσ]
    clear hσ σ'
    dsimp only at hj hcs htk⊢
    by_cases h:j<(nxt l i).length
    ·have hp:=hP s op i hJ j h
     have hpl:=z2w upd (i:=i) ((nxt l i).take j) (s,op)
     have hstep:=z6p upd (i:=i) h (s,op)
     have hn2:=WR l i
     rw[w20] at hpl
     dsimp only at hpl
     generalize proc upd i ((nxt l i).take j) (s,op)=pr at*
     obtain⟨s1,o1⟩:=pr
     dsimp only at hcs htk hp hpl
     have hlt:((j:Int)<((nxt l i).length:Nat))=True:=eq_true (by omega)
     have hsu:IntKind.i64.wrap ((j:Int)+1)=((j+1:Nat):Int):=by rw[z6 (by omega) (by omega)];omega
     have hLI':LI 1 (S++[C s1]).length (⟨st,cs⟩::bs) y (nxt l i):=by rw[hl];exact hLI
     obtain⟨a,ha,hat⟩:=z9g hLI' h (nx:=nz) (fl:=fl) (live:=[]::live)
     simp only[go_sem,G6,G7,G8,hlt,ha]
     refine z5X hat ?_
     obtain⟨n2,hc⟩:=hcall s1 (nxt l i)[j] (some i) (⟨st,cs⟩::bs) nz ([]::live) hp
     simp only[frm] at hc
     simp only[go_sem,G6,G8,hc]
     cases hb:(upd s1 (nxt l i)[j] (some i)).2
     ·simp only[go_sem,G6,G8,hsu,w0a]
      refine⟨j+1,by omega,h,n2,st,cs,?_⟩
      rw[hstep]
      unfold procK
      grind
     ·have happ:=z8Y (S':=S++[C (upd s1 (nxt l i)[j] (some i)).1]) (st:=st) (nx:=n2) (fl:=fl) (n:=o1.length) (cs:=cs) (rest:=bs) (live:=[]::live) (v:= .int .i64 ((nxt l i)[j]:Nat)) rfl hcs (by simp;omega) (by omega)
      rw[hl] at happ
      simp only[go_sem,G6,G8,happ,hsu,w0a]
      refine⟨j+1,by omega,h,n2+1,n2,cs.take o1.length++[.int .i64 ((nxt l i)[j]:Nat)],?_⟩
      rw[hstep]
      unfold procK
      dsimp only
      rw[hb]
      simp only[if_true,w15,w29,w20]
      refine⟨by omega,?_,zaz hLI,trivial⟩
      rw[htk,w35 (by simp[ints])]
      simp[ints]
    ·have hje:j=(nxt l i).length:=by omega
     subst hje
     rw[w0a] at hcs htk⊢
     simp only[go_sem,G6,G7,G8,show(((nxt l i).length:Nat):Int)<((nxt l i).length:Nat)↔False from⟨fun h=>by omega,False.elim⟩,w1a]
     refine⟨proc upd i (nxt l i) (s,op),hμ,hJn,nz,st,cs,hcs,htk,rfl⟩
noncomputable def err07 (l:List DInstr):Int:=if pb (Ok07 l) then 0 else 8
theorem Zi {l:List DInstr} (h:Ok07 l):err07 l=0:=by unfold err07;rw[yB h];rfl
theorem jo {l:List DInstr} (h: ¬Ok07 l):err07 l=8:=by unfold err07;rw[zS h];rfl
structure CodeP (l:List DInstr):Prop where
 len:1≤l.length∧l.length≤200
 p: ∀x∈l,InstrP x
 w: ∀x∈l,WfI x∧inU8 x.op
theorem CodeP.at {l:List DInstr} (h:CodeP l) {j:Nat} (hj:j<l.length):InstrP (inA l j)∧WfI (inA l j)∧inU8 (inA l j).op:=by
 rw[←z5I hj];exact⟨h.p _ (w04 hj),h.w _ (w04 hj)⟩
def iEnd:DInstr:=⟨34,-1,0,0⟩
theorem z3i (x:DInstr):eqAt [(0,1),(1,1),(2,1),(3,1)] [.int .u8 x.op,.int .i64 x.a,.int .i64 x.b,.int .i64 x.c] [.int .u8 34,.int .i64 (-1),.int .i64 0,.int .i64 0]=some (decide (x=iEnd)):=by
 obtain⟨o,a,b,c⟩:=x
 simp only[eqAt,eqCell,List.getD_cons_zero,List.getD_cons_succ,sameKind,if_true]
 by_cases h1:o=34
 ·by_cases h2:a= -1
  ·by_cases h3:b=0
   ·by_cases h4:c=0
    ·subst h1;subst h2;subst h3;subst h4;rfl
    ·have e4:(c==0)=false:=by simpa using h4
     subst h1;subst h2;subst h3
     simp only[beq_self_eq_true,e4]
     rw[decide_eq_false (by unfold iEnd;simp[h4])]
   ·have e3:(b==0)=false:=by simpa using h3
    subst h1;subst h2
    simp only[beq_self_eq_true,e3]
    rw[decide_eq_false (by unfold iEnd;simp[h3])]
  ·have e2:(a== -1)=false:=by simpa using h2
   subst h1
   simp only[beq_self_eq_true,e2]
   rw[decide_eq_false (by unfold iEnd;simp[h2])]
 ·have e1:(o==34)=false:=by simpa using h1
  simp only[e1]
  rw[decide_eq_false (by unfold iEnd;simp[h1])]
theorem jc (l:List DInstr) (x:AV) (hx:IsSl IsInstr 4 l x) (hc:CodeP l) (m:Mem) (hf:m.floor≤m.stk.length+1):Okv tab 335 [x] m (.int .i64 (err07 l)):=by
 refine zp (tT ZZ) ?_
 obtain⟨stk,cur,nx,live,fl⟩:=m
 dsimp only at hf
 have hf':fl≤(stk++[cur]).length+1:=by simp;omega
 have hmx:=hx.max
 have hln:=hc.len
 have e0:((l.length:Int)==0)=false:=by rw[beq_eq_false_iff_ne];omega
 have hsub:IntKind.i64.wrap ((l.length:Int)-1)=((l.length-1:Nat):Int):=by rw[z6 (by omega) (by omega)];omega
 have hlast:=hx.at .i64 (show l.length-1<l.length by omega)
 have elast:=hx.inA (show l.length-1<l.length by omega)
 simp only[ZZ,go_sem,G3,G6,G9,G8,hx.len,e0,show¬((l.length:Int)>200) by omega,hsub,hlast,elast,evBuild,z3i]
 by_cases hE:inA l (l.length-1)=iEnd
 case neg=>
  simp only[go_sem,G6,G8,hE]
  rw[z4 rfl rfl,z5]
  exact⟨⟨_,rfl⟩,by rw[jo fun h=>hE h.2]⟩
 simp only[go_sem,G6,G8,hE,hx.len]
 refine zg (α:=Nat) (fun i σ=>(i≤l.length∧ ∀j,j<i→((inA l j).op=22→(inA l j).a<l.length)∧((inA l j).op=23→(inA l j).b<l.length))∧ ∃nz,heads [3,23,24,25] 0 σ=⟨tmps 53 [(3,.int .i64 l.length),(23,x),(24,.int .i64 l.length),(25,.int .i64 i)],⟨stk++[cur],[],nz,[]::live,fl⟩⟩) (fun i=>l.length-i) 0 ?_ ?_
 ·refine⟨⟨w0e _,fun j h=>absurd h (w34 _)⟩,?_⟩
  simp only[go_sem,G6,G7]
  simp
 ·rintro i σ ⟨⟨hi,ht⟩,nz,hσ⟩
  rw[hσ]
  clear hσ σ
  dsimp only at hi ht⊢
  by_cases h:i<l.length
  ·obtain⟨c1,c2,c3⟩:=hc.at h
   have hC:=fun c nz=>(jX (inA l i) ⟨stk++[cur],c,nz,[]::live,fl⟩ hf').eq
   rw[jF c1] at hC
   have hsucc:=zq h hmx
   simp only[go_sem,G3,G6,G7,G8,w02,h,hx.at _ h,hx.inA h,hC,show((0:Int) !=0)=false from rfl]
   repeat' (((first|refine uD ?_ ?_|refine xu ?_ ?_|refine xx ?_ ?_|refine xq ?_ ?_|refine xr ?_ ?_)<;>intro hq)<;>simp only[go_sem,G6,G8,hq,hsucc])
   all_goals first
    |(rw[z4 rfl rfl,z5];refine⟨⟨_,rfl⟩,?_⟩;rw[jo fun h'=> ?_];have:=h'.1 i h;simp only[beq_iff_eq,beq_eq_false_iff_ne,ne_eq,decide_eq_true_eq,decide_eq_false_iff_not] at*;omega)
    |(refine⟨i+1,by omega,⟨by omega,fun j hj=> ?_⟩,_,rfl⟩
      rcases w43 j i with q|q
      ·exact ht j q
      ·have:j=i:=by omega
       subst this
       simp only[beq_iff_eq,beq_eq_false_iff_ne,ne_eq,decide_eq_false_iff_not] at*
       omega)
  ·have:i=l.length:=by omega
   subst this
   simp only[go_sem,G6,G7,G8,w02,h]
   rw[z4 rfl rfl,z5]
   exact⟨⟨_,rfl⟩,by rw[Zi ⟨ht,hE⟩]⟩
theorem QR (l:List DInstr) (x:AV) (hx:IsSl IsInstr 4 l x) (hc:CodeP l) (m:Mem):Okv tab 356 [x] m (.int .i64 (err07 l)):=by
 refine zp (tT ui) ?_
 obtain⟨stk,cur,nx,live,fl⟩:=m
 have hmx:=hx.max
 have hln:=hc.len
 simp only[ui,go_sem,G6,G8,hx.len,show¬((l.length:Int)<1) by omega,show¬((l.length:Int)>200) by omega]
 refine zg (α:=Nat) (fun i σ=>(i≤l.length∧ ∀j,j<i→((inA l j).op=22→(inA l j).a<l.length)∧((inA l j).op=23→(inA l j).b<l.length))∧ ∃nz,heads [0,3] 0 σ=⟨tmps 58 [(0,x),(3,.int .i64 i)],⟨stk++[cur],[],nz,[]::live,fl⟩⟩) (fun i=>l.length-i) 0 ?_ ?_
 ·refine⟨⟨w0e _,fun j h=>absurd h (w34 _)⟩,?_⟩
  simp only[go_sem,G6,G7]
  simp
 ·rintro i σ ⟨⟨hi,ht⟩,nz,hσ⟩
  rw[hσ]
  clear hσ σ
  dsimp only at hi ht⊢
  by_cases h:i<l.length
  ·obtain⟨c1,c2,c3⟩:=hc.at h
   have hC:=fun m=>(XE (inA l i) c2 m).eq
   rw[jF c1] at hC
   have hsucc:=zq h hmx
   have hlx:=hx.len
   simp only[go_sem,G3,G6,G7,G8,w02,h,hx.len,hx.at _ h,hx.inA h,hC,show((0:Int) !=0)=false from rfl]
   repeat' (((first|refine uD ?_ ?_|refine xu ?_ ?_|refine xx ?_ ?_|refine xq ?_ ?_|refine xr ?_ ?_)<;>intro hq)<;>simp only[go_sem,G6,G8,hq,hsucc,hlx])
   all_goals first
    |(rw[z4 rfl rfl,z5];refine⟨⟨_,rfl⟩,?_⟩;rw[jo fun h'=> ?_];have:=h'.1 i h;simp only[beq_iff_eq,beq_eq_false_iff_ne,ne_eq,decide_eq_true_eq,decide_eq_false_iff_not] at*;omega)
    |(refine⟨i+1,by omega,⟨by omega,fun j hj=> ?_⟩,_,rfl⟩
      rcases w43 j i with q|q
      ·exact ht j q
      ·have:j=i:=by omega
       subst this
       simp only[beq_iff_eq,beq_eq_false_iff_ne,ne_eq,decide_eq_false_iff_not] at*
       omega)
  ·have:i=l.length:=by omega
   subst this
   have hsub:IntKind.i64.wrap ((l.length:Int)-1)=((l.length-1:Nat):Int):=by rw[z6 (by omega) (by omega)];omega
   have hlast:=hx.at .i64 (show l.length-1<l.length by omega)
   have elast:=hx.inA (show l.length-1<l.length by omega)
   simp only[go_sem,G3,G6,G9,G7,G8,w02,h,hx.len,hsub,hlast,elast,evBuild,z3i]
   by_cases hE:inA l (l.length-1)=iEnd
   ·simp only[go_sem,G6,G8,hE]
    rw[z4 rfl rfl,z5]
    exact⟨⟨_,rfl⟩,by rw[Zi ⟨ht,hE⟩]⟩
   ·simp only[go_sem,G6,G8,hE]
    rw[z4 rfl rfl,z5]
    exact⟨⟨_,rfl⟩,by rw[jo fun h=>hE h.2]⟩
theorem Wa {x:DInstr} (h:InstrP x):Jmp x:=by
 obtain⟨a,b,c,hs,f1,f2,f3⟩:=h
 refine⟨fun e=> ?_,fun e=> ?_⟩
 ·rw[e] at hs
  have:shp 22=[105,45,45]:=by decide
  rw[this] at hs
  injection hs with hs _
  subst hs
  have:lo 105=0:=by decide
  unfold fitsK at f1;omega
 ·rw[e] at hs
  have:shp 23=[114,105,45]:=by decide
  rw[this] at hs
  injection hs with _ hs
  injection hs with hs _
  subst hs
  have:lo 105=0:=by decide
  unfold fitsK at f2;omega
theorem VF {l:List DInstr} (hc:CodeP l) (h:Ok07 l) {i:Nat} (hi:i<l.length): ∀k∈nxt l i,k<l.length:=by
 have hj:=Wa (hc.at hi).1
 have h1:=h.1 i hi
 have hne:(inA l i).op≠34→i+1<l.length:=fun e=>by
  by_cases hl:i=l.length-1
  ·have:=h.2;rw[←hl] at this;rw[this] at e;exact absurd rfl e
  ·omega
 intro k hk
 unfold nxt nxt1 at hk
 grind
theorem zb4 (l:List DInstr) (x:AV) (hx:IsSl IsInstr 4 l x) (hc:CodeP l) (h7:Ok07 l) (i:Nat) (hi:i<l.length) (m:Mem) (hf:m.floor≤m.stk.length+1):CallLI 351 [x,.int .i64 i] (nxt l i) (fun y=> .tup [y,.int .i64 0]) m:=by
 refine z0V (tT X3) ?_
 obtain⟨stk,cur,nx,live,fl⟩:=m
 dsimp only at hf
 have hf':fl≤(stk++[cur]).length+1:=by simp;omega
 have hC:=fun c nz=>(jc l x hx hc ⟨stk++[cur],c,nz,[]::live,fl⟩ hf').eq
 rw[Zi h7] at hC
 simp only[X3,go_sem,G3,G6,G8,hC,show((0:Int) !=0)=false from rfl,hx.len,show¬((i:Int)<0) by omega,show¬((i:Int)≥(l.length:Nat)) by omega]
 obtain⟨y,bs,k,h1,h2⟩:=z2f l x hx i hi (Wa (hc.at hi).1) ⟨stk++[cur],[],callNx tab 335 [x] ⟨stk++[cur],[],nx,[]::live,fl⟩,[]::live,fl⟩ hf'
 simp only[id,w2e] at h1 h2
 simp only[go_sem,G6,G8,h1]
 rcases h2 with⟨h2,h3⟩|⟨q,st,cs,rfl,h3,h4,h5,_⟩
 ·rw[Zy (by simp only[AV.refs,refsAny,h2.refs];rfl) (by simp only[AV.toks,toksAll,h3];rfl),z5]
  exact⟨y,[],_,rfl,rfl,.inl ⟨h2,h3⟩⟩
 ·obtain⟨bs',hbs,hbe⟩:=YD (m0:=⟨stk,cur,nx,live,fl⟩) (stk:=stk) (cur:=cur) (c':=bs) (nx':=k) (own:=[]) (live':=live) (fl':=fl) (k:=q) (st:=st) (s:=1) (n:=(nxt l i).length) (w:=fun y=> .tup [y,.int .i64 0]) (.inr rfl)
  rw[hbs,z5]
  exact⟨_,bs',_,rfl,rfl,QE hbe h3 h4 h5⟩
def bools (s:List Bool):List AV:=s.map .bool
theorem th (s:List Bool):(bools s).length=s.length:=by simp[bools]
theorem xN {s:List Bool} {j:Nat} (h:j<s.length):takeV false 1 ((bools s).drop j)=some (.bool (s.getD j false)):=by
 refine li _ _ ?_
 rw[List.head?_drop]
 simp[bools,w03,h]
theorem tg {s:List Bool} {j:Nat} (v:Bool) (h:j<s.length):(bools s).take j++[.bool v]++(bools s).drop (j+1)=bools (s.set j v):=by
 unfold bools
 rw[List.map_set,w5c,if_pos (by simpa using h)];simp
theorem Zl (n:Nat):flatRep [.bool false] n=bools (List.replicate n false):=by
 induction n with
 |zero=>rfl
 |succ n ih=>rw[flatRep,ih,w44];rfl
theorem Uf (l l' k:Nat) (s:List Bool):shiftAll l l' k (bools s)=bools s:=by
 induction s with
 |nil=>rfl
 |cons b r ih=>simp only[bools,w30,shiftAll,AV.shift] at ih⊢;rw[ih]
theorem z2P {m0:Mem} {stk:List (List Blk)} {cur c':List Blk} {nx' fl':Nat} {own:List Nat} {live':List (List Nat)} {r:AV} (h1:r.refs (stk++[cur]).length=true) (h2:r.toks=[]):
  leave m0 ⟨stk++[cur],c',nx',own::live',fl'⟩ r=some (r.shift (stk++[cur]).length stk.length cur.length,⟨stk,cur++c'.map (fun b=>⟨b.st,shiftAll (stk++[cur]).length stk.length cur.length b.cs⟩),nx',live',m0.floor⟩):=by
 have e:own.filter (fun _=>false)=[]:=by simp
 unfold leave
 simp only[w53,w41,Option.some_or,h1,if_true,h2,w5b,e,pushToks,w54]
 simp
def CallArr (f:Nat) (args:List AV) (n:Nat) (Q:List AV→Prop) (w:AV→AV) (m:Mem):Prop:=
 ∃bs k j st cs,CALL tab f args m=some (w (.arr m.stk.length j st 0 n),{m with cur:=m.cur++bs,nx:=k})∧(m.cur++bs)[j]? =some ⟨st,cs⟩∧m.cur.length≤j∧Q cs
theorem ZL {f:Nat} {fn:AFunc} (h:tab f=some fn) {args:List AV} {n:Nat} {Q:List AV→Prop} {w:AV→AV} {m:Mem} (hx:X tab fn.body (mk fn.ntmps (.tup []) (numb 0 args)) (enter m) (.fin fn.res m fun v m'=> ∃bs k j st cs,v=w (.arr m.stk.length j st 0 n)∧m'={m with cur:=m.cur++bs,nx:=k}∧(m.cur++bs)[j]? =some ⟨st,cs⟩∧m.cur.length≤j∧Q cs)) (hn:args.length≤fn.ntmps:=by exact Nat.le_of_ble_eq_true rfl):
  CallArr f args n Q w m:=by
 obtain⟨x,h1,bs,k,j,st,cs,h2,h3,h4⟩:=yD h hx hn;exact⟨bs,k,j,st,cs,by rw[h1,←h2,←h3],h4⟩
theorem V7 {stk:List (List Blk)} {cur c':List Blk} {nx nx' fl fl':Nat} {own:List Nat} {live:List (List Nat)} {j st n:Nat} {cs:List AV} {Q:List AV→Prop} {w:AV→AV} (hw:w=id∨ ∃z,z.toks=[]∧z.refs (stk++[cur]).length=false∧z.shift (stk++[cur]).length stk.length cur.length=z∧w=fun y=> .tup [y,z])
  (hj:c'[j]? =some ⟨st,cs⟩) (hs:shiftAll (stk++[cur]).length stk.length cur.length cs=cs) (hQ:Q cs):
  Opt (leave ⟨stk,cur,nx,live,fl⟩ ⟨stk++[cur],c',nx',own::live,fl'⟩ (w (.arr (stk++[cur]).length j st 0 n))) fun r=> ∃bs k j st cs,r.1=w (.arr stk.length j st 0 n)∧r.2=⟨stk,cur++bs,k,live,fl⟩∧(cur++bs)[j]? =some ⟨st,cs⟩∧cur.length≤j∧Q cs:=by
 have h1:(w (.arr (stk++[cur]).length j st 0 n)).refs (stk++[cur]).length=true:=by
  rcases hw with rfl|⟨z,_,_,_,rfl⟩<;>simp[AV.refs,refsAny]
 have h2:(w (.arr (stk++[cur]).length j st 0 n)).toks=[]:=by
  rcases hw with rfl|⟨z,hz,_,_,rfl⟩
  ·rfl
  ·simp only[AV.toks,toksAll,hz,w21]
 have h3:(w (.arr (stk++[cur]).length j st 0 n)).shift (stk++[cur]).length stk.length cur.length=w (.arr stk.length (j+cur.length) st 0 n):=by
  rcases hw with rfl|⟨z,_,_,hz,rfl⟩
  ·simp[AV.shift]
  ·simp[AV.shift,shiftAll];simpa using hz
 rw[z2P h1 h2,z5,h3]
 refine⟨_,_,j+cur.length,st,cs,rfl,rfl,?_,by omega,hQ⟩
 grind
theorem Zg (S:List (List Blk)) (X c:List Blk):((S++[X])++[c]).getD S.length []=X:=by simp[w03]
theorem Xm (S:List (List Blk)) (X c:List Blk) (f:List Blk→List Blk):((S++[X])++[c]).modify S.length f=(S++[f X])++[c]:=by
 rw[w33 (by simp)]
 simp
theorem xA {stk:List (List Blk)} {cur:List Blk} {nx fl:Nat} {live:List (List Nat)} {s bytes n:Nat} {z:List AV} (hb:bytes*n≤281474976710656) (hn:n≤9223372036854775807) (hz:z.length=s):
  evMake ⟨stk,cur,nx,live,fl⟩ s bytes z (.int .i64 (n:Int)) (.int .i64 (n:Int))=some (.arr stk.length cur.length nx 0 n,⟨stk,cur++[⟨nx,flatRep z n⟩],nx+1,live,fl⟩):=by
 unfold evMake
 grind
theorem YG (S:List (List Blk)) (X c:List Blk):(S.length==((S++[X])++[c]).length)=false:=by simp
def CR (a b L n:Nat) (s:List Bool):List Blk:=[⟨a,bools s⟩,⟨b,[.arr L 0 a 0 n]⟩]
theorem z3W (S:List (List Blk)) (a b n fl:Nat) (hfl:fl≤S.length):Meets S (CR a b S.length n) (.fn (.func 337) [] [.ptr S.length 1 b 0]) fl (fun s k _=>s.length=n∧k<n) updR:=by
 refine⟨_,_,_,rfl,?_⟩
 rintro s k fr c nz lv ⟨hs,hk⟩
 suffices h:Does tab 337 [.int .i64 (k:Nat),.int .i64 (frm fr),.ptr S.length 1 b 0] ⟨S++[CR a b S.length n s],c,nz,lv,fl⟩ fun v m'=> ∃nz',v= .bool (updR s k fr).2∧m'=⟨S++[CR a b S.length n (updR s k fr).1],c,nz',lv,fl⟩ by
  obtain⟨z,h1,n',h2,h3⟩:=h
  grind
 refine yD (tT qr) ?_ (Nat.le_of_ble_eq_true rfl)
 have hix:idx (.int .i64 (k:Int)) n=some k:=zX .i64 k n hk
 have hg:=xN (s:=s) (j:=k) (by omega)
 have hst:=tg (s:=s) (j:=k) true (by omega)
 have hbl:k+1≤(bools s).length:=by rw[th];omega
 simp only[qr,go_sem,G3,G6,G8,YG,Zg,CR,z7,hix,w11,hg,hfl,hbl,hst,Xm,Z9]
 rw[yg rfl rfl,z5]
 exact⟨_,rfl,rfl⟩
theorem z6c (l:List DInstr) (x:AV) (hx:IsSl IsInstr 4 l x) (hc:CodeP l) (h7:Ok07 l) (m:Mem) (hf:m.floor≤m.stk.length+1):
  CallArr 298 [x] l.length (fun cs=> ∃s:List Bool,cs=bools s∧s.length=l.length∧ ∀i,i<l.length→(s.getD i false=true↔Rch (nxt l) i∨i=l.length-1)) (fun y=> .tup [y,.int .i64 0]) m:=by
 refine ZL (tT td) ?_
 obtain⟨stk,cur,nx,live,fl⟩:=m
 dsimp only at hf
 have hf':fl≤(stk++[cur]).length+1:=by simp;omega
 have hln:=hc.len
 have hC:=fun c nz=>(jc l x hx hc ⟨stk++[cur],c,nz,[]::live,fl⟩ hf').eq
 rw[Zi h7] at hC
 simp only[td,go_sem,G6,G8,hC,show((0:Int) !=0)=false from rfl,hx.len,xA (s:=1) (bytes:=1) (n:=l.length) (z:=[.bool false]) (by omega) (by omega) rfl,Zl]
 generalize callNx tab 335 _ _=nz
 have hnx:=fun i hi=>VF hc h7 (i:=i) hi
 obtain⟨s',n',hcall,hJ⟩:=z2c l x hx (fun j hj=>Wa (hc.at hj).1) (stk++[cur]) (CR nz (nz+1) (stk++[cur]).length l.length) (.fn (.func 337) [] [.ptr (stk++[cur]).length 1 (nz+1) 0]) fl (by simp;omega) _ updR
  (z3W (stk++[cur]) nz (nz+1) l.length fl (by simp;omega)) (RJ (nxt l) l.length) (fun s op=>2*unm s+op.length) (List.replicate l.length false) ⟨by simp,by omega⟩ (RJ.start (nxt l) l.length (by omega))
  (fun s op h=>by have:=h.b;omega) (fun s op h i hi=>(h.o i hi).1)
  (fun s op i h j hj=>by
   have hi:=(h.o i (by simp)).1
   have:=RK.all (nxt l) l.length (h.pop (nxt l) l.length) (ks:=(nxt l i).take j) (fun k hk=>⟨w3d hk,hnx i hi k (w3d hk)⟩)
   exact⟨this.r.len,hnx i hi _ (w04 hj)⟩)
  (fun s op i h=>h.next (nxt l) l.length hnx) (nz+1+1) ([]::live)
 simp only[CR] at hcall
 have hsl:=hJ.r.len
 have hsub:IntKind.i64.wrap ((l.length:Int)-1)=((l.length-1:Nat):Int):=by rw[z6 (by omega) (by omega)];omega
 have hix:idx (.int .i64 ((l.length-1:Nat):Int)) l.length=some (l.length-1):=zX .i64 _ _ (by omega)
 have hst:=tg (s:=s') (j:=l.length-1) true (by omega)
 have hbl:l.length-1+1≤(bools s').length:=by rw[th];omega
 simp only[go_sem,G6,G8,hcall,evLen,hsub,z7,hix,w11,hbl,hst]
 refine V7 (w:=fun y=> .tup [y,.int .i64 0]) (.inr ⟨_,rfl,rfl,rfl,rfl⟩) (cs:=bools (s'.set (l.length-1) true)) rfl (Uf _ _ _ _) ⟨_,rfl,by simp[hsl],fun i hi=> ?_⟩
 by_cases e:l.length-1=i
 ·grind
 ·rw[Vs.getD_set_ne e,hJ.done (nxt l) l.length i]
  grind
end Go.Proofs.W
end
