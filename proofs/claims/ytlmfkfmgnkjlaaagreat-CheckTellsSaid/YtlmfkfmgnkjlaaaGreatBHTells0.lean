/-
  CheckTells holds for every input: its law function returns true, and the arguments read as they did. No condition besides those of the row.
-/
import Derived.Test.YtlmfkfmgnkjlaaaGreatB5
import Derived.Test.YtlmfkfmgnkjlaaaGreatB7
import Derived.Test.YtlmfkfmgnkjlaaaGreatRows
set_option maxHeartbeats 64000000
set_option linter.unusedVariables false
set_option linter.unusedSimpArgs false
open Nat renaming le_of_ble_eq_true → w1c, reduceEqDiff → G0, reduceBEq → G1, reduceLT → G2, reduceAdd → G3, reduceLeDiff → G4, zero_le → w06, le_trans → w4d
open Int renaming ofNat_lt → w02, toNat_natCast → w1b
open List renaming getElem_mem → w04, take_length → w08, take_succ_eq_append_getElem → w0d, length_singleton → w19, length_take → w1a, length_map → w29, map_append → w2d
section
namespace Go.Proofs.W
open Go.Vs
set_option linter.unusedSimpArgs false
set_option maxRecDepth 100000
open Classical in
noncomputable def typesS (d:DImage) (g i:Int):List Int×List Int×Int:=
 if err09 d≠0 then([],[],err09 d) else
 if¬(0≤g∧g<d.funcs.length∧0≤i∧i<(fnA d.funcs g.toNat).code.length) then([],[],2) else
 if¬NearP d (fnA d.funcs g.toNat) (inA (fnA d.funcs g.toNat).code i.toNat) then([],[],16) else
 if typP d (fnA d.funcs g.toNat) (inA (fnA d.funcs g.toNat).code i.toNat)=false then([],[],30) else
 ((rds (inA (fnA d.funcs g.toNat).code i.toNat)).map (slotT (fnA d.funcs g.toNat)),(wrs (inA (fnA d.funcs g.toNat).code i.toNat)).map (slotT (fnA d.funcs g.toNat)),0)
def TypesV (d:DImage) (g i:Int) (r:AV):Prop:= ∃y1 y2,r= .tup [y1,y2,.int .i64 (typesS d g i).2.2]∧IsSl IsI 1 (typesS d g i).1 y1∧IsSl IsI 1 (typesS d g i).2.1 y2
theorem vl {d:DImage} {g i e:Int} (h:typesS d g i=([],[],e)):TypesV d g i (.tup [.nils,.nils,.int .i64 e]):=⟨_,_,by rw[h],by rw[h];exact .nil 1,by rw[h];exact .nil 1⟩
theorem z4b {d:DImage} {g i:Int} (h:err09 d≠0):typesS d g i=([],[],err09 d):=by unfold typesS;rw[if_pos h]
theorem Zf {d:DImage} {g i:Int} (h:err09 d=0) (h2: ¬(0≤g∧g<d.funcs.length∧0≤i∧i<(fnA d.funcs g.toNat).code.length)):typesS d g i=([],[],2):=by
 unfold typesS;rw[if_neg (fun q=>q h),if_pos h2]
section
variable {d : DImage} {g i : Nat} (h : err09 d = 0) (hg : g < d.funcs.length) (hi : i < (fnA d.funcs g).code.length)
include h hg hi
omit h in
theorem z21: ¬ ¬(0≤(g:Int)∧(g:Int)<d.funcs.length∧0≤(i:Int)∧(i:Int)<(fnA d.funcs (g:Int).toNat).code.length):=by
 rw[w1b];omega
theorem z20 (hn: ¬NearP d (fnA d.funcs g) (inA (fnA d.funcs g).code i)):typesS d g i=([],[],16):=by
 unfold typesS;rw[if_neg (fun q=>q h),if_neg (z21 hg hi),w1b,w1b,if_pos hn]
theorem z4a (hn:NearP d (fnA d.funcs g) (inA (fnA d.funcs g).code i)) (ht:typP d (fnA d.funcs g) (inA (fnA d.funcs g).code i)=false):typesS d g i=([],[],30):=by
 unfold typesS;rw[if_neg (fun q=>q h),if_neg (z21 hg hi),w1b,w1b,if_neg (fun q=>q hn),if_pos ht]
theorem z1Z (hn:NearP d (fnA d.funcs g) (inA (fnA d.funcs g).code i)) (ht:typP d (fnA d.funcs g) (inA (fnA d.funcs g).code i)=true):typesS d g i=((rds (inA (fnA d.funcs g).code i)).map (slotT (fnA d.funcs g)),(wrs (inA (fnA d.funcs g).code i)).map (slotT (fnA d.funcs g)),0):=by
 unfold typesS;rw[if_neg (fun q=>q h),if_neg (z21 hg hi),w1b,w1b,if_neg (fun q=>q hn),if_neg (by rw[ht];decide)]
end
theorem z6l (d:DImage) (y:AV) (hy:IsImage d y) (hw:WfImage d) (g i:Int) (m:Mem) (hf:m.floor≤m.stk.length+1):OkT tab kr [y,.int .i64 g,.int .i64 i] m (fun r _ _=>TypesV d g i r):=by
 have hy':=hy
 obtain⟨ty,tx,fs,rfl,h0,h1,h2⟩:=hy
 refine jv z3I ?_
 obtain⟨stk,cur,nx,live,fl⟩:=m
 dsimp only at hf
 have hf':fl≤(stk++[cur]).length+1:=by simp;omega
 have hC:=fun c n lv=>(Ye d _ hy' hw ⟨stk++[cur],c,n,lv,fl⟩ hf').eq
 simp only[YS,List.map,go_sem,reduceCtorEq,G3,G0,G2,hC]
 generalize callNx tab xM _ _=nz
 by_cases he:err09 d=0
 case neg=>
  have he':(err09 d !=0)=true:=by simpa using he
  simp only[go_sem,reduceCtorEq,G0,G2,he']
  exact zr rfl (vl (z4b he))
 have hfi:=kJ he
 simp only[go_sem,reduceCtorEq,G0,G2,he,show((0:Int) !=0)=false from rfl]
 have hwf:=fun m=>(Y3 _ _ h2 g m).eq
 simp only[hwf]
 generalize callNx tab yg _ _=nz1
 by_cases hg:0≤g∧g<d.funcs.length
 case neg=>
  simp only[go_sem,reduceCtorEq,G0,G2,decide_eq_false hg]
  exact zr rfl (vl (Zf he fun q=>hg ⟨q.1,q.2.1⟩))
 obtain⟨g,rfl⟩: ∃k:Nat,g=k:=⟨g.toNat,by omega⟩
 have hgn:g<d.funcs.length:=by omega
 obtain⟨w0,w1,w2,w3,ef,q0,q1,q2,q3⟩:=h2.fnA hgn
 have hat:=h2.at .i64 hgn
 have hQ:=FunQ.of hw hfi hgn
 have hwi:=fun m=>(Qf _ _ q1 i m).eq
 have tout:=fun(hi: ¬(0≤i∧i<((fnA d.funcs g).code.length:Int)))=>Zf (d:=d) (g:=g) (i:=i) he fun q=>hi ⟨q.2.2.1,by rw[w1b] at q;exact q.2.2.2⟩
 have tnear:=fun(k:Nat) (e:i=k) (hi:k<(fnA d.funcs g).code.length) hn=>z20 (d:=d) he hgn hi hn
 have ttyp:=fun(k:Nat) (e:i=k) (hi:k<(fnA d.funcs g).code.length) hn ht=>z4a (d:=d) he hgn hi hn ht
 have tok:=fun(k:Nat) (e:i=k) (hi:k<(fnA d.funcs g).code.length) hn ht=>z1Z (d:=d) he hgn hi hn ht
 generalize hF:fnA d.funcs g=f at*
 simp only[go_sem,reduceCtorEq,G0,G2,decide_eq_true hg,hat,ef,hwi]
 generalize callNx tab xh _ _=nz2
 by_cases hi:0≤i∧i<f.code.length
 case neg=>
  simp only[go_sem,reduceCtorEq,G0,G2,decide_eq_false hi]
  exact zr rfl (vl (tout hi))
 obtain⟨i,rfl⟩: ∃k:Nat,i=k:=⟨i.toNat,by omega⟩
 have hin:i<f.code.length:=by omega
 replace tnear:=tnear i rfl hin
 replace ttyp:=ttyp i rfl hin
 replace tok:=tok i rfl hin
 obtain⟨c1,c2,c3⟩:=hQ.c.at hin
 have hnv:NV d f (.agg [ty,tx,fs,.str f.name,.int .i64 f.params,.int .i64 f.result,w0,w1,w2,w3]):=⟨_,_,_,_,_,_,_,rfl,h0,h1,h2,q0,q1,q2,q3⟩
 have hN:=fun c n lv=>(zbf d f _ hnv _ c1 c2 ⟨stk++[cur],c,n,lv,fl⟩ hf').eq
 have hT:=fun hn c n lv=>(z9f d hQ.img f _ hnv hQ.s _ c1 hn ⟨stk++[cur],c,n,lv,fl⟩ hf').eq
 have hS:=fun s m=>(z0l d f _ hnv s m).eq
 have hati:=q1.at .i64 hin
 have hinA:=q1.inA hin
 have hr3:=QM (inA f.code i)
 have hw3:(wrs (inA f.code i)).length≤3:=by
  unfold wrs wrsk
  rw[w29]
  exact w4d (List.length_filter_le _ _) (by simp)
 generalize inA f.code i=x at*
 simp only[go_sem,reduceCtorEq,G3,G0,G4,G2,decide_eq_true hi,hat,ef,hati,hinA,evBuild,h0.one,h1.one,h2.one,q0.one,q1.one,q2.one,q3.one,hN]
 by_cases hn:NearP d f x
 case neg=>
  simp only[go_sem,reduceCtorEq,G0,G2,zg hn,show((16:Int) !=0)=true from rfl]
  exact zr rfl (vl (tnear hn))
 simp only[go_sem,reduceCtorEq,G3,G0,G2,zF hn,show((0:Int) !=0)=false from rfl,hT hn]
 cases hty:typP d f x
 ·simp only[go_sem,reduceCtorEq,G0,G2]
  exact zr rfl (vl (ttyp hn hty))
 have tok':=tok hn hty
 simp only[go_sem,reduceCtorEq,G3,G0,G2]
 refine(z1t x c2 c1 _ hf').xv fun r ts n1 ⟨y1,y2,hr,ho⟩=> ?_
 subst hr
 have hy1:=ho.l.sl (by omega)
 have hy2:=ho.r.sl (by omega)
 have hlive: ∃e',pushToks ts ([]::live)=e'::live:=by cases ts<;>exact⟨_,rfl⟩
 obtain⟨e1,he1⟩:=hlive
 simp only[go_sem,reduceCtorEq,G3,G0,G2,he1,hy1.len]
 refine za (α:=Nat) (fun k σ=>k≤(rds x).length∧ ∃nz y e,Own IsI 1 y (((rds x).take k).map (slotT f)) e∧heads [6,7,8,10,14,69,70,71] 3 σ=⟨tmps 98 [(6,y),(7,.nils),(8,.int .i64 0),(10,.ptr (stk++[cur]).length 1 nz2 0),(14,y2),(69,y1),(70,.int .i64 (rds x).length),(71,.int .i64 k)],⟨stk++[cur],[⟨nx,[ty,tx,fs]⟩,⟨nz2,[ty,tx,fs,.str f.name,.int .i64 f.params,.int .i64 f.result,w0,w1,w2,w3]⟩,⟨nz2+1,[.int .u8 x.op,.int .i64 x.a,.int .i64 x.b,.int .i64 x.c]⟩],nz,e::live,fl⟩⟩) (fun k=>(rds x).length-k) 0 ?_ ?_
 ·refine⟨w06 _,?_⟩
  simp only[go_sem,reduceCtorEq,G0,G1]
  exact⟨_,_,_,.nil _,rfl⟩
 ·rintro k σ ⟨hk,nz,y,e,hoy,hσ⟩
  rw[hσ]
  clear hσ σ
  dsimp only at hk⊢
  by_cases hkn:k<(rds x).length
  ·have ek:nth y1 k= .int .i64 (rds x)[k]:=hy1.nth hkn
   have hatk:=hy1.at .i64 hkn
   have htk:=w0d hkn
   have hsu:IntKind.i64.wrap ((k:Int)+1)=((k+1:Nat):Int):=by rw[zb (by omega) (by omega)];omega
   generalize (rds x)[k]=s at*
   simp only[go_sem,G3,G0,G1,G2,w02,hkn,hatk,ek,hS]
   generalize callNx tab zn _ _=nz3
   refine hoy.xv (cs:=[slotT f s]) (zh · 1 .full [.int .i64 (slotT f s)]) (show All2 IsI [slotT f s] [.int .i64 (slotT f s)] from⟨rfl,trivial⟩) (by simp only[w29,w1a,w19];omega) fun y' n' e' ho'=> ?_
   simp only[go_sem,G0,G2,hsu]
   exact⟨k+1,by omega,hkn,_,_,_,by rw[htk,w2d];exact ho',rfl⟩
  ·have hke:k=(rds x).length:=by omega
   subst hke
   rw[w08] at hoy
   have hsy:=hoy.sl (by rw[w29];omega)
   simp only[go_sem,G3,G0,G1,G2,w02,hkn,hy2.len]
   refine za (α:=Nat) (fun k σ=>k≤(wrs x).length∧ ∃nz y7 e,Own IsI 1 y7 (((wrs x).take k).map (slotT f)) e∧heads [6,7,8,10,82,83,84] 3 σ=⟨tmps 98 [(6,y),(7,y7),(8,.int .i64 0),(10,.ptr (stk++[cur]).length 1 nz2 0),(82,y2),(83,.int .i64 (wrs x).length),(84,.int .i64 k)],⟨stk++[cur],[⟨nx,[ty,tx,fs]⟩,⟨nz2,[ty,tx,fs,.str f.name,.int .i64 f.params,.int .i64 f.result,w0,w1,w2,w3]⟩,⟨nz2+1,[.int .u8 x.op,.int .i64 x.a,.int .i64 x.b,.int .i64 x.c]⟩],nz,e::live,fl⟩⟩) (fun k=>(wrs x).length-k) 0 ?_ ?_
   ·refine⟨w06 _,?_⟩
    simp only[go_sem,G0,G1]
    exact⟨_,_,_,.nil _,rfl⟩
   ·rintro k σ ⟨hk,nz,y7,e,ho7,hσ⟩
    rw[hσ]
    clear hσ σ
    dsimp only at hk⊢
    by_cases hkn:k<(wrs x).length
    ·have ek:nth y2 k= .int .i64 (wrs x)[k]:=hy2.nth hkn
     have hatk:=hy2.at .i64 hkn
     have htk:=w0d hkn
     have hsu:IntKind.i64.wrap ((k:Int)+1)=((k+1:Nat):Int):=by rw[zb (by omega) (by omega)];omega
     generalize (wrs x)[k]=s at*
     simp only[go_sem,G3,G0,G1,G2,w02,hkn,hatk,ek,hS]
     generalize callNx tab zn _ _=nz3
     refine ho7.xv (cs:=[slotT f s]) (zh · 1 .full [.int .i64 (slotT f s)]) (show All2 IsI [slotT f s] [.int .i64 (slotT f s)] from⟨rfl,trivial⟩) (by simp only[w29,w1a,w19];omega) fun y' n' e' ho'=> ?_
     simp only[go_sem,G0,G2,hsu]
     exact⟨k+1,by omega,hkn,_,_,_,by rw[htk,w2d];exact ho',rfl⟩
    ·have hke:k=(wrs x).length:=by omega
     subst hke
     rw[w08] at ho7
     have hs7:=ho7.sl (by rw[w29];omega)
     simp only[go_sem,G0,G1,G2,w02,hkn]
     refine zr (by simp only[AV.refs,refsAny,hsy.refs,hs7.refs];rfl) ?_
     exact⟨y,y7,by rw[tok'],by rw[tok'];exact hsy,by rw[tok'];exact hs7⟩
theorem zbl (d:DImage) (y:AV) (hy:IsImage d y) (hw:WfImage d) (g i:Int) (m:Mem) (hf:m.floor≤m.stk.length+1):OkT tab tu [y,.int .i64 g,.int .i64 i] m (fun r _ _=>TypesV d g i r):=by
 have hy':=hy
 obtain⟨ty,tx,fs,rfl,h0,h1,h2⟩:=hy
 refine jv WR ?_
 obtain⟨stk,cur,nx,live,fl⟩:=m
 dsimp only at hf
 have hf':fl≤(stk++[cur]).length+1:=by simp;omega
 have hC:=fun c n lv=>(qJ d _ hy' hw ⟨stk++[cur],c,n,lv,fl⟩ hf').eq
 simp only[uO,List.map,go_sem,reduceCtorEq,G3,G0,G2,hC]
 generalize callNx tab zx _ _=nz
 by_cases he:err09 d=0
 case neg=>
  have he':(err09 d !=0)=true:=by simpa using he
  simp only[go_sem,reduceCtorEq,G0,G2,he']
  exact zr rfl (vl (z4b he))
 have hfi:=kJ he
 simp only[go_sem,reduceCtorEq,G0,G2,he,show((0:Int) !=0)=false from rfl]
 by_cases g1:g<0
 ·simp only[go_sem,reduceCtorEq,G0,G2,g1]
  exact zr rfl (vl (Zf he (by omega)))
 by_cases g2:g≥d.funcs.length
 ·simp only[go_sem,reduceCtorEq,G0,G2,g1,h2.len,g2]
  exact zr rfl (vl (Zf he (by omega)))
 by_cases g3:i<0
 ·simp only[go_sem,reduceCtorEq,G0,G2,g1,h2.len,g2,g3]
  exact zr rfl (vl (Zf he (by omega)))
 obtain⟨g,rfl⟩: ∃k:Nat,g=k:=⟨g.toNat,by omega⟩
 have hgn:g<d.funcs.length:=by omega
 obtain⟨w0,w1,w2,w3,ef,q0,q1,q2,q3⟩:=h2.fnA hgn
 have hat:=h2.at .i64 hgn
 have hQ:=FunQ.of hw hfi hgn
 have tout:=fun(hi: ¬(0≤i∧i<((fnA d.funcs g).code.length:Int)))=>Zf (d:=d) (g:=g) (i:=i) he fun q=>hi ⟨q.2.2.1,by rw[w1b] at q;exact q.2.2.2⟩
 have tnear:=fun(k:Nat) (e:i=k) (hi:k<(fnA d.funcs g).code.length) hn=>z20 (d:=d) he hgn hi hn
 have ttyp:=fun(k:Nat) (e:i=k) (hi:k<(fnA d.funcs g).code.length) hn ht=>z4a (d:=d) he hgn hi hn ht
 have tok:=fun(k:Nat) (e:i=k) (hi:k<(fnA d.funcs g).code.length) hn ht=>z1Z (d:=d) he hgn hi hn ht
 have hN0:=fun x hx hw c n lv=>(z83 d _ hy' g hgn x hx hw ⟨stk++[cur],c,n,lv,fl⟩).eq
 have hT0:=fun x hx hw hn c n lv=>(z9j d hQ.img _ hy' g hgn x hx hw hn ⟨stk++[cur],c,n,lv,fl⟩ hf').eq
 have hS:=fun s m=>(Tu d _ hy' g hgn s m).eq
 generalize hF:fnA d.funcs g=f at*
 by_cases g4:i≥f.code.length
 ·simp only[go_sem,reduceCtorEq,G0,G2,g1,h2.len,g2,g3,hat,ef,q1.len,g4]
  exact zr rfl (vl (tout (by omega)))
 obtain⟨i,rfl⟩: ∃k:Nat,i=k:=⟨i.toNat,by omega⟩
 have hin:i<f.code.length:=by omega
 replace tnear:=tnear i rfl hin
 replace ttyp:=ttyp i rfl hin
 replace tok:=tok i rfl hin
 obtain⟨c1,c2,c3⟩:=hQ.c.at hin
 have hN:=hN0 _ c1 c2
 have hT:=fun hn=>hT0 _ c1 c2 hn
 have hati:=q1.at .i64 hin
 have hinA:=q1.inA hin
 have hr3:=QM (inA f.code i)
 have hw3:(wrs (inA f.code i)).length≤3:=by
  unfold wrs wrsk
  rw[w29]
  exact w4d (List.length_filter_le _ _) (by simp)
 generalize inA f.code i=x at*
 simp only[go_sem,reduceCtorEq,G3,G0,G2,g1,h2.len,g2,g3,hat,ef,q1.len,g4,hati,hinA,hN]
 by_cases hn:NearP d f x
 case neg=>
  simp only[go_sem,reduceCtorEq,G0,G2,zg hn]
  exact zr rfl (vl (tnear hn))
 simp only[go_sem,reduceCtorEq,G3,G0,G2,zF hn,hT hn]
 cases hty:typP d f x
 ·simp only[go_sem,reduceCtorEq,G0,G2]
  exact zr rfl (vl (ttyp hn hty))
 have tok':=tok hn hty
 simp only[go_sem,reduceCtorEq,G3,G0,G2]
 refine(YZ x c2 c1 _).xv fun r ts n1 ⟨y1,y2,hr,ho⟩=> ?_
 subst hr
 have hy1:=ho.l.sl (by omega)
 have hy2:=ho.r.sl (by omega)
 have hlive: ∃e',pushToks ts ([]::live)=e'::live:=by cases ts<;>exact⟨_,rfl⟩
 obtain⟨e1,he1⟩:=hlive
 simp only[go_sem,reduceCtorEq,G3,G0,G2,he1]
 refine za (α:=Nat) (fun k σ=>k≤(rds x).length∧ ∃nz1 y e,Own IsI 1 y (((rds x).take k).map (slotT f)) e∧heads [1,3,11,12,13,14,15] 2 σ=⟨tmps 104 [(1,.int .i64 g),(3,.ptr (stk++[cur]).length 0 nx 0),(11,y),(12,.nils),(13,y1),(14,y2),(15,.int .i64 k)],⟨stk++[cur],[⟨nx,[ty,tx,fs]⟩,⟨nz,[.int .u8 x.op,.int .i64 x.a,.int .i64 x.b,.int .i64 x.c]⟩],nz1,e::live,fl⟩⟩) (fun k=>(rds x).length-k) 0 ?_ ?_
 ·refine⟨w06 _,?_⟩
  simp only[go_sem,reduceCtorEq,G0,G1]
  exact⟨_,_,_,.nil _,rfl⟩
 ·rintro k σ ⟨hk,nz1,y,e,hoy,hσ⟩
  rw[hσ]
  clear hσ σ
  dsimp only at hk⊢
  by_cases hkn:k<(rds x).length
  ·have ek:nth y1 k= .int .i64 (rds x)[k]:=hy1.nth hkn
   have hatk:=hy1.at .i64 hkn
   have htk:=w0d hkn
   have hsu:IntKind.i64.wrap ((k:Int)+1)=((k+1:Nat):Int):=by rw[zb (by omega) (by omega)];omega
   generalize (rds x)[k]=s at*
   simp only[go_sem,G3,G0,G1,G2,hy1.len,w02,hkn,hatk,ek,hS]
   generalize callNx tab zt _ _=nz3
   obtain⟨y',n',e',ha,ho'⟩:=z5B (stk:=stk++[cur]) (cur:=[⟨nx,[ty,tx,fs]⟩,⟨nz,[.int .u8 x.op,.int .i64 x.a,.int .i64 x.b,.int .i64 x.c]⟩]) (nx:=nz3) (fl:=max fl ((stk++[cur]).length+1)) (rest:=live) (bytes:=8) hoy (cs:=[slotT f s]) (zh · 1 .full [.int .i64 (slotT f s)]) (show All2 IsI [slotT f s] [.int .i64 (slotT f s)] from⟨rfl,trivial⟩) (by simp only[w29,w1a,w19];omega)
   simp only[go_sem,G0,G2,ha,hsu]
   exact⟨k+1,by omega,hkn,_,_,_,by rw[htk,w2d];exact ho',rfl⟩
  ·have hke:k=(rds x).length:=by omega
   subst hke
   rw[w08] at hoy
   have hsy:=hoy.sl (by rw[w29];omega)
   simp only[go_sem,G3,G0,G1,G2,hy1.len,w02,hkn]
   refine za (α:=Nat) (fun k σ=>k≤(wrs x).length∧ ∃nz1 y7 e,Own IsI 1 y7 (((wrs x).take k).map (slotT f)) e∧heads [1,3,11,12,14,16] 2 σ=⟨tmps 104 [(1,.int .i64 g),(3,.ptr (stk++[cur]).length 0 nx 0),(11,y),(12,y7),(14,y2),(16,.int .i64 k)],⟨stk++[cur],[⟨nx,[ty,tx,fs]⟩,⟨nz,[.int .u8 x.op,.int .i64 x.a,.int .i64 x.b,.int .i64 x.c]⟩],nz1,e::live,fl⟩⟩) (fun k=>(wrs x).length-k) 0 ?_ ?_
   ·refine⟨w06 _,?_⟩
    simp only[go_sem,G0,G1]
    exact⟨_,_,_,.nil _,rfl⟩
   ·rintro k σ ⟨hk,nz1,y7,e,ho7,hσ⟩
    rw[hσ]
    clear hσ σ
    dsimp only at hk⊢
    by_cases hkn:k<(wrs x).length
    ·have ek:nth y2 k= .int .i64 (wrs x)[k]:=hy2.nth hkn
     have hatk:=hy2.at .i64 hkn
     have htk:=w0d hkn
     have hsu:IntKind.i64.wrap ((k:Int)+1)=((k+1:Nat):Int):=by rw[zb (by omega) (by omega)];omega
     generalize (wrs x)[k]=s at*
     simp only[go_sem,G3,G0,G1,G2,hy2.len,w02,hkn,hatk,ek,hS]
     generalize callNx tab zt _ _=nz3
     obtain⟨y',n',e',ha,ho'⟩:=z5B (stk:=stk++[cur]) (cur:=[⟨nx,[ty,tx,fs]⟩,⟨nz,[.int .u8 x.op,.int .i64 x.a,.int .i64 x.b,.int .i64 x.c]⟩]) (nx:=nz3) (fl:=max fl ((stk++[cur]).length+1)) (rest:=live) (bytes:=8) ho7 (cs:=[slotT f s]) (zh · 1 .full [.int .i64 (slotT f s)]) (show All2 IsI [slotT f s] [.int .i64 (slotT f s)] from⟨rfl,trivial⟩) (by simp only[w29,w1a,w19];omega)
     simp only[go_sem,G0,G2,ha,hsu]
     exact⟨k+1,by omega,hkn,_,_,_,by rw[htk,w2d];exact ho',rfl⟩
    ·have hke:k=(wrs x).length:=by omega
     subst hke
     rw[w08] at ho7
     have hs7:=ho7.sl (by rw[w29];omega)
     simp only[go_sem,G0,G1,G2,hy2.len,w02,hkn]
     refine zr (by simp only[AV.refs,refsAny,hsy.refs,hs7.refs];rfl) ?_
     exact⟨y,y7,by rw[tok'],by rw[tok'];exact hsy,by rw[tok'];exact hs7⟩
open Classical in
noncomputable def tablesS (d:DImage) (g:Int):DFunc×Int:=
 if err09 d≠0 then(fn00,err09 d) else if¬(0≤g∧g<d.funcs.length) then(fn00,2) else
 if(wrongS d g.toNat (fnA d.funcs g.toNat)).2≠0 then(fn00,(wrongS d g.toNat (fnA d.funcs g.toNat)).2) else(tabF d (fnA d.funcs g.toNat),0)
def TablesV (d:DImage) (g:Int) (r:AV):Prop:= ∃y,r= .tup [y,.int .i64 (tablesS d g).2]∧IsFunc (tablesS d g).1 y
theorem qY {d:DImage} {g e:Int} (h:tablesS d g=(fn00,e)):TablesV d g (.tup [.agg [.str [],.int .i64 0,.int .i64 0,.nils,.nils,.nils,.nils],.int .i64 e]):=
 ⟨_,by rw[h],by rw[h];exact⟨_,_,_,_,rfl,.nil 2,.nil 4,.nil 2,.nil 2⟩⟩
theorem z24 {d:DImage} {g:Int} (h:err09 d≠0):tablesS d g=(fn00,err09 d):=by unfold tablesS;rw[if_pos h]
theorem Qh {d:DImage} {g:Int} (h:err09 d=0) (h2: ¬(0≤g∧g<d.funcs.length)):tablesS d g=(fn00,2):=by
 unfold tablesS;rw[if_neg (fun q=>q h),if_pos h2]
section
variable {d : DImage} {g : Nat} (h : err09 d = 0) (hg : g < d.funcs.length)
include h hg
theorem XO (hn:(wrongS d g (fnA d.funcs g)).2≠0):tablesS d g=(fn00,(wrongS d g (fnA d.funcs g)).2):=by
 unfold tablesS;rw[if_neg (fun q=>q h),if_neg (by omega),w1b,if_pos hn]
theorem Tx (hn:(wrongS d g (fnA d.funcs g)).2=0):tablesS d g=(tabF d (fnA d.funcs g),0):=by
 unfold tablesS;rw[if_neg (fun q=>q h),if_neg (by omega),w1b,if_neg (fun q=>q hn)]
end
theorem za1 (d:DImage) (y:AV) (hy:IsImage d y) (hw:WfImage d) (hsm:SmallI d) (g:Int) (m:Mem) (hf:m.floor≤m.stk.length+1):OkT tab uA [y,.int .i64 g] m (fun r _ _=>TablesV d g r):=by
 have hy':=hy
 obtain⟨ty,tx,fs,rfl,h0,h1,h2⟩:=hy
 refine jv XQ ?_
 obtain⟨stk,cur,nx,live,fl⟩:=m
 dsimp only at hf
 have hf':fl≤(stk++[cur]).length+1:=by simp;omega
 have hC:=fun c n lv=>(qJ d _ hy' hw ⟨stk++[cur],c,n,lv,fl⟩ hf').eq
 simp only[uk,List.map,go_sem,reduceCtorEq,G3,G0,G2,hC]
 generalize callNx tab zx _ _=nz
 by_cases he:err09 d=0
 case neg=>
  have he':(err09 d !=0)=true:=by simpa using he
  simp only[go_sem,reduceCtorEq,G3,G0,G2,he',evBuild]
  exact zr rfl (qY (z24 he))
 have hfi:=kJ he
 simp only[go_sem,reduceCtorEq,G0,G2,he,show((0:Int) !=0)=false from rfl]
 by_cases g1:g<0
 ·simp only[go_sem,reduceCtorEq,G3,G0,G2,g1,evBuild]
  exact zr rfl (qY (Qh he (by omega)))
 by_cases g2:g≥d.funcs.length
 ·simp only[go_sem,reduceCtorEq,G3,G0,G2,g1,h2.len,g2,evBuild]
  exact zr rfl (qY (Qh he (by omega)))
 obtain⟨g,rfl⟩: ∃k:Nat,g=k:=⟨g.toNat,by omega⟩
 have hgn:g<d.funcs.length:=by omega
 have hQ:=FunQ.of hw hfi hgn
 have hU:=fun c n lv=>(z1S d _ hy' g hgn hQ ⟨stk++[cur],c,n,lv,fl⟩ hf').eq
 simp only[go_sem,reduceCtorEq,G3,G0,G2,g1,h2.len,g2,hU]
 generalize callNx tab zZ _ _=nz1
 by_cases hz:(wrongS d g (fnA d.funcs g)).2=0
 case neg=>
  simp only[go_sem,reduceCtorEq,G3,G0,G2,show((wrongS d g (fnA d.funcs g)).2 !=0)=true by simpa using hz,evBuild]
  exact zr rfl (qY (XO he hgn hz))
 obtain⟨c1,c2,c3,c4,c5⟩:=Y2 hz
 simp only[go_sem,reduceCtorEq,G3,G0,G2,show((wrongS d g (fnA d.funcs g)).2 !=0)=false by simpa using hz]
 refine(z6n d _ hy' hsm g hgn hQ (hQ.funP c1 c3) c4 _ hf').xv fun r t1 n1 hr=> ?_
 have hlive: ∃e',pushToks t1 ([]::live)=e'::live:=by cases t1<;>exact⟨_,rfl⟩
 obtain⟨e1,he1⟩:=hlive
 have hok:=Tx he hgn hz
 have hr':=hr
 obtain⟨v0,v1,v2,v3,rfl,p0,p1,p2,p3⟩:=hr
 simp only[go_sem,reduceCtorEq,G3,G0,G2,he1,p0.one,p1.one,p2.one,p3.one]
 refine zr (by simp only[AV.refs,refsAny,p0.refs,p1.refs,p2.refs,p3.refs];rfl) ?_
 exact⟨_,by rw[hok],by rw[hok];exact hr'⟩
theorem qX (l:List DField) (x:AV) (hx:IsSl IsField 2 l x) (hl:l.length≤1000) (m:Mem):OkT tab yI [x] m (fun r _ _=>IsSl IsField 2 l r):=by
 refine jv j0 ?_
 obtain⟨stk,cur,nx,live,fl⟩:=m
 obtain⟨y,n,e',ha,hy,_⟩:=jf (stk:=stk++[cur]) (cur:=[]) (nx:=nx) (fl:=fl) (e:=[]) (rest:=live) (bytes:=24) hx (by omega)
 have hx':=hx
 obtain⟨_,⟨rfl,rfl⟩|⟨tk,ys,rfl,h⟩⟩:=hx
 ·simp only[zW,List.map,go_sem,reduceCtorEq,G0,G2]
  exact zr rfl hx'
 ·simp only[zW,List.map,go_sem,reduceCtorEq,G0,G2,ha]
  exact zr (hy.refs _) hy
theorem qW (l:List DInstr) (x:AV) (hx:IsSl IsInstr 4 l x) (hl:l.length≤1000) (m:Mem):OkT tab yH [x] m (fun r _ _=>IsSl IsInstr 4 l r):=by
 refine jv qZ ?_
 obtain⟨stk,cur,nx,live,fl⟩:=m
 obtain⟨y,n,e',ha,hy,_⟩:=jf (stk:=stk++[cur]) (cur:=[]) (nx:=nx) (fl:=fl) (e:=[]) (rest:=live) (bytes:=32) hx (by omega)
 have hx':=hx
 obtain⟨_,⟨rfl,rfl⟩|⟨tk,ys,rfl,h⟩⟩:=hx
 ·simp only[zV,List.map,go_sem,reduceCtorEq,G0,G2]
  exact zr rfl hx'
 ·simp only[zV,List.map,go_sem,reduceCtorEq,G0,G2,ha]
  exact zr (hy.refs _) hy
theorem z0q (d:DImage) (y:AV) (hy:IsImage d y) (hw:WfImage d) (hsm:SmallI d) (g:Int) (m:Mem) (hf:m.floor≤m.stk.length+1):OkT tab qx [y,.int .i64 g] m (fun r _ _=>TablesV d g r):=by
 have hy':=hy
 obtain⟨ty,tx,fs,rfl,h0,h1,h2⟩:=hy
 refine jv z2f ?_
 obtain⟨stk,cur,nx,live,fl⟩:=m
 dsimp only at hf
 have hf':fl≤(stk++[cur]).length+1:=by simp;omega
 have hmx:max fl ((stk++[cur]).length+1)≤(stk++[cur]).length+1:=by omega
 have hC:=fun c n lv=>(Ye d _ hy' hw ⟨stk++[cur],c,n,lv,fl⟩ hf').eq
 simp only[ZT,List.map,go_sem,reduceCtorEq,G3,G0,G2,hC]
 generalize callNx tab xM _ _=nz
 by_cases he:err09 d=0
 case neg=>
  have he':(err09 d !=0)=true:=by simpa using he
  simp only[go_sem,reduceCtorEq,G3,G0,G2,he',evBuild]
  exact zr rfl (qY (z24 he))
 have hfi:=kJ he
 have hwf:=fun m=>(Y3 _ _ h2 g m).eq
 simp only[go_sem,reduceCtorEq,G0,G2,he,show((0:Int) !=0)=false from rfl,hwf]
 generalize callNx tab yg _ _=nz1
 by_cases hg:0≤g∧g<d.funcs.length
 case neg=>
  simp only[go_sem,reduceCtorEq,G3,G0,G2,decide_eq_false hg,evBuild]
  exact zr rfl (qY (Qh he hg))
 obtain⟨g,rfl⟩: ∃k:Nat,g=k:=⟨g.toNat,by omega⟩
 have hgn:g<d.funcs.length:=by omega
 have hQ:=FunQ.of hw hfi hgn
 obtain⟨w0,w1,w2,w3,ef,q0,q1,q2,q3⟩:=h2.fnA hgn
 have hat:=h2.at .i64 hgn
 simp only[go_sem,reduceCtorEq,G3,G0,G2,decide_eq_true hg]
 refine(zbh d _ hy' g hgn hQ _ hf').xv fun r t1 n1 ⟨y1,y2,hr,hy1,hy2,hys⟩=> ?_
 subst hr
 have hlive: ∃e',pushToks t1 ([]::live)=e'::live:=by cases t1<;>exact⟨_,rfl⟩
 obtain⟨e1,he1⟩:=hlive
 by_cases hz:(wrongS d g (fnA d.funcs g)).2=0
 case neg=>
  have tw:=XO he hgn hz
  have hz2:((wrongS d g (fnA d.funcs g)).2 !=0)=true:=by simpa using hz
  simp only[go_sem,reduceCtorEq,G3,G0,G4,G2,he1,hy1,hy2,hz2,evBuild]
  refine⟨by simp,zr rfl (qY tw)⟩
 obtain⟨hs1,hs2⟩:=hys hz
 have hok:=Tx he hgn hz
 rw[z1K hz]
 obtain⟨f0,f1,_⟩:=hsm.f.2 _ (w04 hgn)
 rw[z1D hgn] at f0 f1
 generalize fnA d.funcs g=f at*
 simp only[go_sem,reduceCtorEq,G3,G0,G2,he1,hy1,hy2,show((0:Int) !=0)=false from rfl,hat,ef,q0.one,q1.one,q2.one,q3.one]
 refine(qX _ _ q0 f0 _).xw fun v0 t2 n2 hv0=> ?_
 have hlive: ∃e',pushToks t2 (e1::live)=e'::live:=by cases t2<;>exact⟨_,rfl⟩
 obtain⟨e2,he2⟩:=hlive
 simp only[go_sem,reduceCtorEq,G0,G2,he2]
 refine(qW _ _ q1 f1 _).xw fun v1 t3 n3 hv1=> ?_
 have hlive: ∃e',pushToks t3 (e2::live)=e'::live:=by cases t3<;>exact⟨_,rfl⟩
 obtain⟨e3,he3⟩:=hlive
 simp only[go_sem,reduceCtorEq,G3,G0,G4,G2,he3,hv0.one,hv1.one,hs1.one,hs2.one,hv0.refs_cells,hv1.refs_cells,hs1.refs_cells,hs2.refs_cells]
 refine zr (by simp only[AV.refs,refsAny,hv0.refs,hv1.refs,hs1.refs,hs2.refs];rfl) ?_
 exact⟨_,by rw[hok],by rw[hok];exact⟨v0,v1,y1,y2,rfl,hv0,hv1,hs1,hs2⟩⟩
theorem z5f (d:DImage) (x:AV) (hx:IsImage d x) (hw:WfImage d) (g i:Int) (m:Mem) (hfl:m.floor≤m.stk.length+1):
  Okv tab qq [x,.int .i64 g,.int .i64 i] m (.bool true):=by
 have hx':=hx
 obtain⟨ty,tx,fs,rfl,h0,h1,h2⟩:=hx
 refine ze Zr ?_
 obtain⟨stk,cur,nx,live,fl⟩:=m
 dsimp only at hfl
 have hf':fl≤(stk++[cur]).length+1:=by simp;omega
 have hmx:max fl ((stk++[cur]).length+1)≤(stk++[cur]).length+1:=by omega
 have hG:=fun m=>(uL d _ hx' m).eq
 simp only[xU,List.map,go_sem,reduceCtorEq,G3,G0,G2,hG]
 generalize callNx tab zO _ _=nz
 cases hg:great09 d
 case true=>
  simp only[go_sem,reduceCtorEq,G0,G2]
  rw[z6 rfl rfl,z8]
  exact⟨⟨_,rfl⟩,rfl⟩
 have hsm:=SmallI.of hg
 simp only[go_sem,reduceCtorEq,G3,G0,G2]
 refine(z6m d _ hx' hsm _ hf').xv fun r t1 n1 hr=> ?_
 obtain⟨e1,he1⟩: ∃e',pushToks t1 ([]::live)=e'::live:=by cases t1<;>exact⟨_,rfl⟩
 have hr':=hr
 obtain⟨ty',tx',fs',rfl,p0,p1,p2⟩:=hr
 have hFP:=fun c n lv=>(z1V d _ hr' hw ⟨stk++[cur],c,n,lv,fl⟩ hf').eq
 have hFR:=fun c n lv=>(z6q d _ hx' hw hsm ⟨stk++[cur],c,n,lv,fl⟩ hf').eq
 have hCP:=fun c n lv=>(z6u d _ hr' hw ⟨stk++[cur],c,n,lv,max fl ((stk++[cur]).length+1)⟩ hmx).eq
 have hCR:=fun c n lv=>(zbs d _ hx' hw hsm ⟨stk++[cur],c,n,lv,max fl ((stk++[cur]).length+1)⟩ hmx).eq
 have hSm:=fun m=>(U4 _ _ _ _ hr' hx' m).eq
 rw[decide_eq_true rfl] at hSm
 unfold faultV at hFP hFR
 simp only[go_sem,reduceCtorEq,G3,G0,G2,he1,p0.one,p1.one,p2.one,hFP,hFR]
 generalize callNx tab xN _ _=nz1
 generalize callNx tab yY _ _=nz2
 refine(z6l d _ hr' hw g i _ hf').xv fun r t2 n2 ⟨y1,y2,hr,s1,s2⟩=> ?_
 subst hr
 obtain⟨e2,he2⟩: ∃e',pushToks t2 (e1::live)=e'::live:=by cases t2<;>exact⟨_,rfl⟩
 simp only[go_sem,reduceCtorEq,G3,G0,G2,he2]
 refine(zbl d _ hx' hw g i _ hf').xv fun r t3 n3 ⟨y3,y4,hr,s3,s4⟩=> ?_
 subst hr
 obtain⟨e3,he3⟩: ∃e',pushToks t3 (e2::live)=e'::live:=by cases t3<;>exact⟨_,rfl⟩
 simp only[go_sem,reduceCtorEq,G3,G0,G2,he3]
 refine(z0q d _ hr' hw hsm g _ hf').xv fun r t4 n4 ⟨y5,hr,s5⟩=> ?_
 subst hr
 obtain⟨e4,he4⟩: ∃e',pushToks t4 (e3::live)=e'::live:=by cases t4<;>exact⟨_,rfl⟩
 have s5':=s5
 obtain⟨u0,u1,u2,u3,rfl,a0,a1,a2,a3⟩:=s5
 simp only[go_sem,reduceCtorEq,G3,G0,G2,he4,a0.one,a1.one,a2.one,a3.one]
 refine(za1 d _ hx' hw hsm g _ hf').xv fun r t5 n5 ⟨y6,hr,s6⟩=> ?_
 subst hr
 obtain⟨e5,he5⟩: ∃e',pushToks t5 (e4::live)=e'::live:=by cases t5<;>exact⟨_,rfl⟩
 have s6':=s6
 obtain⟨v0,v1,v2,v3,rfl,b0,b1,b2,b3⟩:=s6
 have i1:=fun m=>(yD _ _ _ _ s1 s3 m).eq
 have i2:=fun m=>(yD _ _ _ _ s2 s4 m).eq
 have i3:=fun m=>(yC _ _ _ _ s5' s6' m).eq
 rw[decide_eq_true rfl] at i1 i2 i3
 have bt: ∀z:Int,(z==z)=true:=fun z=>by simp
 simp only[go_sem,reduceCtorEq,G3,G0,G2,he5,b0.one,b1.one,b2.one,b3.one,hCP,hCR,bt,i1,i2,i3,hSm]
 rw[z6 rfl rfl,z8]
 exact⟨⟨_,rfl⟩,rfl⟩
end Go.Proofs.W
end
section
namespace Go.Proofs.YtlmfkfmgnkjlaaaGreat
set_option maxRecDepth 100000
set_option linter.unusedSimpArgs false
open Go.Vs Go.ChangeShapes Go.WideShapes Go.ChangeAt Go.RowKit Go.Proofs.W
theorem law (ys:List AV) (h:ArgsT Tryz.prog [26,3,3] ys): ∃m',CALL tab 8 ys Mem.zero=some (.bool true,m'):=by
 obtain⟨x0,r0,rfl,g0,x1,r1,rfl,g1,x2,r2,rfl,g2,gz⟩:=h
 have gz:r2=[]:=gz
 subst gz
 obtain⟨d0,a0,b0⟩:=arg26 x0 g0
 obtain⟨e1,n1,t1⟩:=g1
 rw[XC e1 (by kernel_rfl)] at t1
 obtain⟨v1,u1,c1,k1,_⟩:=rd3 n1 _ t1
 injection c1 with c1 _
 subst c1
 obtain rfl:=k1
 obtain⟨e2,n2,t2⟩:=g2
 rw[XC e2 (by kernel_rfl)] at t2
 obtain⟨v2,u2,c2,k2,_⟩:=rd3 n2 _ t2
 injection c2 with c2 _
 subst c2
 obtain rfl:=k2
 obtain⟨k,hk⟩:=z5f d0 x0 a0 b0 v1 v2 Mem.zero (w06 _)
 exact⟨_,hk⟩
theorem Tryz.own:ownKnob Tryz.prog.godebug=none:=by kernel_rfl
theorem Tryz.laidOut:laidOutB Tryz.prog=true:=by kernel_rfl
theorem f_lifted (os:Os) (started:os.Started) (H:Type) (enc:TypeId×Value→H):
  ReturnsInHanded {} Tryz.checked os 8 .any (Rows.checkTellsSpec.pre6 enc Tryz.prog Tryz.f8 Rows.checkTellsRow.domain false) (Rows.checkTellsSpec.post enc Tryz.prog Tryz.f8 false true false false):=by
 refine returnsInHanded_of_change (C:=Tryz.checked) Tryz.own started (by kernel_rfl) Tryz.func8
  (ChangeSpec.witness6 (enc:=enc) (C:=Tryz.checked) false ⟨#[],#[.agg #[.slice none 0 0,.slice none 0 0,.slice none 0 0],.int .i64 0,.int .i64 0],[]⟩ 12 (by kernel_rfl) (by kernel_rfl) (by kernel_rfl) (by kernel_rfl)) ?_
 intro W base args ds gs before hval hW _ _
 exact z2H (P:=Tryz.prog) (tab:=tab) (S:=[47,36,38,39,33,35,42,24,23,9,95,40,3,5,81,22,26]) (tb:=4) (by kernel_rfl) tabOk Ug Tryz.laidOut rfl (by kernel_rfl) rfl Tryz.underlying4
  (fun ds hd=>by
   match ds,hd with
   | [d1,d2,d3],_=>rfl) law hval hW
theorem checkTells_holds:Rows.CheckTellsSaid:=
 OpenClaim.holds_of_wide 8 Tryz.f8 rfl rfl rfl rfl rfl rfl rfl ⟨rfl,rfl,rfl,rfl,rfl⟩ rfl rfl rfl rfl rfl (by kernel_rfl) Tryz.func8 (by kernel_rfl)
  (of_decide_eq_true (by kernel_rfl)) (by unfold Func.isWrapper;first|(rw[if_pos (by decide+kernel)];kernel_rfl)|(rw[if_neg (by decide+kernel)];exact⟨rfl,rfl⟩))
  (fun os started H enc _=>f_lifted os started H enc)
end Go.Proofs.YtlmfkfmgnkjlaaaGreat
end
