/-
  CheckWalk holds for every input: its law function returns true, and the arguments read as they did. No condition besides those of the row.
-/
import Derived.Test.YtlmfkfmgnkjlaaaGreatB5
import Derived.Test.YtlmfkfmgnkjlaaaGreatB7
import Derived.Test.YtlmfkfmgnkjlaaaGreatRows
set_option maxHeartbeats 64000000
set_option linter.unusedVariables false
set_option linter.unusedSimpArgs false
open Nat renaming le_of_ble_eq_true → w1c, reduceEqDiff → G0, reduceBEq → G1, reduceLT → G2, reduceAdd → G3, reduceLeDiff → G4, zero_le → w06, le_refl → w09, pow_le_pow_right → w4c, le_trans → w4d
open Int renaming ofNat_lt → w02, toNat_natCast → w1b
open List renaming getD_eq_getElem?_getD → w00, getElem_mem → w04, length_append → w05, take_length → w08, getElem?_append_left → w0c, take_succ_eq_append_getElem → w0d, getElem?_eq_getElem → w11, getElem?_map → w17, length_singleton → w19, length_take → w1a, append_nil → w1f, length_map → w29, map_append → w2d, nil_append → w32, mem_append_left → w4b, mem_append_right → w4e
open Option renaming bind_eq_some_iff → w07, map_some → w0e, getD_some → w2a
open Bool renaming and_eq_true → w0f, or_eq_true → w2c, eq_iff_iff → w3d
section
namespace Go.Proofs.W
open Go.Vs
set_option linter.unusedSimpArgs false
set_option maxRecDepth 100000
open Classical in
noncomputable def typesS (d:DImage) (g i:Int):List Int×List Int×Int:=
 if err09 d≠0 then([],[],err09 d) else
 if¬(0≤g∧g<d.funcs.length∧0≤i∧i<(fnA d.funcs g.toNat).code.length) then([],[],2) else
 if¬NearP d (fnA d.funcs g.toNat) (inA (fnA d.funcs g.toNat).code i.toNat) then([],[],16) else
 if typP d (fnA d.funcs g.toNat) (inA (fnA d.funcs g.toNat).code i.toNat)=false then([],[],30) else
 ((rds (inA (fnA d.funcs g.toNat).code i.toNat)).map (slotT (fnA d.funcs g.toNat)),(wrs (inA (fnA d.funcs g.toNat).code i.toNat)).map (slotT (fnA d.funcs g.toNat)),0)
def TypesV (d:DImage) (g i:Int) (r:AV):Prop:= ∃y1 y2,r= .tup [y1,y2,.int .i64 (typesS d g i).2.2]∧IsSl IsI 1 (typesS d g i).1 y1∧IsSl IsI 1 (typesS d g i).2.1 y2
theorem vl {d:DImage} {g i e:Int} (h:typesS d g i=([],[],e)):TypesV d g i (.tup [.nils,.nils,.int .i64 e]):=⟨_,_,by rw[h],by rw[h];exact .nil 1,by rw[h];exact .nil 1⟩
theorem z4b {d:DImage} {g i:Int} (h:err09 d≠0):typesS d g i=([],[],err09 d):=by unfold typesS;rw[if_pos h]
theorem Zf {d:DImage} {g i:Int} (h:err09 d=0) (h2: ¬(0≤g∧g<d.funcs.length∧0≤i∧i<(fnA d.funcs g.toNat).code.length)):typesS d g i=([],[],2):=by
 unfold typesS;rw[if_neg (fun q=>q h),if_pos h2]
section
variable {d : DImage} {g i : Nat} (h : err09 d = 0) (hg : g < d.funcs.length) (hi : i < (fnA d.funcs g).code.length)
include h hg hi
omit h in
theorem z21: ¬ ¬(0≤(g:Int)∧(g:Int)<d.funcs.length∧0≤(i:Int)∧(i:Int)<(fnA d.funcs (g:Int).toNat).code.length):=by
 rw[w1b];omega
theorem z20 (hn: ¬NearP d (fnA d.funcs g) (inA (fnA d.funcs g).code i)):typesS d g i=([],[],16):=by
 unfold typesS;rw[if_neg (fun q=>q h),if_neg (z21 hg hi),w1b,w1b,if_pos hn]
theorem z4a (hn:NearP d (fnA d.funcs g) (inA (fnA d.funcs g).code i)) (ht:typP d (fnA d.funcs g) (inA (fnA d.funcs g).code i)=false):typesS d g i=([],[],30):=by
 unfold typesS;rw[if_neg (fun q=>q h),if_neg (z21 hg hi),w1b,w1b,if_neg (fun q=>q hn),if_pos ht]
theorem z1Z (hn:NearP d (fnA d.funcs g) (inA (fnA d.funcs g).code i)) (ht:typP d (fnA d.funcs g) (inA (fnA d.funcs g).code i)=true):typesS d g i=((rds (inA (fnA d.funcs g).code i)).map (slotT (fnA d.funcs g)),(wrs (inA (fnA d.funcs g).code i)).map (slotT (fnA d.funcs g)),0):=by
 unfold typesS;rw[if_neg (fun q=>q h),if_neg (z21 hg hi),w1b,w1b,if_neg (fun q=>q hn),if_neg (by rw[ht];decide)]
end
theorem z6l (d:DImage) (y:AV) (hy:IsImage d y) (hw:WfImage d) (g i:Int) (m:Mem) (hf:m.floor≤m.stk.length+1):OkT tab kr [y,.int .i64 g,.int .i64 i] m (fun r _ _=>TypesV d g i r):=by
 have hy':=hy
 obtain⟨ty,tx,fs,rfl,h0,h1,h2⟩:=hy
 refine jv z3I ?_
 obtain⟨stk,cur,nx,live,fl⟩:=m
 dsimp only at hf
 have hf':fl≤(stk++[cur]).length+1:=by simp;omega
 have hC:=fun c n lv=>(Ye d _ hy' hw ⟨stk++[cur],c,n,lv,fl⟩ hf').eq
 simp only[YS,List.map,go_sem,reduceCtorEq,G3,G0,G2,hC]
 generalize callNx tab xM _ _=nz
 by_cases he:err09 d=0
 case neg=>
  have he':(err09 d !=0)=true:=by simpa using he
  simp only[go_sem,reduceCtorEq,G0,G2,he']
  exact zr rfl (vl (z4b he))
 have hfi:=kJ he
 simp only[go_sem,reduceCtorEq,G0,G2,he,show((0:Int) !=0)=false from rfl]
 have hwf:=fun m=>(Y3 _ _ h2 g m).eq
 simp only[hwf]
 generalize callNx tab yg _ _=nz1
 by_cases hg:0≤g∧g<d.funcs.length
 case neg=>
  simp only[go_sem,reduceCtorEq,G0,G2,decide_eq_false hg]
  exact zr rfl (vl (Zf he fun q=>hg ⟨q.1,q.2.1⟩))
 obtain⟨g,rfl⟩: ∃k:Nat,g=k:=⟨g.toNat,by omega⟩
 have hgn:g<d.funcs.length:=by omega
 obtain⟨w0,w1,w2,w3,ef,q0,q1,q2,q3⟩:=h2.fnA hgn
 have hat:=h2.at .i64 hgn
 have hQ:=FunQ.of hw hfi hgn
 have hwi:=fun m=>(Qf _ _ q1 i m).eq
 have tout:=fun(hi: ¬(0≤i∧i<((fnA d.funcs g).code.length:Int)))=>Zf (d:=d) (g:=g) (i:=i) he fun q=>hi ⟨q.2.2.1,by rw[w1b] at q;exact q.2.2.2⟩
 have tnear:=fun(k:Nat) (e:i=k) (hi:k<(fnA d.funcs g).code.length) hn=>z20 (d:=d) he hgn hi hn
 have ttyp:=fun(k:Nat) (e:i=k) (hi:k<(fnA d.funcs g).code.length) hn ht=>z4a (d:=d) he hgn hi hn ht
 have tok:=fun(k:Nat) (e:i=k) (hi:k<(fnA d.funcs g).code.length) hn ht=>z1Z (d:=d) he hgn hi hn ht
 generalize hF:fnA d.funcs g=f at*
 simp only[go_sem,reduceCtorEq,G0,G2,decide_eq_true hg,hat,ef,hwi]
 generalize callNx tab xh _ _=nz2
 by_cases hi:0≤i∧i<f.code.length
 case neg=>
  simp only[go_sem,reduceCtorEq,G0,G2,decide_eq_false hi]
  exact zr rfl (vl (tout hi))
 obtain⟨i,rfl⟩: ∃k:Nat,i=k:=⟨i.toNat,by omega⟩
 have hin:i<f.code.length:=by omega
 replace tnear:=tnear i rfl hin
 replace ttyp:=ttyp i rfl hin
 replace tok:=tok i rfl hin
 obtain⟨c1,c2,c3⟩:=hQ.c.at hin
 have hnv:NV d f (.agg [ty,tx,fs,.str f.name,.int .i64 f.params,.int .i64 f.result,w0,w1,w2,w3]):=⟨_,_,_,_,_,_,_,rfl,h0,h1,h2,q0,q1,q2,q3⟩
 have hN:=fun c n lv=>(zbf d f _ hnv _ c1 c2 ⟨stk++[cur],c,n,lv,fl⟩ hf').eq
 have hT:=fun hn c n lv=>(z9f d hQ.img f _ hnv hQ.s _ c1 hn ⟨stk++[cur],c,n,lv,fl⟩ hf').eq
 have hS:=fun s m=>(z0l d f _ hnv s m).eq
 have hati:=q1.at .i64 hin
 have hinA:=q1.inA hin
 have hr3:=QM (inA f.code i)
 have hw3:(wrs (inA f.code i)).length≤3:=by
  unfold wrs wrsk
  rw[w29]
  exact w4d (List.length_filter_le _ _) (by simp)
 generalize inA f.code i=x at*
 simp only[go_sem,reduceCtorEq,G3,G0,G4,G2,decide_eq_true hi,hat,ef,hati,hinA,evBuild,h0.one,h1.one,h2.one,q0.one,q1.one,q2.one,q3.one,hN]
 by_cases hn:NearP d f x
 case neg=>
  simp only[go_sem,reduceCtorEq,G0,G2,zg hn,show((16:Int) !=0)=true from rfl]
  exact zr rfl (vl (tnear hn))
 simp only[go_sem,reduceCtorEq,G3,G0,G2,zF hn,show((0:Int) !=0)=false from rfl,hT hn]
 cases hty:typP d f x
 ·simp only[go_sem,reduceCtorEq,G0,G2]
  exact zr rfl (vl (ttyp hn hty))
 have tok':=tok hn hty
 simp only[go_sem,reduceCtorEq,G3,G0,G2]
 refine(z1t x c2 c1 _ hf').xv fun r ts n1 ⟨y1,y2,hr,ho⟩=> ?_
 subst hr
 have hy1:=ho.l.sl (by omega)
 have hy2:=ho.r.sl (by omega)
 have hlive: ∃e',pushToks ts ([]::live)=e'::live:=by cases ts<;>exact⟨_,rfl⟩
 obtain⟨e1,he1⟩:=hlive
 simp only[go_sem,reduceCtorEq,G3,G0,G2,he1,hy1.len]
 refine za (α:=Nat) (fun k σ=>k≤(rds x).length∧ ∃nz y e,Own IsI 1 y (((rds x).take k).map (slotT f)) e∧heads [6,7,8,10,14,69,70,71] 3 σ=⟨tmps 98 [(6,y),(7,.nils),(8,.int .i64 0),(10,.ptr (stk++[cur]).length 1 nz2 0),(14,y2),(69,y1),(70,.int .i64 (rds x).length),(71,.int .i64 k)],⟨stk++[cur],[⟨nx,[ty,tx,fs]⟩,⟨nz2,[ty,tx,fs,.str f.name,.int .i64 f.params,.int .i64 f.result,w0,w1,w2,w3]⟩,⟨nz2+1,[.int .u8 x.op,.int .i64 x.a,.int .i64 x.b,.int .i64 x.c]⟩],nz,e::live,fl⟩⟩) (fun k=>(rds x).length-k) 0 ?_ ?_
 ·refine⟨w06 _,?_⟩
  simp only[go_sem,reduceCtorEq,G0,G1]
  exact⟨_,_,_,.nil _,rfl⟩
 ·rintro k σ ⟨hk,nz,y,e,hoy,hσ⟩
  rw[hσ]
  clear hσ σ
  dsimp only at hk⊢
  by_cases hkn:k<(rds x).length
  ·have ek:nth y1 k= .int .i64 (rds x)[k]:=hy1.nth hkn
   have hatk:=hy1.at .i64 hkn
   have htk:=w0d hkn
   have hsu:IntKind.i64.wrap ((k:Int)+1)=((k+1:Nat):Int):=by rw[zb (by omega) (by omega)];omega
   generalize (rds x)[k]=s at*
   simp only[go_sem,G3,G0,G1,G2,w02,hkn,hatk,ek,hS]
   generalize callNx tab zn _ _=nz3
   refine hoy.xv (cs:=[slotT f s]) (zh · 1 .full [.int .i64 (slotT f s)]) (show All2 IsI [slotT f s] [.int .i64 (slotT f s)] from⟨rfl,trivial⟩) (by simp only[w29,w1a,w19];omega) fun y' n' e' ho'=> ?_
   simp only[go_sem,G0,G2,hsu]
   exact⟨k+1,by omega,hkn,_,_,_,by rw[htk,w2d];exact ho',rfl⟩
  ·have hke:k=(rds x).length:=by omega
   subst hke
   rw[w08] at hoy
   have hsy:=hoy.sl (by rw[w29];omega)
   simp only[go_sem,G3,G0,G1,G2,w02,hkn,hy2.len]
   refine za (α:=Nat) (fun k σ=>k≤(wrs x).length∧ ∃nz y7 e,Own IsI 1 y7 (((wrs x).take k).map (slotT f)) e∧heads [6,7,8,10,82,83,84] 3 σ=⟨tmps 98 [(6,y),(7,y7),(8,.int .i64 0),(10,.ptr (stk++[cur]).length 1 nz2 0),(82,y2),(83,.int .i64 (wrs x).length),(84,.int .i64 k)],⟨stk++[cur],[⟨nx,[ty,tx,fs]⟩,⟨nz2,[ty,tx,fs,.str f.name,.int .i64 f.params,.int .i64 f.result,w0,w1,w2,w3]⟩,⟨nz2+1,[.int .u8 x.op,.int .i64 x.a,.int .i64 x.b,.int .i64 x.c]⟩],nz,e::live,fl⟩⟩) (fun k=>(wrs x).length-k) 0 ?_ ?_
   ·refine⟨w06 _,?_⟩
    simp only[go_sem,G0,G1]
    exact⟨_,_,_,.nil _,rfl⟩
   ·rintro k σ ⟨hk,nz,y7,e,ho7,hσ⟩
    rw[hσ]
    clear hσ σ
    dsimp only at hk⊢
    by_cases hkn:k<(wrs x).length
    ·have ek:nth y2 k= .int .i64 (wrs x)[k]:=hy2.nth hkn
     have hatk:=hy2.at .i64 hkn
     have htk:=w0d hkn
     have hsu:IntKind.i64.wrap ((k:Int)+1)=((k+1:Nat):Int):=by rw[zb (by omega) (by omega)];omega
     generalize (wrs x)[k]=s at*
     simp only[go_sem,G3,G0,G1,G2,w02,hkn,hatk,ek,hS]
     generalize callNx tab zn _ _=nz3
     refine ho7.xv (cs:=[slotT f s]) (zh · 1 .full [.int .i64 (slotT f s)]) (show All2 IsI [slotT f s] [.int .i64 (slotT f s)] from⟨rfl,trivial⟩) (by simp only[w29,w1a,w19];omega) fun y' n' e' ho'=> ?_
     simp only[go_sem,G0,G2,hsu]
     exact⟨k+1,by omega,hkn,_,_,_,by rw[htk,w2d];exact ho',rfl⟩
    ·have hke:k=(wrs x).length:=by omega
     subst hke
     rw[w08] at ho7
     have hs7:=ho7.sl (by rw[w29];omega)
     simp only[go_sem,G0,G1,G2,w02,hkn]
     refine zr (by simp only[AV.refs,refsAny,hsy.refs,hs7.refs];rfl) ?_
     exact⟨y,y7,by rw[tok'],by rw[tok'];exact hsy,by rw[tok'];exact hs7⟩
theorem TF {E:Nat→Int}: ∀{n i:Nat},frst E n=some i→i<n∧E i≠0∧ ∀j,j<i→E j=0
 |0,i,h=>by simp[frst] at h
 |n+1,i,h=>by
  unfold frst at h
  cases hk:frst E n with
  |some k=>
   rw[hk] at h
   injection h with h;subst h
   obtain⟨h1,h2,h3⟩:=TF hk
   exact⟨by omega,h2,h3⟩
  |none=>
   rw[hk] at h
   have h1:=(vW n).1 hk
   by_cases e:E n=0
   ·rw[if_pos e] at h;cases h
   ·simp only[if_neg e] at h
    injection h with h;subst h
    exact⟨by omega,e,h1⟩
theorem z06 {d:DImage} (h:err09 d=0):(faultS d=(0,0,0)∧ ∀j,j<d.funcs.length→(wrongF d j).2=0)∨
  ∃g,g<d.funcs.length∧(∀j,j<g→(wrongF d j).2=0)∧(wrongF d g).2≠0∧faultS d=((g:Int),(wrongF d g).1,(wrongF d g).2):=by
 unfold faultS
 rw[if_neg (fun q=>q h)]
 cases hf:frst (fun g=>(wrongF d g).2) d.funcs.length with
 |none=>exact .inl ⟨rfl,(vW _).1 hf⟩
 |some g=>
  obtain⟨h1,h2,h3⟩:=TF hf
  exact .inr ⟨g,h1,h3,h2,rfl⟩
theorem QB {d:DImage} {g:Nat} {f:DFunc} (h:(wrongS d g f).2≠0):(-1≤(wrongS d g f).1∧(wrongS d g f).1<f.code.length)∧(wrongS d g f).2≠32∧
  (0≤(wrongS d g f).1↔(wrongS d g f).2=16∨(wrongS d g f).2=6∨(wrongS d g f).2=38∨(wrongS d g f).2=30∧0≤(wrongS d g f).1):=by
 revert h
 unfold wrongS
 split
 ·intro h;dsimp only;omega
 split
 ·intro h;dsimp only;omega
 split
 ·rename_i i hi
  intro h
  obtain⟨h1,h2,h3⟩:=TF hi
  have:insE d f i=16∨insE d f i=6∨insE d f i=30:=by
   revert h2
   unfold insE
   repeat' split
   all_goals omega
  dsimp only
  omega
 split
 ·intro h;dsimp only;omega
 split
 ·rename_i i hi
  intro h
  obtain⟨h1,h2,h3⟩:=TF hi
  dsimp only
  omega
 ·intro h;exact absurd rfl h
theorem z0U {d:DImage} {g:Nat} (h:(wrongF d g).2=0):(wrongS d g (fnA d.funcs g)).2=0∧tabF d (fnA d.funcs g)=fnA d.funcs g:=by
 unfold wrongF at h
 split at h
 ·cases h
 ·rename_i hn
  refine⟨h,?_⟩
  by_cases e:tabF d (fnA d.funcs g)=fnA d.funcs g
  ·exact e
  ·exact absurd ⟨h,e⟩ hn
theorem z1M {d:DImage} {g:Nat} (h:(wrongF d g).2≠0):(wrongF d g=(-1,32)∧(wrongS d g (fnA d.funcs g)).2=0∧tabF d (fnA d.funcs g)≠fnA d.funcs g)∨(wrongF d g=wrongS d g (fnA d.funcs g)∧(wrongS d g (fnA d.funcs g)).2≠0):=by
 unfold wrongF at h⊢
 split
 ·rename_i hn;exact .inl ⟨rfl,hn⟩
 ·rename_i hn;rw[if_neg hn] at h;exact .inr ⟨rfl,h⟩
def valR (l:List DRun) (i:Int):Nat→Int
 |0=>0
 |k+1=>if(runAt l k).frm≤i then(runAt l k).value else valR l i k
theorem TY (l:List DRun) (x:AV) (hx:IsSl IsRun 2 l x) (i:Int) (m:Mem):Okv tab yZ [x,.int .i64 i] m (.int .u64 (valR l i l.length)):=by
 refine ze WZ ?_
 obtain⟨stk,cur,nx,live,fl⟩:=m
 simp only[uV,List.map,go_sem,G3]
 refine za (α:=Nat) (fun k σ=>k≤l.length∧ ∃nz,heads [0,1,5,6] 0 σ=⟨tmps 26 [(0,x),(1,.int .i64 i),(5,.int .u64 (valR l i k)),(6,.int .i64 k)],⟨stk++[cur],[],nz,[]::live,fl⟩⟩) (fun k=>l.length-k) 0 ?_ ?_
 ·refine⟨w06 _,?_⟩
  simp only[go_sem,reduceCtorEq,G0,G1,valR]
  exact⟨_,rfl⟩
 ·rintro k σ ⟨hk,nz,hσ⟩
  rw[hσ]
  clear hσ σ
  dsimp only at hk⊢
  by_cases h:k<l.length
  ·have e1:=IsSl.run hx h
   have hat:=hx.at .i64 h
   have hsucc:=zd h hx.max
   by_cases hq:(runAt l k).frm≤i
   ·simp only[go_sem,reduceCtorEq,G0,G1,G2,w02,h,hx.len,hat,e1,hq,hsucc]
    refine⟨k+1,by omega,h,nz,?_⟩
    unfold valR;rw[if_pos hq]
   ·simp only[go_sem,reduceCtorEq,G0,G1,G2,w02,h,hx.len,hat,e1,hq,hsucc]
    refine⟨k+1,by omega,h,nz,?_⟩
    rw[show valR l i (k+1)=valR l i k by rw[valR,if_neg hq]]
  ·have:k=l.length:=by omega
   subst this
   simp only[go_sem,reduceCtorEq,G0,G1,G2,w02,h,hx.len]
   rw[z6 rfl rfl,z8]
   exact⟨⟨_,rfl⟩,rfl⟩
theorem z6v {l r:List DRun} {i:Int}: ∀k,k≤l.length→valR (l++r) i k=valR l i k
 |0,_=>rfl
 |k+1,h=>by
  have e:runAt (l++r) k=runAt l k:=by unfold runAt;simp only[w00,w0c (show k<l.length by omega)]
  unfold valR
  rw[e,z6v k (by omega)]
theorem z1W (v:List Nat) (i:Nat): ∀k,0<k→k≤v.length→valR (rns v k) i (rns v k).length=((v.getD (min i (k-1)) 0:Nat):Int)
 |0,h,_=>absurd h (Nat.lt_irrefl 0)
 |k+1,_,hk=>by
  unfold rns
  by_cases hc:k=0∨v.getD k 0≠v.getD (k-1) 0
  ·rw[if_pos hc,w05,w19]
   have e:runAt (rns v k++[⟨(k:Nat),(v.getD k 0:Nat)⟩]) (rns v k).length=⟨(k:Nat),(v.getD k 0:Nat)⟩:=by
    unfold runAt;simp[w00]
   unfold valR
   rw[e]
   dsimp only
   by_cases h1:k≤i
   ·rw[if_pos (by omega),show min i (k+1-1)=k by omega]
   ·rw[if_neg (by omega),z6v _ (w09 _),z1W v i k (by omega) (by omega),show min i (k-1)=min i (k+1-1) by omega]
  ·rw[if_neg hc]
   simp only[not_or,Decidable.not_not] at hc
   rw[z1W v i k (by omega) (by omega)]
   by_cases h1:k≤i
   ·rw[show min i (k-1)=k-1 by omega,show min i (k+1-1)=k by omega,hc.2]
   ·rw[show min i (k-1)=min i (k+1-1) by omega]
theorem z49 {v:List Nat} {i:Nat} (h:i<v.length):valR (madeR v) i (madeR v).length=((v.getD i 0:Nat):Int):=by
 unfold madeR
 rw[z1W v i v.length (by omega) (w09 _),show min i (v.length-1)=i by omega]
section
variable {nx : Nat → List Nat} {W : Nat → Nat} {p0 : Nat}
theorem zbQ:Sub (mskOf nx W p0 0) p0:=by
 unfold mskOf
 split
 ·rename_i h;exact h.choose_spec.2.1.1
 ·intro s hs;simp at hs
theorem zbR {i k:Nat} (hr:Rch nx i) (hk:k∈nx i):Sub (mskOf nx W p0 k) (mskOf nx W p0 i|||W i):=by
 unfold mskOf
 split
 ·rename_i h;exact h.choose_spec.2.1.2 i hr k hk
 ·intro s hs;simp at hs
end
theorem zbS {f:DFunc} {i h:Nat} (hs:Sub (mskOf (nxt f.code) (Wm f.code) (2^f.params.toNat-1) i) h):Sub (mskF f i) h:=by
 unfold mskF
 split
 ·intro s hs;simp at hs
 ·exact hs
theorem zdZ {a b s:Nat} (h:Sub a b) (ha:(a>>>s)%2≠0):(b>>>s)%2≠0:=by
 have e: ∀x:Nat,x.testBit s=true↔(x>>>s)%2≠0:=fun x=>by
  rw[Nat.testBit_eq_decide_div_mod_eq,decide_eq_true_iff,Nat.shiftRight_eq_div_pow];omega
 exact(e b).1 (h s ((e a).2 ha))
theorem zal {f:DFunc} {i:Nat} (h:livE f i=0): ∀s∈rds (inA f.code i),(mskF f i>>>s.toNat)%2≠0:=fun s hs q=>z2G hs q h
theorem z8K {a b:Nat} (ha:a<65536) (hb:b<65536) (h:Sub a b):evBits .andNot .u64 (a:Int) (b:Int)=some (.int .u64 0):=by
 unfold evBits
 show some (AV.int .u64 (IntKind.u64.wrap (((BitVec.ofInt 64 (a:Int)&&& ~~~(BitVec.ofInt 64 (b:Int)):BitVec 64).toNat:Nat):Int)))=_
 have e:(BitVec.ofInt 64 (a:Int)&&& ~~~(BitVec.ofInt 64 (b:Int)):BitVec 64)=0#64:=by
  apply BitVec.eq_of_getLsbD_eq
  intro i hi
  rw[BitVec.getLsbD_and,BitVec.getLsbD_not]
  have e1:(BitVec.ofInt 64 (a:Int)).getLsbD i=a.testBit i:=by rw[←BitVec.testBit_toNat,Zi a ha]
  have e2:(BitVec.ofInt 64 (b:Int)).getLsbD i=b.testBit i:=by rw[←BitVec.testBit_toNat,Zi b hb]
  rw[e1,e2]
  cases hx:a.testBit i with
  |false=>simp
  |true=>rw[h i hx];simp
 rw[e]
 rfl
theorem z6g (f:DFunc) (w0 w1 w2 w3:AV) (h0:IsSl IsField 2 f.slots w0) (l:List Int) (x y:AV) (hx:IsSl IsI 1 l x) (hy:IsSl IsI 1 (l.map (slotT f)) y) (hl: ∀s∈l,0≤s∧s<f.slots.length) (m:Mem):
  Okv tab x6 [.agg [.str f.name,.int .i64 f.params,.int .i64 f.result,w0,w1,w2,w3],x,y] m (.bool true):=by
 refine ze Vb ?_
 obtain⟨stk,cur,nx,live,fl⟩:=m
 simp only[th,List.map,go_sem,reduceCtorEq,G3,G2]
 refine za (α:=Nat) (fun k σ=>k≤l.length∧ ∃nz,heads [1,2,3,7] 1 σ=⟨tmps 38 [(1,x),(2,y),(3,.ptr (stk++[cur]).length 0 nx 0),(7,.int .i64 k)],⟨stk++[cur],[⟨nx,[.str f.name,.int .i64 f.params,.int .i64 f.result,w0,w1,w2,w3]⟩],nz,[]::live,fl⟩⟩) (fun k=>l.length-k) 0 ?_ ?_
 ·refine⟨w06 _,?_⟩
  simp only[go_sem,reduceCtorEq,G0,G1]
  exact⟨_,rfl⟩
 ·rintro k σ ⟨hk,nz,hσ⟩
  rw[hσ]
  clear hσ σ
  dsimp only at hk⊢
  by_cases h:k<l.length
  ·have e1:nth x k= .int .i64 l[k]:=hx.nth h
   have h':k<(l.map (slotT f)).length:=by simpa using h
   have e2:nth y k= .int .i64 (slotT f l[k]):=by
    have:=hy.nth h'
    rw[List.getElem_map] at this;exact this
   have hsucc:=zd h hx.max
   have hat:=hx.at .i64 h
   have hat2:=hy.at .i64 h'
   obtain⟨q1,q2⟩:=hl _ (w04 h)
   generalize l[k]=s at*
   obtain⟨j,rfl⟩: ∃j:Nat,s=j:=⟨s.toNat,by omega⟩
   have hj:j<f.slots.length:=by omega
   have e3:=h0.fdA hj
   have hat3:=h0.at .i64 hj
   have e4:slotT f (j:Int)=(fdA f.slots j).typ:=by unfold slotT;rw[if_pos ⟨q1,q2⟩]
   simp only[go_sem,G0,G1,G2,w02,h,hx.len,hat,hat2,hat3,e1,e2,e3,e4,h0.len,show((j:Int)≥(f.slots.length:Int))=False from eq_false (by omega),hsucc,bne_self_eq_false]
   exact⟨k+1,by omega,h,nz,rfl⟩
  ·have:k=l.length:=by omega
   subst this
   simp only[go_sem,G0,G1,G2,w02,h,hx.len]
   rw[z6 rfl rfl,z8]
   exact⟨⟨_,rfl⟩,rfl⟩
theorem zdo {d:DImage} {f:DFunc} {i:Nat} {l:List Int} (h:Lab (nxt f.code) (stF d f) i l):sumB d.types l≤4096:=by
 cases h with
 |zero=>simp[sumB,sumK]
 |step h1 hs hk=>
  unfold stF stS at hs
  rw[w07] at hs
  obtain⟨l2,_,h3⟩:=hs
  split at h3
  ·injection h3 with h3;subst h3;assumption
  ·cases h3
theorem zbY {d:DImage} {f:DFunc} {n i:Nat} {l:List Int} (hg:GoodS (nxt f.code) (stF d f) n) (h:Lab (nxt f.code) (stF d f) i l):labOf (nxt f.code) (stF d f) i=l:=by
 have he: ∃l,Lab (nxt f.code) (stF d f) i l:=⟨l,h⟩
 unfold labOf
 rw[dif_pos he]
 exact hg.2 i _ _ he.choose_spec h
theorem z6t (hal: ∀m,CALL tab zu [] m=some (.bool true,m)) (d:DImage) (x:AV) (hx:IsImage d x) (hw:WfImage d) (g:Int) (pk:List Int) (p:AV) (hp:IsSl (IsK .i64) 1 pk p) (hpk: ∀z∈pk,in64 z) (m:Mem) (hfl:m.floor≤m.stk.length+1):
  Okv tab qE [x,.int .i64 g,p] m (.bool true):=by
 have hx':=hx
 obtain⟨ty,tx,fs,rfl,h0,h1,h2⟩:=hx
 refine ze ZY ?_
 obtain⟨stk,cur,nx,live,fl⟩:=m
 dsimp only at hfl
 have hf':fl≤(stk++[cur]).length+1:=by simp;omega
 have hmx:max fl ((stk++[cur]).length+1)≤(stk++[cur]).length+1:=by omega
 have hG:=fun m=>(uL d _ hx' m).eq
 simp only[vj,List.map,go_sem,reduceCtorEq,G3,G0,G2,hG]
 generalize callNx tab zO _ _=nz
 cases hg:great09 d
 case true=>
  simp only[go_sem,reduceCtorEq,G0,G2,hal]
  rw[z6 rfl rfl,z8]
  exact⟨⟨_,rfl⟩,rfl⟩
 have hsm:=SmallI.of hg
 have hC:=fun c n lv=>(qJ d _ hx' hw ⟨stk++[cur],c,n,lv,fl⟩ hf').eq
 simp only[go_sem,reduceCtorEq,G3,G0,G2,hC]
 generalize callNx tab zx _ _=nz
 by_cases he:err09 d=0
 case neg=>
  have he':(err09 d !=0)=true:=by simpa using he
  simp only[go_sem,reduceCtorEq,G0,G2,he',hal]
  rw[z6 rfl rfl,z8]
  exact⟨⟨_,rfl⟩,rfl⟩
 have hfi:=kJ he
 simp only[go_sem,reduceCtorEq,G0,G2,he,show((0:Int) !=0)=false from rfl]
 by_cases hg0:g<0
 case pos=>
  simp only[go_sem,reduceCtorEq,G0,G2,hg0,hal]
  rw[z6 rfl rfl,z8]
  exact⟨⟨_,rfl⟩,rfl⟩
 obtain⟨gn,rfl⟩: ∃k:Nat,g=k:=⟨g.toNat,by omega⟩
 by_cases hgn:gn<d.funcs.length
 case neg=>
  simp only[go_sem,reduceCtorEq,G0,G2,show((gn:Int)<0)=False from eq_false hg0,h2.len,show((gn:Int)≥(d.funcs.length:Int))=True from eq_true (by omega),hal]
  rw[z6 rfl rfl,z8]
  exact⟨⟨_,rfl⟩,rfl⟩
 by_cases hpl:pk.length≤200
 case neg=>
  simp only[go_sem,reduceCtorEq,G0,G2,show((gn:Int)<0)=False from eq_false hg0,h2.len,show((gn:Int)≥(d.funcs.length:Int))=False from eq_false (by omega),hp.len,show((pk.length:Int)>200)=True from eq_true (by omega),hal]
  rw[z6 rfl rfl,z8]
  exact⟨⟨_,rfl⟩,rfl⟩
 have hCP:=fun c n lv=>(z6u d _ hx' hw ⟨stk++[cur],c,n,lv,fl⟩ hf').eq
 simp only[go_sem,reduceCtorEq,G3,G0,G2,show((gn:Int)<0)=False from eq_false hg0,h2.len,show((gn:Int)≥(d.funcs.length:Int))=False from eq_false (by omega),hp.len,show((pk.length:Int)>200)=False from eq_false (by omega),hCP]
 generalize callNx tab uK _ _=nz1
 rcases z06 he with⟨hz,hall⟩|⟨g',hgn',hp',hn',hz⟩
 case inr=>
  have hb:((faultS d).2.2 !=0)=true:=by rw[hz];simpa using hn'
  simp only[go_sem,reduceCtorEq,G0,G2,hb,hal]
  rw[z6 rfl rfl,z8]
  exact⟨⟨_,rfl⟩,rfl⟩
 obtain⟨z1,z2⟩:=z0U (hall gn hgn)
 obtain⟨c1,c2,c3,c4,c5⟩:=Y2 z1
 have hQ:FunQ d (fnA d.funcs gn):= .of hw hfi hgn
 obtain⟨w0,w1,w2,w3,ef,q0,q1,q2,q3⟩:=h2.fnA hgn
 have hat:=h2.at .i64 hgn
 have hNr:=fun x hx1 hw1 m=>(z83 d _ hx' gn hgn x hx1 hw1 m).eq
 have hPu:=fun x hN m=>z6o d hQ.img hQ.sl _ hx' gn hgn x hN m
 have hTy:=fun(i:Nat) c n lv=>z6l d _ hx' hw gn i ⟨stk++[cur],c,n,lv,fl⟩ hf'
 have hTok:=fun(i:Nat) (hi:i<(fnA d.funcs gn).code.length) hN hT=>z1Z (d:=d) (g:=gn) (i:=i) he hgn hi hN hT
 have hFP:=hQ.funP c1 c3
 have hBy:=fun ts x hx1 hin hl c n lv=>(z1v d hQ.ty _ hx' ts x hx1 hin hl ⟨stk++[cur],c,n,lv,max fl ((stk++[cur]).length+1)⟩ hmx).eq
 obtain⟨hsz,hlv⟩:=z9l.1 z2
 have hcl:=hQ.c.len
 have hpp:=hQ.p
 generalize fnA d.funcs gn=f at*
 have hR7:=fun m=>(Q0 f.code w1 q1 hQ.c m).eq
 rw[ZH c1] at hR7
 have hLe:=fun m=>(z5c f.params ⟨hpp.1,by omega⟩ m).eq
 simp only[go_sem,reduceCtorEq,G3,G0,G2,hz,show((0:Int) !=0)=false from rfl,hat,ef,hR7,hLe,q0.one,q1.one,q2.one,q3.one]
 generalize callNx tab yA _ _=nz2
 generalize callNx tab yz _ _=nz3
 have hp0:2^f.params.toNat-1<65536:=by
  have:2^f.params.toNat≤65536:=w4c (by decide) (show f.params.toNat≤16 by omega)
  omega
 have hS0:Sub (mskOf (nxt f.code) (Wm f.code) (2^f.params.toNat-1) 0) (2^f.params.toNat-1):=zbQ
 generalize hP0:2^f.params.toNat-1=P0 at*
 refine za (α:=Nat×Nat×List Int×Nat) (fun z σ=>(z.1≤pk.length+1∧z.2.1<f.code.length∧Lab (nxt f.code) (stF d f) z.2.1 z.2.2.1∧Rch (nxt f.code) z.2.1∧Sub (mskOf (nxt f.code) (Wm f.code) P0 z.2.1) z.2.2.2∧z.2.2.2<65536∧InT d.types z.2.2.1∧z.2.2.1.length≤z.1)∧
   ∃nz y e n1,IsSl IsI 1 z.2.2.1 y∧heads [1,2,3,7,8,9,10,11] 2 σ=⟨tmps 236 [(1,.int .i64 gn),(2,p),(3,.ptr (stk++[cur]).length 0 nx 0),(7,.ptr (stk++[cur]).length 1 n1 0),(8,y),(9,.int .i64 z.2.1),(10,.int .u64 z.2.2.2),(11,.int .i64 z.1)],⟨stk++[cur],[⟨nx,[ty,tx,fs]⟩,⟨n1,[.str f.name,.int .i64 f.params,.int .i64 f.result,w0,w1,w2,w3]⟩],nz,e::live,fl⟩⟩) (fun z=>pk.length+1-z.1) (0,0,[],P0) ?_ ?_
 ·refine⟨⟨w06 _,hcl.1,.zero,.zero,hS0,hp0,fun t ht=>absurd ht (List.not_mem_nil),w06 _⟩,?_⟩
  simp only[go_sem,reduceCtorEq,G0,G1]
  exact⟨_,_,_,_,.nil 1,rfl⟩
 ·rintro⟨n,a,sc,hv⟩ σ ⟨⟨hn,ha,hlab,hrch,hsub,hv16,hin,hscl⟩,nz,y,e,n1,hy,hσ⟩
  rw[hσ]
  clear hσ σ
  dsimp only at hn ha hlab hrch hsub hv16 hin hscl hy⊢
  by_cases hnl:n≤pk.length
  case neg=>
   have:n=pk.length+1:=by omega
   subst this
   simp only[go_sem,G0,G1,G2,show(((pk.length+1:Nat):Int)≤(pk.length:Int))=False from eq_false (by omega),hp.len,hal]
   rw[z6 rfl rfl,z8]
   exact⟨⟨_,rfl⟩,rfl⟩
  obtain⟨hxP,hxW,hxU⟩:=hQ.c.at ha
  obtain⟨d1,d2,d3⟩:=z4D (c3 a ha)
  have e1:=q1.inA ha
  have hat1:=q1.at .i64 ha
  have hTk:=hTok a ha d1 d3
  generalize hX:inA f.code a=X at*
  have hNr1:=hNr X hxP hxW
  rw[zF d1] at hNr1
  simp only[go_sem,G3,G0,G1,G2,show((n:Int)≤(pk.length:Int))=True from eq_true (by omega),hp.len,hat1,e1,hNr1]
  generalize callNx tab yK _ _=nz4
  refine(hTy a _ _ _).xv fun r t1 m1 ⟨y1,y2,hr,s1,s2⟩=> ?_
  subst hr
  obtain⟨e1,he1⟩: ∃e',pushToks t1 (e::live)=e'::live:=by cases t1<;>exact⟨_,rfl⟩
  rw[hTk] at s1 s2⊢
  dsimp only at s1 s2⊢
  simp only[go_sem,G3,G0,G2,he1]
  refine(YZ X hxW hxP _).xv fun r t2 m2 ⟨y3,y4,hr,ho⟩=> ?_
  subst hr
  obtain⟨e2,he2⟩: ∃e',pushToks t2 (e1::live)=e'::live:=by cases t2<;>exact⟨_,rfl⟩
  have hlr:=QM X
  have hlw:=Zn X 3
  have hy3:=ho.l.sl (by omega)
  have hy4:=ho.r.sl (by unfold wrs;omega)
  have hrl: ∀s∈rds X,0≤s∧s<f.slots.length:=fun s hs=>⟨z8f s hs,d1.1 s (w4b _ hs)⟩
  have hwl: ∀s∈wrs X,0≤s∧s<f.slots.length:=fun s hs=>⟨zbd s hs,d1.1 s (w4e _ hs)⟩
  have ht1:=fun m=>(z6g f w0 w1 w2 w3 q0 (rds X) y3 y1 hy3 s1 hrl m).eq
  have ht2:=fun m=>(z6g f w0 w1 w2 w3 q0 (wrs X) y4 y2 hy4 s2 hwl m).eq
  simp only[go_sem,G3,G0,G2,he2,show((0:Int) !=0)=false from rfl,s1.len,s2.len,hy3.len,hy4.len,w29,bne_self_eq_false,ht1,ht2]
  generalize callNx tab x6 _ _=nz5
  have hLz: ∀s∈rds X,(mskF f a>>>s.toNat)%2≠0:=by rw[←hX];exact zal (c5 a ha)
  have hmS:Sub (mskF f a) hv:=zbS (by rw[hP0];exact hsub)
  have hm16:mskF f a<65536:=z5P hQ.c (by omega) a
  have hvl:valR f.lives a f.lives.length=((mskF f a:Nat):Int):=by
   rw[←hlv];unfold livS
   rw[z49 (by rw[T0];exact ha),QU ha]
  have hvs:valR f.sizes a f.sizes.length=((sumB d.types sc:Nat):Int):=by
   rw[←hsz];unfold sizS
   rw[z49 (by simp[labs];exact ha)]
   congr 1
   rw[w00,w17]
   have:=zbX (d:=d) (f:=f) ha
   rw[zbY c4.1 hlab] at this
   rw[w00] at this
   have hl:a<(labs d f).length:=by simp[labs];exact ha
   rw[w11 hl] at this⊢
   simp only[w2a] at this
   simp only[w0e,w2a,this]
  have hV1:=fun m=>(TY f.lives w3 q3 a m).eq
  have hV2:=fun m=>(TY f.sizes w2 q2 a m).eq
  rw[hvl] at hV1
  rw[hvs] at hV2
  refine za (α:=Nat) (fun k σ=>k≤(rds X).length∧ ∃n2,heads [1,2,3,7,8,9,10,11,12,16,18] 3 σ=⟨tmps 236 [(1,.int .i64 gn),(2,p),(3,.ptr (stk++[cur]).length 0 nx 0),(7,.ptr (stk++[cur]).length 1 n1 0),(8,y),(9,.int .i64 a),(10,.int .u64 hv),(11,.int .i64 n),(12,.ptr (stk++[cur]).length 2 nz 0),(16,y3),(18,.int .i64 k)],⟨stk++[cur],[⟨nx,[ty,tx,fs]⟩,⟨n1,[.str f.name,.int .i64 f.params,.int .i64 f.result,w0,w1,w2,w3]⟩,⟨nz,[.int .u8 X.op,.int .i64 X.a,.int .i64 X.b,.int .i64 X.c]⟩],n2,e2::live,fl⟩⟩) (fun k=>(rds X).length-k) 0 ?_ ?_
  ·refine⟨w06 _,?_⟩
   simp only[go_sem,G0,G1]
   exact⟨_,rfl⟩
  ·rintro k σ ⟨hk,n2,hσ⟩
   rw[hσ]
   clear hσ σ
   dsimp only at hk⊢
   by_cases hkn:k<(rds X).length
   ·have hmem:(rds X)[k]∈rds X:=w04 hkn
    have e2:nth y3 k= .int .i64 (rds X)[k]:=hy3.nth hkn
    have hatk:=hy3.at .i64 hkn
    have hb1:=hLz _ hmem
    have hb2:=zdZ hmS hb1
    obtain⟨r1,r2⟩:=hrl _ hmem
    generalize (rds X)[k]=s at*
    have hsk:0≤s∧s≤16:=by omega
    have hsu2:IntKind.i64.wrap ((k:Int)+1)=((k+1:Nat):Int):=by rw[zb (by omega) (by omega)];omega
    have ht1:((hv>>>s.toNat:Nat):Int).tmod 2=((hv>>>s.toNat%2:Nat):Int):=(Int.ofNat_tmod _ 2).symm
    have ht2:((mskF f a>>>s.toNat:Nat):Int).tmod 2=((mskF f a>>>s.toNat%2:Nat):Int):=(Int.ofNat_tmod _ 2).symm
    have hb1':(((mskF f a>>>s.toNat%2:Nat):Int)==0)=false:=by rw[beq_eq_false_iff_ne];omega
    have hb2':(((hv>>>s.toNat%2:Nat):Int)==0)=false:=by rw[beq_eq_false_iff_ne];omega
    simp only[go_sem,G0,G1,G2,hy3.len,w02,hkn,hatk,e2,z61 hsk,show((2:Int)=0)=False from eq_false (by decide),ht1,ht2,hb1',hb2',hV1,hsu2]
    exact⟨k+1,by omega,hkn,_,rfl⟩
   ·have hke:k=(rds X).length:=by omega
    subst hke
    have hbn:=fun c n3 lv=>hBy sc y hy hin (by omega) c n3 lv
    have hsb:=zdo hlab
    have hcv:IntKind.u64.wrap ((sumB d.types sc:Nat):Int)=((sumB d.types sc:Nat):Int):=by rw[zM (by omega) (by omega)]
    have han:=z8K hm16 hv16 hmS
    simp only[go_sem,reduceCtorEq,G3,G0,G1,G2,hy3.len,w02,hkn,hV1,hV2,han,hbn,hcv,show((0:Int) !=0)=false from rfl,bne_self_eq_false]
    generalize callNx tab yc _ _=nz6
    refine(hPu X d1 _).xv fun r t3 m3 ⟨q,hr,hoq⟩=> ?_
    subst hr
    obtain⟨e3,he3⟩: ∃e',pushToks t3 (e2::live)=e'::live:=by cases t3<;>exact⟨_,rfl⟩
    simp only[go_sem,G0,G2,he3]
    have hst:(stF d f a sc).isSome=true:=c4.1.1 a sc hlab
    obtain⟨l',hl'⟩:=Option.isSome_iff_exists.1 hst
    have hp24:X.op=24→0≤slotT f X.a:=fun e=>Ty hxP hxW d1 hQ.s (k:=0) (by omega) (by right;show(shp X.op).getD 0 45=114;rw[e];rfl)
    have hst2:=zbw (d:=d) (f:=f) (x:=X) (l:=sc) hp24
    have hl2:stS d f X sc=some l':=by rw[←hX];exact hl'
    obtain⟨hin',hlen'⟩:=z89 hxP hxW d1 hQ.s hin hl2
    have hlab':=fun k hk=>Lab.step (k:=k) hlab hl' hk
    have hTl:(takeT d X).length≤sc.length∧sc.drop (sc.length-(takeT d X).length)=takeT d X:=by
     apply Classical.byContradiction
     intro q
     rw[if_neg q] at hst2
     rw[hst2] at hl2;cases hl2
    rw[if_pos hTl] at hst2
    have hlq:sc.take (sc.length-(takeT d X).length)++(if 0≤pushT f X then [pushT f X] else [])=l':=by
     rw[hst2] at hl2
     generalize sc.take (sc.length-(takeT d X).length)++(if 0≤pushT f X then [pushT f X] else [])=L at hl2⊢
     by_cases hq4:sumB d.types L≤4096
     ·rw[if_pos hq4] at hl2;injection hl2
     ·rw[if_neg hq4] at hl2;cases hl2
    obtain⟨hTle,hTd⟩:=hTl
    generalize pushT f X=pu at*
    generalize takeT d X=T at*
    have hq:=hoq.sl (by omega)
    have hsubN:IntKind.i64.wrap ((sc.length:Int)-T.length)=((sc.length-T.length:Nat):Int):=by rw[zb (by omega) (by omega)];omega
    obtain⟨z3,hz3,hzs3⟩:=hy.fromN (n:=sc.length-T.length) (by omega)
    obtain⟨z4,hz4,hzs4⟩:=hy.toN (n:=sc.length-T.length) (by omega)
    have hSI:=fun m=>(yD _ _ _ _ hzs3 hq m).eq
    rw[decide_eq_true hTd] at hSI
    simp only[go_sem,G0,G2,hy.len,hq.len,hsubN,show(((sc.length-T.length:Nat):Int)<0)=False from eq_false (by omega),hz3,hSI,hz4]
    generalize callNx tab zH _ _=nz7
    obtain⟨zz2,hzz2,hcc2⟩:=hzs4.elems_any
    have hn0:Own IsI 1 (.list 1 .full []) [] e3:=Own.full (R:=IsI) (xs:=[]) (ys:=[]) trivial e3
    refine hn0.xv hzz2 hcc2 (by rw[w1a];simp;omega) fun y5 n5 e5 ho5=> ?_
    rw[w32] at ho5
    have hSub': ∀k,k∈nxt f.code a→Sub (mskOf (nxt f.code) (Wm f.code) P0 k) (hv|||maskN (wrs X)):=fun k hk=>by
     have:=zbR (W:=Wm f.code) (p0:=P0) hrch hk
     refine this.trans (Sub.or hsub ?_)
     unfold Wm
     rw[if_pos ha,hX]
     exact .refl _
    by_cases hpu:0≤pu
    ·rw[if_pos hpu] at hlq
     simp only[go_sem,G0,G2,show(pu≥0)=True from eq_true hpu]
     refine ho5.xv (zh · 1 .full [.int .i64 pu]) (YH _) (by rw[w1a];simp;omega) fun y6 n6 e6 ho6=> ?_
     rw[hlq] at ho6
     have hy6:=ho6.sl (by omega)
     simp only[go_sem,G0,G2]
     refine(Uc f.code w1 q1 a ha (by rw[hX];exact Wu hxP) _).xv fun r n7 ⟨hr,_⟩=> ?_
     by_cases hz0:(nxt f.code a).length=0
     case pos=>
      have hz0':(((nxt f.code a).length:Int)==0)=true:=by rw[hz0];rfl
      simp only[go_sem,reduceCtorEq,G0,G2,hr.len,hz0',hal]
      rw[z6 rfl rfl,z8]
      exact⟨⟨_,rfl⟩,rfl⟩
     have hz0':(((nxt f.code a).length:Int)==0)=false:=by rw[beq_eq_false_iff_ne];omega
     by_cases hnp:n=pk.length
     case pos=>
      have hnp':((n:Int)==(pk.length:Int))=true:=by rw[hnp];simp
      simp only[go_sem,reduceCtorEq,G0,G2,hr.len,hz0',hp.len,hnp',hal]
      rw[z6 rfl rfl,z8]
      exact⟨⟨_,rfl⟩,rfl⟩
     have hnp':((n:Int)==(pk.length:Int))=false:=by rw[beq_eq_false_iff_ne];omega
     have hnk:n<pk.length:=by omega
     have e9:nth p n= .int .i64 pk[n]:=hp.nth hnk
     have hat9:=hp.at .i64 hnk
     have hv9:=hpk _ (w04 hnk)
     generalize pk[n]=v at*
     by_cases hv0:v<0
     case pos=>
      simp only[go_sem,reduceCtorEq,G0,G2,hr.len,hz0',hp.len,hnp',hat9,e9,hv0,hal]
      rw[z6 rfl rfl,z8]
      exact⟨⟨_,rfl⟩,rfl⟩
     obtain⟨vn,rfl⟩: ∃k:Nat,v=k:=⟨v.toNat,by omega⟩
     have hk7:vn%(nxt f.code a).length<(nxt f.code a).length:=Nat.mod_lt _ (by omega)
     have htm:(vn:Int).tmod ((nxt f.code a).length:Int)=((vn%(nxt f.code a).length:Nat):Int):=(Int.ofNat_tmod _ _).symm
     have hkm:(nxt f.code a)[vn%(nxt f.code a).length]∈nxt f.code a:=w04 hk7
     have e7:nth r (vn%(nxt f.code a).length)= .int .i64 ((nxt f.code a)[vn%(nxt f.code a).length]:Nat):=hr.nth hk7
     have hat7:=hr.at .i64 hk7
     have hor:=z2Z hv16 (kG (Z6 hxP hxW) (w09 _))
     have hsu9:IntKind.i64.wrap ((n:Int)+1)=((n+1:Nat):Int):=by rw[zb (by omega) (by omega)];omega
     generalize hKK:(nxt f.code a)[vn%(nxt f.code a).length]=kk at*
     generalize vn%(nxt f.code a).length=jj at*
     have hWr:=fun m=>(z0p X hxW hxP m).eq
     unfold maskN at hWr
     simp only[go_sem,G3,G0,G2,hr.len,hz0',hp.len,hnp',hat9,e9,show((vn:Int)<0)=False from eq_false (by omega),hWr,hor,show(((nxt f.code a).length:Int)=0)=False from eq_false (by omega),htm,hat7,e7,hsu9]
     refine⟨(n+1,kk,l',hv|||maskK (wrs X) (wrs X).length),?_,⟨?_,?_,?_,?_,?_,?_,hin',?_⟩,_,_,_,_,hy6,rfl⟩
     ·dsimp only;omega
     ·dsimp only;omega
     ·exact UI hQ.c c1 ha _ hkm
     ·exact hlab' _ hkm
     ·exact .step hrch hkm
     ·exact hSub' _ hkm
     ·exact TA hv16 (kG (Z6 hxP hxW) (w09 _))
     ·dsimp only;omega
    ·rw[if_neg hpu,w1f] at hlq
     rw[hlq] at ho5
     have hy6:=ho5.sl (by omega)
     simp only[go_sem,G0,G2,show(pu≥0)=False from eq_false hpu]
     refine(Uc f.code w1 q1 a ha (by rw[hX];exact Wu hxP) _).xv fun r n7 ⟨hr,_⟩=> ?_
     by_cases hz0:(nxt f.code a).length=0
     case pos=>
      have hz0':(((nxt f.code a).length:Int)==0)=true:=by rw[hz0];rfl
      simp only[go_sem,reduceCtorEq,G0,G2,hr.len,hz0',hal]
      rw[z6 rfl rfl,z8]
      exact⟨⟨_,rfl⟩,rfl⟩
     have hz0':(((nxt f.code a).length:Int)==0)=false:=by rw[beq_eq_false_iff_ne];omega
     by_cases hnp:n=pk.length
     case pos=>
      have hnp':((n:Int)==(pk.length:Int))=true:=by rw[hnp];simp
      simp only[go_sem,reduceCtorEq,G0,G2,hr.len,hz0',hp.len,hnp',hal]
      rw[z6 rfl rfl,z8]
      exact⟨⟨_,rfl⟩,rfl⟩
     have hnp':((n:Int)==(pk.length:Int))=false:=by rw[beq_eq_false_iff_ne];omega
     have hnk:n<pk.length:=by omega
     have e9:nth p n= .int .i64 pk[n]:=hp.nth hnk
     have hat9:=hp.at .i64 hnk
     have hv9:=hpk _ (w04 hnk)
     generalize pk[n]=v at*
     by_cases hv0:v<0
     case pos=>
      simp only[go_sem,reduceCtorEq,G0,G2,hr.len,hz0',hp.len,hnp',hat9,e9,hv0,hal]
      rw[z6 rfl rfl,z8]
      exact⟨⟨_,rfl⟩,rfl⟩
     obtain⟨vn,rfl⟩: ∃k:Nat,v=k:=⟨v.toNat,by omega⟩
     have hk7:vn%(nxt f.code a).length<(nxt f.code a).length:=Nat.mod_lt _ (by omega)
     have htm:(vn:Int).tmod ((nxt f.code a).length:Int)=((vn%(nxt f.code a).length:Nat):Int):=(Int.ofNat_tmod _ _).symm
     have hkm:(nxt f.code a)[vn%(nxt f.code a).length]∈nxt f.code a:=w04 hk7
     have e7:nth r (vn%(nxt f.code a).length)= .int .i64 ((nxt f.code a)[vn%(nxt f.code a).length]:Nat):=hr.nth hk7
     have hat7:=hr.at .i64 hk7
     have hor:=z2Z hv16 (kG (Z6 hxP hxW) (w09 _))
     have hsu9:IntKind.i64.wrap ((n:Int)+1)=((n+1:Nat):Int):=by rw[zb (by omega) (by omega)];omega
     generalize hKK:(nxt f.code a)[vn%(nxt f.code a).length]=kk at*
     generalize vn%(nxt f.code a).length=jj at*
     have hWr:=fun m=>(z0p X hxW hxP m).eq
     unfold maskN at hWr
     simp only[go_sem,G3,G0,G2,hr.len,hz0',hp.len,hnp',hat9,e9,show((vn:Int)<0)=False from eq_false (by omega),hWr,hor,show(((nxt f.code a).length:Int)=0)=False from eq_false (by omega),htm,hat7,e7,hsu9]
     refine⟨(n+1,kk,l',hv|||maskK (wrs X) (wrs X).length),?_,⟨?_,?_,?_,?_,?_,?_,hin',?_⟩,_,_,_,_,hy6,rfl⟩
     ·dsimp only;omega
     ·dsimp only;omega
     ·exact UI hQ.c c1 ha _ hkm
     ·exact hlab' _ hkm
     ·exact .step hrch hkm
     ·exact hSub' _ hkm
     ·exact TA hv16 (kG (Z6 hxP hxW) (w09 _))
     ·dsimp only;omega
end Go.Proofs.W
end
section
namespace Go.Proofs.YtlmfkfmgnkjlaaaGreat
set_option maxRecDepth 100000
set_option linter.unusedSimpArgs false
open Go.Vs Go.ChangeShapes Go.WideShapes Go.ChangeAt Go.RowKit Go.Proofs.W
theorem alive_true (m:Mem):CALL tab zu [] m=some (.bool true,m):=z3a jM m
theorem law (ys:List AV) (h:ArgsT Tryz.prog [26,3,47] ys): ∃m',CALL tab 4 ys Mem.zero=some (.bool true,m'):=by
 obtain⟨x0,r0,rfl,g0,x1,r1,rfl,g1,x2,r2,rfl,g2,gz⟩:=h
 have gz:r2=[]:=gz
 subst gz
 obtain⟨d0,a0,b0⟩:=arg26 x0 g0
 obtain⟨e1,n1,t1⟩:=g1
 rw[XC e1 (by kernel_rfl)] at t1
 obtain⟨v1,u1,c1,k1,_⟩:=rd3 n1 _ t1
 injection c1 with c1 _
 subst c1
 obtain rfl:=k1
 obtain⟨e2,n2,t2⟩:=g2
 rw[XC e2 (by kernel_rfl)] at t2
 obtain⟨v2,u2,c2,k2,w2⟩:=rd47 n2 _ t2
 injection c2 with c2 _
 subst c2
 obtain⟨k,hk⟩:=z6t alive_true d0 x0 a0 b0 v1 v2 x2 k2 w2 Mem.zero (w06 _)
 exact⟨_,hk⟩
theorem Tryz.own:ownKnob Tryz.prog.godebug=none:=by kernel_rfl
theorem Tryz.laidOut:laidOutB Tryz.prog=true:=by kernel_rfl
theorem f_lifted (os:Os) (started:os.Started) (H:Type) (enc:TypeId×Value→H):
  ReturnsInHanded {} Tryz.checked os 4 .any (Rows.checkWalkSpec.pre6 enc Tryz.prog Tryz.f4 Rows.checkWalkRow.domain false) (Rows.checkWalkSpec.post enc Tryz.prog Tryz.f4 false true false false):=by
 refine returnsInHanded_of_change (C:=Tryz.checked) Tryz.own started (by kernel_rfl) Tryz.func4
  (ChangeSpec.witness6 (enc:=enc) (C:=Tryz.checked) false ⟨#[],#[.agg #[.slice none 0 0,.slice none 0 0,.slice none 0 0],.int .i64 0,.slice none 0 0],[]⟩ 12 (by kernel_rfl) (by kernel_rfl) (by kernel_rfl) (by kernel_rfl)) ?_
 intro W base args ds gs before hval hW _ _
 exact z2H (P:=Tryz.prog) (tab:=tab) (S:=[47,36,38,39,33,35,42,24,23,9,95,40,3,5,81,22,26]) (tb:=4) (by kernel_rfl) tabOk Ug Tryz.laidOut rfl (by kernel_rfl) rfl Tryz.underlying4
  (fun ds hd=>by
   match ds,hd with
   | [d1,d2,d3],_=>rfl) law hval hW
theorem checkWalk_holds:Rows.CheckWalkSaid:=
 OpenClaim.holds_of_wide 4 Tryz.f4 rfl rfl rfl rfl rfl rfl rfl ⟨rfl,rfl,rfl,rfl,rfl⟩ rfl rfl rfl rfl rfl (by kernel_rfl) Tryz.func4 (by kernel_rfl)
  (of_decide_eq_true (by kernel_rfl)) (by unfold Func.isWrapper;first|(rw[if_pos (by decide+kernel)];kernel_rfl)|(rw[if_neg (by decide+kernel)];exact⟨rfl,rfl⟩))
  (fun os started H enc _=>f_lifted os started H enc)
end Go.Proofs.YtlmfkfmgnkjlaaaGreat
end
