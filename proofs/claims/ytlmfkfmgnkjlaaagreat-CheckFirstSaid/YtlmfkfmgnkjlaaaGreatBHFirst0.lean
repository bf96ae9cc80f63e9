/-
  CheckFirst holds for every input: its law function returns true, and the arguments read as they did. No condition besides those of the row.
-/
import Derived.Test.YtlmfkfmgnkjlaaaGreatB5
import Derived.Test.YtlmfkfmgnkjlaaaGreatB7
import Derived.Test.YtlmfkfmgnkjlaaaGreatRows
set_option maxHeartbeats 64000000
set_option linter.unusedVariables false
set_option linter.unusedSimpArgs false
open Nat renaming le_of_ble_eq_true → w1c, reduceEqDiff → G0, reduceBEq → G1, reduceLT → G2, reduceAdd → G3, reduceLeDiff → G4, zero_le → w06
open Int renaming ofNat_lt → w02, toNat_natCast → w1b
open List renaming getElem_mem → w04
open Bool renaming and_eq_true → w0f, or_eq_true → w2c, eq_iff_iff → w3d
section
namespace Go.Proofs.W
open Go.Vs
set_option linter.unusedSimpArgs false
set_option maxRecDepth 100000
open Classical in
noncomputable def tablesS (d:DImage) (g:Int):DFunc×Int:=
 if err09 d≠0 then(fn00,err09 d) else if¬(0≤g∧g<d.funcs.length) then(fn00,2) else
 if(wrongS d g.toNat (fnA d.funcs g.toNat)).2≠0 then(fn00,(wrongS d g.toNat (fnA d.funcs g.toNat)).2) else(tabF d (fnA d.funcs g.toNat),0)
def TablesV (d:DImage) (g:Int) (r:AV):Prop:= ∃y,r= .tup [y,.int .i64 (tablesS d g).2]∧IsFunc (tablesS d g).1 y
theorem qY {d:DImage} {g e:Int} (h:tablesS d g=(fn00,e)):TablesV d g (.tup [.agg [.str [],.int .i64 0,.int .i64 0,.nils,.nils,.nils,.nils],.int .i64 e]):=
 ⟨_,by rw[h],by rw[h];exact⟨_,_,_,_,rfl,.nil 2,.nil 4,.nil 2,.nil 2⟩⟩
theorem z24 {d:DImage} {g:Int} (h:err09 d≠0):tablesS d g=(fn00,err09 d):=by unfold tablesS;rw[if_pos h]
theorem Qh {d:DImage} {g:Int} (h:err09 d=0) (h2: ¬(0≤g∧g<d.funcs.length)):tablesS d g=(fn00,2):=by
 unfold tablesS;rw[if_neg (fun q=>q h),if_pos h2]
section
variable {d : DImage} {g : Nat} (h : err09 d = 0) (hg : g < d.funcs.length)
include h hg
theorem XO (hn:(wrongS d g (fnA d.funcs g)).2≠0):tablesS d g=(fn00,(wrongS d g (fnA d.funcs g)).2):=by
 unfold tablesS;rw[if_neg (fun q=>q h),if_neg (by omega),w1b,if_pos hn]
theorem Tx (hn:(wrongS d g (fnA d.funcs g)).2=0):tablesS d g=(tabF d (fnA d.funcs g),0):=by
 unfold tablesS;rw[if_neg (fun q=>q h),if_neg (by omega),w1b,if_neg (fun q=>q hn)]
end
theorem za1 (d:DImage) (y:AV) (hy:IsImage d y) (hw:WfImage d) (hsm:SmallI d) (g:Int) (m:Mem) (hf:m.floor≤m.stk.length+1):OkT tab uA [y,.int .i64 g] m (fun r _ _=>TablesV d g r):=by
 have hy':=hy
 obtain⟨ty,tx,fs,rfl,h0,h1,h2⟩:=hy
 refine jv XQ ?_
 obtain⟨stk,cur,nx,live,fl⟩:=m
 dsimp only at hf
 have hf':fl≤(stk++[cur]).length+1:=by simp;omega
 have hC:=fun c n lv=>(qJ d _ hy' hw ⟨stk++[cur],c,n,lv,fl⟩ hf').eq
 simp only[uk,List.map,go_sem,reduceCtorEq,G3,G0,G2,hC]
 generalize callNx tab zx _ _=nz
 by_cases he:err09 d=0
 case neg=>
  have he':(err09 d !=0)=true:=by simpa using he
  simp only[go_sem,reduceCtorEq,G3,G0,G2,he',evBuild]
  exact zr rfl (qY (z24 he))
 have hfi:=kJ he
 simp only[go_sem,reduceCtorEq,G0,G2,he,show((0:Int) !=0)=false from rfl]
 by_cases g1:g<0
 ·simp only[go_sem,reduceCtorEq,G3,G0,G2,g1,evBuild]
  exact zr rfl (qY (Qh he (by omega)))
 by_cases g2:g≥d.funcs.length
 ·simp only[go_sem,reduceCtorEq,G3,G0,G2,g1,h2.len,g2,evBuild]
  exact zr rfl (qY (Qh he (by omega)))
 obtain⟨g,rfl⟩: ∃k:Nat,g=k:=⟨g.toNat,by omega⟩
 have hgn:g<d.funcs.length:=by omega
 have hQ:=FunQ.of hw hfi hgn
 have hU:=fun c n lv=>(z1S d _ hy' g hgn hQ ⟨stk++[cur],c,n,lv,fl⟩ hf').eq
 simp only[go_sem,reduceCtorEq,G3,G0,G2,g1,h2.len,g2,hU]
 generalize callNx tab zZ _ _=nz1
 by_cases hz:(wrongS d g (fnA d.funcs g)).2=0
 case neg=>
  simp only[go_sem,reduceCtorEq,G3,G0,G2,show((wrongS d g (fnA d.funcs g)).2 !=0)=true by simpa using hz,evBuild]
  exact zr rfl (qY (XO he hgn hz))
 obtain⟨c1,c2,c3,c4,c5⟩:=Y2 hz
 simp only[go_sem,reduceCtorEq,G3,G0,G2,show((wrongS d g (fnA d.funcs g)).2 !=0)=false by simpa using hz]
 refine(z6n d _ hy' hsm g hgn hQ (hQ.funP c1 c3) c4 _ hf').xv fun r t1 n1 hr=> ?_
 have hlive: ∃e',pushToks t1 ([]::live)=e'::live:=by cases t1<;>exact⟨_,rfl⟩
 obtain⟨e1,he1⟩:=hlive
 have hok:=Tx he hgn hz
 have hr':=hr
 obtain⟨v0,v1,v2,v3,rfl,p0,p1,p2,p3⟩:=hr
 simp only[go_sem,reduceCtorEq,G3,G0,G2,he1,p0.one,p1.one,p2.one,p3.one]
 refine zr (by simp only[AV.refs,refsAny,p0.refs,p1.refs,p2.refs,p3.refs];rfl) ?_
 exact⟨_,by rw[hok],by rw[hok];exact hr'⟩
theorem qX (l:List DField) (x:AV) (hx:IsSl IsField 2 l x) (hl:l.length≤1000) (m:Mem):OkT tab yI [x] m (fun r _ _=>IsSl IsField 2 l r):=by
 refine jv j0 ?_
 obtain⟨stk,cur,nx,live,fl⟩:=m
 obtain⟨y,n,e',ha,hy,_⟩:=jf (stk:=stk++[cur]) (cur:=[]) (nx:=nx) (fl:=fl) (e:=[]) (rest:=live) (bytes:=24) hx (by omega)
 have hx':=hx
 obtain⟨_,⟨rfl,rfl⟩|⟨tk,ys,rfl,h⟩⟩:=hx
 ·simp only[zW,List.map,go_sem,reduceCtorEq,G0,G2]
  exact zr rfl hx'
 ·simp only[zW,List.map,go_sem,reduceCtorEq,G0,G2,ha]
  exact zr (hy.refs _) hy
theorem qW (l:List DInstr) (x:AV) (hx:IsSl IsInstr 4 l x) (hl:l.length≤1000) (m:Mem):OkT tab yH [x] m (fun r _ _=>IsSl IsInstr 4 l r):=by
 refine jv qZ ?_
 obtain⟨stk,cur,nx,live,fl⟩:=m
 obtain⟨y,n,e',ha,hy,_⟩:=jf (stk:=stk++[cur]) (cur:=[]) (nx:=nx) (fl:=fl) (e:=[]) (rest:=live) (bytes:=32) hx (by omega)
 have hx':=hx
 obtain⟨_,⟨rfl,rfl⟩|⟨tk,ys,rfl,h⟩⟩:=hx
 ·simp only[zV,List.map,go_sem,reduceCtorEq,G0,G2]
  exact zr rfl hx'
 ·simp only[zV,List.map,go_sem,reduceCtorEq,G0,G2,ha]
  exact zr (hy.refs _) hy
theorem z0q (d:DImage) (y:AV) (hy:IsImage d y) (hw:WfImage d) (hsm:SmallI d) (g:Int) (m:Mem) (hf:m.floor≤m.stk.length+1):OkT tab qx [y,.int .i64 g] m (fun r _ _=>TablesV d g r):=by
 have hy':=hy
 obtain⟨ty,tx,fs,rfl,h0,h1,h2⟩:=hy
 refine jv z2f ?_
 obtain⟨stk,cur,nx,live,fl⟩:=m
 dsimp only at hf
 have hf':fl≤(stk++[cur]).length+1:=by simp;omega
 have hmx:max fl ((stk++[cur]).length+1)≤(stk++[cur]).length+1:=by omega
 have hC:=fun c n lv=>(Ye d _ hy' hw ⟨stk++[cur],c,n,lv,fl⟩ hf').eq
 simp only[ZT,List.map,go_sem,reduceCtorEq,G3,G0,G2,hC]
 generalize callNx tab xM _ _=nz
 by_cases he:err09 d=0
 case neg=>
  have he':(err09 d !=0)=true:=by simpa using he
  simp only[go_sem,reduceCtorEq,G3,G0,G2,he',evBuild]
  exact zr rfl (qY (z24 he))
 have hfi:=kJ he
 have hwf:=fun m=>(Y3 _ _ h2 g m).eq
 simp only[go_sem,reduceCtorEq,G0,G2,he,show((0:Int) !=0)=false from rfl,hwf]
 generalize callNx tab yg _ _=nz1
 by_cases hg:0≤g∧g<d.funcs.length
 case neg=>
  simp only[go_sem,reduceCtorEq,G3,G0,G2,decide_eq_false hg,evBuild]
  exact zr rfl (qY (Qh he hg))
 obtain⟨g,rfl⟩: ∃k:Nat,g=k:=⟨g.toNat,by omega⟩
 have hgn:g<d.funcs.length:=by omega
 have hQ:=FunQ.of hw hfi hgn
 obtain⟨w0,w1,w2,w3,ef,q0,q1,q2,q3⟩:=h2.fnA hgn
 have hat:=h2.at .i64 hgn
 simp only[go_sem,reduceCtorEq,G3,G0,G2,decide_eq_true hg]
 refine(zbh d _ hy' g hgn hQ _ hf').xv fun r t1 n1 ⟨y1,y2,hr,hy1,hy2,hys⟩=> ?_
 subst hr
 have hlive: ∃e',pushToks t1 ([]::live)=e'::live:=by cases t1<;>exact⟨_,rfl⟩
 obtain⟨e1,he1⟩:=hlive
 by_cases hz:(wrongS d g (fnA d.funcs g)).2=0
 case neg=>
  have tw:=XO he hgn hz
  have hz2:((wrongS d g (fnA d.funcs g)).2 !=0)=true:=by simpa using hz
  simp only[go_sem,reduceCtorEq,G3,G0,G4,G2,he1,hy1,hy2,hz2,evBuild]
  refine⟨by simp,zr rfl (qY tw)⟩
 obtain⟨hs1,hs2⟩:=hys hz
 have hok:=Tx he hgn hz
 rw[z1K hz]
 obtain⟨f0,f1,_⟩:=hsm.f.2 _ (w04 hgn)
 rw[z1D hgn] at f0 f1
 generalize fnA d.funcs g=f at*
 simp only[go_sem,reduceCtorEq,G3,G0,G2,he1,hy1,hy2,show((0:Int) !=0)=false from rfl,hat,ef,q0.one,q1.one,q2.one,q3.one]
 refine(qX _ _ q0 f0 _).xw fun v0 t2 n2 hv0=> ?_
 have hlive: ∃e',pushToks t2 (e1::live)=e'::live:=by cases t2<;>exact⟨_,rfl⟩
 obtain⟨e2,he2⟩:=hlive
 simp only[go_sem,reduceCtorEq,G0,G2,he2]
 refine(qW _ _ q1 f1 _).xw fun v1 t3 n3 hv1=> ?_
 have hlive: ∃e',pushToks t3 (e2::live)=e'::live:=by cases t3<;>exact⟨_,rfl⟩
 obtain⟨e3,he3⟩:=hlive
 simp only[go_sem,reduceCtorEq,G3,G0,G4,G2,he3,hv0.one,hv1.one,hs1.one,hs2.one,hv0.refs_cells,hv1.refs_cells,hs1.refs_cells,hs2.refs_cells]
 refine zr (by simp only[AV.refs,refsAny,hv0.refs,hv1.refs,hs1.refs,hs2.refs];rfl) ?_
 exact⟨_,by rw[hok],by rw[hok];exact⟨v0,v1,y1,y2,rfl,hv0,hv1,hs1,hs2⟩⟩
theorem TF {E:Nat→Int}: ∀{n i:Nat},frst E n=some i→i<n∧E i≠0∧ ∀j,j<i→E j=0
 |0,i,h=>by simp[frst] at h
 |n+1,i,h=>by
  unfold frst at h
  cases hk:frst E n with
  |some k=>
   rw[hk] at h
   injection h with h;subst h
   obtain⟨h1,h2,h3⟩:=TF hk
   exact⟨by omega,h2,h3⟩
  |none=>
   rw[hk] at h
   have h1:=(vW n).1 hk
   by_cases e:E n=0
   ·rw[if_pos e] at h;cases h
   ·simp only[if_neg e] at h
    injection h with h;subst h
    exact⟨by omega,e,h1⟩
theorem z06 {d:DImage} (h:err09 d=0):(faultS d=(0,0,0)∧ ∀j,j<d.funcs.length→(wrongF d j).2=0)∨
  ∃g,g<d.funcs.length∧(∀j,j<g→(wrongF d j).2=0)∧(wrongF d g).2≠0∧faultS d=((g:Int),(wrongF d g).1,(wrongF d g).2):=by
 unfold faultS
 rw[if_neg (fun q=>q h)]
 cases hf:frst (fun g=>(wrongF d g).2) d.funcs.length with
 |none=>exact .inl ⟨rfl,(vW _).1 hf⟩
 |some g=>
  obtain⟨h1,h2,h3⟩:=TF hf
  exact .inr ⟨g,h1,h3,h2,rfl⟩
theorem QB {d:DImage} {g:Nat} {f:DFunc} (h:(wrongS d g f).2≠0):(-1≤(wrongS d g f).1∧(wrongS d g f).1<f.code.length)∧(wrongS d g f).2≠32∧
  (0≤(wrongS d g f).1↔(wrongS d g f).2=16∨(wrongS d g f).2=6∨(wrongS d g f).2=38∨(wrongS d g f).2=30∧0≤(wrongS d g f).1):=by
 revert h
 unfold wrongS
 split
 ·intro h;dsimp only;omega
 split
 ·intro h;dsimp only;omega
 split
 ·rename_i i hi
  intro h
  obtain⟨h1,h2,h3⟩:=TF hi
  have:insE d f i=16∨insE d f i=6∨insE d f i=30:=by
   revert h2
   unfold insE
   repeat' split
   all_goals omega
  dsimp only
  omega
 split
 ·intro h;dsimp only;omega
 split
 ·rename_i i hi
  intro h
  obtain⟨h1,h2,h3⟩:=TF hi
  dsimp only
  omega
 ·intro h;exact absurd rfl h
theorem z0U {d:DImage} {g:Nat} (h:(wrongF d g).2=0):(wrongS d g (fnA d.funcs g)).2=0∧tabF d (fnA d.funcs g)=fnA d.funcs g:=by
 unfold wrongF at h
 split at h
 ·cases h
 ·rename_i hn
  refine⟨h,?_⟩
  by_cases e:tabF d (fnA d.funcs g)=fnA d.funcs g
  ·exact e
  ·exact absurd ⟨h,e⟩ hn
theorem z1M {d:DImage} {g:Nat} (h:(wrongF d g).2≠0):(wrongF d g=(-1,32)∧(wrongS d g (fnA d.funcs g)).2=0∧tabF d (fnA d.funcs g)≠fnA d.funcs g)∨(wrongF d g=wrongS d g (fnA d.funcs g)∧(wrongS d g (fnA d.funcs g)).2≠0):=by
 unfold wrongF at h⊢
 split
 ·rename_i hn;exact .inl ⟨rfl,hn⟩
 ·rename_i hn;rw[if_neg hn] at h;exact .inr ⟨rfl,h⟩
theorem z5g (hal: ∀m,CALL tab zu [] m=some (.bool true,m)) (d:DImage) (x:AV) (hx:IsImage d x) (hw:WfImage d) (m:Mem) (hfl:m.floor≤m.stk.length+1):
  Okv tab qr [x] m (.bool true):=by
 have hx':=hx
 obtain⟨ty,tx,fs,rfl,h0,h1,h2⟩:=hx
 refine ze Zs ?_
 obtain⟨stk,cur,nx,live,fl⟩:=m
 dsimp only at hfl
 have hf':fl≤(stk++[cur]).length+1:=by simp;omega
 have hmx:max fl ((stk++[cur]).length+1)≤(stk++[cur]).length+1:=by omega
 have hG:=fun m=>(uL d _ hx' m).eq
 simp only[xV,List.map,go_sem,reduceCtorEq,G3,G0,G2,hG]
 generalize callNx tab zO _ _=nz
 cases hg:great09 d
 case true=>
  simp only[go_sem,reduceCtorEq,G0,G2,hal]
  rw[z6 rfl rfl,z8]
  exact⟨⟨_,rfl⟩,rfl⟩
 have hsm:=SmallI.of hg
 have hC:=fun c n lv=>(qJ d _ hx' hw ⟨stk++[cur],c,n,lv,fl⟩ hf').eq
 simp only[go_sem,reduceCtorEq,G3,G0,G2,hC]
 generalize callNx tab zx _ _=nz
 by_cases he:err09 d=0
 case neg=>
  have he':(err09 d !=0)=true:=by simpa using he
  simp only[go_sem,reduceCtorEq,G0,G2,he',hal]
  rw[z6 rfl rfl,z8]
  exact⟨⟨_,rfl⟩,rfl⟩
 have hfi:=kJ he
 have hFP:=fun c n lv=>(z1V d _ hx' hw ⟨stk++[cur],c,n,lv,fl⟩ hf').eq
 unfold faultV at hFP
 simp only[go_sem,reduceCtorEq,G3,G0,G2,he,show((0:Int) !=0)=false from rfl,hFP]
 generalize callNx tab xN _ _=nz1
 rcases z06 he with⟨hz,hp⟩|⟨g,hgn,hp,hn,hz⟩
 ·rw[hz]
  simp only[go_sem,reduceCtorEq,G0,G2,hal,show((0:Int)==0)=true from rfl]
  rw[z6 rfl rfl,z8]
  exact⟨⟨_,rfl⟩,rfl⟩
 rw[hz]
 obtain⟨w0,w1,w2,w3,ef,q0,q1,q2,q3⟩:=h2.fnA hgn
 have hat:=h2.at .i64 hgn
 have hpl:(-1≤(wrongF d g).1∧(wrongF d g).1<(fnA d.funcs g).code.length):=by
  rcases z1M hn with⟨h,_⟩|⟨h,h'⟩
  ·rw[h];dsimp only;omega
  ·rw[h];exact(QB h').1
 generalize hE:(wrongF d g).2=e at*
 generalize hA:(wrongF d g).1=a at*
 have e0:(e==0)=false:=by simpa using hn
 have e0':(e !=0)=true:=by simpa using hn
 simp only[go_sem,reduceCtorEq,G0,G2,e0,h2.len,hat,ef,q1.len,show decide ((g:Int)<0)=false by simp,show decide ((g:Int)≥(d.funcs.length:Int))=false by simp;omega,show decide (a< -1)=false by simp;omega,show decide (a≥((fnA d.funcs g).code.length:Int))=false by simp;omega]
 refine za (α:=Nat) (fun k σ=>k≤g∧ ∃nz ee,heads [1,3,4,5,6] 1 σ=⟨tmps 139 [(1,.ptr (stk++[cur]).length 0 nx 0),(3,.int .i64 g),(4,.int .i64 a),(5,.int .i64 e),(6,.int .i64 k)],⟨stk++[cur],[⟨nx,[ty,tx,fs]⟩],nz,ee::live,fl⟩⟩) (fun k=>g-k) 0 ?_ ?_
 ·refine⟨w06 _,?_⟩
  simp only[go_sem,reduceCtorEq,G0,G1]
  exact⟨_,_,rfl⟩
 ·rintro k σ ⟨hk,nz,ee,hσ⟩
  rw[hσ]
  clear hσ σ
  by_cases hkg:k<g
  ·have hkn:k<d.funcs.length:=by omega
   have hsu:IntKind.i64.wrap ((k:Int)+1)=((k+1:Nat):Int):=zd hkn h2.max
   have hat':=h2.at .i64 hkn
   obtain⟨v0,v1,v2,v3,ef',p0,p1,p2,p3⟩:=h2.fnA hkn
   obtain⟨z1,z2⟩:=z0U (hp k hkg)
   simp only[go_sem,G3,G0,G1,G2,w02,hkg]
   refine(z0q d _ hx' hw hsm k _ hf').xv fun r t1 n1 ⟨y5,hr,s5⟩=> ?_
   subst hr
   obtain⟨e1,he1⟩: ∃e',pushToks t1 (ee::live)=e'::live:=by cases t1<;>exact⟨_,rfl⟩
   rw[Tx he hkn z1] at s5⊢
   dsimp only at s5⊢
   rw[z2] at s5
   have s5':=s5
   obtain⟨u0,u1,u2,u3,rfl,a0,a1,a2,a3⟩:=s5
   have i3:=fun m=>(yC _ _ _ _ s5' (show IsFunc (fnA d.funcs k) _ from⟨v0,v1,v2,v3,rfl,p0,p1,p2,p3⟩) m).eq
   rw[decide_eq_true rfl] at i3
   simp only[go_sem,G3,G0,G2,he1,a0.one,a1.one,a2.one,a3.one,show((0:Int) !=0)=false from rfl,hat',ef',i3,hsu]
   exact⟨k+1,by omega,hkg,_,_,rfl⟩
  ·have:k=g:=by omega
   subst this
   simp only[go_sem,G3,G0,G1,G2,w02,hkg]
   refine(z0q d _ hx' hw hsm k _ hf').xv fun r t1 n1 ⟨y5,hr,s5⟩=> ?_
   subst hr
   obtain⟨e1,he1⟩: ∃e',pushToks t1 (ee::live)=e'::live:=by cases t1<;>exact⟨_,rfl⟩
   have s5':=s5
   obtain⟨u0,u1,u2,u3,rfl,a0,a1,a2,a3⟩:=s5
   have i3:=fun m=>(yC _ _ _ _ s5' (show IsFunc (fnA d.funcs k) _ from⟨w0,w1,w2,w3,rfl,q0,q1,q2,q3⟩) m).eq
   rcases z1M (by rw[hE];exact hn) with⟨hw1,hw2,hw3⟩|⟨hw1,hw2⟩
   ·rw[Tx he hgn hw2] at i3⊢
    dsimp only at i3⊢
    rw[decide_eq_false hw3] at i3
    have ea:a= -1:=by rw[←hA,hw1]
    have ee':e=32:=by rw[←hE,hw1]
    subst ea
    subst ee'
    simp only[go_sem,G3,G0,G2,he1,a0.one,a1.one,a2.one,a3.one,show((32:Int)==32)=true from rfl,show((-1:Int)== -1)=true from rfl,show((0:Int)==0)=true from rfl,hat,ef,i3,hal]
    rw[z6 rfl rfl,z8]
    exact⟨⟨_,rfl⟩,rfl⟩
   ·rw[XO he hgn hw2] at i3⊢
    dsimp only at i3⊢
    rw[←hw1,hE]
    obtain⟨_,k2,k3⟩:=QB hw2
    rw[←hw1,hE] at k2 k3
    rw[hA] at k3
    have k4:(e==32)=false:=by simpa using k2
    have k5:(decide (a≥0)==(((e==16||e==6)||e==38)||(e==30&&decide (a≥0))))=true:=by
     rw[beq_iff_eq,w3d]
     simp only[w2c,w0f,beq_iff_eq,decide_eq_true_eq,ge_iff_le]
     omega
    have k6:(e==e)=true:=by simp
    simp only[go_sem,G3,G0,G2,he1,a0.one,a1.one,a2.one,a3.one,k4,k6]
    cases c1:e==16<;>cases c2:e==6<;>cases c3:e==38<;>cases c4:e==30<;>cases c5:decide (a≥0)<;>rw[c1,c2,c3,c4,c5] at k5<;>first
     |exact absurd k5 (by decide)
     |(simp only[go_sem,G0,G2,c2,c3,c4,c5,hal,show(true==true)=true from rfl,show(false==false)=true from rfl]
       rw[z6 rfl rfl,z8]
       exact⟨⟨_,rfl⟩,rfl⟩)
end Go.Proofs.W
end
section
namespace Go.Proofs.YtlmfkfmgnkjlaaaGreat
set_option maxRecDepth 100000
set_option linter.unusedSimpArgs false
open Go.Vs Go.ChangeShapes Go.WideShapes Go.ChangeAt Go.RowKit Go.Proofs.W
theorem alive_true (m:Mem):CALL tab zu [] m=some (.bool true,m):=z3a jM m
theorem law (ys:List AV) (h:ArgsT Tryz.prog [26] ys): ∃m',CALL tab 6 ys Mem.zero=some (.bool true,m'):=by
 obtain⟨x0,r0,rfl,g0,gz⟩:=h
 have gz:r0=[]:=gz
 subst gz
 obtain⟨d0,a0,b0⟩:=arg26 x0 g0
 obtain⟨k,hk⟩:=z5g alive_true d0 x0 a0 b0 Mem.zero (w06 _)
 exact⟨_,hk⟩
theorem Tryz.own:ownKnob Tryz.prog.godebug=none:=by kernel_rfl
theorem Tryz.laidOut:laidOutB Tryz.prog=true:=by kernel_rfl
theorem f_lifted (os:Os) (started:os.Started) (H:Type) (enc:TypeId×Value→H):
  ReturnsInHanded {} Tryz.checked os 6 .any (Rows.checkFirstSpec.pre6 enc Tryz.prog Tryz.f6 Rows.checkFirstRow.domain false) (Rows.checkFirstSpec.post enc Tryz.prog Tryz.f6 false true false false):=by
 refine returnsInHanded_of_change (C:=Tryz.checked) Tryz.own started (by kernel_rfl) Tryz.func6
  (ChangeSpec.witness6 (enc:=enc) (C:=Tryz.checked) false ⟨#[],#[.agg #[.slice none 0 0,.slice none 0 0,.slice none 0 0]],[]⟩ 12 (by kernel_rfl) (by kernel_rfl) (by kernel_rfl) (by kernel_rfl)) ?_
 intro W base args ds gs before hval hW _ _
 exact z2H (P:=Tryz.prog) (tab:=tab) (S:=[47,36,38,39,33,35,42,24,23,9,95,40,3,5,81,22,26]) (tb:=4) (by kernel_rfl) tabOk Ug Tryz.laidOut rfl (by kernel_rfl) rfl Tryz.underlying4
  (fun ds hd=>by
   match ds,hd with
   | [d1],_=>rfl) law hval hW
theorem checkFirst_holds:Rows.CheckFirstSaid:=
 OpenClaim.holds_of_wide 6 Tryz.f6 rfl rfl rfl rfl rfl rfl rfl ⟨rfl,rfl,rfl,rfl,rfl⟩ rfl rfl rfl rfl rfl (by kernel_rfl) Tryz.func6 (by kernel_rfl)
  (of_decide_eq_true (by kernel_rfl)) (by unfold Func.isWrapper;first|(rw[if_pos (by decide+kernel)];kernel_rfl)|(rw[if_neg (by decide+kernel)];exact⟨rfl,rfl⟩))
  (fun os started H enc _=>f_lifted os started H enc)
end Go.Proofs.YtlmfkfmgnkjlaaaGreat
end
