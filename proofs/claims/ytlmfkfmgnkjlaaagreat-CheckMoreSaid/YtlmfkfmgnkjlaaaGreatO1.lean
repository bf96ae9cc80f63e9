/-
  Part 2 of the proof, shared by claims of this seat: KVsmp, KVscp, KVsl, KVsm, KVsn, KVso, KVsna, KVsp, KVsq, KVsqa, KVsqb, KVsr, KVss, KVst, KVsu, KVsx, KVsy.
-/
import Derived.Test.YtlmfkfmgnkjlaaaGreatO0
import Derived.MapKept
import Derived.Carry
import Derived.Tactics
set_option maxHeartbeats 64000000
set_option linter.unusedVariables false
set_option linter.unusedSimpArgs false
open Nat renaming le_refl → w0b, zero_le → w0c, zero_add → w39, lt_or_ge → w3e, add_mul → w42, le_trans → w4a, lt_of_lt_of_le → w58
open List renaming getD_eq_getElem?_getD → w00, length_append → w04, getElem?_eq_some_iff → w06, getElem?_append_left → w07, getElem_mem → w08, mem_append → w0a, append_assoc → w0f, getElem?_append_right → w10, mem_singleton → w11, getElem?_eq_getElem → w13, getElem?_eq_none → w17, mem_cons_of_mem → w18, getElem?_map → w19, append_nil → w1a, eq_nil_of_length_eq_zero → w1b, mem_cons_self → w1c, length_take → w1f, getElem?_set_ne → w20, cons_append → w21, take_succ_cons → w22, take_zero → w24, drop_succ_cons → w25, drop_zero → w27, length_cons → w29, getElem?_take → w2b, ext_getElem? → w2c, nil_append → w2e, take_of_length_le → w2f, flatMap_cons → w30, mem_cons → w32, map_append → w33, length_nil → w34, map_cons → w35, getElem?_set → w36, getElem?_modify → w37, mem_map → w3a, mem_append_left → w3c, getElem?_replicate → w3d, getElem?_drop → w3f, length_map → w44, getLast?_singleton → w45, mem_append_right → w46, mem_range → w47, getElem?_range → w48, mem_of_getElem? → w49, nodup_append → w4c, set_cons_succ → w4d, all_eq_true → w4f, getElem?_set_self → w50, getLast?_append → w51, dropLast_concat → w52, mem_filter → w53, replicate_succ → w54, getElem?_cons_succ → w55, set_cons_zero → w59, length_drop → w5a
open Option renaming map_eq_some_iff → w02, bind_eq_some_iff → w05, map_some → w0d, bind_some → w26, getD_some → w2a
open Bool renaming and_eq_true → w0e, false_eq_true → w28, or_eq_true → w31, or_eq_false_iff → w3b
open Array renaming getD_eq_getD_getElem? → w16, getElem?_eq_getElem → w1e
section
namespace Go.Vs
open Go.RowKit
section
variable {P : Program} {g : G} {w : World} {ρ : List AV} {a : Act} {m m' : Mem} {o : Oper} {r : AV}
theorem Rep.inv_mapR {l k st:Nat} {v:Value} (h:Rep g w (.mapR l k st) v): ∃b,g.mp st=some b∧v= .map (some b):=by
 cases h with|mapR _ _ _ b h=>exact⟨b,h,rfl⟩
theorem Inv.alloc_map (I:Inv g w m): ∃g',Ext g w g' (w.alloc (.map #[] 0))∧Inv g' (w.alloc (.map #[] 0)) {m with cur:=m.cur++[⟨m.nx,[.tup []]⟩],nx:=m.nx+1}∧g'.mp m.nx=some w.heap.size:=by
 let g':G:={g with mp:=fun st=>if st=m.nx then some w.heap.size else g.mp st,own:=fun b o=>if b=w.heap.size then some (false,m.nx) else g.own b o}
 have hmp: ∀st x,g.mp st=some x→g'.mp st=some x:=fun st x h=>by
  have:=(I.mpk st x h).2.1
  have hne:st≠m.nx:=by omega
  simp[g',hne,h]
 have hown: ∀b o,b≠w.heap.size→g'.own b o=g.own b o:=fun b o h=>by simp[g',h]
 have e:Ext g w g' (w.alloc (.map #[] 0)):=⟨ExtW.alloc I _ (fun _ _ h=>h) (fun _ _ h=>h) hown rfl hmp,rfl⟩
 have k: ∀x,Kept g w g' (w.alloc (.map #[] 0)) x:=fun x=>Kept.alloc I _ hown x
 have hb:g'.mp m.nx=some w.heap.size:=by simp[g']
 refine⟨g',e,⟨fun bl hb' hr=> ?_,?_,?_,?_,?_,?_,?_,I.lnd,fun st hr=> ?_,fun st b h=> ?_⟩,hb⟩
 ·simp only[Mem.all,w0a,w11] at hb'
  rcases hb' with hb'|hb'|rfl
  ·exact(I.blk bl (by simp[Mem.all,hb']) hr).mono e (k _)
  ·exact(I.blk bl (by simp[Mem.all,hb']) hr).mono e (k _)
  ·exact .inr ⟨w.heap.size,[],#[],0,hb,fun j=>by simp[g'],rfl,U9 w _,by simpa using EntsOk.nil⟩
 ·have:=I.nd
  simp only[Mem.all,w33,w35,List.map_nil] at this⊢
  rw[←w0f,w4c]
  refine⟨this,by simp,fun a ha b hb'=> ?_⟩
  simp only[w11] at hb'
  subst hb'
  rw[←w33] at ha
  obtain⟨bl,hbl,rfl⟩:=w3a.1 ha
  have:=I.st_lt (bl:=bl) hbl
  omega
 ·intro st x hx
  have:=I.stlt st x hx;simp;omega
 ·intro t x hx
  have:=I.tklt t x hx
  simp;omega
 ·intro t ht
  obtain⟨b,p,en,h1,h2⟩:=I.live t ht
  exact⟨b,p,en,h1,h2.mono (k _)⟩
 ·intro b o x hx
  simp only[g'] at hx
  split at hx
  ·rename_i hc;exact⟨by rw[hc];exact I.hbase,by rw[hc];simp⟩
  ·have:=I.ownb b o x hx;exact⟨this.1,by simp;omega⟩
 ·have:=I.hbase;simp;exact Nat.le_succ_of_le this
 ·have h1:=I.rsv st hr
  exact⟨h1.1,by simp;omega⟩
 ·by_cases hs:st=m.nx
  ·subst hs
   refine⟨?_,by simp,?_⟩
   ·cases h:g.bt m.nx with
    |none=>simp[g',h]
    |some x=>exact absurd (I.stlt _ _ h) (Nat.lt_irrefl _)
   ·cases h:g.rs m.nx with
    |false=>simp[g',h]
    |true=>exact absurd (I.rsv _ h).2 (Nat.lt_irrefl _)
  ·simp only[g',hs,if_false] at h
   have h1:=I.mpk st b h
   exact⟨h1.1,by simp;omega,h1.2.2⟩
theorem z6b (I:Inv g w m) {t:TypeId} (hop:o.op= .makeMap t none):Yields P a o g w (.mapR m.stk.length m.cur.length m.nx) {m with cur:=m.cur++[⟨m.nx,[.tup []]⟩],nx:=m.nx+1}:=by
 obtain⟨g',e,I',hb⟩:=I.alloc_map
 refine⟨g',_,_,.inl ?_,e,I',.mapR _ _ _ _ hb⟩
 simp[execOp,hop,run_makeMap,Result.andThen]
def setMap (w:World) (b:Nat) (ob:Obj):World:={w with heap:=w.heap.setIfInBounds b ob}
theorem kj (w:World) (b:Nat) (ob:Obj) {b':Nat} (h:b'≠b):(setMap w b ob).heap[b']? =w.heap[b']? :=by
 unfold setMap
 simp only[Array.getElem?_setIfInBounds]
 rw[if_neg (fun e=>h e.symm)]
theorem z2f (w:World) (b:Nat) (ob:Obj) {b':Nat} (h:b'≠b) (j:Nat):(setMap w b ob).cell? ⟨b',j,none⟩=w.cell? ⟨b',j,none⟩:=by
 unfold World.cell?
 rw[kj w b ob h]
theorem z53 (w:World) (b:Nat) (ob:Obj) {b':Nat} (h:b'≠b) (j:Nat):(setMap w b ob).frozen? ⟨b',j,none⟩=w.frozen? ⟨b',j,none⟩:=by
 unfold World.frozen?
 rw[kj w b ob h]
theorem Inv.put_map (I:Inv g w m) {l k st b:Nat} {ps ps':List AV} {es':Array MapEntry} {c':Nat} (hb:m.blk l k st=some [.tup ps]) (hm:g.mp st=some b) (hps:EntsOk ps' es'.toList):
  Ext g w g (setMap w b (.map es' c'))∧Inv g (setMap w b (.map es' c')) (m.put l k st [.tup ps']):=by
 have hin:=zI hb
 obtain⟨b0,ps0,es,clock,h1,h2,h3,h4,h5⟩:=I.map hin hm
 simp only at h1 h2 h3
 rw[hm] at h1
 injection h1 with h1;subst h1
 have hlt:b<w.heap.size:=(Array.getElem?_eq_some_iff.1 h4).1
 have hnc: ∀j,w.cell? ⟨b,j,none⟩=none:=fun j=>by unfold World.cell?;simp[h4]
 have hbase:g.base≤b:=(I.ownb b 0 _ (h2 0)).1
 have ext:Ext g w g (setMap w b (.map es' c')):=by
  refine⟨⟨fun _ _ h=>h,fun _ _ h=>h,fun b' j v e1 e2=>⟨?_,e2⟩,rfl,fun _ _ h=>h,?_⟩,rfl⟩
  ·have hne:b'≠b:=fun e=>by rw[e,hnc] at e1;cases e1
   rw[z2f _ _ _ hne];exact e1
  ·exact⟨rfl,rfl,rfl,by simp[setMap],fun q hq=>kj _ _ _ (by omega)⟩
 have kept: ∀y,y≠(false,st)→Kept g w g (setMap w b (.map es' c')) y:=by
  intro y hy b' j hj
  have hne:b'≠b:=fun e=>by rw[e,h2 j] at hj;exact hy (Option.some.inj hj).symm
  exact⟨hj,z53 _ _ _ hne j,z2f _ _ _ hne j,fun es c he=>by rw[kj _ _ _ hne];exact he⟩
 refine⟨ext,⟨fun bl hbl hr=> ?_,?_,?_,?_,?_,?_,?_,?_,?_,?_⟩⟩
 ·rcases QD I _ hb hbl with rfl|⟨hbl,hne⟩
  ·refine .inr ⟨b,ps',es',c',hm,h2,rfl,?_,hps⟩
   simp[setMap,hlt]
  ·exact(I.blk bl hbl hr).mono ext (kept _ (fun h=>hne (by injection h)))
 ·rw[z0F _ hb];exact I.nd
 ·rw[jT];exact I.stlt
 ·rw[jT];exact I.tklt
 ·rw[tl]
  intro t ht
  obtain⟨b',p,en,a1,a2⟩:=I.live t ht
  exact⟨b',p,en,a1,a2.mono (kept _ (fun h=>by injection h with h _;cases h))⟩
 ·intro b' o' x hx
  have:=I.ownb b' o' x hx
  exact⟨this.1,by simp[setMap];exact this.2⟩
 ·simp[setMap];exact I.hbase
 ·rw[tl];exact I.lnd
 ·rw[jT];exact I.rsv
 ·rw[jT];exact I.mpk
theorem z42 (s s':ByteArray):(s==s')=(s.data.toList==s'.data.toList):=by
 have h:(s==s')=(s.data==s'.data):=rfl
 rw[h]
 cases hq:(s.data==s'.data) with
 |true=>have:=beq_iff_eq.1 hq;rw[this];simp
 |false=>
  have hne:s.data≠s'.data:=fun e=>by rw[e] at hq;simp at hq
  have:s.data.toList≠s'.data.toList:=fun e=>hne (by simpa using e)
  simp[hne]
theorem z0f {kk:Bool} {kt:TypeId} (hk:keyKindT P kt=some kk): ∃d,P.underlying kt=some d∧ ∀{x y:AV} {u v:Value} {t:Bool},PRep x u→PRep y v→keyEq kk x y=some t→Instr.sameNow d u v=some t:=by
 unfold keyKindT at hk
 split at hk
 ·rename_i hd
  injection hk with hk;subst hk
  refine⟨_,hd,fun{x y u v t} h1 h2 he=> ?_⟩
  cases h1<;>cases h2<;>simp only[keyEq] at he<;>first|(cases he;done)|skip
  rename_i l s h l' s' h'
  subst h;subst h'
  injection he with he;subst he
  simp only[Instr.sameNow,Option.some.injEq]
  exact z42 s s'
 ·rename_i q hd
  injection hk with hk;subst hk
  refine⟨_,hd,fun{x y u v t} h1 h2 he=> ?_⟩
  cases h1<;>cases h2<;>simp only[keyEq] at he<;>first|(cases he;done)|skip
  split at he
  ·rename_i hs
   injection he with he;subst he
   simp[Instr.sameNow,VG hs]
  ·cases he
 ·cases hk
theorem z0l {kk:Bool} {d:TypeDesc} (hs: ∀{x y:AV} {u v:Value} {t:Bool},PRep x u→PRep y v→keyEq kk x y=some t→Instr.sameNow d u v=some t) {z k r:AV} {kv:Value} (hk:PRep k kv):
  ∀{ps:List AV} {es:List MapEntry} (i:Nat),EntsOk ps es→mapGet kk z k ps=some r→(Instr.findNow d kv es i=some none∧r=z)∨ ∃j v,Instr.findNow d kv es i=some (some (j,v))∧PRep r v
 |_,_,i,.nil,h=>by
  simp only[mapGet,Option.some.injEq] at h
  exact .inl ⟨rfl,h.symm⟩
 |_,_,i,.cons (k:=k') (v:=v') (e:=e) h1 h2 h3,h=>by
  simp only[mapGet] at h
  split at h
  ·rename_i he
   injection h with h;subst h
   exact .inr ⟨i,e.val,by simp[Instr.findNow,hs hk h1 he],h2⟩
  ·rename_i he
   have:=z0l hs hk (i+1) h3 h
   simpa [Instr.findNow,hs hk h1 he] using this
  ·cases h
theorem z0k {kk:Bool} {d:TypeDesc} (hs: ∀{x y:AV} {u v:Value} {t:Bool},PRep x u→PRep y v→keyEq kk x y=some t→Instr.sameNow d u v=some t) {k v:AV} {kv vv:Value} (hk:PRep k kv) (hv:PRep v vv):
  ∀{ps ps':List AV} {es:List MapEntry} (i:Nat),EntsOk ps es→mapPut kk k v ps=some ps'→
   (Instr.findNow d kv es i=some none∧ ∀born,EntsOk ps' (es++[⟨kv,vv,born⟩]))∨
   ∃j e,Instr.findNow d kv es i=some (some (i+j,e.val))∧es[j]? =some e∧(∃k',PRep k' e.key∧keyEq kk k k'=some true)∧EntsOk ps' (es.modify j fun e=>{e with key:=kv,val:=vv})
 |_,_,_,i,.nil,h=>by
  simp only[mapPut,Option.some.injEq] at h
  subst h
  exact .inl ⟨rfl,fun born=> .cons hk hv .nil⟩
 |_,_,_,i,.cons (k:=k') (v:=v') (e:=e) h1 h2 h3,h=>by
  simp only[mapPut] at h
  split at h
  ·rename_i he
   injection h with h;subst h
   exact .inr ⟨0,e,by simp[Instr.findNow,hs hk h1 he],rfl,⟨k',h1,he⟩,by simpa using EntsOk.cons hk hv h3⟩
  ·rename_i he
   simp only[w02] at h
   obtain⟨l,hl,rfl⟩:=h
   rcases z0k hs hk hv (i+1) h3 hl with⟨a1,a2⟩|⟨j,e',a1,a2,a3,a4⟩
   ·exact .inl ⟨by simp[Instr.findNow,hs hk h1 he,a1],fun born=> .cons h1 h2 (a2 born)⟩
   ·exact .inr ⟨j+1,e',by simp[Instr.findNow,hs hk h1 he,a1];omega,by simpa using a2,a3,by simpa using EntsOk.cons h1 h2 a4⟩
  ·cases h
theorem z0h {kk:Bool} {k:AV} (h:isKey kk k=true):isPlain k=true:=by
 cases k<;>cases kk<;>simp[isKey] at h<;>rfl
theorem UB {kk:Bool} {kt:TypeId} (hk:keyKindT P kt=some kk) (em:Bool) (n:Nat) (v:Value) (w:World):(Instr.checkKey em (n+1) kt v).run P w= .ok () w:=by
 unfold keyKindT at hk
 split at hk
 ·rename_i hd;simp[Instr.checkKey,run_underlying hd]
 ·rename_i hd;simp[Instr.checkKey,run_underlying hd]
 ·cases hk
theorem z71 {t:TypeId} {z:AV} (h:plainZero P t=some z) (w:World): ∃v,(zeroValue t).run P w= .ok v w∧PRep z v:=by
 unfold plainZero at h
 split at h
 ·rename_i z' hz
  split at h
  ·rename_i hp
   injection h with h;subst h
   obtain⟨v,h1,h2⟩:=Zh hz w
   exact⟨v,h1,(vf (g:=⟨fun _=>none,fun _=>none,fun _ _=>none,0,fun _=>false,fun _=>none⟩) (w:=w) h2).plain hp⟩
  ·cases h
 ·cases h
theorem z7A (hR:Reps g w ρ a.tmps.toList) (I:Inv g w m) {t kt et:TypeId} {x k:Operand} {x' k':Opd} {kk:Bool} {z:AV} {ps:List AV} (hop:o.op= .lookup t x k false) (ht:P.underlying t=some (.map kt et)) (hk:keyKindT P kt=some kk) (hz:plainZero P et=some z)
  (hx:compOpd x=some x') (hkx:compOpd k=some k') (hps:m.ents (x'.ev ρ)=some ps) (hky:isKey kk (k'.ev ρ)=true) (hg:mapGet kk z (k'.ev ρ) ps=some r):Yields P a o g w r m:=by
 have h1:=ze hR hx
 have h2:=(ze hR hkx).plain (z0h hky)
 unfold Mem.ents at hps
 split at hps
 ·rename_i l i st hxe
  split at hps
  ·rename_i ps0 hb
   injection hps with hps;subst hps
   rw[hxe] at h1
   obtain⟨b,hmp,hv⟩:=h1.inv_mapR
   obtain⟨b0,ps1,es,clock,e1,e2,e3,e4,e5⟩:=I.map (zI hb) hmp
   simp only at e1 e3
   rw[hmp] at e1
   injection e1 with e1;subst e1
   injection e3 with e3 _;injection e3 with e3;subst e3
   obtain⟨d,hd,hs⟩:=z0f hk
   obtain⟨zv,hzv,hzr⟩:=z71 hz w
   rcases z0l hs h2 0 e5 hg with⟨f1,rfl⟩|⟨j,v,f1,f2⟩
   ·refine .pure I (v:=zv) ?_ hzr.rep
    simp[execOp,hop,hv,Instr.lookup,run_underlying ht,MapKept.run_getObj_map e4,UB hk,Instr.findKey,run_underlying hd,f1,hzv,Result.andThen]
   ·refine .pure I (v:=v) ?_ f2.rep
    simp[execOp,hop,hv,Instr.lookup,run_underlying ht,MapKept.run_getObj_map e4,UB hk,Instr.findKey,run_underlying hd,f1,Result.andThen]
  ·cases hps
 ·cases hps
theorem z4B {kk:Bool} {x y:AV} {u v:Value} (h1:PRep x u) (h2:PRep y v) (h:keyEq kk x y=some true) (n:Nat):Instr.sameBits n v u=true:=by
 cases h1<;>cases h2<;>cases kk<;>simp only[keyEq] at h<;>first|(cases h;done)|skip
 ·split at h
  ·rename_i hs
   injection h with h
   have:=VG hs
   have h':=beq_iff_eq.1 h
   subst this;subst h'
   cases n<;>simp[Instr.sameBits]
  ·cases h
 ·rename_i l s h1 l' s' h2
  injection h with h
  have h':=beq_iff_eq.1 h
  have:s=s':=by cases s;cases s';simp at h1 h2;subst h1;subst h2;simpa using h'
  subst this
  have hb:(s==s)=true:=by rw[z42];simp
  cases n<;>simp[Instr.sameBits,hb]
theorem z7w (hR:Reps g w ρ a.tmps.toList) (I:Inv g w m) {t kt et:TypeId} {x k v:Operand} {x' k' v':Opd} {kk:Bool} (hop:o.op= .mapUpdate t x k v) (ht:P.underlying t=some (.map kt et)) (hk:keyKindT P kt=some kk)
  (hx:compOpd x=some x') (hkx:compOpd k=some k') (hvx:compOpd v=some v') (he:evMput m kk (x'.ev ρ) (k'.ev ρ) (v'.ev ρ)=some (r,m')):Yields P a o g w r m':=by
 unfold evMput at he
 split at he
 ·rename_i l i st hxe
  split at he
  ·rename_i ps hps
   split at he
   ·rename_i hc
    simp only[w0e] at hc
    obtain⟨⟨c1,c2⟩,c3⟩:=hc
    simp only[w02,Prod.mk.injEq] at he
    obtain⟨ps',hput,rfl,rfl⟩:=he
    have h1:=ze hR hx
    have h2:=(ze hR hkx).plain (z0h c1)
    have h3:=(ze hR hvx).plain c2
    simp only[Mem.ents] at hps
    split at hps
    ·rename_i ps0 hb
     injection hps with hps;subst hps
     rw[hxe] at h1
     obtain⟨b,hmp,hv⟩:=h1.inv_mapR
     obtain⟨b0,ps1,es,clock,e1,e2,e3,e4,e5⟩:=I.map (zI hb) hmp
     simp only at e1 e3
     rw[hmp] at e1
     injection e1 with e1;subst e1
     injection e3 with e3 _;injection e3 with e3;subst e3
     obtain⟨d,hd,hs⟩:=z0f hk
     rcases z0k hs h2 h3 0 e5 hput with⟨f1,f2⟩|⟨j,e,f1,f2,⟨k0,f3,f4⟩,f5⟩
     ·obtain⟨k1,k2⟩:=I.put_map (ps':=ps') (es':=es.push ⟨a.eval k,a.eval v,clock⟩) (c':=clock+1) hb hmp (by simpa using f2 clock)
      refine⟨g,_,Go.undef,.inr ⟨?_,rfl⟩,k1,k2,xT _ _⟩
      simp[execOp,hop,hv,Instr.mapUpdate,run_underlying ht,MapKept.run_getObj_map e4,UB hk,Instr.findKey,run_underlying hd,f1,MapKept.run_setObj_map _ e4,setMap,Result.andThen]
     ·obtain⟨k1,k2⟩:=I.put_map (ps':=ps') (es':=es.modify j fun e=>{e with key:=a.eval k,val:=a.eval v}) (c':=clock) hb hmp (by simpa using f5)
      refine⟨g,_,Go.undef,.inr ⟨?_,rfl⟩,k1,k2,xT _ _⟩
      have hge:es[j]? =some e:=by simpa using f2
      have hst:(Instr.keyThatStays e.key (a.eval k)).run P w= .ok (a.eval k) w:=by
       simp[Instr.keyThatStays,z4B h2 f3 f4]
      simp only[w39] at f1
      simp[execOp,hop,hv,Instr.mapUpdate,run_underlying ht,MapKept.run_getObj_map e4,UB hk,Instr.findKey,run_underlying hd,f1,hge,hst,MapKept.run_setObj_map _ e4,setMap,Result.andThen]
    ·cases hps
   ·cases he
  ·cases he
 ·cases he
end
section
variable {P : Program} {g : G} {w : World} {ρ : List AV} {a : Act} {m m' : Mem} {o : Oper} {r : AV}
theorem z1n (I:Inv g w m) {s:Nat} (h0:0<s) {y:AV} {v:Value} {ys:List AV} (hng: ∀s l k st n,y≠ .grow s l k st n) (hns: ∀b,y≠ .str b) (hy:m.elems s y=some ys) (h:Rep g w y v):
  ∃base cap us,v= .slice base ys.length cap∧Reps g w (ys.flatMap AV.cells) us∧us.length=ys.length*s∧(∀(i:Nat) (x:AV),ys[i]? =some x→x.cells.length=s)∧
   (base=none→ys=[])∧ ∀ad,base=some ad→ ∀(j:Nat) (u:Value),us[j]? =some u→w.cell? (ad.add j)=some u:=by
 unfold Mem.elems at hy
 split at hy
 ·rename_i l k st off len
  split at hy
  ·rename_i cs hblk
   split at hy
   ·rename_i hcond
    simp only[w0e,decide_eq_true_eq] at hcond
    injection hy with hy;subst hy
    obtain⟨q1,q2,q3⟩:=Zp h0 len (cs.drop off) (by simp;omega) hcond.2
    rw[q1,q3]
    rcases QY I h hblk with⟨rfl,b,cap,hv⟩|⟨b,oo,cap,us,hv,hcap,hreps,hcell⟩
    ·exact⟨some b,cap,[],hv,by simpa using Reps.nil g w,by simp,q2,fun e=>(by cases e),fun ad _ j u hj=>by simp at hj⟩
    ·refine⟨_,cap,us.take (len*s),hv,hreps.take (len*s),?_,q2,fun e=>(by cases e),fun ad had j u hj=> ?_⟩
     ·rw[w1f,hreps.1,w5a];omega
     ·injection had with had;subst had
      rw[w2b] at hj
      split at hj
      ·rw[zR];exact hcell j u hj
      ·cases hj
   ·cases hy
  ·cases hy
 ·exact absurd rfl (hng _ _ _ _ _)
 rename_i hna hna2
 clear hna hna2
 unfold elemsOf at hy
 split at hy
 ·injection hy with hy;subst hy
  rw[h.inv_nils]
  exact⟨none,0,[],rfl,Reps.nil g w,by simp,fun i x hx=>by simp at hx,fun _=>rfl,fun ad e=>by cases e⟩
 ·rename_i s' tk xs
  split at hy
  ·rename_i hs
   have hs':s'=s:=eq_of_beq hs
   subst hs'
   injection hy with hy;subst hy
   rcases h.inv_list with⟨b,oo,cap,hv,hsz,hcap,htk,f,hc,hr⟩|⟨rfl,b,cap,hv,_⟩
   ·obtain⟨us,k1,k2,k3⟩:=qn h0 hsz hc hr
    refine⟨_,cap,us,hv,k1,k2,hsz,fun e=>(by cases e),fun ad had j u hj=> ?_⟩
    injection had with had;subst had
    rw[zR];exact(k3 j u hj).1
   ·exact⟨some b,cap,[],hv,Reps.nil g w,by simp,fun i x hx=>by simp at hx,fun e=>(by cases e),fun ad _ j u hj=>by simp at hj⟩
  ·cases hy
 ·exact absurd rfl (hns _)
 ·cases hy
theorem z9t (I:Inv g w m) {s:Nat} (h0:0<s) {y:AV} {v:Value} {ys:List AV} (hns: ∀b,y≠ .str b) (hy:m.elems s y=some ys) (h:Rep g w y v):
  ∃base cap us,v= .slice base ys.length cap∧Reps g w (ys.flatMap AV.cells) us∧us.length=ys.length*s∧(∀(i:Nat) (x:AV),ys[i]? =some x→x.cells.length=s)∧
   (base=none→ys=[])∧ ∀ad,base=some ad→ ∀(j:Nat) (u:Value),us[j]? =some u→w.cell? (ad.add j)=some u:=by
 by_cases hg: ∃s l k st n,y= .grow s l k st n
 ·obtain⟨s',l,k,st,n,rfl⟩:=hg
  rw[z2a] at hy
  exact z1n I h0 (fun _ _ _ _ _ e=>by cases e) (fun _ e=>by cases e) hy h.grow_arr
 ·exact z1n I h0 (fun s l k st n e=>hg ⟨s,l,k,st,n,e⟩) hns hy h
theorem z3P {s:Nat}: ∀(n:Nat) (zs:List AV),(∀(i:Nat) (x:AV),zs[i]? =some x→x.cells.length=s)→(zs.take n).flatMap AV.cells=(zs.flatMap AV.cells).take (n*s)
 |0,zs,_=>by simp
 |n+1,[],_=>by simp
 |n+1,z::zs,h=>by
  have h1:=h 0 z rfl
  rw[w22,w30,w30,z3P n zs (fun i x hx=>h (i+1) x (by simpa using hx)),w42,Nat.one_mul,Nat.add_comm (n*s) s,←h1,List.take_length_add_append]
theorem z3q (w:World) (dT sT ty elem:TypeId) {ti:TypeInfo} (d:Option Addr) (dLen dCap sLen sCap:Nat) (sa:Option Addr) (cs:List Value) (w':World)
  (hu:P.underlying dT=some (.slice elem)) (hi:P.info? elem=some ti)
  (hf:(Builtin.firstCells ti.size (Nat.min sLen dLen) (.slice sa sLen sCap)).run P w= .ok cs.toArray w)
  (hst: ∀ad,d=some ad→(storeCells ad cs).run P w= .ok () w') (hn:d=none→w'=w):
  (Builtin.copy_ #[dT,sT] ty #[.slice d dLen dCap,.slice sa sLen sCap]).run P w= .ok (goInt (Nat.min sLen dLen)) w':=by
 cases d with
 |none=>
  rw[hn rfl]
  simp[Builtin.copy_,run_underlying hu,Builtin.lenOf,sizeOf,typeInfo,hi,hf]
 |some ad=>
  simp[Builtin.copy_,run_underlying hu,Builtin.lenOf,sizeOf,typeInfo,hi,hf,hst ad rfl]
theorem z82 (hR:Reps g w ρ a.tmps.toList) (I:Inv g w m) {c:Call} {t tx e:TypeId} {x y:Operand} {x' y':Opd} {ti:TypeInfo} (hop:o.op= .call c) (hc:c.callee= .builtin .copy) (hA:c.argTypes.toList=[t,tx]) (ha:c.args.toList=[x,y]) (hx:compOpd x=some x') (hy:compOpd y=some y')
  (ht:P.underlying t=some (.slice e)) (hi:P.info? e=some ti) (h0:0<ti.size) (he:evCopy m ti.size (x'.ev ρ) (y'.ev ρ)=some (r,m')):Yields P a o g w r m':=by
 have h1:=(ze hR hx).asArr
 have h2:=ze hR hy
 have hargs:c.args= #[x,y]:=by apply Array.ext';simpa using ha
 have hargT:c.argTypes= #[t,tx]:=by apply Array.ext';simpa using hA
 have run: ∀v w',(Builtin.copy_ #[t,tx] o.type #[a.eval x,a.eval y]).run P w= .ok v w'→(execOp a.eval o).run P w= .ok (.value v) w':=by
  intro v w' hv
  simp[execOp,hop,resolve,hc,hargs,hargT,invoke,builtin,hv]
 unfold evCopy evCopy0 at he
 split at he
 ·cases he
 ·rename_i _ l k st off len hd hns
  split at he
  ·rename_i ys cs hys hb
   split at he
   ·rename_i hcond
    simp only[w0e,decide_eq_true_eq] at hcond
    obtain⟨⟨c1,c2⟩,_⟩:=hcond
    obtain⟨base,cap,us,hv,k1,k2,k3,k4,k5⟩:=z9t I h0 (fun b hb=>hns b hb) hys h2
    rw[hd] at h1
    have hmin:Nat.min ys.length len≤ys.length:=Nat.min_le_left _ _
    have hmin2:Nat.min ys.length len≤len:=Nat.min_le_right _ _
    have hmul:Nat.min ys.length len*ti.size≤ys.length*ti.size:=Nat.mul_le_mul_right _ hmin
    have hmul2:Nat.min ys.length len*ti.size≤len*ti.size:=Nat.mul_le_mul_right _ hmin2
    have hul:(us.take (len*ti.size)).length=Nat.min ys.length len*ti.size:=by
     rw[w1f,k2]
     by_cases hle:ys.length≤len
     ·have h1:Nat.min ys.length len=ys.length:=Nat.min_eq_left hle
      have:=Nat.mul_le_mul_right ti.size hle
      rw[h1];omega
     ·have h1:Nat.min ys.length len=len:=Nat.min_eq_right (by omega)
      have:=Nat.mul_le_mul_right ti.size (show len≤ys.length by omega)
      rw[h1];omega
    have hfc:(Builtin.firstCells ti.size (Nat.min ys.length len) (.slice base ys.length cap)).run P w= .ok (us.take (len*ti.size)).toArray w:=by
     cases base with
     |none=>
      have:us=[]:=by
       have:=k4 rfl
       subst this
       exact w1b (by simpa using k2)
      subst this
      simpa using run_firstCells_none (P:=P) (w:=w) ti.size (Nat.min ys.length len) ys.length cap
     |some sa=>
      refine run_firstCells_some (P:=P) w ti.size _ sa ys.length cap _ hul (fun j v hj=> ?_)
      rw[w2b] at hj
      split at hj
      ·exact k5 sa rfl j v hj
      ·cases hj
    split at he
    ·rename_i hn
     simp only[Option.some.injEq,Prod.mk.injEq] at he
     obtain⟨rfl,rfl⟩:=he
     obtain⟨d,dcap,hdv⟩: ∃d dcap,a.eval x= .slice d len dcap:=by
      rcases h1.inv_arr with⟨b,oo,en,dcap,_,hv,_⟩|⟨rfl,ad,dcap,hv⟩
      ·exact⟨_,_,hv⟩
      ·exact⟨_,_,hv⟩
     refine .pure I (v:= .int .i64 0) (run _ _ ?_) (.int _ _)
     rw[hdv,hv]
     have hn':Nat.min ys.length len=0:=hn
     have hnil:us.take (len*ti.size)=[]:=w1b (by rw[hul,hn'];simp)
     have:=z3q (P:=P) w t tx o.type e d len dcap ys.length cap base _ w ht hi hfc (fun ad _=>by rw[hnil];simp[storeCells]) (fun _=>rfl)
     rw[hn'] at this
     exact this
    ·rename_i hn
     simp only[Option.some.injEq,Prod.mk.injEq] at he
     obtain⟨rfl,rfl⟩:=he
     have hn': ¬Nat.min ys.length len=0:=hn
     rcases h1.inv_arr with⟨b,oo,en,dcap,hb1,hdv,hcap⟩|⟨rfl,ad,dcap,hdv⟩
     rotate_left
     ·exact absurd (by simp) hn
     have hsub: ∀(i:Nat) (x:AV),(ys.take len)[i]? =some x→x.cells.length=ti.size:=fun i x hx=>by
      rw[w2b] at hx
      split at hx
      ·exact k3 i x hx
      ·cases hx
     have hreps:Reps g w ((ys.take len).flatMap AV.cells) (us.take (len*ti.size)):=by rw[z3P len ys k3];exact k1.take _
     have hnl:((ys.take len).flatMap AV.cells).length=Nat.min ys.length len*ti.size:=by rw[←hreps.1,hul]
     have hpos:0<Nat.min ys.length len*ti.size:=Nat.mul_pos (by omega) h0
     obtain⟨b2,o2,e2,q1,q2,q3,q4⟩:=I.store (off:=off) (new:=(ys.take len).flatMap AV.cells) hb hb1 (by omega) (by omega) hreps
     rw[hb1] at q1
     obtain⟨rfl,rfl,rfl⟩:b=b2∧oo=o2∧en=e2:=by simpa using q1
     refine⟨g,_,.int .i64 ((min ys.length len:Nat):Int),.inl (run _ _ ?_),q3,q4,.int _ _⟩
     rw[hdv,hv]
     have hst:=run_storeCells_cells (P:=P) b (oo+off) (us.take (len*ti.size)) 0 w (fun j hj=>by simpa using (q2 (oo+off+j) (by omega) (by omega)).2.2)
      (fun j hj=>by simpa using (q2 (oo+off+j) (by omega) (by omega)).2.1) (hreps.one c2)
     simp only[Nat.add_zero] at hst
     exact z3q (P:=P) w t tx o.type e (some ⟨b,oo+off,none⟩) len dcap ys.length cap base _ _ ht hi hfc (fun ad had=>by injection had with had;subst had;exact hst) (fun e=>by cases e)
   ·cases he
  ·cases he
 ·cases he
theorem zah (hR:Reps g w ρ a.tmps.toList) (I:Inv g w m) {c:Call} {t e:TypeId} {x:Operand} {x':Opd} {z:AV} (hop:o.op= .call c) (hc:c.callee= .builtin .clear) (hA:c.argTypes.toList=[t]) (ha:c.args.toList=[x]) (hx:compOpd x=some x')
  (ht:P.underlying t=some (.slice e)) (hz:zeroT P e=some z) (h0:0<z.cells.length) (he:evClr m z.cells (x'.ev ρ)=some (r,m')):Yields P a o g w r m':=by
 have h1:=(ze hR hx).asArr
 have hargs:c.args= #[x]:=by apply Array.ext';simpa using ha
 have hargT:c.argTypes= #[t]:=by apply Array.ext';simpa using hA
 have run: ∀v w',(Builtin.clear_ #[t] o.type #[a.eval x]).run P w= .ok v w'→(execOp a.eval o).run P w= .ok (.value v) w':=by
  intro v w' hv
  simp[execOp,hop,resolve,hc,hargs,hargT,invoke,builtin,hv]
 unfold evClr evClr0 at he
 split at he
 ·rename_i l k st off len hd
  rw[hd] at h1
  split at he
  ·rename_i cs hb
   split at he
   ·rename_i hcond
    simp only[w0e,decide_eq_true_eq] at hcond
    obtain⟨⟨c1,c2⟩,_⟩:=hcond
    split at he
    ·rename_i hn
     have hl0:len=0:=by rcases Nat.mul_eq_zero.1 hn with h|h<;>omega
     subst hl0
     simp only[Option.some.injEq,Prod.mk.injEq] at he
     obtain⟨rfl,rfl⟩:=he
     refine .pure I (v:= .tuple #[]) (run _ _ ?_) (xT g w)
     rcases h1.inv_arr with⟨b,oo,en,dcap,_,hv,_⟩|⟨_,ad,dcap,hv⟩
     ·rw[hv];simp[Builtin.clear_,run_underlying ht]
     ·rw[hv];simp[Builtin.clear_,run_underlying ht]
    ·rename_i hn
     simp only[Option.some.injEq,Prod.mk.injEq] at he
     obtain⟨rfl,rfl⟩:=he
     have hlp:0<len:=Nat.pos_of_ne_zero fun h=>hn (by rw[h];simp)
     rcases h1.inv_arr with⟨b,oo,en,dcap,hb1,hv,hcap⟩|⟨h,_⟩
     rotate_left
     ·omega
     obtain⟨zv,hzv,hav⟩:=Zh hz w
     have hzr:=(vf (g:=g) (w:=w) hav).cells h0
     have hzl:zv.cells.size=z.cells.length:=by have:=hzr.1;simpa using this
     have hrep:=jy hzr len
     have hfl:(flatRep z.cells len).length=len*z.cells.length:=by
      have: ∀n,(flatRep z.cells n).length=n*z.cells.length:=by
       intro n
       induction n with
       |zero=>simp[flatRep]
       |succ n ih=>simp only[flatRep,w04,ih,w42];omega
      exact this len
     have hpos:0<len*z.cells.length:=Nat.mul_pos hlp h0
     obtain⟨b2,o2,e2,q1,q2,q3,q4⟩:=I.store (off:=off) (new:=flatRep z.cells len) hb hb1 (by omega) (by omega) hrep
     rw[hb1] at q1
     obtain⟨rfl,rfl,rfl⟩:b=b2∧oo=o2∧en=e2:=by simpa using q1
     refine⟨g,_,.tuple #[],.inl (run _ _ ?_),q3,q4,xT g _⟩
     have hone: ∀u∈(List.replicate len zv.cells.toList).flatten,u.oneCell'=true:=fun u hu=>by
      obtain⟨l',hl',hu'⟩:=List.mem_flatten.1 hu
      rw[List.eq_of_mem_replicate hl'] at hu'
      exact hzr.one c2 u hu'
     have hst:=run_storeCells_cells (P:=P) b (oo+off) ((List.replicate len zv.cells.toList).flatten) 0 w (fun j hj=>by simpa using (q2 (oo+off+j) (by omega) (by omega)).2.2)
      (fun j hj=>by simpa using (q2 (oo+off+j) (by omega) (by omega)).2.1) hone
     simp only[Nat.add_zero] at hst
     have hzc:(Builtin.zeroCells zv.cells len).toList=(List.replicate len zv.cells.toList).flatten:=by
      unfold Builtin.zeroCells
      have:=rangeZ (s:=zv.cells.size) (by omega) zv.cells rfl len
      rw[this]
     rw[hv]
     obtain⟨n',rfl⟩: ∃n',len=n'+1:=⟨len-1,by omega⟩
     simp[Builtin.clear_,run_underlying ht,hzv,hzc,hst]
   ·cases he
  ·cases he
 ·cases he
end
section
variable {P : Program} {g : G} {w : World} {ρ : List AV} {a : Act} {m m' : Mem} {o : Oper} {r : AV}
theorem zaa {e:XOp} (h:compX P o=some e) (hR:Reps g w ρ a.tmps.toList) (I:Inv g w m) (he:evX ρ m e=some (r,m')):Yields P a o g w r m':=by
 unfold compX at h
 split at h
 ·rename_i op xt x y yt hop
  split at h
  ·rename_i neg fs hn ht
   split at h
   ·rename_i ls n x' y' hl hsz hx hy
    split at h
    ·rename_i hg
     injection h with h;subst h
     simp only[evX] at he
     split at he
     ·rename_i xs ys e1 e2
      split at he
      ·rename_i hc
       simp only[w0e,beq_iff_eq] at hc
       simp only[w02,Prod.mk.injEq] at he
       obtain⟨b,hb,rfl,rfl⟩:=he
       exact zae hR I hop hn ht hl hx hy hg e1 e2 (by rw[hc.1];exact hsz) (by rw[hc.2];exact hsz) hb
      ·cases he
     ·cases he
    ·cases h
   ·cases h
  ·rename_i neg hn _
   split at h
   ·rename_i kd hk
    simp only[w02] at h
    obtain⟨x',hx,rfl⟩:=h
    simp only[evX,w02,Prod.mk.injEq] at he
    obtain⟨b,hb,rfl,rfl⟩:=he
    exact z0g hR I hop hn (.inl ⟨rfl,hk⟩) hx hb
   ·split at h
    ·rename_i kd hk
     simp only[w02] at h
     obtain⟨x',hx,rfl⟩:=h
     simp only[evX,w02,Prod.mk.injEq] at he
     obtain⟨b,hb,rfl,rfl⟩:=he
     exact z0g hR I hop hn (.inr ⟨rfl,hk⟩) hx hb
    ·cases h
  ·cases h
 ·rename_i x hop
  simp only[w02] at h
  obtain⟨x',hx,rfl⟩:=h
  simp only[evX,w02,Prod.mk.injEq] at he
  obtain⟨b,hb,rfl,rfl⟩:=he
  exact z4J hR I hop hx hb
 ·rename_i c hop
  split at h
  ·rename_i t tx x y hc hA ha
   split at h
   ·rename_i e x' y' ht hx hy
    split at h
    ·rename_i ti hi
     split at h
     ·rename_i h0
      injection h with h;subst h
      simp only[evX] at he
      exact z82 hR I hop hc hA ha hx hy ht hi h0 he
     ·cases h
    ·cases h
   ·cases h
  ·rename_i t x hc hA ha
   split at h
   ·rename_i e x' ht hx
    split at h
    ·rename_i z hz
     split at h
     ·rename_i h0
      injection h with h;subst h
      simp only[evX] at he
      exact zah hR I hop hc hA ha hx ht hz h0 he
     ·cases h
    ·cases h
   ·cases h
  ·cases h
 ·rename_i t hop
  split at h
  ·injection h with h;subst h
   simp only[evX,Option.some.injEq,Prod.mk.injEq] at he
   obtain⟨rfl,rfl⟩:=he
   exact z6b I hop
  ·cases h
 ·rename_i t x k hop
  split at h
  ·rename_i kt et ht
   split at h
   ·rename_i kk z x' k' hk hz hx hkx
    injection h with h;subst h
    simp only[evX] at he
    split at he
    ·rename_i ps hps
     split at he
     ·rename_i hky
      simp only[w02,Prod.mk.injEq] at he
      obtain⟨v,hv,rfl,rfl⟩:=he
      exact z7A hR I hop ht hk hz hx hkx hps hky hv
     ·cases he
    ·cases he
   ·cases h
  ·cases h
 ·rename_i t x k v hop
  split at h
  ·rename_i kt et ht
   split at h
   ·rename_i kk x' k' v' hk hx hkx hvx
    injection h with h;subst h
    simp only[evX] at he
    exact z7w hR I hop ht hk hx hkx hvx he
   ·cases h
  ·cases h
 ·cases h
theorem z6K {O:Oracle} {op:AOp} (h:compOp0 P o=some op) (hnc: ∀f l,op≠ .call f l) (hR:Reps g w ρ a.tmps.toList) (I:Inv g w m) (he:evOp O ρ m op=some (r,m')):Yields P a o g w r m':=by
 have pairI: ∀{x:Option AV} {mm:Mem} {v:AV} {m2:Mem},(x.map fun z=>(z,mm))=some (v,m2)→x=some v∧m2=mm:=by
  intro x mm v m2 h
  cases x with
  |none=>simp at h
  |some z=>simp at h;exact⟨by rw[h.1],h.2.symm⟩
 unfold compOp0 at h
 split at h
 ·rename_i x hop
  simp only[w02] at h
  obtain⟨y,hy,rfl⟩:=h
  simp only[evOp,Option.some.injEq,Prod.mk.injEq] at he
  obtain⟨rfl,rfl⟩:=he
  exact z3B hR I (.inl hop) hy
 ·rename_i x hop
  simp only[w02] at h
  obtain⟨y,hy,rfl⟩:=h
  simp only[evOp,Option.some.injEq,Prod.mk.injEq] at he
  obtain⟨rfl,rfl⟩:=he
  exact z3B hR I (.inr hop) hy
 ·rename_i c x y hop
  split at h
  ·rename_i c' x' y' hc hx hy
   injection h with h;subst h
   simp only[evOp] at he
   split at he
   ·rename_i t ht
    simp only[Option.some.injEq,Prod.mk.injEq] at he
    obtain⟨rfl,rfl⟩:=he
    exact z7p hR I hop hc hx hy ht
   ·cases he
  ·cases h
 ·rename_i e hop
  simp only[w05] at h
  obtain⟨z,hz,h⟩:=h
  split at h
  ·rename_i hpos
   injection h with h;subst h
   simp only[evOp,Option.some.injEq] at he
   have:=z6Y (P:=P) (a:=a) I hop hz hpos
   rw[he] at this
   exact this
  ·cases h
 ·rename_i e x hop
  split at h
  ·rename_i n y hn hy
   split at h
   ·rename_i hpos
    injection h with h;subst h
    simp only[evOp] at he
    split at he
    ·rename_i hl
     injection he with he
     have:=zaq (P:=P) hR I hop hy (eq_of_beq hl) hpos
     rw[he] at this
     exact this
    ·cases he
   ·cases h
  ·cases h
 ·rename_i t ps hop
  split at h
  ·rename_i z fs hz ht
   split at h
   ·rename_i hall
    simp only[w02] at h
    obtain⟨l,hl,rfl⟩:=h
    simp only[evOp] at he
    simp only[w02,Prod.mk.injEq] at he
    obtain⟨cs,he,rfl,rfl⟩:=he
    exact Qe hR I hop hz ht hall hl he
   ·cases h
  ·rename_i z n e hz ht
   split at h
   ·rename_i s hs
    split at h
    ·rename_i hpos
     simp only[w02] at h
     obtain⟨l,hl,rfl⟩:=h
     simp only[evOp] at he
     simp only[w02,Prod.mk.injEq] at he
     obtain⟨cs,he,rfl,rfl⟩:=he
     exact QX hR I hop hz ht hs hl he hpos
    ·cases h
   ·cases h
  ·cases h
 ·rename_i t len ps hop
  split at h
  ·rename_i e ht
   split at h
   ·rename_i ti hi
    split at h
    ·rename_i hc
     simp only[w02,w05] at h
     obtain⟨l,⟨xs,hp,hl⟩,rfl⟩:=h
     simp only[evOp] at he
     split at he
     ·rename_i hall
      simp only[Option.some.injEq,Prod.mk.injEq] at he
      obtain⟨rfl,rfl⟩:=he
      exact z9J hR I hop ht hi hc.1 hc.2.1 hc.2.2.1 hc.2.2.2 hp hl hall
     ·cases he
    ·cases h
   ·cases h
  ·cases h
 ·rename_i t x hop
  split at h
  ·rename_i b n y hb hn hy
   split at h
   ·injection h with h;subst h
    simp only[evOp,w05] at he
    obtain⟨cs,hc,he⟩:=he
    obtain⟨hq,rfl⟩:=pairI he
    exact z7C hR I hop hy hb hn hc hq
   ·cases h
  ·cases h
 ·rename_i t x y hop
  split at h
  ·rename_i n x' y' hn hx hy
   split at h
   ·rename_i hpos
    injection h with h;subst h
    simp only[evOp] at he
    exact z5G hR I hop hx hy hn he hpos
   ·cases h
  ·cases h
 ·rename_i bop xt x y yt hop
  split at h
  ·rename_i x' y' hx hy
   split at h
   ·rename_i hbool
    split at h
    ·injection h with h;subst h
     simp only[evOp] at he
     split at he
     ·rename_i u v e1 e2
      simp only[Option.some.injEq,Prod.mk.injEq] at he
      obtain⟨rfl,rfl⟩:=he
      exact z44 hR I hop hx hy hbool e1 e2 false rfl
     ·cases he
    ·injection h with h;subst h
     simp only[evOp] at he
     split at he
     ·rename_i u v e1 e2
      simp only[Option.some.injEq,Prod.mk.injEq] at he
      obtain⟨rfl,rfl⟩:=he
      exact z44 hR I hop hx hy hbool e1 e2 true rfl
     ·cases he
    ·cases h
   ·injection h with h;subst h
    simp only[evOp] at he
    obtain⟨hq,rfl⟩:=pairI he
    exact zas hR I hop hx hy hq
  ·cases h
 ·rename_i uop t x hop
  simp only[w02] at h
  obtain⟨y,hy,rfl⟩:=h
  simp only[evOp] at he
  obtain⟨hq,rfl⟩:=pairI he
  exact zaV hR I hop hy hq
 ·rename_i s d x hop
  split at h
  ·rename_i j k y hs hd hy
   injection h with h;subst h
   simp only[evOp] at he
   split at he
   ·rename_i k' n e1
    simp only[Option.some.injEq,Prod.mk.injEq] at he
    obtain⟨rfl,rfl⟩:=he
    exact z83 hR I hop hy hs hd e1
   ·cases he
  ·rename_i y hs hd hy
   injection h with h;subst h
   simp only[evOp] at he
   split at he
   ·rename_i b e1
    simp only[Option.some.injEq,Prod.mk.injEq] at he
    obtain⟨rfl,rfl⟩:=he
    exact z3b hR I hop hy hs hd e1
   ·cases he
  ·rename_i e y hs hd hy
   split at h
   ·rename_i hu
    injection h with h;subst h
    simp only[evOp] at he
    obtain⟨hq,rfl⟩:=pairI he
    exact z5v hR I hop hy hs hd hu hq
   ·cases h
  ·rename_i e y hs hd hy
   split at h
   ·rename_i hu
    injection h with h;subst h
    simp only[evOp] at he
    split at he
    ·rename_i b e1
     split at he
     ·simp only[Option.some.injEq,Prod.mk.injEq] at he
      obtain⟨rfl,rfl⟩:=he
      simp only[w0e] at hu
      exact z2H hR I hop hy hs hd hu.1 e1
     ·cases he
    ·cases he
   ·cases h
  ·cases h
 ·rename_i f x y hop
  split at h
  ·rename_i x' y' hx hy
   split at h
   ·rename_i hsm
    injection h with h;subst h
    simp only[evOp,Option.some.injEq,Prod.mk.injEq] at he
    obtain⟨rfl,rfl⟩:=he
    exact z7z hR I hop hx hy hsm
   ·cases h
  ·cases h
 ·rename_i t x i hop
  split at h
  ·rename_i fs y ht hy
   split at h
   ·rename_i f hf
    split at h
    ·rename_i ti hi
     split at h
     ·cases h
     ·rename_i hne
      injection h with h;subst h
      simp only[evOp] at he
      obtain⟨hq,rfl⟩:=pairI he
      exact z6H hR I hop hy ht hf hi hne hq
    ·cases h
   ·cases h
  ·cases h
 ·rename_i t x i hop
  split at h
  ·rename_i fs y ht hy
   split at h
   ·rename_i f hf
    split at h
    ·rename_i b n hb hn
     split at h
     ·injection h with h;subst h
      simp only[evOp] at he
      split at he
      ·rename_i cs e1
       obtain⟨hq,rfl⟩:=pairI he
       exact z6G hR I hop hy ht hf hb hn e1 hq
      ·cases he
     ·cases h
    ·cases h
   ·cases h
  ·cases h
 ·rename_i t x i hop
  split at h
  ·rename_i e x' i' ht hx hi
   simp only[w02] at h
   obtain⟨s,hs,rfl⟩:=h
   simp only[evOp] at he
   obtain⟨hq,rfl⟩:=pairI he
   exact z6y hR I hop hx hi ht hs hq
  ·rename_i n e x' i' ht hx hi
   simp only[w02] at h
   obtain⟨s,hs,rfl⟩:=h
   simp only[evOp] at he
   obtain⟨hq,rfl⟩:=pairI he
   exact z51 hR I hop hx hi ht hs hq
  ·cases h
 ·rename_i t x i hop
  split at h
  ·rename_i x' i' ht hx hi
   injection h with h;subst h
   simp only[evOp] at he
   split at he
   ·rename_i b e1
    simp only[w05,w02,Prod.mk.injEq] at he
    obtain⟨j,hj,c,hc,rfl,rfl⟩:=he
    exact z4Z hR I hop hx hi ht e1 hj hc
   ·cases he
  ·rename_i n e x' i' ht hx hi
   split at h
   ·rename_i b s hb hs
    split at h
    ·injection h with h;subst h
     simp only[evOp] at he
     split at he
     ·rename_i cs e1
      simp only[w05,w02,Prod.mk.injEq] at he
      obtain⟨j,hj,c,hc,rfl,rfl⟩:=he
      exact z50 hR I hop hx hi ht hb hs e1 hj hc
     ·cases he
    ·cases h
   ·cases h
  ·cases h
 ·rename_i t x lo hi mx hop
  split at h
  ·rename_i x' lo' hi' ht hx hlo hhi hmx
   injection h with h;subst h
   have:mx=none:=by cases mx with|none=>rfl|some q=>simp[compOpt] at hmx
   subst this
   simp only[evOp] at he
   obtain⟨hq,rfl⟩:=pairI he
   exact z4y hR I hop hx hlo hhi ht hq
  ·rename_i e x' lo' hi' mx' ht hx hlo hhi hmx
   simp only[w05] at h
   obtain⟨s,hs,h⟩:=h
   split at h
   ·rename_i hc
    simp only[w0e,decide_eq_true_eq,w31] at hc
    injection h with h;subst h
    simp only[evOp] at he
    obtain⟨hq,rfl⟩:=pairI he
    refine z5H hR I hop hx hlo hhi hmx ht hs hc.1 (fun hm=> ?_) hq
    rcases hc.2 with h|h
    ·cases mx' with
     |none=>simp at hm
     |some q=>simp at h
    ·exact h
   ·cases h
  ·rename_i n e x' lo' hi' ht hx hlo hhi hmx
   simp only[w02] at h
   obtain⟨s,hs,rfl⟩:=h
   have:mx=none:=by cases mx with|none=>rfl|some q=>simp[compOpt] at hmx
   subst this
   simp only[evOp] at he
   obtain⟨hq,rfl⟩:=pairI he
   exact z4z hR I hop hx hlo hhi ht hs hq
  ·cases h
 ·rename_i t n c hop
  split at h
  ·rename_i e ht
   split at h
   ·rename_i ti z n' c' hi hz hn hc
    split at h
    ·rename_i hcond
     injection h with h;subst h
     simp only[evOp] at he
     exact z7B hR I hop hn hc ht hi hz hcond.1 hcond.2 he
    ·cases h
   ·cases h
  ·cases h
 ·rename_i x i hop
  simp only[w02] at h
  obtain⟨y,hy,rfl⟩:=h
  simp only[evOp] at he
  split at he
  ·rename_i vs e1
   obtain⟨hq,rfl⟩:=pairI he
   exact z3a hR I hop hy e1 hq
  ·cases he
 ·rename_i c hop
  unfold compCall at h
  split at h
  ·rename_i f hc
   split at h
   ·injection h with h;exact absurd h.symm (hnc _ _)
   ·cases h
  ·cases h
  ·rename_i b hc
   split at h
   ·rename_i t x hA ha
    split at h
    ·rename_i e ht
     simp only[w02] at h
     obtain⟨y,hy,rfl⟩:=h
     simp only[evOp] at he
     obtain⟨hq,rfl⟩:=pairI he
     exact z9K hR I hop hc hA ha hy ht hq
    ·rename_i ht
     simp only[w02] at h
     obtain⟨y,hy,rfl⟩:=h
     simp only[evOp] at he
     split at he
     ·rename_i l e1
      simp only[Option.some.injEq,Prod.mk.injEq] at he
      obtain⟨rfl,rfl⟩:=he
      exact z7F hR I hop hc hA ha hy ht e1
     ·cases he
    ·rename_i n e ht
     injection h with h;subst h
     simp only[evOp,Opd.ev,Option.some.injEq,Prod.mk.injEq] at he
     obtain⟨rfl,rfl⟩:=he
     exact z7G I hop hc hA ha ht
    ·cases h
   ·rename_i t tx x y hA ha
    split at h
    ·rename_i e e' ht htx
     split at h
     ·split at h
      ·rename_i ti x' y' hi hx hy
       split at h
       ·rename_i hcond
        injection h with h;subst h
        simp only[evOp] at he
        exact QZ hR I hop hc hA ha hx hy ht (.inl ⟨_,htx⟩) hi hcond.1 hcond.2.1 hcond.2.2 he
       ·cases h
      ·cases h
     ·cases h
    ·rename_i e ht htx
     split at h
     ·rename_i ti x' y' hi hx hy
      split at h
      ·rename_i hcond
       injection h with h;subst h
       simp only[evOp] at he
       exact QZ hR I hop hc hA ha hx hy ht (.inr htx) hi hcond.1 hcond.2.1 hcond.2.2 he
      ·cases h
     ·cases h
    ·cases h
   ·rename_i x y ha
    split at h
    ·rename_i x' y' hx hy
     injection h with h;subst h
     simp only[evOp] at he
     obtain⟨hq,rfl⟩:=pairI he
     exact zbi hR I hop hc ha hx hy hq
    ·cases h
   ·rename_i x y ha
    split at h
    ·rename_i x' y' hx hy
     injection h with h;subst h
     simp only[evOp] at he
     obtain⟨hq,rfl⟩:=pairI he
     exact zbj hR I hop hc ha hx hy hq
    ·cases h
   ·cases h
 ·cases h
theorem Xx (ds:List Nat) (dst:Option Nat) (op:AOp):markOp ds dst op=op∨(∃s ps,op= .lit s ps∧markOp ds dst op= .ext (.litB s ps))∨(∃s b x y,op= .app s b x y∧markOp ds dst op= .ext (.appB s b x y))∨
  ∃f a b l,op= .call (.c (.fn (.func f) a b)) l∧markOp ds dst op= .call (.c (.fn (.func (f+1000000)) a b)) l:=by
 unfold markOp
 split
 ·split
  ·exact .inr (.inl ⟨_,_,rfl,rfl⟩)
  ·exact .inl rfl
 ·split
  ·exact .inr (.inr (.inl ⟨_,_,_,_,rfl,rfl⟩))
  ·exact .inl rfl
 ·split
  ·exact .inr (.inr (.inr ⟨_,_,_,_,rfl,rfl⟩))
  ·exact .inl rfl
 ·exact .inl rfl
theorem z6e {ds:List Nat} {dst:Option Nat} {op op':AOp} (h:markOp ds dst op=op') (h2: ∀e,op'≠ .ext e) (h3: ∀f l,op'≠ .call f l):op=op':=by
 rcases Xx ds dst op with q|⟨s,ps,_,q⟩|⟨s,b,x,y,_,q⟩|⟨f,a,b,l,_,q⟩
 ·rw[←h,q]
 ·exact absurd (h▸q) (h2 _)
 ·exact absurd (h▸q) (h2 _)
 ·exact absurd (h▸q) (h3 _ _)
def VarOf (f0 f:Opd):Prop:=f=f0∨ ∃n a b,f0= .c (.fn (.func n) a b)∧f= .c (.fn (.func (n+1000000)) a b)
theorem z6f {ds:List Nat} {dst:Option Nat} {op:AOp} {f:Opd} {l:List Opd} (h:markOp ds dst op= .call f l): ∃f0,op= .call f0 l∧VarOf f0 f:=by
 rcases Xx ds dst op with q|⟨s,ps,_,q⟩|⟨s,b,x,y,_,q⟩|⟨f1,a,b,l1,e,q⟩
 ·exact⟨f,by rw[←h,q],.inl rfl⟩
 ·rw[q] at h;cases h
 ·rw[q] at h;cases h
 ·rw[q] at h;injection h with h1 h2;subst h2;exact⟨_,e,.inr ⟨_,_,_,rfl,h1.symm⟩⟩
theorem z84 {s:Nat} {l:List Opd} (hc:compOp1 P o=some (.lit s l)): ∃t e len ps ti xs,o.op= .buildSlice t len ps∧P.underlying t=some (.slice e)∧P.info? e=some ti∧0<ti.size∧ps.size=len∧len*ti.size≤16777216∧(ti.zero.map fun z=>z.cells.size)=some ti.size∧
  litParts 0 ps.toList=some xs∧compOpds xs=some l∧s=ti.size:=by
 replace hc:compOp0 P o=some (.lit s l):=by
  unfold compOp1 at hc
  split at hc
  ·cases hc
  ·split at hc
   ·rename_i h0;injection hc with hc;rw[h0,hc]
   ·split at hc<;>cases hc
 unfold compOp0 at hc
 split at hc
 case h_7=>
  rename_i t len ps hop
  split at hc
  ·rename_i e ht
   split at hc
   ·rename_i ti hi
    split at hc
    ·rename_i hcond
     simp only[w02,w05] at hc
     obtain⟨l',⟨xs,h1,h2⟩,h3⟩:=hc
     injection h3 with h3 h4
     subst h3;subst h4
     exact⟨t,e,len,ps,ti,xs,hop,ht,hi,hcond.1,hcond.2.1,hcond.2.2.1,hcond.2.2.2,h1,h2,rfl⟩
    ·cases hc
   ·cases hc
  ·cases hc
 all_goals
  exfalso
  try unfold compCall at hc
  repeat' (first|(cases hc;done)|(simp at hc;done)|(split at hc)|(simp only[w05,w02] at hc;obtain⟨_,_,hc⟩:=hc))
theorem z85 {s b:Nat} {x' y':Opd} (hc:compOp1 P o=some (.app s b x' y')): ∃c t tx e ti x y,o.op= .call c∧c.callee= .builtin .append∧c.argTypes.toList=[t,tx]∧c.args.toList=[x,y]∧compOpd x=some x'∧compOpd y=some y'∧P.underlying t=some (.slice e)∧
  ((∃e',P.underlying tx=some (.slice e'))∨P.underlying tx=some .string)∧P.info? e=some ti∧0<ti.size∧0<ti.bytes∧(ti.zero.map fun z=>z.cells.size)=some ti.size∧s=ti.size∧b=ti.bytes:=by
 replace hc:compOp0 P o=some (.app s b x' y'):=by
  unfold compOp1 at hc
  split at hc
  ·cases hc
  ·split at hc
   ·rename_i h0;injection hc with hc;rw[h0,hc]
   ·split at hc<;>cases hc
 unfold compOp0 at hc
 split at hc
 case h_21=>
  rename_i c hop
  unfold compCall at hc
  split at hc
  ·split at hc<;>cases hc
  ·cases hc
  ·rename_i bb hb
   split at hc
   ·exfalso
    repeat' (first|(cases hc;done)|(simp at hc;done)|(split at hc)|(simp only[w05,w02] at hc;obtain⟨_,_,hc⟩:=hc))
   ·rename_i t tx x y hA ha
    split at hc
    ·rename_i e e' ht htx
     split at hc
     ·split at hc
      ·rename_i ti x1 y1 hi hx hy
       split at hc
       ·rename_i hcond
        injection hc with hc
        injection hc with q1 q2 q3 q4
        subst q1;subst q2;subst q3;subst q4
        exact⟨c,t,tx,e,ti,x,y,hop,hb,hA,ha,hx,hy,ht,.inl ⟨_,htx⟩,hi,hcond.1,hcond.2.1,hcond.2.2,rfl,rfl⟩
       ·cases hc
      ·cases hc
     ·cases hc
    ·rename_i e ht htx
     split at hc
     ·rename_i ti x1 y1 hi hx hy
      split at hc
      ·rename_i hcond
       injection hc with hc
       injection hc with q1 q2 q3 q4
       subst q1;subst q2;subst q3;subst q4
       exact⟨c,t,tx,e,ti,x,y,hop,hb,hA,ha,hx,hy,ht,.inr htx,hi,hcond.1,hcond.2.1,hcond.2.2,rfl,rfl⟩
      ·cases hc
     ·cases hc
    ·cases hc
   all_goals
    exfalso
    repeat' (first|(cases hc;done)|(simp at hc;done)|(split at hc)|(simp only[w05,w02] at hc;obtain⟨_,_,hc⟩:=hc))
 all_goals
  exfalso
  repeat' (first|(cases hc;done)|(simp at hc;done)|(split at hc)|(simp only[w05,w02] at hc;obtain⟨_,_,hc⟩:=hc))
theorem z7Y {O:Oracle} {ds:List Nat} {op:AOp} (h:compOp P ds o=some op) (hnc: ∀f l,op≠ .call f l) (hR:Reps g w ρ a.tmps.toList) (I:Inv g w m) (he:evOp O ρ m op=some (r,m')):Yields P a o g w r m':=by
 unfold compOp at h
 rw[w02] at h
 obtain⟨op1,h,hm⟩:=h
 rcases Xx ds o.dst op1 with q|⟨s,ps,rfl,q⟩|⟨s,b,x,y,rfl,q⟩|⟨f1,a1,b1,l1,_,q⟩
 rotate_left
 ·rw[q] at hm
  subst hm
  obtain⟨t,e,len,ps',ti,xs,q1,q2,q3,q4,q5,q6,q7,q8,q9,rfl⟩:=z84 h
  simp only[evOp,evX] at he
  exact z7E hR I q1 q2 q3 q4 q5 q6 q7 q8 q9 he
 ·rw[q] at hm
  subst hm
  obtain⟨c,t,tx,e,ti,x0,y0,q1,q2,q3,q4,q5,q6,q7,q8,q9,q10,q11,q12,rfl,rfl⟩:=z85 h
  simp only[evOp,evX] at he
  exact z8l hR I q1 q2 q3 q4 q5 q6 q7 q8 q9 q10 q11 q12 he
 ·exact absurd (hm.symm.trans q) (hnc _ _)
 rw[q] at hm
 subst hm
 unfold compOp1 at h
 split at h
 ·rename_i e hx
  injection h with h;subst h
  exact zaa hx hR I he
 ·split at h
  ·rename_i op' h0
   injection h with h;subst h
   exact z6K h0 hnc hR I he
  ·split at h
   ·cases h
   ·injection h with h;subst h
    cases he
theorem Tp {f:Mem→AV→Option (AV×Mem)} (hf: ∀{m:Mem} {x x':AV} {m':Mem} {g:G} {v:Value},f m x=some (x',m')→Inv g w m→Rep g w x v→ ∃g',Ext g w g' w∧Inv g' w m'∧Rep g' w x' v):
  ∀{cs cs':List AV} {m m':Mem} {g:G} {vs:List Value},frzL f m cs=some (cs',m')→Inv g w m→Reps g w cs vs→ ∃g',Ext g w g' w∧Inv g' w m'∧Reps g' w cs' vs
 | [],cs',m,m',g,vs,h,I,hR=>by
  simp only[frzL,Option.some.injEq,Prod.mk.injEq] at h
  obtain⟨rfl,rfl⟩:=h
  exact⟨g,Ext.refl g w,I,hR⟩
 |c::r,cs',m,m',g,vs,h,I,hR=>by
  simp only[frzL,w05,w02] at h
  obtain⟨⟨c',m1⟩,h1,⟨r',m2⟩,h2,h3⟩:=h
  simp only[Prod.mk.injEq] at h3
  obtain⟨rfl,rfl⟩:=h3
  obtain⟨v,vr,rfl,k1,k2⟩:=hR.head
  obtain⟨g1,e1,I1,r1⟩:=hf h1 I k1
  obtain⟨g2,e2,I2,r2⟩:=Tp hf h2 I1 (k2.mono e1)
  exact⟨g2,e1.trans e2,I2,Reps.cons (r1.mono e2) r2⟩
theorem z20: ∀(n:Nat) {m:Mem} {x x':AV} {m':Mem} {g:G} {v:Value},frzV n m x=some (x',m')→Inv g w m→Rep g w x v→ ∃g',Ext g w g' w∧Inv g' w m'∧Rep g' w x' v:=by
 intro n
 induction n with
 |zero=>
  intro m x x' m' g v h I hR
  unfold frzV at h
  split at h
  ·cases h
  ·rename_i h0;cases h0
  ·injection h with h;injection h with h1 h2;subst h1;subst h2;exact⟨g,Ext.refl g w,I,hR⟩
 |succ n ih=>
  intro m x x' m' g v h I hR
  unfold frzV at h
  split at h
  ·cases h
  ·rename_i n' s l k st len hn
   injection hn with hn;subst hn
   split at h
   ·rename_i cs hb
    split at h
    ·rename_i hc
     obtain⟨_,hlen,h0⟩:=hc
     simp only[w05] at h
     obtain⟨⟨cs',m1⟩,h1,h⟩:=h
     simp only at h
     split at h
     ·rename_i hc2
      obtain⟨hone,hsome⟩:=hc2
      injection h with h;injection h with e1 e2
      subst e1;subst e2
      obtain⟨b,o,e,cap,hbt,rfl,hcap,hce⟩:=hR.inv_grow
      obtain⟨b1,o1,e1,a1,a2,a3,vs,a4,a5⟩:=I.cells (zI hb) hbt
      simp only at a1 a2 a3 a4 a5
      rw[hbt] at a1
      obtain⟨rfl,rfl,rfl⟩:b=b1∧o=o1∧e=e1:=by simpa using a1
      obtain⟨g1,x1,I1,r1⟩:=Tp ih h1 I (a4.take (len*s))
      obtain⟨cs2,hb2⟩:=Option.isSome_iff_exists.1 hsome
      obtain⟨g2,x2,I2,ho⟩:=I1.freeze hb2 (x1.bt _ _ hbt)
      refine⟨g2,x1.trans x2,I2,?_⟩
      have hvl:(vs.take (len*s)).length=len*s:=by rw[w1f,a4.1];omega
      have hcl:cs'.length=len*s:=by rw[←r1.1,hvl]
      obtain⟨q1,q2,q3⟩:=Zp h0 len cs' (by omega) (by rw[w2f (by omega)];exact hone)
      rw[w2f (show cs'.length≤len*s by omega)] at q3
      have:=Rep.rowsC (g:=g2) (w:=w) h0 q2 (us:=vs.take (len*s)) (by rw[q3];exact r1.mono x2) b o cap .none (by omega) trivial (fun j u hj=>by
       have hju:j<len*s:=by rw[←hvl];exact(w06.1 hj).1
       have hj':=hj
       rw[w2b,if_pos hju] at hj'
       have hle:len*s≤cap*s:=Nat.mul_le_mul_right s hcap
       exact⟨a5 j u hj',ho (o+j) (by omega) (by omega),(r1.one hone) u (w49 hj)⟩)
      rw[q1] at this
      exact this
     ·cases h
    ·cases h
   ·cases h
  ·injection h with h;injection h with h1 h2;subst h1;subst h2;exact⟨g,Ext.refl g w,I,hR⟩
theorem XC: ∀(ts:List Nat) {σ σ':St} {g:G} {vs:List Value},frzT ts σ=some σ'→Inv g w σ.m→Reps g w σ.ρ vs→ ∃g',Ext g w g' w∧Inv g' w σ'.m∧Reps g' w σ'.ρ vs
 | [],σ,σ',g,vs,h,I,hR=>by
  simp only[frzT,Option.some.injEq] at h
  subst h
  exact⟨g,Ext.refl g w,I,hR⟩
 |t::r,σ,σ',g,vs,h,I,hR=>by
  simp only[frzT] at h
  split at h
  ·rename_i l k st off hv
   split at h
   ·rename_i cs hb
    split at h
    ·simp only[w05] at h
     obtain⟨⟨cs',m1⟩,h1,h⟩:=h
     simp only at h
     split at h
     ·rename_i hsome
      obtain⟨cs2,hb2⟩:=Option.isSome_iff_exists.1 hsome
      by_cases ht:t<σ.ρ.length
      ·obtain⟨v,hv1,hv2⟩:=hR.get (j:=t) (c:= .ptr l k st off) (by rw[w00,w13 ht,w2a] at hv;rw[w13 ht,hv])
       obtain⟨b,o,e,hbt,rfl⟩:=hv2.inv_ptr
       obtain⟨b1,o1,e1,a1,a2,a3,us,a4,a5⟩:=I.cells (zI hb) hbt
       simp only at a1 a2 a3 a4 a5
       rw[hbt] at a1
       obtain⟨rfl,rfl,rfl⟩:b=b1∧o=o1∧e=e1:=by simpa using a1
       obtain⟨g1,x1,I1,r1⟩:=Tp (z20 3) h1 I a4
       have I2:=I1.retell hb2 (x1.bt _ _ hbt) r1 a5 (by rw[←r1.1,a4.1];exact a2)
       obtain⟨g3,x3,I3,r3⟩:=XC r h I2 (hR.mono x1)
       exact⟨g3,x1.trans x3,I3,r3⟩
      ·rw[w00,w17 (by omega)] at hv;cases hv
     ·cases h
    ·cases h
   ·cases h
  ·simp only[w05] at h
   obtain⟨⟨v',m1⟩,h1,h⟩:=h
   by_cases ht:t<σ.ρ.length
   ·obtain⟨v,hv1,hv2⟩:=hR.get (j:=t) (c:=σ.ρ.getD t (.tup [])) (by rw[w00,w13 ht,w2a])
    obtain⟨g1,x1,I1,r1⟩:=z20 3 h1 I hv2
    have hset:Reps g1 w (σ.ρ.set t v') vs:=by
     refine⟨by simp[hR.1],fun j c u q1 q2=> ?_⟩
     rw[w36] at q1
     split at q1
     ·rename_i hj
      subst hj
      injection q1 with q1;subst q1
      rw[hv1] at q2;injection q2 with q2;subst q2
      exact r1
     ·exact(hR.2 j c u q1 q2).mono x1
    obtain⟨g3,x3,I3,r3⟩:=XC r h I1 hset
    exact⟨g3,x1.trans x3,I3,r3⟩
   ·rw[w00,w17 (by omega)] at h1
    simp only[Option.getD_none,frzV,Option.some.injEq,Prod.mk.injEq] at h1
    obtain⟨rfl,rfl⟩:=h1
    rw[List.set_eq_of_length_le (by omega)] at h
    exact XC r h I hR
end
structure Above (m m':Mem):Prop where
 len:m'.stk.length=m.stk.length
 floor:m'.floor=m.floor
 blk: ∀l k st cs,l<m.floor→m.blk l k st=some cs→m'.blk l k st=some cs
 nx:m.nx≤m'.nx
theorem Above.refl (m:Mem):Above m m:=⟨rfl,rfl,fun _ _ _ _ _ h=>h,w0b _⟩
theorem Above.trans {a b c:Mem} (h:Above a b) (k:Above b c):Above a c:=
 ⟨k.len.trans h.len,k.floor.trans h.floor,fun l i st cs hl hb=>k.blk l i st cs (by rw[h.floor];exact hl) (h.blk l i st cs hl hb),w4a h.nx k.nx⟩
theorem tr {m m':Mem} {l k st:Nat} {cs:List AV} (h:m.blk l k st=some cs) (hr: ∀x,(m.row l)[k]? =some x→(m'.row l)[k]? =some x):m'.blk l k st=some cs:=by
 have h1:=hr _ (jA h)
 unfold Mem.blk
 rw[h1]
 simp
theorem jq (m:Mem) (x:List Blk) (nx:Nat) (live:List (List Nat)) (hn:m.nx≤nx:=by simp):Above m {m with cur:=m.cur++x,nx:=nx,live:=live}:=by
 refine⟨rfl,rfl,fun l k st cs _ h=>tr h fun y hy=> ?_,hn⟩
 unfold Mem.row at hy⊢
 split at hy
 ·rename_i hl
  rw[if_pos hl]
  have hk:k<m.cur.length:=(w06.1 hy).1
  simp only
  rw[w07 hk];exact hy
 ·rename_i hl
  rw[if_neg hl];exact hy
theorem Qj (m:Mem) (nx:Nat) (live:List (List Nat)) (hn:m.nx≤nx:=by simp):Above m {m with nx:=nx,live:=live}:=⟨rfl,rfl,fun _ _ _ _ _ h=>h,hn⟩
theorem kK (m:Mem) (l k st:Nat) (cs:List AV) (h:m.floor≤l):Above m (m.put l k st cs):=by
 unfold Mem.put
 split
 ·rename_i hl
  have hl':l=m.stk.length:=eq_of_beq hl
  refine⟨rfl,rfl,fun l2 k2 st2 cs2 h2 hb=>tr hb fun y hy=> ?_,w0b _⟩
  unfold Mem.row at hy⊢
  simp only at hy⊢
  rw[if_neg (by simp;omega)] at hy⊢
  exact hy
 ·refine⟨by simp,rfl,fun l2 k2 st2 cs2 h2 hb=>tr hb fun y hy=> ?_,w0b _⟩
  unfold Mem.row at hy⊢
  simp only[List.length_modify] at hy⊢
  split at hy
  ·rename_i hq;rw[if_pos hq];exact hy
  ·rename_i hq
   rw[if_neg hq]
   rw[w00] at hy⊢
   rw[w37]
   have: ¬l=l2:=by omega
   simp only[this,if_false]
   simpa using hy
def OracleAbove (O:Oracle):Prop:= ∀f args m r m',O f args m=some (r,m')→m.floor≤m.stk.length+1→Above m m'
theorem z8n (m:Mem) (l k st:Nat) (cs:List AV) (ts:List Nat) (h:m.floor≤l):Above m (m.putS l k st cs ts):=by
 have:=kK m l k st cs h
 rw[z0G]
 exact⟨this.len,this.floor,this.blk,this.nx⟩
theorem z2r (m:Mem) (l k st:Nat) (cs:List AV) (nx:Nat) (h:m.floor≤l) (hn:m.nx≤nx:=by simp):Above m {m.put l k st cs with nx:=nx}:=by
 have:=kK m l k st cs h
 exact⟨this.len,this.floor,this.blk,hn⟩
theorem Ud {m m':Mem} {s b:Nat} {x y r:AV} (h:evApp m s b x y=some (r,m')):Above m m':=by
 unfold evApp at h
 split at h
 ·cases h
 ·split at h
  ·injection h with h;injection h with _ h;rw[←h];exact Above.refl m
  ·split at h
   ·injection h with h;injection h with _ h;rw[←h];exact Above.refl m
   ·cases h
  ·split at h
   ·injection h with h;injection h with _ h;rw[←h];exact Above.refl m
   ·cases h
  ·cases h
 ·split at h
  ·split at h
   ·injection h with h;injection h with _ h;rw[←h];exact Qj m _ _
   ·cases h
  ·split at h
   ·split at h
    ·cases h
    ·injection h with h;injection h with _ h;rw[←h];exact Qj m _ _
    ·split at h
     ·injection h with h;injection h with _ h;rw[←h];exact Qj m _ _
     ·cases h
   ·cases h
  ·split at h
   ·split at h
    ·rename_i hc
     simp only[w0e,decide_eq_true_eq,beq_iff_eq] at hc
     injection h with h;injection h with _ h;rw[←h]
     exact z2r m _ _ _ _ _ hc.2
    ·cases h
   ·cases h
  ·cases h
theorem qz {O:Oracle} (hO:OracleAbove O) {ρ:List AV} {m m':Mem} {op:AOp} {r:AV} (hf:m.floor≤m.stk.length+1) (hs:op.isStore=true→m.floor≤m.stk.length) (h:evOp O ρ m op=some (r,m')):Above m m':=by
 have same: ∀{α:Type} {x:Option α} {f:α→AV},(x.map fun v=>(f v,m))=some (r,m')→Above m m':=by
  intro α x f h
  cases x with
  |none=>simp at h
  |some z=>simp at h;rw[←h.2];exact Above.refl m
 cases op<;>simp only[evOp] at h
 case ext e=>
  cases e<;>simp only[evX] at h
  case bad=>cases h
  case eqA=>
   split at h
   ·split at h
    ·exact same h
    ·cases h
   ·cases h
  case isNil=>exact same h
  case nilChk=>exact same h
  case mkmap=>injection h with h;injection h with _ h;rw[←h];exact jq m _ _ _
  case mget=>
   split at h
   ·split at h
    ·exact same h
    ·cases h
   ·cases h
  case copy=>
   unfold evCopy evCopy0 at h
   split at h
   ·cases h
   ·split at h
    ·split at h
     ·rename_i hc
      simp only[w0e,w31,decide_eq_true_eq,beq_iff_eq] at hc
      split at h
      ·injection h with h;injection h with _ h;rw[←h];exact Above.refl m
      ·injection h with h;injection h with _ h;rw[←h]
       have hs:=hs rfl
       exact kK m _ _ _ _ (by rcases hc.2 with h|h<;>omega)
     ·cases h
    ·cases h
   ·cases h
  case litB=>
   unfold evLitB at h
   split at h
   ·injection h with h;injection h with _ h;rw[←h];exact jq m _ _ _
   ·cases h
  case appB=>
   unfold evAppB newRowB at h
   split at h
   ·split at h
    ·split at h
     ·injection h with h;injection h with _ h;rw[←h];exact jq m _ _ _
     ·cases h
    ·split at h
     ·split at h
      ·injection h with h;injection h with _ h;rw[←h];exact jq m _ _ _
      ·cases h
     ·cases h
    ·exact Ud h
   ·exact Ud h
  case clr=>
   unfold evClr evClr0 at h
   split at h
   ·split at h
    ·split at h
     ·rename_i hc
      simp only[w0e,w31,decide_eq_true_eq,beq_iff_eq] at hc
      split at h
      ·injection h with h;injection h with _ h;rw[←h];exact Above.refl m
      ·injection h with h;injection h with _ h;rw[←h]
       have hs:=hs rfl
       exact kK m _ _ _ _ (by rcases hc.2 with h|h<;>omega)
     ·cases h
    ·cases h
   ·cases h
  case mput=>
   unfold evMput at h
   split at h
   ·split at h
    ·split at h
     ·rename_i hc
      simp only[w0e,w31,decide_eq_true_eq,beq_iff_eq] at hc
      simp only[w02,Prod.mk.injEq] at h
      obtain⟨ps',_,_,h⟩:=h
      rw[←h]
      have hs:=hs rfl
      exact kK m _ _ _ _ (by rcases hc.2 with h|h<;>omega)
     ·cases h
    ·cases h
   ·cases h
  case wload=>
   simp only[w05] at h
   obtain⟨cs,_,h⟩:=h
   exact same h
 case mov=>injection h with h;injection h with _ h;rw[←h];exact Above.refl m
 case pick=>split at h<;>first|(cases h;done)|(injection h with h;injection h with _ h;rw[←h];exact Above.refl m)
 case alloc z=>injection h with h;injection h with _ h;rw[←h];exact jq m _ _ _
 case box n x=>split at h<;>first|(cases h;done)|(injection h with h;injection h with _ h;rw[←h];exact jq m _ _ _)
 case build z ps=>exact same h
 case lit s ps=>split at h<;>first|(cases h;done)|(injection h with h;injection h with _ h;rw[←h];exact Above.refl m)
 case load g n a=>
  simp only[w05] at h
  obtain⟨cs,_,h⟩:=h
  exact same h
 case store n a x=>
  unfold evStore at h
  split at h
  ·split at h
   ·split at h
    ·rename_i hc
     simp only[w0e,w31,decide_eq_true_eq,beq_iff_eq] at hc
     injection h with h;injection h with _ h
     rw[←h]
     have hs:=hs rfl
     exact z8n m _ _ _ _ _ (by rcases hc.2 with h|h<;>omega)
    ·cases h
   ·cases h
  ·cases h
 case bin=>exact same h
 case beq=>split at h<;>first|(cases h;done)|(injection h with h;injection h with _ h;rw[←h];exact Above.refl m)
 case un=>exact same h
 case conv=>split at h<;>first|(cases h;done)|(injection h with h;injection h with _ h;rw[←h];exact Above.refl m)
 case convS=>split at h<;>first|(cases h;done)|(injection h with h;injection h with _ h;rw[←h];exact Above.refl m)
 case toStr=>exact same h
 case toBytes x=>
  split at h
  ·split at h
   ·injection h with h;injection h with _ h;rw[←h];exact Qj m _ _
   ·cases h
  ·cases h
 case mkfn=>injection h with h;injection h with _ h;rw[←h];exact Above.refl m
 case faddr=>exact same h
 case field=>split at h<;>first|(cases h;done)|exact same h
 case iaddr=>exact same h
 case iaddrA=>exact same h
 case indexS=>
  split at h
  ·simp only[w05] at h
   obtain⟨j,_,h⟩:=h
   exact same h
  ·cases h
 case indexA=>
  split at h
  ·simp only[w05] at h
   obtain⟨j,_,h⟩:=h
   exact same h
  ·cases h
 case len=>exact same h
 case lenS=>split at h<;>first|(cases h;done)|(injection h with h;injection h with _ h;rw[←h];exact Above.refl m)
 case app s b x y=>exact Ud h
 case mx=>exact same h
 case mn=>exact same h
 case slice=>exact same h
 case sliceA=>exact same h
 case sliceS=>exact same h
 case make s b z n c=>
  unfold evMake at h
  split at h
  ·split at h
   ·injection h with h;injection h with _ h;rw[←h];exact jq m _ _ _
   ·cases h
  ·cases h
 case extract=>split at h<;>first|(cases h;done)|exact same h
 case call f args=>
  unfold evCall at h
  split at h
  ·exact hO _ _ _ _ _ h hf
  ·cases h
def CallOk (P:Program) (f:Nat) (args:List AV) (m:Mem) (r:AV) (m':Mem):Prop:=
 (∃fn,P.funcs[f]? =some fn∧(fn.name== "runtime.NumGoroutine")=false∧fn.body.isNone=false)∧
 ∀g w vs,Inv g w m→Reps g w args vs→Calls P f vs.toArray w fun e w'=> ∃v g',e= .returned v∧Ext g w g' w'∧Inv g' w' m'∧Rep g' w' r v
def OracleOk (P:Program) (O:Oracle):Prop:= ∀f args m r m',O f args m=some (r,m')→m.floor≤m.stk.length+1→CallOk P (f%1000000) args m r m'
section
variable {P : Program} {g : G} {w : World} {a : Act} {o : Oper} {ops : Array Oper} {ds : List Nat} {Q : Exit → Act → World → Prop} {K : Act → World → Prop}
theorem Reps.set {ρ:List AV} {vs:List Value} (h:Reps g w ρ vs) {r:AV} {v:Value} (k:Rep g w r v) (d:Nat):Reps g w (ρ.set d r) (vs.set d v):=by
 refine⟨by simp[h.1],fun j c u h1 h2=> ?_⟩
 rw[w36] at h1 h2
 split at h1
 ·rename_i hd
  rw[if_pos hd] at h2
  split at h1
  ·split at h2
   ·injection h1 with h1;injection h2 with h2;subst h1;subst h2;exact k
   ·cases h2
  ·cases h1
 ·rename_i hd
  rw[if_neg hd] at h2
  exact h.2 j c u h1 h2
theorem z5N {ρ:List AV} (h:Reps g w ρ a.tmps.toList) {r:AV} {v:Value} (k:Rep g w r v) (d:Option Nat):Reps g w (setDst ρ d r) (a.put d v).tmps.toList:=by
 cases d with
 |none=>exact h
 |some d=>
  simp only[setDst,Act.put,Array.toList_setIfInBounds]
  exact h.set k d
theorem vS (d:Option Nat) (v:Value):(a.put d v).defers=a.defers:=by cases d<;>rfl
theorem zap {x:Operand} {y0 y:Opd} {ρ:List AV} (hR:Reps g w ρ a.tmps.toList) (hx:compOpd x=some y0) (hv:VarOf y0 y) {f:Nat} {first caps:List AV} (h:y.ev ρ= .fn (.func f) first caps):
  ∃f1 c1:List Value,a.eval x= .func (.func (f%1000000)) f1.toArray c1.toArray∧Reps g w first f1∧Reps g w caps c1:=by
 have key: ∃f0:Nat,y0.ev ρ= .fn (.func f0) first caps∧f0%1000000=f%1000000:=by
  rcases hv with rfl|⟨n,p,q,rfl,rfl⟩
  ·exact⟨f,h,rfl⟩
  ·simp only[Opd.ev] at h⊢
   injection h with h1 h2 h3
   injection h1 with h1
   subst h1;subst h2;subst h3
   exact⟨n,rfl,by omega⟩
 obtain⟨f0,h0,hm⟩:=key
 have h1:=ze hR hx
 rw[h0] at h1
 generalize a.eval x=v at h1
 cases h1 with
 |fn _ _ _ first' caps' a1 a2 a3 a4=>
  exact⟨first'.toList,caps'.toList,by simp[fnBase,hm],⟨by simpa using a1,fun j c v h1 h2=>a3 j c v h1 (by simpa using h2)⟩,⟨by simpa using a2,fun j c v h1 h2=>a4 j c v h1 (by simpa using h2)⟩⟩
theorem YM {ao:AOper} (hc:compOper P ds ops o=some ao) {ρ:List AV} (hR:Reps g w ρ a.tmps.toList) {b:Bool} (h:wanted ρ ao.guard=some b):Region.wanted o (yielded ops a.tmps)=b:=by
 unfold compOper at hc
 split at hc
 ·rename_i op gd _ hg
  injection hc with hc
  subst hc
  simp only at h
  unfold compGuard at hg
  split at hg
  ·rename_i hgd
   injection hg with hg;subst hg
   simp only[wanted,Option.some.injEq] at h
   subst h
   simp[Region.wanted,hgd]
  ·rename_i j want hgd
   split at hg
   ·rename_i d hd
    injection hg with hg;subst hg
    simp only[wanted] at h
    have hy:yielded ops a.tmps j=match a.tmps[d]? with|some (.bool b)=>some b|_=>none:=by
     unfold yielded
     rw[hd]
     rfl
    simp only[Region.wanted,hgd,hy]
    rw[w00] at h
    cases hρ:ρ[d]? with
    |none=>rw[hρ] at h;simp at h
    |some x=>
     obtain⟨v,h1,h2⟩:=hR.get hρ
     have h1':a.tmps[d]? =some v:=by simpa using h1
     rw[hρ] at h
     simp only[w2a] at h
     split at h
     ·injection h with h
      rw[h1',h2.inv_bool]
      simpa using h
     ·injection h with h
      subst h
      rw[h1']
      obtain⟨us,rfl,_⟩:=Reps.of_tup h2
      rfl
     ·cases h
   ·cases hg
 ·cases hc
end
section
variable {P : Program} {g : G} {w : World} {a : Act} {o : Oper} {ops : Array Oper} {ds : List Nat} {Q : Exit → Act → World → Prop} {K : Act → World → Prop}
theorem z6U {f:Opd} {l:List Opd} (hc:compOp P ds o=some (.call f l)): ∃c x xs f0,o.op= .call c∧c.callee= .value x∧c.args.toList=xs∧compOpd x=some f0∧VarOf f0 f∧compOpds xs=some l:=by
 obtain⟨f0,hvar,hc⟩: ∃f0,VarOf f0 f∧compOp0 P o=some (.call f0 l):=by
  unfold compOp at hc
  rw[w02] at hc
  obtain⟨op1,hc,hm⟩:=hc
  obtain⟨f0,rfl,hvar⟩:=z6f hm
  refine⟨f0,hvar,?_⟩
  unfold compOp1 at hc
  split at hc
  ·cases hc
  ·split at hc
   ·rename_i h0;injection hc with hc;rw[h0,hc]
   ·split at hc<;>cases hc
 unfold compOp0 at hc
 split at hc
 case h_21=>
  rename_i c hop
  unfold compCall at hc
  split at hc
  ·rename_i x hcal
   split at hc
   ·rename_i y l' hx hl
    injection hc with hc
    injection hc with h1 h2
    subst h1;subst h2
    exact⟨c,x,_,_,hop,hcal,rfl,hx,hvar,hl⟩
   ·cases hc
  ·cases hc
  ·exfalso
   repeat' (first|(cases hc;done)|(simp at hc;done)|(split at hc)|(simp only[w05,w02] at hc;obtain⟨_,_,hc⟩:=hc))
 all_goals
  exfalso
  repeat' (first|(cases hc;done)|(simp at hc;done)|(split at hc)|(simp only[w05,w02] at hc;obtain⟨_,_,hc⟩:=hc))
def Goes (g:G) (w:World) (a:Act) (ρ:List AV) (m:Mem) (K:Act→World→Prop):Prop:=
 ∀g' a' w',Ext g w g' w'→Inv g' w' m→Reps g' w' ρ a'.tmps.toList→a'.defers=a.defers→K a' w'
theorem z8P {O:Oracle} (hO:OracleOk P O) {op:AOp} (hc:compOp P ds o=some op) {ρ:List AV} {m m':Mem} {r:AV} (hf:m.floor≤m.stk.length+1) (he:evOp O ρ m op=some (r,m')) (hR:Reps g w ρ a.tmps.toList) (I:Inv g w m)
  (hK: ∀g' w' v,Ext g w g' w'→Inv g' w' m'→Rep g' w' r v→K (a.put o.dst v) w'):o.wp P a w K Q:=by
 by_cases hnc: ∃f l,op= .call f l
 ·obtain⟨f,l,rfl⟩:=hnc
  have hcall:=z6U hc
  obtain⟨c,x,xs,f0,hop,hcal,rfl,hx,hvar,hl⟩:=hcall
  simp only[evOp,evCall] at he
  split at he
  ·rename_i fid first caps hfe
   obtain⟨f1,c1,hv,k1,k2⟩:=zap hR hx hvar hfe
   have k3:=jl hR hl
   obtain⟨⟨fn,hfn,hname,hbody⟩,hcalls⟩:=hO _ _ _ _ _ he hf
   have hargs:Reps g w (first++l.map (fun p=>p.ev ρ)++caps) (f1++c.args.toList.map a.eval++c1):=(k1.append k3).append k2
   have hrun:(execOp a.eval o).run P w= .ok (.enter (fid%1000000) (f1++c.args.toList.map a.eval++c1).toArray) w:=by
    have harr:(f1.toArray++c.args.map a.eval++c1.toArray)=(f1++c.args.toList.map a.eval++c1).toArray:=by
     apply Array.ext';simp
    simp only[execOp,hop,resolve,hcal,hv,Deferred.ofValue,Sem.run_bind,Sem.run_pure,Result.andThen_ok,invoke,callFunc,run_program,hfn,hname,hbody,w28,if_false]
    rw[←harr]
   unfold Oper.wp
   rw[hrun,Oper.upon_enter]
   refine(hcalls g w _ I hargs).mono fun e w' ⟨v,g',he',hx1,hI,hr⟩=> ?_
   subst he'
   exact hK g' w' v hx1 hI hr
  ·cases he
 ·have hnc': ∀f l,op≠ .call f l:=fun f l h=>hnc ⟨f,l,h⟩
  obtain⟨g',w',v,hrun,hx,hI,hr⟩:=z7Y hc hnc' hR I he
  unfold Oper.wp
  rcases hrun with hrun|⟨hrun,rfl⟩
  ·rw[hrun,Oper.upon_value]
   exact hK g' w' v hx hI hr
  ·rw[hrun,Oper.upon_skip]
   exact hK g' w' _ hx hI hr
theorem zcW {O:Oracle} (hO:OracleOk P O) {ao:AOper} (hc:compOper P ds ops o=some ao) {σ σ':St} (hf:σ.m.floor≤σ.m.stk.length+1) (he:evOper O ao σ=some σ') (hR:Reps g w σ.ρ a.tmps.toList) (I:Inv g w σ.m)
  (hK:Goes g w a σ'.ρ σ'.m K):if Region.wanted o (yielded ops a.tmps) then o.wp P a w K Q else K (a.put o.dst undef) w:=by
 have hdst:ao.dst=o.dst∧compOp P ds o=some ao.op:=by
  unfold compOper at hc
  split at hc
  ·rename_i op gd h1 _
   injection hc with hc
   subst hc
   exact⟨rfl,h1⟩
  ·cases hc
 unfold evOper at he
 split at he
 ·rename_i hw
  rw[YM hc hR hw,if_pos rfl]
  simp only[w02] at he
  obtain⟨⟨r,m'⟩,h1,rfl⟩:=he
  refine z8P hO hdst.2 hf h1 hR I fun g' w' v hx hI hr=>hK g' _ w' hx hI ?_ (vS _ _)
  rw[hdst.1]
  exact z5N (hR.mono hx) hr _
 ·rename_i hw
  rw[YM hc hR hw,if_neg (by simp)]
  injection he with he
  subst he
  refine hK g _ w (Ext.refl g w) I ?_ (vS _ _)
  simp only
  rw[hdst.1]
  exact z5N hR (xT g w) _
 ·cases he
theorem kp {O:Oracle} (hO:OracleAbove O) {ao:AOper} {σ σ':St} (hf:σ.m.floor≤σ.m.stk.length+1) (hs:ao.op.isStore=true→σ.m.floor≤σ.m.stk.length) (he:evOper O ao σ=some σ'):Above σ.m σ'.m:=by
 unfold evOper at he
 split at he
 ·simp only[w02] at he
  obtain⟨⟨r,m'⟩,h1,rfl⟩:=he
  exact qz hO hf hs h1
 ·injection he with he;subst he;exact Above.refl _
 ·cases he
theorem z0m {O:Oracle} (hO:OracleAbove O): ∀{l:List AOper} {σ σ':St},σ.m.floor≤σ.m.stk.length→evOps O l σ=some σ'→Above σ.m σ'.m
 | [],σ,σ',_,h=>by simp[evOps] at h;rw[h];exact Above.refl _
 |o::l,σ,σ',hf,h=>by
  simp only[evOps,w05] at h
  obtain⟨σ1,h1,h2⟩:=h
  have k1:=kp hO (by omega) (fun _=>hf) h1
  exact k1.trans (z0m hO (by rw[k1.len,k1.floor];exact hf) h2)
theorem zbc {O:Oracle} (hO:OracleOk P O) (hA:OracleAbove O): ∀{l:List Oper} {al:List AOper} {i:Nat} {σ σ':St} {g:G} {w:World} {a:Act},compOpers P ds ops i l=some al→σ.m.floor≤σ.m.stk.length→
  evOps O al σ=some σ'→Reps g w σ.ρ a.tmps.toList→Inv g w σ.m→Goes g w a σ'.ρ σ'.m (Q .normal)→wpList P ops Q l a w
 | [],al,i,σ,σ',g,w,a,hc,_,he,hR,I,hK=>by
  simp[compOpers] at hc;subst hc
  simp[evOps] at he;subst he
  exact hK g a w (Ext.refl g w) I hR rfl
 |o::l,al,i,σ,σ',g,w,a,hc,hf,he,hR,I,hK=>by
  simp only[compOpers] at hc
  split at hc
  ·rename_i ao al' h1 h2
   injection hc with hc;subst hc
   simp only[evOps,w05] at he
   obtain⟨σ1,h3,h4⟩:=he
   have k1:=kp hA (by omega) (fun _=>hf) h3
   refine wpList_step fun K hKK=>zcW hO h1 (by omega) h3 hR I fun g' a' w' hx hI hR' hd=> ?_
   exact hKK a' w' (zbc hO hA h2 (by rw[k1.len,k1.floor];exact hf) h4 hR' hI fun g2 a2 w2 hx2 hI2 hR2 hd2=>hK g2 a2 w2 (hx.trans hx2) hI2 hR2 (hd2.trans hd))
  ·cases hc
end
theorem z3O (acc:List Nat) (i:Nat): ∀(l:List Edge) (s:Nat),(l.foldl (fun s e=>if Region.binds .any e then s|||2^e.on|||acc.getD e.on 0 else s) s).testBit i=true→
  s.testBit i=true∨ ∃e∈l,Region.binds .any e=true∧(i=e.on∨(acc.getD e.on 0).testBit i=true)
 | [],s,h=> .inl h
 |e::l,s,h=>by
  rw[List.foldl_cons] at h
  rcases z3O acc i l _ h with h|⟨e',he',hb,hi⟩
  ·split at h
   ·rename_i hb
    rw[Nat.testBit_or,Nat.testBit_or,w31,w31] at h
    rcases h with (h|h)|h
    ·exact .inl h
    ·rw[Nat.testBit_two_pow] at h
     simp at h
     exact .inr ⟨e,w1c,hb,.inl h.symm⟩
    ·exact .inr ⟨e,w1c,hb,.inr h⟩
   ·exact .inl h
  ·exact .inr ⟨e',w18 _ he',hb,hi⟩
theorem Xt: ∀(l:List Oper) (acc:List Nat),(masks l acc).take acc.length=acc∧(masks l acc).length=acc.length+l.length
 | [],acc=>by simp[masks]
 |o::l,acc=>by
  obtain⟨h1,h2⟩:=Xt l (acc++[maskOf acc o])
  simp only[masks]
  refine⟨?_,by rw[h2];simp;omega⟩
  have:(masks l (acc++[maskOf acc o])).take acc.length=((masks l (acc++[maskOf acc o])).take (acc++[maskOf acc o]).length).take acc.length:=by
   rw[List.take_take];congr 1;simp
  rw[this,h1]
  simp
theorem z3C: ∀(l:List Oper) (acc:List Nat) (k:Nat) (o:Oper),l[k]? =some o→(masks l acc)[acc.length+k]? =some (maskOf ((masks l acc).take (acc.length+k)) o)
 | [],_,_,_,h=>by simp at h
 |o'::l,acc,0,o,h=>by
  simp at h;subst h
  simp only[masks,Nat.add_zero]
  obtain⟨h1,_⟩:=Xt l (acc++[maskOf acc o'])
  have h2:(masks l (acc++[maskOf acc o'])).take acc.length=acc:=(Xt (o'::l) acc).1
  rw[h2]
  have h3:((masks l (acc++[maskOf acc o'])).take (acc++[maskOf acc o']).length)[acc.length]? =(masks l (acc++[maskOf acc o']))[acc.length]? :=by
   rw[w2b,if_pos (by simp)]
  rw[←h3,h1]
  simp
 |o'::l,acc,k+1,o,h=>by
  simp only[masks]
  have:=z3C l (acc++[maskOf acc o']) k o (by simpa using h)
  rw[show(acc++[maskOf acc o']).length+k=acc.length+(k+1) by simp;omega] at this
  exact this
def Closed (ops:Array Oper) (X:Nat→Bool):Prop:= ∀(j:Nat) (o:Oper),ops[j]? =some o→X j=true→ ∀e∈o.after,Region.binds .any e=true→X e.on=true
theorem z88 {ops:Array Oper} {X:Nat→Bool} (hX:Closed ops X): ∀(j i:Nat),X j=true→((masks ops.toList []).getD j 0).testBit i=true→X i=true:=by
 intro j
 induction j using Nat.strongRecOn with
 |_ j ih=>
  intro i hj hb
  cases ho:ops[j]? with
  |none=>
   have:(masks ops.toList [])[j]? =none:=by
    rw[List.getElem?_eq_none_iff,(Xt ops.toList []).2]
    simpa using ho
   rw[w00,this] at hb
   simp at hb
  |some o=>
   have hm:=z3C ops.toList [] j o (by simpa using ho)
   simp only[w34,w39] at hm
   rw[w00,hm,w2a] at hb
   rcases z3O _ i _ _ hb with h|⟨e,he,hbd,hi⟩
   ·simp at h
   ·have hXe:=hX j o ho hj e (by simpa using he) hbd
    rcases hi with rfl|hi
    ·exact hXe
    ·by_cases hlt:e.on<j
     ·refine ih e.on hlt i hXe ?_
      rw[w00,w2b,if_pos hlt] at hi
      rw[w00];exact hi
     ·rw[w00,w2b,if_neg hlt] at hi
      simp at hi
theorem tq {ops:Array Oper} {X:Nat→Bool} (hX:Closed ops X) {i j:Nat} (hij:i<j) (h:ordered (masks ops.toList []) i j=true∨ordered (masks ops.toList []) j i=true) (hj:X j=true):X i=true:=by
 unfold ordered at h
 rw[Nat.max_eq_right (by omega),Nat.min_eq_left (by omega),Nat.max_eq_left (by omega),Nat.min_eq_right (by omega)] at h
 rcases h with h|h<;>exact z88 hX j i hj h
theorem T9 {ρ ρ':List AV}: ∀{ps:List (Nat×Nat×Opd)} {z:List AV},(∀y∈ps.map (fun p=>p.2.2),y.ev ρ=y.ev ρ')→evBuild z ρ ps=evBuild z ρ' ps
 | [],_,_=>rfl
 |(off,n,x)::r,z,h=>by
  have hx:x.ev ρ=x.ev ρ':=h x (by simp)
  simp only[evBuild,hx]
  split
  ·exact T9 fun y hy=>h y (by simp only[w35];exact w18 _ hy)
  ·rfl
theorem z7Z {O:Oracle} {ρ ρ':List AV} {m:Mem} {op:AOp} (h: ∀y∈op.reads,y.ev ρ=y.ev ρ'):evOp O ρ m op=evOp O ρ' m op:=by
 have lst: ∀{l:List Opd},(∀y∈l,y.ev ρ=y.ev ρ')→(l.map fun p=>p.ev ρ)=l.map fun p=>p.ev ρ':=fun hl=>List.map_congr_left hl
 have opt: ∀{x:Option Opd},(∀y∈x.toList,y.ev ρ=y.ev ρ')→(x.map fun p=>p.ev ρ)=x.map fun p=>p.ev ρ':=by
  intro x hx
  cases x with
  |none=>rfl
  |some y=>simp only[w0d];rw[hx y (by simp)]
 cases op<;>simp only[AOp.reads] at h<;>simp only[evOp]
 case build z ps=>rw[T9 h]
 case ext e=>
  cases e<;>simp only[XOp.reads] at h<;>simp only[evX]
  case eqA n s ls x y=>rw[h x (by simp),h y (by simp)]
  case isNil n kd x=>rw[h x (by simp)]
  case wload g n x=>rw[h x (by simp)]
  case nilChk x=>rw[h x (by simp)]
  case mget kk z x k=>rw[h x (by simp),h k (by simp)]
  case copy s d x=>rw[h d (by simp),h x (by simp)]
  case litB s ps=>rw[lst h]
  case clr z x=>rw[h x (by simp)]
  case appB s b x y=>rw[h x (by simp),h y (by simp)]
  case mput kk x k v=>rw[h x (by simp),h k (by simp),h v (by simp)]
 case lit s ps=>rw[lst h]
 case mkfn f x y=>rw[lst fun y hy=>h y (w3c _ hy),lst fun y hy=>h y (w46 _ hy)]
 case slice s x lo hi top=>
  rw[h x (by simp),opt fun y hy=>h y (by simp only[w32,w0a];simp[hy]),opt fun y hy=>h y (by simp only[w32,w0a];simp[hy]),opt fun y hy=>h y (by simp only[w32,w0a];simp[hy])]
 case sliceA n s x lo hi=>
  rw[h x (by simp),opt fun y hy=>h y (by simp only[w32,w0a];simp[hy]),opt fun y hy=>h y (by simp only[w32,w0a];simp[hy])]
 case sliceS x lo hi=>
  rw[h x (by simp),opt fun y hy=>h y (by simp only[w32,w0a];simp[hy]),opt fun y hy=>h y (by simp only[w32,w0a];simp[hy])]
 case call f args=>rw[h f (by simp),lst fun y hy=>h y (w18 _ hy)]
 case pick c x y=>rw[h c (by simp),h x (by simp),h y (by simp)]
 case store n x y=>rw[h x (by simp),h y (by simp)]
 case bin b x y=>rw[h x (by simp),h y (by simp)]
 case beq b x y=>rw[h x (by simp),h y (by simp)]
 case iaddr s x y=>rw[h x (by simp),h y (by simp)]
 case iaddrA n s x y=>rw[h x (by simp),h y (by simp)]
 case indexS x y=>rw[h x (by simp),h y (by simp)]
 case indexA n s b x y=>rw[h x (by simp),h y (by simp)]
 case app s b x y=>rw[h x (by simp),h y (by simp)]
 case mx x y=>rw[h x (by simp),h y (by simp)]
 case mn x y=>rw[h x (by simp),h y (by simp)]
 case make s b z x y=>rw[h x (by simp),h y (by simp)]
 case mov x=>rw[h x (by simp)]
 case un u x=>rw[h x (by simp)]
 case conv k x=>rw[h x (by simp)]
 case convS x=>rw[h x (by simp)]
 case toStr x=>rw[h x (by simp)]
 case toBytes x=>rw[h x (by simp)]
 case faddr n x=>rw[h x (by simp)]
 case field b n f x=>rw[h x (by simp)]
 case box n x=>rw[h x (by simp)]
 case load b n x=>rw[h x (by simp)]
 case len x=>rw[h x (by simp)]
 case lenS x=>rw[h x (by simp)]
 case extract x i=>rw[h x (by simp)]
theorem z3U {O:Oracle} {ρ:List AV} {m m':Mem} {op:AOp} {r:AV} (hk:op.kind=0) (h:evOp O ρ m op=some (r,m')):m'=m∧ ∀m2,evOp O ρ m2 op=some (r,m2):=by
 have same: ∀{x:Option AV},(x.map fun v=>(v,m))=some (r,m')→m'=m∧ ∀m2:Mem,(x.map fun v=>(v,m2))=some (r,m2):=by
  intro x h
  cases x with
  |none=>simp at h
  |some z=>simp at h;obtain⟨rfl,rfl⟩:=h;exact⟨rfl,fun _=>rfl⟩
 cases op<;>simp only[AOp.kind] at hk<;>first|(cases hk;done)|skip
 case mov x=>simp only[evOp,Option.some.injEq,Prod.mk.injEq] at h;obtain⟨rfl,rfl⟩:=h;exact⟨rfl,fun _=>rfl⟩
 case pick c x y=>
  simp only[evOp] at h⊢
  split at h
  ·simp only[Option.some.injEq,Prod.mk.injEq] at h;obtain⟨rfl,rfl⟩:=h;exact⟨rfl,fun _=>rfl⟩
  ·cases h
 case build z ps=>
  simp only[evOp,w02,Prod.mk.injEq] at h⊢
  obtain⟨cs,h1,rfl,rfl⟩:=h
  exact⟨rfl,fun _=>⟨cs,h1,rfl,trivial⟩⟩
 case lit s ps=>
  simp only[evOp] at h⊢
  split at h
  ·rename_i hc
   simp only[Option.some.injEq,Prod.mk.injEq] at h;obtain⟨rfl,rfl⟩:=h;exact⟨rfl,fun _=>by rw[if_pos hc]⟩
  ·cases h
 case bin b x y=>exact same h
 case beq b x y=>
  simp only[evOp] at h⊢
  split at h
  ·simp only[Option.some.injEq,Prod.mk.injEq] at h;obtain⟨rfl,rfl⟩:=h;exact⟨rfl,fun _=>rfl⟩
  ·cases h
 case un u x=>exact same h
 case conv k x=>
  simp only[evOp] at h⊢
  split at h
  ·simp only[Option.some.injEq,Prod.mk.injEq] at h;obtain⟨rfl,rfl⟩:=h;exact⟨rfl,fun _=>rfl⟩
  ·cases h
 case convS x=>
  simp only[evOp] at h⊢
  split at h
  ·simp only[Option.some.injEq,Prod.mk.injEq] at h;obtain⟨rfl,rfl⟩:=h;exact⟨rfl,fun _=>rfl⟩
  ·cases h
 case ext e=>
  cases e<;>simp only[evOp,evX] at h⊢
  case bad=>cases h
  case wload=>cases hk
  case eqA n s ls x y=>
   split at h
   ·split at h
    ·rename_i hc
     simp only[w02,Prod.mk.injEq] at h
     obtain⟨b,h1,rfl,rfl⟩:=h
     refine⟨rfl,fun m2=> ?_⟩
     rw[if_pos hc,h1];rfl
    ·cases h
   ·cases h
  case isNil n kd x=>
   simp only[w02,Prod.mk.injEq] at h
   obtain⟨b,h1,rfl,rfl⟩:=h
   exact⟨rfl,fun m2=>by rw[h1];rfl⟩
  case nilChk x=>
   simp only[w02,Prod.mk.injEq] at h
   obtain⟨b,h1,rfl,rfl⟩:=h
   exact⟨rfl,fun m2=>by rw[h1];rfl⟩
  case mkmap=>cases hk
  case mget=>cases hk
  case mput=>cases hk
  case copy=>cases hk
  case litB=>cases hk
  case clr=>cases hk
  case appB=>cases hk
 case mkfn f x y=>simp only[evOp,Option.some.injEq,Prod.mk.injEq] at h;obtain⟨rfl,rfl⟩:=h;exact⟨rfl,fun _=>rfl⟩
 case faddr n x=>exact same h
 case field b n f x=>
  simp only[evOp] at h⊢
  split at h
  ·exact same h
  ·cases h
 case iaddr s x y=>exact same h
 case iaddrA n s x y=>exact same h
 case indexS x y=>
  simp only[evOp] at h⊢
  split at h
  ·simp only[w05,w02,Prod.mk.injEq] at h⊢
   obtain⟨j,h1,c,h2,rfl,rfl⟩:=h
   exact⟨rfl,fun _=>⟨j,h1,c,h2,rfl,trivial⟩⟩
  ·cases h
 case indexA n s b x y=>
  simp only[evOp] at h⊢
  split at h
  ·simp only[w05,w02,Prod.mk.injEq] at h⊢
   obtain⟨j,h1,c,h2,rfl,rfl⟩:=h
   exact⟨rfl,fun _=>⟨j,h1,c,h2,rfl,trivial⟩⟩
  ·cases h
 case len x=>exact same h
 case lenS x=>
  simp only[evOp] at h⊢
  split at h
  ·simp only[Option.some.injEq,Prod.mk.injEq] at h;obtain⟨rfl,rfl⟩:=h;exact⟨rfl,fun _=>rfl⟩
  ·cases h
 case mx x y=>exact same h
 case mn x y=>exact same h
 case slice s x lo hi top=>exact same h
 case sliceA n s x lo hi=>exact same h
 case sliceS x lo hi=>exact same h
 case extract x i=>
  simp only[evOp] at h⊢
  split at h
  ·exact same h
  ·cases h
theorem z3V {O:Oracle} {ρ:List AV} {m m':Mem} {op:AOp} {r:AV} (hk:op.kind≤1) (h:evOp O ρ m op=some (r,m')):m'=m∧ ∀m2:Mem,(∀l k st cs,m.blk l k st=some cs→m2.blk l k st=some cs)→evOp O ρ m2 op=some (r,m2):=by
 by_cases h0:op.kind=0
 ·obtain⟨h1,h2⟩:=z3U h0 h
  exact⟨h1,fun m2 _=>h2 m2⟩
 ·have:op.kind=1:=by omega
  cases op<;>simp only[AOp.kind] at this<;>first|(cases this;done)|skip
  case ext e=>
   cases e<;>first|(cases this;done)|skip
   rename_i b n x
   simp only[evOp,evX,w05,w02,Prod.mk.injEq] at h⊢
   obtain⟨cs,h1,v,h2,rfl,rfl⟩:=h
   refine⟨rfl,fun m2 hm=>⟨cs,?_,v,h2,rfl,trivial⟩⟩
   unfold Mem.at at h1⊢
   split at h1
   ·simp only[w02] at h1⊢
    obtain⟨c0,h3,h4⟩:=h1
    exact⟨c0,hm _ _ _ _ h3,h4⟩
   ·exact h1
   ·cases h1
  case toStr x=>
   simp only[evOp,w02,Prod.mk.injEq] at h⊢
   obtain⟨v,h1,rfl,rfl⟩:=h
   refine⟨rfl,fun m2 hm=>⟨v,?_,rfl,trivial⟩⟩
   unfold evToStr evToStr0 at h1⊢
   split at h1
   ·exact h1
   ·exact h1
   ·split at h1
    ·rename_i hb
     rw[hm _ _ _ _ hb];exact h1
    ·cases h1
   ·cases h1
  rename_i b n x
  simp only[evOp,w05,w02,Prod.mk.injEq] at h⊢
  obtain⟨cs,h1,v,h2,rfl,rfl⟩:=h
  refine⟨rfl,fun m2 hm=>⟨cs,?_,v,h2,rfl,trivial⟩⟩
  unfold Mem.at at h1⊢
  split at h1
  ·simp only[w02] at h1⊢
   obtain⟨c0,h3,h4⟩:=h1
   exact⟨c0,hm _ _ _ _ h3,h4⟩
  ·exact h1
  ·cases h1
section
variable {P : Program} {g : G} {w : World} {a : Act} {o : Oper} {ds : List Nat} {ops : Array Oper}
theorem z3I {O:Oracle} {op:AOp} (hA:kindA op=true) {ρ:List AV} {m m':Mem} {r:AV} (he:evOp O ρ m op=some (r,m')): ∃cs,m'={m with cur:=m.cur++[⟨m.nx,cs⟩],nx:=m.nx+1}:=by
 cases op<;>simp only[kindA,w28] at hA
 case alloc z=>simp only[evOp,Mem.new,Option.some.injEq,Prod.mk.injEq] at he;exact⟨_,he.2.symm⟩
 case box n x=>
  simp only[evOp] at he
  split at he
  ·simp only[Mem.new,Option.some.injEq,Prod.mk.injEq] at he;exact⟨_,he.2.symm⟩
  ·cases he
 case make s b z n c=>
  simp only[evOp,evMake] at he
  split at he
  ·split at he
   ·simp only[Option.some.injEq,Prod.mk.injEq] at he;exact⟨_,he.2.symm⟩
   ·cases he
  ·cases he
theorem YH {op:AOp} (h:compOp P ds o=some op) (hne: ∀e,op≠ .ext e) (hn2: ∀f l,op≠ .call f l:=by intro f l h;cases h):compOp0 P o=some op:=by
 unfold compOp at h
 rw[w02] at h
 obtain⟨op1,h,hm⟩:=h
 have:=z6e hm hne hn2
 subst this
 unfold compOp1 at h
 split at h
 ·injection h with h;exact absurd h.symm (hne _)
 ·split at h
  ·rename_i h0;injection h with h;rw[h0,h]
  ·split at h
   ·cases h
   ·injection h with h;exact absurd h.symm (hne _)
theorem z3d {z:List AV} (h:compOp0 P o=some (.alloc z)): ∃e v,o.op= .alloc e∧zeroT P e=some v∧0<v.cells.length∧z=v.cells:=by
 unfold compOp0 at h
 split at h
 case h_4=>
  rename_i e hop
  simp only[w05] at h
  obtain⟨v,hv,h⟩:=h
  split at h
  ·rename_i hp
   injection h with h
   injection h with h
   exact⟨e,v,hop,hv,hp,h.symm⟩
  ·cases h
 case h_21=>
  exfalso
  unfold compCall at h
  repeat' (first|(cases h;done)|(simp at h;done)|(split at h)|(simp only[w05,w02] at h;obtain⟨_,_,h⟩:=h))
 all_goals
  exfalso
  repeat' (first|(cases h;done)|(simp at h;done)|(split at h)|(simp only[w05,w02] at h;obtain⟨_,_,h⟩:=h))
theorem z6V {n:Nat} {y:Opd} (h:compOp0 P o=some (.box n y)): ∃e x,o.op= .box e x∧compOpd x=some y∧0<n:=by
 unfold compOp0 at h
 split at h
 case h_5=>
  rename_i e x hop
  split at h
  ·rename_i n' a' hn hx
   split at h
   ·rename_i hp
    injection h with h
    injection h with h1 h2
    subst h1;subst h2
    exact⟨e,x,hop,hx,hp⟩
   ·cases h
  ·cases h
 case h_21=>
  exfalso
  unfold compCall at h
  repeat' (first|(cases h;done)|(simp at h;done)|(split at h)|(simp only[w05,w02] at h;obtain⟨_,_,h⟩:=h))
 all_goals
  exfalso
  repeat' (first|(cases h;done)|(simp at h;done)|(split at h)|(simp only[w05,w02] at h;obtain⟨_,_,h⟩:=h))
theorem z57 {s b:Nat} {z:List AV} {n c:Opd} (h:compOp0 P o=some (.make s b z n c)):
  ∃t e x y ti v,o.op= .makeSlice t x y∧compOpd x=some n∧compOpd y=some c∧P.underlying t=some (.slice e)∧P.info? e=some ti∧zeroT P e=some v∧0<ti.size∧(ti.zero.map fun z=>z.cells.size)=some ti.size∧s=ti.size∧b=ti.bytes∧z=v.cells:=by
 unfold compOp0 at h
 split at h
 case h_19=>
  rename_i t x y hop
  split at h
  ·rename_i e ht
   split at h
   ·rename_i ti v n' c' hi hz hn hc
    split at h
    ·rename_i hp
     injection h with h
     injection h with h1 h2 h3 h4 h5
     subst h1;subst h2;subst h3;subst h4;subst h5
     exact⟨t,e,x,y,ti,v,hop,hn,hc,ht,hi,hz,hp.1,hp.2,rfl,rfl,rfl⟩
    ·cases h
   ·cases h
  ·cases h
 case h_21=>
  exfalso
  unfold compCall at h
  repeat' (first|(cases h;done)|(simp at h;done)|(split at h)|(simp only[w05,w02] at h;obtain⟨_,_,h⟩:=h))
 all_goals
  exfalso
  repeat' (first|(cases h;done)|(simp at h;done)|(split at h)|(simp only[w05,w02] at h;obtain⟨_,_,h⟩:=h))
theorem z3c {n:Nat} {y u:Opd} (h:compOp0 P o=some (.store n y u)): ∃t x z,o.op= .store t x z∧compOpd x=some y∧compOpd z=some u:=by
 unfold compOp0 at h
 split at h
 case h_9=>
  rename_i t x z hop
  split at h
  ·rename_i n' x' z' hn hx hz
   split at h
   ·injection h with h
    injection h with h1 h2 h3
    subst h1;subst h2;subst h3
    exact⟨t,x,z,hop,hx,hz⟩
   ·cases h
  ·cases h
 case h_21=>
  exfalso
  unfold compCall at h
  repeat' (first|(cases h;done)|(simp at h;done)|(split at h)|(simp only[w05,w02] at h;obtain⟨_,_,h⟩:=h))
 all_goals
  exfalso
  repeat' (first|(cases h;done)|(simp at h;done)|(split at h)|(simp only[w05,w02] at h;obtain⟨_,_,h⟩:=h))
theorem z7I {O:Oracle} {op:AOp} (hc:compOp P ds o=some op) (hA:kindA op=true) {ρ:List AV} {m m' M:Mem} {r:AV} {cs:List AV} (he:evOp O ρ m op=some (r,m')) (hm:m'={m with cur:=m.cur++[⟨m.nx,cs⟩],nx:=m.nx+1})
  (hR:Reps g w ρ a.tmps.toList) (I:Inv g w M) (hin: ∀bl∈M.all,bl.st=m.nx→bl.cs=cs) (hrs:g.rs m.nx=true):
  ∃g' w' v,(execOp a.eval o).run P w= .ok (.value v) w'∧ExtW g w g' w'∧Inv g' w' M∧Rep g' w' r v∧g'.rs=fun s=>g.rs s&&s !=m.nx:=by
 have csEq: ∀{cs':List AV},m'={m with cur:=m.cur++[⟨m.nx,cs'⟩],nx:=m.nx+1}→cs'=cs:=by
  intro cs' h
  rw[hm] at h
  have:=congrArg Mem.cur h
  simp only[List.append_cancel_left_eq,List.cons.injEq,Blk.mk.injEq,true_and,and_true] at this
  exact this.symm
 cases op<;>simp only[kindA,w28] at hA
 case alloc z=>
  obtain⟨e,v,hop,hz,hz0,rfl⟩:=z3d (YH hc (by simp))
  simp only[evOp,Mem.new,Option.some.injEq,Prod.mk.injEq] at he
  obtain⟨rfl,he2⟩:=he
  have:=csEq he2.symm
  subst this
  obtain⟨u,h1,h2⟩:=Zh hz w
  have h3:=(vf (g:=g) (w:=w) h2).cells hz0
  obtain⟨g',k1,k2,k3,k4⟩:=I.alloc_late v.cells u.cells.toList e hin hrs h3
  refine⟨g',_,.pointer (some ⟨w.heap.size,0,none⟩),?_,k1,k2,?_,k4⟩
  ·simp[execOp,hop,Instr.alloc,h1,newVar,newRow]
  ·have:=Rep.ptr (g:=g') (w:=w.alloc (.cells u.cells.toList.toArray e)) m.stk.length m.cur.length m.nx 0 w.heap.size 0 _ k3
   simpa using this
 case box n x=>
  obtain⟨e,x',hop,hx,h0⟩:=z6V (YH hc (by simp))
  simp only[evOp] at he
  split at he
  ·rename_i hl
   simp only[Mem.new,Option.some.injEq,Prod.mk.injEq] at he
   obtain⟨rfl,he2⟩:=he
   have:=csEq he2.symm
   subst this
   have hl':(x.ev ρ).cells.length=n:=eq_of_beq hl
   have h3:=(ze hR hx).cells (by omega)
   obtain⟨g',k1,k2,k3,k4⟩:=I.alloc_late (x.ev ρ).cells (a.eval x').cells.toList e hin hrs h3
   refine⟨g',_,.pointer (some ⟨w.heap.size,0,none⟩),?_,k1,k2,?_,k4⟩
   ·simp[execOp,hop,Instr.box,newVar,newRow]
   ·have:=Rep.ptr (g:=g') (w:=w.alloc (.cells (a.eval x').cells.toList.toArray e)) m.stk.length m.cur.length m.nx 0 w.heap.size 0 _ k3
    simpa using this
  ·cases he
 case make s b z n' c'=>
  obtain⟨t,e,x,y,ti,v,hop,hx,hy,ht,hi,hz,h0,hzs,rfl,rfl,rfl⟩:=z57 (YH hc (by simp))
  have h1:=ze hR hx
  have h2:=ze hR hy
  simp only[evOp,evMake] at he
  split at he
  ·rename_i k n k' n2 e1 e2
   split at he
   ·rename_i hcc
    obtain⟨rfl,c1,c2,c3,c4⟩:=hcc
    injection he with he
    injection he with he1 he2
    have:=csEq he2.symm
    subst this
    subst he1
    rw[e1] at h1;rw[e2] at h2
    have hv1:=h1.inv_int
    have hv2:=h2.inv_int
    obtain⟨zv,hzv,hav⟩:=Zh hz w
    have hzi:ti.zero=some zv:=by
     simp only[zeroT,hi,w26,w05] at hz
     obtain⟨v,h3,h4⟩:=hz
     have:(zeroValue e).run P w= .ok v w:=by simp[zeroValue,typeInfo,hi,h3]
     rw[this] at hzv
     injection hzv with hzv
     rw[←hzv];exact h3
    have hsz:zv.cells.size=ti.size:=by rw[hzi] at hzs;simpa using hzs
    have hzr:=(vf (g:=g) (w:=w) hav).cells (by omega)
    have hrun:=run_make (P:=P) w t e ti zv ht hi hzi k k' n n c1 (Int.le_refl _) c2 c3
    have hcells:madeCells zv.cells (n.toNat*ti.size)=((List.replicate n.toNat zv.cells.toList).flatten).toArray:=by
     unfold madeCells
     exact rangeZ h0 zv.cells hsz n.toNat
    rw[hcells] at hrun
    obtain⟨g',k1,k2,k3,k4⟩:=I.alloc_late (flatRep v.cells n.toNat) _ e hin hrs (jy hzr n.toNat)
    refine⟨g',_,.slice (some ⟨w.heap.size,0,none⟩) n.toNat n.toNat,?_,k1,k2,?_,k4⟩
    ·simp only[execOp,hop,hv1,hv2,Sem.run_bind,hrun,Result.andThen_ok]
     rfl
    ·exact .arr _ _ _ 0 _ _ 0 _ _ k3 (w0b _)
   ·cases he
  ·cases he
end
def StepD (O:Oracle) (m0:Mem) (ws:Watch) (ao:AOper) (s s':St):Prop:=
 match ao.flt with
 |true=> ∃q,evOper O ao ⟨s.ρ,m0⟩=some q∧s'=⟨q.ρ,s.m⟩
 |false=>
  match ao.op.isStore with
  |true=>clearG s.ρ ao ws=true∧ ∃q,evOper O ao ⟨s.ρ,{s.m with floor:=m0.floor}⟩=some q∧s'=⟨q.ρ,{q.m with floor:=s.m.floor}⟩
  |false=>evOper O ao s=some s'
theorem z0n {ρ:List AV} {op:AOp} {ws:Watch} (hs:op.isStore=true) (hc:clear ρ op ws=true): ∃n a x,op= .store n a x:=by
 cases op<;>first|(cases hs;done)|skip
 ·rename_i e
  cases e<;>first|(cases hs;done)|(cases hc)
 ·exact⟨_,_,_,rfl⟩
theorem z3n {op:AOp} (hs:op.isStore=true):mvB op=true:=by
 cases op<;>first|(cases hs;done)|skip
 ·rename_i e
  cases e<;>first|(cases hs;done)|rfl
 ·rfl
def nextW (m0:Mem) (ao:AOper) (s:St) (ws:Watch):Watch:=if ao.flt then watchG s.ρ m0 ao ws else ws
theorem z2c {O:Oracle} {m0:Mem}: ∀{al:List AOper} {ws:Watch} {σ σ':St},evDraw O m0 ws al σ=some σ'→
  ∃(S:Nat→St) (W:Nat→Watch),S 0=σ∧W 0=ws∧S al.length=σ'∧ ∀(i:Nat) (ao:AOper),al[i]? =some ao→StepD O m0 (W i) ao (S i) (S (i+1))∧W (i+1)=nextW m0 ao (S i) (W i)
 | [],ws,σ,σ',h=>by
  simp[evDraw] at h
  exact⟨fun _=>σ,fun _=>ws,rfl,rfl,h,fun i ao hi=>by simp at hi⟩
 |o::r,ws,σ,σ',h=>by
  have key: ∃s1,StepD O m0 ws o σ s1∧evDraw O m0 (nextW m0 o σ ws) r s1=some σ':=by
   simp only[evDraw] at h
   unfold StepD nextW
   split at h
   ·rename_i hf
    split at h
    ·rename_i q hq
     exact⟨_,by rw[hf];exact⟨q,hq,rfl⟩,by rw[hf];exact h⟩
    ·cases h
   ·rename_i hf
    split at h
    ·rename_i hs
     split at h
     ·rename_i hcl
      split at h
      ·rename_i q hq
       exact⟨_,by rw[hf,hs];exact⟨hcl,q,hq,rfl⟩,by rw[hf];exact h⟩
      ·cases h
     ·cases h
    ·rename_i hs
     split at h
     ·rename_i q hq
      exact⟨_,by rw[hf,hs];exact hq,by rw[hf];exact h⟩
     ·cases h
  obtain⟨s1,h1,h2⟩:=key
  obtain⟨S,W,k1,k1',k2,k3⟩:=z2c h2
  refine⟨fun i=>match i with|0=>σ|i+1=>S i,fun i=>match i with|0=>ws|i+1=>W i,rfl,rfl,k2,fun i ao hi=> ?_⟩
  cases i with
  |zero=>simp at hi;subst hi;exact⟨by show StepD O m0 ws o σ (S 0);rw[k1];exact h1,k1'⟩
  |succ i=>exact k3 i ao (by simpa using hi)
theorem Ta {P:Program} {ds:List Nat} {ops:Array Oper}: ∀{l:List Oper} {al:List AOper} {i:Nat},compOpers P ds ops i l=some al→
  al.length=l.length∧ ∀(k:Nat) (o:Oper),l[k]? =some o→ ∃ao,al[k]? =some ao∧compOper P ds ops o=some ao
 | [],al,i,h=>by simp[compOpers] at h;subst h;exact⟨rfl,fun k o hk=>by simp at hk⟩
 |o::l,al,i,h=>by
  simp only[compOpers] at h
  split at h
  ·rename_i a al' h1 h2
   injection h with h;subst h
   obtain⟨k1,k2⟩:=Ta h2
   refine⟨by simp[k1],fun k o' hk=> ?_⟩
   cases k with
   |zero=>simp at hk;subst hk;exact⟨a,rfl,h1⟩
   |succ k=>exact k2 k o' (by simpa using hk)
  ·cases h
theorem z1N (al:List AOper) (n:Nat) (b:List Nat): ∀(l:List AOper) (j k:Nat),(marked al n b j l)[k]? =(l[k]?).map (markOne al n b (j+k))
 | [],j,k=>by simp[marked]
 |o::l,j,0=>by simp[marked]
 |o::l,j,k+1=>by
  simp only[marked,w55,z1N al n b l (j+1) k]
  rw[show j+1+k=j+(k+1) by omega]
theorem T5 (al:List AOper) (n:Nat) (b:List Nat): ∀(l:List AOper) (j:Nat),(marked al n b j l).length=l.length
 | [],j=>rfl
 |o::l,j=>by simp[marked,T5 al n b l]
theorem z0b {ops:Array Oper}: ∀{l:List Oper} {al:List AOper},readsOk ops l al=true→ ∀(k:Nat) (o:Oper) (ao:AOper),l[k]? =some o→al[k]? =some ao→readsIn (looksAt ops o) ao.op.reads=true
 | [],_,_,k,o,ao,h,_=>by simp at h
 |_::_,[],_,k,o,ao,_,h=>by simp at h
 |o::l,a::al,h,k,o',ao,h1,h2=>by
  simp only[readsOk,w0e] at h
  cases k with
  |zero=>simp at h1 h2;subst h1;subst h2;exact h.1
  |succ k=>exact z0b h.2 k o' ao (by simpa using h1) (by simpa using h2)
theorem Zk {l:List Nat}: ∀{r:List Opd},readsIn l r=true→ ∀i,Opd.t i∈r→i∈l
 | [],_,i,h=>by cases h
 | .t j::r,h,i,hm=>by
  simp only[readsIn,w0e] at h
  rcases w32.1 hm with hm|hm
  ·injection hm with hm;subst hm;simpa using h.1
  ·exact Zk h.2 i hm
 | .c v::r,h,i,hm=>by
  simp only[readsIn] at h
  rcases w32.1 hm with hm|hm
  ·cases hm
  ·exact Zk h i hm
theorem z2d {P:Program} {ds:List Nat} {ops:Array Oper} {o:Oper} {ao:AOper} (h:compOper P ds ops o=some ao):ao.dst=o.dst∧ao.flt=false∧compOp P ds o=some ao.op∧compGuard ops o.guard=some ao.guard:=by
 unfold compOper at h
 split at h
 ·rename_i op gd h1 h2
  injection h with h;subst h
  exact⟨rfl,rfl,h1,h2⟩
 ·cases h
def mask (looks:List Nat) (ρ:List AV):List AV:=ρ.zipIdx.map fun p=>if looks.contains p.2 then p.1 else .undef
theorem z6d (looks:List Nat) (ρ:List AV) (t:Nat):(mask looks ρ)[t]? =(ρ[t]?).map fun x=>if looks.contains t then x else .undef:=by
 unfold mask
 rw[w19,List.getElem?_zipIdx]
 cases ρ[t]? <;>simp
theorem z6c (looks:List Nat) (ρ:List AV):(mask looks ρ).length=ρ.length:=by simp[mask]
theorem QK {looks:List Nat} {ρ:List AV} {t:Nat} (h:t∈looks) (d:AV):(mask looks ρ).getD t d=ρ.getD t d:=by
 rw[w00,w00,z6d]
 cases ρ[t]? <;>simp[h]
theorem z1q (ρ:List AV) (d:Option Nat) (r:AV) (t:Nat):(setDst ρ d r)[t]? =if d=some t∧t<ρ.length then some r else ρ[t]? :=by
 cases d with
 |none=>simp[setDst]
 |some d=>
  simp only[setDst,w36,Option.some.injEq]
  by_cases h:d=t
  ·subst h
   by_cases h2:d<ρ.length
   ·simp[h2]
   ·simp[h2]
  ·simp[h]
theorem z2U (ρ:List AV) (d:Option Nat) (r:AV):(setDst ρ d r).length=ρ.length:=by cases d<;>simp[setDst]
theorem z58 {P:Program} {o:Oper} {g:Bool} {n:Nat} {y:Opd} (h:compOp0 P o=some (.load g n y)):g=true∨n=1:=by
 unfold compOp0 at h
 split at h
 case h_8=>
  split at h
  ·split at h
   ·rename_i hc
    injection h with h
    injection h with h1 h2 h3
    subst h1;subst h2
    simpa using hc
   ·cases h
  ·cases h
 case h_21=>
  exfalso
  unfold compCall at h
  repeat' (first|(cases h;done)|(simp at h;done)|(split at h)|(simp only[w05,w02] at h;obtain⟨_,_,h⟩:=h))
 all_goals
  exfalso
  repeat' (first|(cases h;done)|(simp at h;done)|(split at h)|(simp only[w05,w02] at h;obtain⟨_,_,h⟩:=h))
structure IsOp (P:Program) (ops:Array Oper) (o:Oper) (ao:AOper):Prop where
 dst:ao.dst=o.dst
 guard:compGuard ops o.guard=some ao.guard
 op: ∃ds op,compOp P ds o=some op∧(∀(O:Oracle) (ρ:List AV) (m:Mem),evOp O ρ m ao.op=evOp O ρ m op)∧(op=ao.op∨ ∃g n y,op= .load g n y∧ao.op= .ext (.wload g n y))
 flt:ao.flt=true→ ∃g n y,(ao.op= .load g n y∨ao.op= .ext (.wload g n y))∧(g=true∨n=1)
structure Dr (P:Program) (O:Oracle) (ops:Array Oper) (al:List AOper) (m0:Mem) (S:Nat→St) (W:Nat→Watch):Prop where
 hO:OracleOk P O
 hA:OracleAbove O
 hd:drawOk ops al (masks ops.toList [])=true
 hop: ∀(i:Nat) (o:Oper),ops[i]? =some o→ ∃ao,al[i]? =some ao∧IsOp P ops o ao∧readsIn (looksAt ops o) ao.op.reads=true
 hs: ∀(i:Nat) (ao:AOper),al[i]? =some ao→StepD O m0 (W i) ao (S i) (S (i+1))∧W (i+1)=nextW m0 ao (S i) (W i)
 h0:(S 0).m={m0 with floor:=m0.stk.length+1}
 hf:m0.floor≤m0.stk.length
theorem z59 {P:Program} {ds:List Nat} {ops:Array Oper} {al:List AOper} (h:compDraw P ds ops=some al):drawOk ops al (masks ops.toList [])=true∧al.length=ops.size∧
  ∀(i:Nat) (o:Oper),ops[i]? =some o→ ∃ao,al[i]? =some ao∧IsOp P ops o ao∧readsIn (looksAt ops o) ao.op.reads=true:=by
 unfold compDraw at h
 simp only[w05] at h
 obtain⟨al0,h0,h⟩:=h
 split at h
 ·rename_i hc
  simp only[w0e] at hc
  injection h with h
  subst h
  obtain⟨k1,k2⟩:=Ta h0
  refine⟨hc.1,by rw[T5,k1];simp,fun i o ho=> ?_⟩
  obtain⟨a0,h3,h4⟩:=k2 i o (by simpa using ho)
  obtain⟨p1,p2,p3,p4⟩:=z2d h4
  have hget:(marked al0 ops.size (masks ops.toList []) 0 al0)[i]? =some (markOne al0 ops.size (masks ops.toList []) i a0):=by
   rw[z1N,h3,w0d,w39]
  refine⟨_,hget,?_,z0b hc.2 i o _ (by simpa using ho) hget⟩
  unfold markOne
  split
  ·rename_i hf
   unfold fltOf at hf
   simp only[w0e] at hf
   obtain⟨hf,_⟩:=hf
   unfold opAt at hf
   rw[h3] at hf
   simp only at hf
   split at hf
   ·rename_i g n y hl
    have hw:=z58 (YH (by rw[←hl];exact p3) (fun e he=>by cases he))
    refine⟨p1,p4,⟨ds,a0.op,p3,fun O ρ m=> ?_,?_⟩,fun _=>⟨g,n,y,?_,hw⟩⟩
    ·simp only[hl]
     split<;>rfl
    ·simp only[hl]
     split
     ·exact .inr ⟨g,n,y,rfl,rfl⟩
     ·exact .inl rfl
    ·simp only[hl]
     split
     ·exact .inr rfl
     ·exact .inl rfl
   ·cases hf
  ·exact⟨p1,p4,⟨ds,a0.op,p3,fun _ _ _=>rfl,.inl rfl⟩,fun h=>by rw[p2] at h;cases h⟩
 ·cases h
section
variable {P : Program} {O : Oracle} {ops : Array Oper} {al : List AOper} {m0 : Mem} {S : Nat → St} {W : Nat → Watch}
theorem Dr.step (D:Dr P O ops al m0 S W) {i:Nat} {ao:AOper} (ha:al[i]? =some ao):
  ∃b r,wanted (S i).ρ ao.guard=some b∧(S (i+1)).ρ=setDst (S i).ρ ao.dst r∧(b=false→r= .tup []∧(S (i+1)).m=(S i).m)∧
   (b=true→(ao.flt=true∧(∃m',evOp O (S i).ρ m0 ao.op=some (r,m'))∧(S (i+1)).m=(S i).m)∨
    (ao.flt=false∧ao.op.isStore=true∧clear (S i).ρ ao.op (W i)=true∧ ∃m',evOp O (S i).ρ {(S i).m with floor:=m0.floor} ao.op=some (r,m')∧(S (i+1)).m={m' with floor:=(S i).m.floor})∨
    (ao.flt=false∧ao.op.isStore=false∧evOp O (S i).ρ (S i).m ao.op=some (r,(S (i+1)).m))):=by
 have hs:=(D.hs i ao ha).1
 unfold StepD at hs
 cases hf:ao.flt with
 |true=>
  rw[hf] at hs
  obtain⟨q,hq,hS⟩:=hs
  unfold evOper at hq
  split at hq
  ·rename_i hw
   simp only[w02] at hq
   obtain⟨⟨r,m'⟩,h1,rfl⟩:=hq
   exact⟨true,r,hw,by rw[hS],fun h=>by(cases h),fun _=> .inl ⟨rfl,⟨m',h1⟩,by rw[hS]⟩⟩
  ·rename_i hw
   injection hq with hq;subst hq
   exact⟨false,.tup [],hw,by rw[hS],fun _=>⟨rfl,by rw[hS]⟩,fun h=>by(cases h)⟩
  ·cases hq
 |false=>
  rw[hf] at hs
  simp only at hs
  cases hst:ao.op.isStore with
  |true=>
   rw[hst] at hs
   obtain⟨hcl,q,hq,hS⟩:=hs
   unfold evOper at hq
   split at hq
   ·rename_i hw
    simp only[w02] at hq
    obtain⟨⟨r,m'⟩,h1,rfl⟩:=hq
    exact⟨true,r,hw,by rw[hS],fun h=>by(cases h),fun _=> .inr (.inl ⟨rfl,rfl,by unfold clearG at hcl;rw[hw] at hcl;exact hcl,m',h1,by rw[hS]⟩)⟩
   ·rename_i hw
    injection hq with hq;subst hq
    exact⟨false,.tup [],hw,by rw[hS],fun _=>⟨rfl,by rw[hS]⟩,fun h=>by(cases h)⟩
   ·cases hq
  |false=>
   rw[hst] at hs
   have hs':evOper O ao (S i)=some (S (i+1)):=hs
   clear hs
   have hs:=hs'
   unfold evOper at hs
   split at hs
   ·rename_i hw
    simp only[w02] at hs
    obtain⟨⟨r,m'⟩,h1,h2⟩:=hs
    refine⟨true,r,hw,by rw[←h2],fun h=>by(cases h),fun _=> .inr (.inr ⟨rfl,rfl,?_⟩)⟩
    rw[h1,←h2]
   ·rename_i hw
    injection hs with hs
    exact⟨false,.tup [],hw,by rw[←hs],fun _=>⟨rfl,by rw[←hs]⟩,fun h=>by(cases h)⟩
   ·cases hs
def isB (al:List AOper) (i:Nat):Bool:=mvB (opAt al i)
def isA (al:List AOper) (i:Nat):Bool:=kindA (opAt al i)
def wr (ops:Array Oper) (t i:Nat):Bool:=match ops[i]? with|some o=>o.dst==some t|none=>false
theorem xF {i:Nat} {ao:AOper} (h:al[i]? =some ao):opAt al i=ao.op:=by unfold opAt;rw[h]
theorem zd6 (op:AOp):op.kind≤2:=by
 cases op<;>simp only[AOp.kind]<;>try omega
 rename_i e
 cases e<;>simp[XOp.kind]
theorem z3H {op:AOp} (h1:mvB op=false) (h2:kindA op=false):op.kind≤1:=by
 have:=zd6 op
 unfold mvB at h1
 rw[h2] at h1
 simp at h1
 omega
theorem Dr.at_ (D:Dr P O ops al m0 S W) {i:Nat} (hi:i<ops.size): ∃o ao,ops[i]? =some o∧al[i]? =some ao∧IsOp P ops o ao∧readsIn (looksAt ops o) ao.op.reads=true:=by
 have ho:ops[i]? =some ops[i]:=w1e hi
 obtain⟨ao,h1,h2,h3⟩:=D.hop i _ ho
 exact⟨_,ao,ho,h1,h2,h3⟩
theorem Dr.lens (D:Dr P O ops al m0 S W): ∀i,i≤ops.size→(S i).m.stk.length=m0.stk.length∧(S i).m.floor=m0.stk.length+1
 |0,_=>by rw[D.h0];exact⟨rfl,rfl⟩
 |i+1,hi=>by
  obtain⟨k1,k2⟩:=D.lens i (by omega)
  obtain⟨o,ao,_,ha,_⟩:=D.at_ (i:=i) (by omega)
  obtain⟨b,r,_,_,hfalse,htrue⟩:=D.step ha
  cases b with
  |false=>rw[(hfalse rfl).2];exact⟨k1,k2⟩
  |true=>
   rcases htrue rfl with⟨_,_,h⟩|⟨_,_,_,m',h1,h2⟩|⟨_,hns,h1⟩
   ·rw[h];exact⟨k1,k2⟩
   ·have:=qz D.hA (by simp only;rw[k1];have:=D.hf;omega) (fun _=>by simp only;rw[k1];exact D.hf) h1
    rw[h2]
    exact⟨by simp only;rw[this.len];exact k1,k2⟩
   ·have:=qz D.hA (by rw[k1,k2];omega) (fun h=>by rw[hns] at h;cases h) h1
    exact⟨this.len.trans k1,this.floor.trans k2⟩
theorem Dr.nx_succ (D:Dr P O ops al m0 S W) {i:Nat} (hi:i<ops.size):(S i).m.nx≤(S (i+1)).m.nx:=by
 obtain⟨k1,k2⟩:=D.lens i (by omega)
 obtain⟨o,ao,_,ha,_⟩:=D.at_ hi
 obtain⟨b,r,_,_,hfalse,htrue⟩:=D.step ha
 cases b with
 |false=>rw[(hfalse rfl).2];exact w0b _
 |true=>
  rcases htrue rfl with⟨_,_,h⟩|⟨_,_,_,m',h1,h2⟩|⟨_,hns,h1⟩
  ·rw[h];exact w0b _
  ·have:=qz D.hA (by simp only;rw[k1];have:=D.hf;omega) (fun _=>by simp only;rw[k1];exact D.hf) h1
   rw[h2]
   exact this.nx
  ·exact(qz D.hA (by rw[k1,k2];omega) (fun h=>by rw[hns] at h;cases h) h1).nx
theorem Dr.nx_mono (D:Dr P O ops al m0 S W) (a:Nat): ∀b,a≤b→b≤ops.size→(S a).m.nx≤(S b).m.nx
 |0,h,_=>by have:a=0:=by omega
            rw[this];exact w0b _
 |b+1,h,hb=>by
  by_cases hab:a=b+1
  ·rw[hab];exact w0b _
  ·exact w4a (D.nx_mono a b (by omega) (by omega)) (D.nx_succ (by omega))
theorem Dr.quiet (D:Dr P O ops al m0 S W) {i:Nat} (hi:i<ops.size) (hB:isB al i=false):(S (i+1)).m=(S i).m∨
  (isA al i=true∧ ∃cs,(S (i+1)).m={(S i).m with cur:=(S i).m.cur++[⟨(S i).m.nx,cs⟩],nx:=(S i).m.nx+1}):=by
 obtain⟨o,ao,_,ha,_⟩:=D.at_ hi
 obtain⟨b,r,_,_,hfalse,htrue⟩:=D.step ha
 unfold isB at hB
 rw[xF ha] at hB
 cases b with
 |false=>exact .inl (hfalse rfl).2
 |true=>
  cases hA:kindA ao.op with
  |true=>
   rcases htrue rfl with⟨_,_,h⟩|⟨_,hs,_⟩|⟨_,_,h1⟩
   ·exact .inl h
   ·cases hop:ao.op<;>rw[hop] at hs hA<;>first|(cases hs;done)|(cases hA;done)
   ·refine .inr ⟨by unfold isA;rw[xF ha];exact hA,?_⟩
    exact z3I hA h1
  |false=>
   left
   have hk:=z3H hB hA
   rcases htrue rfl with⟨_,_,h⟩|⟨_,hs,_⟩|⟨_,_,h1⟩
   ·exact h
   ·cases hop:ao.op<;>rw[hop] at hs hk<;>first|(cases hs;done)|(simp[AOp.kind] at hk;done)|skip
    rename_i e
    cases e<;>first|(cases hs;done)|(simp[AOp.kind,XOp.kind] at hk)
   ·exact(z3V hk h1).1
structure Grew (m m':Mem):Prop where
 stk:m'.stk=m.stk
 cur: ∃l,m'.cur=m.cur++l
theorem Grew.blk {m m':Mem} (h:Grew m m') {l k st:Nat} {cs:List AV} (hb:m.blk l k st=some cs):m'.blk l k st=some cs:=by
 refine tr hb fun x hx=> ?_
 obtain⟨add,hc⟩:=h.cur
 unfold Mem.row at hx⊢
 rw[h.stk]
 split at hx
 ·rename_i hl
  rw[if_pos hl,hc,w07 (w06.1 hx).1]
  exact hx
 ·rename_i hl
  rw[if_neg hl];exact hx
theorem Dr.grew (D:Dr P O ops al m0 S W) (a:Nat): ∀b,a≤b→b≤ops.size→(∀i,a≤i→i<b→isB al i=false)→Grew (S a).m (S b).m
 |0,h,_,_=>by have:a=0:=by omega
              rw[this];exact⟨rfl,[],by simp⟩
 |b+1,h,hb,hE=>by
  by_cases hab:a=b+1
  ·rw[hab];exact⟨rfl,[],by simp⟩
  ·obtain⟨k1,l,k2⟩:=D.grew a b (by omega) (by omega) (fun i h1 h2=>hE i h1 (by omega))
   rcases D.quiet (by omega) (hE b (by omega) (by omega)) with h|⟨_,cs,h⟩
   ·rw[h];exact⟨k1,l,k2⟩
   ·rw[h];exact⟨k1,l++[⟨(S b).m.nx,cs⟩],by simp only;rw[k2,w0f]⟩
theorem Dr.reg_len (D:Dr P O ops al m0 S W): ∀i,i≤ops.size→(S i).ρ.length=(S 0).ρ.length
 |0,_=>rfl
 |i+1,hi=>by
  obtain⟨o,ao,_,ha,_⟩:=D.at_ (i:=i) (by omega)
  obtain⟨b,r,_,hρ,_⟩:=D.step ha
  rw[hρ,z2U]
  exact D.reg_len i (by omega)
theorem Dr.reg_const (D:Dr P O ops al m0 S W) (t a:Nat): ∀b,a≤b→b≤ops.size→(∀i,a≤i→i<b→wr ops t i=false)→(S b).ρ[t]? =(S a).ρ[t]?
 |0,h,_,_=>by have:a=0:=by omega
              rw[this]
 |b+1,h,hb,hE=>by
  by_cases hab:a=b+1
  ·rw[hab]
  ·have ih:=D.reg_const t a b (by omega) (by omega) (fun i h1 h2=>hE i h1 (by omega))
   obtain⟨o,ao,ho,ha,hop,_⟩:=D.at_ (i:=b) (by omega)
   have hq:=hE b (by omega) (by omega)
   simp only[wr,ho] at hq
   obtain⟨bb,r,_,hρ,_⟩:=D.step ha
   rw[hρ,z1q,hop.dst,if_neg (by intro hh;simp[hh.1] at hq)]
   exact ih
end
theorem z5e {m:Mem} {l k st:Nat} {cs new:List AV} (h:m.blk l k st=some cs):(m.put l k st new).blk l k st=some new:=by
 have h1:=jA h
 unfold Mem.row at h1
 unfold Mem.put
 split
 ·rename_i hl
  rw[if_pos hl] at h1
  have hk:k<m.cur.length:=(w06.1 h1).1
  unfold Mem.blk Mem.row
  simp only[hl,if_true,w50 hk,beq_self_eq_true]
 ·rename_i hl
  rw[if_neg hl] at h1
  unfold Mem.blk Mem.row
  simp only[List.length_modify,hl,if_false,w28]
  rw[w00,w37]
  simp only[if_true]
  rw[w00] at h1
  cases hm:m.stk[l]? with
  |none=>rw[hm] at h1;simp at h1
  |some f=>
   rw[hm] at h1
   have hk:k<f.length:=(w06.1 h1).1
   simp[w50 hk]
theorem Tc {m:Mem} {l k st l2 k2 st2:Nat} {cs new:List AV} (hne: ¬(l=l2∧k=k2)) (h:m.blk l2 k2 st2=some cs):(m.put l k st new).blk l2 k2 st2=some cs:=by
 refine tr h fun x hx=> ?_
 unfold Mem.row at hx
 unfold Mem.put
 split
 ·rename_i hl
  have hl':l=m.stk.length:=eq_of_beq hl
  unfold Mem.row
  simp only
  split at hx
  ·rename_i hl2
   have hl2':l2=m.stk.length:=eq_of_beq hl2
   rw[if_pos hl2,w20 (fun e=>hne ⟨by omega,e⟩)]
   exact hx
  ·rename_i hl2
   rw[if_neg hl2];exact hx
 ·rename_i hl
  unfold Mem.row
  simp only[List.length_modify]
  split at hx
  ·rename_i hl2;rw[if_pos hl2];exact hx
  ·rename_i hl2
   rw[if_neg hl2]
   rw[w00] at hx⊢
   rw[w37]
   by_cases hll:l=l2
   ·subst hll
    simp only[if_true]
    cases hm:m.stk[l]? with
    |none=>rw[hm] at hx;simp at hx
    |some f=>
     rw[hm] at hx
     have hx':f[k2]? =some x:=by simpa using hx
     show((f.set k ⟨st,new⟩))[k2]? =some x
     rw[w20 (fun e=>hne ⟨rfl,e⟩)]
     exact hx'
   ·simp only[hll,if_false]
    cases hm:m.stk[l2]? with
    |none=>rw[hm] at hx;exact hx
    |some f=>rw[hm] at hx;exact hx
theorem zar {m:Mem} {l k st:Nat} {cs:List AV} (h:m.blk l k st=some cs):l≤m.stk.length:=by
 rcases w3e m.stk.length l with hlt|hle
 ·exfalso
  have:=jA h
  unfold Mem.row at this
  have hnone:m.stk[l]? =none:=w17 (by omega)
  rw[if_neg (by simp;omega),w00,hnone] at this
  simp at this
 ·exact hle
theorem z43 {m:Mem} {l k st st':Nat} {cs cs':List AV} (h:m.blk l k st=some cs) (h':m.blk l k st'=some cs'):st=st'∧cs=cs':=by
 have h1:=jA h
 have h2:=jA h'
 rw[h1] at h2
 injection h2 with h2
 injection h2 with h2 h3
 exact⟨h2,h3⟩
theorem z5w {g:Bool} {n off:Nat} {cs cs':List AV} (hw:g=true∨n=1) (hl:cs'.length=cs.length) (h: ∀q,off≤q→q<off+n→cs'[q]? =cs[q]?):takeV g n (cs'.drop off)=takeV g n (cs.drop off):=by
 unfold takeV
 rw[w5a,w5a,hl]
 split
 ·cases g with
  |true=>
   simp only[Option.some.injEq,AV.agg.injEq]
   apply w2c
   intro q
   rw[w2b,w2b,w3f,w3f]
   split
   ·exact h _ (by omega) (by omega)
   ·rfl
  |false=>
   have hn:n=1:=by rcases hw with h|h;·cases h
                   ·exact h
   subst hn
   simp only
   rw[List.head?_drop,List.head?_drop]
   exact h off (w0b _) (by omega)
 ·rfl
section
variable {P : Program} {O : Oracle} {ops : Array Oper} {al : List AOper} {m0 : Mem} {S : Nat → St} {W : Nat → Watch} {Q : Exit → Act → World → Prop}
def Cut (n:Nat) (X:Nat→Bool) (p:Nat→Bool) (k:Nat):Prop:= ∀i,i<n→p i=true→(X i=true↔i<k)
def Nxt (al:List AOper) (n:Nat) (X:Nat→Bool) (k:Nat):Prop:=k≤n∧Cut n X (isB al) k∧(k=n∨isB al k=true)
theorem Nxt.uniq {n k k':Nat} {X:Nat→Bool} (h:Nxt al n X k) (h':Nxt al n X k'):k=k':=by
 have key: ∀{k k':Nat},Nxt al n X k→Nxt al n X k'→k<k'→False:=by
  intro k k' h h' hlt
  have hkn:k<n:=by have:=h'.1;omega
  have hB:isB al k=true:=by rcases h.2.2 with e|e;·omega
                            ·exact e
  have h1:=(h'.2.1 k hkn hB).2 hlt
  have h2:=(h.2.1 k hkn hB).1 h1
  omega
 rcases Nat.lt_trichotomy k k' with e|e|e
 ·exact(key h h' e).elim
 ·exact e
 ·exact(key h' h e).elim
theorem z4G (b:List Nat) (i j:Nat):ordered b i j=ordered b j i:=by unfold ordered;rw[Nat.max_comm,Nat.min_comm]
theorem Dr.pair (D:Dr P O ops al m0 S W) {i j:Nat} {x y:Oper} {ai aj:AOper} (hi:ops[i]? =some x) (hj:ops[j]? =some y) (hai:al[i]? =some ai) (haj:al[j]? =some aj) (hne:i≠j) (ho:ordered (masks ops.toList []) i j=false):
  clash ops x y=false∧(mvB ai.op&&mvB aj.op)=false∧(kindA ai.op&&mvB aj.op&&decide (j<i))=false∧(mvB ai.op&&decide (aj.op.kind=1)&& !aj.flt)=false:=by
 have hd:=D.hd
 unfold drawOk at hd
 rw[w4f] at hd
 have hilt:i<ops.size:=(Array.getElem?_eq_some_iff.1 hi).1
 have hjlt:j<ops.size:=(Array.getElem?_eq_some_iff.1 hj).1
 have h1:=hd i (w47.2 hilt)
 rw[w0e,w4f] at h1
 have h2:=h1.2 j (w47.2 hjlt)
 rw[w0e] at h2
 have h3:=h2.1
 unfold pairOk at h3
 simp only[hi,hj,ho,xF hai,xF haj,haj,w0d,w2a,Bool.or_false,w31,beq_iff_eq,w0e,Bool.not_eq_true'] at h3
 rcases h3 with h3|⟨⟨⟨h3,h4⟩,h5⟩,h6⟩
 ·exact absurd h3 hne
 ·exact⟨h3,h4,h5,h6⟩
theorem Dr.edge (D:Dr P O ops al m0 S W) {j:Nat} {o:Oper} (hj:ops[j]? =some o) {e:Edge} (he:e∈o.after) (hb:Region.binds .any e=true):e.on<j:=by
 have hd:=D.hd
 unfold drawOk at hd
 rw[w4f] at hd
 have hjlt:j<ops.size:=(Array.getElem?_eq_some_iff.1 hj).1
 have h1:=hd j (w47.2 hjlt)
 rw[w0e] at h1
 have h2:=h1.1
 unfold edgesOk at h2
 rw[hj] at h2
 simp only[w4f] at h2
 have:=h2 e (by simpa using he)
 rw[hb] at this
 simpa using this
theorem Dr.flt_before (D:Dr P O ops al m0 S W) {i j:Nat} {ai aj:AOper} (hi:i<ops.size) (hj:j<ops.size) (hai:al[i]? =some ai) (haj:al[j]? =some aj) (hs:ai.op.isStore=true) (hf:aj.flt=true):
  j<i∧(ordered (masks ops.toList []) i j=true∨ ∃g n y,aj.op= .ext (.wload g n y)):=by
 have hd:=D.hd
 unfold drawOk at hd
 rw[w4f] at hd
 have h1:=hd i (w47.2 hi)
 rw[w0e,w4f] at h1
 have h2:=h1.2 j (w47.2 hj)
 rw[w0e] at h2
 have h3:=h2.2
 unfold fltOk at h3
 simp only[xF hai,xF haj,haj,hs,hf,w0d,w2a,Bool.and_self,Bool.not_true,Bool.false_or,w0e,decide_eq_true_eq,w31] at h3
 refine⟨h3.1,?_⟩
 rcases h3.2 with h|h
 ·exact .inl h
 ·right
  split at h
  ·rename_i g n y e;exact⟨g,n,y,e⟩
  ·cases h
theorem UE {g:G} {w:World} {m:Mem} (f:Nat) (I:Inv g w m):Inv g w {m with floor:=f}:=⟨I.blk,I.nd,I.stlt,I.tklt,I.live,I.ownb,I.hbase,I.lnd,I.rsv,I.mpk⟩
theorem Dr.reserve (D:Dr P O ops al m0 S W) {g:G} {w:World} (a:Nat): ∀b,a≤b→b≤ops.size→(∀i,a≤i→i<b→isB al i=false)→Inv g w (S a).m→
  ∃g',ExtW g w g' w∧Inv g' w (S b).m∧ ∀st,g'.rs st=true↔(g.rs st=true∨ ∃i,a≤i∧i<b∧isA al i=true∧(S (i+1)).m.nx≠(S i).m.nx∧st=(S i).m.nx)
 |0,h,_,_,I=>by
  have:a=0:=by omega
  subst this
  exact⟨g,(Ext.refl g w).toExtW,I,fun st=>⟨.inl,fun h=>h.elim id fun⟨i,h1,h2,_⟩=>by omega⟩⟩
 |b+1,h,hb,hE,I=>by
  by_cases hab:a=b+1
  ·subst hab
   exact⟨g,(Ext.refl g w).toExtW,I,fun st=>⟨.inl,fun h=>h.elim id fun⟨i,h1,h2,_⟩=>by omega⟩⟩
  ·obtain⟨g1,k1,k2,k3⟩:=D.reserve a b (by omega) (by omega) (fun i h1 h2=>hE i h1 (by omega)) I
   rcases D.quiet (by omega) (hE b (by omega) (by omega)) with hm|⟨hA,cs,hm⟩
   ·refine⟨g1,k1,by rw[hm];exact k2,fun st=>(k3 st).trans ⟨fun h=> ?_,fun h=> ?_⟩⟩
    ·rcases h with h|⟨i,h1,h2,h3⟩
     ·exact .inl h
     ·exact .inr ⟨i,h1,by omega,h3⟩
    ·rcases h with h|⟨i,h1,h2,h3,h4,h5⟩
     ·exact .inl h
     ·right
      refine⟨i,h1,?_,h3,h4,h5⟩
      rcases w3e i b with hlt|hge
      ·exact hlt
      ·have:i=b:=by omega
       subst this
       rw[hm] at h4
       exact absurd rfl h4
   ·obtain⟨e1,e2⟩:=k2.reserve cs
    refine⟨_,k1.trans e1,by rw[hm];exact e2,fun st=> ?_⟩
    simp only[w31,beq_iff_eq]
    rw[k3 st]
    constructor
    ·rintro((h|⟨i,h1,h2,h3⟩)|h)
     ·exact .inl h
     ·exact .inr ⟨i,h1,by omega,h3⟩
     ·exact .inr ⟨b,by omega,by omega,hA,by rw[hm];simp,h⟩
    ·rintro(h|⟨i,h1,h2,h3,h4,h5⟩)
     ·exact .inl (.inl h)
     ·rcases w3e i b with hlt|hge
      ·exact .inl (.inr ⟨i,h1,hlt,h3,h4,h5⟩)
      ·have:i=b:=by omega
       subst this
       exact .inr h5
def content (S:Nat→St) (i:Nat):List AV:=match (S (i+1)).m.cur.getLast? with|some b=>b.cs|none=>[]
theorem Dr.made (D:Dr P O ops al m0 S W) {i:Nat} (hi:i<ops.size) (hB:isB al i=false) (hm:(S (i+1)).m.nx≠(S i).m.nx):
  (S (i+1)).m={(S i).m with cur:=(S i).m.cur++[⟨(S i).m.nx,content S i⟩],nx:=(S i).m.nx+1}:=by
 rcases D.quiet hi hB with h|⟨_,cs,h⟩
 ·rw[h] at hm;exact absurd rfl hm
 ·have:content S i=cs:=by unfold content;rw[h];simp
  rw[this];exact h
theorem z9d {i:Nat} (h:isA al i=true):isB al i=false:=by
 unfold isA at h
 unfold isB mvB
 rw[h];simp
theorem zd1 (m:Mem) (cs:List AV):({m with cur:=m.cur++[⟨m.nx,cs⟩],nx:=m.nx+1}:Mem).blk m.stk.length m.cur.length m.nx=some cs:=by
 unfold Mem.blk Mem.row
 simp
theorem Dr.made_blk (D:Dr P O ops al m0 S W) {i:Nat} (hi:i<ops.size) (hA:isA al i=true) (hm:(S (i+1)).m.nx≠(S i).m.nx):(S (i+1)).m.blk m0.stk.length (S i).m.cur.length (S i).m.nx=some (content S i):=by
 rw[D.made hi (z9d hA) hm,←(D.lens i (by omega)).1]
 exact zd1 _ _
theorem Dr.watched (D:Dr P O ops al m0 S W) {j:Nat} (x:Nat×Nat×Nat×Nat×List AV) (hx:x∈W (j+1)): ∀p,j<p→p≤ops.size→x∈W p
 |0,h,_=>by omega
 |p+1,h,hp=>by
  by_cases hj:j=p
  ·subst hj;exact hx
  ·have ih:=D.watched x hx p (by omega) (by omega)
   obtain⟨o,ao,_,ha,_⟩:=D.at_ (i:=p) (by omega)
   rw[(D.hs p ao ha).2]
   unfold nextW
   split
   ·unfold watchG
    split
    ·unfold watch
     split
     ·split
      ·exact w18 _ ih
      ·exact ih
     ·exact ih
    ·exact ih
   ·exact ih
theorem Dr.range (D:Dr P O ops al m0 S W) {j:Nat} {l kk st off n:Nat} {cs0:List AV} (hb:m0.blk l kk st=some cs0) (k:Nat)
  (hst: ∀p ap,p<k→al[p]? =some ap→ap.op.isStore=true→j<p∧(l,kk,off,n,(cs0.drop off).take n)∈W (j+1)):
  ∀p,p≤k→p≤ops.size→ ∃cs,(S p).m.blk l kk st=some cs∧cs.length=cs0.length∧ ∀q,off≤q→q<off+n→cs[q]? =cs0[q]?
 |0,_,_=>⟨cs0,by rw[D.h0];exact hb,rfl,fun _ _ _=>rfl⟩
 |p+1,hpk,hp=>by
  obtain⟨cs,h1,h2,h3⟩:=D.range hb k hst p (by omega) (by omega)
  obtain⟨k1,k2⟩:=D.lens p (by omega)
  have hlev:l≤m0.stk.length:=zar hb
  cases hB:isB al p with
  |false=>
   have hg:=D.grew p (p+1) (by omega) hp (fun i a b=>by have:i=p:=by omega
                                                        subst this;exact hB)
   exact⟨cs,hg.blk h1,h2,h3⟩
  |true=>
   obtain⟨o,ao,_,ha,_⟩:=D.at_ (i:=p) (by omega)
   obtain⟨b,r,_,_,hfalse,htrue⟩:=D.step ha
   cases b with
   |false=>exact⟨cs,by rw[(hfalse rfl).2];exact h1,h2,h3⟩
   |true=>
    rcases htrue rfl with⟨_,_,h⟩|⟨_,hs,hcl,m',he,hm⟩|⟨_,hns,he⟩
    ·exact⟨cs,by rw[h];exact h1,h2,h3⟩
    ·obtain⟨hjp,hin⟩:=hst p ao (by omega) ha hs
     have hw:=D.watched _ hin p hjp (by omega)
     obtain⟨n',ad,x,hop⟩:=z0n hs hcl
     rw[hop] at he hcl
     simp only[evOp,evStore] at he
     split at he
     ·rename_i l2 k2' st2 off2 hae
      split at he
      ·rename_i cs2 hb2
       split at he
       ·rename_i hc
        simp only[w0e,beq_iff_eq,decide_eq_true_eq] at hc
        simp only[Option.some.injEq,Prod.mk.injEq] at he
        obtain⟨_,rfl⟩:=he
        rw[hm,z0G]
        simp only[clear,hae,w4f] at hcl
        have hcl:=hcl _ hw
        simp only[w31,w0e,bne_iff_ne,ne_eq,decide_eq_true_eq] at hcl
        have hb2':(S p).m.blk l2 k2' st2=some cs2:=hb2
        by_cases hsame:l2=l∧k2'=kk
        ·obtain⟨rfl,rfl⟩:=hsame
         obtain⟨rfl,rfl⟩:=z43 h1 hb2'
         refine⟨splice cs off2 (x.ev (S p).ρ).cells,?_,?_,fun q a1 a2=> ?_⟩
         ·exact z5e (m:={(S p).m with floor:=m0.floor}) h1
         ·rw[T2 _ _ _ (by omega)];exact h2
         ·rw[z7j _ _ _ (by omega)]
          rcases hcl with hcl|⟨e1,e2⟩
          ·rw[if_neg (by omega)]
           exact h3 q a1 a2
          ·have e2:=zcM e2
           split
           ·rename_i hq
            rw[e2,w2b,w3f,if_pos (by omega),show off+(q-off2)=q by omega]
           ·exact h3 q a1 a2
        ·exact⟨cs,Tc (m:={(S p).m with floor:=m0.floor}) hsame h1,h2,h3⟩
       ·cases he
      ·cases he
     ·cases he
    ·have:=qz D.hA (by rw[k1,k2];omega) (fun h=>by rw[hns] at h;cases h) he
     exact⟨cs,this.blk l kk st cs (by rw[k2];omega) h1,h2,h3⟩
theorem Dr.float (D:Dr P O ops al m0 S W) {j k:Nat} {ao:AOper} (hj:j<ops.size) (ha:al[j]? =some ao) (hf:ao.flt=true) (hwt:wanted (S j).ρ ao.guard=some true) (hk:k≤ops.size) {g:Bool} {n:Nat} {y:Opd} (hop:ao.op= .load g n y∨ao.op= .ext (.wload g n y)) (hw:g=true∨n=1)
  (hst: ∀p ap,p<k→al[p]? =some ap→ap.op.isStore=true→j<p∧ ∃g n y,ao.op= .ext (.wload g n y)) {r:AV} {m':Mem} (he:evOp O (S j).ρ m0 ao.op=some (r,m')):evOp O (S j).ρ (S k).m ao.op=some (r,(S k).m):=by
 have hev: ∀m:Mem,evOp O (S j).ρ m ao.op=(m.at (y.ev (S j).ρ)).bind fun cs=>(takeV g n cs).map fun v=>(v,m):=by
  intro m
  rcases hop with h|h<;>rw[h]<;>rfl
 rw[hev] at he⊢
 simp only[w05,w02,Prod.mk.injEq] at he⊢
 obtain⟨cs,h1,v,h2,rfl,rfl⟩:=he
 unfold Mem.at at h1⊢
 split at h1
 ·rename_i l kk st off hae
  simp only[w02] at h1
  obtain⟨cs0,h3,rfl⟩:=h1
  obtain⟨cs1,k1,k2,k3⟩:=D.range (j:=j) (off:=off) (n:=n) h3 k (fun p ap hp hap hs=>by
   obtain⟨a1,g',n',y',a2⟩:=hst p ap hp hap hs
   refine⟨a1,?_⟩
   have hop':ao.op= .ext (.wload g n y):=by
    rcases hop with h|h
    ·rw[h] at a2;cases a2
    ·exact h
   rw[(D.hs j ao ha).2]
   simp only[nextW,hf,if_true,watchG,hwt,watch,hop',hae,Mem.at,h3,w0d,w2a]
   exact w1c) k (w0b _) hk
  exact⟨cs1.drop off,by simp only[k1,w0d],v,by rw[z5w hw k2 k3];exact h2,rfl,trivial⟩
 ·injection h1 with h1
  subst h1
  exact⟨_,rfl,v,h2,rfl,trivial⟩
 ·cases h1
end
section
variable {P : Program} {O : Oracle} {ops : Array Oper} {al : List AOper} {m0 : Mem} {S : Nat → St} {W : Nat → Watch} {Q : Exit → Act → World → Prop}
def Pend (al:List AOper) (S:Nat→St) (X:Nat→Bool) (k i:Nat):Prop:=i<k∧isA al i=true∧(S (i+1)).m.nx≠(S i).m.nx∧X i=false
structure Mid (ops:Array Oper) (al:List AOper) (S:Nat→St) (rs0:Nat→Bool) (L:Nat) (X:Nat→Bool) (g:G) (w:World) (a:Act):Prop where
 mem: ∀k,Nxt al ops.size X k→Inv g w (S k).m
 rsv: ∀k,Nxt al ops.size X k→ ∀st,g.rs st=true↔(rs0 st=true∨ ∃i,Pend al S X k i∧st=(S i).m.nx)
 cont: ∀k,Nxt al ops.size X k→ ∀i,Pend al S X k i→(S k).m.blk L (S i).m.cur.length (S i).m.nx=some (content S i)
 reg: ∀t k x,k≤ops.size→Cut ops.size X (wr ops t) k→(S k).ρ[t]? =some x→ ∃v,a.tmps[t]? =some v∧Rep g w x v
 len:a.tmps.size=(S 0).ρ.length
theorem Dr.nxt (D:Dr P O ops al m0 S W) {X:Nat→Bool} (hX:Closed ops X): ∃k,Nxt al ops.size X k:=by
 have least: ∀n,n≤ops.size→ ∃k,k≤n∧(∀i,i<k→isB al i=true→X i=true)∧(k=n∨(isB al k=true∧X k=false)):=by
  intro n
  induction n with
  |zero=>exact fun _=>⟨0,w0b _,fun i hi=>by omega,.inl rfl⟩
  |succ n ih=>
   intro hn
   obtain⟨k,h1,h2,h3⟩:=ih (by omega)
   rcases h3 with rfl|h3
   ·by_cases hb:isB al k=true∧X k=false
    ·exact⟨k,by omega,h2,.inr hb⟩
    ·refine⟨k+1,w0b _,fun i hi hB=> ?_,.inl rfl⟩
     by_cases hik:i=k
     ·subst hik
      cases hx:X i with
      |true=>rfl
      |false=>exact absurd ⟨hB,hx⟩ hb
     ·exact h2 i (by omega) hB
   ·exact⟨k,by omega,h2,.inr h3⟩
 obtain⟨k,h1,h2,h3⟩:=least ops.size (w0b _)
 refine⟨k,h1,fun i hi hB=>⟨fun hXi=> ?_,fun hlt=>h2 i hlt hB⟩,h3.imp id (fun h=>h.1)⟩
 rcases w3e i k with hlt|hge
 ·exact hlt
 ·exfalso
  rcases h3 with rfl|⟨hBk,hXk⟩
  ·omega
  ·have hne:k≠i:=fun e=>by subst e;rw[hXk] at hXi;cases hXi
   have hkn:k<ops.size:=by omega
   obtain⟨ok,ak,p1,p2,_⟩:=D.at_ hkn
   obtain⟨oi,ai,q1,q2,_⟩:=D.at_ hi
   unfold isB at hBk hB
   rw[xF p2] at hBk
   rw[xF q2] at hB
   have hord:ordered (masks ops.toList []) k i=true:=by
    cases ho:ordered (masks ops.toList []) k i with
    |true=>rfl
    |false=>
     have:=(D.pair p1 q1 p2 q2 hne ho).2.1
     rw[hBk,hB] at this;cases this
   have:=tq hX (i:=k) (j:=i) (by omega) (.inl hord) hXi
   rw[hXk] at this;cases this
theorem Mid.next (D:Dr P O ops al m0 S W) {rs0:Nat→Bool} (hrs0: ∀st,rs0 st=true→st<(S 0).m.nx) {X:Nat→Bool} {g:G} {w:World} {a:Act} (M:Mid ops al S rs0 m0.stk.length X g w a) {j:Nat} {o:Oper} (ho:ops[j]? =some o) (hXj:X j=false) (hX:Closed ops X)
  (hX':Closed ops fun i=>X i||i==j) (K:Act→World→Prop) (hK: ∀g' a' w',ExtW g w g' w'→Mid ops al S rs0 m0.stk.length (fun i=>X i||i==j) g' w' a'→a'.defers=a.defers→K a' w'):wpOp P ops Q j K a w:=by
 have hjlt:j<ops.size:=(Array.getElem?_eq_some_iff.1 ho).1
 obtain⟨ao,ha,hisop,hreads⟩:=D.hop j o ho
 obtain⟨b,r,hw,hρ,hfalse,htrue⟩:=D.step ha
 obtain⟨ds,op0,hop,hevop,hkop⟩:=hisop.op
 have hdst:=hisop.dst
 have hguard:=hisop.guard
 have hord: ∀i,i<ops.size→i≠j→ordered (masks ops.toList []) i j=true→(X i=true↔i<j):=by
  intro i hi hne h
  constructor
  ·intro hXi
   rcases w3e i j with hlt|hge
   ·exact hlt
   ·have:=tq hX (i:=j) (j:=i) (by omega) (.inr h) hXi
    rw[hXj] at this;cases this
  ·intro hlt
   have:=tq hX' (i:=i) (j:=j) hlt (.inl h) (by simp)
   simp only[w31,beq_iff_eq] at this
   exact this.resolve_right hne
 have hpair: ∀i oi ai,ops[i]? =some oi→al[i]? =some ai→i≠j→(clash ops oi o=true∨(mvB ai.op=true∧mvB ao.op=true))→ordered (masks ops.toList []) i j=true:=by
  intro i oi ai h1 h2 hne h
  cases hoo:ordered (masks ops.toList []) i j with
  |true=>rfl
  |false=>
   obtain⟨q1,q2,_⟩:=D.pair h1 ho h2 ha hne hoo
   rcases h with h|⟨h,h'⟩
   ·rw[h] at q1;cases q1
   ·rw[h,h'] at q2;cases q2
 have hlook: ∀t∈looksAt ops o,Cut ops.size X (wr ops t) j:=by
  intro t ht i hi hwr
  obtain⟨oi,ai,h1,h2,_⟩:=D.at_ hi
  simp only[wr,h1,beq_iff_eq] at hwr
  by_cases hne:i=j
  ·subst hne
   constructor
   ·intro h;rw[hXj] at h;cases h
   ·intro h;omega
  ·refine hord i hi hne (hpair i oi ai h1 h2 hne (.inl ?_))
   unfold clash
   rw[hwr]
   simp[ht]
 have hmask:Reps g w (mask (looksAt ops o) (S j).ρ) a.tmps.toList:=by
  refine⟨by simp[z6c,D.reg_len j (by omega),M.len],fun t c v h1 h2=> ?_⟩
  rw[z6d] at h1
  simp only[w02] at h1
  obtain⟨x,hx,h1⟩:=h1
  by_cases ht:t∈looksAt ops o
  ·have hcon:(looksAt ops o).contains t=true:=by simpa using ht
   rw[if_pos hcon] at h1
   subst h1
   obtain⟨v',h3,h4⟩:=M.reg t j x (by omega) (hlook t ht) hx
   have h2':a.tmps[t]? =some v:=by simpa using h2
   rw[h3] at h2'
   injection h2' with h2'
   rw[←h2'];exact h4
  ·have hcon: ¬(looksAt ops o).contains t=true:=by simpa using ht
   rw[if_neg hcon] at h1
   subst h1
   exact .undef v
 have hwant:wanted (mask (looksAt ops o) (S j).ρ) ao.guard=some b:=by
  rw[←hw]
  unfold compGuard at hguard
  split at hguard
  ·injection hguard with hguard;rw[←hguard];rfl
  ·rename_i q want hgd
   split at hguard
   ·rename_i d hd
    injection hguard with hguard
    rw[←hguard]
    have hmem:d∈looksAt ops o:=by
     unfold looksAt
     rw[hgd]
     simp[hd]
    simp only[wanted,QK hmem]
   ·cases hguard
 have hcomp: ∃ao0,compOper P ds ops o=some ao0∧ao0.guard=ao.guard:=by
  refine⟨⟨o.dst,op0,ao.guard,false⟩,?_,rfl⟩
  unfold compOper
  rw[hop,hguard]
 have hRw:Region.wanted o (yielded ops a.tmps)=b:=by
  obtain⟨ao0,h1,h2⟩:=hcomp
  exact YM h1 hmask (by rw[h2];exact hwant)
 have hcongr: ∀mm:Mem,evOp O (mask (looksAt ops o) (S j).ρ) mm op0=evOp O (S j).ρ mm ao.op:=by
  intro mm
  rw[←hevop]
  refine z7Z fun y hy=> ?_
  cases y with
  |c v=>rfl
  |t i=>exact QK (Zk hreads i hy) _
 have after: ∀g' w' v,ExtW g w g' w'→Rep g' w' r v→(∀k,Nxt al ops.size (fun i=>X i||i==j) k→Inv g' w' (S k).m)→
   (∀k,Nxt al ops.size (fun i=>X i||i==j) k→ ∀st,g'.rs st=true↔(rs0 st=true∨ ∃i,Pend al S (fun i=>X i||i==j) k i∧st=(S i).m.nx))→
   (∀k,Nxt al ops.size (fun i=>X i||i==j) k→ ∀i,Pend al S (fun i=>X i||i==j) k i→(S k).m.blk m0.stk.length (S i).m.cur.length (S i).m.nx=some (content S i))→
   Mid ops al S rs0 m0.stk.length (fun i=>X i||i==j) g' w' (a.put o.dst v):=by
  intro g' w' v hx hr hmem hrsv hcont
  refine⟨hmem,hrsv,hcont,fun t k x hk hcut hx'=> ?_,by cases o.dst<;>simp[Act.put,M.len]⟩
  by_cases hd:o.dst=some t
  ·have hwrj:wr ops t j=true:=by simp[wr,ho,hd]
   have hjk:j<k:=(hcut j hjlt hwrj).1 (by simp)
   have hconst:=D.reg_const t (j+1) k (by omega) hk (fun i h1 h2=>by
    cases hwi:wr ops t i with
    |false=>rfl
    |true=>
     exfalso
     obtain⟨oi,ai,p1,p2,_⟩:=D.at_ (i:=i) (by omega)
     have hXi:=(hcut i (by omega) hwi).2 h2
     simp only[w31,beq_iff_eq] at hXi
     have hXi':X i=true:=hXi.resolve_right (by omega)
     have hcl:clash ops oi o=true:=by
      simp only[wr,p1,beq_iff_eq] at hwi
      unfold clash
      rw[hwi,hd]
      simp
     have:=(hord i (by omega) (by omega) (hpair i oi ai p1 p2 (by omega) (.inl hcl))).1 hXi'
     omega)
   rw[hconst,hρ,z1q,hdst] at hx'
   have hlt:t<(S j).ρ.length:=by
    rcases w3e t (S j).ρ.length with h|h
    ·exact h
    ·rw[if_neg (by omega),w17 h] at hx';cases hx'
   rw[if_pos ⟨hd,hlt⟩] at hx'
   injection hx' with hx'
   subst hx'
   refine⟨v,?_,hr⟩
   rw[hd]
   simp only[Act.put]
   have:t<a.tmps.size:=by rw[M.len,←D.reg_len j (by omega)];exact hlt
   simp[this]
  ·have hcut':Cut ops.size X (wr ops t) k:=by
    intro i hi hwi
    have hne:i≠j:=by
     intro h;subst h
     simp only[wr,ho,beq_iff_eq] at hwi
     exact hd hwi
    have:=hcut i hi hwi
    have h2:(i==j)=false:=by simp[hne]
    simp only[h2,Bool.or_false] at this
    exact this
   obtain⟨v0,h1,h2⟩:=M.reg t k x hk hcut' hx'
   refine⟨v0,?_,h2.monoW hx⟩
   cases hdd:o.dst with
   |none=>exact h1
   |some d=>
    simp only[Act.put]
    have hne:d≠t:=fun h=>hd (by rw[hdd,h])
    rw[Array.getElem?_setIfInBounds_ne hne]
    exact h1
 obtain⟨k,hk⟩:=D.nxt hX
 obtain⟨k',hk'⟩:=D.nxt hX'
 have I:=M.mem k hk
 have hklen:=D.lens k hk.1
 have early: ∀i,i<ops.size→isA al i=true→X i=true→i<k:=by
  intro i hi hA hXi
  rcases w3e i k with hlt|hge
  ·exact hlt
  ·exfalso
   rcases hk.2.2 with e|hB
   ·omega
   ·have hne:i≠k:=fun e=>by rw[e] at hA;rw[z9d hA] at hB;cases hB
    have hkn:k<ops.size:=by omega
    obtain⟨oi,ai,p1,p2,_⟩:=D.at_ hi
    obtain⟨ok,ak,q1,q2,_⟩:=D.at_ hkn
    have hXk:X k=false:=by
     cases hx:X k with
     |false=>rfl
     |true=>have:=(hk.2.1 k hkn hB).1 hx;omega
    cases hoo:ordered (masks ops.toList []) i k with
    |true=>
     have:=tq hX (i:=k) (j:=i) (by omega) (.inr hoo) hXi
     rw[hXk] at this;cases this
    |false=>
     have:=(D.pair p1 q1 p2 q2 hne hoo).2.2.1
     unfold isA at hA
     unfold isB at hB
     rw[xF p2] at hA
     rw[xF q2] at hB
     rw[hA,hB] at this
     simp at this
     omega
 unfold wpOp
 rw[ho]
 simp only
 rw[hRw]
 cases hB:isB al j with
 |true=>
  have hmvj:mvB ao.op=true:=by unfold isB at hB;rw[xF ha] at hB;exact hB
  have hkj:k=j:=by
   rcases Nat.lt_trichotomy k j with hlt|rfl|hgt
   ·exfalso
    have hkn:k<ops.size:=by omega
    have hBk:isB al k=true:=hk.2.2.elim (fun e=>by omega) id
    obtain⟨ok,ak,q1,q2,_⟩:=D.at_ hkn
    have hmk:mvB ak.op=true:=by unfold isB at hBk;rw[xF q2] at hBk;exact hBk
    have hXk:=(hord k hkn (by omega) (hpair k ok ak q1 q2 (by omega) (.inr ⟨hmk,hmvj⟩))).2 hlt
    have:=(hk.2.1 k hkn hBk).1 hXk
    omega
   ·rfl
   ·exfalso
    have:=(hk.2.1 j hjlt hB).2 hgt
    rw[hXj] at this;cases this
  subst hkj
  have hjk':k<k':=(hk'.2.1 k hjlt hB).1 (by simp)
  have hnoB: ∀i,k+1≤i→i<k'→isB al i=false:=by
   intro i h1 h2
   cases hBi:isB al i with
   |false=>rfl
   |true=>
    exfalso
    have hXi:=(hk'.2.1 i (by have:=hk'.1;omega) hBi).2 h2
    simp only[w31,beq_iff_eq] at hXi
    have:=(hk.2.1 i (by have:=hk'.1;omega) hBi).1 (hXi.resolve_right (by omega))
    omega
  have fin: ∀g' w' v,ExtW g w g' w'→g'.rs=g.rs→Inv g' w' (S (k+1)).m→Rep g' w' r v→
    (∀i,Pend al S X k i→(S (k+1)).m.blk m0.stk.length (S i).m.cur.length (S i).m.nx=some (content S i))→
    ∃g'',ExtW g w g'' w'∧Mid ops al S rs0 m0.stk.length (fun i=>X i||i==k) g'' w' (a.put o.dst v):=by
   intro g' w' v hx hrs hI hr hc
   obtain⟨g'',e1,e2,e3⟩:=D.reserve (k+1) k' (by omega) hk'.1 hnoB hI
   have hgrew:=D.grew (k+1) k' (by omega) hk'.1 hnoB
   refine⟨g'',hx.trans e1,after g'' w' v (hx.trans e1) (hr.monoW e1) (fun q hq=> ?_) (fun q hq st=> ?_) (fun q hq i hp=> ?_)⟩
   ·rw[hq.uniq hk'];exact e2
   ·rw[hq.uniq hk',e3 st,hrs,M.rsv k hk st]
    constructor
    ·rintro((h|⟨i,⟨h1,h2,h3,h4⟩,h5⟩)|⟨i,h1,h2,h3,h4,h5⟩)
     ·exact .inl h
     ·exact .inr ⟨i,⟨by omega,h2,h3,by simp only[h4,Bool.false_or,beq_eq_false_iff_ne];omega⟩,h5⟩
     ·refine .inr ⟨i,⟨h2,h3,h4,?_⟩,h5⟩
      simp only[w3b,beq_eq_false_iff_ne]
      refine⟨?_,by omega⟩
      cases hxi:X i with
      |false=>rfl
      |true=>have:=early i (by have:=hk'.1;omega) h3 hxi;omega
    ·rintro(h|⟨i,⟨h1,h2,h3,h4⟩,h5⟩)
     ·exact .inl (.inl h)
     ·simp only[w3b,beq_eq_false_iff_ne] at h4
      rcases w3e i k with hlt|hge
      ·exact .inl (.inr ⟨i,⟨hlt,h2,h3,h4.1⟩,h5⟩)
      ·exact .inr ⟨i,by omega,h1,h2,h3,h5⟩
   ·rw[hq.uniq hk'] at hp⊢
    obtain⟨h1,h2,h3,h4⟩:=hp
    simp only[w3b,beq_eq_false_iff_ne] at h4
    rcases w3e i k with hlt|hge
    ·exact hgrew.blk (hc i ⟨hlt,h2,h3,h4.1⟩)
    ·have hin:i<ops.size:=by have:=hk'.1;omega
     have hg2:=D.grew (i+1) k' (by omega) hk'.1 (fun q a1 a2=>hnoB q (by omega) a2)
     exact hg2.blk (D.made_blk hin h2 h3)
  cases b with
  |false=>
   obtain⟨hr,hm⟩:=hfalse rfl
   simp only[w28,if_false]
   obtain⟨g'',e1,e2⟩:=fin g w Go.undef (Ext.refl g w).toExtW rfl (by rw[hm];exact I) (by rw[hr];exact xT g w) (fun i hp=>by rw[hm];exact M.cont k hk i hp)
   exact hK g'' _ w e1 e2 (vS _ _)
  |true=>
   simp only[if_true]
   left
   rcases htrue rfl with⟨hf,_,_⟩|⟨hf,hs,hcl,m',h1,hm⟩|⟨hf,hs,h1⟩
   ·exfalso
    obtain⟨g1,n1,y1,h|h,_⟩:=hisop.flt hf<;>rw[h] at hmvj<;>cases hmvj
   ·have h1':=h1
    rw[←hcongr] at h1
    have hcs: ∀i,Pend al S X k i→(S (k+1)).m.blk m0.stk.length (S i).m.cur.length (S i).m.nx=some (content S i):=by
     intro i hp
     have hb:=M.cont k hk i hp
     rw[hm]
     obtain⟨n',ad,x,hop'⟩:=z0n hs hcl
     have hop2:op0= .store n' ad x:=by
      rcases hkop with h|⟨_,_,_,_,h⟩
      ·rw[h,hop']
      ·rw[hop'] at h;cases h
     obtain⟨t',x',z',_,hx',_⟩:=z3c (YH (by rw[←hop2];exact hop) (fun e he=>by cases he))
     have hrep:=ze hmask hx'
     have hae':ad.ev (mask (looksAt ops o) (S k).ρ)=ad.ev (S k).ρ:=by
      cases ad with
      |c c=>rfl
      |t q=>exact QK (Zk hreads q (by rw[hop'];simp[AOp.reads])) _
     rw[hop'] at h1'
     simp only[evOp,evStore] at h1'
     split at h1'
     ·rename_i l2 k2 st2 off2 hae
      split at h1'
      ·rename_i cs2 hb2
       split at h1'
       ·simp only[Option.some.injEq,Prod.mk.injEq] at h1'
        obtain⟨_,rfl⟩:=h1'
        rw[z0G]
        refine Tc (m:={(S k).m with floor:=m0.floor}) (fun e=> ?_) hb
        obtain⟨rfl,rfl⟩:=e
        have hst:=(z43 (m:=(S k).m) hb2 hb).1
        have hres:=(M.rsv k hk ((S i).m.nx)).2 (.inr ⟨i,hp,rfl⟩)
        have hnone:=(I.rsv _ hres).1
        rw[hae',hae] at hrep
        obtain⟨b1,o1,e1,hbt,_⟩:=hrep.inv_ptr
        rw[hst,hnone] at hbt;cases hbt
       ·cases h1'
      ·cases h1'
     ·cases h1'
    refine z8P D.hO hop (by simp only;have:=D.hf;have:=hklen.1;omega) h1 hmask (UE _ I) fun g' w' v hx hI hr=> ?_
    obtain⟨g'',e1,e2⟩:=fin g' w' v hx.toExtW hx.rs (by rw[hm];exact UE _ hI) hr hcs
    exact hK g'' _ w' e1 e2 (vS _ _)
   ·rw[←hcongr] at h1
    have hab:=qz (ρ:=mask (looksAt ops o) (S k).ρ) D.hA (by rw[hklen.1,hklen.2];omega) (fun h=>by
     exfalso
     rcases hkop with e|⟨_,_,_,e,_⟩
     ·rw[e,hs] at h;cases h
     ·rw[e] at h;cases h) h1
    refine z8P D.hO hop (by omega) h1 hmask I fun g' w' v hx hI hr=> ?_
    obtain⟨g'',e1,e2⟩:=fin g' w' v hx.toExtW hx.rs hI hr (fun i hp=>hab.blk _ _ _ _ (by rw[hklen.2];omega) (M.cont k hk i hp))
    exact hK g'' _ w' e1 e2 (vS _ _)
 |false=>
  have hkk:Nxt al ops.size (fun i=>X i||i==j) k:=by
   refine⟨hk.1,fun i hi hBi=> ?_,hk.2.2⟩
   have hne:(i==j)=false:=by
    simp only[beq_eq_false_iff_ne]
    intro e
    rw[e,hB] at hBi;cases hBi
   simp only[hne,Bool.or_false]
   exact hk.2.1 i hi hBi
  have hmv:mvB ao.op=false:=by unfold isB at hB;rw[xF ha] at hB;exact hB
  have same: ∀g' w' v,Ext g w g' w'→Inv g' w' (S k).m→Rep g' w' r v→(isA al j=false∨(S (j+1)).m.nx=(S j).m.nx)→Mid ops al S rs0 m0.stk.length (fun i=>X i||i==j) g' w' (a.put o.dst v):=by
   intro g' w' v hx hI hr hno
   have hp: ∀i,Pend al S (fun i=>X i||i==j) k i↔Pend al S X k i:=by
    intro i
    constructor
    ·rintro⟨h1,h2,h3,h4⟩
     simp only[w3b] at h4
     exact⟨h1,h2,h3,h4.1⟩
    ·rintro⟨h1,h2,h3,h4⟩
     refine⟨h1,h2,h3,?_⟩
     simp only[w3b,beq_eq_false_iff_ne]
     refine⟨h4,fun e=> ?_⟩
     subst e
     rcases hno with h|h
     ·rw[h] at h2;cases h2
     ·exact h3 h
   refine after g' w' v hx.toExtW hr (fun q hq=> ?_) (fun q hq st=> ?_) (fun q hq i hpi=> ?_)
   ·rw[hq.uniq hkk];exact hI
   ·rw[hq.uniq hkk,hx.rs,M.rsv k hk st]
    simp only[hp]
   ·rw[hq.uniq hkk] at hpi⊢
    exact M.cont k hk i ((hp i).1 hpi)
  cases hA:isA al j with
  |true=>
   have hkA:kindA ao.op=true:=by unfold isA at hA;rw[xF ha] at hA;exact hA
   have hjk:j<k:=by
    rcases w3e j k with h|h
    ·exact h
    ·exfalso
     have hne:k≠j:=by
      intro e
      rcases hk.2.2 with e2|e2
      ·omega
      ·rw[e,hB] at e2;cases e2
     have hkn:k<ops.size:=by omega
     have hBk:isB al k=true:=hk.2.2.elim (fun e=>by omega) id
     have hXk:X k=false:=by
      cases hx:X k with
      |false=>rfl
      |true=>have:=(hk.2.1 k hkn hBk).1 hx;omega
     obtain⟨ok,ak,q1,q2,_⟩:=D.at_ hkn
     cases hoo:ordered (masks ops.toList []) k j with
     |true=>
      have:=(hord k hkn hne hoo).2 (by omega)
      rw[hXk] at this;cases this
     |false=>
      have:=(D.pair ho q1 ha q2 (fun e=>hne e.symm) (by rw[z4G];exact hoo)).2.2.1
      unfold isB at hBk
      rw[xF q2] at hBk
      rw[hkA,hBk] at this
      simp at this
      omega
   cases b with
   |false=>
    obtain⟨hr,hm⟩:=hfalse rfl
    simp only[w28,if_false]
    exact hK g _ w (Ext.refl g w).toExtW (same g w Go.undef (Ext.refl g w) I (by rw[hr];exact xT g w) (.inr (by rw[hm]))) (vS _ _)
   |true=>
    simp only[if_true]
    left
    rcases htrue rfl with⟨hf,_,_⟩|⟨hf,hs,_⟩|⟨hf,hs,h1⟩
    ·exfalso
     obtain⟨g1,n1,y1,h|h,_⟩:=hisop.flt hf<;>rw[h] at hkA<;>cases hkA
    ·exfalso
     cases hop':ao.op<;>rw[hop'] at hs hkA<;>first|(cases hs;done)|(cases hkA;done)
    ·have hop0:op0=ao.op:=by
      rcases hkop with h|⟨_,_,_,_,h⟩
      ·exact h
      ·rw[h] at hkA;cases hkA
     obtain⟨cs,hcs⟩:=z3I hkA h1
     have hmade:(S (j+1)).m.nx≠(S j).m.nx:=by rw[hcs];simp
     have hm:=D.made hjlt hB hmade
     have hpend:Pend al S X k j:=⟨hjk,hA,hmade,hXj⟩
     rw[←hcongr] at h1
     have hin: ∀bl∈(S k).m.all,bl.st=(S j).m.nx→bl.cs=content S j:=by
      intro bl hbl hst
      have:=z3z I.nd hbl (zI (M.cont k hk j hpend)) hst
      rw[this]
     obtain⟨g',w',v,hrun,hx,hI,hr,hrs⟩:=z7I hop (by rw[hop0];exact hkA) h1 hm hmask I hin ((M.rsv k hk _).2 (.inr ⟨j,hpend,rfl⟩))
     unfold Oper.wp
     rw[hrun,Oper.upon_value]
     have hne: ∀i,i<ops.size→isA al i=true→(S (i+1)).m.nx≠(S i).m.nx→i≠j→(S i).m.nx≠(S j).m.nx:=by
      intro i hi hAi hmi hij
      have b1:=D.nx_succ hi
      have b2:=D.nx_succ hjlt
      rcases w3e i j with hlt|hge
      ·have:=D.nx_mono (i+1) j (by omega) (by omega);omega
      ·have:=D.nx_mono (j+1) i (by omega) (by omega);omega
     refine hK g' _ w' hx (after g' w' v hx hr (fun q hq=> ?_) (fun q hq st=> ?_) (fun q hq i hpi=> ?_)) (vS _ _)
     ·rw[hq.uniq hkk];exact hI
     ·rw[hq.uniq hkk,hrs]
      simp only[w0e,bne_iff_ne]
      rw[M.rsv k hk st]
      constructor
      ·rintro⟨h|⟨i,⟨a1,a2,a3,a4⟩,a5⟩,hn⟩
       ·exact .inl h
       ·refine .inr ⟨i,⟨a1,a2,a3,?_⟩,a5⟩
        simp only[w3b,beq_eq_false_iff_ne]
        exact⟨a4,fun e=>hn (by rw[a5,e])⟩
      ·rintro(h|⟨i,⟨a1,a2,a3,a4⟩,a5⟩)
       ·refine⟨.inl h,fun e=> ?_⟩
        have:=hrs0 st h
        have:=D.nx_mono 0 j (w0c _) (by omega)
        omega
       ·simp only[w3b,beq_eq_false_iff_ne] at a4
        refine⟨.inr ⟨i,⟨a1,a2,a3,a4.1⟩,a5⟩,fun e=> ?_⟩
        exact hne i (by have:=hk.1;omega) a2 a3 a4.2 (by rw[←a5,e])
     ·rw[hq.uniq hkk] at hpi⊢
      obtain⟨a1,a2,a3,a4⟩:=hpi
      simp only[w3b] at a4
      exact M.cont k hk i ⟨a1,a2,a3,a4.1⟩
  |false=>
   have hkA:kindA ao.op=false:=by unfold isA at hA;rw[xF ha] at hA;exact hA
   have hkind:=z3H hmv hkA
   cases b with
   |false=>
    obtain⟨hr,hm⟩:=hfalse rfl
    simp only[w28,if_false]
    exact hK g _ w (Ext.refl g w).toExtW (same g w Go.undef (Ext.refl g w) I (by rw[hr];exact xT g w) (.inl hA)) (vS _ _)
   |true=>
    simp only[if_true]
    left
    have hw0:=hw
    have hev:evOp O (S j).ρ (S k).m ao.op=some (r,(S k).m):=by
     rcases htrue rfl with⟨hf,⟨m',h1⟩,_⟩|⟨hf,hs,_⟩|⟨hf,hs,h1⟩
     ·obtain⟨g1,n1,y1,hld,hw⟩:=hisop.flt hf
      refine D.float hjlt ha hf hw0 hk.1 hld hw (fun p ap hp hap hs=> ?_) h1
      have hpn:p<ops.size:=by have:=hk.1;omega
      have hBp:isB al p=true:=by
       unfold isB
       rw[xF hap]
       exact z3n hs
      have hXp:=(hk.2.1 p hpn hBp).2 hp
      obtain⟨h2,h3⟩:=D.flt_before hpn hjlt hap ha hs hf
      refine⟨h2,?_⟩
      rcases h3 with h3|h3
      ·have:=tq hX (i:=j) (j:=p) h2 (.inr h3) hXp
       rw[hXj] at this;cases this
      ·exact h3
     ·exfalso
      rw[z3n hs] at hmv;cases hmv
     ·by_cases hk0:ao.op.kind=0
      ·exact(z3U hk0 h1).2 _
      ·have hk1:ao.op.kind=1:=by omega
       obtain⟨hmm,hev0⟩:=z3V hkind h1
       have hall: ∀i,i<ops.size→isB al i=true→ordered (masks ops.toList []) i j=true:=by
        intro i hi hBi
        obtain⟨oi,ai,p1,p2,_⟩:=D.at_ hi
        have hne:i≠j:=fun e=>by rw[e,hB] at hBi;cases hBi
        cases hoo:ordered (masks ops.toList []) i j with
        |true=>rfl
        |false=>
         have:=(D.pair p1 ho p2 ha hne hoo).2.2.2
         unfold isB at hBi
         rw[xF p2] at hBi
         rw[hBi,hk1,hf] at this
         simp at this
       have hjk:j≤k:=by
        rcases w3e k j with h|h
        ·exfalso
         have hkn:k<ops.size:=by omega
         have hBk:isB al k=true:=hk.2.2.elim (fun e=>by omega) id
         have hXk:=(hord k hkn (by omega) (hall k hkn hBk)).2 h
         have:=(hk.2.1 k hkn hBk).1 hXk
         omega
        ·exact h
       have hgrew:=D.grew j k hjk hk.1 (fun i a1 a2=>by
        cases hBi:isB al i with
        |false=>rfl
        |true=>
         exfalso
         have hin:i<ops.size:=by have:=hk.1;omega
         have hXi:=(hk.2.1 i hin hBi).2 a2
         have hne:i≠j:=fun e=>by rw[e,hB] at hBi;cases hBi
         have:=(hord i hin hne (hall i hin hBi)).1 hXi
         omega)
       exact hev0 _ (fun l q st cs h=>hgrew.blk h)
    rw[←hcongr] at hev
    refine z8P D.hO hop (by omega) hev hmask I fun g' w' v hx hI hr=> ?_
    exact hK g' _ w' hx.toExtW (same g' w' v hx hI hr (.inl hA)) (vS _ _)
end
section
variable {P : Program} {Q : Exit → Act → World → Prop}
structure PermOf (ops ops':Array Oper) (pos:Nat→Nat):Prop where
 size:ops'.size=ops.size
 lt: ∀i,i<ops.size→pos i<ops.size
 out: ∀i,¬i<ops.size→pos i=i
 inj: ∀i j,i<ops.size→j<ops.size→pos i=pos j→i=j
 onto: ∀p,p<ops.size→ ∃i,i<ops.size∧pos i=p
 get: ∀i o,ops[i]? =some o→ops'[pos i]? =some (movedTo pos o)
theorem PermOf.get_none {ops ops':Array Oper} {pos:Nat→Nat} (h:PermOf ops ops' pos) {i:Nat} (hi:ops[i]? =none):ops'[pos i]? =none:=by
 have: ¬i<ops.size:=by simpa using hi
 rw[h.out i this]
 rw[Array.getElem?_eq_none_iff,h.size];omega
theorem PermOf.yielded {ops ops':Array Oper} {pos:Nat→Nat} (h:PermOf ops ops' pos) (tmps:Array Value) (g:Nat):yielded ops' tmps (pos g)=yielded ops tmps g:=by
 unfold Go.yielded
 cases hg:ops[g]? with
 |none=>rw[h.get_none hg]
 |some o=>rw[h.get g o hg];rfl
theorem PermOf.wanted {ops ops':Array Oper} {pos:Nat→Nat} (h:PermOf ops ops' pos) (tmps:Array Value) (o:Oper):Region.wanted (movedTo pos o) (Go.yielded ops' tmps)=Region.wanted o (Go.yielded ops tmps):=by
 unfold Region.wanted movedTo
 cases hg:o.guard with
 |none=>rfl
 |some g=>
  obtain⟨j,w⟩:=g
  simp only[w0d,h.yielded]
theorem PermOf.wpOp {ops ops':Array Oper} {pos:Nat→Nat} (h:PermOf ops ops' pos) {i:Nat} {K:Act→World→Prop} {a:Act} {w:World} (hh:wpOp P ops' Q (pos i) K a w):wpOp P ops Q i K a w:=by
 unfold Go.wpOp at hh⊢
 cases hi:ops[i]? with
 |none=>
  rw[h.get_none hi] at hh
  exact hh
 |some o=>
  rw[h.get i o hi] at hh
  simp only at hh⊢
  rw[h.wanted] at hh
  exact hh
theorem kD {ops:Array Oper} {listed:Array Bool} {i:Nat}:i∈Region.ready .any ops listed↔
  i<ops.size∧listed.getD i true=false∧ ∃o,ops[i]? =some o∧ ∀e∈o.after,Region.binds .any e=true→listed.getD e.on false=true:=by
 unfold Region.ready
 rw[w53,w47]
 constructor
 ·rintro⟨h1,h2⟩
  simp only[w0e,Bool.not_eq_true'] at h2
  refine⟨h1,h2.1,ops[i],w1e h1,fun e he hb=> ?_⟩
  have h3:=h2.2
  rw[w1e h1,w0d,w2a,Array.all_eq_true_iff_forall_mem] at h3
  have:=h3 e he
  rw[hb] at this
  simpa using this
 ·rintro⟨h1,h2,o,h3,h4⟩
  refine⟨h1,?_⟩
  simp only[w0e,Bool.not_eq_true']
  refine⟨h2,?_⟩
  rw[h3,w0d,w2a,Array.all_eq_true_iff_forall_mem]
  intro e he
  cases hb:Region.binds .any e with
  |false=>rfl
  |true=>simp[h4 e he hb]
theorem PermOf.ready {ops ops':Array Oper} {pos:Nat→Nat} (h:PermOf ops ops' pos) {listed listed':Array Bool} (hs:listed.size=ops.size) (hs':listed'.size=ops.size) (hl: ∀i,i<ops.size→listed.getD i false=listed'.getD (pos i) false) {i:Nat} (hi:i<ops.size):
  i∈Region.ready .any ops listed→pos i∈Region.ready .any ops' listed':=by
 rw[kD,kD]
 have key: ∀e,listed.getD e false=listed'.getD (pos e) false:=by
  intro e
  by_cases he:e<ops.size
  ·exact hl e he
  ·rw[h.out e he,w16,w16,Array.getElem?_eq_none (by omega),Array.getElem?_eq_none (by omega)]
 rintro⟨h1,h2,o,h3,h4⟩
 refine⟨by rw[h.size];exact h.lt i h1,?_,_,h.get i o h3,fun e he hb=> ?_⟩
 ·have h5:=hl i h1
  have h6:=h.lt i h1
  rw[w16,w1e (by omega)] at h2
  rw[w16,w16,w1e (by omega),w1e (by omega)] at h5
  rw[w16,w1e (by omega)]
  simp only[w2a] at h2 h5⊢
  rw[←h5];exact h2
 ·simp only[movedTo,Array.mem_map] at he
  obtain⟨e0,he0,rfl⟩:=he
  have hb0:Region.binds .any e0=true:=hb
  rw[←key]
  exact h4 e0 he0 hb0
theorem PermOf.ready_nil {ops ops':Array Oper} {pos:Nat→Nat} (h:PermOf ops ops' pos) {listed listed':Array Bool} (hs:listed.size=ops.size) (hs':listed'.size=ops.size) (hl: ∀i,i<ops.size→listed.getD i false=listed'.getD (pos i) false):
  Region.ready .any ops listed=[]→Region.ready .any ops' listed'=[]:=by
 intro hn
 rw[List.eq_nil_iff_forall_not_mem] at hn⊢
 intro p hp
 rw[kD] at hp
 obtain⟨h1,h2,o',h3,h4⟩:=hp
 rw[h.size] at h1
 obtain⟨i,hi,rfl⟩:=h.onto p h1
 have key: ∀e,listed.getD e false=listed'.getD (pos e) false:=by
  intro e
  by_cases he:e<ops.size
  ·exact hl e he
  ·rw[h.out e he,w16,w16,Array.getElem?_eq_none (by omega),Array.getElem?_eq_none (by omega)]
 refine hn i (kD.2 ⟨hi,?_,ops[i],w1e hi,fun e he hb=> ?_⟩)
 ·have h5:=hl i hi
  rw[w16,w1e (by omega)] at h2
  rw[w16,w16,w1e (by omega),w1e (by omega)] at h5
  rw[w16,w1e (by omega)]
  simp only[w2a] at h2 h5⊢
  rw[h5];exact h2
 ·rw[h.get i _ (w1e hi)] at h3
  injection h3 with h3
  have:=h4 {e with on:=pos e.on} (by rw[←h3];simp only[movedTo,Array.mem_map];exact⟨e,he,rfl⟩) hb
  rw[key];exact this
theorem PermOf.wpAny {ops ops':Array Oper} {pos:Nat→Nat} (h:PermOf ops ops' pos): ∀(fuel:Nat) (listed listed':Array Bool) (a:Act) (w:World),listed.size=ops.size→listed'.size=ops.size→(∀i,i<ops.size→listed.getD i false=listed'.getD (pos i) false)→
  Go.wpAny P .any ops' Q fuel listed' a w→Go.wpAny P .any ops Q fuel listed a w
 |0,listed,listed',a,w,hs,hs',hl,hh=>by
  refine⟨?_,hh.2⟩
  rw[List.eq_nil_iff_forall_not_mem]
  intro i hi
  have hlt:=(kD.1 hi).1
  have:=h.ready hs hs' hl hlt hi
  rw[hh.1] at this;cases this
 |fuel+1,listed,listed',a,w,hs,hs',hl,hh=>by
  refine⟨fun hn=>hh.1 (h.ready_nil hs hs' hl hn),fun i hi=> ?_⟩
  have hlt:=(kD.1 hi).1
  refine h.wpOp (wpOp_mono (fun a' w' hk=> ?_) (hh.2 (pos i) (h.ready hs hs' hl hlt hi)))
  refine h.wpAny fuel _ _ a' w' (by simpa using hs) (by simpa using hs') (fun j hj=> ?_) hk
  rw[w16,w16]
  by_cases hij:i=j
  ·subst hij
   have:=h.lt i hlt
   rw[Array.getElem?_setIfInBounds_self_of_lt (by omega),Array.getElem?_setIfInBounds_self_of_lt (by omega)]
  ·rw[Array.getElem?_setIfInBounds_ne hij,Array.getElem?_setIfInBounds_ne (fun e=>hij (h.inj i j hlt hj e))]
   have:=hl j hj
   rw[w16,w16] at this
   exact this
theorem z7s (ops:Array Oper):(ordOf ops).Perm (List.range ops.size):=List.filter_append_perm _ _
theorem z7q (ops:Array Oper):PermOf ops (permOps ops) (posOf ops):=by
 have hp:=z7s ops
 have hlen:(ordOf ops).length=ops.size:=by rw[hp.length_eq];simp
 have hnd:(ordOf ops).Nodup:=hp.nodup_iff.2 List.nodup_range
 have hmem: ∀i,i∈ordOf ops↔i<ops.size:=fun i=>by rw[hp.mem_iff,w47]
 have hmap:((ordOf ops).filterMap fun i=>(ops[i]?).map (movedTo (posOf ops)))=(ordOf ops).map fun i=>movedTo (posOf ops) (ops.getD i default):=by
  have: ∀l:List Nat,(∀i∈l,i<ops.size)→(l.filterMap fun i=>(ops[i]?).map (movedTo (posOf ops)))=l.map fun i=>movedTo (posOf ops) (ops.getD i default):=by
   intro l
   induction l with
   |nil=>intro _;rfl
   |cons i r ih=>
    intro h
    have hi:=h i w1c
    rw[List.filterMap_cons,w1e hi]
    simp only[w0d,w35]
    rw[ih fun j hj=>h j (w18 _ hj)]
    congr 2
    rw[w16,w1e hi];rfl
  exact this _ fun i hi=>(hmem i).1 hi
 have hpos: ∀i,i<ops.size→(ordOf ops)[posOf ops i]? =some i:=by
  intro i hi
  have:i∈ordOf ops:=(hmem i).2 hi
  unfold posOf
  rw[if_pos hi,w13 (List.idxOf_lt_length_of_mem this),List.getElem_idxOf (List.idxOf_lt_length_of_mem this)]
 have hlt: ∀i,i<ops.size→posOf ops i<ops.size:=by
  intro i hi
  have:=(w06.1 (hpos i hi)).1
  omega
 refine⟨by unfold permOps;rw[hmap];simp[hlen],hlt,fun i hi=>by unfold posOf;rw[if_neg hi],fun i j hi hj e=> ?_,fun p hp'=> ?_,fun i o ho=> ?_⟩
 ·have h1:=hpos i hi
  rw[e,hpos j hj] at h1
  injection h1 with h1
  exact h1.symm
 ·have hp2:p<(ordOf ops).length:=by omega
  refine⟨(ordOf ops)[p],(hmem _).1 (w08 hp2),?_⟩
  have hi:(ordOf ops)[p]<ops.size:=(hmem _).1 (w08 hp2)
  unfold posOf
  rw[if_pos hi]
  exact hnd.idxOf_getElem p hp2
 ·have hi:i<ops.size:=(Array.getElem?_eq_some_iff.1 ho).1
  unfold permOps
  rw[hmap]
  rw[List.getElem?_toArray,w19,hpos i hi,w0d]
  congr 2
  rw[w16,ho];rfl
end
section
variable {P : Program} {O : Oracle} {ops : Array Oper} {ds : List Nat} {al : List AOper} {m0 : Mem} {S : Nat → St} {W : Nat → Watch} {Q : Exit → Act → World → Prop}
theorem zd2 {rs0:Nat→Bool} {X:Nat→Bool} {g:G} {w:World} {a:Act} (D:Dr P O ops al m0 S W) (M:Mid ops al S rs0 m0.stk.length X g w a) (hX: ∀i,i<ops.size→X i=true):
  Inv g w (S ops.size).m∧Reps g w (S ops.size).ρ a.tmps.toList∧g.rs=rs0:=by
 have cut: ∀p,Cut ops.size X p ops.size:=fun p i hi _=>⟨fun _=>hi,fun _=>hX i hi⟩
 have nx:Nxt al ops.size X ops.size:=⟨w0b _,cut _,.inl rfl⟩
 refine⟨M.mem _ nx,⟨by simp[M.len,D.reg_len ops.size (w0b _)],fun t c v h1 h2=> ?_⟩,?_⟩
 ·obtain⟨v',h3,h4⟩:=M.reg t ops.size c (w0b _) (cut _) h1
  have h2':a.tmps[t]? =some v:=by simpa using h2
  rw[h3] at h2'
  injection h2' with h2'
  rw[←h2'];exact h4
 ·funext st
  have:=M.rsv _ nx st
  have h2:(∃i,Pend al S X ops.size i∧st=(S i).m.nx)↔False:=by
   refine⟨fun⟨i,⟨h1,_,_,h4⟩,_⟩=> ?_,False.elim⟩
   rw[hX i h1] at h4;cases h4
  rw[h2,or_false] at this
  cases h:g.rs st with
  |true=>exact(this.1 h).symm
  |false=>cases h':rs0 st with
   |false=>rfl
   |true=>rw[this.2 h'] at h;cases h
theorem z7n (D:Dr P O ops al m0 S W) (listed:Array Bool) (hsz:listed.size=ops.size): ∀j,j<ops.size→listed.getD j false=false→ ∃i,i∈Region.ready .any ops listed:=by
 intro j
 induction j using Nat.strongRecOn with
 |_ j ih=>
  intro hj hl
  by_cases hall: ∀i,i<j→listed.getD i false=true
  ·refine⟨j,?_⟩
   unfold Region.ready
   rw[w53]
   refine⟨w47.2 hj,?_⟩
   have hoj:ops[j]? =some ops[j]:=w1e hj
   have h1:listed.getD j true=false:=by
    have:j<listed.size:=by omega
    rw[w16,w1e this] at hl⊢
    exact hl
   simp only[h1,Bool.not_false,Bool.true_and,hoj,w0d,w2a]
   rw[Array.all_eq_true_iff_forall_mem]
   intro e he
   cases hb:Region.binds .any e with
   |false=>rfl
   |true=>simp[hall e.on (D.edge hoj he hb)]
  ·have: ∃i,i<j∧listed.getD i false=false:=by
    refine Classical.byContradiction fun hne=>hall fun i hi=> ?_
    cases h:listed.getD i false with
    |true=>rfl
    |false=>exact absurd ⟨i,hi,h⟩ hne
   obtain⟨i,hi,hli⟩:=this
   exact ih i hi (by omega) hli
theorem z0B {l:List Bool} (h:l.count false=0): ∀i,i<l.length→l.getD i false=true:=by
 intro i hi
 rw[w00,w13 hi,w2a]
 cases hq:l[i] with
 |true=>rfl
 |false=>
  have:false∈l:=by rw[←hq];exact w08 hi
  rw[List.count_eq_zero] at h
  exact absurd this h
theorem z6T (D:Dr P O ops al m0 S W) (g0:G) (w0:World) (d0:List Deferred) (hrs0: ∀st,g0.rs st=true→st<(S 0).m.nx) (hQ: ∀g a w,Ext g0 w0 g w→Inv g w (S ops.size).m→Reps g w (S ops.size).ρ a.tmps.toList→a.defers=d0→Q .normal a w):
  ∀(fuel:Nat) (listed:Array Bool) (g:G) (w:World) (a:Act),listed.size=ops.size→listed.toList.count false=fuel→Closed ops (fun i=>listed.getD i false)→ExtW g0 w0 g w→Mid ops al S g0.rs m0.stk.length (fun i=>listed.getD i false) g w a→a.defers=d0→
   wpAny P .any ops Q fuel listed a w
 |0,listed,g,w,a,hsz,hcnt,hX,hx,M,hd=>by
  have hall: ∀i,i<ops.size→listed.getD i false=true:=by
   intro i hi
   have:=z0B hcnt i (by simp;omega)
   rw[w00] at this
   rw[w16]
   simpa using this
  obtain⟨h1,h2,h3⟩:=zd2 D M hall
  refine⟨?_,hQ g a w ⟨hx,h3⟩ h1 h2 hd⟩
  unfold Region.ready
  rw[List.filter_eq_nil_iff]
  intro i hi
  have hlt:i<ops.size:=w47.1 hi
  have hl:=hall i hlt
  have:listed.getD i true=true:=by
   have hh:i<listed.size:=by omega
   rw[w16,w1e hh] at hl⊢
   exact hl
  simp[this]
 |fuel+1,listed,g,w,a,hsz,hcnt,hX,hx,M,hd=>by
  refine⟨fun hnil=> ?_,fun j hj=> ?_⟩
  ·exfalso
   have: ∃j,j<ops.size∧listed.getD j false=false:=by
    refine Classical.byContradiction fun hne=> ?_
    have:listed.toList.count false=0:=by
     rw[List.count_eq_zero]
     intro hm
     obtain⟨i,hi⟩:=List.getElem?_of_mem hm
     have hlt:i<listed.size:=by simpa using (w06.1 hi).1
     refine hne ⟨i,by omega,?_⟩
     rw[w16]
     have:listed[i]? =some false:=by simpa using hi
     rw[this];rfl
    omega
   obtain⟨j,hj,hl⟩:=this
   obtain⟨i,hi⟩:=z7n D listed hsz j hj hl
   rw[hnil] at hi;cases hi
  ·unfold Region.ready at hj
   rw[w53] at hj
   obtain⟨h1,h2⟩:=hj
   have hjlt:j<ops.size:=w47.1 h1
   have hoj:ops[j]? =some ops[j]:=w1e hjlt
   simp only[hoj,w0d,w2a,w0e,Bool.not_eq_true'] at h2
   obtain⟨h3,h4⟩:=h2
   have hjl:j<listed.size:=by omega
   have hXj:listed.getD j false=false:=by
    rw[w16,w1e hjl] at h3⊢
    exact h3
   have hset:(fun i=>(listed.setIfInBounds j true).getD i false)=fun i=>listed.getD i false||i==j:=by
    funext i
    rw[w16,w16]
    by_cases hij:i=j
    ·subst hij
     rw[Array.getElem?_setIfInBounds_self_of_lt hjl]
     simp
    ·rw[Array.getElem?_setIfInBounds_ne (fun h=>hij h.symm)]
     simp[hij]
   have hX':Closed ops fun i=>listed.getD i false||i==j:=by
    intro k o hk hXk e he hb
    simp only[w31,beq_iff_eq] at hXk⊢
    left
    rcases hXk with hXk|rfl
    ·exact hX k o hk hXk e he hb
    ·rw[hk] at hoj
     injection hoj with hoj
     subst hoj
     rw[Array.all_eq_true_iff_forall_mem] at h4
     have:=h4 e he
     rw[hb] at this
     simpa using this
   refine M.next D hrs0 hoj hXj hX hX' _ fun g' a' w' hx' M' hd'=> ?_
   refine z6T D g0 w0 d0 hrs0 hQ fuel (listed.setIfInBounds j true) g' w' a' (by simpa using hsz) ?_ (by rw[hset];exact hX') (hx.trans hx') (by rw[hset];exact M') (hd'.trans hd)
   rw[Array.toList_setIfInBounds]
   have hget:listed.toList[j]'(by simpa using hjl)=false:=by
    rw[w16,w1e hjl] at hXj
    simpa using hXj
   have:=List.count_set (a:=true) (b:=false) (l:=listed.toList) (i:=j) (by simpa using hjl)
   rw[this,hget,hcnt]
   simp
theorem zbT (hO:OracleOk P O) (hA:OracleAbove O) (hc:compDraw P ds ops=some al)
  {σ σ':St} (hf:σ.m.floor≤σ.m.stk.length) (he:evDraw O σ.m [] al ⟨σ.ρ,{σ.m with floor:=max σ.m.floor (σ.m.stk.length+1)}⟩=some σ') {g:G} {w:World} {a:Act} (hR:Reps g w σ.ρ a.tmps.toList) (I:Inv g w σ.m)
  (hK:Goes g w a σ'.ρ σ'.m (Q .normal)):wpAny P .any ops Q ops.size (Array.replicate ops.size false) a {w with drawn:=w.drawn+1}:=by
 obtain⟨S,W,h0,_,h1,h2⟩:=z2c he
 obtain⟨hd,hn,hop⟩:=z59 hc
 have D:Dr P O ops al σ.m S W:=⟨hO,hA,hd,hop,h2,by rw[h0];simp only;rw[Nat.max_eq_right (by omega)],hf⟩
 have hrep:(fun i=>(Array.replicate ops.size false).getD i false)=fun _=>false:=by
  funext i
  rw[w16,Array.getElem?_replicate]
  split<;>rfl
 have hcut0: ∀p k,k≤ops.size→Cut ops.size (fun _=>false) p k→ ∀i,i<k→p i=false:=by
  intro p k hk h i hi
  cases hp:p i with
  |false=>rfl
  |true=>have:=(h i (by omega) hp).2 hi;cases this
 have hnx:(S 0).m.nx=σ.m.nx:=by rw[D.h0]
 obtain⟨k,hk⟩:=D.nxt (X:=fun _=>false) (fun j o _ h=>by cases h)
 have I0:Inv g w.drew (S 0).m:=by rw[D.h0];exact UE _ I.drew
 obtain⟨g1,e1,e2,e3⟩:=D.reserve 0 k (w0c _) hk.1 (fun i _ hi=>hcut0 _ k hk.1 hk.2.1 i hi) I0
 have hx1:ExtW g w g1 w.drew:=(Ext.drew g w).toExtW.trans e1
 refine z6T D g w a.defers (fun st h=>by rw[hnx];exact(I.rsv st h).2) (fun g' a' w' hx hI hR' hd'=> ?_) ops.size _ g1 _ a (by simp) ?_ (by rw[hrep];intro j o _ h;cases h) hx1 ?_ rfl
 ·rw[←hn,h1] at hI hR'
  exact hK g' a' w' hx hI hR' hd'
 ·simp[List.count_replicate]
 ·rw[hrep]
  refine⟨fun q hq=> ?_,fun q hq st=> ?_,fun q hq i hp=> ?_,fun t k x hk hcut hx=> ?_,by rw[h0];simpa using hR.1⟩
  ·rw[hq.uniq hk];exact e2
  ·rw[hq.uniq hk,e3 st]
   constructor
   ·rintro(h|⟨i,_,b1,b2,b3,b4⟩)
    ·exact .inl h
    ·exact .inr ⟨i,⟨b1,b2,b3,rfl⟩,b4⟩
   ·rintro(h|⟨i,⟨b1,b2,b3,_⟩,b4⟩)
    ·exact .inl h
    ·exact .inr ⟨i,w0c _,b1,b2,b3,b4⟩
  ·rw[hq.uniq hk] at hp⊢
   obtain⟨b1,b2,b3,_⟩:=hp
   have hg2:=D.grew (i+1) k (by omega) hk.1 (fun q _ a2=>hcut0 _ k hk.1 hk.2.1 q a2)
   exact hg2.blk (D.made_blk (by have:=hk.1;omega) b2 b3)
  ·have:=D.reg_const t 0 k (w0c _) hk (fun i _ hi=>hcut0 _ k hk hcut i hi)
   rw[this,h0] at hx
   obtain⟨v,h3,h4⟩:=hR.get hx
   exact⟨v,by simpa using h3,h4.monoW hx1⟩
theorem zdz {id:Nat} (hM:P.follows .mixedOrders=true) (hO:OracleOk P O) (hA:OracleAbove O) (hc:compDraw P ds (permOps ops)=some al)
  {σ σ':St} (hf:σ.m.floor≤σ.m.stk.length) (he:evDraw O σ.m [] al ⟨σ.ρ,{σ.m with floor:=max σ.m.floor (σ.m.stk.length+1)}⟩=some σ') {g:G} {w:World} {a:Act} (hR:Reps g w σ.ρ a.tmps.toList) (I:Inv g w σ.m)
  (hK:Goes g w a σ'.ρ σ'.m (Q .normal)):(Code.region id ops true).wp P Q a w:=by
 refine wp_region_any hM ?_
 have hp:=z7q ops
 have hfalse: ∀n i,(Array.replicate n false).getD i false=false:=by
  intro n i
  rw[w16,Array.getElem?_replicate]
  split<;>rfl
 have h0:=zbT (Q:=Q) hO hA hc hf he hR I hK
 rw[hp.size] at h0
 exact hp.wpAny ops.size _ _ a _ (by simp) (by simp) (fun i _=>by rw[hfalse,hfalse]) h0
theorem kq (hA:OracleAbove O) {m1:Mem}: ∀{l:List AOper} {ws:Watch} {σ σ':St},m1.floor≤m1.stk.length→σ.m.stk.length=m1.stk.length→σ.m.floor=m1.stk.length+1→evDraw O m1 ws l σ=some σ'→
  σ'.m.stk.length=m1.stk.length∧(∀l k st cs,l<m1.floor→σ.m.blk l k st=some cs→σ'.m.blk l k st=some cs)∧σ.m.nx≤σ'.m.nx
 | [],ws,σ,σ',_,h1,_,h=>by simp[evDraw] at h;subst h;exact⟨h1,fun _ _ _ _ _ h=>h,w0b _⟩
 |o::r,ws,σ,σ',hf,h1,h2,h=>by
  simp only[evDraw] at h
  split at h
  ·split at h
   ·rename_i q hq
    exact kq hA (σ:=⟨q.ρ,σ.m⟩) hf h1 h2 h
   ·cases h
  ·split at h
   ·split at h
    ·split at h
     ·rename_i q hq
      have k:=kp hA (σ:=⟨σ.ρ,{σ.m with floor:=m1.floor}⟩) (by simp only;omega) (fun _=>by simp only;omega) hq
      obtain⟨a1,a2,a3⟩:=kq hA (σ:=⟨q.ρ,{q.m with floor:=σ.m.floor}⟩) hf (by simp only;rw[k.len];exact h1) (by simp only;exact h2) h
      exact⟨a1,fun l i st cs hl hb=>a2 l i st cs hl (k.blk l i st cs hl hb),w4a k.nx a3⟩
     ·cases h
    ·cases h
   ·split at h
    ·rename_i q hq
     have k:=kp hA (by rw[h1,h2];omega) (fun hh=>by simp_all) hq
     obtain⟨a1,a2,a3⟩:=kq hA (σ:=q) hf (k.len.trans h1) (k.floor.trans h2) h
     exact⟨a1,fun l i st cs hl hb=>a2 l i st cs hl (k.blk l i st cs (by rw[h2];omega) hb),w4a k.nx a3⟩
    ·cases h
end
def Out.exit':Out→Exit
 | .normal=> .normal
 | .exit id=> .exit id
 | .ret=> .ret
theorem z2w {P:Program} {c:Code} {Q:Exit→Act→World→Prop} (R:Nat→Act→World→Prop) (round: ∀n a w,R n a w→c.wp P (Exit.then (fun a' w'=> ∃m,m<n∧R m a' w') Q) a w) {n:Nat} {a:Act} {w:World} (h:R n a w):
  (Code.loop c).wp P Q a w:=by
 intro b k cs
 have key: ∀n a w,R n a w→ ∃e a' w',Q e a' w'∧Arrives P (lone (b.at a (.code c:: .inLoop c::k)) cs w) b k cs e a' w':=by
  intro n
  induction n using Nat.strongRecOn with
  |_ n ih=>
   intro a w hI
   obtain⟨e,a₁,w₁,hq,harr⟩:=round n a w hI b (.inLoop c::k) cs
   cases e with
   |normal=>
    obtain⟨m,hlt,hI₁⟩:=hq
    obtain⟨e₂,a₂,w₂,hq₂,harr₂⟩:=ih m hlt a₁ w₁ hI₁
    exact⟨e₂,a₂,w₂,hq₂,.of_steps (Steps.trans harr (.one step_inLoop)) harr₂⟩
   |exit id=>exact⟨_,a₁,w₁,hq,.pass (x:= .inLoop c) rfl (fun _ _=> .inl (by simp)) harr⟩
   |goto l=>exact⟨_,a₁,w₁,hq,.pass (x:= .inLoop c) rfl (fun _ _=> .inl (by simp)) harr⟩
   |ret=>exact⟨_,a₁,w₁,hq,.pass (x:= .inLoop c) rfl (fun _ _=> .inl (by simp)) harr⟩
   |panic ch=>exact⟨_,a₁,w₁,hq,.pass (x:= .inLoop c) rfl (fun _ _=> .inl (by simp)) harr⟩
   |outgrown=>exact⟨_,a₁,w₁,hq,.pass (x:= .inLoop c) rfl (fun _ _=> .inl (by simp)) harr⟩
 obtain⟨e,a',w',hq,harr⟩:=key n a w h
 exact⟨e,a',w',hq,.of_steps (.one step_loop) harr⟩
theorem z0p (live:List Nat) (nb:Nat) (σ:St) (h:σ.m.floor≤σ.m.stk.length):Above σ.m (heads live nb σ).m:=by
 refine⟨rfl,rfl,fun l k st cs hl hb=>tr hb fun x hx=> ?_,w0b _⟩
 unfold Mem.row heads at*
 simp only at hx⊢
 have: ¬(l==σ.m.stk.length)=true:=by simp;omega
 rw[if_neg this] at hx⊢
 exact hx
theorem z1T {f:St→Option (Out×St)} {live:List Nat} {nb:Nat} (hf: ∀σ out σ',σ.m.floor≤σ.m.stk.length→f σ=some (out,σ')→Above σ.m σ'.m):
  ∀(n:Nat) (σ:St) (out:Out) (σ':St),σ.m.floor≤σ.m.stk.length→iter f (heads live nb) n σ=some (out,σ')→Above σ.m σ'.m
 |0,σ,out,σ',_,h=>by simp[iter] at h
 |n+1,σ,out,σ',hl,h=>by
  simp only[iter] at h
  have k0:=z0p live nb σ hl
  split at h
  ·rename_i σ1 h1
   have k1:=hf _ _ _ (by rw[k0.len,k0.floor];exact hl) h1
   have k01:=k0.trans k1
   exact k01.trans (z1T hf n σ1 out σ' (by rw[k01.len,k01.floor];exact hl) h)
  ·exact k0.trans (hf _ _ _ (by rw[k0.len,k0.floor];exact hl) h)
theorem z5V {O:Oracle} {n:Nat} {x:Option ACode} {σ:St} {r:Out×St} (h:ev O n (orBad x) σ=some r): ∃c,x=some c∧ev O n c σ=some r:=by
 cases x with
 |none=>simp[orBad,ev] at h
 |some c=>exact⟨c,rfl,h⟩
theorem Tq {f:Mem→AV→Option (AV×Mem)} (hf: ∀{m x x' m'},f m x=some (x',m')→Above m m'): ∀{cs cs':List AV} {m m':Mem},frzL f m cs=some (cs',m')→Above m m'
 | [],cs',m,m',h=>by
  simp only[frzL,Option.some.injEq,Prod.mk.injEq] at h
  rw[←h.2];exact Above.refl _
 |c::r,cs',m,m',h=>by
  simp only[frzL,w05,w02] at h
  obtain⟨⟨c',m1⟩,h1,⟨r',m2⟩,h2,h3⟩:=h
  simp only[Prod.mk.injEq] at h3
  obtain⟨_,rfl⟩:=h3
  exact(hf h1).trans (Tq hf h2)
theorem z21: ∀(n:Nat) {m:Mem} {x x':AV} {m':Mem},frzV n m x=some (x',m')→Above m m':=by
 intro n
 induction n with
 |zero=>
  intro m x x' m' h
  unfold frzV at h
  split at h
  ·cases h
  ·rename_i h0;cases h0
  ·injection h with h;injection h with h1 h2;subst h2;exact Above.refl _
 |succ n ih=>
  intro m x x' m' h
  unfold frzV at h
  split at h
  ·cases h
  ·rename_i n' s l k st len hn
   injection hn with hn;subst hn
   split at h
   ·split at h
    ·rename_i hc
     simp only[w05] at h
     obtain⟨⟨cs',m1⟩,h1,h⟩:=h
     simp only at h
     split at h
     ·injection h with h;injection h with e1 e2
      subst e2
      have kk:=Tq ih h1
      exact kk.trans (z2r m1 l k m1.nx [] _ (by rw[kk.floor];exact hc.1))
     ·cases h
    ·cases h
   ·cases h
  ·injection h with h;injection h with h1 h2;subst h2;exact Above.refl _
theorem XD: ∀(ts:List Nat) {σ σ':St},frzT ts σ=some σ'→Above σ.m σ'.m
 | [],σ,σ',h=>by
  simp only[frzT,Option.some.injEq] at h
  rw[h];exact Above.refl _
 |t::r,σ,σ',h=>by
  simp only[frzT] at h
  split at h
  ·split at h
   ·split at h
    ·rename_i hl
     simp only[w05] at h
     obtain⟨⟨cs',m1⟩,h1,h⟩:=h
     simp only at h
     split at h
     ·have k:=Tq (z21 3) h1
      exact(k.trans (kK _ _ _ _ _ (by rw[k.floor];exact hl))).trans (XD r h)
     ·cases h
    ·cases h
   ·cases h
  ·simp only[w05] at h
   obtain⟨⟨v',m1⟩,h1,h⟩:=h
   exact(z21 3 h1).trans (XD r h)
theorem z9x {O:Oracle} {n:Nat} {ts:List Nat} {l:List AOper} {σ:St} {r:Out×St} (h:ev O n (regOps ts l) σ=some r): ∃σ0,frzT ts σ=some σ0∧ev O n (.ops l) σ0=some r:=by
 cases ts with
 |nil=>exact⟨σ,rfl,h⟩
 |cons t ts=>
  simp only[regOps,ev] at h
  cases hq:frzT (t::ts) σ with
  |none=>rw[hq] at h;simp at h
  |some σ0=>
   rw[hq] at h
   exact⟨σ0,rfl,by simpa [ev] using h⟩
theorem z26 {O:Oracle} (hA:OracleAbove O) {n:Nat}: ∀(c:ACode) (σ:St) (out:Out) (σ':St),σ.m.floor≤σ.m.stk.length→ev O n c σ=some (out,σ')→Above σ.m σ'.m:=by
 intro c
 induction c with
 |bad=>intro σ out σ' _ h;simp[ev] at h
 |const v=>
  intro σ out σ' _ h
  simp only[ev] at h
  split at h
  ·injection h with h;injection h with _ h;rw[←h];exact Above.refl _
  ·cases h
 |skip=>intro σ out σ' _ h;simp[ev] at h;rw[←h.2];exact Above.refl _
 |ret=>intro σ out σ' _ h;simp[ev] at h;rw[←h.2];exact Above.refl _
 |exit id=>intro σ out σ' _ h;simp[ev] at h;rw[←h.2];exact Above.refl _
 |ops l=>
  intro σ out σ' hf h
  simp only[ev,w02,Prod.mk.injEq] at h
  obtain⟨σ1,h1,_,rfl⟩:=h
  exact z0m hA hf h1
 |frz ts=>
  intro σ out σ' _ h
  simp only[ev,w02,Prod.mk.injEq] at h
  obtain⟨σ1,h1,_,rfl⟩:=h
  exact XD ts h1
 |draw l=>
  intro σ out σ' hf h
  simp only[ev,w02,Prod.mk.injEq] at h
  obtain⟨σ1,h1,_,rfl⟩:=h
  obtain⟨a1,a2,a3⟩:=kq hA (σ:=⟨σ.ρ,{σ.m with floor:=max σ.m.floor (σ.m.stk.length+1)}⟩) hf rfl (by simp only;rw[Nat.max_eq_right (by omega)]) h1
  exact⟨a1,rfl,a2,a3⟩
 |seq a b iha ihb=>
  intro σ out σ' hf h
  simp only[ev] at h
  split at h
  ·rename_i σ1 h1
   have k:=iha σ _ σ1 hf h1
   exact k.trans (ihb σ1 out σ' (by rw[k.len,k.floor];exact hf) h)
  ·exact iha σ out σ' hf h
 |cond c a b iha ihb=>
  intro σ out σ' hf h
  simp only[ev] at h
  split at h
  ·split at h
   ·exact iha σ out σ' hf h
   ·exact ihb σ out σ' hf h
  ·cases h
 |block id a iha=>
  intro σ out σ' hf h
  simp only[ev] at h
  split at h
  ·rename_i i σ1 h1
   have k:=iha σ _ σ1 hf h1
   split at h
   ·injection h with h;injection h with _ h;rw[←h];exact k
   ·injection h with h;injection h with _ h;rw[←h];exact k
  ·exact iha σ out σ' hf h
 |loop live a iha=>
  intro σ out σ' hf h
  simp only[ev] at h
  exact z1T (fun σ out σ' hl h=>iha σ out σ' hl h) n σ out σ' hf h
section
variable {P : Program} {O : Oracle}
theorem z1W {g:G} {w:World} {live:List Nat} {ρ:List AV} {vs:List Value} (h:Reps g w ρ vs):Reps g w (clean live ρ) vs:=by
 refine⟨by simp[clean,h.1],fun j c v h1 h2=> ?_⟩
 unfold clean at h1
 rw[w19,List.getElem?_zipIdx] at h1
 cases hq:ρ[j]? with
 |none=>rw[hq] at h1;simp at h1
 |some x=>
  rw[hq] at h1
  simp only[w0d,w39,Option.some.injEq] at h1
  split at h1
  ·subst h1;exact h.2 j x v hq h2
  ·subst h1;exact .undef v
theorem z96 (live:List Nat) (nb:Nat) (cur:List Blk):(cut live nb cur).Sublist cur:=by
 unfold cut
 split
 ·exact List.Sublist.refl _
 ·exact List.take_sublist _ _
theorem z3L {g:G} {w:World} {live:List Nat} {nb:Nat} {σ:St} (I:Inv g w σ.m):Inv g w (heads live nb σ).m:=by
 refine I.sub (fun bl hb=> ?_) ?_ (w0b _) (List.Sublist.refl _)
 ·simp only[heads,Mem.all,w0a] at hb⊢
  rcases hb with hb|hb
  ·exact .inl hb
  ·exact .inr ((z96 _ _ _).subset hb)
 ·refine List.Nodup.sublist ?_ I.nd
  simp only[heads,Mem.all]
  exact((List.Sublist.refl _).append (z96 _ _ _)).map _
theorem zf8 (hM:P.follows .mixedOrders=true) (hO:OracleOk P O) (hA:OracleAbove O) (n:Nat): ∀(c:Code) (ann:List (List Nat)) (ac:ACode) (rest:List (List Nat)),comp P c ann=some (ac,rest)→
  ∀(σ:St) (out:Out) (σ':St) (g:G) (w:World) (a:Act) (Q:Exit→Act→World→Prop),ev O n ac σ=some (out,σ')→σ.m.floor≤σ.m.stk.length→Reps g w σ.ρ a.tmps.toList→Inv g w σ.m→
   Goes g w a σ'.ρ σ'.m (Q out.exit')→c.wp P Q a w:=by
 intro c
 induction c with
 |skip=>
  intro ann ac rest hc σ out σ' g w a Q he _ hR I hK
  simp[comp] at hc
  rw[←hc.1] at he
  simp[ev] at he
  obtain⟨rfl,rfl⟩:=he
  exact wp_skip (hK g a w (Ext.refl g w) I hR rfl)
 |ret=>
  intro ann ac rest hc σ out σ' g w a Q he _ hR I hK
  simp[comp] at hc
  rw[←hc.1] at he
  simp[ev] at he
  obtain⟨rfl,rfl⟩:=he
  exact wp_ret (hK g a w (Ext.refl g w) I hR rfl)
 |exit id=>
  intro ann ac rest hc σ out σ' g w a Q he _ hR I hK
  simp[comp] at hc
  rw[←hc.1] at he
  simp[ev] at he
  obtain⟨rfl,rfl⟩:=he
  exact wp_exit (hK g a w (Ext.refl g w) I hR rfl)
 |region id ops draw=>
  intro ann ac rest hc σ out σ' g w a Q he hf hR I hK
  cases draw with
  |false=>
   simp only[comp,Option.some.injEq,Prod.mk.injEq] at hc
   obtain⟨rfl,rfl⟩:=hc
   obtain⟨c,hc,he⟩:=z5V he
   simp only[w02] at hc
   obtain⟨l,hl,rfl⟩:=hc
   obtain⟨σ0,hfz,he⟩:=z9x he
   obtain⟨g1,x1,I1,r1⟩:=XC _ hfz I hR
   have kf:=XD _ hfz
   simp only[ev,w02,Prod.mk.injEq] at he
   obtain⟨σ1,h1,rfl,rfl⟩:=he
   exact wp_region_list (zbc hO hA hl (by rw[kf.floor,kf.len];exact hf) h1 r1 I1 fun g2 a2 w2 hx2 hI2 hR2 hd2=>hK g2 a2 w2 (x1.trans hx2) hI2 hR2 hd2)
  |true=>
   simp only[comp,Option.some.injEq,Prod.mk.injEq] at hc
   obtain⟨rfl,rfl⟩:=hc
   obtain⟨c,hc,he⟩:=z5V he
   simp only[w02] at hc
   obtain⟨l,hl,rfl⟩:=hc
   simp only[ev,w02,Prod.mk.injEq] at he
   obtain⟨σ1,h1,rfl,rfl⟩:=he
   exact zdz hM hO hA hl hf h1 hR I (fun g' a' w' hx hI hR' hd'=>hK g' a' w' hx (UE _ hI) hR' hd')
 |seq x y ihx ihy=>
  intro ann ac rest hc σ out σ' g w a Q he hf hR I hK
  simp only[comp,w05,w02,Prod.mk.injEq] at hc
  obtain⟨⟨ax,r1⟩,hx,⟨ay,r2⟩,hy,rfl,rfl⟩:=hc
  simp only[ev] at he
  refine wp_seq ?_
  split at he
  ·rename_i σ1 h1
   have k:=z26 hA ax σ _ σ1 hf h1
   refine ihx _ _ _ hx σ .normal σ1 g w a _ h1 hf hR I fun g1 a1 w1 hx1 hI1 hR1 hd1=> ?_
   exact ihy _ _ _ hy σ1 out σ' g1 w1 a1 Q he (by rw[k.len,k.floor];exact hf) hR1 hI1 fun g2 a2 w2 hx2 hI2 hR2 hd2=>hK g2 a2 w2 (hx1.trans hx2) hI2 hR2 (hd2.trans hd1)
  ·rename_i hne
   refine ihx _ _ _ hx σ out σ' g w a _ he hf hR I fun g1 a1 w1 hx1 hI1 hR1 hd1=> ?_
   cases out with
   |normal=>exact absurd he (hne σ')
   |exit id=>exact hK g1 a1 w1 hx1 hI1 hR1 hd1
   |ret=>exact hK g1 a1 w1 hx1 hI1 hR1 hd1
 |cond c x y ihx ihy=>
  intro ann ac rest hc σ out σ' g w a Q he hf hR I hK
  simp only[comp,w05,w02,Prod.mk.injEq] at hc
  obtain⟨d,hd,⟨ax,r1⟩,hx,⟨ay,r2⟩,hy,rfl,rfl⟩:=hc
  simp only[ev] at he
  have h1:=ze hR hd
  split at he
  ·rename_i t ht
   rw[ht] at h1
   refine wp_cond h1.inv_bool ?_
   split at he
   ·rename_i htt
    rw[if_pos htt]
    exact ihx _ _ _ hx σ out σ' g w a Q he hf hR I hK
   ·rename_i htt
    rw[if_neg htt]
    exact ihy _ _ _ hy σ out σ' g w a Q he hf hR I hK
  ·cases he
 |block id x ihx=>
  intro ann ac rest hc σ out σ' g w a Q he hf hR I hK
  simp only[comp,w02,Prod.mk.injEq] at hc
  obtain⟨⟨ax,r1⟩,hx,rfl,rfl⟩:=hc
  simp only[ev] at he
  refine wp_block ?_
  split at he
  ·rename_i i σ1 h1
   refine ihx _ _ _ hx σ (.exit i) σ1 g w a _ h1 hf hR I fun g1 a1 w1 hx1 hI1 hR1 hd1=> ?_
   simp only[Out.exit',Exit.inBlock]
   split at he
   ·rename_i hi
    injection he with he
    injection he with e1 e2
    subst e1;subst e2
    rw[if_pos hi]
    exact hK g1 a1 w1 hx1 hI1 hR1 hd1
   ·rename_i hi
    injection he with he
    injection he with e1 e2
    subst e1;subst e2
    rw[if_neg hi]
    exact hK g1 a1 w1 hx1 hI1 hR1 hd1
  ·rename_i hne
   refine ihx _ _ _ hx σ out σ' g w a _ he hf hR I fun g1 a1 w1 hx1 hI1 hR1 hd1=> ?_
   cases out with
   |normal=>exact hK g1 a1 w1 hx1 hI1 hR1 hd1
   |exit i=>exact absurd he (hne i σ')
   |ret=>exact hK g1 a1 w1 hx1 hI1 hR1 hd1
 |loop x ihx=>
  intro ann ac rest hc σ out σ' g w a Q he hf hR I hK
  cases ann with
  |nil=>simp[comp] at hc
  |cons live ann'=>
   simp only[comp,w02,Prod.mk.injEq] at hc
   obtain⟨⟨ax,r1⟩,hx,rfl,rfl⟩:=hc
   simp only[ev] at he
   refine z2w (fun k a1 w1=> ∃σ1 g1,iter (ev O n ax) (heads live σ.m.cur.length) k σ1=some (out,σ')∧σ1.m.floor≤σ1.m.stk.length∧Ext g w g1 w1∧Inv g1 w1 σ1.m∧Reps g1 w1 σ1.ρ a1.tmps.toList∧a1.defers=a.defers) ?_ (n:=n)
    ⟨σ,g,he,hf,Ext.refl g w,I,hR,rfl⟩
   rintro k a1 w1 ⟨σ1,g1,hit,hf1,hx1,hI1,hR1,hd1⟩
   cases k with
   |zero=>simp[iter] at hit
   |succ k=>
    simp only[iter] at hit
    have k0:=z0p live σ.m.cur.length σ1 hf1
    have hf0:(heads live σ.m.cur.length σ1).m.floor≤(heads live σ.m.cur.length σ1).m.stk.length:=by rw[k0.len,k0.floor];exact hf1
    split at hit
    ·rename_i σ2 h2
     have k1:=z26 hA ax _ _ _ hf0 h2
     refine ihx _ _ _ hx (heads live σ.m.cur.length σ1) .normal σ2 g1 w1 a1 _ h2 hf0 (z1W hR1) (z3L hI1) fun g2 a2 w2 hx2 hI2 hR2 hd2=> ?_
     exact⟨k,Nat.lt_succ_self k,σ2,g2,hit,by rw[k1.len,k1.floor];exact hf0,hx1.trans hx2,hI2,hR2,hd2.trans hd1⟩
    ·rename_i hne
     refine ihx _ _ _ hx (heads live σ.m.cur.length σ1) out σ' g1 w1 a1 _ hit hf0 (z1W hR1) (z3L hI1) fun g2 a2 w2 hx2 hI2 hR2 hd2=> ?_
     cases out with
     |normal=>exact absurd hit (hne σ')
     |exit i=>exact hK g2 a2 w2 (hx1.trans hx2) hI2 hR2 (hd2.trans hd1)
     |ret=>exact hK g2 a2 w2 (hx1.trans hx2) hI2 hR2 (hd2.trans hd1)
 |rangeFunc=>
  intro ann ac rest hc σ out σ' g w a Q he
  simp[comp] at hc
  rw[←hc.1] at he
  simp[ev] at he
 |scope=>
  intro ann ac rest hc σ out σ' g w a Q he
  simp[comp] at hc
  rw[←hc.1] at he
  simp[ev] at he
 |label=>
  intro ann ac rest hc σ out σ' g w a Q he
  simp[comp] at hc
  rw[←hc.1] at he
  simp[ev] at he
 |goto=>
  intro ann ac rest hc σ out σ' g w a Q he
  simp[comp] at hc
  rw[←hc.1] at he
  simp[ev] at he
 |refuse=>
  intro ann ac rest hc σ out σ' g w a Q he
  simp[comp] at hc
  rw[←hc.1] at he
  simp[ev] at he
end
theorem vR (l l' k:Nat): ∀(xs:List AV) (j:Nat),(shiftAll l l' k xs)[j]? =(xs[j]?).map fun x=>x.shift l l' k
 | [],j=>by simp[shiftAll]
 |x::r,0=>by simp[shiftAll]
 |x::r,j+1=>by simpa [shiftAll] using vR l l' k r j
theorem yI (l l' k:Nat): ∀(xs:List AV),(shiftAll l l' k xs).length=xs.length
 | []=>rfl
 |x::r=>by simp[shiftAll,yI l l' k r]
theorem Rep.shift {g:G} {w:World} {x:AV} {v:Value} (l l' k:Nat) (h:Rep g w x v):Rep g w (x.shift l l' k) v:=by
 induction h with
 |bool b=>exact .bool b
 |int k n=>exact .int k n
 |str s b h=>exact .str s b h
 |nils=>exact .nils
 |list s tk xs b o cap f hs hcap htk hc hr ih=>exact .list s tk xs b o cap f hs hcap htk hc hr
 |empty s tk a cap h=>exact .empty s tk a cap h
 |arr a i st off len b o e' cap hb hcap=>
  simp only[AV.shift]
  split
  ·exact .arr _ _ _ _ _ _ _ _ _ hb hcap
  ·exact .arr _ _ _ _ _ _ _ _ _ hb hcap
 |arr0 a i st off ad cap=>
  simp only[AV.shift]
  split
  ·exact .arr0 _ _ _ _ _ _
  ·exact .arr0 _ _ _ _ _ _
 |grow s a i st len b o e' cap hb hcap he=>
  simp only[AV.shift]
  split
  ·exact .grow _ _ _ _ _ _ _ _ _ hb hcap he
  ·exact .grow _ _ _ _ _ _ _ _ _ hb hcap he
 |ptr a i st off b o e' hb=>
  simp only[AV.shift]
  split
  ·exact .ptr _ _ _ _ _ _ _ hb
  ·exact .ptr _ _ _ _ _ _ _ hb
 |ro cs b o f hc hr ih=>exact .ro cs b o f hc hr
 |nilptr=>exact .nilptr
 |mapR a i st b h=>
  simp only[AV.shift]
  split
  ·exact .mapR _ _ _ _ h
  ·exact .mapR _ _ _ _ h
 |fn f first caps first' caps' h1 h2 h3 h4 ih3 ih4=>
  refine .fn f _ _ _ _ (by rw[yI];exact h1) (by rw[yI];exact h2) (fun j c v a1 a2=> ?_) (fun j c v a1 a2=> ?_)
  ·rw[vR,w02] at a1
   obtain⟨y,hy,rfl⟩:=a1
   exact ih3 j y v hy a2
  ·rw[vR,w02] at a1
   obtain⟨y,hy,rfl⟩:=a1
   exact ih4 j y v hy a2
 |nilfn=>exact .nilfn
 |agg cs vs hl h ih=>
  refine .agg _ _ (by rw[yI];exact hl) (fun j c v a1 a2=> ?_)
  rw[vR,w02] at a1
  obtain⟨y,hy,rfl⟩:=a1
  exact ih j y v hy a2
 |tup cs vs hl h ih=>
  refine .tup _ _ (by rw[yI];exact hl) (fun j c v a1 a2=> ?_)
  rw[vR,w02] at a1
  obtain⟨y,hy,rfl⟩:=a1
  exact ih j y v hy a2
 |undef v=>exact .undef v
theorem Reps.shift {g:G} {w:World} {xs:List AV} {vs:List Value} (l l' k:Nat) (h:Reps g w xs vs):Reps g w (shiftAll l l' k xs) vs:=by
 refine⟨by rw[yI];exact h.1,fun j c v a1 a2=> ?_⟩
 rw[vR,w02] at a1
 obtain⟨y,hy,rfl⟩:=a1
 exact(h.2 j y v hy a2).shift l l' k
theorem z0c (l l' k:Nat) {x:AV} {v:Value} (h:PRep x v):x.shift l l' k=x:=by
 cases h<;>rfl
theorem z81 (l l' k:Nat) {ps:List AV} {es:List MapEntry} (h:EntsOk ps es):shiftAll l l' k ps=ps:=by
 induction h with
 |nil=>rfl
 |cons h1 h2 _ ih=>simp only[shiftAll,AV.shift,z0c l l' k h1,z0c l l' k h2,ih]
theorem z3X (m:Mem):(enter m).all=m.all:=by simp[enter,Mem.all]
theorem zaf {g:G} {w:World} {m:Mem} (I:Inv g w m):Inv g w (enter m):=
 I.sub (fun bl h=>by rw[z3X] at h;exact h) (by rw[z3X];exact I.nd) (w0b _) (by simp[enter])
theorem z6i {g:G} {w:World} {m0 m m':Mem} {r r':AV} {v:Value} (I:Inv g w m) (h:leave m0 m r=some (r',m')) (hr:Rep g w r v):Inv g w m'∧Rep g w r' v:=by
 unfold leave at h
 simp only at h
 split at h
 ·cases h
 ·cases h
 ·rename_i c own rest hc hown
  have hstk:m.stk=m.stk.dropLast++[c]:=by
   obtain⟨hne,hl⟩:=List.getLast?_eq_some_iff.1 hc|>fun⟨ys,h⟩=>(⟨by rw[h];simp,⟨ys,h⟩⟩:m.stk≠[]∧ ∃ys,m.stk=ys++[c])
   obtain⟨ys,hys⟩:=hl
   rw[hys];simp
  have hlive:(pushToks (own.filter fun t=>r.toks.contains t) rest).flatten.Sublist m.live.flatten:=by
   rw[T3,hown]
   exact List.Sublist.append List.filter_sublist (List.Sublist.refl _)
  have hall:m.all=m.stk.dropLast.flatten++c++m.cur:=by
   unfold Mem.all
   rw[hstk];simp
  split at h
  ·injection h with h
   injection h with h1 h2
   subst h1;subst h2
   refine⟨⟨fun bl hb hrs=> ?_,?_,I.stlt,I.tklt,fun t ht=>I.live t (hlive.subset ht),I.ownb,I.hbase,I.lnd.sublist hlive,I.rsv,I.mpk⟩,hr.shift _ _ _⟩
   ·simp only[Mem.all,w0a,w3a] at hb
    rcases hb with hb|hb|⟨b0,hb0,rfl⟩
    ·exact I.blk bl (by rw[hall];simp only[w0a];exact .inl (.inl hb)) hrs
    ·exact I.blk bl (by rw[hall];simp only[w0a];exact .inl (.inr hb)) hrs
    ·rcases I.blk b0 (by rw[hall];simp only[w0a];exact .inr hb0) hrs with⟨b,o,e,k1,k2,k3,vs,k4,k5⟩|⟨b,ps,es,clock,k1,k2,k3,k4,k5⟩
     rotate_left
     ·exact .inr ⟨b,ps,es,clock,k1,k2,by simp only[k3,shiftAll,AV.shift,z81 _ _ _ k5],k4,k5⟩
     exact .inl ⟨b,o,e,k1,by simp only[yI];exact k2,k3,vs,k4.shift _ _ _,k5⟩
   ·have:=I.nd
    rw[hall] at this
    simp only[Mem.all,w33,List.map_map] at this⊢
    simpa [w0f,Function.comp_def] using this
  ·injection h with h
   injection h with h1 h2
   subst h1;subst h2
   refine⟨I.sub (fun bl hb=> ?_) ?_ (w0b _) hlive,hr⟩
   ·simp only[Mem.all,w0a] at hb
    rw[hall]
    simp only[w0a]
    exact .inl hb
   ·have:=I.nd
    rw[hall] at this
    refine List.Nodup.sublist ?_ this
    simp only[Mem.all]
    exact(List.sublist_append_left _ _).map _
theorem z6l {m0 m m':Mem} {r r':AV} (hlen:m.stk.length=m0.stk.length+1) (hf:m0.floor≤m0.stk.length+1) (hk: ∀l k st cs,l<m0.floor→m0.blk l k st=some cs→m.blk l k st=some cs) (hnx:m0.nx≤m.nx) (h:leave m0 m r=some (r',m')):Above m0 m':=by
 unfold leave at h
 simp only at h
 split at h
 ·cases h
 ·cases h
 ·rename_i c own rest hc hown
  have hlast:m.stk[m0.stk.length]? =some c:=by
   rw[List.getLast?_eq_getElem?,hlen] at hc
   simpa using hc
  have key: ∀(extra:List Blk) (nx:Nat) (live:List (List Nat)),m0.nx≤nx→Above m0 {stk:=m.stk.dropLast,cur:=c++extra,nx:=nx,live:=live,floor:=m0.floor}:=by
   intro extra nx live hn
   refine⟨by simp[hlen],rfl,fun l k st cs hl hb=>tr (hk l k st cs hl hb) fun x hx=> ?_,hn⟩
   unfold Mem.row at hx⊢
   have hl1: ¬(l==m.stk.length)=true:=by simp;omega
   rw[if_neg hl1,w00] at hx
   simp only[List.length_dropLast,hlen,Nat.add_sub_cancel]
   by_cases hl2:l=m0.stk.length
   ·subst hl2
    rw[hlast,w2a] at hx
    rw[if_pos (by simp)]
    have hk':k<c.length:=(w06.1 hx).1
    rw[w07 hk'];exact hx
   ·rw[if_neg (by simpa using hl2),w00,List.getElem?_dropLast]
    rw[if_pos (by omega)]
    exact hx
  split at h
  ·injection h with h
   injection h with _ h2
   subst h2
   exact key _ _ _ hnx
  ·injection h with h
   injection h with _ h2
   subst h2
   have:=key [] m.nx (pushToks (own.filter fun t=>r.toks.contains t) rest) hnx
   simpa using this
theorem z6R (m:Mem) (hf:m.floor≤m.stk.length+1): ∀l k st cs,l<m.floor→m.blk l k st=some cs→(enter m).blk l k st=some cs:=by
 intro l k st cs hl hb
 refine tr hb fun x hx=> ?_
 unfold Mem.row enter at*
 simp only[w04,w29,w34,w39]
 rw[if_neg (by simp;omega),w00]
 by_cases h:l=m.stk.length
 ·subst h
  rw[if_pos (by simp)] at hx
  rw[w10 (w0b _)]
  simpa using hx
 ·rw[if_neg (by simpa using h),w00] at hx
  rw[w07 (by omega)]
  exact hx
theorem z7l {g:G} {w w':World} {m:Mem} (I:Inv g w m) (hb:Below w.heap.size w w'):Ext g w g w'∧Inv g w' m:=by
 have hc: ∀b o v,w.cell? ⟨b,o,none⟩=some v→w'.cell? ⟨b,o,none⟩=some v:=fun b o v h=>by
  have:b<w.heap.size:=World.block_lt_of_cell? _ _ h
  rw[hb.cell (p:=⟨b,o,none⟩) this];exact h
 have e:Ext g w g w':=⟨⟨fun _ _ h=>h,fun _ _ h=>h,fun b o v h1 h2=>⟨hc b o v h1,h2⟩,rfl,fun _ _ h=>h,hb.mono I.hbase⟩,rfl⟩
 have hh: ∀{x b p q},Held g w x b p q→Held g w' x b p q:=fun{x b p q} h j h1 h2=>by
  obtain⟨k1,k2,k3⟩:=h j h1 h2
  have hlt:b<w.heap.size:=(I.ownb b j x k1).2
  obtain⟨v,hv⟩:=Option.isSome_iff_exists.1 k3
  exact⟨k1,by rw[hb.frozen (p:=⟨b,j,none⟩) hlt];exact k2,by rw[hc b j v hv];rfl⟩
 refine⟨e,⟨fun bl h hrs=> ?_,I.nd,I.stlt,I.tklt,fun t h=> ?_,fun b o x h=> ?_,w4a I.hbase hb.size,I.lnd,I.rsv,I.mpk⟩⟩
 ·rcases I.blk bl h hrs with⟨b,o,q,k1,k2,k3,vs,k4,k5⟩|⟨b,ps,es,clock,k1,k2,k3,k4,k5⟩
  ·exact .inl ⟨b,o,q,k1,k2,hh k3,vs,k4.mono e,fun j v h=>hc _ _ _ (k5 j v h)⟩
  ·refine .inr ⟨b,ps,es,clock,k1,k2,k3,?_,k5⟩
   rw[hb.block b (I.ownb b 0 _ (k2 0)).2];exact k4
 ·obtain⟨b,p,q,k1,k2⟩:=I.live t h
  exact⟨b,p,q,k1,hh k2⟩
 ·obtain⟨k1,k2⟩:=I.ownb b o x h
  exact⟨k1,w58 k2 hb.size⟩
def Known (P:Program) (f:Nat) (b:Bool):Prop:=
 (∃fn,P.funcs[f]? =some fn∧(fn.name== "runtime.NumGoroutine")=false∧fn.body.isNone=false)∧
 ∀w,Calls P f #[] w fun e w'=>e= .returned (.bool b)∧Below w.heap.size w w'
def constFn (b:Bool):AFunc:=⟨0,[.tmp 0],.const (.bool b)⟩
def TabOk (P:Program) (tab:Nat→Option AFunc):Prop:= ∀f afn,tab f=some afn→(∃fn ann,P.funcs[f%1000000]? =some fn∧compFn P fn ann=some afn)∨ ∃b,afn=constFn b∧Known P (f%1000000) b
theorem z0e (m:Mem) (b:Bool):leave m (enter m) (.bool b)=some (.bool b,m):=by
 simp[leave,enter,AV.refs,AV.toks,pushToks]
theorem zbU {O:Oracle} {n:Nat} {b:Bool} {args:List AV} {m m':Mem} {r:AV} (h:evFn O n (constFn b) args m=some (r,m')):args=[]∧r= .bool b∧m'=m:=by
 cases args with
 |cons x l=>simp[evFn,constFn,ev] at h
 |nil=>
  simp only[evFn,constFn,ev,w34,Nat.sub_self,List.replicate_zero,w1a,evRess,evRes,w26,w0d,w00,List.getElem?_cons_zero,w2a,packRes] at h
  rw[z0e] at h
  injection h with h;injection h with h1 h2
  exact⟨rfl,h1.symm,h2.symm⟩
theorem zbo {P:Program} {f:Nat} {b:Bool} (h:Known P f b) (m:Mem):CallOk P f [] m (.bool b) m:=by
 refine⟨h.1,fun g w vs I hA=> ?_⟩
 obtain rfl:vs=[]:=w1b hA.1
 refine(h.2 w).mono fun e w' ⟨he,hb⟩=> ?_
 obtain⟨k1,k2⟩:=z7l I hb
 exact⟨.bool b,g,he,k1,k2,.bool b⟩
theorem z80 {O:Oracle} (hA:OracleAbove O) {n:Nat} {fn:AFunc} {args:List AV} {m m':Mem} {r:AV} (h:evFn O n fn args m=some (r,m')) (hf:m.floor≤m.stk.length+1):Above m m':=by
 unfold evFn at h
 split at h
 ·cases h
 ·rename_i out σ hne he
  simp only[w05] at h
  obtain⟨vs,_,h⟩:=h
  have k:=z26 hA fn.body _ _ _ (by simp only[enter];simp;exact hf) he
  have hl:=k.len
  simp only[enter,w04,w29,w34,w39] at hl
  exact z6l hl hf (fun l i st cs hl hb=>k.blk l i st cs hl (z6R m hf l i st cs hl hb)) k.nx h
 ·cases h
theorem Uh {tab:Nat→Option AFunc}: ∀n,OracleAbove (callN tab n)
 |0=>fun f args m r m' h=>by simp[callN] at h
 |n+1=>fun f args m r m' h hf=>by
  simp only[callN] at h
  split at h
  ·exact z80 (Uh n) h hf
  ·cases h
section
variable {P : Program}
def oneRes (tmps:Array Value):ResultVar→Sem Value
 | .tmp t=>pure (tmps.getD t Go.undef)
 | .cell ad t=>do loadVar t (←asAddr (tmps.getD ad Go.undef))
theorem z1s (fn:Func) (tmps:Array Value):results fn tmps=(fn.results.mapM (oneRes tmps))>>=fun vs=>pure (if h:vs.size=1 then vs[0] else .tuple vs):=by
 unfold results
 congr 1
theorem VJ {g:G} {w:World} {σ:St} {a:Act} (hR:Reps g w σ.ρ a.tmps.toList) (I:Inv g w σ.m): ∀{l:List ResultVar} {al:List ARes} {vs:List AV},compRes P l=some al→evRess σ al=some vs→
  ∃us:List Value,(l.mapM (oneRes a.tmps)).run P w= .ok us w∧Reps g w vs us
 | [],al,vs,hc,he=>by
  simp[compRes] at hc;subst hc
  simp[evRess] at he;subst he
  exact⟨[],rfl,Reps.nil g w⟩
 | .tmp t::l,al,vs,hc,he=>by
  simp only[compRes,w02] at hc
  obtain⟨al',h1,rfl⟩:=hc
  simp only[evRess,evRes,w05,w02,Option.some.injEq] at he
  obtain⟨v,rfl,vs',h2,rfl⟩:=he
  obtain⟨us,k1,k2⟩:=VJ hR I h1 h2
  refine⟨a.tmps.getD t Go.undef::us,?_,Reps.cons (XB hR t) k2⟩
  rw[List.mapM_cons]
  simp only[oneRes,Sem.run_bind,Sem.run_pure,Result.andThen_ok,k1]
 | .cell ad t::l,al,vs,hc,he=>by
  simp only[compRes] at hc
  split at hc
  ·rename_i b n al' hb hn h1
   split at hc
   ·injection hc with hc;subst hc
    simp only[evRess,evRes,w05,w02] at he
    obtain⟨v,⟨cs,hcs,htk⟩,vs',h2,rfl⟩:=he
    obtain⟨us,k1,k2⟩:=VJ hR I h1 h2
    obtain⟨u,k3,k4⟩:=T6 (P:=P) I (XB hR ad) hb hn hcs htk
    obtain⟨bb,oo,us',hv,_,_⟩:=z6X I (XB hR ad) hcs
    refine⟨u::us,?_,Reps.cons k4 k2⟩
    rw[hv] at k3
    have k5:(loadVar t ⟨bb,oo,none⟩).run P w= .ok u w:=by simpa [Instr.loadAt,Instr.sureAddr] using k3
    rw[List.mapM_cons]
    simp only[oneRes,Sem.run_bind,Sem.run_pure,Result.andThen_ok,hv,asAddr,k5,k1]
   ·cases hc
  ·cases hc
theorem zdy (hM:P.follows .mixedOrders=true) {O:Oracle} (hO:OracleOk P O) (hA0:OracleAbove O) {n f:Nat} {fn:Func} {ann:List (List Nat)} {afn:AFunc} (hfn:P.funcs[f]? =some fn) (hcomp:compFn P fn ann=some afn)
  {args:List AV} {m m':Mem} {r:AV} (h:evFn O n afn args m=some (r,m')) (hf:m.floor≤m.stk.length+1):CallOk P f args m r m':=by
 unfold compFn at hcomp
 split at hcomp
 ·rename_i c hbody
  split at hcomp
  ·rename_i b rest res hc hres
   split at hcomp
   ·cases hcomp
   ·rename_i hname
    injection hcomp with hcomp
    subst hcomp
    refine⟨⟨fn,hfn,by simpa using hname,by rw[hbody];rfl⟩,fun g w vs I hA=> ?_⟩
    unfold evFn at h
    simp only at h
    have fin: ∀(out:Out) (σ:St),(out= .normal∨out= .ret)→ev O n b ⟨args++List.replicate (fn.ntmps-args.length) (.tup []),enter m⟩=some (out,σ)→((evRess σ res).bind fun vs=>leave m σ.m (packRes vs))=some (r,m')→
      Calls P f vs.toArray w fun e w'=> ∃v g',e= .returned v∧Ext g w g' w'∧Inv g' w' m'∧Rep g' w' r v:=by
     intro out σ hout he hlv
     simp only[w05] at hlv
     obtain⟨rs,hrs,hlv⟩:=hlv
     refine calls_of_wp hfn hbody (zf8 hM hO hA0 n c ann b rest hc _ out σ g w _ _ he (by simp only[enter];simp;exact hf) ?_ (zaf I) fun g1 a1 w1 hx1 hI1 hR1 hd1=> ?_)
     ·have hl:vs.length=args.length:=hA.1
      have:(vs.toArray++Array.replicate (fn.ntmps-vs.toArray.size) Go.undef).toList=vs++List.replicate (fn.ntmps-args.length) Go.undef:=by
       simp[hl]
      rw[this]
      refine hA.append ⟨by simp,fun j x v h1 h2=> ?_⟩
      have e1:=List.eq_of_mem_replicate (w49 h1)
      have e2:=List.eq_of_mem_replicate (w49 h2)
      subst e1;subst e2
      exact xT g w
     ·obtain⟨us,k1,k2⟩:=VJ (P:=P) hR1 hI1 hres hrs
      have hval: ∃v,(results fn a1.tmps).run P w1= .ok v w1∧Rep g1 w1 (packRes rs) v:=by
       have hm:(fn.results.mapM (oneRes a1.tmps)).run P w1= .ok us.toArray w1:=by
        rw[Array.mapM_eq_mapM_toList]
        simp only[Functor.map,Sem.run_bind',k1,Result.andThen_ok]
        rfl
       by_cases h1:us.length=1
       ·obtain⟨u,rfl⟩:=List.length_eq_one_iff.1 h1
        have hr1:rs.length=1:=by rw[←k2.1];rfl
        obtain⟨x,rfl⟩:=List.length_eq_one_iff.1 hr1
        refine⟨u,?_,k2.2 0 x u rfl rfl⟩
        rw[z1s,Sem.run_bind,hm]
        rfl
       ·refine⟨.tuple us.toArray,?_,?_⟩
        ·rw[z1s,Sem.run_bind,hm]
         simp only[Result.andThen_ok,List.size_toArray,h1,dif_neg,not_false_eq_true,Sem.run_pure]
        ·have:packRes rs= .tup rs:=by
          unfold packRes
          split
          ·rename_i x
           have:=k2.1
           exact absurd this h1
          ·rfl
         rw[this]
         exact k2.tup
      obtain⟨v,hv,hrep⟩:=hval
      obtain⟨hI2,hr2⟩:=z6i hI1 hlv hrep
      rcases hout with rfl|rfl
      ·exact⟨hd1,v,hv,v,g1,rfl,hx1,hI2,hr2⟩
      ·exact⟨hd1,v,hv,v,g1,rfl,hx1,hI2,hr2⟩
    split at h
    ·cases h
    ·rename_i out σ hne he
     refine fin out σ ?_ he h
     cases out with
     |normal=>exact .inl rfl
     |ret=>exact .inr rfl
     |exit id=>exact absurd rfl (hne id)
    ·cases h
  ·cases hcomp
 ·cases hcomp
theorem z2i (hM:P.follows .mixedOrders=true) {tab:Nat→Option AFunc} (hT:TabOk P tab): ∀n,OracleOk P (callN tab n)
 |0=>fun f args m r m' h=>by simp[callN] at h
 |n+1=>fun f args m r m' h hf=>by
  simp only[callN] at h
  split at h
  ·rename_i afn htab
   rcases hT f afn htab with⟨fn,ann,hfn,hcomp⟩|⟨b,rfl,hk⟩
   ·exact zdy hM (z2i hM hT n) (Uh n) hfn hcomp h hf
   ·obtain⟨rfl,rfl,rfl⟩:=zbU h
    exact zbo hk m'
  ·cases h
end
end Go.Vs
end
section
namespace Go.Vs
def Le (O O':Oracle):Prop:= ∀f a m r,O f a m=some r→O' f a m=some r
theorem Le.refl (O:Oracle):Le O O:=fun _ _ _ _ h=>h
theorem zab {O O':Oracle} (h:Le O O') {ρ:List AV} {m:Mem} {op:AOp} {r:AV×Mem} (he:evOp O ρ m op=some r):evOp O' ρ m op=some r:=by
 cases op<;>try exact he
 rename_i f args
 simp only[evOp,evCall] at he⊢
 split at he
 ·exact h _ _ _ _ he
 ·cases he
theorem qI {O O':Oracle} (h:Le O O') {o:AOper} {σ σ':St} (he:evOper O o σ=some σ'):evOper O' o σ=some σ':=by
 unfold evOper at he⊢
 split at he
 ·simp only[w02] at he⊢
  obtain⟨r,h1,h2⟩:=he
  exact⟨r,zab h h1,h2⟩
 ·exact he
 ·cases he
theorem XE {O O':Oracle} (h:Le O O'): ∀{l:List AOper} {σ σ':St},evOps O l σ=some σ'→evOps O' l σ=some σ'
 | [],σ,σ',he=>he
 |o::l,σ,σ',he=>by
  simp only[evOps,w05] at he⊢
  obtain⟨σ1,h1,h2⟩:=he
  exact⟨σ1,qI h h1,XE h h2⟩
theorem qJ {O O':Oracle} (h:Le O O') {m0:Mem}: ∀{l:List AOper} {ws:Watch} {σ σ':St},evDraw O m0 ws l σ=some σ'→evDraw O' m0 ws l σ=some σ'
 | [],ws,σ,σ',he=>he
 |o::l,ws,σ,σ',he=>by
  simp only[evDraw] at he⊢
  split at he
  ·split at he
   ·rename_i q hq;rw[qI h hq];exact qJ h he
   ·cases he
  ·split at he
   ·split at he
    ·split at he
     ·rename_i q hq;rw[qI h hq];exact qJ h he
     ·cases he
    ·cases he
   ·split at he
    ·rename_i q hq;rw[qI h hq];exact qJ h he
    ·cases he
theorem Yw {f f':St→Option (Out×St)} {hd:St→St} (h: ∀σ r,f σ=some r→f' σ=some r): ∀{n n':Nat} {σ:St} {r:Out×St},n≤n'→iter f hd n σ=some r→iter f' hd n' σ=some r
 |0,n',σ,r,_,he=>by simp[iter] at he
 |n+1,0,σ,r,hn,he=>by omega
 |n+1,n'+1,σ,r,hn,he=>by
  simp only[iter] at he⊢
  split at he
  ·rename_i σ1 h1
   rw[h _ _ h1]
   exact Yw h (by omega) he
  ·rename_i hne
   rw[h _ _ he]
   split
   ·rename_i σ1 h1;injection h1 with h1;rw[h1] at he;exact absurd he (hne σ1)
   ·rfl
theorem z55 {O O':Oracle} (h:Le O O') {n n':Nat} (hn:n≤n'): ∀(c:ACode) {σ:St} {r:Out×St},ev O n c σ=some r→ev O' n' c σ=some r:=by
 intro c
 induction c with
 |bad=>intro σ r he;cases he
 |const v=>intro σ r he;exact he
 |skip=>intro σ r he;exact he
 |ret=>intro σ r he;exact he
 |exit id=>intro σ r he;exact he
 |frz ts=>intro σ r he;exact he
 |ops l=>
  intro σ r he
  simp only[ev,w02] at he⊢
  obtain⟨σ1,h1,h2⟩:=he
  exact⟨σ1,XE h h1,h2⟩
 |draw l=>
  intro σ r he
  simp only[ev,w02] at he⊢
  obtain⟨σ1,h1,h2⟩:=he
  exact⟨σ1,qJ h h1,h2⟩
 |seq a b iha ihb=>
  intro σ r he
  simp only[ev] at he⊢
  split at he
  ·rename_i σ1 h1;rw[iha h1];exact ihb he
  ·rename_i hne
   rw[iha he]
   split
   ·rename_i σ1 h1;injection h1 with h1;rw[h1] at he;exact absurd he (hne σ1)
   ·rfl
 |cond c a b iha ihb=>
  intro σ r he
  simp only[ev] at he⊢
  split at he
  ·split at he
   ·rename_i ht;rw[if_pos ht];exact iha he
   ·rename_i ht;rw[if_neg ht];exact ihb he
  ·cases he
 |block id a iha=>
  intro σ r he
  simp only[ev] at he⊢
  split at he
  ·rename_i i σ1 h1;rw[iha h1];exact he
  ·rename_i hne
   rw[iha he]
   split
   ·rename_i i σ1 h1;injection h1 with h1;rw[h1] at he;exact absurd he (hne i σ1)
   ·rfl
 |loop live a iha=>
  intro σ r he
  simp only[ev] at he⊢
  exact Yw (fun σ r h=>iha h) hn he
theorem z3W {O O':Oracle} (h:Le O O') {n n':Nat} (hn:n≤n') {fn:AFunc} {args:List AV} {m:Mem} {r:AV×Mem} (he:evFn O n fn args m=some r):evFn O' n' fn args m=some r:=by
 unfold evFn at he⊢
 split at he
 ·cases he
 ·rename_i o σ hne h1
  rw[z55 h hn _ h1]
  cases o with
  |exit id=>exact absurd rfl (hne id)
  |normal=>exact he
  |ret=>exact he
 ·cases he
theorem z2h (tab:Nat→Option AFunc): ∀n,Le (callN tab n) (callN tab (n+1))
 |0=>fun f a m r h=>by simp[callN] at h
 |n+1=>fun f a m r h=>by
  have ih:=z2h tab n
  simp only[callN] at h⊢
  split at h
  ·exact z3W ih (Nat.le_succ n) h
  ·cases h
theorem Z2 (tab:Nat→Option AFunc) {n n':Nat} (h:n≤n'):Le (callN tab n) (callN tab n'):=by
 induction h with
 |refl=>exact Le.refl _
 |step _ ih=>exact fun f a m r h=>z2h tab _ _ _ _ _ (ih f a m r h)
noncomputable def lim {α:Type} (F:Nat→Option α):Option α:=open Classical in if h: ∃n r,F n=some r then F h.choose else none
theorem z4V {α:Type} {F:Nat→Option α} (hF: ∀n n' r,n≤n'→F n=some r→F n'=some r) {r:α}:lim F=some r↔ ∃n,F n=some r:=by
 unfold lim
 constructor
 ·intro h
  split at h
  ·exact⟨_,h⟩
  ·cases h
 ·rintro⟨n,hn⟩
  have hex: ∃n r,F n=some r:=⟨n,r,hn⟩
  rw[dif_pos hex]
  obtain⟨r',hr'⟩:=hex.choose_spec
  have h1:=hF _ (max hex.choose n) r' (Nat.le_max_left _ _) hr'
  have h2:=hF _ (max hex.choose n) r (Nat.le_max_right _ _) hn
  rw[h1] at h2
  rw[hr',h2]
noncomputable def CALL (tab:Nat→Option AFunc):Oracle:=fun f args m=>lim fun n=>callN tab n f args m
noncomputable def EV (tab:Nat→Option AFunc) (c:ACode) (σ:St):Option (Out×St):=lim fun n=>ev (callN tab n) n c σ
section
variable {tab : Nat → Option AFunc}
theorem YK {f:Nat} {args:List AV} {m:Mem} {r:AV×Mem}:CALL tab f args m=some r↔ ∃n,callN tab n f args m=some r:=
 z4V fun _ _ _ h h1=>Z2 tab h _ _ _ _ h1
theorem yR {c:ACode} {σ:St} {r:Out×St}:EV tab c σ=some r↔ ∃n,ev (callN tab n) n c σ=some r:=
 z4V fun _ _ _ h h1=>z55 (Z2 tab h) h c h1
theorem z2j (n:Nat):Le (callN tab n) (CALL tab):=fun _ _ _ _ h=>YK.2 ⟨n,h⟩
theorem zbQ {ρ:List AV} {m:Mem} {op:AOp} {r:AV×Mem} (h:evOp (CALL tab) ρ m op=some r): ∃n,evOp (callN tab n) ρ m op=some r:=by
 cases op<;>try exact⟨0,h⟩
 rename_i f args
 simp only[evOp,evCall] at h⊢
 split at h
 ·exact YK.1 h
 ·cases h
theorem z27 {o:AOper} {σ σ':St} (h:evOper (CALL tab) o σ=some σ'): ∃n,evOper (callN tab n) o σ=some σ':=by
 unfold evOper at h⊢
 split at h
 ·simp only[w02] at h⊢
  obtain⟨r,h1,h2⟩:=h
  obtain⟨n,hn⟩:=zbQ h1
  exact⟨n,r,hn,h2⟩
 ·exact⟨0,h⟩
 ·cases h
theorem z3T: ∀{l:List AOper} {σ σ':St},evOps (CALL tab) l σ=some σ'→ ∃n,evOps (callN tab n) l σ=some σ'
 | [],σ,σ',h=>⟨0,h⟩
 |o::l,σ,σ',h=>by
  simp only[evOps,w05] at h⊢
  obtain⟨σ1,h1,h2⟩:=h
  obtain⟨n,hn⟩:=z27 h1
  obtain⟨k,hk⟩:=z3T h2
  exact⟨max n k,σ1,qI (Z2 tab (Nat.le_max_left _ _)) hn,XE (Z2 tab (Nat.le_max_right _ _)) hk⟩
theorem z28 {m0:Mem}: ∀{l:List AOper} {ws:Watch} {σ σ':St},evDraw (CALL tab) m0 ws l σ=some σ'→ ∃n,evDraw (callN tab n) m0 ws l σ=some σ'
 | [],ws,σ,σ',h=>⟨0,h⟩
 |o::l,ws,σ,σ',h=>by
  have key: ∀{ws:Watch} {τ q q':St},evOper (CALL tab) o τ=some q→evDraw (CALL tab) m0 ws l q'=some σ'→ ∃n,evOper (callN tab n) o τ=some q∧evDraw (callN tab n) m0 ws l q'=some σ':=by
   intro ws τ q q' h1 h2
   obtain⟨n,hn⟩:=z27 h1
   obtain⟨k,hk⟩:=z28 h2
   exact⟨max n k,qI (Z2 tab (Nat.le_max_left _ _)) hn,qJ (Z2 tab (Nat.le_max_right _ _)) hk⟩
  simp only[evDraw] at h⊢
  split at h
  ·split at h
   ·rename_i q hq
    obtain⟨n,a,b⟩:=key hq h
    exact⟨n,by rw[a];exact b⟩
   ·cases h
  ·split at h
   ·split at h
    ·split at h
     ·rename_i q hq
      obtain⟨n,a,b⟩:=key hq h
      exact⟨n,by rw[a];exact b⟩
     ·cases h
    ·cases h
   ·split at h
    ·rename_i q hq
     obtain⟨n,a,b⟩:=key hq h
     exact⟨n,by rw[a];exact b⟩
    ·cases h
theorem Zm {α:Type} {a b:Option α} (h: ∀r,a=some r↔b=some r):a=b:=by
 cases a with
 |none=>
  cases b with
  |none=>rfl
  |some y=>have:=(h y).2 rfl;cases this
 |some x=>exact((h x).1 rfl).symm
theorem zdS (σ:St):EV tab .skip σ=some (.normal,σ):=yR.2 ⟨0,rfl⟩
theorem zeW (σ:St):EV tab .ret σ=some (.ret,σ):=yR.2 ⟨0,rfl⟩
theorem zdU (id:Nat) (σ:St):EV tab (.exit id) σ=some (.exit id,σ):=yR.2 ⟨0,rfl⟩
theorem zeY (ts:List Nat) (σ:St):EV tab (.frz ts) σ=(frzT ts σ).map fun σ'=>(.normal,σ'):=by
 refine Zm fun r=> ?_
 rw[yR]
 exact⟨fun⟨_,h⟩=>h,fun h=>⟨0,h⟩⟩
theorem zeX (l:List AOper) (σ:St):EV tab (.ops l) σ=(evOps (CALL tab) l σ).map fun σ'=>(.normal,σ'):=by
 refine Zm fun r=> ?_
 rw[yR]
 simp only[ev,w02]
 constructor
 ·rintro⟨n,σ1,h1,h2⟩;exact⟨σ1,XE (z2j n) h1,h2⟩
 ·rintro⟨σ1,h1,h2⟩;obtain⟨n,hn⟩:=z3T h1;exact⟨n,σ1,hn,h2⟩
theorem zdV (l:List AOper) (σ:St):EV tab (.draw l) σ=(evDraw (CALL tab) σ.m [] l ⟨σ.ρ,{σ.m with floor:=max σ.m.floor (σ.m.stk.length+1)}⟩).map fun σ'=>(.normal,⟨σ'.ρ,{σ'.m with floor:=σ.m.floor}⟩):=by
 refine Zm fun r=> ?_
 rw[yR]
 simp only[ev,w02]
 constructor
 ·rintro⟨n,σ1,h1,h2⟩;exact⟨σ1,qJ (z2j n) h1,h2⟩
 ·rintro⟨σ1,h1,h2⟩;obtain⟨n,hn⟩:=z28 h1;exact⟨n,σ1,hn,h2⟩
theorem z3S {n n':Nat} (h:n≤n') {c:ACode} {σ:St} {r:Out×St} (he:ev (callN tab n) n c σ=some r):ev (callN tab n') n' c σ=some r:=z55 (Z2 tab h) h c he
theorem zeV (a b:ACode) (σ:St):EV tab (.seq a b) σ=match EV tab a σ with|some (.normal,σ')=>EV tab b σ'|r=>r:=by
 refine Zm fun r=> ?_
 rw[yR]
 constructor
 ·rintro⟨n,h⟩
  simp only[ev] at h
  split at h
  ·rename_i σ1 h1
   rw[yR.2 ⟨n,h1⟩]
   exact yR.2 ⟨n,h⟩
  ·rename_i hne
   rw[yR.2 ⟨n,h⟩]
   split
   ·rename_i σ1 h1;injection h1 with h1;rw[h1] at h;exact absurd h (hne σ1)
   ·rfl
 ·intro h
  split at h
  ·rename_i σ1 h1
   obtain⟨n,hn⟩:=yR.1 h1
   obtain⟨k,hk⟩:=yR.1 h
   refine⟨max n k,?_⟩
   simp only[ev]
   rw[z3S (Nat.le_max_left n k) hn]
   exact z3S (Nat.le_max_right n k) hk
  ·rename_i hne
   obtain⟨n,hn⟩:=yR.1 h
   refine⟨n,?_⟩
   simp only[ev]
   rw[hn]
   split
   ·rename_i σ1 h1;injection h1 with h1;rw[h1] at h;exact absurd h (hne σ1)
   ·rfl
theorem z9c (c:Opd) (a b:ACode) (σ:St):EV tab (.cond c a b) σ=match c.ev σ.ρ with| .bool t=>if t then EV tab a σ else EV tab b σ|_=>none:=by
 refine Zm fun r=> ?_
 rw[yR]
 simp only[ev]
 cases hv:c.ev σ.ρ with
 |bool t=>
  cases t with
  |true=>simp only[if_true];exact yR.symm
  |false=>simp only[w28,if_false];exact yR.symm
 |_=>simp
theorem zcm (id:Nat) (a:ACode) (σ:St):EV tab (.block id a) σ=match EV tab a σ with|some (.exit i,σ')=>if i=id then some (.normal,σ') else some (.exit i,σ')|r=>r:=by
 refine Zm fun r=> ?_
 rw[yR]
 constructor
 ·rintro⟨n,h⟩
  simp only[ev] at h
  split at h
  ·rename_i i σ1 h1
   rw[yR.2 ⟨n,h1⟩]
   exact h
  ·rename_i hne
   rw[yR.2 ⟨n,h⟩]
   split
   ·rename_i i σ1 h1;injection h1 with h1;rw[h1] at h;exact absurd h (hne i σ1)
   ·rfl
 ·intro h
  split at h
  ·rename_i i σ1 h1
   obtain⟨n,hn⟩:=yR.1 h1
   refine⟨n,?_⟩
   simp only[ev]
   rw[hn];exact h
  ·rename_i hne
   obtain⟨n,hn⟩:=yR.1 h
   refine⟨n,?_⟩
   simp only[ev]
   rw[hn]
   split
   ·rename_i i σ1 h1;injection h1 with h1;rw[h1] at h;exact absurd h (hne i σ1)
   ·rfl
noncomputable def LOOP (tab:Nat→Option AFunc) (live:List Nat) (nb:Nat) (a:ACode) (σ:St):Option (Out×St):=lim fun n=>iter (ev (callN tab n) n a) (heads live nb) n σ
theorem z2u {live:List Nat} {nb:Nat} {a:ACode} {σ:St} {r:Out×St}:LOOP tab live nb a σ=some r↔ ∃n,iter (ev (callN tab n) n a) (heads live nb) n σ=some r:=
 z4V (F:=fun n=>iter (ev (callN tab n) n a) (heads live nb) n σ) fun _ _ _ h h1=>Yw (fun _ _ h2=>z3S h h2) h h1
theorem zdT (live:List Nat) (a:ACode) (σ:St):EV tab (.loop live a) σ=LOOP tab live σ.m.cur.length a σ:=rfl
theorem zdQ (live:List Nat) (nb:Nat) (a:ACode) (σ:St):LOOP tab live nb a σ=match EV tab a (heads live nb σ) with|some (.normal,σ')=>LOOP tab live nb a σ'|r=>r:=by
 refine Zm fun r=> ?_
 rw[z2u]
 constructor
 ·rintro⟨n,h⟩
  cases n with
  |zero=>simp[iter] at h
  |succ n=>
   simp only[iter] at h
   split at h
   ·rename_i σ1 h1
    rw[yR.2 ⟨n+1,h1⟩]
    refine z2u.2 ⟨n+1,?_⟩
    exact Yw (fun _ _ h=>h) (Nat.le_succ n) h
   ·rename_i hne
    rw[yR.2 ⟨n+1,h⟩]
    split
    ·rename_i σ1 h1;injection h1 with h1;rw[h1] at h;exact absurd h (hne σ1)
    ·rfl
 ·intro h
  split at h
  ·rename_i σ1 h1
   obtain⟨n,hn⟩:=yR.1 h1
   obtain⟨k,hk⟩:=z2u.1 h
   refine⟨max n k+1,?_⟩
   simp only[iter]
   rw[z3S (n':=max n k+1) (by have:=Nat.le_max_left n k;omega) hn]
   exact Yw (fun _ _ h2=>z3S (by have:=Nat.le_max_right n k;omega) h2) (Nat.le_max_right n k) hk
  ·rename_i hne
   obtain⟨n,hn⟩:=yR.1 h
   refine⟨n+1,?_⟩
   simp only[iter]
   rw[z3S (n':=n+1) (Nat.le_succ n) hn]
   split
   ·rename_i σ1 h1;injection h1 with h1;rw[h1] at h;exact absurd h (hne σ1)
   ·rfl
theorem zdX {f:Nat} {fn:AFunc} (h:tab f=some fn) (args:List AV) (m:Mem):CALL tab f args m=match EV tab fn.body ⟨args++List.replicate (fn.ntmps-args.length) (.tup []),enter m⟩ with
  |some (.exit _,_)=>none
  |some (_,σ)=>(evRess σ fn.res).bind fun vs=>leave m σ.m (packRes vs)
  |none=>none:=by
 refine Zm fun r=> ?_
 rw[YK]
 constructor
 ·rintro⟨n,hn⟩
  cases n with
  |zero=>simp[callN] at hn
  |succ n=>
   simp only[callN,h,evFn] at hn
   split at hn
   ·cases hn
   ·rename_i o σ hne h1
    rw[yR.2 ⟨n,h1⟩]
    cases o with
    |exit id=>exact absurd rfl (hne id)
    |normal=>exact hn
    |ret=>exact hn
   ·cases hn
 ·intro hr
  split at hr
  ·cases hr
  ·rename_i o σ hne h1
   obtain⟨n,hn⟩:=yR.1 h1
   refine⟨n+1,?_⟩
   simp only[callN,h,evFn]
   rw[hn]
   cases o with
   |exit id=>exact absurd rfl (hne id)
   |normal=>exact hr
   |ret=>exact hr
  ·cases hr
theorem zdW {P:Program} (hM:P.follows .mixedOrders=true) (hT:TabOk P tab):OracleOk P (CALL tab):=fun f args m r m' h hf=>by
 obtain⟨n,hn⟩:=YK.1 h
 exact z2i hM hT n f args m r m' hn hf
end
def Opt {α:Type} (o:Option α) (Q:α→Prop):Prop:= ∃x,o=some x∧Q x
theorem z8 {α:Type} (x:α) (Q:α→Prop):Opt (some x) Q=Q x:=by
 apply propext;constructor
 ·rintro⟨y,h,hq⟩;injection h with h;rw[h];exact hq
 ·exact fun h=>⟨x,rfl,h⟩
theorem zci {α:Type} (Q:α→Prop):Opt none Q=False:=by
 apply propext;constructor
 ·rintro⟨y,h,_⟩;cases h
 ·exact False.elim
theorem Opt.mono {α:Type} {o:Option α} {Q R:α→Prop} (h:Opt o Q) (k: ∀x,Q x→R x):Opt o R:=let ⟨x,h1,h2⟩:=h;⟨x,h1,k x h2⟩
theorem Ql {α β:Type} (o:Option α) (f:α→β) (Q:β→Prop):Opt (o.map f) Q=Opt o (fun x=>Q (f x)):=by cases o<;>simp[Opt]
theorem z2t {α β:Type} (o:Option α) (f:α→Option β) (Q:β→Prop):Opt (o.bind f) Q=Opt o (fun x=>Opt (f x) Q):=by cases o<;>simp[Opt]
section
variable (tab : Nat → Option AFunc)
def Run (c:ACode) (σ:St) (Q:Out→St→Prop):Prop:=Opt (EV tab c σ) (fun r=>Q r.1 r.2)
def RunL (live:List Nat) (nb:Nat) (a:ACode) (σ:St) (Q:Out→St→Prop):Prop:=Opt (LOOP tab live nb a σ) (fun r=>Q r.1 r.2)
def RunOps (l:List AOper) (σ:St) (Q:St→Prop):Prop:=Opt (evOps (CALL tab) l σ) Q
def Step (o:AOper) (σ:St) (Q:St→Prop):Prop:=Opt (evOper (CALL tab) o σ) Q
def onNormal (Q:Out→St→Prop) (R:St→Prop):Out→St→Prop
 | .normal,σ=>R σ
 |o,σ=>Q o σ
def onExit (id:Nat) (Q:Out→St→Prop):Out→St→Prop
 | .exit i,σ=>if i=id then Q .normal σ else Q (.exit i) σ
 |o,σ=>Q o σ
theorem zce (σ:St) (Q:Out→St→Prop):Run tab .skip σ Q=Q .normal σ:=by unfold Run;rw[zdS,z8]
theorem zdN (σ:St) (Q:Out→St→Prop):Run tab .ret σ Q=Q .ret σ:=by unfold Run;rw[zeW,z8]
theorem zcg (i:Nat) (σ:St) (Q:Out→St→Prop):Run tab (.exit i) σ Q=Q (.exit i) σ:=by unfold Run;rw[zdU,z8]
theorem zdO (l:List AOper) (σ:St) (Q:Out→St→Prop):Run tab (.ops l) σ Q=RunOps tab l σ (Q .normal):=by unfold Run RunOps;rw[zeX,Ql]
theorem zdP (ts:List Nat) (σ:St) (Q:Out→St→Prop):Run tab (.frz ts) σ Q=Opt (frzT ts σ) (Q .normal):=by unfold Run;rw[zeY,Ql]
theorem zdM (a b:ACode) (σ:St) (Q:Out→St→Prop):Run tab (.seq a b) σ Q=Run tab a σ (onNormal Q fun σ'=>Run tab b σ' Q):=by
 unfold Run;rw[zeV]
 cases EV tab a σ with
 |none=>simp[Opt]
 |some r=>obtain⟨o,σ'⟩:=r;cases o<;>simp[Opt,onNormal]
theorem zch (c:Opd) (a b:ACode) (σ:St) (Q:Out→St→Prop) (t:Bool) (h:c.ev σ.ρ= .bool t):Run tab (.cond c a b) σ Q=if t=true then Run tab a σ Q else Run tab b σ Q:=by
 unfold Run;rw[z9c,h];cases t<;>rfl
theorem zax (id:Nat) (a:ACode) (σ:St) (Q:Out→St→Prop):Run tab (.block id a) σ Q=Run tab a σ (onExit id Q):=by
 unfold Run;rw[zcm]
 cases EV tab a σ with
 |none=>simp[Opt]
 |some r=>
  obtain⟨o,σ'⟩:=r
  cases o with
  |exit i=>simp only[z8,onExit];split<;>rw[z8]
  |normal=>simp[Opt,onExit]
  |ret=>simp[Opt,onExit]
theorem zcf (live:List Nat) (a:ACode) (σ:St) (Q:Out→St→Prop):Run tab (.loop live a) σ Q=RunL tab live σ.m.cur.length a σ Q:=by unfold Run RunL;rw[zdT]
theorem z5h (live:List Nat) (nb:Nat) (a:ACode) (σ:St) (Q:Out→St→Prop):RunL tab live nb a σ Q=Run tab a (heads live nb σ) (onNormal Q fun σ'=>RunL tab live nb a σ' Q):=by
 unfold RunL Run;rw[zdQ]
 cases EV tab a (heads live nb σ) with
 |none=>simp[Opt]
 |some r=>obtain⟨o,σ'⟩:=r;cases o<;>simp[Opt,onNormal]
theorem z8s (σ:St) (Q:St→Prop):RunOps tab [] σ Q=Q σ:=by unfold RunOps;simp[evOps,Opt]
theorem z0q (o:AOper) (l:List AOper) (σ:St) (Q:St→Prop):RunOps tab (o::l) σ Q=Step tab o σ (fun σ'=>RunOps tab l σ' Q):=by
 unfold RunOps Step;rw[evOps,z2t]
theorem z8q (d:Option Nat) (op:AOp) (f:Bool) (σ:St) (Q:St→Prop):Step tab ⟨d,op,none,f⟩ σ Q=Opt (evOp (CALL tab) σ.ρ σ.m op) (fun r=>Q ⟨setDst σ.ρ d r.1,r.2⟩):=by
 unfold Step evOper;simp only[wanted];rw[Ql]
theorem z8r (d:Option Nat) (op:AOp) (g:Nat) (w f t:Bool) (σ:St) (Q:St→Prop) (h:σ.ρ.getD g .undef= .bool t):
  Step tab ⟨d,op,some (g,w),f⟩ σ Q=if t=w then Opt (evOp (CALL tab) σ.ρ σ.m op) (fun r=>Q ⟨setDst σ.ρ d r.1,r.2⟩) else Q ⟨setDst σ.ρ d (.tup []),σ.m⟩:=by
 unfold Step evOper;simp only[wanted,h]
 cases t<;>cases w<;>simp[Ql,z8]
theorem z8p (d:Option Nat) (op:AOp) (g:Nat) (w f:Bool) (σ:St) (Q:St→Prop) (h:σ.ρ.getD g .undef= .tup []):
  Step tab ⟨d,op,some (g,w),f⟩ σ Q=Q ⟨setDst σ.ρ d (.tup []),σ.m⟩:=by
 unfold Step evOper;simp only[wanted,h];simp[Opt]
theorem zcj {f:Nat} {fn:AFunc} (h:tab f=some fn) (args:List AV) (m:Mem) (Q:AV×Mem→Prop):
  Opt (CALL tab f args m) Q=Run tab fn.body ⟨args++List.replicate (fn.ntmps-args.length) (.tup []),enter m⟩ (fun o σ=>(∀i,o≠ .exit i)∧Opt (evRess σ fn.res) fun vs=>Opt (leave m σ.m (packRes vs)) Q):=by
 unfold Run;rw[zdX h]
 cases EV tab fn.body _ with
 |none=>simp[Opt]
 |some r=>
  obtain⟨o,σ⟩:=r
  cases o with
  |exit i=>simp[Opt]
  |normal=>simp only[z8];rw[z2t];simp
  |ret=>simp only[z8];rw[z2t];simp
end
section
variable {tab : Nat → Option AFunc}
theorem zay {live:List Nat} {nb:Nat} {a:ACode} {σ:St} {Q:Out→St→Prop} {α:Type} (I:α→St→Prop) (r:α→Nat) (x0:α) (h0:I x0 σ)
  (h: ∀x σ,I x σ→Run tab a (heads live nb σ) (onNormal Q fun σ'=> ∃y,r y<r x∧I y σ')):RunL tab live nb a σ Q:=by
 have key: ∀n x σ,r x≤n→I x σ→RunL tab live nb a σ Q:=by
  intro n
  induction n with
  |zero=>
   intro x σ hx hI
   rw[z5h]
   obtain⟨⟨o,σ'⟩,h1,h2⟩:=h x σ hI
   refine⟨⟨o,σ'⟩,h1,?_⟩
   cases o with
   |normal=>obtain⟨y,hy,_⟩:=h2;omega
   |exit i=>exact h2
   |ret=>exact h2
  |succ n ih=>
   intro x σ hx hI
   rw[z5h]
   obtain⟨⟨o,σ'⟩,h1,h2⟩:=h x σ hI
   refine⟨⟨o,σ'⟩,h1,?_⟩
   cases o with
   |normal=>obtain⟨y,hy,hI'⟩:=h2;exact ih y σ' (by omega) hI'
   |exit i=>exact h2
   |ret=>exact h2
 exact key _ x0 σ (w0b _) h0
end
def Mem.bump (m:Mem) (k:Nat):Mem:={m with nx:=k}
def look:List (Nat×AV)→Nat→AV→AV
 | [],_,df=>df
 |(i,v)::r,j,df=>if i=j then v else look r j df
def mk (n:Nat) (df:AV) (l:List (Nat×AV)):List AV:=(List.range n).map fun j=>look l j df
def tmps (n:Nat) (l:List (Nat×AV)):List AV:=mk n .undef l
theorem zbm (j:Nat) (df:AV):look [] j df=df:=rfl
theorem z9H (i:Nat) (v:AV) (r:List (Nat×AV)) (j:Nat) (df:AV):look ((i,v)::r) j df=if i=j then v else look r j df:=rfl
theorem zeq (n:Nat) (df:AV) (l:List (Nat×AV)) (d:Nat) (v:AV):(mk n df l).set d v=mk n df ((d,v)::l):=by
 apply w2c
 intro j
 rw[w36]
 simp only[mk,w44,List.length_range,w19,List.getElem?_range']
 by_cases hj:j<n
 ·rw[w48 hj]
  by_cases hd:d=j
  ·subst hd;simp[look,hj]
  ·simp[look,hd]
 ·rw[w17 (by simp;omega)]
  by_cases hd:d=j
  ·subst hd;simp[hj]
  ·simp[hd]
theorem z9v (n:Nat) (df:AV) (l:List (Nat×AV)) (d:Nat) (v:AV):setDst (mk n df l) (some d) v=mk n df ((d,v)::l):=zeq n df l d v
theorem z5K (ρ:List AV) (v:AV):setDst ρ none v=ρ:=rfl
theorem zdt (n:Nat) (df:AV) (l:List (Nat×AV)) (j:Nat) (x:AV):(mk n df l).getD j x=if j<n then look l j df else x:=by
 rw[w00]
 simp only[mk,w19]
 by_cases hj:j<n
 ·rw[w48 hj,if_pos hj];rfl
 ·rw[w17 (by simp;omega),if_neg hj];rfl
theorem z9G (live:List Nat) (l:List (Nat×AV)) (df:AV) (j:Nat):look (live.map fun i=>(i,look l i df)) j .undef=if live.contains j then look l j df else .undef:=by
 induction live with
 |nil=>rfl
 |cons i r ih=>
  simp only[w35,look,ih,List.contains_cons]
  by_cases h:i=j
  ·subst h;simp
  ·simp only[h,if_false]
   have:(j==i)=false:=by simp;exact fun e=>h e.symm
   rw[this,Bool.false_or]
theorem zbX (live:List Nat) (n:Nat) (df:AV) (l:List (Nat×AV)):clean live (mk n df l)=mk n .undef (live.map fun i=>(i,look l i df)):=by
 apply w2c
 intro j
 unfold clean
 rw[w19,List.getElem?_zipIdx]
 simp only[mk,w19]
 by_cases hj:j<n
 ·rw[w48 hj]
  simp only[w0d,w39,z9G]
 ·rw[w17 (by simp;omega)];rfl
def numb:Nat→List AV→List (Nat×AV)
 |_,[]=>[]
 |i,a::r=>(i,a)::numb (i+1) r
theorem z3E: ∀(args:List AV) (i j:Nat) (df:AV),look (numb i args) j df=if i≤j then args.getD (j-i) df else df
 | [],i,j,df=>by simp[numb,look]
 |a::r,i,j,df=>by
  simp only[numb,look,z3E r]
  by_cases h:i=j
  ·subst h;simp
  ·by_cases h2:i≤j
   ·have:i+1≤j:=by omega
    simp only[h,h2,this,if_true,if_false]
    rw[show j-i=(j-(i+1))+1 by omega,List.getD_cons_succ]
   ·have: ¬i+1≤j:=by omega
    simp[h,h2,this]
theorem zdp (n:Nat) (args:List AV) (h:args.length≤n):args++List.replicate (n-args.length) (.tup [])=mk n (.tup []) (numb 0 args):=by
 apply w2c
 intro j
 simp only[mk,w19,z3E,w0c,if_true,Nat.sub_zero]
 by_cases hj:j<n
 ·rw[w48 hj,w0d]
  by_cases ha:j<args.length
  ·rw[w07 ha,w00,w13 ha];rfl
  ·rw[w10 (by omega),w3d,if_pos (by omega),w00,w17 (by omega)];rfl
 ·rw[w17 (by simp;omega),w17 (by simp;omega)];rfl
theorem z9E (i:Nat) (a:AV) (r:List AV):numb i (a::r)=(i,a)::numb (i+1) r:=rfl
theorem zbh (i:Nat):numb i []=[]:=rfl
theorem zcI (n:Nat) (l:List (Nat×AV)):tmps n l=mk n .undef l:=rfl
theorem zan (cs:List AV):(AV.agg cs).cells=cs:=rfl
theorem z8d (b:Bool):(AV.bool b).cells=[.bool b]:=rfl
theorem zal (k:IntKind) (n:Int):(AV.int k n).cells=[.int k n]:=rfl
theorem zaj (s:List UInt8):(AV.str s).cells=[.str s]:=rfl
theorem z8a:AV.nils.cells=[.nils]:=rfl
theorem z8c (s:Nat) (tk:Tok) (xs:List AV):(AV.list s tk xs).cells=[.list s tk xs]:=rfl
theorem zam (l k st off len:Nat):(AV.arr l k st off len).cells=[.arr l k st off len]:=rfl
theorem z8b (l k st:Nat):(AV.mapR l k st).cells=[.mapR l k st]:=rfl
theorem zbe (l k st:Nat):(AV.mapR l k st).one=true:=rfl
theorem zak (l k st off:Nat):(AV.ptr l k st off).cells=[.ptr l k st off]:=rfl
theorem zbY (cs:List AV):(AV.ro cs).cells=[.ro cs]:=rfl
theorem z5a:AV.nilptr.cells=[.nilptr]:=rfl
theorem zbZ (f:Fn) (a b:List AV):(AV.fn f a b).cells=[.fn f a b]:=rfl
theorem z6W:AV.nilfn.cells=[.nilfn]:=rfl
theorem zbg (b:Bool):(AV.bool b).one=true:=rfl
theorem zcZ (k:IntKind) (n:Int):(AV.int k n).one=true:=rfl
theorem zcX (s:List UInt8):(AV.str s).one=true:=rfl
theorem zbd:AV.nils.one=true:=rfl
theorem zbf (s:Nat) (tk:Tok) (xs:List AV):(AV.list s tk xs).one=true:=rfl
theorem zd0 (l k st off len:Nat):(AV.arr l k st off len).one=true:=rfl
theorem zcY (l k st off:Nat):(AV.ptr l k st off).one=true:=rfl
theorem zev (cs:List AV):(AV.ro cs).one=true:=rfl
theorem z7t:AV.nilptr.one=true:=rfl
theorem zew (f:Fn) (a b:List AV):(AV.fn f a b).one=true:=rfl
theorem z9C:AV.nilfn.one=true:=rfl
theorem z1a (c:AV) (r:List AV):takeV false 1 (c::r)=some c:=by simp[takeV]
theorem zcJ (n:Nat) (cs:List AV) (h:n≤cs.length):takeV true n cs=some (.agg (cs.take n)):=by simp[takeV,h]
theorem z9V (n:Nat) (a x:Opd):(AOp.store n a x).isStore=true:=rfl
theorem zdk (e:XOp):(AOp.ext e).isStore=e.isPut:=rfl
theorem zdh (x:Opd):(AOp.mov x).isStore=false:=rfl
theorem zbA (c a b:Opd):(AOp.pick c a b).isStore=false:=rfl
theorem za2 (z:List AV):(AOp.alloc z).isStore=false:=rfl
theorem zdl (n:Nat) (x:Opd):(AOp.box n x).isStore=false:=rfl
theorem za1 (z:List AV) (ps:List (Nat×Nat×Opd)):(AOp.build z ps).isStore=false:=rfl
theorem zdi (s:Nat) (ps:List Opd):(AOp.lit s ps).isStore=false:=rfl
theorem zbD (g:Bool) (n:Nat) (a:Opd):(AOp.load g n a).isStore=false:=rfl
theorem zdm (o:BinOp) (x y:Opd):(AOp.bin o x y).isStore=false:=rfl
theorem zdn (g:Bool) (x y:Opd):(AOp.beq g x y).isStore=false:=rfl
theorem zeF (o:UnOp) (x:Opd):(AOp.un o x).isStore=false:=rfl
theorem zbF (k:IntKind) (x:Opd):(AOp.conv k x).isStore=false:=rfl
theorem za0 (x:Opd):(AOp.convS x).isStore=false:=rfl
theorem z9U (x:Opd):(AOp.toStr x).isStore=false:=rfl
theorem z6u (x:Opd):(AOp.toBytes x).isStore=false:=rfl
theorem zbB (f:Fn) (a b:List Opd):(AOp.mkfn f a b).isStore=false:=rfl
theorem z9Z (n:Nat) (a:Opd):(AOp.faddr n a).isStore=false:=rfl
theorem z9Y (g:Bool) (n o:Nat) (x:Opd):(AOp.field g n o x).isStore=false:=rfl
theorem z9X (s:Nat) (x i:Opd):(AOp.iaddr s x i).isStore=false:=rfl
theorem z7R (n s:Nat) (x i:Opd):(AOp.iaddrA n s x i).isStore=false:=rfl
theorem z7P (x i:Opd):(AOp.indexS x i).isStore=false:=rfl
theorem z7Q (n s:Nat) (g:Bool) (x i:Opd):(AOp.indexA n s g x i).isStore=false:=rfl
theorem zdj (x:Opd):(AOp.len x).isStore=false:=rfl
theorem zbE (x:Opd):(AOp.lenS x).isStore=false:=rfl
theorem zdo (s b:Nat) (x y:Opd):(AOp.app s b x y).isStore=false:=rfl
theorem zeG (x y:Opd):(AOp.mx x y).isStore=false:=rfl
theorem zeH (x y:Opd):(AOp.mn x y).isStore=false:=rfl
theorem z9W (s:Nat) (x:Opd) (lo hi t:Option Opd):(AOp.slice s x lo hi t).isStore=false:=rfl
theorem z7O (n s:Nat) (x:Opd) (lo hi:Option Opd):(AOp.sliceA n s x lo hi).isStore=false:=rfl
theorem z7N (x:Opd) (lo hi:Option Opd):(AOp.sliceS x lo hi).isStore=false:=rfl
theorem zbC (s b:Nat) (z:List AV) (n c:Opd):(AOp.make s b z n c).isStore=false:=rfl
theorem z6v (x:Opd) (i:Nat):(AOp.extract x i).isStore=false:=rfl
theorem zbG (f:Opd) (a:List Opd):(AOp.call f a).isStore=false:=rfl
theorem z7S (t:Nat) (h:List Nat) (r:List (List Nat)):hasTok t ((t::h)::r)=true:=by simp[hasTok]
theorem z6S (t:Nat) (h:List Nat) (r:List (List Nat)):dropTok t ((t::h)::r)=h::r:=by simp[dropTok]
theorem z4D (l:List (List Nat)):pushToks [] l=l:=by cases l<;>rfl
theorem yn (ts h:List Nat) (r:List (List Nat)):pushToks ts (h::r)=(ts++h)::r:=by cases ts<;>rfl
inductive Kont where
 |fin (res:List ARes) (m0:Mem) (R:AV→Mem→Prop)
 |seq (b:ACode) (k:Kont)
 |block (id:Nat) (k:Kont)
 |again (J:St→Prop) (k:Kont)
def Kont.go (tab:Nat→Option AFunc):Kont→Out→St→Prop
 | .fin res m0 R=>fun o σ=>(∀i,o≠ .exit i)∧Opt (evRess σ res) fun vs=>Opt (leave m0 σ.m (packRes vs)) fun r=>R r.1 r.2
 | .seq b k=>onNormal (k.go tab) fun σ=>Run tab b σ (k.go tab)
 | .block id k=>onExit id (k.go tab)
 | .again J k=>onNormal (k.go tab) J
section
variable (tab : Nat → Option AFunc)
def X (c:ACode) (ρ:List AV) (m:Mem) (k:Kont):Prop:=Run tab c ⟨ρ,m⟩ (k.go tab)
def Xs (l:List AOper) (ρ:List AV) (m:Mem) (k:Kont):Prop:=RunOps tab l ⟨ρ,m⟩ (k.go tab .normal)
def XL (live:List Nat) (nb:Nat) (a:ACode) (ρ:List AV) (m:Mem) (k:Kont):Prop:=RunL tab live nb a ⟨ρ,m⟩ (k.go tab)
def Xv (r:Option (AV×Mem)) (d:Option Nat) (l:List AOper) (ρ:List AV) (k:Kont):Prop:=Opt r fun r=>Xs tab l (setDst ρ d r.1) r.2 k
def Xg (c:AV) (w:Bool) (d:Option Nat) (op:AOp) (l:List AOper) (ρ:List AV) (m:Mem) (k:Kont):Prop:=
 match c with
 | .bool t=>if t=w then Xv tab (evOp (CALL tab) ρ m op) d l ρ k else Xs tab l (setDst ρ d (.tup [])) m k
 | .tup []=>Xs tab l (setDst ρ d (.tup [])) m k
 |_=>False
def Xc (c:AV) (a b:ACode) (ρ:List AV) (m:Mem) (k:Kont):Prop:=
 match c with
 | .bool t=>if t=true then X tab a ρ m k else X tab b ρ m k
 |_=>False
def Xo (k:Kont) (o:Out) (ρ:List AV) (m:Mem):Prop:=k.go tab o ⟨ρ,m⟩
def Xd (fl:Nat) (m0:Mem) (ws:Watch) (l:List AOper) (ρ:List AV) (m:Mem) (k:Kont):Prop:=Opt (evDraw (CALL tab) m0 ws l ⟨ρ,m⟩) fun σ=>Xo tab k .normal σ.ρ {σ.m with floor:=fl}
def Xw (r:Option (AV×Mem)) (w:Nat) (fl:Nat) (m0:Mem) (ws:Watch) (d:Option Nat) (l:List AOper) (ρ:List AV) (m:Mem) (k:Kont):Prop:=
 Opt r fun r=>Xd tab fl m0 ws l (setDst ρ d r.1) (match w with|0=>m|1=>{r.2 with floor:=m.floor}|_=>r.2) k
def Xu (c:AV) (w:Bool) (d:Option Nat) (op:AOp) (f:Bool) (fl:Nat) (m0:Mem) (ws:Watch) (l:List AOper) (ρ:List AV) (m:Mem) (k:Kont):Prop:=
 match c with
 | .bool t=>if t=w then Xd tab fl m0 ws (⟨d,op,none,f⟩::l) ρ m k else Xd tab fl m0 ws l (setDst ρ d (.tup [])) m k
 | .tup []=>Xd tab fl m0 ws l (setDst ρ d (.tup [])) m k
 |_=>False
variable (ρ : List AV) (m : Mem) (k : Kont) (a b : ACode) (l : List AOper) (d : Option Nat) (op : AOp)
theorem zeQ:X tab .skip ρ m k=Xo tab k .normal ρ m:=by unfold X;rw[zce];rfl
theorem zfe:X tab .ret ρ m k=Xo tab k .ret ρ m:=by unfold X;rw[zdN];rfl
theorem zeS (i:Nat):X tab (.exit i) ρ m k=Xo tab k (.exit i) ρ m:=by unfold X;rw[zcg];rfl
theorem zff:X tab (.ops l) ρ m k=Xs tab l ρ m k:=by unfold X Xs;rw[zdO]
theorem zfg (ts:List Nat):X tab (.frz ts) ρ m k=Opt (frzT ts ⟨ρ,m⟩) fun σ=>Xo tab k .normal σ.ρ σ.m:=by unfold X;rw[zdP];rfl
theorem zfd:X tab (.seq a b) ρ m k=X tab a ρ m (.seq b k):=by unfold X;rw[zdM];rfl
theorem zdL (id:Nat):X tab (.block id a) ρ m k=X tab a ρ m (.block id k):=by unfold X;rw[zax];rfl
theorem zeR (live:List Nat):X tab (.loop live a) ρ m k=XL tab live m.cur.length a ρ m k:=by unfold X XL;rw[zcf]
theorem zeU (c:Opd):X tab (.cond c a b) ρ m k=Xc tab (c.ev ρ) a b ρ m k:=by
 unfold X Xc
 split
 ·rename_i t h;rw[zch tab c a b ⟨ρ,m⟩ _ t h];rfl
 ·rename_i hne
  unfold Run;rw[z9c]
  split
  ·rename_i t h;exact absurd h (hne t)
  ·simp[Opt]
theorem zdK:Xc tab (.bool true) a b ρ m k=X tab a ρ m k:=_root_.id rfl
theorem zcd:Xc tab (.bool false) a b ρ m k=X tab b ρ m k:=_root_.id rfl
theorem zeK:Xs tab [] ρ m k=Xo tab k .normal ρ m:=by unfold Xs;rw[z8s];rfl
theorem zdH (f:Bool):Xs tab (⟨d,op,none,f⟩::l) ρ m k=Xv tab (evOp (CALL tab) ρ m op) d l ρ k:=by unfold Xs;rw[z0q,z8q];rfl
theorem zc8 (g:Nat) (w f:Bool):Xs tab (⟨d,op,some (g,w),f⟩::l) ρ m k=Xg tab (ρ.getD g .undef) w d op l ρ m k:=by
 unfold Xs Xg;rw[z0q]
 split
 ·rename_i t h
  rw[z8r tab d op g w f t ⟨ρ,m⟩ _ h];rfl
 ·rename_i h
  rw[z8p tab d op g w f ⟨ρ,m⟩ _ h];rfl
 ·rename_i h1 h2
  unfold Step evOper
  simp only[wanted]
  rw[zci]
theorem ze6:Xg tab (.bool true) true d op l ρ m k=Xv tab (evOp (CALL tab) ρ m op) d l ρ k:=_root_.id rfl
theorem ze9:Xg tab (.bool false) false d op l ρ m k=Xv tab (evOp (CALL tab) ρ m op) d l ρ k:=_root_.id rfl
theorem ze7:Xg tab (.bool true) false d op l ρ m k=Xs tab l (setDst ρ d (.tup [])) m k:=by simp[Xg]
theorem ze8:Xg tab (.bool false) true d op l ρ m k=Xs tab l (setDst ρ d (.tup [])) m k:=by simp[Xg]
theorem zfc (w:Bool):Xg tab (.tup []) w d op l ρ m k=Xs tab l (setDst ρ d (.tup [])) m k:=_root_.id rfl
theorem td (v:AV):Xv tab (some (v,m)) d l ρ k=Xs tab l (setDst ρ d v) m k:=by unfold Xv;rw[z8]
theorem zeL (b:ACode):Xo tab (.seq b k) .normal ρ m=X tab b ρ m k:=_root_.id rfl
theorem z8o (b:ACode):Xo tab (.seq b k) .ret ρ m=Xo tab k .ret ρ m:=_root_.id rfl
theorem z70 (b:ACode) (i:Nat):Xo tab (.seq b k) (.exit i) ρ m=Xo tab k (.exit i) ρ m:=_root_.id rfl
theorem zc9 (id:Nat):Xo tab (.block id k) .normal ρ m=Xo tab k .normal ρ m:=_root_.id rfl
theorem z5f (id:Nat):Xo tab (.block id k) .ret ρ m=Xo tab k .ret ρ m:=_root_.id rfl
theorem z3e (id i:Nat):Xo tab (.block id k) (.exit i) ρ m=if i=id then Xo tab k .normal ρ m else Xo tab k (.exit i) ρ m:=_root_.id rfl
theorem zca (J:St→Prop):Xo tab (.again J k) .normal ρ m=J ⟨ρ,m⟩:=_root_.id rfl
theorem z5g (J:St→Prop):Xo tab (.again J k) .ret ρ m=Xo tab k .ret ρ m:=_root_.id rfl
theorem z3f (J:St→Prop) (i:Nat):Xo tab (.again J k) (.exit i) ρ m=Xo tab k (.exit i) ρ m:=_root_.id rfl
theorem zeM (res:List ARes) (m0:Mem) (R:AV→Mem→Prop):Xo tab (.fin res m0 R) .ret ρ m=Opt (evRess ⟨ρ,m⟩ res) fun vs=>Opt (leave m0 m (packRes vs)) fun r=>R r.1 r.2:=by
 unfold Xo Kont.go;simp
theorem zeN (res:List ARes) (m0:Mem) (R:AV→Mem→Prop):Xo tab (.fin res m0 R) .normal ρ m=Opt (evRess ⟨ρ,m⟩ res) fun vs=>Opt (leave m0 m (packRes vs)) fun r=>R r.1 r.2:=by
 unfold Xo Kont.go;simp
variable (ws : Watch)
theorem zeT:X tab (.draw l) ρ m k=Xd tab m.floor m [] l ρ {m with floor:=max m.floor (m.stk.length+1)} k:=by
 unfold X Xd Run;rw[zdV,Ql];rfl
theorem zeO (fl:Nat) (m0:Mem):Xd tab fl m0 ws [] ρ m k=Xo tab k .normal ρ {m with floor:=fl}:=by unfold Xd;rw[evDraw,z8]
theorem zcc (fl:Nat) (m0:Mem) (g:Nat) (w f:Bool):Xd tab fl m0 ws (⟨d,op,some (g,w),f⟩::l) ρ m k=Xu tab (ρ.getD g .undef) w d op f fl m0 ws l ρ m k:=by
 have skip:wanted ρ (some (g,w))=some false→Xd tab fl m0 ws (⟨d,op,some (g,w),f⟩::l) ρ m k=Xd tab fl m0 ws l (setDst ρ d (.tup [])) m k:=by
  intro h
  unfold Xd
  simp only[evDraw,evOper,watchG,clearG,h]
  cases f
  ·simp only
   cases op.isStore<;>simp
  ·simp only
 have go:wanted ρ (some (g,w))=some true→Xd tab fl m0 ws (⟨d,op,some (g,w),f⟩::l) ρ m k=Xd tab fl m0 ws (⟨d,op,none,f⟩::l) ρ m k:=by
  intro h
  have h':wanted ρ none=some true:=rfl
  unfold Xd
  simp only[evDraw,evOper,watchG,clearG,h,h']
 have no:wanted ρ (some (g,w))=none→Xd tab fl m0 ws (⟨d,op,some (g,w),f⟩::l) ρ m k=False:=by
  intro h
  unfold Xd
  simp only[evDraw,evOper,watchG,clearG,h]
  cases f
  ·simp only
   cases op.isStore<;>simp[Opt]
  ·simp[Opt]
 unfold Xu
 split
 ·rename_i t h
  simp only[wanted,h] at skip go
  cases t<;>cases w<;>simp at skip go⊢ <;>first|exact skip|exact go
 ·rename_i h;exact skip (by simp only[wanted,h])
 ·rename_i h1 h2
  refine no ?_
  simp only[wanted]
theorem ze2 (f:Bool) (fl:Nat) (m0:Mem):Xu tab (.bool true) true d op f fl m0 ws l ρ m k=Xd tab fl m0 ws (⟨d,op,none,f⟩::l) ρ m k:=_root_.id rfl
theorem ze5 (f:Bool) (fl:Nat) (m0:Mem):Xu tab (.bool false) false d op f fl m0 ws l ρ m k=Xd tab fl m0 ws (⟨d,op,none,f⟩::l) ρ m k:=_root_.id rfl
theorem ze3 (f:Bool) (fl:Nat) (m0:Mem):Xu tab (.bool true) false d op f fl m0 ws l ρ m k=Xd tab fl m0 ws l (setDst ρ d (.tup [])) m k:=by simp[Xu]
theorem ze4 (f:Bool) (fl:Nat) (m0:Mem):Xu tab (.bool false) true d op f fl m0 ws l ρ m k=Xd tab fl m0 ws l (setDst ρ d (.tup [])) m k:=by simp[Xu]
theorem zfb (w f:Bool) (fl:Nat) (m0:Mem):Xu tab (.tup []) w d op f fl m0 ws l ρ m k=Xd tab fl m0 ws l (setDst ρ d (.tup [])) m k:=_root_.id rfl
theorem zeP (fl:Nat) (m0:Mem):Xd tab fl m0 ws (⟨d,op,none,true⟩::l) ρ m k=Xw tab (evOp (CALL tab) ρ m0 op) 0 fl m0 (watch ρ m0 op ws) d l ρ m k:=by
 unfold Xd Xw evDraw
 simp only[evOper,watchG,wanted]
 cases evOp (CALL tab) ρ m0 op<;>simp[Opt,Xd]
def Xi (s:Bool) (fl:Nat) (m0:Mem) (ws:Watch) (d:Option Nat) (op:AOp) (l:List AOper) (ρ:List AV) (m:Mem) (k:Kont):Prop:=
 match s with
 |true=>clear ρ op ws=true∧Xw tab (evOp (CALL tab) ρ {m with floor:=m0.floor} op) 1 fl m0 ws d l ρ m k
 |false=>Xw tab (evOp (CALL tab) ρ m op) 2 fl m0 ws d l ρ m k
theorem zdI (fl:Nat) (m0:Mem):Xi tab true fl m0 ws d op l ρ m k=(clear ρ op ws=true∧Xw tab (evOp (CALL tab) ρ {m with floor:=m0.floor} op) 1 fl m0 ws d l ρ m k):=_root_.id rfl
theorem zcb (fl:Nat) (m0:Mem):Xi tab false fl m0 ws d op l ρ m k=Xw tab (evOp (CALL tab) ρ m op) 2 fl m0 ws d l ρ m k:=_root_.id rfl
theorem zdJ (fl:Nat) (m0:Mem):Xd tab fl m0 ws (⟨d,op,none,false⟩::l) ρ m k=Xi tab op.isStore fl m0 ws d op l ρ m k:=by
 unfold Xd Xi evDraw
 simp only[evOper,clearG,wanted]
 cases h:op.isStore
 ·simp only[Xw]
  cases evOp (CALL tab) ρ m op<;>simp[Opt,Xd]
 ·simp only[Xw]
  cases hc:clear ρ op ws
  ·simp[Opt]
  ·cases evOp (CALL tab) ρ {m with floor:=m0.floor} op<;>simp[Opt,Xd]
theorem Xw_0 (v:AV) (m1 m0:Mem) (fl:Nat):Xw tab (some (v,m1)) 0 fl m0 ws d l ρ m k=Xd tab fl m0 ws l (setDst ρ d v) m k:=by unfold Xw;rw[z8];rfl
theorem Xw_1 (v:AV) (m1 m0:Mem) (fl:Nat):Xw tab (some (v,m1)) 1 fl m0 ws d l ρ m k=Xd tab fl m0 ws l (setDst ρ d v) {m1 with floor:=m.floor} k:=by unfold Xw;rw[z8];rfl
theorem zdG (v:AV) (m1 m0:Mem) (fl:Nat):Xw tab (some (v,m1)) 2 fl m0 ws d l ρ m k=Xd tab fl m0 ws l (setDst ρ d v) m1 k:=by unfold Xw;rw[z8];rfl
theorem zai (ρ:List AV) (n:Nat) (a x:Opd):clear ρ (.store n a x) []=true:=by unfold clear;simp only;split<;>rfl
theorem z74 (ρ:List AV) (m0:Mem) (g:Bool) (n:Nat) (a:Opd) (ws:Watch):watch ρ m0 (.load g n a) ws=ws:=rfl
theorem z5j (ρ:List AV) (m0:Mem) (g:Bool) (n:Nat) (a:Opd) (ws:Watch):watch ρ m0 (.ext (.wload g n a)) ws=match a.ev ρ with| .ptr l k st off=>(l,k,off,n,((m0.at (.ptr l k st off)).getD []).take n)::ws|_=>ws:=rfl
theorem z89 (ρ:List AV) (n:Nat) (a x:Opd) (w:Nat×Nat×Nat×Nat×List AV) (ws:Watch):clear ρ (.store n a x) (w::ws)=match a.ev ρ with| .ptr l k _ off=>((w.1 !=l||w.2.1 !=k||decide (off+n≤w.2.2.1)||decide (w.2.2.1+w.2.2.2.1≤off)||(decide (off=w.2.2.1)&&same (x.ev ρ).cells w.2.2.2.2))&&ws.all fun w=>w.1 !=l||w.2.1 !=k||decide (off+n≤w.2.2.1)||decide (w.2.2.1+w.2.2.2.1≤off)||(decide (off=w.2.2.1)&&same (x.ev ρ).cells w.2.2.2.2))|_=>true:=by unfold clear;rfl
theorem X_fn {f:Nat} {fn:AFunc} (h:tab f=some fn) (args:List AV) (m:Mem) (R:AV→Mem→Prop):
  Opt (CALL tab f args m) (fun r=>R r.1 r.2)=X tab fn.body (args++List.replicate (fn.ntmps-args.length) (.tup [])) (enter m) (.fin fn.res m R):=by
 rw[zcj tab h];rfl
end
section
variable {tab : Nat → Option AFunc} {ρ : List AV} {m : Mem} {k : Kont} {a : ACode}
theorem zb {live:List Nat} {nb:Nat} {α:Type} (I:α→St→Prop) (r:α→Nat) (x0:α) (h0:I x0 ⟨ρ,m⟩)
  (h: ∀x σ,I x σ→X tab a (heads live nb σ).ρ (heads live nb σ).m (.again (fun σ'=> ∃y,r y<r x∧I y σ') k)):XL tab live nb a ρ m k:=
 zay I r x0 h0 h
def Does (tab:Nat→Option AFunc) (f:Nat) (args:List AV) (m:Mem) (R:AV→Mem→Prop):Prop:=Opt (CALL tab f args m) fun r=>R r.1 r.2
theorem zW {f:Nat} {fn:AFunc} (h:tab f=some fn) {args:List AV} {m:Mem} {R:AV→Mem→Prop} (hx:X tab fn.body (mk fn.ntmps (.tup []) (numb 0 args)) (enter m) (.fin fn.res m R)) (hn:args.length≤fn.ntmps):Does tab f args m R:=by
 unfold Does;rw[X_fn tab h,zdp _ _ hn];exact hx
theorem z6 {stk:List (List Blk)} {cur c':List Blk} {nx nx' fl fl':Nat} {live live':List (List Nat)} {own:List Nat} {r:AV} (h1:r.refs (stk++[cur]).length=false) (h2:r.toks=[]):
  leave ⟨stk,cur,nx,live,fl⟩ ⟨stk++[cur],c',nx',own::live',fl'⟩ r=some (r,⟨stk,cur,nx',live',fl⟩):=by
 have e:own.filter (fun _=>false)=[]:=by simp
 unfold leave
 simp only[w51,w45,Option.some_or,h1,w28,if_false,h2,List.contains_nil,e,pushToks,w52]
theorem Yu {stk:List (List Blk)} {cur c':List Blk} {nx nx' fl fl':Nat} {live live':List (List Nat)} {own:List Nat} {r:AV} (h1:r.refs (stk++[cur]).length=false):
  leave ⟨stk,cur,nx,live,fl⟩ ⟨stk++[cur],c',nx',own::live',fl'⟩ r=some (r,⟨stk,cur,nx',pushToks (own.filter fun t=>r.toks.contains t) live',fl⟩):=by
 unfold leave
 simp only[w51,w45,Option.some_or,h1,w28,if_false,w52]
end
attribute [go_sem] z9w z5j z89 List.all_nil w2a zai z74 true_and w4d w59 List.getD_cons_succ List.getD_cons_zero w54 List.replicate_zero zbm z9H z9v z5K zdt zbX z9E zbh zcI Bool.not_true Bool.not_false ne_eq not_true_eq_false not_false_eq_true Bool.false_and Bool.and_false Bool.not_not zeQ zfe zeS zff zfg zfd zdL zeR zeU zdK zcd zeK zdH zc8 ze6 ze9 ze7 ze8 zfc td zeL z8o z70 zc9 z5f z3e
 zca z5g z3f zeM zeN zeT zeO zcc ze2 ze5 ze3 ze4 zfb zeP zdI zcb zdJ Xw_0 Xw_1 zdG z9V zdh zbA za2 zdl
 za1 zdi zbD zdm zdn zeF zbF za0 z9U z6u zbB z9Z z9Y z9X z7R z7P z7Q zdj zbE zdo zeG
 zeH z9W z7O z7N zbC z6v zbG evOp evCall Opd.ev zan z8d
 zal zaj z8a z8c zam zak zbY z5a zbZ z6W Mem.bump zbg zcZ zcX zbd zbf zd0 zcY zev z7t zew z9C allOne w29 w34
 w21 w2e w1a w39 Nat.add_zero beq_self_eq_true if_true if_false ite_true ite_false w28 Mem.new enter Mem.at Mem.blk Mem.row Mem.put Mem.putS evFaddr
 z1a zcJ evStore splice w22 w24 w25 w27 List.drop_nil List.take_nil w55 List.getElem?_cons_zero w0d
 w26 Option.map_none Option.bind_none w35 List.map_nil List.head?_cons w0b decide_true decide_false Bool.and_self Bool.and_true Bool.true_and evBin evInt sameKind evMax
 evMin evUn heads cut List.contains_cons List.contains_nil Bool.or_false Bool.or_true Bool.false_or Bool.true_or evRess evRes packRes z6 z8
 AV.refs AV.toks z7S z6S addTok z4D yn zdk XOp.isPut evX nilOf nilChkV Mem.ents evMput evCopy isKey isPlain mapGet mapPut keyEq zbe z8b
end Go.Vs
end
section
namespace Go.Vs.Z
open Go.Vs
@[go_sem] def m (d s:Nat):AOper:=⟨some d,.mov (.t s),none,false⟩
@[go_sem] def o (d:Nat) (op:AOp):AOper:=⟨some d,op,none,false⟩
@[go_sem] def y (d g:Nat) (op:AOp):AOper:=⟨some d,op,some (g,true),false⟩
@[go_sem] def z (d g:Nat) (op:AOp):AOper:=⟨some d,op,some (g,false),false⟩
@[go_sem] def w (d:Nat) (op:AOp):AOper:=⟨some d,op,none,true⟩
@[go_sem] def s (n a:Nat) (x:Opd):AOper:=⟨none,.store n (.t a) x,none,false⟩
@[go_sem] def ld (n a:Nat):AOp:= .load false n (.t a)
@[go_sem] def lg (n a:Nat):AOp:= .load true n (.t a)
@[go_sem] def fa (n a:Nat):AOp:= .faddr n (.t a)
@[go_sem] def ia (n a b:Nat):AOp:= .iaddr n (.t a) (.t b)
@[go_sem] def le (a:Nat):AOp:= .len (.t a)
@[go_sem] def v (x:Opd):AOp:= .mov x
@[go_sem] def mt (a:Nat):AOp:= .mov (.t a)
@[go_sem] def ki (n:Int):Opd:= .c (.int .i64 n)
@[go_sem] def ku (n:Int):Opd:= .c (.int .u8 n)
@[go_sem] def kf:Opd:= .c (.bool false)
@[go_sem] def kt:Opd:= .c (.bool true)
@[go_sem] def kn:Opd:= .c .nils
@[go_sem] def b (op:BinOp) (x y:Nat):AOp:= .bin op (.t x) (.t y)
@[go_sem] def bi (op:BinOp) (x:Nat) (n:Int):AOp:= .bin op (.t x) (.c (.int .i64 n))
@[go_sem] def bu (op:BinOp) (x:Nat) (n:Int):AOp:= .bin op (.t x) (.c (.int .u8 n))
@[go_sem] def ex (a i:Nat):AOp:= .extract (.t a) i
@[go_sem] def cf (f:Nat) (l:List Opd):AOp:= .call (.c (.fn (.func f) [] [])) l
@[go_sem] def cg (f:Nat) (l:List Nat):AOp:= .call (.c (.fn (.func f) [] [])) (l.map .t)
@[go_sem] def pf (a b:Nat):AOp:= .pick (.t a) (.t b) (.c (.bool false))
@[go_sem] def pt (a b:Nat):AOp:= .pick (.t a) (.c (.bool true)) (.t b)
@[go_sem] def ap (n k a b:Nat):AOp:= .app n k (.t a) (.t b)
@[go_sem] def bx (n a:Nat):AOp:= .box n (.t a)
@[go_sem] def li (n:Nat) (l:List Nat):AOp:= .lit n (l.map .t)
@[go_sem] def q (a b:ACode):ACode:= .seq a b
@[go_sem] def p (l:List AOper):ACode:= .ops l
@[go_sem] def c (t:Nat) (a b:ACode):ACode:= .cond (.t t) a b
@[go_sem] def k:ACode:= .skip
@[go_sem] def r:ACode:= .ret
@[go_sem] def bl (i:Nat) (a:ACode):ACode:= .block i a
@[go_sem] def lo (l:List Nat) (a:ACode):ACode:= .loop l a
@[go_sem] def e (i:Nat):ACode:= .exit i
@[go_sem] def iz:AV:= .int .i64 0
@[go_sem] def g (l:List AOper) (a:ACode):ACode:= .seq (.ops l) a
@[go_sem] def V (d:Nat) (x:Int):AOper:=o d (v (ki x))
@[go_sem] def W (d:Nat) (x:Opd):AOper:=o d (v x)
end Go.Vs.Z
namespace Go.Vs
theorem tab1 {P:Go.Program} {f:Nat} {fn:Go.Func} {n:List (List Nat)} {a afn:AFunc} (hf:P.funcs[f]? =some fn) (hc:compFn P fn n=some a) (h:some a=some afn):(∃fn n,P.funcs[f]? =some fn∧compFn P fn n=some afn)∨ ∃b,afn=constFn b∧Known P f b:=by
 injection h with h;subst h;exact .inl ⟨fn,n,hf,hc⟩
theorem tab2 {P:Go.Program} {f:Nat} {b:Bool} {afn:AFunc} (hk:Known P f b) (h:some (constFn b)=some afn):(∃fn n,P.funcs[f]? =some fn∧compFn P fn n=some afn)∨ ∃b,afn=constFn b∧Known P f b:=by
 injection h with h;subst h;exact .inr ⟨b,rfl,hk⟩
end Go.Vs
end
