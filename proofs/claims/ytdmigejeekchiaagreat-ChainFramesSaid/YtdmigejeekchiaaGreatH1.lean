/-
  Part 2 of the proof, shared by claims of this seat: MVsmp, MVscp, MVsl, MVsm, MVsn, MVso, MVsna, MVsp, MVsq, MVsqa, MVsqb, MVsr, MVss, MVst.
-/
import Derived.Test.YtdmigejeekchiaaGreatH0
import Derived.MapKept
import Derived.Carry
import Derived.RangeFuncRecord
import Derived.TacticsIn
import Derived.OrdersIn
import Derived.RangeFuncLeaves
set_option maxHeartbeats 64000000
set_option maxRecDepth 1000000
set_option linter.unusedVariables false
set_option linter.unusedSimpArgs false
open Nat renaming reduceMul → G2, reduceAdd → G3, reduceSub → G4, reduceEqDiff → G6, reduceBEq → G7, reduceLT → G8, reduceLeDiff → G9, le_refl → w08, min_eq_left → w0c, zero_le → w0e, zero_add → w1f, lt_succ_of_lt → w3c, add_mul → w40, lt_or_ge → w43, lt_of_lt_of_le → w55
open Int renaming reduceEq → H0, reduceLT → H1, reduceLE → H2, reduceAdd → H3, reduceSub → H4, reduceMul → H5, reducePow → H6, reduceToNat → H7, ofNat_lt → w02, toNat_natCast → w07, toNat_zero → w18, toNat_of_nonneg → w45
open Option renaming map_eq_some_iff → w00, bind_eq_some_iff → w05, map_some → w06, map_none → w0d, getD_some → w32, bind_some → w36
open List renaming getD_eq_getElem?_getD → w03, getElem_mem → w04, take_length → w0a, mem_append → w0b, take_succ_cons → w10, getElem?_eq_some_iff → w13, length_append → w15, drop_zero → w19, mem_singleton → w1c, getElem?_eq_getElem → w1d, append_assoc → w1e, length_take → w20, append_nil → w21, getElem?_map → w22, mem_cons_self → w24, cons_append → w26, ext_getElem? → w27, eq_nil_of_length_eq_zero → w2a, map_append → w2b, mem_cons_of_mem → w2c, flatMap_cons → w2d, nil_append → w2e, map_cons → w30, take_of_length_le → w35, all_eq_true → w37, mem_of_getElem? → w3a, flatten_cons → w3e, getElem?_take → w3f, mem_map → w42, replicate_succ → w44, length_nil → w46, length_drop → w47, mem_iff_getElem → w49, getElem?_eq_none → w4c, mem_range → w4d, getElem?_cons_succ → w4e, nodup_append → w4f, mem_append_left → w52, mem_cons → w57, length_map → w58, length_cons → w59, mem_append_right → w5a
open Bool renaming and_eq_true → w09, false_and → w16, and_false → w17, false_eq_true → w25, or_eq_false_iff → w28, or_eq_true → w2f
open Array renaming getElem?_eq_some_iff → w31, getD_eq_getD_getElem? → w38, getElem?_eq_getElem → w51
section
namespace Go.Vs
open Go.RowKit
section
variable {P : Program} {g : G} {w : World} {ρ : List AV} {a : Act} {m m' : Mem} {o : Oper} {r : AV}
theorem Rep.inv_mapR {l k st:Nat} {v:Value} (h:Rep g w (.mapR l k st) v): ∃b,g.mp st=some b∧v= .map (some b):=by
 cases h with|mapR _ _ _ b h=>exact⟨b,h,rfl⟩
theorem Inv.alloc_map (I:Inv g w m): ∃g',Ext g w g' (w.alloc (.map #[] 0))∧Inv g' (w.alloc (.map #[] 0)) {m with cur:=m.cur++[⟨m.nx,[.tup []]⟩],nx:=m.nx+1}∧g'.mp m.nx=some w.heap.size:=by
 let g':G:={g with mp:=fun st=>if st=m.nx then some w.heap.size else g.mp st,own:=fun b o=>if b=w.heap.size then some (false,m.nx) else g.own b o}
 have hmp: ∀st x,g.mp st=some x→g'.mp st=some x:=fun st x h=>by
  have:=(I.mpk st x h).2.1
  have hne:st≠m.nx:=by omega
  simp[g',hne,h]
 have hown: ∀b o,b≠w.heap.size→g'.own b o=g.own b o:=fun b o h=>by simp[g',h]
 have e:Ext g w g' (w.alloc (.map #[] 0)):=⟨ExtW.alloc I _ (fun _ _ h=>h) (fun _ _ h=>h) hown rfl hmp,rfl⟩
 have k: ∀x,Kept g w g' (w.alloc (.map #[] 0)) x:=fun x=>Kept.alloc I _ hown x
 have hb:g'.mp m.nx=some w.heap.size:=by simp[g']
 refine⟨g',e,⟨fun bl hb' hr=> ?_,?_,?_,?_,?_,?_,?_,I.lnd,fun st hr=> ?_,fun st b h=> ?_⟩,hb⟩
 ·simp only[Mem.all,w0b,w1c] at hb'
  rcases hb' with hb'|hb'|rfl
  ·exact(I.blk bl (by simp[Mem.all,hb']) hr).mono e (k _)
  ·exact(I.blk bl (by simp[Mem.all,hb']) hr).mono e (k _)
  ·exact .inr (.inl ⟨w.heap.size,[],#[],0,hb,fun j=>by simp[g'],rfl,jD w _,by simpa using EntsOk.nil⟩)
 ·have:=I.nd
  simp only[Mem.all,w2b,w30,List.map_nil] at this⊢
  rw[←w1e,w4f]
  refine⟨this,by simp,fun a ha b hb'=> ?_⟩
  simp only[w1c] at hb'
  subst hb'
  rw[←w2b] at ha
  obtain⟨bl,hbl,rfl⟩:=w42.1 ha
  have:=I.st_lt (bl:=bl) hbl
  omega
 ·intro st x hx
  have:=I.stlt st x hx;simp;omega
 ·intro t x hx
  have:=I.tklt t x hx
  exact⟨w3c this.1,this.2⟩
 ·intro t ht
  obtain⟨b,p,en,h1,h2⟩:=I.live t ht
  exact⟨b,p,en,h1,h2.mono (k _)⟩
 ·intro b o x hx
  simp only[g'] at hx
  split at hx
  ·rename_i hc;exact⟨by rw[hc];exact I.hbase,by rw[hc];simp⟩
  ·have:=I.ownb b o x hx;exact⟨this.1,by simp;omega⟩
 ·have:=I.hbase;simp;exact Nat.le_succ_of_le this
 ·have h1:=I.rsv st hr
  exact⟨h1.1,by simp;omega⟩
 ·by_cases hs:st=m.nx
  ·subst hs
   refine⟨?_,by simp,?_⟩
   ·cases h:g.bt m.nx with
    |none=>simp[g',h]
    |some x=>exact absurd (I.stlt _ _ h) (Nat.lt_irrefl _)
   ·cases h:g.rs m.nx with
    |false=>simp[g',h]
    |true=>exact absurd (I.rsv _ h).2 (Nat.lt_irrefl _)
  ·simp only[g',hs,if_false] at h
   have h1:=I.mpk st b h
   exact⟨h1.1,by simp;omega,h1.2.2⟩
theorem z2G (I:Inv g w m) {t:TypeId} (hop:o.op= .makeMap t none):Yields P a o g w (.mapR m.stk.length m.cur.length m.nx) {m with cur:=m.cur++[⟨m.nx,[.tup []]⟩],nx:=m.nx+1}:=by
 obtain⟨g',e,I',hb⟩:=I.alloc_map
 refine⟨g',_,_,.inl ?_,e,I',.mapR _ _ _ _ hb⟩
 simp[execOp,hop,run_makeMap,Result.andThen]
def setMap (w:World) (b:Nat) (ob:Obj):World:={w with heap:=w.heap.setIfInBounds b ob}
theorem yQ (w:World) (b:Nat) (ob:Obj) {b':Nat} (h:b'≠b):(setMap w b ob).heap[b']? =w.heap[b']? :=by
 unfold setMap
 simp only[Array.getElem?_setIfInBounds]
 rw[if_neg (fun e=>h e.symm)]
theorem jG (w:World) (b:Nat) (ob:Obj) {b':Nat} (h:b'≠b) (j:Nat):(setMap w b ob).cell? ⟨b',j,none⟩=w.cell? ⟨b',j,none⟩:=by
 unfold World.cell?
 rw[yQ w b ob h]
theorem ZD (w:World) (b:Nat) (ob:Obj) {b':Nat} (h:b'≠b) (j:Nat):(setMap w b ob).frozen? ⟨b',j,none⟩=w.frozen? ⟨b',j,none⟩:=by
 unfold World.frozen?
 rw[yQ w b ob h]
theorem Inv.put_map (I:Inv g w m) {l k st b:Nat} {ps ps':List AV} {es':Array MapEntry} {c':Nat} (hb:m.blk l k st=some [.tup ps]) (hm:g.mp st=some b) (hps:EntsOk ps' es'.toList):
  Ext g w g (setMap w b (.map es' c'))∧Inv g (setMap w b (.map es' c')) (m.put l k st [.tup ps']):=by
 have hin:=y9 hb
 obtain⟨b0,ps0,es,clock,h1,h2,h3,h4,h5⟩:=I.map hin hm rfl
 simp only at h1 h2 h3
 rw[hm] at h1
 injection h1 with h1;subst h1
 have hlt:b<w.heap.size:=(w31.1 h4).1
 have hnc: ∀j,w.cell? ⟨b,j,none⟩=none:=fun j=>by unfold World.cell?;simp[h4]
 have hbase:g.base≤b:=(I.ownb b 0 _ (h2 0)).1
 have ext:Ext g w g (setMap w b (.map es' c')):=by
  refine⟨⟨fun _ _ h=>h,fun _ _ h=>h,fun b' j v e1 e2=>⟨?_,e2⟩,rfl,fun _ _ h=>h,?_,fun b' ob h=> ?_⟩,rfl⟩
  ·have hne:b'≠b:=fun e=>by rw[e,hnc] at e1;cases e1
   rw[jG _ _ _ hne];exact e1
  ·exact⟨rfl,rfl,rfl,by simp[setMap],fun q hq=>yQ _ _ _ (by omega)⟩
  ·by_cases e:b'=b
   ·subst e;rw[h4] at h;injection h with h;subst h;trivial
   ·rw[yQ _ _ _ e,h];exact OthKept.refl ob
 have kept: ∀y,y≠(false,st)→Kept g w g (setMap w b (.map es' c')) y:=by
  intro y hy b' j hj
  have hne:b'≠b:=fun e=>by rw[e,h2 j] at hj;exact hy (Option.some.inj hj).symm
  exact⟨hj,ZD _ _ _ hne j,jG _ _ _ hne j,fun ob _ he=>by rw[yQ _ _ _ hne];exact he⟩
 refine⟨ext,⟨fun bl hbl hr=> ?_,?_,?_,?_,?_,?_,?_,?_,?_,?_⟩⟩
 ·rcases X9 I _ hb hbl with rfl|⟨hbl,hne⟩
  ·refine .inr (.inl ⟨b,ps',es',c',hm,h2,rfl,?_,hps⟩)
   simp[setMap,hlt]
  ·exact(I.blk bl hbl hr).mono ext (kept _ (fun h=>hne (by injection h)))
 ·rw[WO _ hb];exact I.nd
 ·rw[tl];exact I.stlt
 ·rw[tl];exact I.tklt
 ·rw[vb]
  intro t ht
  obtain⟨b',p,en,a1,a2⟩:=I.live t ht
  exact⟨b',p,en,a1,a2.mono (kept _ (fun h=>by injection h with h _;cases h))⟩
 ·intro b' o' x hx
  have:=I.ownb b' o' x hx
  exact⟨this.1,by simp[setMap];exact this.2⟩
 ·simp[setMap];exact I.hbase
 ·rw[vb];exact I.lnd
 ·rw[tl];exact I.rsv
 ·rw[tl];exact I.mpk
theorem Inv.alloc_loop (I:Inv g w m) (r:Loop) (hr0:LoopSt 0 r): ∃g',Ext g w g' (w.alloc (.loop r))∧Inv g' (w.alloc (.loop r)) {m with cur:=m.cur++[⟨m.nx,[.int .i64 (.ofNat 0)]⟩],nx:=m.nx+1}∧g'.mp m.nx=some w.heap.size:=by
 let g':G:={g with mp:=fun st=>if st=m.nx then some w.heap.size else g.mp st,own:=fun b o=>if b=w.heap.size then some (false,m.nx) else g.own b o}
 have hmp: ∀st x,g.mp st=some x→g'.mp st=some x:=fun st x h=>by
  have:=(I.mpk st x h).2.1
  have hne:st≠m.nx:=by omega
  simp[g',hne,h]
 have hown: ∀b o,b≠w.heap.size→g'.own b o=g.own b o:=fun b o h=>by simp[g',h]
 have e:Ext g w g' (w.alloc (.loop r)):=⟨ExtW.alloc I _ (fun _ _ h=>h) (fun _ _ h=>h) hown rfl hmp,rfl⟩
 have k: ∀x,Kept g w g' (w.alloc (.loop r)) x:=fun x=>Kept.alloc I _ hown x
 have hb:g'.mp m.nx=some w.heap.size:=by simp[g']
 refine⟨g',e,⟨fun bl hb' hr=> ?_,?_,?_,?_,?_,?_,?_,I.lnd,fun st hr=> ?_,fun st b h=> ?_⟩,hb⟩
 ·simp only[Mem.all,w0b,w1c] at hb'
  rcases hb' with hb'|hb'|rfl
  ·exact(I.blk bl (by simp[Mem.all,hb']) hr).mono e (k _)
  ·exact(I.blk bl (by simp[Mem.all,hb']) hr).mono e (k _)
  ·exact .inr (.inr ⟨w.heap.size,r,0,hb,fun j=>by simp[g'],rfl,jD w _,hr0⟩)
 ·have:=I.nd
  simp only[Mem.all,w2b,w30,List.map_nil] at this⊢
  rw[←w1e,w4f]
  refine⟨this,by simp,fun a ha b hb'=> ?_⟩
  simp only[w1c] at hb'
  subst hb'
  rw[←w2b] at ha
  obtain⟨bl,hbl,rfl⟩:=w42.1 ha
  have:=I.st_lt (bl:=bl) hbl
  omega
 ·intro st x hx
  have:=I.stlt st x hx;simp;omega
 ·intro t x hx
  have:=I.tklt t x hx
  exact⟨w3c this.1,this.2⟩
 ·intro t ht
  obtain⟨b,p,en,h1,h2⟩:=I.live t ht
  exact⟨b,p,en,h1,h2.mono (k _)⟩
 ·intro b o x hx
  simp only[g'] at hx
  split at hx
  ·rename_i hc;exact⟨by rw[hc];exact I.hbase,by rw[hc];simp⟩
  ·have:=I.ownb b o x hx;exact⟨this.1,by simp;omega⟩
 ·have:=I.hbase;simp;exact Nat.le_succ_of_le this
 ·have h1:=I.rsv st hr
  exact⟨h1.1,by simp;omega⟩
 ·by_cases hs:st=m.nx
  ·subst hs
   refine⟨?_,by simp,?_⟩
   ·cases h:g.bt m.nx with
    |none=>simp[g',h]
    |some x=>exact absurd (I.stlt _ _ h) (Nat.lt_irrefl _)
   ·cases h:g.rs m.nx with
    |false=>simp[g',h]
    |true=>exact absurd (I.rsv _ h).2 (Nat.lt_irrefl _)
  ·simp only[g',hs,if_false] at h
   have h1:=I.mpk st b h
   exact⟨h1.1,by simp;omega,h1.2.2⟩
theorem Inv.put_loop (I:Inv g w m) {l k st b n':Nat} {x:Int} {r:Loop} {s':LoopState} {p':Option Code} (hb:m.blk l k st=some [.int .i64 x]) (hm:g.mp st=some b) (hr:w.heap[b]? =some (.loop r)) (hps:LoopSt n' {r with state:=s',pending:=p'}):
  Ext g w g (setMap w b (.loop {r with state:=s',pending:=p'}))∧Inv g (setMap w b (.loop {r with state:=s',pending:=p'})) (m.put l k st [.int .i64 (.ofNat n')]):=by
 have hin:=y9 hb
 obtain⟨b0,r0,n0,h1,h2,h3,h4,h5⟩:=I.loop hin hm rfl
 simp only at h1 h2 h3
 rw[hm] at h1
 injection h1 with h1;subst h1
 have hlt:b<w.heap.size:=(w31.1 h4).1
 have hnc: ∀j,w.cell? ⟨b,j,none⟩=none:=fun j=>by unfold World.cell?;simp[h4]
 have hbase:g.base≤b:=(I.ownb b 0 _ (h2 0)).1
 have ext:Ext g w g (setMap w b (.loop {r with state:=s',pending:=p'})):=by
  refine⟨⟨fun _ _ h=>h,fun _ _ h=>h,fun b' j v e1 e2=>⟨?_,e2⟩,rfl,fun _ _ h=>h,?_,fun b' ob h=> ?_⟩,rfl⟩
  ·have hne:b'≠b:=fun e=>by rw[e,hnc] at e1;cases e1
   rw[jG _ _ _ hne];exact e1
  ·exact⟨rfl,rfl,rfl,by simp[setMap],fun q hq=>yQ _ _ _ (by omega)⟩
  ·by_cases e:b'=b
   ·subst e;rw[hr] at h;injection h with h;subst h;exact⟨s',p',by simp[setMap,hlt]⟩
   ·rw[yQ _ _ _ e,h];exact OthKept.refl ob
 have kept: ∀y,y≠(false,st)→Kept g w g (setMap w b (.loop {r with state:=s',pending:=p'})) y:=by
  intro y hy b' j hj
  have hne:b'≠b:=fun e=>by rw[e,h2 j] at hj;exact hy (Option.some.inj hj).symm
  exact⟨hj,ZD _ _ _ hne j,jG _ _ _ hne j,fun ob _ he=>by rw[yQ _ _ _ hne];exact he⟩
 refine⟨ext,⟨fun bl hbl hr=> ?_,?_,?_,?_,?_,?_,?_,?_,?_,?_⟩⟩
 ·rcases X9 I _ hb hbl with rfl|⟨hbl,hne⟩
  ·refine .inr (.inr ⟨b,_,n',hm,h2,rfl,?_,hps⟩)
   simp[setMap,hlt]
  ·exact(I.blk bl hbl hr).mono ext (kept _ (fun h=>hne (by injection h)))
 ·rw[WO _ hb];exact I.nd
 ·rw[tl];exact I.stlt
 ·rw[tl];exact I.tklt
 ·rw[vb]
  intro t ht
  obtain⟨b',p,en,a1,a2⟩:=I.live t ht
  exact⟨b',p,en,a1,a2.mono (kept _ (fun h=>by injection h with h _;cases h))⟩
 ·intro b' o' x hx
  have:=I.ownb b' o' x hx
  exact⟨this.1,by simp[setMap];exact this.2⟩
 ·simp[setMap];exact I.hbase
 ·rw[vb];exact I.lnd
 ·rw[tl];exact I.rsv
 ·rw[tl];exact I.mpk
theorem z0X (s s':ByteArray):(s==s')=(s.data.toList==s'.data.toList):=by
 have h:(s==s')=(s.data==s'.data):=rfl
 rw[h]
 cases hq:(s.data==s'.data) with
 |true=>have:=beq_iff_eq.1 hq;rw[this];simp
 |false=>
  have hne:s.data≠s'.data:=fun e=>by rw[e] at hq;simp at hq
  have:s.data.toList≠s'.data.toList:=fun e=>hne (by simpa using e)
  simp[hne]
theorem Up {kk:Bool} {kt:TypeId} (hk:keyKindT P kt=some kk): ∃d,P.underlying kt=some d∧ ∀{x y:AV} {u v:Value} {t:Bool},PRep x u→PRep y v→keyEq kk x y=some t→Instr.sameNow d u v=some t:=by
 unfold keyKindT at hk
 split at hk
 ·rename_i hd
  injection hk with hk;subst hk
  refine⟨_,hd,fun{x y u v t} h1 h2 he=> ?_⟩
  cases h1<;>cases h2<;>simp only[keyEq] at he<;>first|(cases he;done)|skip
  rename_i l s h l' s' h'
  subst h;subst h'
  injection he with he;subst he
  simp only[Instr.sameNow,Option.some.injEq]
  exact z0X s s'
 ·rename_i q hd
  injection hk with hk;subst hk
  refine⟨_,hd,fun{x y u v t} h1 h2 he=> ?_⟩
  cases h1<;>cases h2<;>simp only[keyEq] at he<;>first|(cases he;done)|skip
  split at he
  ·rename_i hs
   injection he with he;subst he
   simp[Instr.sameNow,Yy hs]
  ·cases he
 ·cases hk
theorem Uw {kk:Bool} {d:TypeDesc} (hs: ∀{x y:AV} {u v:Value} {t:Bool},PRep x u→PRep y v→keyEq kk x y=some t→Instr.sameNow d u v=some t) {z k r:AV} {kv:Value} (hk:PRep k kv):
  ∀{ps:List AV} {es:List MapEntry} (i:Nat),EntsOk ps es→mapGet kk z k ps=some r→(Instr.findNow d kv es i=some none∧r=z)∨ ∃j v,Instr.findNow d kv es i=some (some (j,v))∧PRep r v
 |_,_,i,.nil,h=>by
  simp only[mapGet,Option.some.injEq] at h
  exact .inl ⟨rfl,h.symm⟩
 |_,_,i,.cons (k:=k') (v:=v') (e:=e) h1 h2 h3,h=>by
  simp only[mapGet] at h
  split at h
  ·rename_i he
   injection h with h;subst h
   exact .inr ⟨i,e.val,by simp[Instr.findNow,hs hk h1 he],h2⟩
  ·rename_i he
   have:=Uw hs hk (i+1) h3 h
   simpa [Instr.findNow,hs hk h1 he] using this
  ·cases h
theorem Uv {kk:Bool} {d:TypeDesc} (hs: ∀{x y:AV} {u v:Value} {t:Bool},PRep x u→PRep y v→keyEq kk x y=some t→Instr.sameNow d u v=some t) {k v:AV} {kv vv:Value} (hk:PRep k kv) (hv:PRep v vv):
  ∀{ps ps':List AV} {es:List MapEntry} (i:Nat),EntsOk ps es→mapPut kk k v ps=some ps'→
   (Instr.findNow d kv es i=some none∧ ∀born,EntsOk ps' (es++[⟨kv,vv,born⟩]))∨
   ∃j e,Instr.findNow d kv es i=some (some (i+j,e.val))∧es[j]? =some e∧(∃k',PRep k' e.key∧keyEq kk k k'=some true)∧EntsOk ps' (es.modify j fun e=>{e with key:=kv,val:=vv})
 |_,_,_,i,.nil,h=>by
  simp only[mapPut,Option.some.injEq] at h
  subst h
  exact .inl ⟨rfl,fun born=> .cons hk hv .nil⟩
 |_,_,_,i,.cons (k:=k') (v:=v') (e:=e) h1 h2 h3,h=>by
  simp only[mapPut] at h
  split at h
  ·rename_i he
   injection h with h;subst h
   exact .inr ⟨0,e,by simp[Instr.findNow,hs hk h1 he],rfl,⟨k',h1,he⟩,by simpa using EntsOk.cons hk hv h3⟩
  ·rename_i he
   simp only[w00] at h
   obtain⟨l,hl,rfl⟩:=h
   rcases Uv hs hk hv (i+1) h3 hl with⟨a1,a2⟩|⟨j,e',a1,a2,a3,a4⟩
   ·exact .inl ⟨by simp[Instr.findNow,hs hk h1 he,a1],fun born=> .cons h1 h2 (a2 born)⟩
   ·exact .inr ⟨j+1,e',by simp[Instr.findNow,hs hk h1 he,a1];omega,by simpa using a2,a3,by simpa using EntsOk.cons h1 h2 a4⟩
  ·cases h
theorem Ur {kk:Bool} {k:AV} (h:isKey kk k=true):isPlain k=true:=by
 cases k<;>cases kk<;>simp[isKey] at h<;>rfl
theorem Xf {kk:Bool} {kt:TypeId} (hk:keyKindT P kt=some kk) (em:Bool) (n:Nat) (v:Value) (w:World):(Instr.checkKey em (n+1) kt v).run P w= .ok () w:=by
 unfold keyKindT at hk
 split at hk
 ·rename_i hd;simp[Instr.checkKey,run_underlying hd]
 ·rename_i hd;simp[Instr.checkKey,run_underlying hd]
 ·cases hk
theorem z3F {t:TypeId} {z:AV} (h:plainZero P t=some z) (w:World): ∃v,(zeroValue t).run P w= .ok v w∧PRep z v:=by
 unfold plainZero at h
 split at h
 ·rename_i z' hz
  split at h
  ·rename_i hp
   injection h with h;subst h
   obtain⟨v,h1,h2⟩:=jb hz w
   exact⟨v,h1,(xB (g:=⟨fun _=>none,fun _=>none,fun _ _=>none,0,fun _=>false,fun _=>none⟩) (w:=w) h2).plain hp⟩
  ·cases h
 ·cases h
theorem z4k (hR:Reps g w ρ a.tmps.toList) (I:Inv g w m) {t kt et:TypeId} {x k:Operand} {x' k':Opd} {kk:Bool} {z:AV} {ps:List AV} (hop:o.op= .lookup t x k false) (ht:P.underlying t=some (.map kt et)) (hk:keyKindT P kt=some kk) (hz:plainZero P et=some z)
  (hx:compOpd x=some x') (hkx:compOpd k=some k') (hps:m.ents (x'.ev ρ)=some ps) (hky:isKey kk (k'.ev ρ)=true) (hg:mapGet kk z (k'.ev ρ) ps=some r):Yields P a o g w r m:=by
 have h1:=ze hR hx
 have h2:=(ze hR hkx).plain (Ur hky)
 unfold Mem.ents at hps
 split at hps
 ·rename_i l i st hxe
  split at hps
  ·rename_i ps0 hb
   injection hps with hps;subst hps
   rw[hxe] at h1
   obtain⟨b,hmp,hv⟩:=h1.inv_mapR
   obtain⟨b0,ps1,es,clock,e1,e2,e3,e4,e5⟩:=I.map (y9 hb) hmp rfl
   simp only at e1 e3
   rw[hmp] at e1
   injection e1 with e1;subst e1
   injection e3 with e3 _;injection e3 with e3;subst e3
   obtain⟨d,hd,hs⟩:=Up hk
   obtain⟨zv,hzv,hzr⟩:=z3F hz w
   rcases Uw hs h2 0 e5 hg with⟨f1,rfl⟩|⟨j,v,f1,f2⟩
   ·refine .pure I (v:=zv) ?_ hzr.rep
    simp[execOp,hop,hv,Instr.lookup,run_underlying ht,MapKept.run_getObj_map e4,Xf hk,Instr.findKey,run_underlying hd,f1,hzv,Result.andThen]
   ·refine .pure I (v:=v) ?_ f2.rep
    simp[execOp,hop,hv,Instr.lookup,run_underlying ht,MapKept.run_getObj_map e4,Xf hk,Instr.findKey,run_underlying hd,f1,Result.andThen]
  ·cases hps
 ·cases hps
theorem z1z {kk:Bool} {x y:AV} {u v:Value} (h1:PRep x u) (h2:PRep y v) (h:keyEq kk x y=some true) (n:Nat):Instr.sameBits n v u=true:=by
 cases h1<;>cases h2<;>cases kk<;>simp only[keyEq] at h<;>first|(cases h;done)|skip
 ·split at h
  ·rename_i hs
   injection h with h
   have:=Yy hs
   have h':=beq_iff_eq.1 h
   subst this;subst h'
   cases n<;>simp[Instr.sameBits]
  ·cases h
 ·rename_i l s h1 l' s' h2
  injection h with h
  have h':=beq_iff_eq.1 h
  have:s=s':=by cases s;cases s';simp at h1 h2;subst h1;subst h2;simpa using h'
  subst this
  have hb:(s==s)=true:=by rw[z0X];simp
  cases n<;>simp[Instr.sameBits,hb]
theorem z4i (hR:Reps g w ρ a.tmps.toList) (I:Inv g w m) {t kt et:TypeId} {x k v:Operand} {x' k' v':Opd} {kk:Bool} (hop:o.op= .mapUpdate t x k v) (ht:P.underlying t=some (.map kt et)) (hk:keyKindT P kt=some kk)
  (hx:compOpd x=some x') (hkx:compOpd k=some k') (hvx:compOpd v=some v') (he:evMput m kk (x'.ev ρ) (k'.ev ρ) (v'.ev ρ)=some (r,m')):Yields P a o g w r m':=by
 unfold evMput at he
 split at he
 ·rename_i l i st hxe
  split at he
  ·rename_i ps hps
   split at he
   ·rename_i hc
    simp only[w09] at hc
    obtain⟨⟨c1,c2⟩,c3⟩:=hc
    simp only[w00,Prod.mk.injEq] at he
    obtain⟨ps',hput,rfl,rfl⟩:=he
    have h1:=ze hR hx
    have h2:=(ze hR hkx).plain (Ur c1)
    have h3:=(ze hR hvx).plain c2
    simp only[Mem.ents] at hps
    split at hps
    ·rename_i ps0 hb
     injection hps with hps;subst hps
     rw[hxe] at h1
     obtain⟨b,hmp,hv⟩:=h1.inv_mapR
     obtain⟨b0,ps1,es,clock,e1,e2,e3,e4,e5⟩:=I.map (y9 hb) hmp rfl
     simp only at e1 e3
     rw[hmp] at e1
     injection e1 with e1;subst e1
     injection e3 with e3 _;injection e3 with e3;subst e3
     obtain⟨d,hd,hs⟩:=Up hk
     rcases Uv hs h2 h3 0 e5 hput with⟨f1,f2⟩|⟨j,e,f1,f2,⟨k0,f3,f4⟩,f5⟩
     ·obtain⟨k1,k2⟩:=I.put_map (ps':=ps') (es':=es.push ⟨a.eval k,a.eval v,clock⟩) (c':=clock+1) hb hmp (by simpa using f2 clock)
      refine⟨g,_,Go.undef,.inr ⟨?_,rfl⟩,k1,k2,xK _ _⟩
      simp[execOp,hop,hv,Instr.mapUpdate,run_underlying ht,MapKept.run_getObj_map e4,Xf hk,Instr.findKey,run_underlying hd,f1,MapKept.run_setObj_map _ e4,setMap,Result.andThen]
     ·obtain⟨k1,k2⟩:=I.put_map (ps':=ps') (es':=es.modify j fun e=>{e with key:=a.eval k,val:=a.eval v}) (c':=clock) hb hmp (by simpa using f5)
      refine⟨g,_,Go.undef,.inr ⟨?_,rfl⟩,k1,k2,xK _ _⟩
      have hge:es[j]? =some e:=by simpa using f2
      have hst:(Instr.keyThatStays e.key (a.eval k)).run P w= .ok (a.eval k) w:=by
       simp[Instr.keyThatStays,z1z h2 f3 f4]
      simp only[w1f] at f1
      simp[execOp,hop,hv,Instr.mapUpdate,run_underlying ht,MapKept.run_getObj_map e4,Xf hk,Instr.findKey,run_underlying hd,f1,hge,hst,MapKept.run_setObj_map _ e4,setMap,Result.andThen]
    ·cases hps
   ·cases he
  ·cases he
 ·cases he
end
section
variable {P : Program} {g : G} {w : World} {ρ : List AV} {a : Act} {m m' : Mem} {o : Oper} {r : AV}
theorem TE (I:Inv g w m) {s:Nat} (h0:0<s) {y:AV} {v:Value} {ys:List AV} (hng: ∀s l k st n,y≠ .grow s l k st n) (hns: ∀b,y≠ .str b) (hy:m.elems s y=some ys) (h:Rep g w y v):
  ∃base cap us,v= .slice base ys.length cap∧Reps g w (ys.flatMap AV.cells) us∧us.length=ys.length*s∧(∀(i:Nat) (x:AV),ys[i]? =some x→x.cells.length=s)∧
   (base=none→ys=[])∧ ∀ad,base=some ad→ ∀(j:Nat) (u:Value),us[j]? =some u→w.cell? (ad.add j)=some u:=by
 unfold Mem.elems at hy
 split at hy
 ·rename_i l k st off len
  split at hy
  ·rename_i cs hblk
   split at hy
   ·rename_i hcond
    simp only[w09,decide_eq_true_eq] at hcond
    injection hy with hy;subst hy
    obtain⟨q1,q2,q3⟩:=ke h0 len (cs.drop off) (by simp;omega) hcond.2
    rw[q1,q3]
    rcases U1 I h hblk with⟨rfl,b,cap,hv⟩|⟨b,oo,cap,us,hv,hcap,hreps,hcell⟩
    ·exact⟨some b,cap,[],hv,by simpa using Reps.nil g w,by simp,q2,fun e=>(by cases e),fun ad _ j u hj=>by simp at hj⟩
    ·refine⟨_,cap,us.take (len*s),hv,hreps.take (len*s),?_,q2,fun e=>(by cases e),fun ad had j u hj=> ?_⟩
     ·rw[w20,hreps.1,w47];omega
     ·injection had with had;subst had
      rw[w3f] at hj
      split at hj
      ·rw[yF];exact hcell j u hj
      ·cases hj
   ·cases hy
  ·cases hy
 ·grind
 rename_i hna hna2
 clear hna hna2
 unfold elemsOf at hy
 split at hy
 ·injection hy with hy;subst hy
  rw[h.inv_nils]
  exact⟨none,0,[],rfl,Reps.nil g w,by simp,fun i x hx=>by simp at hx,fun _=>rfl,fun ad e=>by cases e⟩
 ·rename_i s' tk xs
  split at hy
  ·rename_i hs
   have hs':s'=s:=eq_of_beq hs
   subst hs'
   injection hy with hy;subst hy
   rcases h.inv_list with⟨b,oo,cap,hv,hsz,hcap,htk,f,hc,hr⟩|⟨rfl,b,cap,hv,_⟩
   ·obtain⟨us,k1,k2,k3⟩:=qz h0 hsz hc hr
    refine⟨_,cap,us,hv,k1,k2,hsz,fun e=>(by cases e),fun ad had j u hj=> ?_⟩
    injection had with had;subst had
    rw[yF];exact(k3 j u hj).1
   ·exact⟨some b,cap,[],hv,Reps.nil g w,by simp,fun i x hx=>by simp at hx,fun e=>(by cases e),fun ad _ j u hj=>by simp at hj⟩
  ·cases hy
 ·grind
 ·cases hy
theorem z6f (I:Inv g w m) {s:Nat} (h0:0<s) {y:AV} {v:Value} {ys:List AV} (hns: ∀b,y≠ .str b) (hy:m.elems s y=some ys) (h:Rep g w y v):
  ∃base cap us,v= .slice base ys.length cap∧Reps g w (ys.flatMap AV.cells) us∧us.length=ys.length*s∧(∀(i:Nat) (x:AV),ys[i]? =some x→x.cells.length=s)∧
   (base=none→ys=[])∧ ∀ad,base=some ad→ ∀(j:Nat) (u:Value),us[j]? =some u→w.cell? (ad.add j)=some u:=by
 by_cases hg: ∃s l k st n,y= .grow s l k st n
 ·obtain⟨s',l,k,st,n,rfl⟩:=hg
  rw[Qh] at hy
  exact TE I h0 (fun _ _ _ _ _ e=>by cases e) (fun _ e=>by cases e) hy h.grow_arr
 ·exact TE I h0 (fun s l k st n e=>hg ⟨s,l,k,st,n,e⟩) hns hy h
theorem z0J {s:Nat}: ∀(n:Nat) (zs:List AV),(∀(i:Nat) (x:AV),zs[i]? =some x→x.cells.length=s)→(zs.take n).flatMap AV.cells=(zs.flatMap AV.cells).take (n*s)
 |0,zs,_=>by simp
 |n+1,[],_=>by simp
 |n+1,z::zs,h=>by
  have h1:=h 0 z rfl
  rw[w10,w2d,w2d,z0J n zs (fun i x hx=>h (i+1) x (by simpa using hx)),w40,Nat.one_mul,Nat.add_comm (n*s) s,←h1,List.take_length_add_append]
theorem z0o (w:World) (dT sT ty elem:TypeId) {ti:TypeInfo} (d:Option Addr) (dLen dCap sLen sCap:Nat) (sa:Option Addr) (cs:List Value) (w':World)
  (hu:P.underlying dT=some (.slice elem)) (hi:P.info? elem=some ti)
  (hf:(Builtin.firstCells ti.size (Nat.min sLen dLen) (.slice sa sLen sCap)).run P w= .ok cs.toArray w)
  (hst: ∀ad,d=some ad→(storeCells ad cs).run P w= .ok () w') (hn:d=none→w'=w):
  (Builtin.copy_ #[dT,sT] ty #[.slice d dLen dCap,.slice sa sLen sCap]).run P w= .ok (goInt (Nat.min sLen dLen)) w':=by
 cases d with
 |none=>
  rw[hn rfl]
  simp[Builtin.copy_,run_underlying hu,Builtin.lenOf,sizeOf,typeInfo,hi,hf]
 |some ad=>
  simp[Builtin.copy_,run_underlying hu,Builtin.lenOf,sizeOf,typeInfo,hi,hf,hst ad rfl]
theorem z4N (hR:Reps g w ρ a.tmps.toList) (I:Inv g w m) {c:Call} {t tx e:TypeId} {x y:Operand} {x' y':Opd} {ti:TypeInfo} (hop:o.op= .call c) (hc:c.callee= .builtin .copy) (hA:c.argTypes.toList=[t,tx]) (ha:c.args.toList=[x,y]) (hx:compOpd x=some x') (hy:compOpd y=some y')
  (ht:P.underlying t=some (.slice e)) (hi:P.info? e=some ti) (h0:0<ti.size) (he:evCopy m ti.size (x'.ev ρ) (y'.ev ρ)=some (r,m')):Yields P a o g w r m':=by
 have h1:=(ze hR hx).asArr
 have h2:=ze hR hy
 have hargs:c.args= #[x,y]:=by apply Array.ext';simpa using ha
 have hargT:c.argTypes= #[t,tx]:=by apply Array.ext';simpa using hA
 have run: ∀v w',(Builtin.copy_ #[t,tx] o.type #[a.eval x,a.eval y]).run P w= .ok v w'→(execOp a.eval o).run P w= .ok (.value v) w':=by
  intro v w' hv
  simp[execOp,hop,resolve,hc,hargs,hargT,invoke,builtin,hv]
 unfold evCopy evCopy0 at he
 split at he
 ·cases he
 ·rename_i _ l k st off len hd hns
  split at he
  ·rename_i ys cs hys hb
   split at he
   ·rename_i hcond
    simp only[w09,decide_eq_true_eq] at hcond
    obtain⟨⟨c1,c2⟩,_⟩:=hcond
    obtain⟨base,cap,us,hv,k1,k2,k3,k4,k5⟩:=z6f I h0 (fun b hb=>hns b hb) hys h2
    rw[hd] at h1
    have hmin:Nat.min ys.length len≤ys.length:=Nat.min_le_left _ _
    have hmin2:Nat.min ys.length len≤len:=Nat.min_le_right _ _
    have hmul:Nat.min ys.length len*ti.size≤ys.length*ti.size:=Nat.mul_le_mul_right _ hmin
    have hmul2:Nat.min ys.length len*ti.size≤len*ti.size:=Nat.mul_le_mul_right _ hmin2
    have hul:(us.take (len*ti.size)).length=Nat.min ys.length len*ti.size:=by
     grind
    have hfc:(Builtin.firstCells ti.size (Nat.min ys.length len) (.slice base ys.length cap)).run P w= .ok (us.take (len*ti.size)).toArray w:=by
     cases base with
     |none=>
      have:us=[]:=by
       grind
      subst this
      simpa using run_firstCells_none (P:=P) (w:=w) ti.size (Nat.min ys.length len) ys.length cap
     |some sa=>
      refine run_firstCells_some (P:=P) w ti.size _ sa ys.length cap _ hul (fun j v hj=> ?_)
      rw[w3f] at hj
      split at hj
      ·exact k5 sa rfl j v hj
      ·cases hj
    split at he
    ·rename_i hn
     simp only[Option.some.injEq,Prod.mk.injEq] at he
     obtain⟨rfl,rfl⟩:=he
     obtain⟨d,dcap,hdv⟩: ∃d dcap,a.eval x= .slice d len dcap:=by
      rcases h1.inv_arr with⟨b,oo,en,dcap,_,hv,_⟩|⟨rfl,ad,dcap,hv⟩
      ·exact⟨_,_,hv⟩
      ·exact⟨_,_,hv⟩
     refine .pure I (v:= .int .i64 0) (run _ _ ?_) (.int _ _)
     rw[hdv,hv]
     have hn':Nat.min ys.length len=0:=hn
     have hnil:us.take (len*ti.size)=[]:=w2a (by rw[hul,hn'];simp)
     have:=z0o (P:=P) w t tx o.type e d len dcap ys.length cap base _ w ht hi hfc (fun ad _=>by rw[hnil];simp[storeCells]) (fun _=>rfl)
     rw[hn'] at this
     exact this
    ·rename_i hn
     simp only[Option.some.injEq,Prod.mk.injEq] at he
     obtain⟨rfl,rfl⟩:=he
     have hn': ¬Nat.min ys.length len=0:=hn
     rcases h1.inv_arr with⟨b,oo,en,dcap,hb1,hdv,hcap⟩|⟨rfl,ad,dcap,hdv⟩
     rotate_left
     ·exact absurd (by simp) hn
     have hsub: ∀(i:Nat) (x:AV),(ys.take len)[i]? =some x→x.cells.length=ti.size:=fun i x hx=>by
      rw[w3f] at hx
      split at hx
      ·exact k3 i x hx
      ·cases hx
     have hreps:Reps g w ((ys.take len).flatMap AV.cells) (us.take (len*ti.size)):=by rw[z0J len ys k3];exact k1.take _
     have hnl:((ys.take len).flatMap AV.cells).length=Nat.min ys.length len*ti.size:=by rw[←hreps.1,hul]
     have hpos:0<Nat.min ys.length len*ti.size:=Nat.mul_pos (by omega) h0
     obtain⟨b2,o2,e2,q1,q2,q3,q4⟩:=I.store (off:=off) (new:=(ys.take len).flatMap AV.cells) hb hb1 (by omega) (by omega) hreps
     rw[hb1] at q1
     obtain⟨rfl,rfl,rfl⟩:b=b2∧oo=o2∧en=e2:=by simpa using q1
     refine⟨g,_,.int .i64 ((min ys.length len:Nat):Int),.inl (run _ _ ?_),q3,q4,.int _ _⟩
     rw[hdv,hv]
     have hst:=run_storeCells_cells (P:=P) b (oo+off) (us.take (len*ti.size)) 0 w (fun j hj=>by simpa using (q2 (oo+off+j) (by omega) (by omega)).2.2)
      (fun j hj=>by simpa using (q2 (oo+off+j) (by omega) (by omega)).2.1) (hreps.one c2)
     simp only[Nat.add_zero] at hst
     exact z0o (P:=P) w t tx o.type e (some ⟨b,oo+off,none⟩) len dcap ys.length cap base _ _ ht hi hfc (fun ad had=>by injection had with had;subst had;exact hst) (fun e=>by cases e)
   ·cases he
  ·cases he
 ·cases he
theorem z72 (hR:Reps g w ρ a.tmps.toList) (I:Inv g w m) {c:Call} {t e:TypeId} {x:Operand} {x':Opd} {z:AV} (hop:o.op= .call c) (hc:c.callee= .builtin .clear) (hA:c.argTypes.toList=[t]) (ha:c.args.toList=[x]) (hx:compOpd x=some x')
  (ht:P.underlying t=some (.slice e)) (hz:zeroT P e=some z) (h0:0<z.cells.length) (he:evClr m z.cells (x'.ev ρ)=some (r,m')):Yields P a o g w r m':=by
 have h1:=(ze hR hx).asArr
 have hargs:c.args= #[x]:=by apply Array.ext';simpa using ha
 have hargT:c.argTypes= #[t]:=by apply Array.ext';simpa using hA
 have run: ∀v w',(Builtin.clear_ #[t] o.type #[a.eval x]).run P w= .ok v w'→(execOp a.eval o).run P w= .ok (.value v) w':=by
  intro v w' hv
  simp[execOp,hop,resolve,hc,hargs,hargT,invoke,builtin,hv]
 unfold evClr evClr0 at he
 split at he
 ·rename_i l k st off len hd
  rw[hd] at h1
  split at he
  ·rename_i cs hb
   split at he
   ·rename_i hcond
    simp only[w09,decide_eq_true_eq] at hcond
    obtain⟨⟨c1,c2⟩,_⟩:=hcond
    split at he
    ·rename_i hn
     have hl0:len=0:=by rcases Nat.mul_eq_zero.1 hn with h|h<;>omega
     subst hl0
     simp only[Option.some.injEq,Prod.mk.injEq] at he
     obtain⟨rfl,rfl⟩:=he
     refine .pure I (v:= .tuple #[]) (run _ _ ?_) (xK g w)
     rcases h1.inv_arr with⟨b,oo,en,dcap,_,hv,_⟩|⟨_,ad,dcap,hv⟩
     ·rw[hv];simp[Builtin.clear_,run_underlying ht]
     ·rw[hv];simp[Builtin.clear_,run_underlying ht]
    ·rename_i hn
     simp only[Option.some.injEq,Prod.mk.injEq] at he
     obtain⟨rfl,rfl⟩:=he
     have hlp:0<len:=Nat.pos_of_ne_zero fun h=>hn (by rw[h];simp)
     rcases h1.inv_arr with⟨b,oo,en,dcap,hb1,hv,hcap⟩|⟨h,_⟩
     rotate_left
     ·omega
     obtain⟨zv,hzv,hav⟩:=jb hz w
     have hzr:=(xB (g:=g) (w:=w) hav).cells h0
     have hzl:zv.cells.size=z.cells.length:=by have:=hzr.1;simpa using this
     have hrep:=tz hzr len
     have hfl:(flatRep z.cells len).length=len*z.cells.length:=by
      have: ∀n,(flatRep z.cells n).length=n*z.cells.length:=by
       intro n
       induction n with
       |zero=>simp[flatRep]
       |succ n ih=>simp only[flatRep,w15,ih,w40];omega
      grind
     have hpos:0<len*z.cells.length:=Nat.mul_pos hlp h0
     obtain⟨b2,o2,e2,q1,q2,q3,q4⟩:=I.store (off:=off) (new:=flatRep z.cells len) hb hb1 (by omega) (by omega) hrep
     rw[hb1] at q1
     obtain⟨rfl,rfl,rfl⟩:b=b2∧oo=o2∧en=e2:=by simpa using q1
     refine⟨g,_,.tuple #[],.inl (run _ _ ?_),q3,q4,xK g _⟩
     have hone: ∀u∈(List.replicate len zv.cells.toList).flatten,u.oneCell'=true:=fun u hu=>by
      obtain⟨l',hl',hu'⟩:=List.mem_flatten.1 hu
      rw[List.eq_of_mem_replicate hl'] at hu'
      exact hzr.one c2 u hu'
     have hst:=run_storeCells_cells (P:=P) b (oo+off) ((List.replicate len zv.cells.toList).flatten) 0 w (fun j hj=>by simpa using (q2 (oo+off+j) (by omega) (by omega)).2.2)
      (fun j hj=>by simpa using (q2 (oo+off+j) (by omega) (by omega)).2.1) hone
     simp only[Nat.add_zero] at hst
     have hzc:(Builtin.zeroCells zv.cells len).toList=(List.replicate len zv.cells.toList).flatten:=by
      unfold Builtin.zeroCells
      have:=rangeZ (s:=zv.cells.size) (by omega) zv.cells rfl len
      rw[this]
     rw[hv]
     obtain⟨n',rfl⟩: ∃n',len=n'+1:=⟨len-1,by omega⟩
     simp[Builtin.clear_,run_underlying ht,hzv,hzc,hst]
   ·cases he
  ·cases he
 ·cases he
end
section
variable {P : Program} {g : G} {w : World} {ρ : List AV} {a : Act} {m m' : Mem} {o : Oper} {r : AV}
theorem z70 {e:XOp} (h:compX P o=some e) (hR:Reps g w ρ a.tmps.toList) (I:Inv g w m) (he:evX ρ m e=some (r,m')):Yields P a o g w r m':=by
 unfold compX at h
 split at h
 ·rename_i op xt x y yt hop
  split at h
  ·rename_i neg fs hn ht
   split at h
   ·rename_i ls n x' y' hl hsz hx hy
    split at h
    ·rename_i hg
     injection h with h;subst h
     simp only[evX] at he
     split at he
     ·rename_i xs ys e1 e2
      split at he
      ·rename_i hc
       simp only[w09,beq_iff_eq] at hc
       simp only[w00,Prod.mk.injEq] at he
       obtain⟨b,hb,rfl,rfl⟩:=he
       exact z0Q hR I hop hn (by unfold aggT;rw[ht]) hl hx hy hg e1 e2 (by rw[hc.1];exact hsz) (by rw[hc.2];exact hsz) hb
      ·cases he
     ·cases he
    ·cases h
   ·cases h
  ·rename_i neg _ _ hn ht
   split at h
   ·rename_i ls n x' y' hl hsz hx hy
    split at h
    ·rename_i hg
     injection h with h;subst h
     simp only[evX] at he
     split at he
     ·rename_i xs ys e1 e2
      split at he
      ·rename_i hc
       simp only[w09,beq_iff_eq] at hc
       simp only[w00,Prod.mk.injEq] at he
       obtain⟨b,hb,rfl,rfl⟩:=he
       exact z0Q hR I hop hn (by unfold aggT;rw[ht]) hl hx hy hg e1 e2 (by rw[hc.1];exact hsz) (by rw[hc.2];exact hsz) hb
      ·cases he
     ·cases he
    ·cases h
   ·cases h
  ·rename_i neg hn _ _
   split at h
   ·rename_i kd hk
    simp only[w00] at h
    obtain⟨x',hx,rfl⟩:=h
    simp only[evX,w00,Prod.mk.injEq] at he
    obtain⟨b,hb,rfl,rfl⟩:=he
    exact Uq hR I hop hn (.inl ⟨rfl,hk⟩) hx hb
   ·split at h
    ·rename_i kd hk
     simp only[w00] at h
     obtain⟨x',hx,rfl⟩:=h
     simp only[evX,w00,Prod.mk.injEq] at he
     obtain⟨b,hb,rfl,rfl⟩:=he
     exact Uq hR I hop hn (.inr ⟨rfl,hk⟩) hx hb
    ·cases h
  ·cases h
 ·rename_i x hop
  simp only[w00] at h
  obtain⟨x',hx,rfl⟩:=h
  simp only[evX,w00,Prod.mk.injEq] at he
  obtain⟨b,hb,rfl,rfl⟩:=he
  exact z1M hR I hop hx hb
 ·rename_i c hop
  split at h
  ·rename_i t tx x y hc hA ha
   split at h
   ·rename_i e x' y' ht hx hy
    split at h
    ·rename_i ti hi
     split at h
     ·rename_i h0
      injection h with h;subst h
      simp only[evX] at he
      exact z4N hR I hop hc hA ha hx hy ht hi h0 he
     ·cases h
    ·cases h
   ·cases h
  ·rename_i t x hc hA ha
   split at h
   ·rename_i e x' ht hx
    split at h
    ·rename_i z hz
     split at h
     ·rename_i h0
      injection h with h;subst h
      simp only[evX] at he
      exact z72 hR I hop hc hA ha hx ht hz h0 he
     ·cases h
    ·cases h
   ·cases h
  ·cases h
 ·rename_i t hop
  split at h
  ·injection h with h;subst h
   simp only[evX,Option.some.injEq,Prod.mk.injEq] at he
   obtain⟨rfl,rfl⟩:=he
   exact z2G I hop
  ·cases h
 ·rename_i t x k hop
  split at h
  ·rename_i kt et ht
   split at h
   ·rename_i kk z x' k' hk hz hx hkx
    injection h with h;subst h
    simp only[evX] at he
    split at he
    ·rename_i ps hps
     split at he
     ·rename_i hky
      simp only[w00,Prod.mk.injEq] at he
      obtain⟨v,hv,rfl,rfl⟩:=he
      exact z4k hR I hop ht hk hz hx hkx hps hky hv
     ·cases he
    ·cases he
   ·cases h
  ·cases h
 ·rename_i t x k v hop
  split at h
  ·rename_i kt et ht
   split at h
   ·rename_i kk x' k' v' hk hx hkx hvx
    injection h with h;subst h
    simp only[evX] at he
    exact z4i hR I hop ht hk hx hkx hvx he
   ·cases h
  ·cases h
 ·cases h
theorem z3z {c:Call} {t tx e:TypeId} {ik:IntKind} {x y:Operand} {op:AOp} (hop:o.op= .call c) (hc:c.callee= .builtin .append) (hA:c.argTypes.toList=[t,tx]) (ha:c.args.toList=[x,y]) (ht:P.underlying t=some (.slice e)) (htx:P.underlying tx=some (.int ik)) (h:appMake P e x y=some op):
  ∃ts ti x' n,op= .app 1 1 x' (.c (.str (List.replicate n 0)))∧AppRun P o t ts x (.c (.str (List.replicate n 0)))∧compOpd x=some x'∧P.underlying ts=some .string∧P.info? e=some ti∧ti.size=1∧ti.bytes=1∧(ti.zero.map fun z=>z.cells.size)=some ti.size:=by
 unfold appMake at h
 split at h
 ·rename_i k n ti a0 ts hi hz hx hst
  split at h
  ·rename_i hcond
   obtain⟨h0,hn,h1,hb⟩:=hcond
   injection h with h;subst h
   have hts:P.underlying ts=some .string:=by
    have:=List.find?_some hst
    grind
   obtain⟨z,hz1,hz2⟩: ∃z,ti.zero=some z∧z.cells= #[.int .u8 0]:=by
    simp only[zeroT,hi,w36,w05] at hz
    obtain⟨z,hz1,hz2⟩:=hz
    refine⟨z,hz1,?_⟩
    unfold avOf at hz2
    split at hz2
    ·simp_all
    ·grind
    ·unfold avCell at hz2
     split at hz2<;>cases hz2
     rfl
   have hargs:c.args= #[x,.const (.int k n)]:=by apply Array.ext';simpa using ha
   have hargT:c.argTypes= #[t,tx]:=by apply Array.ext';simpa using hA
   refine⟨ts,ti,a0,n.toNat,rfl,fun g w ρ a hR=>⟨.string ⟨Array.replicate n.toNat 0⟩,.str _ _ (by simp),fun v w' hv=> ?_⟩,hx,hts,hi,h1,hb,by rw[hz1,h1];simp[hz2]⟩
   have hn':(Value.int k n)= .int k (n.toNat:Int):=by rw[w45 (by omega)]
   have key:(Builtin.append_ #[t,tx] o.type #[a.eval x,.int k n]).run P w= .ok v w':=by
    cases hax:a.eval x with
    |slice base sLen sCap=>
     rw[hax] at hv
     rw[hn']
     exact Qx t tx ts o.type e ik ti z ht htx hts hi hz1 hz2 h1 hb k n.toNat _ rfl (by omega) (by omega) base sLen sCap v w' hv
    |_=>rw[hax] at hv;simp[Builtin.append_,run_underlying ht] at hv
   have hac:a.eval (.const (.int k n))= .int k n:=rfl
   simp[execOp,hop,resolve,hc,hargs,hargT,invoke,builtin,hac,key]
  ·cases h
 ·cases h
theorem z3e {O:Oracle} {op:AOp} (h:compOp0 P o=some op) (hnc: ∀f l,op≠ .call f l) (hR:Reps g w ρ a.tmps.toList) (I:Inv g w m) (he:evOp O ρ m op=some (r,m')):Yields P a o g w r m':=by
 have pairI: ∀{x:Option AV} {mm:Mem} {v:AV} {m2:Mem},(x.map fun z=>(z,mm))=some (v,m2)→x=some v∧m2=mm:=by
  simp_all
 unfold compOp0 at h
 split at h
 ·rename_i x hop
  simp only[w00] at h
  obtain⟨y,hy,rfl⟩:=h
  simp only[evOp,Option.some.injEq,Prod.mk.injEq] at he
  obtain⟨rfl,rfl⟩:=he
  exact z0z hR I (.inl hop) hy
 ·rename_i x hop
  simp only[w00] at h
  obtain⟨y,hy,rfl⟩:=h
  simp only[evOp,Option.some.injEq,Prod.mk.injEq] at he
  obtain⟨rfl,rfl⟩:=he
  exact z0z hR I (.inr hop) hy
 ·rename_i c x y hop
  split at h
  ·rename_i c' x' y' hc hx hy
   injection h with h;subst h
   simp only[evOp] at he
   split at he
   ·rename_i t ht
    simp only[Option.some.injEq,Prod.mk.injEq] at he
    obtain⟨rfl,rfl⟩:=he
    exact z4b hR I hop hc hx hy ht
   ·cases he
  ·cases h
 ·rename_i e hop
  simp only[w05] at h
  obtain⟨z,hz,h⟩:=h
  split at h
  ·rename_i hpos
   injection h with h;subst h
   simp only[evOp,Option.some.injEq] at he
   have:=z3A (P:=P) (a:=a) I hop hz hpos
   grind
  ·cases h
 ·rename_i e x hop
  split at h
  ·rename_i n y hn hy
   split at h
   ·rename_i hpos
    injection h with h;subst h
    simp only[evOp] at he
    split at he
    ·rename_i hl
     injection he with he
     have:=z7c (P:=P) hR I hop hy (eq_of_beq hl) hpos
     rw[he] at this
     exact this
    ·cases he
   ·cases h
  ·cases h
 ·rename_i t ps hop
  split at h
  ·rename_i z fs hz ht
   split at h
   ·rename_i hall
    simp only[w00] at h
    obtain⟨l,hl,rfl⟩:=h
    simp only[evOp] at he
    simp only[w00,Prod.mk.injEq] at he
    obtain⟨cs,he,rfl,rfl⟩:=he
    exact Vd hR I hop hz ht hall hl he
   ·cases h
  ·rename_i z n e hz ht
   split at h
   ·rename_i s hs
    split at h
    ·rename_i hpos
     simp only[w00] at h
     obtain⟨l,hl,rfl⟩:=h
     simp only[evOp] at he
     simp only[w00,Prod.mk.injEq] at he
     obtain⟨cs,he,rfl,rfl⟩:=he
     exact U0 hR I hop hz ht hs hl he hpos
    ·cases h
   ·cases h
  ·cases h
 ·rename_i t len ps hop
  split at h
  ·rename_i e ht
   split at h
   ·rename_i ti hi
    split at h
    ·rename_i hc
     simp only[w00,w05] at h
     obtain⟨l,⟨xs,hp,hl⟩,rfl⟩:=h
     simp only[evOp] at he
     split at he
     ·rename_i hall
      simp only[Option.some.injEq,Prod.mk.injEq] at he
      obtain⟨rfl,rfl⟩:=he
      exact z6y hR I hop ht hi hc.1 hc.2.1 hc.2.2.1 hc.2.2.2 hp hl hall
     ·cases he
    ·cases h
   ·cases h
  ·cases h
 ·rename_i t x hop
  split at h
  ·rename_i b n y hb hn hy
   split at h
   ·injection h with h;subst h
    simp only[evOp,w05] at he
    obtain⟨cs,hc,he⟩:=he
    obtain⟨hq,rfl⟩:=pairI he
    exact z4o hR I hop hy hb hn hc hq
   ·cases h
  ·cases h
 ·rename_i t x y hop
  split at h
  ·rename_i n x' y' hn hx hy
   split at h
   ·rename_i hpos
    injection h with h;subst h
    simp only[evOp] at he
    exact z2m hR I hop hx hy hn he hpos
   ·cases h
  ·cases h
 ·rename_i bop xt x y yt hop
  split at h
  ·rename_i x' y' hx hy
   split at h
   ·rename_i hbool
    split at h
    ·injection h with h;subst h
     simp only[evOp] at he
     split at he
     ·rename_i u v e1 e2
      simp only[Option.some.injEq,Prod.mk.injEq] at he
      obtain⟨rfl,rfl⟩:=he
      exact z10 hR I hop hx hy hbool e1 e2 false rfl
     ·cases he
    ·injection h with h;subst h
     simp only[evOp] at he
     split at he
     ·rename_i u v e1 e2
      simp only[Option.some.injEq,Prod.mk.injEq] at he
      obtain⟨rfl,rfl⟩:=he
      exact z10 hR I hop hx hy hbool e1 e2 true rfl
     ·cases he
    ·cases h
   ·injection h with h;subst h
    simp only[evOp] at he
    obtain⟨hq,rfl⟩:=pairI he
    exact z7d hR I hop hx hy hq
  ·cases h
 ·rename_i uop t x hop
  simp only[w00] at h
  obtain⟨y,hy,rfl⟩:=h
  simp only[evOp] at he
  obtain⟨hq,rfl⟩:=pairI he
  exact z7N hR I hop hy hq
 ·rename_i s d x hop
  split at h
  ·rename_i j k y hs hd hy
   injection h with h;subst h
   simp only[evOp] at he
   split at he
   ·rename_i k' n e1
    simp only[Option.some.injEq,Prod.mk.injEq] at he
    obtain⟨rfl,rfl⟩:=he
    exact z4O hR I hop hy hs hd e1
   ·cases he
  ·rename_i y hs hd hy
   injection h with h;subst h
   simp only[evOp] at he
   split at he
   ·rename_i b e1
    simp only[Option.some.injEq,Prod.mk.injEq] at he
    obtain⟨rfl,rfl⟩:=he
    exact z0b hR I hop hy hs hd e1
   ·cases he
  ·rename_i e y hs hd hy
   split at h
   ·rename_i hu
    injection h with h;subst h
    simp only[evOp] at he
    obtain⟨hq,rfl⟩:=pairI he
    exact z2k hR I hop hy hs hd hu hq
   ·cases h
  ·rename_i e y hs hd hy
   split at h
   ·rename_i hu
    injection h with h;subst h
    simp only[evOp] at he
    split at he
    ·rename_i b e1
     split at he
     ·simp only[Option.some.injEq,Prod.mk.injEq] at he
      obtain⟨rfl,rfl⟩:=he
      simp only[w09] at hu
      exact z06 hR I hop hy hs hd hu.1 e1
     ·cases he
    ·cases he
   ·cases h
  ·cases h
 ·rename_i f x y hop
  split at h
  ·rename_i x' y' hx hy
   injection h with h;subst h
   simp only[evOp,Option.some.injEq,Prod.mk.injEq] at he
   obtain⟨rfl,rfl⟩:=he
   exact z4j hR I hop hx hy
  ·cases h
 ·rename_i t x i hop
  split at h
  ·rename_i fs y ht hy
   split at h
   ·rename_i f hf
    split at h
    ·rename_i ti hi
     split at h
     ·cases h
     ·rename_i hne
      injection h with h;subst h
      simp only[evOp] at he
      obtain⟨hq,rfl⟩:=pairI he
      exact z3b hR I hop hy ht hf hi hne hq
    ·cases h
   ·cases h
  ·cases h
 ·rename_i t x i hop
  split at h
  ·rename_i fs y ht hy
   split at h
   ·rename_i f hf
    split at h
    ·rename_i b n hb hn
     split at h
     ·injection h with h;subst h
      simp only[evOp] at he
      split at he
      ·rename_i cs e1
       obtain⟨hq,rfl⟩:=pairI he
       exact z3a hR I hop hy ht hf hb hn e1 hq
      ·cases he
     ·cases h
    ·cases h
   ·cases h
  ·cases h
 ·rename_i t x i hop
  split at h
  ·rename_i e x' i' ht hx hi
   simp only[w00] at h
   obtain⟨s,hs,rfl⟩:=h
   simp only[evOp] at he
   obtain⟨hq,rfl⟩:=pairI he
   exact z33 hR I hop hx hi ht hs hq
  ·rename_i n e x' i' ht hx hi
   simp only[w00] at h
   obtain⟨s,hs,rfl⟩:=h
   simp only[evOp] at he
   obtain⟨hq,rfl⟩:=pairI he
   exact z1U hR I hop hx hi ht hs hq
  ·cases h
 ·rename_i t x i hop
  split at h
  ·rename_i x' i' ht hx hi
   injection h with h;subst h
   simp only[evOp] at he
   split at he
   ·rename_i b e1
    simp only[w05,w00,Prod.mk.injEq] at he
    obtain⟨j,hj,c,hc,rfl,rfl⟩:=he
    exact z1S hR I hop hx hi ht e1 hj hc
   ·cases he
  ·rename_i n e x' i' ht hx hi
   split at h
   ·rename_i b s hb hs
    split at h
    ·injection h with h;subst h
     simp only[evOp] at he
     split at he
     ·rename_i cs e1
      simp only[w05,w00,Prod.mk.injEq] at he
      obtain⟨j,hj,c,hc,rfl,rfl⟩:=he
      exact z1T hR I hop hx hi ht hb hs e1 hj hc
     ·cases he
    ·cases h
   ·cases h
  ·cases h
 ·rename_i t x lo hi mx hop
  split at h
  ·rename_i x' lo' hi' ht hx hlo hhi hmx
   injection h with h;subst h
   have:mx=none:=by cases mx with|none=>rfl|some q=>simp[compOpt] at hmx
   subst this
   simp only[evOp] at he
   obtain⟨hq,rfl⟩:=pairI he
   exact z1w hR I hop hx hlo hhi ht hq
  ·rename_i e x' lo' hi' mx' ht hx hlo hhi hmx
   simp only[w05] at h
   obtain⟨s,hs,h⟩:=h
   split at h
   ·rename_i hc
    simp only[w09,decide_eq_true_eq,w2f] at hc
    injection h with h;subst h
    simp only[evOp] at he
    obtain⟨hq,rfl⟩:=pairI he
    refine z2n hR I hop hx hlo hhi hmx ht hs hc.1 (fun hm=> ?_) hq
    rcases hc.2 with h|h
    ·cases mx' with
     |none=>simp at hm
     |some q=>simp at h
    ·exact h
   ·cases h
  ·rename_i n e x' lo' hi' ht hx hlo hhi hmx
   simp only[w00] at h
   obtain⟨s,hs,rfl⟩:=h
   have:mx=none:=by cases mx with|none=>rfl|some q=>simp[compOpt] at hmx
   subst this
   simp only[evOp] at he
   obtain⟨hq,rfl⟩:=pairI he
   exact z1x hR I hop hx hlo hhi ht hs hq
  ·cases h
 ·rename_i t n c hop
  split at h
  ·rename_i e ht
   split at h
   ·rename_i ti z n' c' hi hz hn hc
    split at h
    ·rename_i hcond
     injection h with h;subst h
     simp only[evOp] at he
     exact z4m hR I hop hn hc ht hi hz hcond.1 hcond.2 he
    ·cases h
   ·cases h
  ·cases h
 ·rename_i x i hop
  simp only[w00] at h
  obtain⟨y,hy,rfl⟩:=h
  simp only[evOp] at he
  split at he
  ·rename_i vs e1
   obtain⟨hq,rfl⟩:=pairI he
   exact z0a hR I hop hy e1 hq
  ·cases he
 ·rename_i c hop
  unfold compCall at h
  split at h
  ·rename_i f hc
   split at h
   ·injection h with h;exact absurd h.symm (hnc _ _)
   ·cases h
  ·cases h
  ·rename_i b hc
   split at h
   ·rename_i t x hA ha
    split at h
    ·rename_i e ht
     simp only[w00] at h
     obtain⟨y,hy,rfl⟩:=h
     simp only[evOp] at he
     obtain⟨hq,rfl⟩:=pairI he
     exact z6z hR I hop hc hA ha hy ht hq
    ·rename_i ht
     simp only[w00] at h
     obtain⟨y,hy,rfl⟩:=h
     simp only[evOp] at he
     split at he
     ·rename_i l e1
      simp only[Option.some.injEq,Prod.mk.injEq] at he
      obtain⟨rfl,rfl⟩:=he
      exact z4s hR I hop hc hA ha hy ht e1
     ·cases he
    ·rename_i n e ht
     injection h with h;subst h
     simp only[evOp,Opd.ev,Option.some.injEq,Prod.mk.injEq] at he
     obtain⟨rfl,rfl⟩:=he
     exact z4t I hop hc hA ha ht
    ·cases h
   ·rename_i t tx x y hA ha
    split at h
    ·rename_i e e' ht htx
     split at h
     ·split at h
      ·rename_i ti x' y' hi hx hy
       split at h
       ·rename_i hcond
        injection h with h;subst h
        simp only[evOp] at he
        exact U2 hR I (z11 hop hc hA ha hy) hx ht (.inl ⟨_,htx⟩) hi hcond.1 hcond.2.1 hcond.2.2 he
       ·cases h
      ·cases h
     ·cases h
    ·rename_i e ht htx
     split at h
     ·rename_i ti x' y' hi hx hy
      split at h
      ·rename_i hcond
       injection h with h;subst h
       simp only[evOp] at he
       exact U2 hR I (z11 hop hc hA ha hy) hx ht (.inr htx) hi hcond.1 hcond.2.1 hcond.2.2 he
      ·cases h
     ·cases h
    ·rename_i e ik ht htx
     obtain⟨ts,ti,x',n,rfl,q1,q2,q3,q4,q5,q6,q7⟩:=z3z hop hc hA ha ht htx h
     simp only[evOp] at he
     exact U2 hR I q1 q2 ht (.inr q3) q4 (by omega) (by omega) q7 (by rw[q5,q6];exact he)
    ·cases h
   ·rename_i x y ha
    split at h
    ·rename_i x' y' hx hy
     injection h with h;subst h
     simp only[evOp] at he
     obtain⟨hq,rfl⟩:=pairI he
     exact z8j hR I hop hc ha hx hy hq
    ·cases h
   ·rename_i x y ha
    split at h
    ·rename_i x' y' hx hy
     injection h with h;subst h
     simp only[evOp] at he
     obtain⟨hq,rfl⟩:=pairI he
     exact z8k hR I hop hc ha hx hy hq
    ·cases h
   ·cases h
 ·cases h
theorem Zv (ds:List Nat) (dst:Option Nat) (op:AOp):markOp ds dst op=op∨(∃s ps,op= .lit s ps∧markOp ds dst op= .ext (.litB s ps))∨
  ∃s b z k n k',op= .make s b [z] (.c (.int k n)) (.c (.int k' n))∧z.one=true∧0≤n∧b*n≤281474976710656∧n≤9223372036854775807∧s=1∧(markOp ds dst op= .lit s (List.replicate n.toNat (.c z))∨markOp ds dst op= .ext (.litB s (List.replicate n.toNat (.c z)))):=by
 unfold markOp
 split
 ·grind
 ·split
  ·rename_i hc
   simp only[w09,decide_eq_true_eq] at hc
   obtain⟨⟨⟨⟨⟨hz,rfl⟩,h0⟩,h1⟩,h2⟩,h3⟩:=hc
   split
   ·exact .inr (.inr ⟨_,_,_,_,_,_,rfl,hz,h0,h1,h2,Nat.eq_of_beq_eq_true h3,.inl rfl⟩)
   split
   ·exact .inr (.inr ⟨_,_,_,_,_,_,rfl,hz,h0,h1,h2,Nat.eq_of_beq_eq_true h3,.inr rfl⟩)
   ·simp
  ·simp
 ·simp
theorem Um {ds:List Nat} {dst:Option Nat} {op op':AOp} (h:markOp ds dst op=op') (h2: ∀e,op'≠ .ext e) (h3: ∀s l,op'≠ .lit s l):op=op':=by
 rcases Zv ds dst op with q|⟨s,ps,_,q⟩|⟨s,b,z,k,n,k',_,_,_,_,_,_,q|q⟩<;>grind
theorem Qm {s:Nat} {l:List Opd} (hc:compOp1 P o=some (.lit s l)): ∃t e len ps ti xs,o.op= .buildSlice t len ps∧P.underlying t=some (.slice e)∧P.info? e=some ti∧0<ti.size∧ps.size=len∧len*ti.size≤16777216∧(ti.zero.map fun z=>z.cells.size)=some ti.size∧
  litParts 0 ps.toList=some xs∧compOpds xs=some l∧s=ti.size:=by
 replace hc:compOp0 P o=some (.lit s l):=by
  unfold compOp1 at hc
  grind
 unfold compOp0 at hc
 split at hc
 case h_7=>
  rename_i t len ps hop
  split at hc
  ·rename_i e ht
   split at hc
   ·rename_i ti hi
    split at hc
    ·rename_i hcond
     simp only[w00,w05] at hc
     obtain⟨l',⟨xs,h1,h2⟩,h3⟩:=hc
     injection h3 with h3 h4
     subst h3;subst h4
     exact⟨t,e,len,ps,ti,xs,hop,ht,hi,hcond.1,hcond.2.1,hcond.2.2.1,hcond.2.2.2,h1,h2,rfl⟩
    ·cases hc
   ·cases hc
  ·cases hc
 all_goals
  exfalso
  try unfold compCall appMake at hc
  repeat' (first|(cases hc;done)|(simp at hc;done)|(split at hc)|(simp only[w05,w00] at hc;obtain⟨_,_,hc⟩:=hc))
theorem ZJ {s b:Nat} {z:List AV} {n c:Opd} (h:compOp0 P o=some (.make s b z n c)):
  ∃t e x y ti v,o.op= .makeSlice t x y∧compOpd x=some n∧compOpd y=some c∧P.underlying t=some (.slice e)∧P.info? e=some ti∧zeroT P e=some v∧0<ti.size∧(ti.zero.map fun z=>z.cells.size)=some ti.size∧s=ti.size∧b=ti.bytes∧z=v.cells:=by
 unfold compOp0 at h
 split at h
 case h_19=>
  grind
 case h_21=>
  exfalso
  unfold compCall appMake at h
  repeat' (first|(cases h;done)|(simp at h;done)|(split at h)|(simp only[w05,w00] at h;obtain⟨_,_,h⟩:=h))
 all_goals
  exfalso
  repeat' (first|(cases h;done)|(simp at h;done)|(split at h)|(simp only[w05,w00] at h;obtain⟨_,_,h⟩:=h))
theorem Vc {s b:Nat} {z:List AV} {n c:Opd} (h:compOp1 P o=some (.make s b z n c)):compOp0 P o=some (.make s b z n c):=by
 unfold compOp1 at h
 grind
theorem X8 {z:AV} (hz:z.one=true) (n:Nat) (ρ:List AV):((List.replicate n (Opd.c z)).map fun p=>p.ev ρ).flatMap AV.cells=flatRep [z] n:=by
 induction n with
 |zero=>rfl
 |succ n ih=>
  rw[w44,w30,w2d,ih]
  show z.cells++_=_
  rw[VE hz]
  rfl
theorem TU (hR:Reps g w ρ a.tmps.toList) {t e:TypeId} {x y:Operand} {k k':IntKind} {n:Int} {ti:TypeInfo} {z:AV} (hop:o.op= .makeSlice t x y) (hx:compOpd x=some (.c (.int k n))) (hy:compOpd y=some (.c (.int k' n)))
  (ht:P.underlying t=some (.slice e)) (hi:P.info? e=some ti) (hz:zeroT P e=some z) (h0:0<ti.size) (hzs:(ti.zero.map fun z=>z.cells.size)=some ti.size) (c1:0≤n) (c2:ti.bytes*n≤281474976710656) (c3:n≤9223372036854775807) (c4:z.cells.length=ti.size):
  ∃flat:List Value,flat.length=n.toNat*ti.size∧Reps g w (flatRep z.cells n.toNat) flat∧(execOp a.eval o).run P w= .ok (.value (.slice (some ⟨w.heap.size,0,none⟩) n.toNat n.toNat)) (w.alloc (.cells flat.toArray e)):=by
 have hv1:=(ze hR hx).inv_int
 have hv2:=(ze hR hy).inv_int
 obtain⟨zv,hzv,hav⟩:=jb hz w
 have hzi:ti.zero=some zv:=by
  simp only[zeroT,hi,w36,w05] at hz
  obtain⟨v,h3,h4⟩:=hz
  have:(zeroValue e).run P w= .ok v w:=by simp[zeroValue,typeInfo,hi,h3]
  grind
 have hsz:zv.cells.size=ti.size:=by rw[hzi] at hzs;simpa using hzs
 have hzr:=(xB (g:=g) (w:=w) hav).cells (by omega)
 have hrun:=run_make (P:=P) w t e ti zv ht hi hzi k k' n n c1 (Int.le_refl _) c2 c3
 have hcells:madeCells zv.cells (n.toNat*ti.size)=((List.replicate n.toNat zv.cells.toList).flatten).toArray:=by
  unfold madeCells
  exact rangeZ h0 zv.cells hsz n.toNat
 rw[hcells] at hrun
 refine⟨_,?_,tz hzr n.toNat,?_⟩
 ·simp_all
 ·simp only[execOp,hop,hv1,hv2,Sem.run_bind,hrun,Result.andThen_ok]
  rfl
theorem z4n (hR:Reps g w ρ a.tmps.toList) (I:Inv g w m) {t e:TypeId} {x y:Operand} {k k':IntKind} {n:Int} {ti:TypeInfo} {v z:AV} (hop:o.op= .makeSlice t x y) (hx:compOpd x=some (.c (.int k n))) (hy:compOpd y=some (.c (.int k' n)))
  (ht:P.underlying t=some (.slice e)) (hi:P.info? e=some ti) (hz:zeroT P e=some v) (h0:ti.size=1) (hzs:(ti.zero.map fun z=>z.cells.size)=some ti.size) (c1:0≤n) (c2:ti.bytes*n≤281474976710656) (c3:n≤9223372036854775807) (hv:[z]=v.cells) (ho:z.one=true):
  Yields P a o g w (.list ti.size .full ((List.replicate n.toNat (Opd.c z)).map fun p=>p.ev ρ)) m:=by
 obtain⟨flat,_,hrep,hrun⟩:=TU (g:=g) (w:=w) (a:=a) hR hop hx hy ht hi hz (by omega) hzs c1 c2 c3 (by rw[←hv,h0];rfl)
 rw[←hv,←X8 ho n.toNat ρ] at hrep
 refine⟨g,_,_,.inl hrun,(I.alloc_sealed _).1,(I.alloc_sealed _).2,?_⟩
 have hone: ∀u∈flat,u.oneCell'=true:=by
  refine hrep.one ?_
  rw[X8 ho]
  clear hrep
  generalize n.toNat=q
  induction q with
  |zero=>rfl
  |succ q ih=>show(z.one&&allOne (flatRep [z] q))=true;rw[ho,ih];rfl
 have hlen:((List.replicate n.toNat (Opd.c z)).map fun p=>p.ev ρ).length=n.toNat:=by simp
 have:=Rep.rowsC (g:=g) (w:=w.alloc (.cells flat.toArray e)) (s:=ti.size) (xs:=(List.replicate n.toNat (Opd.c z)).map fun p=>p.ev ρ) (by omega) (fun i x hx=>by
   have:x=z:=by
    have:=w3a hx
    simp only[List.map_replicate] at this
    exact(List.mem_replicate.1 this).2
   subst this
   rw[VE ho,h0];rfl) (hrep.mono (I.alloc_sealed (.cells flat.toArray e)).1) w.heap.size 0 n.toNat .full (by omega) (by simp only[TokAt];rw[hlen]) (fun j u hj=>by
  rw[w1f]
  exact⟨by rw[YN];exact hj,z1H I j,hone u (w3a hj)⟩)
 rwa [hlen] at this
theorem z4J {O:Oracle} {ds:List Nat} {op:AOp} (h:compOp P ds o=some op) (hnc: ∀f l,op≠ .call f l) (hR:Reps g w ρ a.tmps.toList) (I:Inv g w m) (he:evOp O ρ m op=some (r,m')):Yields P a o g w r m':=by
 unfold compOp at h
 rw[w00] at h
 obtain⟨op1,h,hm⟩:=h
 rcases Zv ds o.dst op1 with q|⟨s,ps,rfl,q⟩|⟨s,b,z,k,n,k',rfl,c1,c2,c3,c4,c5,q⟩
 rotate_left
 ·rw[q] at hm
  subst hm
  obtain⟨t,e,len,ps',ti,xs,q1,q2,q3,q4,q5,q6,q7,q8,q9,rfl⟩:=Qm h
  simp only[evOp,evX] at he
  exact z4r hR I q1 q2 q3 q4 q5 q6 q7 q8 q9 he
 ·subst c5
  obtain⟨t,e,x,y,ti,v,hop,hx,hy,ht,hi,hz,h0,hzs,hs,hb,hv⟩:=ZJ (Vc h)
  rcases q with q|q<;>rw[q] at hm<;>subst hm
  ·simp only[evOp] at he
   split at he
   ·injection he with he
    injection he with he1 he2
    subst he1;subst he2
    rw[hs]
    exact z4n hR I hop hx hy ht hi hz hs.symm hzs c2 (by rw[←hb];exact c3) c4 hv c1
   ·cases he
  ·obtain⟨flat,hfl,hrep,hrun⟩:=TU (g:=g) (w:=w) (a:=a) hR hop hx hy ht hi hz h0 hzs c2 (by rw[←hb];exact c3) c4 (by rw[←hv,←hs];rfl)
   simp only[evOp,evX,evLitB] at he
   split at he
   ·injection he with he
    injection he with he1 he2
    subst he1;subst he2
    have hcs:((List.replicate n.toNat (Opd.c z)).map fun p=>p.ev ρ).flatMap AV.cells=flatRep v.cells n.toNat:=by
     rw[←hv];exact X8 c1 n.toNat ρ
    rw[hcs]
    obtain⟨g',k1,k2,k3⟩:=I.alloc_blk _ flat e hrep
    refine⟨g',_,_,.inl hrun,k1,k2,?_⟩
    rw[w58,List.length_replicate]
    exact .grow _ _ _ _ _ _ _ _ _ k3 (w08 _) (by rw[hfl,←hs];omega)
   ·cases he
 rw[q] at hm
 subst hm
 unfold compOp1 at h
 split at h
 ·rename_i e hx
  injection h with h;subst h
  exact z70 hx hR I he
 ·split at h
  ·rename_i op' h0
   injection h with h;subst h
   exact z3e h0 hnc hR I he
  ·split at h
   ·cases h
   ·injection h with h;subst h
    cases he
theorem Wc {f:Mem→AV→Option (AV×Mem)} (hf: ∀{m:Mem} {x x':AV} {m':Mem} {g:G} {v:Value},f m x=some (x',m')→Inv g w m→Rep g w x v→ ∃g',Ext g w g' w∧Inv g' w m'∧Rep g' w x' v):
  ∀{cs cs':List AV} {m m':Mem} {g:G} {vs:List Value},frzL f m cs=some (cs',m')→Inv g w m→Reps g w cs vs→ ∃g',Ext g w g' w∧Inv g' w m'∧Reps g' w cs' vs
 | [],cs',m,m',g,vs,h,I,hR=>by
  simp only[frzL,Option.some.injEq,Prod.mk.injEq] at h
  obtain⟨rfl,rfl⟩:=h
  exact⟨g,Ext.refl g w,I,hR⟩
 |c::r,cs',m,m',g,vs,h,I,hR=>by
  simp only[frzL,w05,w00] at h
  obtain⟨⟨c',m1⟩,h1,⟨r',m2⟩,h2,h3⟩:=h
  simp only[Prod.mk.injEq] at h3
  obtain⟨rfl,rfl⟩:=h3
  obtain⟨v,vr,rfl,k1,k2⟩:=hR.head
  obtain⟨g1,e1,I1,r1⟩:=hf h1 I k1
  obtain⟨g2,e2,I2,r2⟩:=Wc hf h2 I1 (k2.mono e1)
  exact⟨g2,e1.trans e2,I2,Reps.cons (r1.mono e2) r2⟩
theorem Q6: ∀(n:Nat) {m:Mem} {x x':AV} {m':Mem} {g:G} {v:Value},frzV n m x=some (x',m')→Inv g w m→Rep g w x v→ ∃g',Ext g w g' w∧Inv g' w m'∧Rep g' w x' v:=by
 intro n
 induction n with
 |zero=>
  intro m x x' m' g v h I hR
  unfold frzV at h
  split at h
  ·cases h
  ·omega
  ·injection h with h;injection h with h1 h2;subst h1;subst h2;exact⟨g,Ext.refl g w,I,hR⟩
 |succ n ih=>
  intro m x x' m' g v h I hR
  unfold frzV at h
  split at h
  ·cases h
  ·rename_i n' s l k st len hn
   injection hn with hn;subst hn
   split at h
   ·rename_i cs hb
    split at h
    ·rename_i hc
     obtain⟨_,hlen,h0⟩:=hc
     simp only[w05] at h
     obtain⟨⟨cs',m1⟩,h1,h⟩:=h
     simp only at h
     split at h
     ·rename_i hc2
      obtain⟨hone,hsome⟩:=hc2
      injection h with h;injection h with e1 e2
      subst e1;subst e2
      obtain⟨b,o,e,cap,hbt,rfl,hcap,hce⟩:=hR.inv_grow
      obtain⟨b1,o1,e1,a1,a2,a3,vs,a4,a5⟩:=I.cells (y9 hb) hbt
      simp only at a1 a2 a3 a4 a5
      rw[hbt] at a1
      obtain⟨rfl,rfl,rfl⟩:b=b1∧o=o1∧e=e1:=by simpa using a1
      obtain⟨g1,x1,I1,r1⟩:=Wc ih h1 I (a4.take (len*s))
      obtain⟨cs2,hb2⟩:=Option.isSome_iff_exists.1 hsome
      obtain⟨g2,x2,I2,ho⟩:=I1.freeze hb2 (x1.bt _ _ hbt)
      refine⟨g2,x1.trans x2,I2,?_⟩
      have hvl:(vs.take (len*s)).length=len*s:=by rw[w20,a4.1];omega
      have hcl:cs'.length=len*s:=by rw[←r1.1,hvl]
      obtain⟨q1,q2,q3⟩:=ke h0 len cs' (by omega) (by rw[w35 (by omega)];exact hone)
      rw[w35 (show cs'.length≤len*s by omega)] at q3
      have:=Rep.rowsC (g:=g2) (w:=w) h0 q2 (us:=vs.take (len*s)) (by rw[q3];exact r1.mono x2) b o cap .none (by omega) trivial (fun j u hj=>by
       have hju:j<len*s:=by rw[←hvl];exact(w13.1 hj).1
       have hj':=hj
       rw[w3f,if_pos hju] at hj'
       have hle:len*s≤cap*s:=Nat.mul_le_mul_right s hcap
       exact⟨a5 j u hj',ho (o+j) (by omega) (by omega),(r1.one hone) u (w3a hj)⟩)
      grind
     ·cases h
    ·cases h
   ·cases h
  ·injection h with h;injection h with h1 h2;subst h1;subst h2;exact⟨g,Ext.refl g w,I,hR⟩
theorem ZB: ∀(ts:List Nat) {σ σ':St} {g:G} {vs:List Value},frzT ts σ=some σ'→Inv g w σ.m→Reps g w σ.ρ vs→ ∃g',Ext g w g' w∧Inv g' w σ'.m∧Reps g' w σ'.ρ vs
 | [],σ,σ',g,vs,h,I,hR=>by
  simp only[frzT,Option.some.injEq] at h
  subst h
  exact⟨g,Ext.refl g w,I,hR⟩
 |t::r,σ,σ',g,vs,h,I,hR=>by
  simp only[frzT] at h
  split at h
  ·rename_i l k st off hv
   split at h
   ·rename_i cs hb
    split at h
    ·simp only[w05] at h
     obtain⟨⟨cs',m1⟩,h1,h⟩:=h
     simp only at h
     split at h
     ·rename_i hsome
      obtain⟨cs2,hb2⟩:=Option.isSome_iff_exists.1 hsome
      by_cases ht:t<σ.ρ.length
      ·obtain⟨v,hv1,hv2⟩:=hR.get (j:=t) (c:= .ptr l k st off) (by rw[w03,w1d ht,w32] at hv;rw[w1d ht,hv])
       obtain⟨b,o,e,hbt,rfl⟩:=hv2.inv_ptr
       obtain⟨b1,o1,e1,a1,a2,a3,us,a4,a5⟩:=I.cells (y9 hb) hbt
       simp only at a1 a2 a3 a4 a5
       rw[hbt] at a1
       obtain⟨rfl,rfl,rfl⟩:b=b1∧o=o1∧e=e1:=by simpa using a1
       obtain⟨g1,x1,I1,r1⟩:=Wc (Q6 3) h1 I a4
       have I2:=I1.retell hb2 (x1.bt _ _ hbt) r1 a5 (by rw[←r1.1,a4.1];exact a2)
       obtain⟨g3,x3,I3,r3⟩:=ZB r h I2 (hR.mono x1)
       exact⟨g3,x1.trans x3,I3,r3⟩
      ·grind
     ·cases h
    ·cases h
   ·cases h
  ·simp only[w05] at h
   obtain⟨⟨v',m1⟩,h1,h⟩:=h
   by_cases ht:t<σ.ρ.length
   ·obtain⟨v,hv1,hv2⟩:=hR.get (j:=t) (c:=σ.ρ.getD t (.tup [])) (by rw[w03,w1d ht,w32])
    obtain⟨g1,x1,I1,r1⟩:=Q6 3 h1 I hv2
    have hset:Reps g1 w (σ.ρ.set t v') vs:=by
     refine⟨by simp[hR.1],fun j c u q1 q2=> ?_⟩
     rw[List.getElem?_set] at q1
     split at q1
     ·grind
     ·exact(hR.2 j c u q1 q2).mono x1
    obtain⟨g3,x3,I3,r3⟩:=ZB r h I1 hset
    exact⟨g3,x1.trans x3,I3,r3⟩
   ·rw[w03,w4c (by omega)] at h1
    simp only[Option.getD_none,frzV,Option.some.injEq,Prod.mk.injEq] at h1
    obtain⟨rfl,rfl⟩:=h1
    rw[List.set_eq_of_length_le (by omega)] at h
    exact ZB r h I hR
end
structure Above (m m':Mem):Prop where
 len:m'.stk.length=m.stk.length
 floor:m'.floor=m.floor
 blk: ∀l k st cs,l<m.floor→m.blk l k st=some cs→m'.blk l k st=some cs
 nx:m.nx≤m'.nx
theorem Above.refl (m:Mem):Above m m:=⟨rfl,rfl,fun _ _ _ _ _ h=>h,w08 _⟩
theorem Above.trans {a b c:Mem} (h:Above a b) (k:Above b c):Above a c:=
 ⟨k.len.trans h.len,k.floor.trans h.floor,fun l i st cs hl hb=>k.blk l i st cs (by rw[h.floor];exact hl) (h.blk l i st cs hl hb),Nat.le_trans h.nx k.nx⟩
theorem uL {m m':Mem} {l k st:Nat} {cs:List AV} (h:m.blk l k st=some cs) (hr: ∀x,(m.row l)[k]? =some x→(m'.row l)[k]? =some x):m'.blk l k st=some cs:=by
 have h1:=hr _ (qA h)
 unfold Mem.blk
 rw[h1]
 simp
theorem js (m:Mem) (x:List Blk) (nx:Nat) (live:List (List Nat)) (hn:m.nx≤nx:=by simp):Above m {m with cur:=m.cur++x,nx:=nx,live:=live}:=by
 refine⟨rfl,rfl,fun l k st cs _ h=>uL h fun y hy=> ?_,hn⟩
 unfold Mem.row at hy⊢
 grind
theorem Vl (m:Mem) (nx:Nat) (live:List (List Nat)) (hn:m.nx≤nx:=by simp):Above m {m with nx:=nx,live:=live}:=⟨rfl,rfl,fun _ _ _ _ _ h=>h,hn⟩
theorem vS (m:Mem) (l k st:Nat) (cs:List AV) (h:m.floor≤l):Above m (m.put l k st cs):=by
 unfold Mem.put
 split
 ·rename_i hl
  have hl':l=m.stk.length:=eq_of_beq hl
  refine⟨rfl,rfl,fun l2 k2 st2 cs2 h2 hb=>uL hb fun y hy=> ?_,w08 _⟩
  unfold Mem.row at hy⊢
  grind
 ·refine⟨by simp,rfl,fun l2 k2 st2 cs2 h2 hb=>uL hb fun y hy=> ?_,w08 _⟩
  unfold Mem.row at hy⊢
  grind
def OracleAbove (O:Oracle):Prop:= ∀f args m r m',O f args m=some (r,m')→m.floor≤m.stk.length+1→Above m m'
theorem z53 (m:Mem) (l k st:Nat) (cs:List AV) (ts:List Nat) (h:m.floor≤l):Above m (m.putS l k st cs ts):=by
 have:=vS m l k st cs h
 rw[UZ]
 exact⟨this.len,this.floor,this.blk,this.nx⟩
theorem QB (m:Mem) (l k st:Nat) (cs:List AV) (nx:Nat) (h:m.floor≤l) (hn:m.nx≤nx:=by simp):Above m {m.put l k st cs with nx:=nx}:=by
 have:=vS m l k st cs h
 exact⟨this.len,this.floor,this.blk,hn⟩
theorem z3f {m m':Mem} {s b:Nat} {x y r:AV} (h:evApp m s b x y=some (r,m')):Above m m':=by
 unfold evApp at h
 split at h
 ·cases h
 ·split at h
  ·injection h with h;injection h with _ h;rw[←h];exact Above.refl m
  ·split at h
   ·injection h with h;injection h with _ h;rw[←h];exact Above.refl m
   ·cases h
  ·split at h
   ·injection h with h;injection h with _ h;rw[←h];exact Above.refl m
   ·cases h
  ·cases h
 ·split at h
  ·split at h
   ·injection h with h;injection h with _ h;rw[←h];exact Vl m _ _
   ·cases h
  ·split at h
   ·split at h
    ·cases h
    ·injection h with h;injection h with _ h;rw[←h];exact Vl m _ _
    ·split at h
     ·injection h with h;injection h with _ h;rw[←h];exact Vl m _ _
     ·cases h
   ·cases h
  ·split at h
   ·split at h
    ·rename_i hc
     simp only[w09,decide_eq_true_eq,beq_iff_eq] at hc
     injection h with h;injection h with _ h;rw[←h]
     exact QB m _ _ _ _ _ hc.2
    ·cases h
   ·cases h
  ·cases h
theorem uI {O:Oracle} (hO:OracleAbove O) {ρ:List AV} {m m':Mem} {op:AOp} {r:AV} (hf:m.floor≤m.stk.length+1) (hs:op.isStore=true→m.floor≤m.stk.length) (h:evOp O ρ m op=some (r,m')):Above m m':=by
 have same: ∀{α:Type} {x:Option α} {f:α→AV},(x.map fun v=>(f v,m))=some (r,m')→Above m m':=by
  intro α x f h
  cases x with
  |none=>simp at h
  |some z=>simp at h;rw[←h.2];exact Above.refl m
 cases op<;>simp only[evOp] at h
 case ext e=>
  cases e<;>simp only[evX] at h
  case bad=>cases h
  case eqA=>
   split at h
   ·split at h
    ·exact same h
    ·cases h
   ·cases h
  case isNil=>exact same h
  case nilChk=>exact same h
  case mkmap=>injection h with h;injection h with _ h;rw[←h];exact js m _ _ _
  case mget=>
   split at h
   ·split at h
    ·exact same h
    ·cases h
   ·cases h
  case copy=>
   unfold evCopy evCopy0 at h
   split at h
   ·cases h
   ·split at h
    ·split at h
     ·rename_i hc
      simp only[w09,w2f,decide_eq_true_eq,beq_iff_eq] at hc
      split at h
      ·injection h with h;injection h with _ h;rw[←h];exact Above.refl m
      ·injection h with h;injection h with _ h;rw[←h]
       have hs:=hs rfl
       exact vS m _ _ _ _ (by rcases hc.2 with h|h<;>omega)
     ·cases h
    ·cases h
   ·cases h
  case litB=>
   unfold evLitB at h
   split at h
   ·injection h with h;injection h with _ h;rw[←h];exact js m _ _ _
   ·cases h
  case clr=>
   unfold evClr evClr0 at h
   split at h
   ·split at h
    ·split at h
     ·rename_i hc
      simp only[w09,w2f,decide_eq_true_eq,beq_iff_eq] at hc
      split at h
      ·injection h with h;injection h with _ h;rw[←h];exact Above.refl m
      ·injection h with h;injection h with _ h;rw[←h]
       have hs:=hs rfl
       exact vS m _ _ _ _ (by rcases hc.2 with h|h<;>omega)
     ·cases h
    ·cases h
   ·cases h
  case mput=>
   unfold evMput at h
   split at h
   ·split at h
    ·split at h
     ·rename_i hc
      simp only[w09,w2f,decide_eq_true_eq,beq_iff_eq] at hc
      simp only[w00,Prod.mk.injEq] at h
      obtain⟨ps',_,_,h⟩:=h
      rw[←h]
      have hs:=hs rfl
      exact vS m _ _ _ _ (by rcases hc.2 with h|h<;>omega)
     ·cases h
    ·cases h
   ·cases h
  case wload=>
   simp only[w05] at h
   obtain⟨cs,_,h⟩:=h
   exact same h
 case mov=>injection h with h;injection h with _ h;rw[←h];exact Above.refl m
 case pick=>split at h<;>first|(cases h;done)|(injection h with h;injection h with _ h;rw[←h];exact Above.refl m)
 case alloc z=>injection h with h;injection h with _ h;rw[←h];exact js m _ _ _
 case box n x=>split at h<;>first|(cases h;done)|(injection h with h;injection h with _ h;rw[←h];exact js m _ _ _)
 case build z ps=>exact same h
 case lit s ps=>split at h<;>first|(cases h;done)|(injection h with h;injection h with _ h;rw[←h];exact Above.refl m)
 case load g n a=>
  simp only[w05] at h
  obtain⟨cs,_,h⟩:=h
  exact same h
 case store n a x=>
  unfold evStore at h
  split at h
  ·split at h
   ·split at h
    ·rename_i hc
     simp only[w09,w2f,decide_eq_true_eq,beq_iff_eq] at hc
     injection h with h;injection h with _ h
     rw[←h]
     have hs:=hs rfl
     exact z53 m _ _ _ _ _ (by rcases hc.2 with h|h<;>omega)
    ·cases h
   ·cases h
  ·cases h
 case bin=>exact same h
 case beq=>split at h<;>first|(cases h;done)|(injection h with h;injection h with _ h;rw[←h];exact Above.refl m)
 case un=>exact same h
 case conv=>split at h<;>first|(cases h;done)|(injection h with h;injection h with _ h;rw[←h];exact Above.refl m)
 case convS=>split at h<;>first|(cases h;done)|(injection h with h;injection h with _ h;rw[←h];exact Above.refl m)
 case toStr=>exact same h
 case toBytes x=>
  split at h
  ·split at h
   ·injection h with h;injection h with _ h;rw[←h];exact Vl m _ _
   ·cases h
  ·cases h
 case mkfn=>injection h with h;injection h with _ h;rw[←h];exact Above.refl m
 case faddr=>exact same h
 case field=>split at h<;>first|(cases h;done)|exact same h
 case iaddr=>exact same h
 case iaddrA=>exact same h
 case indexS=>
  split at h
  ·simp only[w05] at h
   obtain⟨j,_,h⟩:=h
   exact same h
  ·cases h
 case indexA=>
  split at h
  ·simp only[w05] at h
   obtain⟨j,_,h⟩:=h
   exact same h
  ·cases h
 case len=>exact same h
 case lenS=>split at h<;>first|(cases h;done)|(injection h with h;injection h with _ h;rw[←h];exact Above.refl m)
 case app s b x y=>exact z3f h
 case mx=>exact same h
 case mn=>exact same h
 case slice=>exact same h
 case sliceA=>exact same h
 case sliceS=>exact same h
 case make s b z n c=>
  unfold evMake at h
  split at h
  ·split at h
   ·injection h with h;injection h with _ h;rw[←h];exact js m _ _ _
   ·cases h
  ·cases h
 case extract=>split at h<;>first|(cases h;done)|exact same h
 case call f args=>
  unfold evCall at h
  split at h
  ·exact hO _ _ _ _ _ h hf
  ·exact hO _ _ _ _ _ h hf
  ·cases h
structure Ctx where
 Z:G→World→Prop
 mono: ∀{g w g' w'},ExtW g w g' w'→Z g w→Z g' w'
def Ctx.top:Ctx:=⟨fun _ _=>True,fun _ h=>h⟩
def CallOk (P:Program) (C:Ctx) (f:Nat) (args:List AV) (m:Mem) (r:AV) (m':Mem):Prop:=
 (∃fn,P.funcs[f]? =some fn∧(fn.name== "runtime.NumGoroutine")=false∧fn.body.isNone=false)∧
 ∀g w vs,C.Z g w→Inv g w m→Reps g w args vs→Calls P f vs.toArray w fun e w'=> ∃v g',e= .returned v∧Ext g w g' w'∧Inv g' w' m'∧Rep g' w' r v
def YieldOk (P:Program) (C:Ctx) (args:List AV) (m:Mem) (r:AV) (m':Mem):Prop:=
 ∀y aS,args=y::aS→ ∀g w yv vs,C.Z g w→Inv g w m→Rep g w y yv→Reps g w aS vs→ ∃l f tmps assign body,yv= .func (.yield l) #[] #[]∧(Instr.yield l vs.toArray).run P w= .ok (.round l f tmps assign body) w∧
  RoundIn Fence.wide 0 P l f tmps assign body w fun e w'=> ∃v g',e= .returned v∧Ext g w g' w'∧Inv g' w' m'∧Rep g' w' r v
def OracleOk (P:Program) (C:Ctx) (O:Oracle):Prop:= ∀c args m r m',O c args m=some (r,m')→m.floor≤m.stk.length+1→
 match c with
 |some f=>CallOk P C f args m r m'
 |none=>YieldOk P C args m r m'
def FW (rr:Option Nat):Fence:={Fence.wide with round:=rr}
theorem QG (rr:Option Nat):(FW rr).round=rr:=rfl
theorem Qp {rr:Option Nat} {N:Nat} {P:Program} {f:FuncId} {args:Array Value} {w:World} {R:Ending→World→Prop} (h:Calls P f args w R):CallsIn (FW rr) N P f args w R:=
 ⟨trivial,fun cs _=>(callsIn_wide (n:=N).2 h).2 cs (room_wide _)⟩
theorem z3t {rr:Option Nat} {N:Nat} {P:Program} {f:FuncId} {args:Array Value} {w:World} {R:Ending→World→Prop} (h:CallsIn (FW rr) N P f args w R):Calls P f args w R:=
 callsIn_wide (n:=N).1 ⟨trivial,fun cs _=>h.2 cs (fun d hd=>by cases hd)⟩
theorem z47 {F F':Fence} {N N':Nat} {P:Program} {l:Nat} {f:FuncId} {tmps:Array Value} {assign body:Code} {w:World} {R:Ending→World→Prop} {rr rr':Option Nat} (hF:F=FW rr) (hF':F'=FW rr')
  (h:RoundIn F N P l f tmps assign body w R):RoundIn F' N' P l f tmps assign body w R:=by
 subst hF;subst hF'
 exact⟨trivial,fun c cs _=>h.2 c cs (fun d hd=>by cases hd)⟩
theorem z9j:Fence.wide=FW none:=rfl
section
variable {P : Program} {g : G} {w : World} {a : Act} {o : Oper} {ops : Array Oper} {ds : List Nat} {Q : Exit → Act → World → Prop} {K : Act → World → Prop}
theorem Reps.set {ρ:List AV} {vs:List Value} (h:Reps g w ρ vs) {r:AV} {v:Value} (k:Rep g w r v) (d:Nat):Reps g w (ρ.set d r) (vs.set d v):=by
 refine⟨by simp[h.1],fun j c u h1 h2=> ?_⟩
 rw[List.getElem?_set] at h1 h2
 split at h1
 ·grind
 ·rename_i hd
  rw[if_neg hd] at h2
  exact h.2 j c u h1 h2
theorem WP {ρ:List AV} (h:Reps g w ρ a.tmps.toList) {r:AV} {v:Value} (k:Rep g w r v) (d:Option Nat):Reps g w (setDst ρ d r) (a.put d v).tmps.toList:=by
 cases d with
 |none=>exact h
 |some d=>
  simp only[setDst,Act.put,Array.toList_setIfInBounds]
  exact h.set k d
theorem xy (d:Option Nat) (v:Value):(a.put d v).defers=a.defers:=by cases d<;>rfl
theorem z0T {x:Operand} {y:Opd} {ρ:List AV} (hR:Reps g w ρ a.tmps.toList) (hx:compOpd x=some y) {f:Nat} {first caps:List AV} (h:y.ev ρ= .fn (.func f) first caps):
  ∃f1 c1:List Value,a.eval x= .func (.func f) f1.toArray c1.toArray∧Reps g w first f1∧Reps g w caps c1:=by
 have h1:=ze hR hx
 rw[h] at h1
 generalize a.eval x=v at h1
 cases h1 with
 |fn _ _ _ first' caps' a1 a2 a3 a4=>
  exact⟨first'.toList,caps'.toList,by simp,⟨by simpa using a1,fun j c v h1 h2=>a3 j c v h1 (by simpa using h2)⟩,⟨by simpa using a2,fun j c v h1 h2=>a4 j c v h1 (by simpa using h2)⟩⟩
theorem Zn {ao:AOper} (hc:compOper P ds ops o=some ao) {ρ:List AV} (hR:Reps g w ρ a.tmps.toList) {b:Bool} (h:wanted ρ ao.guard=some b):Region.wanted o (yielded ops a.tmps)=b:=by
 unfold compOper at hc
 split at hc
 ·rename_i op gd _ hg
  injection hc with hc
  subst hc
  simp only at h
  unfold compGuard at hg
  split at hg
  ·rename_i hgd
   injection hg with hg;subst hg
   simp only[wanted,Option.some.injEq] at h
   subst h
   simp[Region.wanted,hgd]
  ·rename_i j want hgd
   split at hg
   ·rename_i d hd
    injection hg with hg;subst hg
    simp only[wanted] at h
    have hy:yielded ops a.tmps j=match a.tmps[d]? with|some (.bool b)=>some b|_=>none:=by
     unfold yielded
     rw[hd]
     rfl
    simp only[Region.wanted,hgd,hy]
    rw[w03] at h
    cases hρ:ρ[d]? with
    |none=>rw[hρ] at h;simp at h
    |some x=>
     obtain⟨v,h1,h2⟩:=hR.get hρ
     have h1':a.tmps[d]? =some v:=by simpa using h1
     rw[hρ] at h
     simp only[w32] at h
     split at h
     ·injection h with h
      rw[h1',h2.inv_bool]
      simpa using h
     ·injection h with h
      subst h
      rw[h1']
      obtain⟨us,rfl,_⟩:=Reps.of_tup h2
      rfl
     ·cases h
   ·cases hg
 ·cases hc
end
section
variable {P : Program} {g : G} {w : World} {a : Act} {o : Oper} {ops : Array Oper} {ds : List Nat} {Q : Exit → Act → World → Prop} {K : Act → World → Prop}
theorem z3m {f:Opd} {l:List Opd} (hc:compOp P ds o=some (.call f l)): ∃c x xs,o.op= .call c∧c.callee= .value x∧c.args.toList=xs∧compOpd x=some f∧compOpds xs=some l:=by
 have hc:compOp0 P o=some (.call f l):=by
  unfold compOp at hc
  rw[w00] at hc
  obtain⟨op1,hc,hm⟩:=hc
  obtain rfl:=Um hm (fun _ h=>by cases h) fun _ _ h=>by cases h
  unfold compOp1 at hc
  grind
 unfold compOp0 at hc
 split at hc
 case h_21=>
  rename_i c hop
  unfold compCall appMake at hc
  split at hc
  ·rename_i x hcal
   split at hc
   ·rename_i y l' hx hl
    injection hc with hc
    injection hc with h1 h2
    subst h1;subst h2
    exact⟨c,x,_,hop,hcal,rfl,hx,hl⟩
   ·cases hc
  ·cases hc
  ·exfalso
   repeat' (first|(cases hc;done)|(simp at hc;done)|(split at hc)|(simp only[w05,w00] at hc;obtain⟨_,_,hc⟩:=hc))
 all_goals
  exfalso
  repeat' (first|(cases hc;done)|(simp at hc;done)|(split at hc)|(simp only[w05,w00] at hc;obtain⟨_,_,hc⟩:=hc))
def Goes (g:G) (w:World) (a:Act) (ρ:List AV) (m:Mem) (K:Act→World→Prop):Prop:=
 ∀g' a' w',Ext g w g' w'→Inv g' w' m→Reps g' w' ρ a'.tmps.toList→a'.defers=a.defers→K a' w'
theorem z1Z {c:Call} {op:AOp} (hop:o.op= .defer c) (hc:compOp P ds o=some op):op= .ext .bad:=by
 unfold compOp at hc
 rw[w00] at hc
 obtain⟨op1,hc,rfl⟩:=hc
 have h1:compX P o=none:=by unfold compX;rw[hop]
 have h2:compOp0 P o=none:=by unfold compOp0;rw[hop]
 unfold compOp1 at hc
 rw[h1,h2] at hc
 simp only[hop,isStore,w25,if_false,Option.some.injEq] at hc
 subst hc
 rfl
theorem z2s {O:Oracle} {op:AOp} {ρ:List AV} {m:Mem} {z:AV×Mem} (hc:compOp P ds o=some op) (he:evOp O ρ m op=some z) (rr:Option Nat) (ev:Operand→Value):o.semAt rr ev=execOp ev o:=by
 unfold Oper.semAt
 split
 ·rename_i l c hop
  rw[z1Z hop hc] at he
  cases he
 ·rfl
theorem z5t {O:Oracle} {C:Ctx} {N:Nat} {rr:Option Nat} (hO:OracleOk P C O) (hz:C.Z g w) {op:AOp} (hc:compOp P ds o=some op) {ρ:List AV} {m m':Mem} {r:AV} (hf:m.floor≤m.stk.length+1) (he:evOp O ρ m op=some (r,m')) (hR:Reps g w ρ a.tmps.toList) (I:Inv g w m)
  (hK: ∀g' w' v,Ext g w g' w'→Inv g' w' m'→Rep g' w' r v→K (a.put o.dst v) w'):o.wpIn (FW rr) N P a w K Q:=by
 have hsem:=z2s hc he rr a.eval
 refine⟨fun _ _=>trivial,?_⟩
 rw[QG,hsem]
 by_cases hnc: ∃f l,op= .call f l
 ·obtain⟨f,l,rfl⟩:=hnc
  have hcall:=z3m hc
  obtain⟨c,x,xs,hop,hcal,rfl,hx,hl⟩:=hcall
  simp only[evOp,evCall] at he
  split at he
  ·rename_i fid first caps hfe
   obtain⟨f1,c1,hv,k1,k2⟩:=z0T hR hx hfe
   have k3:=tH hR hl
   obtain⟨⟨fn,hfn,hname,hbody⟩,hcalls⟩:CallOk P C fid _ _ _ _:=hO (some fid) _ _ _ _ he hf
   have hargs:Reps g w (first++l.map (fun p=>p.ev ρ)++caps) (f1++c.args.toList.map a.eval++c1):=(k1.append k3).append k2
   have hrun:(execOp a.eval o).run P w= .ok (.enter fid (f1++c.args.toList.map a.eval++c1).toArray) w:=by
    have harr:(f1.toArray++c.args.map a.eval++c1.toArray)=(f1++c.args.toList.map a.eval++c1).toArray:=by
     simp
    simp only[execOp,hop,resolve,hcal,hv,Deferred.ofValue,Sem.run_bind,Sem.run_pure,Result.andThen_ok,invoke,callFunc,run_program,hfn,hname,hbody,w25,if_false]
    rw[←harr]
   rw[hrun,Oper.uponIn_enter]
   refine⟨fun h=>by simp[FW,Fence.wide] at h,(Qp (hcalls g w _ hz I hargs)).mono fun e w' ⟨v,g',he',hx1,hI,hr⟩=> ?_⟩
   grind
  ·rename_i yl yk yst hfe
   have h1:=ze hR hx
   rw[hfe] at h1
   have k3:=tH hR hl
   obtain⟨l',f',tmps,assign,body,hv,hy,hround⟩: ∃l f tmps assign body,_:=(show YieldOk P C _ _ _ _ from hO none _ _ _ _ he hf) _ _ rfl g w _ _ hz I h1 k3
   have hrun:(execOp a.eval o).run P w= .ok (.round l' f' tmps assign body) w:=by
    simp only[execOp,hop,resolve,hcal,hv,Deferred.ofValue,Sem.run_bind,Sem.run_pure,Result.andThen_ok,invoke]
    rw[←hy]
    congr 2
    grind
   rw[hrun,Oper.uponIn_round]
   refine⟨fun h=>by simp[FW,Fence.wide] at h,(z47 (rr:=none) z9j rfl hround).mono fun e w' ⟨v,g',he',hx1,hI,hr⟩=> ?_⟩
   grind
  ·cases he
 ·have hnc': ∀f l,op≠ .call f l:=fun f l h=>hnc ⟨f,l,h⟩
  obtain⟨g',w',v,hrun,hx,hI,hr⟩:=z4J hc hnc' hR I he
  rcases hrun with hrun|⟨hrun,rfl⟩
  ·rw[hrun,Oper.uponIn_value]
   grind
  ·rw[hrun,Oper.uponIn_skip]
   grind
theorem z5s {O:Oracle} {C:Ctx} {N:Nat} {rr:Option Nat} (hO:OracleOk P C O) (hz:C.Z g w) {ao:AOper} (hc:compOper P ds ops o=some ao) {σ σ':St} (hf:σ.m.floor≤σ.m.stk.length+1) (he:evOper O ao σ=some σ') (hR:Reps g w σ.ρ a.tmps.toList) (I:Inv g w σ.m)
  (hK:Goes g w a σ'.ρ σ'.m K):if Region.wanted o (yielded ops a.tmps) then o.wpIn (FW rr) N P a w K Q else(∀f,o.about P w a.eval=some f→(FW rr).fn f)∧K (a.put o.dst undef) w:=by
 have hdst:ao.dst=o.dst∧compOp P ds o=some ao.op:=by
  unfold compOper at hc
  grind
 unfold evOper at he
 split at he
 ·rename_i hw
  rw[Zn hc hR hw,if_pos rfl]
  simp only[w00] at he
  obtain⟨⟨r,m'⟩,h1,rfl⟩:=he
  refine z5t hO hz hdst.2 hf h1 hR I fun g' w' v hx hI hr=>hK g' _ w' hx hI ?_ (xy _ _)
  rw[hdst.1]
  exact WP (hR.mono hx) hr _
 ·rename_i hw
  rw[Zn hc hR hw,if_neg (by simp)]
  injection he with he
  subst he
  refine⟨fun _ _=>trivial,hK g _ w (Ext.refl g w) I ?_ (xy _ _)⟩
  simp only
  rw[hdst.1]
  exact WP hR (xK g w) _
 ·cases he
theorem je {O:Oracle} (hO:OracleAbove O) {ao:AOper} {σ σ':St} (hf:σ.m.floor≤σ.m.stk.length+1) (hs:ao.op.isStore=true→σ.m.floor≤σ.m.stk.length) (he:evOper O ao σ=some σ'):Above σ.m σ'.m:=by
 unfold evOper at he
 split at he
 ·simp only[w00] at he
  obtain⟨⟨r,m'⟩,h1,rfl⟩:=he
  exact uI hO hf hs h1
 ·injection he with he;subst he;exact Above.refl _
 ·cases he
theorem UB {O:Oracle} (hO:OracleAbove O): ∀{l:List AOper} {σ σ':St},σ.m.floor≤σ.m.stk.length→evOps O l σ=some σ'→Above σ.m σ'.m
 | [],σ,σ',_,h=>by simp[evOps] at h;rw[h];exact Above.refl _
 |o::l,σ,σ',hf,h=>by
  simp only[evOps,w05] at h
  obtain⟨σ1,h1,h2⟩:=h
  have k1:=je hO (by omega) (fun _=>hf) h1
  exact k1.trans (UB hO (by rw[k1.len,k1.floor];exact hf) h2)
theorem z2t {rr:Option Nat} (ev:Operand→Value) (h: ∀c,o.op≠ .defer c):o.semAt rr ev=execOp ev o:=by
 unfold Oper.semAt
 grind
theorem z7X {N:Nat} {rr:Option Nat} {v:Value} {w':World} (hsem:o.semAt rr a.eval=execOp a.eval o) (hrun:(execOp a.eval o).run P w= .ok (.value v) w') (hK:K (a.put o.dst v) w'):o.wpIn (FW rr) N P a w K Q:=by
 refine⟨fun _ _=>trivial,?_⟩
 rw[QG,hsem,hrun,Oper.uponIn_value]
 exact hK
theorem z3l {t e:TypeId} {C:Array Value} {n c:Nat} (ht:P.underlying t=some (.slice e)) (he:P.underlying e=some (.int .u8)):
  (convert t t (.slice (some ⟨w.heap.size,0,none⟩) n c)).run P (w.alloc (.cells C e))= .ok (.slice (some ⟨w.heap.size,0,none⟩) n c) (w.alloc (.cells C e (C.size,C.size+1))):=by
 have hsh:(w.alloc (.cells C e)).shape? w.heap.size=some (e,C.size):=by
  unfold World.shape?
  rw[jD]
 have hfr:(w.alloc (.cells C e)).freeze ⟨w.heap.size,C.size,none⟩ 1=w.alloc (.cells C e (C.size,C.size+1)):=by
  simp only[World.freeze,World.alloc]
  rw[if_neg (by decide)]
  congr 1
  grind
 simp[convert,run_underlying ht,run_underlying he,markStringish,hsh]
 exact hfr
theorem z3w {o2:Oper} {d d2:Nat} {l:List Opd} (h:bytesLit P o o2=some (d,d2,l)): ∃t len ps e ti xs,o.op= .buildSlice t len ps∧o2.op= .convert t t (.tmp d)∧o.dst=some d∧o2.dst=some d2∧o.guard=none∧o2.guard=none∧P.underlying t=some (.slice e)∧P.info? e=some ti∧
  P.underlying e=some (.int .u8)∧ti.size=1∧ps.size=len∧len*ti.size≤16777216∧(ti.zero.map fun z=>z.cells.size)=some ti.size∧litParts 0 ps.toList=some xs∧compOpds xs=some l∧ ∀p∈l,∃v,p= .c v:=by
 unfold bytesLit at h
 split at h
 ·rename_i t len ps s u x e1 e2 hop hop2 hd hd2
  split at h
  ·rename_i e ht
   split at h
   ·rename_i ti hi
    split at h
    ·rename_i hc
     obtain⟨rfl,rfl,rfl,c4,c5,c6,c7,c8,c9,c10⟩:=hc
     split at h
     ·rename_i l' hl
      split at h
      ·rename_i hall
       simp only[Option.some.injEq,Prod.mk.injEq] at h
       obtain⟨rfl,rfl,rfl⟩:=h
       simp only[w05] at hl
       obtain⟨xs,h1,h2⟩:=hl
       refine⟨_,len,ps,e,ti,xs,hop,hop2,hd,hd2,c4,c5,ht,hi,?_,c7,c8,c9,c10,h1,h2,fun p hp=> ?_⟩
       ·unfold isU8 at c6
        grind
       ·grind
      ·cases h
     ·cases h
    ·cases h
   ·cases h
  ·cases h
 ·cases h
theorem z1K {O:Oracle} {C:Ctx} {N:Nat} {rr:Option Nat} (hO:OracleOk P C O) (hA:OracleAbove O): ∀{l:List Oper} {al:List AOper} {i:Nat} {σ σ':St} {g:G} {w:World} {a:Act},C.Z g w→compOpersF P ds ops i l=some al→σ.m.floor≤σ.m.stk.length→
  evOps O al σ=some σ'→Reps g w σ.ρ a.tmps.toList→Inv g w σ.m→Goes g w a σ'.ρ σ'.m (Q .normal)→wpListIn (FW rr) N P ops Q l a w
 | [],al,i,σ,σ',g,w,a,_,hc,_,he,hR,I,hK=>by
  simp[compOpersF] at hc;subst hc
  simp[evOps] at he;subst he
  exact hK g a w (Ext.refl g w) I hR rfl
 | [o],al,i,σ,σ',g,w,a,hz,hc,hf,he,hR,I,hK=>by
  simp only[compOpersF,w00] at hc
  obtain⟨ao,h1,rfl⟩:=hc
  simp only[evOps,w05,Option.some.injEq] at he
  obtain⟨σ1,h3,rfl⟩:=he
  refine wpListIn_step fun K hKK=>z5s hO hz h1 (by omega) h3 hR I fun g' a' w' hx hI hR' hd=> ?_
  exact hKK a' w' (hK g' a' w' hx hI hR' hd)
 |o::o2::l,al,i,σ,σ',g,w,a,hz,hc,hf,he,hR,I,hK=>by
  simp only[compOpersF] at hc
  split at hc
  ·rename_i d d2 l1 hb
   simp only[w00] at hc
   obtain⟨k,hk,rfl⟩:=hc
   obtain⟨t,len,ps,e,ti,xs,q1,q2,q3,q4,q5,q6,q7,q8,q9,q10,q11,q12,q13,q14,q15,q16⟩:=z3w hb
   simp only[evOps,evOper,wanted,evOp,setDst] at he
   by_cases hall:allLen 1 (l1.map fun p=>p.ev σ.ρ)=true
   case neg=>rw[if_neg hall] at he;cases he
   rw[if_pos hall] at he
   simp only[w06,w36,show∀(ρ:List AV) (i:Nat),(Opd.t i).ev ρ=ρ.getD i (.tup []) from fun _ _=>rfl,w0d] at he
   by_cases hd:d<σ.ρ.length
   case neg=>
    rw[List.set_eq_of_length_le (by omega),w03,w4c (by omega)] at he
    cases he
   rw[show(σ.ρ.set d (.list 1 .full (l1.map fun p=>p.ev σ.ρ))).getD d (.tup [])= .list 1 .full (l1.map fun p=>p.ev σ.ρ) by rw[w03,List.getElem?_set_self hd];rfl] at he
   simp only[evSlice,beq_self_eq_true,if_true,bound,w36,w06,Bool.true_or,Bool.and_self,w0a,w19] at he
   obtain⟨D,r1,r2,r3⟩:=z5D (m:=σ.m) hR I q1 q7 q8 (by omega) q11 q12 q13 q14 q15 (by rw[q10];exact hall)
   obtain⟨x2,I2,k2⟩:=r3 (D.size,D.size+1)
   rw[q10] at k2
   have hdt:d<a.tmps.size:=by have:=hR.1;simp at this;omega
   refine wpListIn_step fun K hKK=> ?_
   rw[show Region.wanted o (yielded ops a.tmps)=true by unfold Region.wanted;rw[q5],if_pos rfl]
   refine z7X (z2t _ fun c=>by rw[q1];exact fun h=>by cases h) r1 (hKK _ _ ?_)
   refine wpListIn_step fun K hKK=> ?_
   rw[show Region.wanted o2 (yielded ops (a.put o.dst (.slice (some ⟨w.heap.size,0,none⟩) len len)).tmps)=true by unfold Region.wanted;rw[q6],if_pos rfl]
   have hev:(a.put o.dst (.slice (some ⟨w.heap.size,0,none⟩) len len)).eval (.tmp d)= .slice (some ⟨w.heap.size,0,none⟩) len len:=by
    rw[q3]
    simp[Act.put,Act.eval,hdt]
   refine z7X (v:= .slice (some ⟨w.heap.size,0,none⟩) len len) (w':=w.alloc (.cells D e (D.size,D.size+1))) (z2t _ fun c=>by rw[q2];exact fun h=>by cases h) ?_ (hKK _ _ ?_)
   ·simp[execOp,q2,hev,z3l q7 q9]
   ·refine z1K hO hA (C.mono x2.toExtW hz) hk (by exact hf) he ?_ I2 fun g2 a2 w2 hx2 hI2 hR2 hd2=>hK g2 a2 w2 (x2.trans hx2) hI2 hR2 (hd2.trans ?_)
    ·rw[q3,q4]
     exact WP (WP (hR.mono x2) k2 (some d)) k2 (some d2)
    ·rw[xy,xy]
  ·split at hc
   ·rename_i ao al' h1 h2
    injection hc with hc;subst hc
    simp only[evOps,w05] at he
    obtain⟨σ1,h3,h4⟩:=he
    have k1:=je hA (by omega) (fun _=>hf) h3
    refine wpListIn_step fun K hKK=>z5s hO hz h1 (by omega) h3 hR I fun g' a' w' hx hI hR' hd=> ?_
    exact hKK a' w' (z1K hO hA (C.mono hx.toExtW hz) h2 (by rw[k1.len,k1.floor];exact hf) h4 hR' hI fun g2 a2 w2 hx2 hI2 hR2 hd2=>hK g2 a2 w2 (hx.trans hx2) hI2 hR2 (hd2.trans hd))
   ·cases hc
end
theorem z0I (acc:List Nat) (i:Nat): ∀(l:List Edge) (s:Nat),(l.foldl (fun s e=>if Region.binds .any e then s|||2^e.on|||acc.getD e.on 0 else s) s).testBit i=true→
  s.testBit i=true∨ ∃e∈l,Region.binds .any e=true∧(i=e.on∨(acc.getD e.on 0).testBit i=true)
 | [],s,h=> .inl h
 |e::l,s,h=>by
  rw[List.foldl_cons] at h
  rcases z0I acc i l _ h with h|⟨e',he',hb,hi⟩
  ·grind
  ·grind
theorem Zu: ∀(l:List Oper) (acc:List Nat),(masks l acc).take acc.length=acc∧(masks l acc).length=acc.length+l.length
 | [],acc=>by simp[masks]
 |o::l,acc=>by
  obtain⟨h1,h2⟩:=Zu l (acc++[maskOf acc o])
  simp only[masks]
  refine⟨?_,by rw[h2];simp;omega⟩
  have:(masks l (acc++[maskOf acc o])).take acc.length=((masks l (acc++[maskOf acc o])).take (acc++[maskOf acc o]).length).take acc.length:=by
   grind
  grind
theorem z0A: ∀(l:List Oper) (acc:List Nat) (k:Nat) (o:Oper),l[k]? =some o→(masks l acc)[acc.length+k]? =some (maskOf ((masks l acc).take (acc.length+k)) o)
 | [],_,_,_,h=>by simp at h
 |o'::l,acc,0,o,h=>by
  simp at h;subst h
  simp only[masks,Nat.add_zero]
  obtain⟨h1,_⟩:=Zu l (acc++[maskOf acc o'])
  have h2:(masks l (acc++[maskOf acc o'])).take acc.length=acc:=(Zu (o'::l) acc).1
  rw[h2]
  have h3:((masks l (acc++[maskOf acc o'])).take (acc++[maskOf acc o']).length)[acc.length]? =(masks l (acc++[maskOf acc o']))[acc.length]? :=by
   simp
  grind
 |o'::l,acc,k+1,o,h=>by
  simp only[masks]
  have:=z0A l (acc++[maskOf acc o']) k o (by simpa using h)
  grind
def Closed (ops:Array Oper) (X:Nat→Bool):Prop:= ∀(j:Nat) (o:Oper),ops[j]? =some o→X j=true→ ∀e∈o.after,Region.binds .any e=true→X e.on=true
theorem z4R {ops:Array Oper} {X:Nat→Bool} (hX:Closed ops X): ∀(j i:Nat),X j=true→((masks ops.toList []).getD j 0).testBit i=true→X i=true:=by
 intro j
 induction j using Nat.strongRecOn with
 |_ j ih=>
  intro i hj hb
  cases ho:ops[j]? with
  |none=>
   have:(masks ops.toList [])[j]? =none:=by
    rw[List.getElem?_eq_none_iff,(Zu ops.toList []).2]
    grind
   grind
  |some o=>
   have hm:=z0A ops.toList [] j o (by simpa using ho)
   simp only[w46,w1f] at hm
   rw[w03,hm,w32] at hb
   rcases z0I _ i _ _ hb with h|⟨e,he,hbd,hi⟩
   ·simp at h
   ·have hXe:=hX j o ho hj e (by simpa using he) hbd
    rcases hi with rfl|hi
    ·exact hXe
    ·by_cases hlt:e.on<j
     ·refine ih e.on hlt i hXe ?_
      grind
     ·grind
theorem uJ {ops:Array Oper} {X:Nat→Bool} (hX:Closed ops X) {i j:Nat} (hij:i<j) (h:ordered (masks ops.toList []) i j=true∨ordered (masks ops.toList []) j i=true) (hj:X j=true):X i=true:=by
 unfold ordered at h
 rw[Nat.max_eq_right (by omega),w0c (by omega),Nat.max_eq_left (by omega),Nat.min_eq_right (by omega)] at h
 rcases h with h|h<;>exact z4R hX j i hj h
theorem XT {ρ ρ':List AV}: ∀{ps:List (Nat×Nat×Opd)} {z:List AV},(∀y∈ps.map (fun p=>p.2.2),y.ev ρ=y.ev ρ')→evBuild z ρ ps=evBuild z ρ' ps
 | [],_,_=>rfl
 |(off,n,x)::r,z,h=>by
  have hx:x.ev ρ=x.ev ρ':=h x (by simp)
  simp only[evBuild,hx]
  split
  ·exact XT fun y hy=>h y (by simp only[w30];exact w2c _ hy)
  ·rfl
theorem z4K {O:Oracle} {ρ ρ':List AV} {m:Mem} {op:AOp} (h: ∀y∈op.reads,y.ev ρ=y.ev ρ'):evOp O ρ m op=evOp O ρ' m op:=by
 have lst: ∀{l:List Opd},(∀y∈l,y.ev ρ=y.ev ρ')→(l.map fun p=>p.ev ρ)=l.map fun p=>p.ev ρ':=fun hl=>List.map_congr_left hl
 have opt: ∀{x:Option Opd},(∀y∈x.toList,y.ev ρ=y.ev ρ')→(x.map fun p=>p.ev ρ)=x.map fun p=>p.ev ρ':=by
  intro x hx
  cases x with
  |none=>rfl
  |some y=>simp only[w06];rw[hx y (by simp)]
 cases op<;>simp only[AOp.reads] at h<;>simp only[evOp]
 case build z ps=>rw[XT h]
 case ext e=>
  cases e<;>simp only[XOp.reads] at h<;>simp only[evX]
  case eqA n s ls x y=>rw[h x (by simp),h y (by simp)]
  case isNil n kd x=>rw[h x (by simp)]
  case wload g n x=>rw[h x (by simp)]
  case nilChk x=>rw[h x (by simp)]
  case mget kk z x k=>rw[h x (by simp),h k (by simp)]
  case copy s d x=>rw[h d (by simp),h x (by simp)]
  case litB s ps=>rw[lst h]
  case clr z x=>rw[h x (by simp)]
  grind
 case lit s ps=>rw[lst h]
 case mkfn f x y=>rw[lst fun y hy=>h y (w52 _ hy),lst fun y hy=>h y (w5a _ hy)]
 case slice s x lo hi top=>
  grind
 case sliceA n s x lo hi=>
  grind
 case sliceS x lo hi=>
  grind
 case call f args=>rw[h f (by simp),lst fun y hy=>h y (w2c _ hy)]
 case pick c x y=>rw[h c (by simp),h x (by simp),h y (by simp)]
 case store n x y=>rw[h x (by simp),h y (by simp)]
 case bin b x y=>rw[h x (by simp),h y (by simp)]
 case beq b x y=>rw[h x (by simp),h y (by simp)]
 case iaddr s x y=>rw[h x (by simp),h y (by simp)]
 case iaddrA n s x y=>rw[h x (by simp),h y (by simp)]
 case indexS x y=>rw[h x (by simp),h y (by simp)]
 case indexA n s b x y=>rw[h x (by simp),h y (by simp)]
 case app s b x y=>rw[h x (by simp),h y (by simp)]
 case mx x y=>rw[h x (by simp),h y (by simp)]
 case mn x y=>rw[h x (by simp),h y (by simp)]
 case make s b z x y=>rw[h x (by simp),h y (by simp)]
 case mov x=>rw[h x (by simp)]
 case un u x=>rw[h x (by simp)]
 case conv k x=>rw[h x (by simp)]
 case convS x=>rw[h x (by simp)]
 case toStr x=>rw[h x (by simp)]
 case toBytes x=>rw[h x (by simp)]
 case faddr n x=>rw[h x (by simp)]
 case field b n f x=>rw[h x (by simp)]
 case box n x=>rw[h x (by simp)]
 case load b n x=>rw[h x (by simp)]
 case len x=>rw[h x (by simp)]
 case lenS x=>rw[h x (by simp)]
 grind
theorem z0O {O:Oracle} {ρ:List AV} {m m':Mem} {op:AOp} {r:AV} (hk:op.kind=0) (h:evOp O ρ m op=some (r,m')):m'=m∧ ∀m2,evOp O ρ m2 op=some (r,m2):=by
 have same: ∀{x:Option AV},(x.map fun v=>(v,m))=some (r,m')→m'=m∧ ∀m2:Mem,(x.map fun v=>(v,m2))=some (r,m2):=by
  simp_all
 cases op<;>simp only[AOp.kind] at hk<;>first|(cases hk;done)|skip
 case mov x=>simp only[evOp,Option.some.injEq,Prod.mk.injEq] at h;obtain⟨rfl,rfl⟩:=h;exact⟨rfl,fun _=>rfl⟩
 case pick c x y=>
  simp only[evOp] at h⊢
  split at h
  ·grind
  ·cases h
 case build z ps=>
  simp only[evOp,w00,Prod.mk.injEq] at h⊢
  grind
 case lit s ps=>
  simp only[evOp] at h⊢
  grind
 case bin b x y=>exact same h
 case beq b x y=>
  simp only[evOp] at h⊢
  split at h
  ·grind
  ·cases h
 case un u x=>exact same h
 case conv k x=>
  simp only[evOp] at h⊢
  split at h
  ·grind
  ·cases h
 case convS x=>
  simp only[evOp] at h⊢
  split at h
  ·grind
  ·cases h
 case ext e=>
  cases e<;>simp only[evOp,evX] at h⊢
  case bad=>cases h
  case wload=>cases hk
  case eqA n s ls x y=>
   split at h
   ·split at h
    ·rename_i hc
     simp only[w00,Prod.mk.injEq] at h
     grind
    ·cases h
   ·cases h
  case isNil n kd x=>
   simp only[w00,Prod.mk.injEq] at h
   grind
  case nilChk x=>
   grind
  case mkmap=>cases hk
  case mget=>cases hk
  case mput=>cases hk
  case copy=>cases hk
  case litB=>cases hk
  case clr=>cases hk
 case mkfn f x y=>simp only[evOp,Option.some.injEq,Prod.mk.injEq] at h;obtain⟨rfl,rfl⟩:=h;exact⟨rfl,fun _=>rfl⟩
 case faddr n x=>exact same h
 case field b n f x=>
  simp only[evOp] at h⊢
  split at h
  ·exact same h
  ·cases h
 case iaddr s x y=>exact same h
 case iaddrA n s x y=>exact same h
 case indexS x y=>
  simp only[evOp] at h⊢
  split at h
  ·simp only[w05,w00,Prod.mk.injEq] at h⊢
   grind
  ·cases h
 case indexA n s b x y=>
  simp only[evOp] at h⊢
  split at h
  ·simp only[w05,w00,Prod.mk.injEq] at h⊢
   grind
  ·cases h
 case len x=>exact same h
 case lenS x=>
  simp only[evOp] at h⊢
  split at h
  ·grind
  ·cases h
 case mx x y=>exact same h
 case mn x y=>exact same h
 case slice s x lo hi top=>exact same h
 case sliceA n s x lo hi=>exact same h
 case sliceS x lo hi=>exact same h
 case extract x i=>
  simp only[evOp] at h⊢
  split at h
  ·exact same h
  ·cases h
theorem z0P {O:Oracle} {ρ:List AV} {m m':Mem} {op:AOp} {r:AV} (hk:op.kind≤1) (h:evOp O ρ m op=some (r,m')):m'=m∧ ∀m2:Mem,(∀l k st cs,m.blk l k st=some cs→m2.blk l k st=some cs)→evOp O ρ m2 op=some (r,m2):=by
 by_cases h0:op.kind=0
 ·obtain⟨h1,h2⟩:=z0O h0 h
  grind
 ·have:op.kind=1:=by omega
  cases op<;>simp only[AOp.kind] at this<;>first|(cases this;done)|skip
  case ext e=>
   cases e<;>first|(cases this;done)|skip
   rename_i b n x
   simp only[evOp,evX,w05,w00,Prod.mk.injEq] at h⊢
   obtain⟨cs,h1,v,h2,rfl,rfl⟩:=h
   refine⟨rfl,fun m2 hm=>⟨cs,?_,v,h2,rfl,trivial⟩⟩
   unfold Mem.at at h1⊢
   split at h1
   ·simp only[w00] at h1⊢
    grind
   ·exact h1
   ·cases h1
  case toStr x=>
   simp only[evOp,w00,Prod.mk.injEq] at h⊢
   obtain⟨v,h1,rfl,rfl⟩:=h
   refine⟨rfl,fun m2 hm=>⟨v,?_,rfl,trivial⟩⟩
   unfold evToStr evToStr0 at h1⊢
   grind
  rename_i b n x
  simp only[evOp,w05,w00,Prod.mk.injEq] at h⊢
  obtain⟨cs,h1,v,h2,rfl,rfl⟩:=h
  refine⟨rfl,fun m2 hm=>⟨cs,?_,v,h2,rfl,trivial⟩⟩
  unfold Mem.at at h1⊢
  split at h1
  ·simp only[w00] at h1⊢
   grind
  ·exact h1
  ·cases h1
section
variable {P : Program} {g : G} {w : World} {a : Act} {o : Oper} {ds : List Nat} {ops : Array Oper}
theorem k9 {op:AOp} (hA:kindA op=true):(∃z,op= .alloc z)∨(∃n x,op= .box n x)∨(∃s b z n c,op= .make s b z n c)∨ ∃s ps,op= .ext (.litB s ps):=by
 unfold kindA at hA
 grind
theorem z0G {O:Oracle} {op:AOp} (hA:kindA op=true) {ρ:List AV} {m m':Mem} {r:AV} (he:evOp O ρ m op=some (r,m')): ∃cs,m'={m with cur:=m.cur++[⟨m.nx,cs⟩],nx:=m.nx+1}:=by
 rcases k9 hA with⟨z,rfl⟩|⟨n,x,rfl⟩|⟨s,b,z,n,c,rfl⟩|⟨s,ps,rfl⟩
 case inl=>simp only[evOp,Mem.new,Option.some.injEq,Prod.mk.injEq] at he;exact⟨_,he.2.symm⟩
 case inr.inl=>
  simp only[evOp] at he
  split at he
  ·simp only[Mem.new,Option.some.injEq,Prod.mk.injEq] at he;exact⟨_,he.2.symm⟩
  ·cases he
 case inr.inr.inl=>
  simp only[evOp,evMake] at he
  grind
 case inr.inr.inr=>
  simp only[evOp,evX,evLitB] at he
  grind
theorem Zj {op:AOp} (h:compOp P ds o=some op) (hne: ∀e,op≠ .ext e) (hn3: ∀s l,op≠ .lit s l):compOp0 P o=some op:=by
 unfold compOp at h
 rw[w00] at h
 obtain⟨op1,h,hm⟩:=h
 have:=Um hm hne hn3
 subst this
 unfold compOp1 at h
 grind
theorem z0d {z:List AV} (h:compOp0 P o=some (.alloc z)): ∃e v,o.op= .alloc e∧zeroT P e=some v∧0<v.cells.length∧z=v.cells:=by
 unfold compOp0 at h
 split at h
 case h_4=>
  rename_i e hop
  simp only[w05] at h
  grind
 case h_21=>
  exfalso
  unfold compCall appMake at h
  repeat' (first|(cases h;done)|(simp at h;done)|(split at h)|(simp only[w05,w00] at h;obtain⟨_,_,h⟩:=h))
 all_goals
  exfalso
  repeat' (first|(cases h;done)|(simp at h;done)|(split at h)|(simp only[w05,w00] at h;obtain⟨_,_,h⟩:=h))
theorem z3o {n:Nat} {y:Opd} (h:compOp0 P o=some (.box n y)): ∃e x,o.op= .box e x∧compOpd x=some y∧0<n:=by
 unfold compOp0 at h
 split at h
 case h_5=>
  grind
 case h_21=>
  exfalso
  unfold compCall appMake at h
  repeat' (first|(cases h;done)|(simp at h;done)|(split at h)|(simp only[w05,w00] at h;obtain⟨_,_,h⟩:=h))
 all_goals
  exfalso
  repeat' (first|(cases h;done)|(simp at h;done)|(split at h)|(simp only[w05,w00] at h;obtain⟨_,_,h⟩:=h))
theorem z0c {n:Nat} {y u:Opd} (h:compOp0 P o=some (.store n y u)): ∃t x z,o.op= .store t x z∧compOpd x=some y∧compOpd z=some u:=by
 unfold compOp0 at h
 split at h
 case h_9=>
  grind
 case h_21=>
  exfalso
  unfold compCall appMake at h
  repeat' (first|(cases h;done)|(simp at h;done)|(split at h)|(simp only[w05,w00] at h;obtain⟨_,_,h⟩:=h))
 all_goals
  exfalso
  repeat' (first|(cases h;done)|(simp at h;done)|(split at h)|(simp only[w05,w00] at h;obtain⟨_,_,h⟩:=h))
theorem z4P {s:Nat} {ps:List Opd} (h:compX P o=some (.litB s ps)):False:=by
 unfold compX at h
 repeat' (first|(cases h;done)|(simp at h;done)|(split at h)|(simp only[w05,w00] at h;obtain⟨_,_,h⟩:=h))
theorem z3n {e:XOp} (h:compOp0 P o=some (.ext e)):False:=by
 unfold compOp0 at h
 split at h
 case h_21=>
  unfold compCall appMake at h
  repeat' (first|(cases h;done)|(simp at h;done)|(split at h)|(simp only[w05,w00] at h;obtain⟨_,_,h⟩:=h))
 all_goals
  repeat' (first|(cases h;done)|(simp at h;done)|(split at h)|(simp only[w05,w00] at h;obtain⟨_,_,h⟩:=h))
theorem z4w {O:Oracle} {op:AOp} (hc:compOp P ds o=some op) (hA:kindA op=true) {ρ:List AV} {m m' M:Mem} {r:AV} {cs:List AV} (he:evOp O ρ m op=some (r,m')) (hm:m'={m with cur:=m.cur++[⟨m.nx,cs⟩],nx:=m.nx+1})
  (hR:Reps g w ρ a.tmps.toList) (I:Inv g w M) (hin: ∀bl∈M.all,bl.st=m.nx→bl.cs=cs) (hrs:g.rs m.nx=true):
  ∃g' w' v,(execOp a.eval o).run P w= .ok (.value v) w'∧ExtW g w g' w'∧Inv g' w' M∧Rep g' w' r v∧g'.rs=fun s=>g.rs s&&s !=m.nx:=by
 have csEq: ∀{cs':List AV},m'={m with cur:=m.cur++[⟨m.nx,cs'⟩],nx:=m.nx+1}→cs'=cs:=by
  simp_all
 rcases k9 hA with⟨z,rfl⟩|⟨n,x,rfl⟩|⟨s,b,z,n',c',rfl⟩|⟨s,ps,rfl⟩
 case inl=>
  obtain⟨e,v,hop,hz,hz0,rfl⟩:=z0d (Zj hc (by simp) (by simp))
  simp only[evOp,Mem.new,Option.some.injEq,Prod.mk.injEq] at he
  obtain⟨rfl,he2⟩:=he
  have:=csEq he2.symm
  subst this
  obtain⟨u,h1,h2⟩:=jb hz w
  have h3:=(xB (g:=g) (w:=w) h2).cells hz0
  obtain⟨g',k1,k2,k3,k4⟩:=I.alloc_late v.cells u.cells.toList e hin hrs h3
  refine⟨g',_,.pointer (some ⟨w.heap.size,0,none⟩),?_,k1,k2,?_,k4⟩
  ·simp[execOp,hop,Instr.alloc,h1,newVar,newRow]
  ·have:=Rep.ptr (g:=g') (w:=w.alloc (.cells u.cells.toList.toArray e)) m.stk.length m.cur.length m.nx 0 w.heap.size 0 _ k3
   omega
 case inr.inl=>
  obtain⟨e,x',hop,hx,h0⟩:=z3o (Zj hc (by simp) (by simp))
  simp only[evOp] at he
  split at he
  ·rename_i hl
   simp only[Mem.new,Option.some.injEq,Prod.mk.injEq] at he
   obtain⟨rfl,he2⟩:=he
   have:=csEq he2.symm
   subst this
   have hl':(x.ev ρ).cells.length=n:=eq_of_beq hl
   have h3:=(ze hR hx).cells (by omega)
   obtain⟨g',k1,k2,k3,k4⟩:=I.alloc_late (x.ev ρ).cells (a.eval x').cells.toList e hin hrs h3
   refine⟨g',_,.pointer (some ⟨w.heap.size,0,none⟩),?_,k1,k2,?_,k4⟩
   ·simp[execOp,hop,Instr.box,newVar,newRow]
   ·have:=Rep.ptr (g:=g') (w:=w.alloc (.cells (a.eval x').cells.toList.toArray e)) m.stk.length m.cur.length m.nx 0 w.heap.size 0 _ k3
    omega
  ·cases he
 case inr.inr.inr=>
  unfold compOp at hc
  rw[w00] at hc
  obtain⟨op1,h,hm2⟩:=hc
  have hq:(∃s' ps',op1= .lit s' ps'∧markOp ds o.dst op1= .ext (.litB s' ps'))∨ ∃s b z k n k',op1= .make s b [z] (.c (.int k n)) (.c (.int k' n))∧z.one=true∧0≤n∧b*n≤281474976710656∧n≤9223372036854775807∧s=1∧markOp ds o.dst op1= .ext (.litB s (List.replicate n.toNat (.c z))):=by
   rcases Zv ds o.dst op1 with q|⟨s,ps,rfl,q⟩|⟨s,b,z,k,n,k',rfl,c1,c2,c3,c4,c5,q|q⟩
   ·rw[q] at hm2
    subst hm2
    exfalso
    unfold compOp1 at h
    split at h
    ·rename_i e0 h0
     injection h with h
     injection h with h
     subst h
     exact z4P h0
    ·split at h
     ·rename_i h0
      injection h with h
      subst h
      exact z3n h0
     ·grind
   ·grind
   ·grind
   ·grind
  rcases hq with⟨s',ps',rfl,q⟩|⟨s1,b,z,k,n,k',rfl,c1,c2,c3,c4,c5,q⟩
  rotate_left
  ·rw[q] at hm2
   injection hm2 with hm2
   injection hm2 with hm3 hm4
   subst hm3;subst hm4;subst c5
   obtain⟨t,e,x,y,ti,v,hop,hx,hy,ht,hi,hz,h0,hzs,hs,hb,hv⟩:=ZJ (Vc h)
   obtain⟨flat,hfl,hrep,hrun⟩:=TU (g:=g) (w:=w) (a:=a) hR hop hx hy ht hi hz h0 hzs c2 (by rw[←hb];exact c3) c4 (by rw[←hv,←hs];rfl)
   simp only[evOp,evX,evLitB] at he
   split at he
   ·injection he with he
    injection he with he1 he2
    have:=csEq he2.symm
    subst he1
    have hcs:((List.replicate n.toNat (Opd.c z)).map fun p=>p.ev ρ).flatMap AV.cells=flatRep v.cells n.toNat:=by
     rw[←hv];exact X8 c1 n.toNat ρ
    rw[hcs] at this
    subst this
    obtain⟨g',k1,k2,k3,k4⟩:=I.alloc_late _ flat e hin hrs hrep
    refine⟨g',_,_,hrun,k1,k2,?_,k4⟩
    rw[w58,List.length_replicate]
    exact .grow _ _ _ _ _ _ _ _ _ k3 (w08 _) (by rw[hfl,←hs];omega)
   ·cases he
  rw[q] at hm2
  injection hm2 with hm2
  injection hm2 with hm3 hm4
  subst hm3;subst hm4
  obtain⟨t,e,len,ps0,ti,xs,q1,q2,q3,q4,q5,q6,q7,q8,q9,rfl⟩:=Qm h
  simp only[evOp,evX,evLitB] at he
  split at he
  ·rename_i hall
   injection he with he
   injection he with he1 he2
   have:=csEq he2.symm
   subst this
   subst he1
   obtain⟨flat,hflat,hll,hrep,hrun⟩:=z2N hR q1 q2 q3 q4 q5 q6 q7 q8 q9 hall
   obtain⟨g',k1,k2,k3,k4⟩:=I.alloc_late _ flat e hin hrs hrep
   exact⟨g',_,_,hrun,k1,k2,by rw[hll];exact .grow _ _ _ _ _ _ _ _ _ k3 (w08 _) (by rw[hflat,w1f]),k4⟩
  ·cases he
 case inr.inr.inl=>
  obtain⟨t,e,x,y,ti,v,hop,hx,hy,ht,hi,hz,h0,hzs,rfl,rfl,rfl⟩:=ZJ (Zj hc (by simp) (by simp))
  have h1:=ze hR hx
  have h2:=ze hR hy
  simp only[evOp,evMake] at he
  split at he
  ·rename_i k n k' n2 e1 e2
   split at he
   ·rename_i hcc
    obtain⟨rfl,c1,c2,c3,c4⟩:=hcc
    injection he with he
    injection he with he1 he2
    have:=csEq he2.symm
    subst this
    subst he1
    rw[e1] at h1;rw[e2] at h2
    have hv1:=h1.inv_int
    have hv2:=h2.inv_int
    obtain⟨zv,hzv,hav⟩:=jb hz w
    have hzi:ti.zero=some zv:=by
     simp only[zeroT,hi,w36,w05] at hz
     obtain⟨v,h3,h4⟩:=hz
     have:(zeroValue e).run P w= .ok v w:=by simp[zeroValue,typeInfo,hi,h3]
     rw[this] at hzv
     injection hzv with hzv
     rw[←hzv];exact h3
    have hsz:zv.cells.size=ti.size:=by rw[hzi] at hzs;simpa using hzs
    have hzr:=(xB (g:=g) (w:=w) hav).cells (by omega)
    have hrun:=run_make (P:=P) w t e ti zv ht hi hzi k k' n n c1 (Int.le_refl _) c2 c3
    have hcells:madeCells zv.cells (n.toNat*ti.size)=((List.replicate n.toNat zv.cells.toList).flatten).toArray:=by
     unfold madeCells
     exact rangeZ h0 zv.cells hsz n.toNat
    rw[hcells] at hrun
    obtain⟨g',k1,k2,k3,k4⟩:=I.alloc_late (flatRep v.cells n.toNat) _ e hin hrs (tz hzr n.toNat)
    refine⟨g',_,.slice (some ⟨w.heap.size,0,none⟩) n.toNat n.toNat,?_,k1,k2,?_,k4⟩
    ·simp only[execOp,hop,hv1,hv2,Sem.run_bind,hrun,Result.andThen_ok]
     rfl
    ·exact .arr _ _ _ 0 _ _ 0 _ _ k3 (w08 _)
   ·cases he
  ·cases he
end
def StepD (O:Oracle) (m0:Mem) (ws:Watch) (ao:AOper) (s s':St):Prop:=
 match ao.flt with
 |true=> ∃q,evOper O ao ⟨s.ρ,m0⟩=some q∧s'=⟨q.ρ,s.m⟩
 |false=>
  match ao.op.isStore with
  |true=>clearG s.ρ ao ws=true∧ ∃q,evOper O ao ⟨s.ρ,{s.m with floor:=m0.floor}⟩=some q∧s'=⟨q.ρ,{q.m with floor:=s.m.floor}⟩
  |false=>evOper O ao s=some s'
theorem UF {ρ:List AV} {op:AOp} {ws:Watch} (hs:op.isStore=true) (hc:clear ρ op ws=true): ∃n a x,op= .store n a x:=by
 cases op<;>first|(cases hs;done)|skip
 ·rename_i e
  cases e<;>first|(cases hs;done)|(cases hc;done)
 ·exact⟨_,_,_,rfl⟩
theorem VB {op:AOp} (hs:op.isStore=true):mvB op=true:=by
 cases op<;>first|rfl|(cases hs;done)|skip
 rename_i e
 cases e<;>first|(cases hs;done)|rfl
def nextW (m0:Mem) (ao:AOper) (s:St) (ws:Watch):Watch:=if ao.flt then watchG s.ρ m0 ao ws else ws
theorem Qj {O:Oracle} {m0:Mem}: ∀{al:List AOper} {ws:Watch} {σ σ':St},evDraw O m0 ws al σ=some σ'→
  ∃(S:Nat→St) (W:Nat→Watch),S 0=σ∧W 0=ws∧S al.length=σ'∧ ∀(i:Nat) (ao:AOper),al[i]? =some ao→StepD O m0 (W i) ao (S i) (S (i+1))∧W (i+1)=nextW m0 ao (S i) (W i)
 | [],ws,σ,σ',h=>by
  simp[evDraw] at h
  exact⟨fun _=>σ,fun _=>ws,rfl,rfl,h,fun i ao hi=>by simp at hi⟩
 |o::r,ws,σ,σ',h=>by
  have key: ∃s1,StepD O m0 ws o σ s1∧evDraw O m0 (nextW m0 o σ ws) r s1=some σ':=by
   simp only[evDraw] at h
   unfold StepD nextW
   split at h
   ·grind
   ·rename_i hf
    split at h
    ·rename_i hs
     split at h
     ·rename_i hcl
      split at h
      ·rename_i q hq
       exact⟨_,by rw[hf,hs];exact⟨hcl,q,hq,rfl⟩,by rw[hf];exact h⟩
      ·cases h
     ·cases h
    ·rename_i hs
     split at h
     ·rename_i q hq
      exact⟨_,by rw[hf,hs];exact hq,by rw[hf];exact h⟩
     ·cases h
  obtain⟨s1,h1,h2⟩:=key
  obtain⟨S,W,k1,k1',k2,k3⟩:=Qj h2
  refine⟨fun i=>match i with|0=>σ|i+1=>S i,fun i=>match i with|0=>ws|i+1=>W i,rfl,rfl,k2,fun i ao hi=> ?_⟩
  grind
theorem XU {P:Program} {ds:List Nat} {ops:Array Oper}: ∀{l:List Oper} {al:List AOper} {i:Nat},compOpers P ds ops i l=some al→
  al.length=l.length∧ ∀(k:Nat) (o:Oper),l[k]? =some o→ ∃ao,al[k]? =some ao∧compOper P ds ops o=some ao
 | [],al,i,h=>by simp[compOpers] at h;subst h;exact⟨rfl,fun k o hk=>by simp at hk⟩
 |o::l,al,i,h=>by
  simp only[compOpers] at h
  split at h
  ·rename_i a al' h1 h2
   injection h with h;subst h
   obtain⟨k1,k2⟩:=XU h2
   grind
  ·cases h
theorem TT (al:List AOper) (n:Nat) (b:List Nat): ∀(l:List AOper) (j k:Nat),(marked al n b j l)[k]? =(l[k]?).map (markOne al n b (j+k))
 | [],j,k=>by simp[marked]
 |o::l,j,0=>by simp[marked]
 |o::l,j,k+1=>by
  simp only[marked,w4e,TT al n b l (j+1) k]
  grind
theorem XQ (al:List AOper) (n:Nat) (b:List Nat): ∀(l:List AOper) (j:Nat),(marked al n b j l).length=l.length
 | [],j=>rfl
 |o::l,j=>by simp[marked,XQ al n b l]
theorem Ui {ops:Array Oper}: ∀{l:List Oper} {al:List AOper},readsOk ops l al=true→ ∀(k:Nat) (o:Oper) (ao:AOper),l[k]? =some o→al[k]? =some ao→readsIn (looksAt ops o) ao.op.reads=true
 | [],_,_,k,o,ao,h,_=>by simp at h
 |_::_,[],_,k,o,ao,_,h=>by simp at h
 |o::l,a::al,h,k,o',ao,h1,h2=>by
  simp only[readsOk,w09] at h
  cases k with
  |zero=>simp at h1 h2;subst h1;subst h2;exact h.1
  |succ k=>exact Ui h.2 k o' ao (by simpa using h1) (by simpa using h2)
theorem jZ {l:List Nat}: ∀{r:List Opd},readsIn l r=true→ ∀i,Opd.t i∈r→i∈l
 | [],_,i,h=>by cases h
 | .t j::r,h,i,hm=>by
  simp only[readsIn,w09] at h
  rcases w57.1 hm with hm|hm
  ·grind
  ·exact jZ h.2 i hm
 | .c v::r,h,i,hm=>by
  simp only[readsIn] at h
  rcases w57.1 hm with hm|hm
  ·cases hm
  ·exact jZ h i hm
theorem Ql {P:Program} {ds:List Nat} {ops:Array Oper} {o:Oper} {ao:AOper} (h:compOper P ds ops o=some ao):ao.dst=o.dst∧ao.flt=false∧compOp P ds o=some ao.op∧compGuard ops o.guard=some ao.guard:=by
 unfold compOper at h
 grind
def mask (looks:List Nat) (ρ:List AV):List AV:=ρ.zipIdx.map fun p=>if looks.contains p.2 then p.1 else .undef
theorem z2I (looks:List Nat) (ρ:List AV) (t:Nat):(mask looks ρ)[t]? =(ρ[t]?).map fun x=>if looks.contains t then x else .undef:=by
 unfold mask
 grind
theorem z2H (looks:List Nat) (ρ:List AV):(mask looks ρ).length=ρ.length:=by simp[mask]
theorem VM {looks:List Nat} {ρ:List AV} {t:Nat} (h:t∈looks) (d:AV):(mask looks ρ).getD t d=ρ.getD t d:=by
 rw[w03,w03,z2I]
 grind
theorem TI (ρ:List AV) (d:Option Nat) (r:AV) (t:Nat):(setDst ρ d r)[t]? =if d=some t∧t<ρ.length then some r else ρ[t]? :=by
 cases d with
 |none=>simp[setDst]
 |some d=>
  simp only[setDst,List.getElem?_set,Option.some.injEq]
  grind
theorem z07 (ρ:List AV) (d:Option Nat) (r:AV):(setDst ρ d r).length=ρ.length:=by cases d<;>simp[setDst]
theorem z20 {P:Program} {o:Oper} {g:Bool} {n:Nat} {y:Opd} (h:compOp0 P o=some (.load g n y)):g=true∨n=1:=by
 unfold compOp0 at h
 split at h
 case h_8=>
  grind
 case h_21=>
  exfalso
  unfold compCall appMake at h
  repeat' (first|(cases h;done)|(simp at h;done)|(split at h)|(simp only[w05,w00] at h;obtain⟨_,_,h⟩:=h))
 all_goals
  exfalso
  repeat' (first|(cases h;done)|(simp at h;done)|(split at h)|(simp only[w05,w00] at h;obtain⟨_,_,h⟩:=h))
structure IsOp (P:Program) (ops:Array Oper) (o:Oper) (ao:AOper):Prop where
 dst:ao.dst=o.dst
 guard:compGuard ops o.guard=some ao.guard
 op: ∃ds op,compOp P ds o=some op∧(∀(O:Oracle) (ρ:List AV) (m:Mem),evOp O ρ m ao.op=evOp O ρ m op)∧(op=ao.op∨ ∃g n y,op= .load g n y∧ao.op= .ext (.wload g n y))
 flt:ao.flt=true→ ∃g n y,(ao.op= .load g n y∨ao.op= .ext (.wload g n y))∧(g=true∨n=1)
structure Dr (P:Program) (C:Ctx) (O:Oracle) (ops:Array Oper) (al:List AOper) (m0:Mem) (S:Nat→St) (W:Nat→Watch):Prop where
 hO:OracleOk P C O
 hA:OracleAbove O
 hd:drawOk ops al (masks ops.toList [])=true
 hop: ∀(i:Nat) (o:Oper),ops[i]? =some o→ ∃ao,al[i]? =some ao∧IsOp P ops o ao∧readsIn (looksAt ops o) ao.op.reads=true
 hs: ∀(i:Nat) (ao:AOper),al[i]? =some ao→StepD O m0 (W i) ao (S i) (S (i+1))∧W (i+1)=nextW m0 ao (S i) (W i)
 h0:(S 0).m={m0 with floor:=m0.stk.length+1}
 hf:m0.floor≤m0.stk.length
theorem z21 {P:Program} {ds:List Nat} {ops:Array Oper} {al:List AOper} (h:compDraw P ds ops=some al):drawOk ops al (masks ops.toList [])=true∧al.length=ops.size∧
  ∀(i:Nat) (o:Oper),ops[i]? =some o→ ∃ao,al[i]? =some ao∧IsOp P ops o ao∧readsIn (looksAt ops o) ao.op.reads=true:=by
 unfold compDraw at h
 simp only[w05] at h
 obtain⟨al0,h0,h⟩:=h
 split at h
 ·rename_i hc
  simp only[w09] at hc
  injection h with h
  subst h
  obtain⟨k1,k2⟩:=XU h0
  obtain⟨hc1,hc2⟩:=hc
  refine⟨hc1,by rw[XQ,k1];simp,fun i o ho=> ?_⟩
  obtain⟨a0,h3,h4⟩:=k2 i o (by simpa using ho)
  obtain⟨p1,p2,p3,p4⟩:=Ql h4
  have hget:(marked al0 ops.size (masks ops.toList []) 0 al0)[i]? =some (markOne al0 ops.size (masks ops.toList []) i a0):=by
   rw[TT,h3,w06,w1f]
  refine⟨_,hget,?_,Ui hc2 i o _ (by simpa using ho) hget⟩
  unfold markOne
  split
  ·rename_i hf
   unfold fltOf at hf
   simp only[w09] at hf
   obtain⟨hf,_⟩:=hf
   unfold opAt at hf
   rw[h3] at hf
   simp only at hf
   split at hf
   ·rename_i g n y hl
    have hw:=z20 (Zj (by rw[←hl];exact p3) (fun e he=>by cases he) fun s l he=>by cases he)
    refine⟨p1,p4,⟨ds,a0.op,p3,fun O ρ m=> ?_,?_⟩,fun _=>⟨g,n,y,?_,hw⟩⟩
    ·simp only[hl]
     split<;>rfl
    ·grind
    ·grind
   ·cases hf
  ·exact⟨p1,p4,⟨ds,a0.op,p3,fun _ _ _=>rfl,.inl rfl⟩,fun h=>by rw[p2] at h;cases h⟩
 ·cases h
section
variable {P : Program} {C : Ctx} {O : Oracle} {ops : Array Oper} {al : List AOper} {m0 : Mem} {S : Nat → St} {W : Nat → Watch}
theorem Dr.step (D:Dr P C O ops al m0 S W) {i:Nat} {ao:AOper} (ha:al[i]? =some ao):
  ∃b r,wanted (S i).ρ ao.guard=some b∧(S (i+1)).ρ=setDst (S i).ρ ao.dst r∧(b=false→r= .tup []∧(S (i+1)).m=(S i).m)∧
   (b=true→(ao.flt=true∧(∃m',evOp O (S i).ρ m0 ao.op=some (r,m'))∧(S (i+1)).m=(S i).m)∨
    (ao.flt=false∧ao.op.isStore=true∧clear (S i).ρ ao.op (W i)=true∧ ∃m',evOp O (S i).ρ {(S i).m with floor:=m0.floor} ao.op=some (r,m')∧(S (i+1)).m={m' with floor:=(S i).m.floor})∨
    (ao.flt=false∧ao.op.isStore=false∧evOp O (S i).ρ (S i).m ao.op=some (r,(S (i+1)).m))):=by
 have hs:=(D.hs i ao ha).1
 unfold StepD at hs
 cases hf:ao.flt with
 |true=>
  rw[hf] at hs
  obtain⟨q,hq,hS⟩:=hs
  unfold evOper at hq
  split at hq
  ·rename_i hw
   simp only[w00] at hq
   grind
  ·grind
  ·cases hq
 |false=>
  rw[hf] at hs
  simp only at hs
  cases hst:ao.op.isStore with
  |true=>
   rw[hst] at hs
   obtain⟨hcl,q,hq,hS⟩:=hs
   unfold evOper at hq
   split at hq
   ·rename_i hw
    simp only[w00] at hq
    obtain⟨⟨r,m'⟩,h1,rfl⟩:=hq
    exact⟨true,r,hw,by rw[hS],fun h=>by(cases h),fun _=> .inr (.inl ⟨rfl,rfl,by unfold clearG at hcl;rw[hw] at hcl;exact hcl,m',h1,by rw[hS]⟩)⟩
   ·rename_i hw
    injection hq with hq;subst hq
    exact⟨false,.tup [],hw,by rw[hS],fun _=>⟨rfl,by rw[hS]⟩,fun h=>by(cases h)⟩
   ·cases hq
  |false=>
   rw[hst] at hs
   have hs':evOper O ao (S i)=some (S (i+1)):=hs
   clear hs
   have hs:=hs'
   unfold evOper at hs
   split at hs
   ·rename_i hw
    simp only[w00] at hs
    obtain⟨⟨r,m'⟩,h1,h2⟩:=hs
    refine⟨true,r,hw,by rw[←h2],fun h=>by(cases h),fun _=> .inr (.inr ⟨rfl,rfl,?_⟩)⟩
    rw[h1,←h2]
   ·rename_i hw
    injection hs with hs
    exact⟨false,.tup [],hw,by rw[←hs],fun _=>⟨rfl,by rw[←hs]⟩,fun h=>by(cases h)⟩
   ·cases hs
def isB (al:List AOper) (i:Nat):Bool:=mvB (opAt al i)
def isA (al:List AOper) (i:Nat):Bool:=kindA (opAt al i)
def wr (ops:Array Oper) (t i:Nat):Bool:=match ops[i]? with|some o=>o.dst==some t|none=>false
theorem xi {i:Nat} {ao:AOper} (h:al[i]? =some ao):opAt al i=ao.op:=by unfold opAt;rw[h]
theorem za3 (op:AOp):op.kind≤2:=by
 cases op<;>simp only[AOp.kind]<;>try omega
 rename_i e
 cases e<;>simp[XOp.kind]
theorem z0F {op:AOp} (h1:mvB op=false) (h2:kindA op=false):op.kind≤1:=by
 have:=za3 op
 unfold mvB at h1
 grind
theorem Dr.at_ (D:Dr P C O ops al m0 S W) {i:Nat} (hi:i<ops.size): ∃o ao,ops[i]? =some o∧al[i]? =some ao∧IsOp P ops o ao∧readsIn (looksAt ops o) ao.op.reads=true:=by
 have ho:ops[i]? =some ops[i]:=w51 hi
 obtain⟨ao,h1,h2,h3⟩:=D.hop i _ ho
 grind
theorem Dr.lens (D:Dr P C O ops al m0 S W): ∀i,i≤ops.size→(S i).m.stk.length=m0.stk.length∧(S i).m.floor=m0.stk.length+1
 |0,_=>by rw[D.h0];exact⟨rfl,rfl⟩
 |i+1,hi=>by
  obtain⟨k1,k2⟩:=D.lens i (by omega)
  obtain⟨o,ao,_,ha,_⟩:=D.at_ (i:=i) (by omega)
  obtain⟨b,r,_,_,hfalse,htrue⟩:=D.step ha
  cases b with
  |false=>rw[(hfalse rfl).2];exact⟨k1,k2⟩
  |true=>
   rcases htrue rfl with⟨_,_,h⟩|⟨_,_,_,m',h1,h2⟩|⟨_,hns,h1⟩
   ·grind
   ·have:=uI D.hA (by simp only;rw[k1];have:=D.hf;omega) (fun _=>by simp only;rw[k1];exact D.hf) h1
    rw[h2]
    exact⟨by simp only;rw[this.len];exact k1,k2⟩
   ·have:=uI D.hA (by rw[k1,k2];omega) (fun h=>by rw[hns] at h;cases h) h1
    exact⟨this.len.trans k1,this.floor.trans k2⟩
theorem Dr.nx_succ (D:Dr P C O ops al m0 S W) {i:Nat} (hi:i<ops.size):(S i).m.nx≤(S (i+1)).m.nx:=by
 obtain⟨k1,k2⟩:=D.lens i (by omega)
 obtain⟨o,ao,_,ha,_⟩:=D.at_ hi
 obtain⟨b,r,_,_,hfalse,htrue⟩:=D.step ha
 cases b with
 |false=>rw[(hfalse rfl).2];exact w08 _
 |true=>
  rcases htrue rfl with⟨_,_,h⟩|⟨_,_,_,m',h1,h2⟩|⟨_,hns,h1⟩
  ·grind
  ·have:=uI D.hA (by simp only;rw[k1];have:=D.hf;omega) (fun _=>by simp only;rw[k1];exact D.hf) h1
   rw[h2]
   exact this.nx
  ·exact(uI D.hA (by rw[k1,k2];omega) (fun h=>by rw[hns] at h;cases h) h1).nx
theorem Dr.nx_mono (D:Dr P C O ops al m0 S W) (a:Nat): ∀b,a≤b→b≤ops.size→(S a).m.nx≤(S b).m.nx
 |0,h,_=>by have:a=0:=by omega
            rw[this];exact w08 _
 |b+1,h,hb=>by
  by_cases hab:a=b+1
  ·grind
  ·exact Nat.le_trans (D.nx_mono a b (by omega) (by omega)) (D.nx_succ (by omega))
theorem Dr.quiet (D:Dr P C O ops al m0 S W) {i:Nat} (hi:i<ops.size) (hB:isB al i=false):(S (i+1)).m=(S i).m∨
  (isA al i=true∧ ∃cs,(S (i+1)).m={(S i).m with cur:=(S i).m.cur++[⟨(S i).m.nx,cs⟩],nx:=(S i).m.nx+1}):=by
 obtain⟨o,ao,_,ha,_⟩:=D.at_ hi
 obtain⟨b,r,_,_,hfalse,htrue⟩:=D.step ha
 unfold isB at hB
 rw[xi ha] at hB
 cases b with
 |false=>exact .inl (hfalse rfl).2
 |true=>
  cases hA:kindA ao.op with
  |true=>
   rcases htrue rfl with⟨_,_,h⟩|⟨_,hs,_⟩|⟨_,_,h1⟩
   ·exact .inl h
   ·rcases k9 hA with⟨_,e⟩|⟨_,_,e⟩|⟨_,_,_,_,_,e⟩|⟨_,_,e⟩<;>(rw[e] at hs;cases hs)
   ·refine .inr ⟨by unfold isA;rw[xi ha];exact hA,?_⟩
    exact z0G hA h1
  |false=>
   left
   have hk:=z0F hB hA
   rcases htrue rfl with⟨_,_,h⟩|⟨_,hs,_⟩|⟨_,_,h1⟩
   ·exact h
   ·cases hop:ao.op<;>rw[hop] at hs hk<;>first|(cases hs;done)|(simp[AOp.kind] at hk;done)|skip
    rename_i e
    cases e<;>first|(cases hs;done)|(simp[AOp.kind,XOp.kind] at hk)
   ·exact(z0P hk h1).1
structure Grew (m m':Mem):Prop where
 stk:m'.stk=m.stk
 cur: ∃l,m'.cur=m.cur++l
theorem Grew.blk {m m':Mem} (h:Grew m m') {l k st:Nat} {cs:List AV} (hb:m.blk l k st=some cs):m'.blk l k st=some cs:=by
 refine uL hb fun x hx=> ?_
 obtain⟨add,hc⟩:=h.cur
 unfold Mem.row at hx⊢
 rw[h.stk]
 grind
theorem Dr.grew (D:Dr P C O ops al m0 S W) (a:Nat): ∀b,a≤b→b≤ops.size→(∀i,a≤i→i<b→isB al i=false)→Grew (S a).m (S b).m
 |0,h,_,_=>by have:a=0:=by omega
              rw[this];exact⟨rfl,[],by simp⟩
 |b+1,h,hb,hE=>by
  by_cases hab:a=b+1
  ·rw[hab];exact⟨rfl,[],by simp⟩
  ·obtain⟨k1,l,k2⟩:=D.grew a b (by omega) (by omega) (fun i h1 h2=>hE i h1 (by omega))
   rcases D.quiet (by omega) (hE b (by omega) (by omega)) with h|⟨_,cs,h⟩
   ·rw[h];exact⟨k1,l,k2⟩
   ·rw[h];exact⟨k1,l++[⟨(S b).m.nx,cs⟩],by simp only;rw[k2,w1e]⟩
theorem Dr.reg_len (D:Dr P C O ops al m0 S W): ∀i,i≤ops.size→(S i).ρ.length=(S 0).ρ.length
 |0,_=>rfl
 |i+1,hi=>by
  obtain⟨o,ao,_,ha,_⟩:=D.at_ (i:=i) (by omega)
  obtain⟨b,r,_,hρ,_⟩:=D.step ha
  rw[hρ,z07]
  exact D.reg_len i (by omega)
theorem Dr.reg_const (D:Dr P C O ops al m0 S W) (t a:Nat): ∀b,a≤b→b≤ops.size→(∀i,a≤i→i<b→wr ops t i=false)→(S b).ρ[t]? =(S a).ρ[t]?
 |0,h,_,_=>by have:a=0:=by omega
              rw[this]
 |b+1,h,hb,hE=>by
  by_cases hab:a=b+1
  ·rw[hab]
  ·have ih:=D.reg_const t a b (by omega) (by omega) (fun i h1 h2=>hE i h1 (by omega))
   obtain⟨o,ao,ho,ha,hop,_⟩:=D.at_ (i:=b) (by omega)
   have hq:=hE b (by omega) (by omega)
   simp only[wr,ho] at hq
   obtain⟨bb,r,_,hρ,_⟩:=D.step ha
   rw[hρ,TI,hop.dst,if_neg (by intro hh;simp[hh.1] at hq)]
   exact ih
end
theorem z24 {m:Mem} {l k st:Nat} {cs new:List AV} (h:m.blk l k st=some cs):(m.put l k st new).blk l k st=some new:=by
 have h1:=qA h
 unfold Mem.row at h1
 unfold Mem.put
 split
 ·rename_i hl
  rw[if_pos hl] at h1
  have hk:k<m.cur.length:=(w13.1 h1).1
  unfold Mem.blk Mem.row
  grind
 ·rename_i hl
  rw[if_neg hl] at h1
  unfold Mem.blk Mem.row
  grind
theorem XW {m:Mem} {l k st l2 k2 st2:Nat} {cs new:List AV} (hne: ¬(l=l2∧k=k2)) (h:m.blk l2 k2 st2=some cs):(m.put l k st new).blk l2 k2 st2=some cs:=by
 refine uL h fun x hx=> ?_
 unfold Mem.row at hx
 unfold Mem.put
 split
 ·rename_i hl
  have hl':l=m.stk.length:=eq_of_beq hl
  unfold Mem.row
  grind
 ·rename_i hl
  unfold Mem.row
  grind
theorem z0Z {m:Mem} {l k st:Nat} {cs:List AV} (h:m.blk l k st=some cs):l≤m.stk.length:=by
 rcases w43 m.stk.length l with hlt|hle
 ·exfalso
  have:=qA h
  unfold Mem.row at this
  grind
 ·exact hle
theorem z0Y {m:Mem} {l k st st':Nat} {cs cs':List AV} (h:m.blk l k st=some cs) (h':m.blk l k st'=some cs'):st=st'∧cs=cs':=by
 have h1:=qA h
 have h2:=qA h'
 grind
theorem z2l {g:Bool} {n off:Nat} {cs cs':List AV} (hw:g=true∨n=1) (hl:cs'.length=cs.length) (h: ∀q,off≤q→q<off+n→cs'[q]? =cs[q]?):takeV g n (cs'.drop off)=takeV g n (cs.drop off):=by
 unfold takeV
 rw[w47,w47,hl]
 split
 ·cases g with
  |true=>
   simp only[Option.some.injEq,AV.agg.injEq]
   apply w27
   grind
  |false=>
   simp_all
 ·rfl
section
variable {P : Program} {C : Ctx} {O : Oracle} {ops : Array Oper} {al : List AOper} {m0 : Mem} {S : Nat → St} {W : Nat → Watch} {Q : Exit → Act → World → Prop}
def Cut (n:Nat) (X:Nat→Bool) (p:Nat→Bool) (k:Nat):Prop:= ∀i,i<n→p i=true→(X i=true↔i<k)
def Nxt (al:List AOper) (n:Nat) (X:Nat→Bool) (k:Nat):Prop:=k≤n∧Cut n X (isB al) k∧(k=n∨isB al k=true)
theorem Nxt.uniq {n k k':Nat} {X:Nat→Bool} (h:Nxt al n X k) (h':Nxt al n X k'):k=k':=by
 have key: ∀{k k':Nat},Nxt al n X k→Nxt al n X k'→k<k'→False:=by
  intro k k' h h' hlt
  have hkn:k<n:=by have:=h'.1;omega
  have hB:isB al k=true:=by rcases h.2.2 with e|e;·omega
                            ·exact e
  have h1:=(h'.2.1 k hkn hB).2 hlt
  have h2:=(h.2.1 k hkn hB).1 h1
  omega
 grind
theorem z1J (b:List Nat) (i j:Nat):ordered b i j=ordered b j i:=by unfold ordered;rw[Nat.max_comm,Nat.min_comm]
theorem Dr.pair (D:Dr P C O ops al m0 S W) {i j:Nat} {x y:Oper} {ai aj:AOper} (hi:ops[i]? =some x) (hj:ops[j]? =some y) (hai:al[i]? =some ai) (haj:al[j]? =some aj) (hne:i≠j) (ho:ordered (masks ops.toList []) i j=false):
  clash ops x y=false∧(mvB ai.op&&mvB aj.op)=false∧(kindA ai.op&&mvB aj.op&&decide (j<i))=false∧(mvB ai.op&&decide (aj.op.kind=1)&& !aj.flt&&(decide (i<j)||ai.op.isStore))=false:=by
 have hd:=D.hd
 unfold drawOk at hd
 rw[w37] at hd
 have hilt:i<ops.size:=(w31.1 hi).1
 have hjlt:j<ops.size:=(w31.1 hj).1
 have h1:=hd i (w4d.2 hilt)
 rw[w09,w37] at h1
 have h2:=h1.2 j (w4d.2 hjlt)
 rw[w09] at h2
 have h3:=h2.1
 unfold pairOk at h3
 simp only[hi,hj,ho,xi hai,xi haj,haj,w06,w32,Bool.or_false,w2f,beq_iff_eq,w09,Bool.not_eq_true'] at h3
 grind
theorem Dr.edge (D:Dr P C O ops al m0 S W) {j:Nat} {o:Oper} (hj:ops[j]? =some o) {e:Edge} (he:e∈o.after) (hb:Region.binds .any e=true):e.on<j:=by
 have hd:=D.hd
 unfold drawOk at hd
 rw[w37] at hd
 have hjlt:j<ops.size:=(w31.1 hj).1
 have h1:=hd j (w4d.2 hjlt)
 rw[w09] at h1
 have h2:=h1.1
 unfold edgesOk at h2
 grind
theorem Dr.flt_before (D:Dr P C O ops al m0 S W) {i j:Nat} {ai aj:AOper} (hi:i<ops.size) (hj:j<ops.size) (hai:al[i]? =some ai) (haj:al[j]? =some aj) (hs:ai.op.isStore=true) (hf:aj.flt=true):
  j<i∧(ordered (masks ops.toList []) i j=true∨ ∃g n y,aj.op= .ext (.wload g n y)):=by
 have hd:=D.hd
 unfold drawOk at hd
 rw[w37] at hd
 have h1:=hd i (w4d.2 hi)
 rw[w09,w37] at h1
 have h2:=h1.2 j (w4d.2 hj)
 rw[w09] at h2
 have h3:=h2.2
 unfold fltOk at h3
 simp only[xi hai,xi haj,haj,hs,hf,w06,w32,Bool.and_self,Bool.not_true,Bool.false_or,w09,decide_eq_true_eq,w2f,Bool.not_eq_true'] at h3
 grind
theorem Xk {g:G} {w:World} {m:Mem} (f:Nat) (I:Inv g w m):Inv g w {m with floor:=f}:=⟨I.blk,I.nd,I.stlt,I.tklt,I.live,I.ownb,I.hbase,I.lnd,I.rsv,I.mpk⟩
theorem Dr.reserve (D:Dr P C O ops al m0 S W) {g:G} {w:World} (a:Nat): ∀b,a≤b→b≤ops.size→(∀i,a≤i→i<b→isB al i=false)→Inv g w (S a).m→
  ∃g',ExtW g w g' w∧Inv g' w (S b).m∧ ∀st,g'.rs st=true↔(g.rs st=true∨ ∃i,a≤i∧i<b∧isA al i=true∧(S (i+1)).m.nx≠(S i).m.nx∧st=(S i).m.nx)
 |0,h,_,_,I=>by
  have:a=0:=by omega
  subst this
  exact⟨g,(Ext.refl g w).toExtW,I,fun st=>⟨.inl,fun h=>h.elim id fun⟨i,h1,h2,_⟩=>by omega⟩⟩
 |b+1,h,hb,hE,I=>by
  by_cases hab:a=b+1
  ·subst hab
   exact⟨g,(Ext.refl g w).toExtW,I,fun st=>⟨.inl,fun h=>h.elim id fun⟨i,h1,h2,_⟩=>by omega⟩⟩
  ·obtain⟨g1,k1,k2,k3⟩:=D.reserve a b (by omega) (by omega) (fun i h1 h2=>hE i h1 (by omega)) I
   rcases D.quiet (by omega) (hE b (by omega) (by omega)) with hm|⟨hA,cs,hm⟩
   ·grind
   ·obtain⟨e1,e2⟩:=k2.reserve cs
    refine⟨_,k1.trans e1,by rw[hm];exact e2,fun st=> ?_⟩
    grind
def content (S:Nat→St) (i:Nat):List AV:=match (S (i+1)).m.cur.getLast? with|some b=>b.cs|none=>[]
theorem Dr.made (D:Dr P C O ops al m0 S W) {i:Nat} (hi:i<ops.size) (hB:isB al i=false) (hm:(S (i+1)).m.nx≠(S i).m.nx):
  (S (i+1)).m={(S i).m with cur:=(S i).m.cur++[⟨(S i).m.nx,content S i⟩],nx:=(S i).m.nx+1}:=by
 rcases D.quiet hi hB with h|⟨_,cs,h⟩
 ·grind
 ·have:content S i=cs:=by unfold content;rw[h];simp
  grind
theorem z61 {i:Nat} (h:isA al i=true):isB al i=false:=by
 unfold isA at h
 unfold isB mvB
 rw[h];simp
theorem z9X (m:Mem) (cs:List AV):({m with cur:=m.cur++[⟨m.nx,cs⟩],nx:=m.nx+1}:Mem).blk m.stk.length m.cur.length m.nx=some cs:=by
 unfold Mem.blk Mem.row
 simp
theorem Dr.made_blk (D:Dr P C O ops al m0 S W) {i:Nat} (hi:i<ops.size) (hA:isA al i=true) (hm:(S (i+1)).m.nx≠(S i).m.nx):(S (i+1)).m.blk m0.stk.length (S i).m.cur.length (S i).m.nx=some (content S i):=by
 rw[D.made hi (z61 hA) hm,←(D.lens i (by omega)).1]
 exact z9X _ _
theorem Dr.watched (D:Dr P C O ops al m0 S W) {j:Nat} (x:Nat×Nat×Nat×Nat×List AV) (hx:x∈W (j+1)): ∀p,j<p→p≤ops.size→x∈W p
 |0,h,_=>by omega
 |p+1,h,hp=>by
  by_cases hj:j=p
  ·grind
  ·have ih:=D.watched x hx p (by omega) (by omega)
   obtain⟨o,ao,_,ha,_⟩:=D.at_ (i:=p) (by omega)
   rw[(D.hs p ao ha).2]
   unfold nextW
   split
   ·unfold watchG
    split
    ·unfold watch
     grind
    ·exact ih
   ·exact ih
theorem Dr.range (D:Dr P C O ops al m0 S W) {j:Nat} {l kk st off n:Nat} {cs0:List AV} (hb:m0.blk l kk st=some cs0) (k:Nat)
  (hst: ∀p ap,p<k→al[p]? =some ap→ap.op.isStore=true→j<p∧(l,kk,off,n,(cs0.drop off).take n)∈W (j+1)):
  ∀p,p≤k→p≤ops.size→ ∃cs,(S p).m.blk l kk st=some cs∧cs.length=cs0.length∧ ∀q,off≤q→q<off+n→cs[q]? =cs0[q]?
 |0,_,_=>⟨cs0,by rw[D.h0];exact hb,rfl,fun _ _ _=>rfl⟩
 |p+1,hpk,hp=>by
  obtain⟨cs,h1,h2,h3⟩:=D.range hb k hst p (by omega) (by omega)
  obtain⟨k1,k2⟩:=D.lens p (by omega)
  have hlev:l≤m0.stk.length:=z0Z hb
  cases hB:isB al p with
  |false=>
   have hg:=D.grew p (p+1) (by omega) hp (fun i a b=>by have:i=p:=by omega
                                                        subst this;exact hB)
   exact⟨cs,hg.blk h1,h2,h3⟩
  |true=>
   obtain⟨o,ao,_,ha,_⟩:=D.at_ (i:=p) (by omega)
   obtain⟨b,r,_,_,hfalse,htrue⟩:=D.step ha
   cases b with
   |false=>exact⟨cs,by rw[(hfalse rfl).2];exact h1,h2,h3⟩
   |true=>
    rcases htrue rfl with⟨_,_,h⟩|⟨_,hs,hcl,m',he,hm⟩|⟨_,hns,he⟩
    ·grind
    ·obtain⟨hjp,hin⟩:=hst p ao (by omega) ha hs
     have hw:=D.watched _ hin p hjp (by omega)
     obtain⟨n',ad,x,hop⟩:=UF hs hcl
     rw[hop] at he hcl
     simp only[evOp,evStore] at he
     split at he
     ·rename_i l2 k2' st2 off2 hae
      split at he
      ·rename_i cs2 hb2
       split at he
       ·rename_i hc
        simp only[w09,beq_iff_eq,decide_eq_true_eq] at hc
        simp only[Option.some.injEq,Prod.mk.injEq] at he
        obtain⟨_,rfl⟩:=he
        rw[hm,UZ]
        simp only[clear,hae,w37] at hcl
        have hcl:=hcl _ hw
        simp only[w2f,w09,bne_iff_ne,ne_eq,decide_eq_true_eq] at hcl
        have hb2':(S p).m.blk l2 k2' st2=some cs2:=hb2
        by_cases hsame:l2=l∧k2'=kk
        ·obtain⟨rfl,rfl⟩:=hsame
         obtain⟨rfl,rfl⟩:=z0Y h1 hb2'
         refine⟨splice cs off2 (x.ev (S p).ρ).cells,?_,?_,fun q a1 a2=> ?_⟩
         ·exact z24 (m:={(S p).m with floor:=m0.floor}) h1
         ·rw[XO _ _ _ (by omega)];exact h2
         ·rw[z41 _ _ _ (by omega)]
          rcases hcl with hcl|⟨e1,e2⟩
          ·rw[if_neg (by omega)]
           exact h3 q a1 a2
          ·have e2:=z9H e2
           split
           ·rename_i hq
            rw[e2,w3f,List.getElem?_drop,if_pos (by omega),show off+(q-off2)=q by omega]
           ·exact h3 q a1 a2
        ·exact⟨cs,XW (m:={(S p).m with floor:=m0.floor}) hsame h1,h2,h3⟩
       ·cases he
      ·cases he
     ·cases he
    ·have:=uI D.hA (by rw[k1,k2];omega) (fun h=>by rw[hns] at h;cases h) he
     exact⟨cs,this.blk l kk st cs (by rw[k2];omega) h1,h2,h3⟩
theorem Dr.float (D:Dr P C O ops al m0 S W) {j k:Nat} {ao:AOper} (hj:j<ops.size) (ha:al[j]? =some ao) (hf:ao.flt=true) (hwt:wanted (S j).ρ ao.guard=some true) (hk:k≤ops.size) {g:Bool} {n:Nat} {y:Opd} (hop:ao.op= .load g n y∨ao.op= .ext (.wload g n y)) (hw:g=true∨n=1)
  (hst: ∀p ap,p<k→al[p]? =some ap→ap.op.isStore=true→j<p∧ ∃g n y,ao.op= .ext (.wload g n y)) {r:AV} {m':Mem} (he:evOp O (S j).ρ m0 ao.op=some (r,m')):evOp O (S j).ρ (S k).m ao.op=some (r,(S k).m):=by
 have hev: ∀m:Mem,evOp O (S j).ρ m ao.op=(m.at (y.ev (S j).ρ)).bind fun cs=>(takeV g n cs).map fun v=>(v,m):=by
  intro m
  rcases hop with h|h<;>rw[h]<;>rfl
 rw[hev] at he⊢
 simp only[w05,w00,Prod.mk.injEq] at he⊢
 obtain⟨cs,h1,v,h2,rfl,rfl⟩:=he
 unfold Mem.at at h1⊢
 split at h1
 ·rename_i l kk st off hae
  simp only[w00] at h1
  obtain⟨cs0,h3,rfl⟩:=h1
  obtain⟨cs1,k1,k2,k3⟩:=D.range (j:=j) (off:=off) (n:=n) h3 k (fun p ap hp hap hs=>by
   obtain⟨a1,g',n',y',a2⟩:=hst p ap hp hap hs
   refine⟨a1,?_⟩
   have hop':ao.op= .ext (.wload g n y):=by
    rcases hop with h|h
    ·grind
    ·exact h
   rw[(D.hs j ao ha).2]
   simp only[nextW,hf,if_true,watchG,hwt,watch,hop',hae,Mem.at,h3,w06,w32]
   exact w24) k (w08 _) hk
  exact⟨cs1.drop off,by simp only[k1,w06],v,by rw[z2l hw k2 k3];exact h2,rfl,trivial⟩
 ·injection h1 with h1
  grind
 ·cases h1
end
section
variable {P : Program} {C : Ctx} {O : Oracle} {ops : Array Oper} {al : List AOper} {m0 : Mem} {S : Nat → St} {W : Nat → Watch} {Q : Exit → Act → World → Prop}
def Pend (al:List AOper) (S:Nat→St) (X:Nat→Bool) (k i:Nat):Prop:=i<k∧isA al i=true∧(S (i+1)).m.nx≠(S i).m.nx∧X i=false
structure Mid (ops:Array Oper) (al:List AOper) (S:Nat→St) (rs0:Nat→Bool) (L:Nat) (X:Nat→Bool) (g:G) (w:World) (a:Act):Prop where
 mem: ∀k,Nxt al ops.size X k→Inv g w (S k).m
 rsv: ∀k,Nxt al ops.size X k→ ∀st,g.rs st=true↔(rs0 st=true∨ ∃i,Pend al S X k i∧st=(S i).m.nx)
 cont: ∀k,Nxt al ops.size X k→ ∀i,Pend al S X k i→(S k).m.blk L (S i).m.cur.length (S i).m.nx=some (content S i)
 reg: ∀t k x,k≤ops.size→Cut ops.size X (wr ops t) k→(S k).ρ[t]? =some x→ ∃v,a.tmps[t]? =some v∧Rep g w x v
 len:a.tmps.size=(S 0).ρ.length
theorem Dr.nxt (D:Dr P C O ops al m0 S W) {X:Nat→Bool} (hX:Closed ops X): ∃k,Nxt al ops.size X k:=by
 have least: ∀n,n≤ops.size→ ∃k,k≤n∧(∀i,i<k→isB al i=true→X i=true)∧(k=n∨(isB al k=true∧X k=false)):=by
  intro n
  induction n with
  |zero=>exact fun _=>⟨0,w08 _,fun i hi=>by omega,.inl rfl⟩
  |succ n ih=>
   grind
 obtain⟨k,h1,h2,h3⟩:=least ops.size (w08 _)
 refine⟨k,h1,fun i hi hB=>⟨fun hXi=> ?_,fun hlt=>h2 i hlt hB⟩,h3.imp id (fun h=>h.1)⟩
 rcases w43 i k with hlt|hge
 ·exact hlt
 ·exfalso
  rcases h3 with rfl|⟨hBk,hXk⟩
  ·omega
  ·have hne:k≠i:=fun e=>by subst e;rw[hXk] at hXi;cases hXi
   have hkn:k<ops.size:=by omega
   obtain⟨ok,ak,p1,p2,_⟩:=D.at_ hkn
   obtain⟨oi,ai,q1,q2,_⟩:=D.at_ hi
   unfold isB at hBk hB
   rw[xi p2] at hBk
   rw[xi q2] at hB
   have hord:ordered (masks ops.toList []) k i=true:=by
    cases ho:ordered (masks ops.toList []) k i with
    |true=>rfl
    |false=>
     have:=(D.pair p1 q1 p2 q2 hne ho).2.1
     grind
   have:=uJ hX (i:=k) (j:=i) (by omega) (.inl hord) hXi
   grind
theorem Mid.next {N:Nat} {rr:Option Nat} (D:Dr P C O ops al m0 S W) {rs0:Nat→Bool} (hrs0: ∀st,rs0 st=true→st<(S 0).m.nx) {X:Nat→Bool} {g:G} {w:World} {a:Act} (hz:C.Z g w) (M:Mid ops al S rs0 m0.stk.length X g w a) {j:Nat} {o:Oper} (ho:ops[j]? =some o) (hXj:X j=false) (hX:Closed ops X)
  (hX':Closed ops fun i=>X i||i==j) (K:Act→World→Prop) (hK: ∀g' a' w',ExtW g w g' w'→Mid ops al S rs0 m0.stk.length (fun i=>X i||i==j) g' w' a'→a'.defers=a.defers→K a' w'):wpOpIn (FW rr) N P ops Q j K a w:=by
 have hjlt:j<ops.size:=(w31.1 ho).1
 obtain⟨ao,ha,hisop,hreads⟩:=D.hop j o ho
 obtain⟨b,r,hw,hρ,hfalse,htrue⟩:=D.step ha
 obtain⟨ds,op0,hop,hevop,hkop⟩:=hisop.op
 have hdst:=hisop.dst
 have hguard:=hisop.guard
 have hord: ∀i,i<ops.size→i≠j→ordered (masks ops.toList []) i j=true→(X i=true↔i<j):=by
  intro i hi hne h
  constructor
  ·intro hXi
   rcases w43 i j with hlt|hge
   ·exact hlt
   ·have:=uJ hX (i:=j) (j:=i) (by omega) (.inr h) hXi
    grind
  ·intro hlt
   have:=uJ hX' (i:=i) (j:=j) hlt (.inl h) (by simp)
   grind
 have hpair: ∀i oi ai,ops[i]? =some oi→al[i]? =some ai→i≠j→(clash ops oi o=true∨(mvB ai.op=true∧mvB ao.op=true))→ordered (masks ops.toList []) i j=true:=by
  intro i oi ai h1 h2 hne h
  cases hoo:ordered (masks ops.toList []) i j with
  |true=>rfl
  |false=>
   obtain⟨q1,q2,_⟩:=D.pair h1 ho h2 ha hne hoo
   grind
 have hlook: ∀t∈looksAt ops o,Cut ops.size X (wr ops t) j:=by
  intro t ht i hi hwr
  obtain⟨oi,ai,h1,h2,_⟩:=D.at_ hi
  simp only[wr,h1,beq_iff_eq] at hwr
  by_cases hne:i=j
  ·grind
  ·refine hord i hi hne (hpair i oi ai h1 h2 hne (.inl ?_))
   unfold clash
   grind
 have hmask:Reps g w (mask (looksAt ops o) (S j).ρ) a.tmps.toList:=by
  refine⟨by simp[z2H,D.reg_len j (by omega),M.len],fun t c v h1 h2=> ?_⟩
  rw[z2I] at h1
  simp only[w00] at h1
  obtain⟨x,hx,h1⟩:=h1
  by_cases ht:t∈looksAt ops o
  ·have hcon:(looksAt ops o).contains t=true:=by simpa using ht
   rw[if_pos hcon] at h1
   subst h1
   obtain⟨v',h3,h4⟩:=M.reg t j x (by omega) (hlook t ht) hx
   grind
  ·have hcon: ¬(looksAt ops o).contains t=true:=by simpa using ht
   rw[if_neg hcon] at h1
   subst h1
   exact .undef v
 have hwant:wanted (mask (looksAt ops o) (S j).ρ) ao.guard=some b:=by
  rw[←hw]
  unfold compGuard at hguard
  split at hguard
  ·injection hguard with hguard;rw[←hguard];rfl
  ·rename_i q want hgd
   split at hguard
   ·rename_i d hd
    injection hguard with hguard
    rw[←hguard]
    have hmem:d∈looksAt ops o:=by
     unfold looksAt
     rw[hgd]
     simp[hd]
    simp only[wanted,VM hmem]
   ·cases hguard
 have hcomp: ∃ao0,compOper P ds ops o=some ao0∧ao0.guard=ao.guard:=by
  refine⟨⟨o.dst,op0,ao.guard,false⟩,?_,rfl⟩
  unfold compOper
  rw[hop,hguard]
 have hRw:Region.wanted o (yielded ops a.tmps)=b:=by
  obtain⟨ao0,h1,h2⟩:=hcomp
  exact Zn h1 hmask (by rw[h2];exact hwant)
 have hcongr: ∀mm:Mem,evOp O (mask (looksAt ops o) (S j).ρ) mm op0=evOp O (S j).ρ mm ao.op:=by
  intro mm
  rw[←hevop]
  refine z4K fun y hy=> ?_
  cases y with
  |c v=>rfl
  |t i=>exact VM (jZ hreads i hy) _
 have after: ∀g' w' v,ExtW g w g' w'→Rep g' w' r v→(∀k,Nxt al ops.size (fun i=>X i||i==j) k→Inv g' w' (S k).m)→
   (∀k,Nxt al ops.size (fun i=>X i||i==j) k→ ∀st,g'.rs st=true↔(rs0 st=true∨ ∃i,Pend al S (fun i=>X i||i==j) k i∧st=(S i).m.nx))→
   (∀k,Nxt al ops.size (fun i=>X i||i==j) k→ ∀i,Pend al S (fun i=>X i||i==j) k i→(S k).m.blk m0.stk.length (S i).m.cur.length (S i).m.nx=some (content S i))→
   Mid ops al S rs0 m0.stk.length (fun i=>X i||i==j) g' w' (a.put o.dst v):=by
  intro g' w' v hx hr hmem hrsv hcont
  refine⟨hmem,hrsv,hcont,fun t k x hk hcut hx'=> ?_,by cases o.dst<;>simp[Act.put,M.len]⟩
  by_cases hd:o.dst=some t
  ·have hwrj:wr ops t j=true:=by simp[wr,ho,hd]
   have hjk:j<k:=(hcut j hjlt hwrj).1 (by simp)
   have hconst:=D.reg_const t (j+1) k (by omega) hk (fun i h1 h2=>by
    cases hwi:wr ops t i with
    |false=>rfl
    |true=>
     exfalso
     obtain⟨oi,ai,p1,p2,_⟩:=D.at_ (i:=i) (by omega)
     have hXi:=(hcut i (by omega) hwi).2 h2
     simp only[w2f,beq_iff_eq] at hXi
     have hXi':X i=true:=hXi.resolve_right (by omega)
     have hcl:clash ops oi o=true:=by
      simp only[wr,p1,beq_iff_eq] at hwi
      unfold clash
      rw[hwi,hd]
      simp
     have:=(hord i (by omega) (by omega) (hpair i oi ai p1 p2 (by omega) (.inl hcl))).1 hXi'
     omega)
   rw[hconst,hρ,TI,hdst] at hx'
   have hlt:t<(S j).ρ.length:=by
    rcases w43 t (S j).ρ.length with h|h
    ·exact h
    ·rw[if_neg (by omega),w4c h] at hx';cases hx'
   rw[if_pos ⟨hd,hlt⟩] at hx'
   injection hx' with hx'
   subst hx'
   refine⟨v,?_,hr⟩
   rw[hd]
   simp only[Act.put]
   have:t<a.tmps.size:=by rw[M.len,←D.reg_len j (by omega)];exact hlt
   simp[this]
  ·have hcut':Cut ops.size X (wr ops t) k:=by
    intro i hi hwi
    have hne:i≠j:=by
     intro h;subst h
     simp only[wr,ho,beq_iff_eq] at hwi
     exact hd hwi
    have:=hcut i hi hwi
    have h2:(i==j)=false:=by simp[hne]
    simp only[h2,Bool.or_false] at this
    exact this
   obtain⟨v0,h1,h2⟩:=M.reg t k x hk hcut' hx'
   refine⟨v0,?_,h2.monoW hx⟩
   cases hdd:o.dst with
   |none=>exact h1
   |some d=>
    simp only[Act.put]
    have hne:d≠t:=fun h=>hd (by rw[hdd,h])
    rw[Array.getElem?_setIfInBounds_ne hne]
    exact h1
 obtain⟨k,hk⟩:=D.nxt hX
 obtain⟨k',hk'⟩:=D.nxt hX'
 have I:=M.mem k hk
 have hklen:=D.lens k hk.1
 have early: ∀i,i<ops.size→isA al i=true→X i=true→i<k:=by
  intro i hi hA hXi
  rcases w43 i k with hlt|hge
  ·exact hlt
  ·exfalso
   rcases hk.2.2 with e|hB
   ·omega
   ·have hne:i≠k:=fun e=>by rw[e] at hA;rw[z61 hA] at hB;cases hB
    have hkn:k<ops.size:=by omega
    obtain⟨oi,ai,p1,p2,_⟩:=D.at_ hi
    obtain⟨ok,ak,q1,q2,_⟩:=D.at_ hkn
    have hXk:X k=false:=by
     cases hx:X k with
     |false=>rfl
     |true=>have:=(hk.2.1 k hkn hB).1 hx;omega
    cases hoo:ordered (masks ops.toList []) i k with
    |true=>
     have:=uJ hX (i:=k) (j:=i) (by omega) (.inr hoo) hXi
     rw[hXk] at this;cases this
    |false=>
     have:=(D.pair p1 q1 p2 q2 hne hoo).2.2.1
     unfold isA at hA
     unfold isB at hB
     rw[xi p2] at hA
     rw[xi q2] at hB
     rw[hA,hB] at this
     simp at this
     omega
 unfold wpOpIn
 rw[ho]
 simp only
 rw[hRw]
 cases hB:isB al j with
 |true=>
  have hmvj:mvB ao.op=true:=by unfold isB at hB;rw[xi ha] at hB;exact hB
  have hkj:k=j:=by
   rcases Nat.lt_trichotomy k j with hlt|rfl|hgt
   ·exfalso
    have hkn:k<ops.size:=by omega
    have hBk:isB al k=true:=hk.2.2.elim (fun e=>by omega) id
    obtain⟨ok,ak,q1,q2,_⟩:=D.at_ hkn
    have hmk:mvB ak.op=true:=by unfold isB at hBk;rw[xi q2] at hBk;exact hBk
    have hXk:=(hord k hkn (by omega) (hpair k ok ak q1 q2 (by omega) (.inr ⟨hmk,hmvj⟩))).2 hlt
    have:=(hk.2.1 k hkn hBk).1 hXk
    omega
   ·rfl
   ·exfalso
    have:=(hk.2.1 j hjlt hB).2 hgt
    rw[hXj] at this;cases this
  subst hkj
  have hjk':k<k':=(hk'.2.1 k hjlt hB).1 (by simp)
  have hnoB: ∀i,k+1≤i→i<k'→isB al i=false:=by
   intro i h1 h2
   cases hBi:isB al i with
   |false=>rfl
   |true=>
    exfalso
    have hXi:=(hk'.2.1 i (by have:=hk'.1;omega) hBi).2 h2
    simp only[w2f,beq_iff_eq] at hXi
    have:=(hk.2.1 i (by have:=hk'.1;omega) hBi).1 (hXi.resolve_right (by omega))
    omega
  have fin: ∀g' w' v,ExtW g w g' w'→g'.rs=g.rs→Inv g' w' (S (k+1)).m→Rep g' w' r v→
    (∀i,Pend al S X k i→(S (k+1)).m.blk m0.stk.length (S i).m.cur.length (S i).m.nx=some (content S i))→
    ∃g'',ExtW g w g'' w'∧Mid ops al S rs0 m0.stk.length (fun i=>X i||i==k) g'' w' (a.put o.dst v):=by
   intro g' w' v hx hrs hI hr hc
   obtain⟨g'',e1,e2,e3⟩:=D.reserve (k+1) k' (by omega) hk'.1 hnoB hI
   have hgrew:=D.grew (k+1) k' (by omega) hk'.1 hnoB
   refine⟨g'',hx.trans e1,after g'' w' v (hx.trans e1) (hr.monoW e1) (fun q hq=> ?_) (fun q hq st=> ?_) (fun q hq i hp=> ?_)⟩
   ·rw[hq.uniq hk'];exact e2
   ·rw[hq.uniq hk',e3 st,hrs,M.rsv k hk st]
    constructor
    ·rintro((h|⟨i,⟨h1,h2,h3,h4⟩,h5⟩)|⟨i,h1,h2,h3,h4,h5⟩)
     ·exact .inl h
     ·exact .inr ⟨i,⟨by omega,h2,h3,by simp only[h4,Bool.false_or,beq_eq_false_iff_ne];omega⟩,h5⟩
     ·refine .inr ⟨i,⟨h2,h3,h4,?_⟩,h5⟩
      simp only[w28,beq_eq_false_iff_ne]
      refine⟨?_,by omega⟩
      cases hxi:X i with
      |false=>rfl
      |true=>have:=early i (by have:=hk'.1;omega) h3 hxi;omega
    ·rintro(h|⟨i,⟨h1,h2,h3,h4⟩,h5⟩)
     ·exact .inl (.inl h)
     ·simp only[w28,beq_eq_false_iff_ne] at h4
      rcases w43 i k with hlt|hge
      ·exact .inl (.inr ⟨i,⟨hlt,h2,h3,h4.1⟩,h5⟩)
      ·exact .inr ⟨i,by omega,h1,h2,h3,h5⟩
   ·rw[hq.uniq hk'] at hp⊢
    obtain⟨h1,h2,h3,h4⟩:=hp
    simp only[w28,beq_eq_false_iff_ne] at h4
    rcases w43 i k with hlt|hge
    ·exact hgrew.blk (hc i ⟨hlt,h2,h3,h4.1⟩)
    ·have hin:i<ops.size:=by have:=hk'.1;omega
     have hg2:=D.grew (i+1) k' (by omega) hk'.1 (fun q a1 a2=>hnoB q (by omega) a2)
     exact hg2.blk (D.made_blk hin h2 h3)
  cases b with
  |false=>
   obtain⟨hr,hm⟩:=hfalse rfl
   simp only[w25,if_false]
   obtain⟨g'',e1,e2⟩:=fin g w Go.undef (Ext.refl g w).toExtW rfl (by rw[hm];exact I) (by rw[hr];exact xK g w) (fun i hp=>by rw[hm];exact M.cont k hk i hp)
   exact⟨fun _ _=>trivial,hK g'' _ w e1 e2 (xy _ _)⟩
  |true=>
   simp only[if_true]
   rcases htrue rfl with⟨hf,_,_⟩|⟨hf,hs,hcl,m',h1,hm⟩|⟨hf,hs,h1⟩
   ·exfalso
    obtain⟨g1,n1,y1,h|h,_⟩:=hisop.flt hf<;>rw[h] at hmvj<;>cases hmvj
   ·have h1':=h1
    rw[←hcongr] at h1
    have hcs: ∀i,Pend al S X k i→(S (k+1)).m.blk m0.stk.length (S i).m.cur.length (S i).m.nx=some (content S i):=by
     intro i hp
     have hb:=M.cont k hk i hp
     rw[hm]
     obtain⟨n',ad,x,e⟩:=UF hs hcl
     have hop2:op0= .store n' ad x:=by
      rcases hkop with h|⟨_,_,_,_,h⟩
      ·rw[h,e]
      ·rw[e] at h;cases h
     rw[e] at h1'
     have hrd: ∀q,Opd.t q=ad→Opd.t q∈ao.op.reads:=fun q hq=>by rw[e,←hq];simp[AOp.reads]
     obtain⟨t',x',z',_,hx',_⟩:=z0c (Zj (by rw[←hop2];exact hop) (fun e he=>by cases he) fun s l he=>by cases he)
     have hrep:=ze hmask hx'
     have hae':ad.ev (mask (looksAt ops o) (S k).ρ)=ad.ev (S k).ρ:=by
      cases ad with
      |c c=>rfl
      |t q=>exact VM (jZ hreads q (hrd q rfl)) _
     simp only[evOp,evStore] at h1'
     split at h1'
     ·rename_i l2 k2 st2 off2 hae
      split at h1'
      ·rename_i cs2 hb2
       split at h1'
       ·simp only[Option.some.injEq,Prod.mk.injEq] at h1'
        obtain⟨_,rfl⟩:=h1'
        rw[UZ]
        refine XW (m:={(S k).m with floor:=m0.floor}) (fun e=> ?_) hb
        obtain⟨rfl,rfl⟩:=e
        have hst:=(z0Y (m:=(S k).m) hb2 hb).1
        have hres:=(M.rsv k hk ((S i).m.nx)).2 (.inr ⟨i,hp,rfl⟩)
        have hnone:=(I.rsv _ hres).1
        rw[hae',hae] at hrep
        obtain⟨b1,o1,e1,hbt,_⟩:=hrep.inv_ptr
        rw[hst,hnone] at hbt;cases hbt
       ·cases h1'
      ·cases h1'
     ·cases h1'
    refine z5t D.hO hz hop (by simp only;have:=D.hf;have:=hklen.1;omega) h1 hmask (Xk _ I) fun g' w' v hx hI hr=> ?_
    obtain⟨g'',e1,e2⟩:=fin g' w' v hx.toExtW hx.rs (by rw[hm];exact Xk _ hI) hr hcs
    exact hK g'' _ w' e1 e2 (xy _ _)
   ·rw[←hcongr] at h1
    have hab:=uI (ρ:=mask (looksAt ops o) (S k).ρ) D.hA (by rw[hklen.1,hklen.2];omega) (fun h=>by
     exfalso
     rcases hkop with e|⟨_,_,_,e,_⟩
     ·rw[e,hs] at h;cases h
     ·rw[e] at h;cases h) h1
    refine z5t D.hO hz hop (by omega) h1 hmask I fun g' w' v hx hI hr=> ?_
    obtain⟨g'',e1,e2⟩:=fin g' w' v hx.toExtW hx.rs hI hr (fun i hp=>hab.blk _ _ _ _ (by rw[hklen.2];omega) (M.cont k hk i hp))
    exact hK g'' _ w' e1 e2 (xy _ _)
 |false=>
  have hkk:Nxt al ops.size (fun i=>X i||i==j) k:=by
   refine⟨hk.1,fun i hi hBi=> ?_,hk.2.2⟩
   have hne:(i==j)=false:=by
    simp only[beq_eq_false_iff_ne]
    intro e
    rw[e,hB] at hBi;cases hBi
   simp only[hne,Bool.or_false]
   exact hk.2.1 i hi hBi
  have hmv:mvB ao.op=false:=by unfold isB at hB;rw[xi ha] at hB;exact hB
  have same: ∀g' w' v,Ext g w g' w'→Inv g' w' (S k).m→Rep g' w' r v→(isA al j=false∨(S (j+1)).m.nx=(S j).m.nx)→Mid ops al S rs0 m0.stk.length (fun i=>X i||i==j) g' w' (a.put o.dst v):=by
   intro g' w' v hx hI hr hno
   have hp: ∀i,Pend al S (fun i=>X i||i==j) k i↔Pend al S X k i:=by
    intro i
    constructor
    ·rintro⟨h1,h2,h3,h4⟩
     simp only[w28] at h4
     exact⟨h1,h2,h3,h4.1⟩
    ·rintro⟨h1,h2,h3,h4⟩
     refine⟨h1,h2,h3,?_⟩
     simp only[w28,beq_eq_false_iff_ne]
     refine⟨h4,fun e=> ?_⟩
     subst e
     rcases hno with h|h
     ·rw[h] at h2;cases h2
     ·exact h3 h
   refine after g' w' v hx.toExtW hr (fun q hq=> ?_) (fun q hq st=> ?_) (fun q hq i hpi=> ?_)
   ·rw[hq.uniq hkk];exact hI
   ·rw[hq.uniq hkk,hx.rs,M.rsv k hk st]
    simp only[hp]
   ·rw[hq.uniq hkk] at hpi⊢
    exact M.cont k hk i ((hp i).1 hpi)
  cases hA:isA al j with
  |true=>
   have hkA:kindA ao.op=true:=by unfold isA at hA;rw[xi ha] at hA;exact hA
   have hjk:j<k:=by
    rcases w43 j k with h|h
    ·exact h
    ·exfalso
     have hne:k≠j:=by
      intro e
      rcases hk.2.2 with e2|e2
      ·omega
      ·rw[e,hB] at e2;cases e2
     have hkn:k<ops.size:=by omega
     have hBk:isB al k=true:=hk.2.2.elim (fun e=>by omega) id
     have hXk:X k=false:=by
      cases hx:X k with
      |false=>rfl
      |true=>have:=(hk.2.1 k hkn hBk).1 hx;omega
     obtain⟨ok,ak,q1,q2,_⟩:=D.at_ hkn
     cases hoo:ordered (masks ops.toList []) k j with
     |true=>
      have:=(hord k hkn hne hoo).2 (by omega)
      rw[hXk] at this;cases this
     |false=>
      have:=(D.pair ho q1 ha q2 (fun e=>hne e.symm) (by rw[z1J];exact hoo)).2.2.1
      unfold isB at hBk
      rw[xi q2] at hBk
      rw[hkA,hBk] at this
      simp at this
      omega
   cases b with
   |false=>
    obtain⟨hr,hm⟩:=hfalse rfl
    simp only[w25,if_false]
    exact⟨fun _ _=>trivial,hK g _ w (Ext.refl g w).toExtW (same g w Go.undef (Ext.refl g w) I (by rw[hr];exact xK g w) (.inr (by rw[hm]))) (xy _ _)⟩
   |true=>
    simp only[if_true]
    rcases htrue rfl with⟨hf,_,_⟩|⟨hf,hs,_⟩|⟨hf,hs,h1⟩
    ·exfalso
     obtain⟨g1,n1,y1,h|h,_⟩:=hisop.flt hf<;>rw[h] at hkA<;>cases hkA
    ·exfalso
     rcases k9 hkA with⟨_,e⟩|⟨_,_,e⟩|⟨_,_,_,_,_,e⟩|⟨_,_,e⟩<;>(rw[e] at hs;cases hs)
    ·have hop0:op0=ao.op:=by
      rcases hkop with h|⟨_,_,_,_,h⟩
      ·exact h
      ·rw[h] at hkA;cases hkA
     obtain⟨cs,hcs⟩:=z0G hkA h1
     have hmade:(S (j+1)).m.nx≠(S j).m.nx:=by rw[hcs];simp
     have hm:=D.made hjlt hB hmade
     have hpend:Pend al S X k j:=⟨hjk,hA,hmade,hXj⟩
     rw[←hcongr] at h1
     have hin: ∀bl∈(S k).m.all,bl.st=(S j).m.nx→bl.cs=content S j:=by
      intro bl hbl hst
      have:=z0x I.nd hbl (y9 (M.cont k hk j hpend)) hst
      rw[this]
     obtain⟨g',w',v,hrun,hx,hI,hr,hrs⟩:=z4w hop (by rw[hop0];exact hkA) h1 hm hmask I hin ((M.rsv k hk _).2 (.inr ⟨j,hpend,rfl⟩))
     refine⟨fun _ _=>trivial,?_⟩
     rw[QG,z2s hop h1 rr a.eval,hrun,Oper.uponIn_value]
     have hne: ∀i,i<ops.size→isA al i=true→(S (i+1)).m.nx≠(S i).m.nx→i≠j→(S i).m.nx≠(S j).m.nx:=by
      intro i hi hAi hmi hij
      have b1:=D.nx_succ hi
      have b2:=D.nx_succ hjlt
      rcases w43 i j with hlt|hge
      ·have:=D.nx_mono (i+1) j (by omega) (by omega);omega
      ·have:=D.nx_mono (j+1) i (by omega) (by omega);omega
     refine hK g' _ w' hx (after g' w' v hx hr (fun q hq=> ?_) (fun q hq st=> ?_) (fun q hq i hpi=> ?_)) (xy _ _)
     ·rw[hq.uniq hkk];exact hI
     ·rw[hq.uniq hkk,hrs]
      simp only[w09,bne_iff_ne]
      rw[M.rsv k hk st]
      constructor
      ·rintro⟨h|⟨i,⟨a1,a2,a3,a4⟩,a5⟩,hn⟩
       ·exact .inl h
       ·refine .inr ⟨i,⟨a1,a2,a3,?_⟩,a5⟩
        simp only[w28,beq_eq_false_iff_ne]
        exact⟨a4,fun e=>hn (by rw[a5,e])⟩
      ·rintro(h|⟨i,⟨a1,a2,a3,a4⟩,a5⟩)
       ·refine⟨.inl h,fun e=> ?_⟩
        have:=hrs0 st h
        have:=D.nx_mono 0 j (w0e _) (by omega)
        omega
       ·simp only[w28,beq_eq_false_iff_ne] at a4
        refine⟨.inr ⟨i,⟨a1,a2,a3,a4.1⟩,a5⟩,fun e=> ?_⟩
        exact hne i (by have:=hk.1;omega) a2 a3 a4.2 (by rw[←a5,e])
     ·rw[hq.uniq hkk] at hpi⊢
      obtain⟨a1,a2,a3,a4⟩:=hpi
      simp only[w28] at a4
      exact M.cont k hk i ⟨a1,a2,a3,a4.1⟩
  |false=>
   have hkA:kindA ao.op=false:=by unfold isA at hA;rw[xi ha] at hA;exact hA
   have hkind:=z0F hmv hkA
   cases b with
   |false=>
    obtain⟨hr,hm⟩:=hfalse rfl
    simp only[w25,if_false]
    exact⟨fun _ _=>trivial,hK g _ w (Ext.refl g w).toExtW (same g w Go.undef (Ext.refl g w) I (by rw[hr];exact xK g w) (.inl hA)) (xy _ _)⟩
   |true=>
    simp only[if_true]
    have hw0:=hw
    have hev:evOp O (S j).ρ (S k).m ao.op=some (r,(S k).m):=by
     rcases htrue rfl with⟨hf,⟨m',h1⟩,_⟩|⟨hf,hs,_⟩|⟨hf,hs,h1⟩
     ·obtain⟨g1,n1,y1,hld,hw⟩:=hisop.flt hf
      refine D.float hjlt ha hf hw0 hk.1 hld hw (fun p ap hp hap hs=> ?_) h1
      have hpn:p<ops.size:=by have:=hk.1;omega
      have hBp:isB al p=true:=by
       unfold isB
       rw[xi hap]
       exact VB hs
      have hXp:=(hk.2.1 p hpn hBp).2 hp
      obtain⟨h2,h3⟩:=D.flt_before hpn hjlt hap ha hs hf
      rcases h3 with h3|h3
      ·have:=uJ hX (i:=j) (j:=p) h2 (.inr h3) hXp
       rw[hXj] at this;cases this
      ·exact⟨h2,h3⟩
     ·exfalso
      rw[VB hs] at hmv;cases hmv
     ·by_cases hk0:ao.op.kind=0
      ·exact(z0O hk0 h1).2 _
      ·have hk1:ao.op.kind=1:=by omega
       obtain⟨hmm,hev0⟩:=z0P hkind h1
       have hall: ∀i,i<ops.size→isB al i=true→(i<j∨(opAt al i).isStore=true)→ordered (masks ops.toList []) i j=true:=by
        intro i hi hBi hor
        obtain⟨oi,ai,p1,p2,_⟩:=D.at_ hi
        have hne:i≠j:=fun e=>by rw[e,hB] at hBi;cases hBi
        cases hoo:ordered (masks ops.toList []) i j with
        |true=>rfl
        |false=>
         have:=(D.pair p1 ho p2 ha hne hoo).2.2.2
         unfold isB at hBi
         rw[xi p2] at hBi hor
         rw[hBi,hk1,hf] at this
         rcases hor with hor|hor
         ·rw[decide_eq_true hor] at this;simp at this
         ·rw[hor] at this;simp at this
       have hjk:j≤k:=by
        rcases w43 k j with h|h
        ·exfalso
         have hkn:k<ops.size:=by omega
         have hBk:isB al k=true:=hk.2.2.elim (fun e=>by omega) id
         have hXk:=(hord k hkn (by omega) (hall k hkn hBk (.inl h))).2 h
         have:=(hk.2.1 k hkn hBk).1 hXk
         omega
        ·exact h
       have keep: ∀d,j+d≤k→ ∀l q st cs,(S j).m.blk l q st=some cs→(S (j+d)).m.blk l q st=some cs:=by
        intro d
        induction d with
        |zero=>exact fun _ _ _ _ _ h=>h
        |succ d ih=>
         intro hd l q st cs h
         have h0:=ih (by omega) l q st cs h
         have hin:j+d<ops.size:=by have:=hk.1;omega
         obtain⟨oi,ai,p1,p2,_⟩:=D.at_ hin
         obtain⟨b1,r1,_,_,hF,hT⟩:=D.step p2
         rw[show j+(d+1)=j+d+1 by omega]
         cases b1 with
         |false=>rw[(hF rfl).2];exact h0
         |true=>
          rcases hT rfl with⟨_,_,e⟩|⟨_,hst,_⟩|⟨_,hns,e1⟩
          ·rw[e];exact h0
          ·exfalso
           have hBi:isB al (j+d)=true:=by unfold isB;rw[xi p2];exact VB hst
           have hne:j+d≠j:=fun e=>by rw[e,hB] at hBi;cases hBi
           have hXi:=(hk.2.1 (j+d) hin hBi).2 (by omega)
           have:=(hord (j+d) hin hne (hall (j+d) hin hBi (.inr (by rw[xi p2];exact hst)))).1 hXi
           omega
          ·obtain⟨k1,k2⟩:=D.lens (j+d) (by omega)
           have hab:=uI D.hA (by rw[k1,k2];omega) (fun h=>by rw[hns] at h;cases h) e1
           refine hab.blk l q st cs ?_ h0
           have:=z0Z h0
           rw[k2];omega
       have hkeep:=keep (k-j) (by omega)
       rw[show j+(k-j)=k by omega] at hkeep
       exact hev0 _ hkeep
    rw[←hcongr] at hev
    refine z5t D.hO hz hop (by omega) hev hmask I fun g' w' v hx hI hr=> ?_
    exact hK g' _ w' hx.toExtW (same g' w' v hx hI hr (.inl hA)) (xy _ _)
end
section
variable {P : Program} {Q : Exit → Act → World → Prop}
structure PermOf (ops ops':Array Oper) (pos:Nat→Nat):Prop where
 size:ops'.size=ops.size
 lt: ∀i,i<ops.size→pos i<ops.size
 out: ∀i,¬i<ops.size→pos i=i
 inj: ∀i j,i<ops.size→j<ops.size→pos i=pos j→i=j
 onto: ∀p,p<ops.size→ ∃i,i<ops.size∧pos i=p
 get: ∀i o,ops[i]? =some o→ops'[pos i]? =some (movedTo pos o)
theorem PermOf.get_none {ops ops':Array Oper} {pos:Nat→Nat} (h:PermOf ops ops' pos) {i:Nat} (hi:ops[i]? =none):ops'[pos i]? =none:=by
 have: ¬i<ops.size:=by simpa using hi
 rw[h.out i this]
 rw[Array.getElem?_eq_none_iff,h.size];omega
theorem PermOf.yielded {ops ops':Array Oper} {pos:Nat→Nat} (h:PermOf ops ops' pos) (tmps:Array Value) (g:Nat):yielded ops' tmps (pos g)=yielded ops tmps g:=by
 unfold Go.yielded
 cases hg:ops[g]? with
 |none=>rw[h.get_none hg]
 |some o=>rw[h.get g o hg];rfl
theorem PermOf.wanted {ops ops':Array Oper} {pos:Nat→Nat} (h:PermOf ops ops' pos) (tmps:Array Value) (o:Oper):Region.wanted (movedTo pos o) (Go.yielded ops' tmps)=Region.wanted o (Go.yielded ops tmps):=by
 unfold Region.wanted movedTo
 cases hg:o.guard with
 |none=>rfl
 |some g=>
  obtain⟨j,w⟩:=g
  simp only[w06,h.yielded]
theorem PermOf.wpOp {F:Fence} {N:Nat} {ops ops':Array Oper} {pos:Nat→Nat} (h:PermOf ops ops' pos) {i:Nat} {K:Act→World→Prop} {a:Act} {w:World} (hh:wpOpIn F N P ops' Q (pos i) K a w):wpOpIn F N P ops Q i K a w:=by
 unfold Go.wpOpIn at hh⊢
 cases hi:ops[i]? with
 |none=>
  rw[h.get_none hi] at hh
  exact hh
 |some o=>
  rw[h.get i o hi] at hh
  simp only at hh⊢
  rw[h.wanted] at hh
  exact hh
theorem jh {ops:Array Oper} {listed:Array Bool} {i:Nat}:i∈Region.ready .any ops listed↔
  i<ops.size∧listed.getD i true=false∧ ∃o,ops[i]? =some o∧ ∀e∈o.after,Region.binds .any e=true→listed.getD e.on false=true:=by
 unfold Region.ready
 rw[List.mem_filter,w4d]
 constructor
 ·rintro⟨h1,h2⟩
  simp only[w09,Bool.not_eq_true'] at h2
  refine⟨h1,h2.1,ops[i],w51 h1,fun e he hb=> ?_⟩
  have h3:=h2.2
  rw[w51 h1,w06,w32,Array.all_eq_true_iff_forall_mem] at h3
  grind
 ·grind
theorem PermOf.ready {ops ops':Array Oper} {pos:Nat→Nat} (h:PermOf ops ops' pos) {listed listed':Array Bool} (hs:listed.size=ops.size) (hs':listed'.size=ops.size) (hl: ∀i,i<ops.size→listed.getD i false=listed'.getD (pos i) false) {i:Nat} (hi:i<ops.size):
  i∈Region.ready .any ops listed→pos i∈Region.ready .any ops' listed':=by
 rw[jh,jh]
 have key: ∀e,listed.getD e false=listed'.getD (pos e) false:=by
  intro e
  by_cases he:e<ops.size
  ·exact hl e he
  ·rw[h.out e he,w38,w38,Array.getElem?_eq_none (by omega),Array.getElem?_eq_none (by omega)]
 rintro⟨h1,h2,o,h3,h4⟩
 refine⟨by rw[h.size];exact h.lt i h1,?_,_,h.get i o h3,fun e he hb=> ?_⟩
 ·have h5:=hl i h1
  have h6:=h.lt i h1
  grind
 ·simp only[movedTo,Array.mem_map] at he
  obtain⟨e0,he0,rfl⟩:=he
  have hb0:Region.binds .any e0=true:=hb
  grind
theorem PermOf.ready_nil {ops ops':Array Oper} {pos:Nat→Nat} (h:PermOf ops ops' pos) {listed listed':Array Bool} (hs:listed.size=ops.size) (hs':listed'.size=ops.size) (hl: ∀i,i<ops.size→listed.getD i false=listed'.getD (pos i) false):
  Region.ready .any ops listed=[]→Region.ready .any ops' listed'=[]:=by
 intro hn
 rw[List.eq_nil_iff_forall_not_mem] at hn⊢
 intro p hp
 rw[jh] at hp
 obtain⟨h1,h2,o',h3,h4⟩:=hp
 rw[h.size] at h1
 obtain⟨i,hi,rfl⟩:=h.onto p h1
 have key: ∀e,listed.getD e false=listed'.getD (pos e) false:=by
  intro e
  by_cases he:e<ops.size
  ·exact hl e he
  ·rw[h.out e he,w38,w38,Array.getElem?_eq_none (by omega),Array.getElem?_eq_none (by omega)]
 refine hn i (jh.2 ⟨hi,?_,ops[i],w51 hi,fun e he hb=> ?_⟩)
 ·grind
 ·rw[h.get i _ (w51 hi)] at h3
  injection h3 with h3
  have:=h4 {e with on:=pos e.on} (by rw[←h3];simp only[movedTo,Array.mem_map];exact⟨e,he,rfl⟩) hb
  grind
theorem PermOf.wpAny {F:Fence} {N:Nat} {ops ops':Array Oper} {pos:Nat→Nat} (h:PermOf ops ops' pos): ∀(fuel:Nat) (listed listed':Array Bool) (a:Act) (w:World),listed.size=ops.size→listed'.size=ops.size→(∀i,i<ops.size→listed.getD i false=listed'.getD (pos i) false)→
  Go.wpAnyIn F N P .any ops' Q fuel listed' a w→Go.wpAnyIn F N P .any ops Q fuel listed a w
 |0,listed,listed',a,w,hs,hs',hl,hh=>by
  refine⟨?_,hh.2⟩
  rw[List.eq_nil_iff_forall_not_mem]
  intro i hi
  have hlt:=(jh.1 hi).1
  have:=h.ready hs hs' hl hlt hi
  rw[hh.1] at this;cases this
 |fuel+1,listed,listed',a,w,hs,hs',hl,hh=>by
  refine⟨fun hn=>hh.1 (h.ready_nil hs hs' hl hn),fun i hi=> ?_⟩
  have hlt:=(jh.1 hi).1
  refine h.wpOp (wpOpIn_mono (fun a' w' hk=> ?_) (hh.2 (pos i) (h.ready hs hs' hl hlt hi)))
  refine h.wpAny fuel _ _ a' w' (by simpa using hs) (by simpa using hs') (fun j hj=> ?_) hk
  rw[w38,w38]
  by_cases hij:i=j
  ·subst hij
   have:=h.lt i hlt
   grind
  ·rw[Array.getElem?_setIfInBounds_ne hij,Array.getElem?_setIfInBounds_ne (fun e=>hij (h.inj i j hlt hj e))]
   simp_all
theorem z4e (ops:Array Oper):(ordOf ops).Perm (List.range ops.size):=List.filter_append_perm _ _
theorem z4c (ops:Array Oper):PermOf ops (permOps ops) (posOf ops):=by
 have hp:=z4e ops
 have hlen:(ordOf ops).length=ops.size:=by rw[hp.length_eq];simp
 have hnd:(ordOf ops).Nodup:=hp.nodup_iff.2 List.nodup_range
 have hmem: ∀i,i∈ordOf ops↔i<ops.size:=fun i=>by rw[hp.mem_iff,w4d]
 have hmap:((ordOf ops).filterMap fun i=>(ops[i]?).map (movedTo (posOf ops)))=(ordOf ops).map fun i=>movedTo (posOf ops) (ops.getD i default):=by
  have: ∀l:List Nat,(∀i∈l,i<ops.size)→(l.filterMap fun i=>(ops[i]?).map (movedTo (posOf ops)))=l.map fun i=>movedTo (posOf ops) (ops.getD i default):=by
   intro l
   induction l with
   |nil=>intro _;rfl
   |cons i r ih=>
    simp_all
  grind
 have hpos: ∀i,i<ops.size→(ordOf ops)[posOf ops i]? =some i:=by
  intro i hi
  have:i∈ordOf ops:=(hmem i).2 hi
  unfold posOf
  grind
 have hlt: ∀i,i<ops.size→posOf ops i<ops.size:=by
  grind
 refine⟨by unfold permOps;rw[hmap];simp[hlen],hlt,fun i hi=>by unfold posOf;rw[if_neg hi],fun i j hi hj e=> ?_,fun p hp'=> ?_,fun i o ho=> ?_⟩
 ·grind
 ·have hp2:p<(ordOf ops).length:=by omega
  refine⟨(ordOf ops)[p],(hmem _).1 (w04 hp2),?_⟩
  have hi:(ordOf ops)[p]<ops.size:=(hmem _).1 (w04 hp2)
  unfold posOf
  grind
 ·have hi:i<ops.size:=(w31.1 ho).1
  unfold permOps
  simp_all
end
section
variable {P : Program} {C : Ctx} {O : Oracle} {ops : Array Oper} {ds : List Nat} {al : List AOper} {m0 : Mem} {S : Nat → St} {W : Nat → Watch} {Q : Exit → Act → World → Prop}
theorem z9Y {rs0:Nat→Bool} {X:Nat→Bool} {g:G} {w:World} {a:Act} (D:Dr P C O ops al m0 S W) (M:Mid ops al S rs0 m0.stk.length X g w a) (hX: ∀i,i<ops.size→X i=true):
  Inv g w (S ops.size).m∧Reps g w (S ops.size).ρ a.tmps.toList∧g.rs=rs0:=by
 have cut: ∀p,Cut ops.size X p ops.size:=fun p i hi _=>⟨fun _=>hi,fun _=>hX i hi⟩
 have nx:Nxt al ops.size X ops.size:=⟨w08 _,cut _,.inl rfl⟩
 refine⟨M.mem _ nx,⟨by simp[M.len,D.reg_len ops.size (w08 _)],fun t c v h1 h2=> ?_⟩,?_⟩
 ·obtain⟨v',h3,h4⟩:=M.reg t ops.size c (w08 _) (cut _) h1
  grind
 ·funext st
  have:=M.rsv _ nx st
  have h2:(∃i,Pend al S X ops.size i∧st=(S i).m.nx)↔False:=by
   refine⟨fun⟨i,⟨h1,_,_,h4⟩,_⟩=> ?_,False.elim⟩
   grind
  grind
theorem z49 (D:Dr P C O ops al m0 S W) (listed:Array Bool) (hsz:listed.size=ops.size): ∀j,j<ops.size→listed.getD j false=false→ ∃i,i∈Region.ready .any ops listed:=by
 intro j
 induction j using Nat.strongRecOn with
 |_ j ih=>
  intro hj hl
  by_cases hall: ∀i,i<j→listed.getD i false=true
  ·refine⟨j,?_⟩
   unfold Region.ready
   rw[List.mem_filter]
   refine⟨w4d.2 hj,?_⟩
   have hoj:ops[j]? =some ops[j]:=w51 hj
   have h1:listed.getD j true=false:=by
    grind
   simp only[h1,Bool.not_false,Bool.true_and,hoj,w06,w32]
   rw[Array.all_eq_true_iff_forall_mem]
   intro e he
   cases hb:Region.binds .any e with
   |false=>rfl
   |true=>simp[hall e.on (D.edge hoj he hb)]
  ·grind
theorem UT {l:List Bool} (h:l.count false=0): ∀i,i<l.length→l.getD i false=true:=by
 grind
theorem z3k {N:Nat} {rr:Option Nat} (D:Dr P C O ops al m0 S W) (g0:G) (w0:World) (hz:C.Z g0 w0) (d0:List Deferred) (hrs0: ∀st,g0.rs st=true→st<(S 0).m.nx) (hQ: ∀g a w,Ext g0 w0 g w→Inv g w (S ops.size).m→Reps g w (S ops.size).ρ a.tmps.toList→a.defers=d0→Q .normal a w):
  ∀(fuel:Nat) (listed:Array Bool) (g:G) (w:World) (a:Act),listed.size=ops.size→listed.toList.count false=fuel→Closed ops (fun i=>listed.getD i false)→ExtW g0 w0 g w→Mid ops al S g0.rs m0.stk.length (fun i=>listed.getD i false) g w a→a.defers=d0→
   wpAnyIn (FW rr) N P .any ops Q fuel listed a w
 |0,listed,g,w,a,hsz,hcnt,hX,hx,M,hd=>by
  have hall: ∀i,i<ops.size→listed.getD i false=true:=by
   intro i hi
   have:=UT hcnt i (by simp;omega)
   simp_all
  obtain⟨h1,h2,h3⟩:=z9Y D M hall
  refine⟨?_,hQ g a w ⟨hx,h3⟩ h1 h2 hd⟩
  unfold Region.ready
  simp_all
 |fuel+1,listed,g,w,a,hsz,hcnt,hX,hx,M,hd=>by
  refine⟨fun hnil=> ?_,fun j hj=> ?_⟩
  ·exfalso
   have: ∃j,j<ops.size∧listed.getD j false=false:=by
    refine Classical.byContradiction fun hne=> ?_
    have:listed.toList.count false=0:=by
     rw[List.count_eq_zero]
     intro hm
     obtain⟨i,hi⟩:=List.getElem?_of_mem hm
     have hlt:i<listed.size:=by simpa using (w13.1 hi).1
     simp_all
    omega
   obtain⟨j,hj,hl⟩:=this
   obtain⟨i,hi⟩:=z49 D listed hsz j hj hl
   grind
  ·unfold Region.ready at hj
   rw[List.mem_filter] at hj
   obtain⟨h1,h2⟩:=hj
   have hjlt:j<ops.size:=w4d.1 h1
   have hoj:ops[j]? =some ops[j]:=w51 hjlt
   simp only[hoj,w06,w32,w09,Bool.not_eq_true'] at h2
   obtain⟨h3,h4⟩:=h2
   have hjl:j<listed.size:=by omega
   have hXj:listed.getD j false=false:=by
    grind
   have hset:(fun i=>(listed.setIfInBounds j true).getD i false)=fun i=>listed.getD i false||i==j:=by
    funext i
    rw[w38,w38]
    grind
   have hX':Closed ops fun i=>listed.getD i false||i==j:=by
    intro k o hk hXk e he hb
    simp only[w2f,beq_iff_eq] at hXk⊢
    left
    rcases hXk with hXk|rfl
    ·exact hX k o hk hXk e he hb
    ·rw[hk] at hoj
     injection hoj with hoj
     subst hoj
     rw[Array.all_eq_true_iff_forall_mem] at h4
     grind
   refine M.next D hrs0 (C.mono hx hz) hoj hXj hX hX' _ fun g' a' w' hx' M' hd'=> ?_
   refine z3k D g0 w0 hz d0 hrs0 hQ fuel (listed.setIfInBounds j true) g' w' a' (by simpa using hsz) ?_ (by rw[hset];exact hX') (hx.trans hx') (by rw[hset];exact M') (hd'.trans hd)
   rw[Array.toList_setIfInBounds]
   have hget:listed.toList[j]'(by simpa using hjl)=false:=by
    simp_all
   grind
theorem z8N {N:Nat} {rr:Option Nat} (hO:OracleOk P C O) (hA:OracleAbove O) (hc:compDraw P ds ops=some al)
  {σ σ':St} (hf:σ.m.floor≤σ.m.stk.length) (he:evDraw O σ.m [] al ⟨σ.ρ,{σ.m with floor:=max σ.m.floor (σ.m.stk.length+1)}⟩=some σ') {g:G} {w:World} {a:Act} (hz:C.Z g w) (hR:Reps g w σ.ρ a.tmps.toList) (I:Inv g w σ.m)
  (hK:Goes g w a σ'.ρ σ'.m (Q .normal)):wpAnyIn (FW rr) N P .any ops Q ops.size (Array.replicate ops.size false) a {w with drawn:=w.drawn+1}:=by
 obtain⟨S,W,h0,_,h1,h2⟩:=Qj he
 obtain⟨hd,hn,hop⟩:=z21 hc
 have D:Dr P C O ops al σ.m S W:=⟨hO,hA,hd,hop,h2,by rw[h0];simp only;rw[Nat.max_eq_right (by omega)],hf⟩
 have hrep:(fun i=>(Array.replicate ops.size false).getD i false)=fun _=>false:=by
  funext i
  rw[w38,Array.getElem?_replicate]
  split<;>rfl
 have hcut0: ∀p k,k≤ops.size→Cut ops.size (fun _=>false) p k→ ∀i,i<k→p i=false:=by
  intro p k hk h i hi
  cases hp:p i with
  |false=>rfl
  |true=>have:=(h i (by omega) hp).2 hi;cases this
 have hnx:(S 0).m.nx=σ.m.nx:=by rw[D.h0]
 obtain⟨k,hk⟩:=D.nxt (X:=fun _=>false) (fun j o _ h=>by cases h)
 have I0:Inv g w.drew (S 0).m:=by rw[D.h0];exact Xk _ I.drew
 obtain⟨g1,e1,e2,e3⟩:=D.reserve 0 k (w0e _) hk.1 (fun i _ hi=>hcut0 _ k hk.1 hk.2.1 i hi) I0
 have hx1:ExtW g w g1 w.drew:=(Ext.drew g w).toExtW.trans e1
 refine z3k D g w hz a.defers (fun st h=>by rw[hnx];exact(I.rsv st h).2) (fun g' a' w' hx hI hR' hd'=> ?_) ops.size _ g1 _ a (by simp) ?_ (by rw[hrep];intro j o _ h;cases h) hx1 ?_ rfl
 ·rw[←hn,h1] at hI hR'
  exact hK g' a' w' hx hI hR' hd'
 ·simp
 ·rw[hrep]
  refine⟨fun q hq=> ?_,fun q hq st=> ?_,fun q hq i hp=> ?_,fun t k x hk hcut hx=> ?_,by rw[h0];simpa using hR.1⟩
  ·rw[hq.uniq hk];exact e2
  ·rw[hq.uniq hk,e3 st]
   constructor
   ·rintro(h|⟨i,_,b1,b2,b3,b4⟩)
    ·exact .inl h
    ·exact .inr ⟨i,⟨b1,b2,b3,rfl⟩,b4⟩
   ·rintro(h|⟨i,⟨b1,b2,b3,_⟩,b4⟩)
    ·exact .inl h
    ·grind
  ·rw[hq.uniq hk] at hp⊢
   obtain⟨b1,b2,b3,_⟩:=hp
   have hg2:=D.grew (i+1) k (by omega) hk.1 (fun q _ a2=>hcut0 _ k hk.1 hk.2.1 q a2)
   exact hg2.blk (D.made_blk (by have:=hk.1;omega) b2 b3)
  ·have:=D.reg_const t 0 k (w0e _) hk (fun i _ hi=>hcut0 _ k hk hcut i hi)
   rw[this,h0] at hx
   obtain⟨v,h3,h4⟩:=hR.get hx
   exact⟨v,by simpa using h3,h4.monoW hx1⟩
theorem zah {N:Nat} {rr:Option Nat} {id:Nat} (hM:P.follows .mixedOrders=true) (hO:OracleOk P C O) (hA:OracleAbove O) (hc:compDraw P ds (permOps ops)=some al)
  {σ σ':St} (hf:σ.m.floor≤σ.m.stk.length) (he:evDraw O σ.m [] al ⟨σ.ρ,{σ.m with floor:=max σ.m.floor (σ.m.stk.length+1)}⟩=some σ') {g:G} {w:World} {a:Act} (hz:C.Z g w) (hR:Reps g w σ.ρ a.tmps.toList) (I:Inv g w σ.m)
  (hK:Goes g w a σ'.ρ σ'.m (Q .normal)):(Code.region id ops true).wpIn (FW rr) N P Q a w:=by
 refine wpIn_region_any hM ?_
 have hp:=z4c ops
 have hfalse: ∀n i,(Array.replicate n false).getD i false=false:=by
  intro n i
  rw[w38,Array.getElem?_replicate]
  split<;>rfl
 have h0:=z8N (N:=N) (rr:=rr) (Q:=Q) hO hA hc hf he hz hR I hK
 rw[hp.size] at h0
 exact hp.wpAny ops.size _ _ a _ (by simp) (by simp) (fun i _=>by rw[hfalse,hfalse]) h0
theorem jf (hA:OracleAbove O) {m1:Mem}: ∀{l:List AOper} {ws:Watch} {σ σ':St},m1.floor≤m1.stk.length→σ.m.stk.length=m1.stk.length→σ.m.floor=m1.stk.length+1→evDraw O m1 ws l σ=some σ'→
  σ'.m.stk.length=m1.stk.length∧(∀l k st cs,l<m1.floor→σ.m.blk l k st=some cs→σ'.m.blk l k st=some cs)∧σ.m.nx≤σ'.m.nx
 | [],ws,σ,σ',_,h1,_,h=>by simp[evDraw] at h;subst h;exact⟨h1,fun _ _ _ _ _ h=>h,w08 _⟩
 |o::r,ws,σ,σ',hf,h1,h2,h=>by
  simp only[evDraw] at h
  split at h
  ·split at h
   ·rename_i q hq
    exact jf hA (σ:=⟨q.ρ,σ.m⟩) hf h1 h2 h
   ·cases h
  ·split at h
   ·split at h
    ·split at h
     ·rename_i q hq
      have k:=je hA (σ:=⟨σ.ρ,{σ.m with floor:=m1.floor}⟩) (by simp only;omega) (fun _=>by simp only;omega) hq
      obtain⟨a1,a2,a3⟩:=jf hA (σ:=⟨q.ρ,{q.m with floor:=σ.m.floor}⟩) hf (by simp only;rw[k.len];exact h1) (by simp only;exact h2) h
      exact⟨a1,fun l i st cs hl hb=>a2 l i st cs hl (k.blk l i st cs hl hb),Nat.le_trans k.nx a3⟩
     ·cases h
    ·cases h
   ·split at h
    ·rename_i q hq
     have k:=je hA (by rw[h1,h2];omega) (fun hh=>by simp_all) hq
     obtain⟨a1,a2,a3⟩:=jf hA (σ:=q) hf (k.len.trans h1) (k.floor.trans h2) h
     exact⟨a1,fun l i st cs hl hb=>a2 l i st cs hl (k.blk l i st cs (by rw[h2];omega) hb),Nat.le_trans k.nx a3⟩
    ·cases h
end
def Out.exit':Out→Exit
 | .normal=> .normal
 | .exit id=> .exit id
 | .ret=> .ret
theorem vn (l l' k:Nat): ∀(xs:List AV) (j:Nat),(shiftAll l l' k xs)[j]? =(xs[j]?).map fun x=>x.shift l l' k
 | [],j=>by simp[shiftAll]
 |x::r,0=>by simp[shiftAll]
 |x::r,j+1=>by simpa [shiftAll] using vn l l' k r j
theorem yY (l l' k:Nat): ∀(xs:List AV),(shiftAll l l' k xs).length=xs.length
 | []=>rfl
 |x::r=>by simp[shiftAll,yY l l' k r]
theorem Rep.shift {g:G} {w:World} {x:AV} {v:Value} (l l' k:Nat) (h:Rep g w x v):Rep g w (x.shift l l' k) v:=by
 induction h with
 |bool b=>exact .bool b
 |int k n=>exact .int k n
 |str s b h=>exact .str s b h
 |nils=>exact .nils
 |list s tk xs b o cap f hs hcap htk hc hr ih=>exact .list s tk xs b o cap f hs hcap htk hc hr
 |empty s tk a cap h=>exact .empty s tk a cap h
 |arr a i st off len b o e' cap hb hcap=>
  simp only[AV.shift]
  split
  ·exact .arr _ _ _ _ _ _ _ _ _ hb hcap
  ·exact .arr _ _ _ _ _ _ _ _ _ hb hcap
 |arr0 a i st off ad cap=>
  simp only[AV.shift]
  split
  ·exact .arr0 _ _ _ _ _ _
  ·exact .arr0 _ _ _ _ _ _
 |grow s a i st len b o e' cap hb hcap he=>
  simp only[AV.shift]
  split
  ·exact .grow _ _ _ _ _ _ _ _ _ hb hcap he
  ·exact .grow _ _ _ _ _ _ _ _ _ hb hcap he
 |ptr a i st off b o e' hb=>
  simp only[AV.shift]
  split
  ·exact .ptr _ _ _ _ _ _ _ hb
  ·exact .ptr _ _ _ _ _ _ _ hb
 |ro cs b o f hc hr ih=>exact .ro cs b o f hc hr
 |nilptr=>exact .nilptr
 |mapR a i st b h=>
  simp only[AV.shift]
  split
  ·exact .mapR _ _ _ _ h
  ·exact .mapR _ _ _ _ h
 |yld a i st b h=>
  simp only[AV.shift]
  split
  ·exact .yld _ _ _ _ h
  ·exact .yld _ _ _ _ h
 |fn f first caps first' caps' h1 h2 h3 h4 ih3 ih4=>
  refine .fn f _ _ _ _ (by rw[yY];exact h1) (by rw[yY];exact h2) (fun j c v a1 a2=> ?_) (fun j c v a1 a2=> ?_)
  ·rw[vn,w00] at a1
   grind
  ·rw[vn,w00] at a1
   grind
 |nilfn=>exact .nilfn
 |agg cs vs hl h ih=>
  refine .agg _ _ (by rw[yY];exact hl) (fun j c v a1 a2=> ?_)
  rw[vn,w00] at a1
  grind
 |tup cs vs hl h ih=>
  refine .tup _ _ (by rw[yY];exact hl) (fun j c v a1 a2=> ?_)
  rw[vn,w00] at a1
  grind
 |undef v=>exact .undef v
theorem Reps.shift {g:G} {w:World} {xs:List AV} {vs:List Value} (l l' k:Nat) (h:Reps g w xs vs):Reps g w (shiftAll l l' k xs) vs:=by
 refine⟨by rw[yY];exact h.1,fun j c v a1 a2=> ?_⟩
 rw[vn,w00] at a1
 obtain⟨y,hy,rfl⟩:=a1
 exact(h.2 j y v hy a2).shift l l' k
theorem Uk (l l' k:Nat) {x:AV} {v:Value} (h:PRep x v):x.shift l l' k=x:=by
 cases h<;>rfl
theorem z4L (l l' k:Nat) {ps:List AV} {es:List MapEntry} (h:EntsOk ps es):shiftAll l l' k ps=ps:=by
 induction h with
 |nil=>rfl
 |cons h1 h2 _ ih=>simp only[shiftAll,AV.shift,Uk l l' k h1,Uk l l' k h2,ih]
theorem z0S (m:Mem):(enter m).all=m.all:=by simp[enter,Mem.all]
theorem z0R {g:G} {w:World} {m:Mem} (I:Inv g w m):Inv g w (enter m):=
 I.sub (fun bl h=>by rw[z0S] at h;exact h) (by rw[z0S];exact I.nd) (w08 _) (by simp[enter])
theorem Un {g:G} {w:World} {m0 m m':Mem} {r r':AV} {v:Value} (I:Inv g w m) (h:leave m0 m r=some (r',m')) (hr:Rep g w r v):Inv g w m'∧Rep g w r' v:=by
 unfold leave at h
 simp only at h
 split at h
 ·cases h
 ·cases h
 ·rename_i c own rest hc hown
  have hstk:m.stk=m.stk.dropLast++[c]:=by
   obtain⟨hne,hl⟩:=List.getLast?_eq_some_iff.1 hc|>fun⟨ys,h⟩=>(⟨by rw[h];simp,⟨ys,h⟩⟩:m.stk≠[]∧ ∃ys,m.stk=ys++[c])
   grind
  have hlive:(pushToks (own.filter fun t=>r.toks.contains t) rest).flatten.Sublist m.live.flatten:=by
   rw[ky,hown]
   simp
  have hall:m.all=m.stk.dropLast.flatten++c++m.cur:=by
   unfold Mem.all
   grind
  split at h
  ·injection h with h
   injection h with h1 h2
   subst h1;subst h2
   refine⟨⟨fun bl hb hrs=> ?_,?_,I.stlt,I.tklt,fun t ht=>I.live t (hlive.subset ht),I.ownb,I.hbase,I.lnd.sublist hlive,I.rsv,I.mpk⟩,hr.shift _ _ _⟩
   ·simp only[Mem.all,w0b,w42] at hb
    rcases hb with hb|hb|⟨b0,hb0,rfl⟩
    ·exact I.blk bl (by rw[hall];simp only[w0b];exact .inl (.inl hb)) hrs
    ·exact I.blk bl (by rw[hall];simp only[w0b];exact .inl (.inr hb)) hrs
    ·rcases I.blk b0 (by rw[hall];simp only[w0b];exact .inr hb0) hrs with⟨b,o,e,k1,k2,k3,vs,k4,k5⟩|⟨b,ps,es,clock,k1,k2,k3,k4,k5⟩|⟨b,r,n,k1,k2,k3,k4,k5⟩
     rotate_left
     ·exact .inr (.inl ⟨b,ps,es,clock,k1,k2,by simp only[k3,shiftAll,AV.shift,z4L _ _ _ k5],k4,k5⟩)
     ·exact .inr (.inr ⟨b,r,n,k1,k2,by simp only[k3,shiftAll,AV.shift],k4,k5⟩)
     exact .inl ⟨b,o,e,k1,by simp only[yY];exact k2,k3,vs,k4.shift _ _ _,k5⟩
   ·have:=I.nd
    rw[hall] at this
    simp only[Mem.all,w2b,List.map_map] at this⊢
    simpa [w1e,Function.comp_def] using this
  ·injection h with h
   injection h with h1 h2
   subst h1;subst h2
   refine⟨I.sub (fun bl hb=> ?_) ?_ (w08 _) hlive,hr⟩
   ·simp only[Mem.all,w0b] at hb
    rw[hall]
    simp only[w0b]
    exact .inl hb
   ·have:=I.nd
    rw[hall] at this
    refine List.Nodup.sublist ?_ this
    simp only[Mem.all]
    exact(List.sublist_append_left _ _).map _
theorem UK {F:Fence} {N:Nat} {P:Program} {c:Code} {Q:Exit→Act→World→Prop} (R:Nat→Act→World→Prop) (round: ∀n a w,R n a w→c.wpIn F N P (Exit.then (fun a' w'=> ∃m,m<n∧R m a' w') Q) a w) {n:Nat} {a:Act} {w:World} (h:R n a w):
  (Code.loop c).wpIn F N P Q a w:=by
 intro b k cs hro hb hr
 have key: ∀n a w,R n a w→ ∃e a' w',Q e a' w'∧ArrivesIn (Machine.fenced P F) P (lone (b.atR a (.code c:: .inLoop c::k)) cs w) b k cs e a' w':=by
  intro n
  induction n using Nat.strongRecOn with
  |_ n ih=>
   intro a w hI
   obtain⟨e,a₁,w₁,hq,harr⟩:=round n a w hI b (.inLoop c::k) cs hro hb hr
   cases e with
   |normal=>
    obtain⟨m,hlt,hI₁⟩:=hq
    obtain⟨e₂,a₂,w₂,hq₂,harr₂⟩:=ih m hlt a₁ w₁ hI₁
    exact⟨e₂,a₂,w₂,hq₂,.of_steps (StepsIn.trans harr (.one (fenced_calm hb hr rfl) stepR_inLoop)) harr₂⟩
   |exit id=>exact⟨_,a₁,w₁,hq,.pass (x:= .inLoop c) rfl (fun _ _=> .inl (by simp)) harr⟩
   |goto l=>exact⟨_,a₁,w₁,hq,.pass (x:= .inLoop c) rfl (fun _ _=> .inl (by simp)) harr⟩
   |ret=>exact⟨_,a₁,w₁,hq,.pass (x:= .inLoop c) rfl (fun _ _=> .inl (by simp)) harr⟩
   |panic ch=>exact⟨_,a₁,w₁,hq,.pass (x:= .inLoop c) rfl (fun _ _=> .inl (by simp)) harr⟩
   |outgrown=>exact⟨_,a₁,w₁,hq,.pass (x:= .inLoop c) rfl (fun _ _=> .inl (by simp)) harr⟩
 obtain⟨e,a',w',hq,harr⟩:=key n a w h
 exact⟨e,a',w',hq,.of_steps (.one (fenced_calm hb hr rfl) stepR_loop) harr⟩
theorem UI (live:List Nat) (nb:Nat) (σ:St) (h:σ.m.floor≤σ.m.stk.length):Above σ.m (heads live nb σ).m:=by
 refine⟨rfl,rfl,fun l k st cs hl hb=>uL hb fun x hx=> ?_,w08 _⟩
 unfold Mem.row heads at*
 grind
theorem TX {f:St→Option (Out×St)} {live:List Nat} {nb:Nat} (hf: ∀σ out σ',σ.m.floor≤σ.m.stk.length→f σ=some (out,σ')→Above σ.m σ'.m):
  ∀(n:Nat) (σ:St) (out:Out) (σ':St),σ.m.floor≤σ.m.stk.length→iter f (heads live nb) n σ=some (out,σ')→Above σ.m σ'.m
 |0,σ,out,σ',_,h=>by simp[iter] at h
 |n+1,σ,out,σ',hl,h=>by
  simp only[iter] at h
  have k0:=UI live nb σ hl
  split at h
  ·rename_i σ1 h1
   have k1:=hf _ _ _ (by rw[k0.len,k0.floor];exact hl) h1
   have k01:=k0.trans k1
   exact k01.trans (TX hf n σ1 out σ' (by rw[k01.len,k01.floor];exact hl) h)
  ·exact k0.trans (hf _ _ _ (by rw[k0.len,k0.floor];exact hl) h)
theorem z2A {O:Ora} {n:Nat} {x:Option ACode} {σ:St} {r:Out×St} (h:ev O n (orBad x) σ=some r): ∃c,x=some c∧ev O n c σ=some r:=by
 cases x with
 |none=>simp[orBad,ev] at h
 |some c=>exact⟨c,rfl,h⟩
theorem UE (m:Mem) (hf:m.floor≤m.stk.length+1): ∀l k st cs,l<m.floor→m.blk l k st=some cs→(enter m).blk l k st=some cs:=by
 intro l k st cs hl hb
 refine uL hb fun x hx=> ?_
 unfold Mem.row enter at*
 grind
theorem Uo {m0 m m':Mem} {r r':AV} (hlen:m.stk.length=m0.stk.length+1) (hf:m0.floor≤m0.stk.length+1) (hk: ∀l k st cs,l<m0.floor→m0.blk l k st=some cs→m.blk l k st=some cs) (hnx:m0.nx≤m.nx) (h:leave m0 m r=some (r',m')):Above m0 m':=by
 unfold leave at h
 simp only at h
 split at h
 ·cases h
 ·cases h
 ·rename_i c own rest hc hown
  have hlast:m.stk[m0.stk.length]? =some c:=by
   grind
  have key: ∀(extra:List Blk) (nx:Nat) (live:List (List Nat)),m0.nx≤nx→Above m0 {stk:=m.stk.dropLast,cur:=c++extra,nx:=nx,live:=live,floor:=m0.floor}:=by
   intro extra nx live hn
   refine⟨by simp[hlen],rfl,fun l k st cs hl hb=>uL (hk l k st cs hl hb) fun x hx=> ?_,hn⟩
   unfold Mem.row at hx⊢
   grind
  split at h
  ·grind
  ·injection h with h
   injection h with _ h2
   subst h2
   have:=key [] m.nx (pushToks (own.filter fun t=>r.toks.contains t) rest) hnx
   grind
theorem z1R {m0 m m':Mem} {r r':AV} (hlen:m.stk.length=m0.stk.length+1) (hf:m0.floor≤m0.stk.length+1) (hk: ∀l k st cs,l<m0.floor→m0.blk l k st=some cs→m.blk l k st=some cs) (hnx:m0.nx≤m.nx) (h:leaveY m0 m r=some (r',m')):Above m0 m':=by
 unfold leaveY at h
 split at h
 ·cases h
 ·rename_i own rest _
  exact Uo (m:={m with live:=[]::pushToks own rest}) hlen hf hk hnx h
theorem z1Q {g:G} {w:World} {m0 m m':Mem} {r r':AV} {v:Value} (I:Inv g w m) (h:leaveY m0 m r=some (r',m')) (hr:Rep g w r v):Inv g w m'∧Rep g w r' v:=by
 unfold leaveY at h
 split at h
 ·cases h
 ·rename_i own rest hl
  have e:([]::pushToks own rest:List (List Nat)).flatten=m.live.flatten:=by rw[hl];simp[ky]
  exact Un (m:={m with live:=[]::pushToks own rest}) ⟨I.blk,I.nd,I.stlt,I.tklt,fun t ht=>I.live t (e▸ht),I.ownb,I.hbase,e▸I.lnd,I.rsv,I.mpk⟩ h hr
def YAbove (Y:YH):Prop:= ∀args m r m',Y args m=some (r,m')→m.floor≤m.stk.length+1→Above m m'
def OraAbove (O:Ora):Prop:=OracleAbove O.call∧ ∀Y,YAbove Y→OracleAbove (O.iter Y)
theorem WL {RA RB:St→Option (Out×St)} (hA: ∀σ out σ',σ.m.floor≤σ.m.stk.length→RA σ=some (out,σ')→Above σ.m σ'.m) (hB: ∀σ out σ',σ.m.floor≤σ.m.stk.length→RB σ=some (out,σ')→Above σ.m σ'.m)
  {ps:List Nat} {ρ:List AV} {l k st:Nat} {aS:List AV} {m m':Mem} {r:AV} (h:roundV RA RB ps ρ l k st aS m=some (r,m')) (hf:m.floor≤m.stk.length+1):Above m m':=by
 unfold roundV at h
 split at h
 ·rename_i hc
  obtain⟨_,_,hfl,_⟩:=hc
  split at h
  ·rename_i σ1 h1
   have k1:=hA _ _ _ (by simp only[enter];simp;exact hf) h1
   split at h
   ·split at h
    ·rename_i out σ2 h2
     have k2:=vS σ1.m l k st [.int .i64 (.ofNat 1)] (by rw[k1.floor];exact hfl)
     have k3:=hB _ _ _ (by simp only;rw[k2.len,k2.floor,k1.len,k1.floor];simp only[enter];simp;exact hf) h2
     split at h
     ·split at h
      ·rename_i n _
       have k4:=vS σ2.m l k st [.int .i64 (.ofNat n)] (by rw[k3.floor,k2.floor,k1.floor];exact hfl)
       have kk:=((k1.trans k2).trans k3).trans k4
       have hl:=kk.len
       simp only[enter,w15,w59,w46,w1f] at hl
       exact z1R hl hf (fun l i st cs hl hb=>kk.blk l i st cs hl (UE m hf l i st cs hl hb)) kk.nx h
      ·cases h
     ·cases h
    ·cases h
   ·cases h
  ·cases h
 ·cases h
theorem z08 {I:YH→Oracle} (hI: ∀Y,YAbove Y→OracleAbove (I Y)) {RA RB:St→Option (Out×St)} (hA: ∀σ out σ',σ.m.floor≤σ.m.stk.length→RA σ=some (out,σ')→Above σ.m σ'.m) (hB: ∀σ out σ',σ.m.floor≤σ.m.stk.length→RB σ=some (out,σ')→Above σ.m σ'.m)
  {f:AV} {ps:List Nat} {σ σ':St} {out:Out} (h:rangeEv I RA RB f ps σ=some (out,σ')) (hf:σ.m.floor≤σ.m.stk.length):Above σ.m σ'.m:=by
 unfold rangeEv at h
 split at h
 ·split at h
  ·rename_i m2 h1
   have k0:=js σ.m [⟨σ.m.nx,[.int .i64 (.ofNat 0)]⟩] (σ.m.nx+1) σ.m.live
   have k1:=hI _ (fun args m r m' hy hf=>by
    unfold yieldV at hy
    split at hy
    ·split at hy
     ·exact WL hA hB hy hf
     ·cases hy
    ·cases hy) _ _ _ _ _ h1 (by simp only;omega)
   split at h
   ·simp only[w00,Prod.mk.injEq] at h
    obtain⟨o,_,_,rfl⟩:=h
    have k01:=k0.trans k1
    exact k01.trans (vS _ _ _ _ _ (by rw[k01.floor];exact hf))
   ·cases h
  ·cases h
 ·cases h
theorem Wd {f:Mem→AV→Option (AV×Mem)} (hf: ∀{m x x' m'},f m x=some (x',m')→Above m m'): ∀{cs cs':List AV} {m m':Mem},frzL f m cs=some (cs',m')→Above m m'
 | [],cs',m,m',h=>by
  simp only[frzL,Option.some.injEq,Prod.mk.injEq] at h
  rw[←h.2];exact Above.refl _
 |c::r,cs',m,m',h=>by
  simp only[frzL,w05,w00] at h
  obtain⟨⟨c',m1⟩,h1,⟨r',m2⟩,h2,h3⟩:=h
  simp only[Prod.mk.injEq] at h3
  obtain⟨_,rfl⟩:=h3
  exact(hf h1).trans (Wd hf h2)
theorem Q7: ∀(n:Nat) {m:Mem} {x x':AV} {m':Mem},frzV n m x=some (x',m')→Above m m':=by
 intro n
 induction n with
 |zero=>
  intro m x x' m' h
  unfold frzV at h
  split at h
  ·cases h
  ·omega
  ·injection h with h;injection h with h1 h2;subst h2;exact Above.refl _
 |succ n ih=>
  intro m x x' m' h
  unfold frzV at h
  split at h
  ·cases h
  ·rename_i n' s l k st len hn
   injection hn with hn;subst hn
   split at h
   ·split at h
    ·rename_i hc
     simp only[w05] at h
     obtain⟨⟨cs',m1⟩,h1,h⟩:=h
     simp only at h
     split at h
     ·injection h with h;injection h with e1 e2
      subst e2
      have kk:=Wd ih h1
      exact kk.trans (QB m1 l k m1.nx [] _ (by rw[kk.floor];exact hc.1))
     ·cases h
    ·cases h
   ·cases h
  ·injection h with h;injection h with h1 h2;subst h2;exact Above.refl _
theorem ZC: ∀(ts:List Nat) {σ σ':St},frzT ts σ=some σ'→Above σ.m σ'.m
 | [],σ,σ',h=>by
  simp only[frzT,Option.some.injEq] at h
  rw[h];exact Above.refl _
 |t::r,σ,σ',h=>by
  simp only[frzT] at h
  split at h
  ·split at h
   ·split at h
    ·rename_i hl
     simp only[w05] at h
     obtain⟨⟨cs',m1⟩,h1,h⟩:=h
     simp only at h
     split at h
     ·have k:=Wd (Q7 3) h1
      exact(k.trans (vS _ _ _ _ _ (by rw[k.floor];exact hl))).trans (ZC r h)
     ·cases h
    ·cases h
   ·cases h
  ·simp only[w05] at h
   obtain⟨⟨v',m1⟩,h1,h⟩:=h
   exact(Q7 3 h1).trans (ZC r h)
theorem z6n {O:Ora} {n:Nat} {ts:List Nat} {l:List AOper} {σ:St} {r:Out×St} (h:ev O n (regOps ts l) σ=some r): ∃σ0,frzT ts σ=some σ0∧ev O n (.ops l) σ0=some r:=by
 cases ts with
 |nil=>exact⟨σ,rfl,h⟩
 |cons t ts=>
  simp only[regOps,ev] at h
  cases hq:frzT (t::ts) σ with
  |none=>rw[hq] at h;simp at h
  |some σ0=>
   rw[hq] at h
   exact⟨σ0,rfl,by simpa [ev] using h⟩
theorem YK {O:Ora} (hA:OraAbove O) {n:Nat}: ∀(c:ACode) (σ:St) (out:Out) (σ':St),σ.m.floor≤σ.m.stk.length→ev O n c σ=some (out,σ')→Above σ.m σ'.m:=by
 intro c
 induction c with
 |bad=>intro σ out σ' _ h;simp[ev] at h
 |const v=>
  intro σ out σ' _ h
  simp only[ev] at h
  split at h
  ·injection h with h;injection h with _ h;rw[←h];exact Above.refl _
  ·cases h
 |skip=>intro σ out σ' _ h;simp[ev] at h;rw[←h.2];exact Above.refl _
 |ret=>intro σ out σ' _ h;simp[ev] at h;rw[←h.2];exact Above.refl _
 |exit id=>intro σ out σ' _ h;simp[ev] at h;rw[←h.2];exact Above.refl _
 |ops l=>
  intro σ out σ' hf h
  simp only[ev,w00,Prod.mk.injEq] at h
  obtain⟨σ1,h1,_,rfl⟩:=h
  exact UB hA.1 hf h1
 |draw l=>
  intro σ out σ' hf h
  simp only[ev,w00,Prod.mk.injEq] at h
  obtain⟨σ1,h1,_,rfl⟩:=h
  obtain⟨a1,a2,a3⟩:=jf hA.1 (σ:=⟨σ.ρ,{σ.m with floor:=max σ.m.floor (σ.m.stk.length+1)}⟩) hf rfl (by simp only;rw[Nat.max_eq_right (by omega)]) h1
  exact⟨a1,rfl,a2,a3⟩
 |seq a b iha ihb=>
  intro σ out σ' hf h
  simp only[ev] at h
  split at h
  ·rename_i σ1 h1
   have k:=iha σ _ σ1 hf h1
   exact k.trans (ihb σ1 out σ' (by rw[k.len,k.floor];exact hf) h)
  ·exact iha σ out σ' hf h
 |cond c a b iha ihb=>
  intro σ out σ' hf h
  simp only[ev] at h
  grind
 |block id a iha=>
  intro σ out σ' hf h
  simp only[ev] at h
  split at h
  ·grind
  ·exact iha σ out σ' hf h
 |loop live a iha=>
  intro σ out σ' hf h
  exact TX (fun σ out σ' hl h=>iha σ out σ' hl h) n σ out σ' hf h
 |frz ts=>
  intro σ out σ' _ h
  simp only[ev,w00,Prod.mk.injEq] at h
  obtain⟨σ1,h1,_,rfl⟩:=h
  exact ZC ts h1
 |rangeF f ps a b iha ihb=>
  intro σ out σ' hf h
  exact z08 hA.2 iha ihb h hf
section
variable {P : Program} {O : Ora}
theorem Q0 {g:G} {w:World} {live:List Nat} {ρ:List AV} {vs:List Value} (h:Reps g w ρ vs):Reps g w (clean live ρ) vs:=by
 refine⟨by simp[clean,h.1],fun j c v h1 h2=> ?_⟩
 unfold clean at h1
 rw[w22,List.getElem?_zipIdx] at h1
 cases hq:ρ[j]? with
 |none=>rw[hq] at h1;simp at h1
 |some x=>
  rw[hq] at h1
  simp only[w06,w1f,Option.some.injEq] at h1
  split at h1
  ·subst h1;exact h.2 j x v hq h2
  ·subst h1;exact .undef v
theorem z5U (live:List Nat) (nb:Nat) (cur:List Blk):(cut live nb cur).Sublist cur:=by
 unfold cut
 grind
theorem z0H {g:G} {w:World} {live:List Nat} {nb:Nat} {σ:St} (I:Inv g w σ.m):Inv g w (heads live nb σ).m:=by
 refine I.sub (fun bl hb=> ?_) ?_ (w08 _) (List.Sublist.refl _)
 ·simp only[heads,Mem.all,w0b] at hb⊢
  rcases hb with hb|hb
  ·exact .inl hb
  ·exact .inr ((z5U _ _ _).subset hb)
 ·refine List.Nodup.sublist ?_ I.nd
  simp only[heads,Mem.all]
  exact((List.Sublist.refl _).append (z5U _ _ _)).map _
def markD (D:Nat):Deferred:={target:= .collected D,args:= #[]}
def Marks (w:World) (ds:List Deferred) (w':World):Prop:= ∃Ds:List Nat,ds=Ds.map markD∧Ds.Nodup∧ ∀D∈Ds,w.heap.size≤D∧w'.heap[D]? =some (.deferred (some []))
theorem Marks.nil (w w':World):Marks w [] w':=⟨[],rfl,List.nodup_nil,fun D h=>by cases h⟩
theorem ExtW.size {g g':G} {w w':World} (h:ExtW g w g' w'):w.heap.size≤w'.heap.size:=h.below.size
theorem Marks.trans {g1 g2:G} {w w1 w2:World} {d1 d2:List Deferred} (h1:Marks w d1 w1) (hx:ExtW g1 w1 g2 w2) (hs:w.heap.size≤w1.heap.size) (h2:Marks w1 d2 w2):Marks w (d2++d1) w2:=by
 obtain⟨D1,rfl,n1,a1⟩:=h1
 obtain⟨D2,rfl,n2,a2⟩:=h2
 refine⟨D2++D1,by simp,w4f.2 ⟨n2,n1,fun x hx2 y hy e=> ?_⟩,fun D hD=> ?_⟩
 ·grind
 ·rcases w0b.1 hD with h|h
  ·grind
  ·exact⟨(a1 D h).1,hx.oth _ _ (a1 D h).2⟩
def GoesD (g:G) (w:World) (a:Act) (ρ:List AV) (m:Mem) (K:Act→World→Prop):Prop:=
 ∀g' a' w' ds,Ext g w g' w'→Inv g' w' m→Reps g' w' ρ a'.tmps.toList→a'.defers=ds++a.defers→Marks w ds w'→K a' w'
theorem GoesD.goes {g:G} {w:World} {a:Act} {ρ:List AV} {m:Mem} {K:Act→World→Prop} (h:GoesD g w a ρ m K):Goes g w a ρ m K:=
 fun g' a' w' h1 h2 h3 h4=>h g' a' w' [] h1 h2 h3 h4 (Marks.nil _ _)
theorem GoesD.step {g g1:G} {w w1:World} {a a1:Act} {ρ:List AV} {m:Mem} {K:Act→World→Prop} (h:GoesD g w a ρ m K) (hx:Ext g w g1 w1) {d:List Deferred} (hd:a1.defers=d++a.defers) (hm:Marks w d w1):GoesD g1 w1 a1 ρ m K:=
 fun g' a' w' ds h1 h2 h3 h4 h5=>h g' a' w' (ds++d) (hx.trans h1) h2 h3 (by rw[h4,hd,w1e]) (hm.trans h1.toExtW hx.toExtW.size h5)
theorem Ug {g:G} {w:World}: ∀(ps:List Nat) (aS:List AV) (vs:List Value) (ρ:List AV) (tm:Array Value),Reps g w ρ tm.toList→Reps g w aS vs→
  Reps g w (setAll ρ ps aS) ((ps.zip vs).foldl (fun tmps (t,a)=>tmps.setIfInBounds t a) tm).toList
 | [],aS,vs,ρ,tm,h,_=>by simp[setAll];exact h
 |p::ps,[],vs,ρ,tm,h,ha=>by
  have:vs=[]:=w2a ha.1
  subst this;simp[setAll];exact h
 |p::ps,x::aS,vs,ρ,tm,h,ha=>by
  obtain⟨v,r,rfl,h1,h2⟩:=ha.head
  simp only[setAll,List.zip_cons_cons,List.foldl_cons]
  refine Ug ps aS r _ _ ?_ h2
  rw[Array.toList_setIfInBounds]
  exact h.set h1 p
theorem Zx {m:Mem} {l k st n:Nat} (h:loopSt m l k st=some n):m.blk l k st=some [.int .i64 (.ofNat n)]:=by
 unfold loopSt at h
 split at h
 ·grind
 ·cases h
theorem TV {g:G} {w:World} {m:Mem} (I:Inv g w m) {l k st n L:Nat} (h:loopSt m l k st=some n) (hm:g.mp st=some L): ∃r,w.heap[L]? =some (.loop r)∧LoopSt n r:=by
 have hb:=Zx h
 obtain⟨b,r,n',h1,h2,h3,h4,h5⟩:=I.loop (y9 hb) hm rfl
 grind
def OraOk (P:Program) (O:Ora):Prop:= ∀C Y,(∀args m r m',Y args m=some (r,m')→m.floor≤m.stk.length+1→YieldOk P C args m r m')→YAbove Y→
 ∀f args m r m',O.iter Y (some f) args m=some (r,m')→m.floor≤m.stk.length+1→CallOk P C f args m r m'
def loopCtx (C:Ctx) (st L:Nat) (ρ:List AV) (r0:Loop):Ctx where
 Z g w:=C.Z g w∧g.mp st=some L∧Reps g w ρ r0.tmps.toList∧ ∃s p,w.heap[L]? =some (.loop {r0 with state:=s,pending:=p})
 mono:=fun{g w g' w'} hx ⟨h1,h2,h3,s,p,h4⟩=>⟨C.mono hx h1,hx.mp _ _ h2,h3.monoW hx,by
  obtain⟨s',p',h5⟩:=hx.oth _ _ h4
  exact⟨s',p',h5⟩⟩
theorem z16 {RA RB:St→Option (Out×St)} (hA: ∀σ out σ',σ.m.floor≤σ.m.stk.length→RA σ=some (out,σ')→Above σ.m σ'.m) (hB: ∀σ out σ',σ.m.floor≤σ.m.stk.length→RB σ=some (out,σ')→Above σ.m σ'.m)
  {ps:List Nat} {ρ:List AV} {l k st:Nat}:YAbove (yieldV RA RB ps ρ l k st):=by
 intro args m r m' hy hf
 unfold yieldV at hy
 split at hy
 ·split at hy
  ·exact WL hA hB hy hf
  ·cases hy
 ·cases hy
theorem z6m {C:Ctx} {x y:Code} {RA RB:St→Option (Out×St)} {L:Nat} (hA0: ∀σ out σ',σ.m.floor≤σ.m.stk.length→RA σ=some (out,σ')→Above σ.m σ'.m)
  (hA: ∀{σ:St} {out:Out} {σ':St} {g:G} {w:World} {a:Act} {Q:Exit→Act→World→Prop},C.Z g w→RA σ=some (out,σ')→σ.m.floor≤σ.m.stk.length→Reps g w σ.ρ a.tmps.toList→Inv g w σ.m→GoesD g w a σ'.ρ σ'.m (Q out.exit')→x.wpIn (FW (some L)) 0 P Q a w)
  (hB: ∀{σ:St} {out:Out} {σ':St} {g:G} {w:World} {a:Act} {Q:Exit→Act→World→Prop},C.Z g w→RB σ=some (out,σ')→σ.m.floor≤σ.m.stk.length→Reps g w σ.ρ a.tmps.toList→Inv g w σ.m→GoesD g w a σ'.ρ σ'.m (Q out.exit')→y.wpIn (FW (some L)) 0 P Q a w)
  {ρ:List AV} {l k st:Nat} {r0:Loop} (hr1:r0.assign=x) (hr2:r0.body=y) {args:List AV} {m m':Mem} {r:AV} (h:yieldV RA RB r0.params.toList ρ l k st args m=some (r,m')) (hf:m.floor≤m.stk.length+1):YieldOk P (loopCtx C st L ρ r0) args m r m':=by
 intro yv aS hargs g w v vs hZ I hv hvs
 subst hargs
 unfold yieldV at h
 split at h
 rotate_left
 ·cases h
 rename_i l' k' st' as' heq
 injection heq with e1 e2
 subst e1;subst e2
 split at h
 rotate_left
 ·cases h
 rename_i hc
 obtain⟨q1,q2,q3⟩:=hc
 replace q1:=q1.symm;replace q2:=q2.symm;replace q3:=q3.symm
 subst q1;subst q2;subst q3
 obtain⟨hz,hmp,hρ,s,p,hL⟩:=hZ
 have hvL:v= .func (.yield L) #[] #[]:=by
  cases hv with
  |yld _ _ _ b hb=>rw[hmp] at hb;injection hb with hb;subst hb;rfl
 unfold roundV at h
 split at h
 rotate_left
 ·cases h
 rename_i hcond
 obtain⟨hst0,hlen,hfl,hl⟩:=hcond
 obtain⟨r1,hr1',hs1⟩:=TV I hst0 hmp
 rw[hL] at hr1'
 injection hr1' with hr1';injection hr1' with hr1';subst hr1'
 split at h
 rotate_left
 ·cases h
 rename_i σ1 hRA
 split at h
 rotate_left
 ·cases h
 rename_i hst1
 split at h
 rotate_left
 ·cases h
 rename_i out σ2 hRB
 split at h
 rotate_left
 ·cases h
 rename_i hst2
 split at h
 rotate_left
 ·cases h
 rename_i n hn
 have hvsl:vs.toArray.size=r0.params.size:=by
  have:=hvs.1;simp only[List.size_toArray];rw[this,hlen];simp
 refine⟨L,_,_,_,_,hvL,run_yield hL hvsl,?_⟩
 have hzip:(r0.params.zip vs.toArray).foldl (fun tmps (t,a)=>tmps.setIfInBounds t a) r0.tmps=(r0.params.toList.zip vs).foldl (fun tmps (t,a)=>tmps.setIfInBounds t a) r0.tmps:=by
  rw[←Array.foldl_toList];simp
 have hreps:=Ug r0.params.toList aS vs ρ r0.tmps hρ hvs
 rw[←hzip] at hreps
 have hflE:(enter m).floor≤(enter m).stk.length:=by simp only[enter];simp;exact hf
 have k1:=hA0 _ _ _ hflE hRA
 refine roundIn_of_wpIn (F:=Fence.wide) trivial ?_
 simp only[hr1,hr2]
 refine hA (σ:=⟨setAll ρ r0.params.toList aS,enter m⟩) hz hRA hflE hreps (z0R I) fun g1 a1 w1 ds1 hx1 I1 hR1 _ _=> ?_
 obtain⟨s1,p1,hL1⟩:=hx1.toExtW.oth _ _ hL
 have hmp1:=hx1.mp _ _ hmp
 obtain⟨r1,hr1',hs1'⟩:=TV I1 hst1 hmp1
 rw[hL1] at hr1'
 injection hr1' with hr1';injection hr1' with hr1';subst hr1'
 have hready:s1= .ready:=by
  rcases hs1' with⟨_,h,_⟩|⟨h,_⟩|⟨h,_⟩|⟨_,h,_⟩
  ·exact h
  ·cases h
  ·cases h
  ·omega
 refine⟨_,run_beginRound hL1 hready,?_⟩
 obtain⟨e2,I2⟩:=I1.put_loop (n':=1) (s':= .busy) (p':=p1) (Zx hst1) hmp1 hL1 (.inr (.inl ⟨rfl,.inl rfl⟩))
 refine hB (σ:=⟨σ1.ρ,σ1.m.put l k st [.int .i64 (.ofNat 1)]⟩) (C.mono e2.toExtW (C.mono hx1.toExtW hz)) hRB ?_ (hR1.mono e2) I2 fun g3 a3 w3 ds3 hx3 I3 hR3 _ _=> ?_
 ·have k2:=vS σ1.m l k st [.int .i64 (.ofNat 1)] (by rw[k1.floor];exact hfl)
  simp only
  rw[k2.len,k2.floor,k1.len,k1.floor];exact hflE
 have hL2:(setMap w1 L (.loop {r0 with state:= .busy,pending:=p1})).heap[L]? =some (.loop {r0 with state:= .busy,pending:=p1}):=by
  have:L<w1.heap.size:=(w31.1 hL1).1
  simp[setMap,this]
 obtain⟨s3,p3,hL3⟩:=hx3.toExtW.oth _ _ hL2
 have hmp3:=hx3.mp _ _ (e2.mp _ _ hmp1)
 have fin: ∀(jump:Option Code),LoopSt n {r0 with state:=(if jump.isNone then .ready else .done),pending:=jump}→(n==0)=jump.isNone→
   ∃v w',(Instr.endRound L jump).run P w3= .ok v w'∧ ∃v' g',Ending.returned v= .returned v'∧Ext g w g' w'∧Inv g' w' m'∧Rep g' w' r v':=by
  intro jump hst hj
  obtain⟨e4,I4⟩:=I3.put_loop (n':=n) (s':=if jump.isNone then .ready else .done) (p':=jump) (Zx hst2) hmp3 hL3 hst
  obtain⟨I5,hr5⟩:=z1Q I4 h (.bool (n==0))
  refine⟨_,_,run_endRound jump hL3,_,g3,rfl,((hx1.trans e2).trans hx3).trans e4,I5,?_⟩
  rw[hj] at hr5;exact hr5
 cases out with
 |normal=>
  injection hn with hn;subst hn
  exact fin none (.inl ⟨rfl,rfl,rfl⟩) rfl
 |ret=>
  injection hn with hn;subst hn
  exact fin (some .ret) (.inr (.inr (.inl ⟨rfl,rfl,rfl⟩))) rfl
 |exit id=>
  injection hn with hn;subst hn
  exact fin (some (.exit id)) (.inr (.inr (.inr ⟨id,rfl,rfl,rfl⟩))) (by simp)
theorem z4a {C:Ctx} {x y:Code} {RA RB:St→Option (Out×St)} (hO:OraOk P O) (hA0: ∀σ out σ',σ.m.floor≤σ.m.stk.length→RA σ=some (out,σ')→Above σ.m σ'.m) (hB0: ∀σ out σ',σ.m.floor≤σ.m.stk.length→RB σ=some (out,σ')→Above σ.m σ'.m)
  (hA: ∀(L:Nat) {σ:St} {out:Out} {σ':St} {g:G} {w:World} {a:Act} {Q:Exit→Act→World→Prop},C.Z g w→RA σ=some (out,σ')→σ.m.floor≤σ.m.stk.length→Reps g w σ.ρ a.tmps.toList→Inv g w σ.m→GoesD g w a σ'.ρ σ'.m (Q out.exit')→x.wpIn (FW (some L)) 0 P Q a w)
  (hB: ∀(L:Nat) {σ:St} {out:Out} {σ':St} {g:G} {w:World} {a:Act} {Q:Exit→Act→World→Prop},C.Z g w→RB σ=some (out,σ')→σ.m.floor≤σ.m.stk.length→Reps g w σ.ρ a.tmps.toList→Inv g w σ.m→GoesD g w a σ'.ρ σ'.m (Q out.exit')→y.wpIn (FW (some L)) 0 P Q a w)
  {f:Operand} {d:Opd} (hd:compOpd f=some d) {ps:Array Tmp} {N:Nat} {σ σ':St} {out:Out} {g:G} {w:World} {a:Act} {Q:Exit→Act→World→Prop} (hz:C.Z g w) (h:rangeEv O.iter RA RB (d.ev σ.ρ) ps.toList σ=some (out,σ'))
  (hf:σ.m.floor≤σ.m.stk.length) (hR:Reps g w σ.ρ a.tmps.toList) (I:Inv g w σ.m) (hK:GoesD g w a σ'.ρ σ'.m (Q out.exit')):(Code.rangeFunc f ps x y).wpIn (FW none) N P Q a w:=by
 unfold rangeEv at h
 split at h
 rotate_left
 ·cases h
 rename_i gi caps hfe
 split at h
 rotate_left
 ·cases h
 rename_i v2 m2 hcall
 split at h
 rotate_left
 ·cases h
 rename_i n hn
 simp only[w00,Prod.mk.injEq] at h
 obtain⟨o,hjump,rfl,rfl⟩:=h
 obtain⟨f1,c1,hv,k1,k2⟩:=z0T hR hd hfe
 have hf1:f1=[]:=w2a k1.1
 subst hf1
 refine wpIn_rangeFunc fun fn _=> ?_
 have hI1:=(I.alloc_sealed (.deferred (some []))).2
 have hx0:=(I.alloc_sealed (.deferred (some []))).1
 let r0:Loop:={state:= .ready,pending:=none,fn,tmps:=a.tmps,params:=ps,assign:=x,body:=y,defers:=w.heap.size}
 obtain⟨g1,hx1,I1,hmp1⟩:=hI1.alloc_loop r0 (.inl ⟨rfl,rfl,rfl⟩)
 have hsz:(w.alloc (.deferred (some []))).heap.size=w.heap.size+1:=by simp
 rw[hsz] at hmp1
 have hx01:=hx0.trans hx1
 have hL1:((w.alloc (.deferred (some []))).alloc (.loop r0)).heap[w.heap.size+1]? =some (.loop r0):=by
  have:=jD (w.alloc (.deferred (some []))) (.loop r0);rwa [hsz] at this
 have hD0:(w.alloc (.deferred (some []))).heap[w.heap.size]? =some (.deferred (some [])):=jD w _
 have hC:=hO (loopCtx C σ.m.nx (w.heap.size+1) σ.ρ r0) _ (fun args m r m' hy hfl=>z6m (P:=P) (C:=C) (r0:=r0) (L:=w.heap.size+1) (x:=x) (y:=y) hA0 (hA _) (hB _) rfl rfl hy hfl) (z16 hA0 hB0) gi _ _ _ _ hcall (by simp only;omega)
 obtain⟨⟨fn',hfn,hname,hbody⟩,hcalls⟩:=hC
 have hargs:Reps g1 ((w.alloc (.deferred (some []))).alloc (.loop r0)) (.yld σ.m.stk.length σ.m.cur.length σ.m.nx::caps) (.func (.yield (w.heap.size+1)) #[] #[]::c1):=
  Reps.cons (.yld _ _ _ _ hmp1) (k2.mono hx01)
 have hcall1:=hcalls g1 _ _ ⟨C.mono hx01.toExtW hz,hmp1,hR.mono hx01,.ready,none,hL1⟩ I1 hargs
 refine⟨w.heap.size+1,[markD w.heap.size],_,{target:= .fn (.func gi) c1.toArray,args:= #[.func (.yield (w.heap.size+1)) #[] #[]]},(w.alloc (.deferred (some []))).alloc (.loop r0),gi,(.func (.yield (w.heap.size+1)) #[] #[]::c1).toArray,_,run_enterLoop_outer _ _ _ _ _,?_,fun _ _=>trivial,?_,fun h=>by simp[FW,Fence.wide] at h,(Qp hcall1).mono ?_⟩
 ·simp only[resolve,rangeCall,hv]
  simp[Deferred.ofValue,Act.eval]
  try rfl
 ·have harr: #[Value.func (Fn.yield (w.heap.size+1)) #[] #[]]++c1.toArray=(Value.func (Fn.yield (w.heap.size+1)) #[] #[]::c1).toArray:=by simp
  simp only[invoke,callFunc,Sem.run_bind,Result.andThen_ok,run_program,hfn,hname,hbody,w25,if_false,harr]
  rfl
 rintro e w3 ⟨v,g3,rfl,hx3,I3,_⟩
 have hmp3:=hx3.mp _ _ hmp1
 obtain⟨r3,hr3,hs3⟩:=TV I3 hn hmp3
 obtain⟨s3,p3,hL3⟩:=hx3.toExtW.oth _ _ hL1
 rw[hL3] at hr3
 injection hr3 with hr3;injection hr3 with hr3;subst hr3
 have hb3:({r0 with state:=s3,pending:=p3}:Loop).state≠ .busy:=by
  intro e
  have e:s3= .busy:=e
  subst e
  rcases hs3 with⟨_,h,_⟩|⟨h,_⟩|⟨_,h,_⟩|⟨_,_,h,_⟩
  ·cases h
  ·subst h;cases hjump
  ·cases h
  ·cases h
 obtain⟨e4,I4⟩:=I3.put_loop (n':=1) (s':= .exhausted) (p':=p3) (Zx hn) hmp3 hL3 (.inr (.inl ⟨rfl,.inr rfl⟩))
 have hxx:=(hx01.trans hx3).trans e4
 have hfinal: ∀w4,w4=setMap w3 (w.heap.size+1) (.loop {r0 with state:= .exhausted,pending:=p3})→Q o.exit' {a with defers:=[markD w.heap.size]++a.defers} w4:=by
  rintro w4 rfl
  refine hK g3 {a with defers:=[markD w.heap.size]++a.defers} _ [markD w.heap.size] hxx I4 (hR.mono hxx) rfl ⟨[w.heap.size],rfl,by simp,fun D hD=> ?_⟩
  simp only[w1c] at hD
  subst hD
  refine⟨w08 _,?_⟩
  have h1:((w.alloc (.deferred (some []))).alloc (.loop r0)).heap[w.heap.size]? =some (.deferred (some [])):=hx1.toExtW.oth _ _ hD0
  exact e4.toExtW.oth _ _ (hx3.toExtW.oth _ _ h1)
 refine⟨p3,_,run_endLoop hL3 hb3,?_⟩
 rcases hs3 with⟨rfl,_,hp⟩|⟨rfl,_⟩|⟨rfl,_,hp⟩|⟨id,rfl,_,hp⟩
 ·have hp:p3=none:=hp
  have ho:o= .normal:=by injection hjump with h;exact h.symm
  subst ho
  have:=hfinal _ rfl
  subst hp
  exact this
 ·cases hjump
 ·have hp:p3=some .ret:=hp
  have ho:o= .ret:=by injection hjump with h;exact h.symm
  subst ho
  have:=hfinal _ rfl
  subst hp
  exact wpIn_ret this
 ·have hp:p3=some (.exit id):=hp
  have ho:o= .exit id:=by
   rw[show 3+id=id+3 by omega] at hjump
   injection hjump with h;exact h.symm
  subst ho
  have:=hfinal _ rfl
  subst hp
  exact wpIn_exit this
theorem zc2 (hM:P.follows .mixedOrders=true) (hI:OraOk P O) (hA:OraAbove O) (n:Nat): ∀(c:Code) (ann:List (List Nat)) (ac:ACode) (rest:List (List Nat)),comp P c ann=some (ac,rest)→
  ∀{C:Ctx} {rr:Option Nat} {N:Nat},OracleOk P C O.call→(rr=none∨noRange ac=true)→ ∀(σ:St) (out:Out) (σ':St) (g:G) (w:World) (a:Act) (Q:Exit→Act→World→Prop),C.Z g w→ev O n ac σ=some (out,σ')→σ.m.floor≤σ.m.stk.length→Reps g w σ.ρ a.tmps.toList→Inv g w σ.m→
   GoesD g w a σ'.ρ σ'.m (Q out.exit')→c.wpIn (FW rr) N P Q a w:=by
 intro c
 induction c with
 |skip=>
  intro ann ac rest hc
  simp[comp] at hc
  obtain⟨rfl,rfl⟩:=hc
  intro C rr N hO _ σ out σ' g w a Q hz he _ hR I hK
  simp[ev] at he
  obtain⟨rfl,rfl⟩:=he
  exact wpIn_skip (hK.goes g a w (Ext.refl g w) I hR rfl)
 |ret=>
  intro ann ac rest hc
  simp[comp] at hc
  obtain⟨rfl,rfl⟩:=hc
  intro C rr N hO _ σ out σ' g w a Q hz he _ hR I hK
  simp[ev] at he
  obtain⟨rfl,rfl⟩:=he
  exact wpIn_ret (hK.goes g a w (Ext.refl g w) I hR rfl)
 |exit id=>
  intro ann ac rest hc
  simp[comp] at hc
  obtain⟨rfl,rfl⟩:=hc
  intro C rr N hO _ σ out σ' g w a Q hz he _ hR I hK
  simp[ev] at he
  obtain⟨rfl,rfl⟩:=he
  exact wpIn_exit (hK.goes g a w (Ext.refl g w) I hR rfl)
 |scope _ _|label _|goto _=>
  intro ann ac rest hc
  simp[comp] at hc
  obtain⟨rfl,rfl⟩:=hc
  intro C rr N hO _ σ out σ' g w a Q hz he
  cases he
 |refuse why=>
  intro ann ac rest hc
  simp[comp] at hc
  obtain⟨rfl,rfl⟩:=hc
  intro C rr N hO _ σ out σ' g w a Q hz he
  trivial
 |region id ops draw=>
  intro ann ac rest hc
  intro C rr N hO _ σ out σ' g w a Q hz he hf hR I hK
  cases draw with
  |false=>
   simp only[comp,Option.some.injEq,Prod.mk.injEq] at hc
   obtain⟨rfl,rfl⟩:=hc
   obtain⟨c,hc,he⟩:=z2A he
   simp only[w00] at hc
   obtain⟨l,hl,rfl⟩:=hc
   obtain⟨σ0,hfz,he⟩:=z6n he
   obtain⟨g1,x1,I1,r1⟩:=ZB _ hfz I hR
   have kf:=ZC _ hfz
   simp only[ev,w00,Prod.mk.injEq] at he
   obtain⟨σ1,h1,rfl,rfl⟩:=he
   exact wpIn_region_list (z1K hO hA.1 (C.mono x1.toExtW hz) hl (by rw[kf.floor,kf.len];exact hf) h1 r1 I1 (hK.step x1 (a1:=a) (d:=[]) rfl (Marks.nil _ _)).goes)
  |true=>
   simp only[comp,Option.some.injEq,Prod.mk.injEq] at hc
   obtain⟨rfl,rfl⟩:=hc
   obtain⟨c,hc,he⟩:=z2A he
   simp only[w00] at hc
   obtain⟨l,hl,rfl⟩:=hc
   simp only[ev,w00,Prod.mk.injEq] at he
   obtain⟨σ1,h1,rfl,rfl⟩:=he
   exact zah hM hO hA.1 hl hf h1 hz hR I (fun g' a' w' hx hI hR' hd'=>hK.goes g' a' w' hx (Xk _ hI) hR' hd')
 |seq x y ihx ihy=>
  intro ann ac rest hc
  simp only[comp,w05,w00,Prod.mk.injEq] at hc
  obtain⟨⟨ax,r1⟩,hx,⟨ay,r2⟩,hy,rfl,rfl⟩:=hc
  have hsplit: ∀{rr:Option Nat},(rr=none∨noRange (.seq ax ay)=true)→(rr=none∨noRange ax=true)∧(rr=none∨noRange ay=true):=by
   intro rr h
   rcases h with h|h
   ·grind
   ·simp only[noRange,w09] at h
    grind
  have two: ∀{C:Ctx} {rr:Option Nat} {N:Nat},OracleOk P C O.call→(rr=none∨noRange ay=true)→ ∀(z:Code) (r:Option (Out×St)) (σ:St) (out:Out) (σ':St) (g:G) (w:World) (a:Act) (Q:Exit→Act→World→Prop),C.Z g w→σ.m.floor≤σ.m.stk.length→
    (match r with|some (.normal,σ1)=>ev O n ay σ1|r=>r)=some (out,σ')→(∀out σ1,r=some (out,σ1)→Above σ.m σ1.m)→
    (∀out σ1 (Q:Exit→Act→World→Prop),r=some (out,σ1)→GoesD g w a σ1.ρ σ1.m (Q out.exit')→z.wpIn (FW rr) N P Q a w)→GoesD g w a σ'.ρ σ'.m (Q out.exit')→(Code.seq z y).wpIn (FW rr) N P Q a w:=by
   intro C rr N hO hr z r σ out σ' g w a Q hz hf he hab hz1 hK
   refine wpIn_seq ?_
   split at he
   ·rename_i σ1
    have k:=hab _ _ rfl
    refine hz1 _ _ _ rfl fun g1 a1 w1 d1 hx1 hI1 hR1 hd1 hm1=> ?_
    exact ihy _ _ _ hy hO hr σ1 out σ' g1 w1 a1 Q (C.mono hx1.toExtW hz) he (by rw[k.len,k.floor];exact hf) hR1 hI1 (hK.step hx1 hd1 hm1)
   ·rename_i hne
    refine hz1 _ _ _ he fun g1 a1 w1 d1 hx1 hI1 hR1 hd1 hm1=> ?_
    cases out with
    |normal=>exact absurd he (hne σ')
    |exit id=>exact hK g1 a1 w1 d1 hx1 hI1 hR1 hd1 hm1
    |ret=>exact hK g1 a1 w1 d1 hx1 hI1 hR1 hd1 hm1
  intro C rr N hO hr σ out σ' g w a Q hz he hf hR I hK
  obtain⟨hr1,hr2⟩:=hsplit hr
  simp only[ev] at he
  exact two hO hr2 x (ev O n ax σ) σ out σ' g w a Q hz hf he (fun o σ1 h=>YK hA ax σ o σ1 hf h) (fun o σ1 Q h hk=>ihx _ _ _ hx hO hr1 σ o σ1 g w a Q hz h hf hR I hk) hK
 |cond c x y ihx ihy=>
  intro ann ac rest hc
  simp only[comp,w05,w00,Prod.mk.injEq] at hc
  obtain⟨d,hd,⟨ax,r1⟩,hx,⟨ay,r2⟩,hy,rfl,rfl⟩:=hc
  intro C rr N hO hr σ out σ' g w a Q hz he hf hR I hK
  have hr1:rr=none∨noRange ax=true:=hr.imp id fun h=>by simp only[noRange,w09] at h;exact h.1
  have hr2:rr=none∨noRange ay=true:=hr.imp id fun h=>by simp only[noRange,w09] at h;exact h.2
  simp only[ev] at he
  have h1:=ze hR hd
  split at he
  ·rename_i t ht
   rw[ht] at h1
   refine wpIn_cond h1.inv_bool ?_
   split at he
   ·rename_i htt
    rw[if_pos htt]
    exact ihx _ _ _ hx hO hr1 σ out σ' g w a Q hz he hf hR I hK
   ·rename_i htt
    rw[if_neg htt]
    exact ihy _ _ _ hy hO hr2 σ out σ' g w a Q hz he hf hR I hK
  ·cases he
 |block id x ihx=>
  intro ann ac rest hc
  simp only[comp,w00,Prod.mk.injEq] at hc
  obtain⟨⟨ax,r1⟩,hx,rfl,rfl⟩:=hc
  intro C rr N hO hr σ out σ' g w a Q hz he hf hR I hK
  simp only[ev] at he
  refine wpIn_block ?_
  split at he
  ·rename_i i σ1 h1
   refine ihx _ _ _ hx hO hr σ (.exit i) σ1 g w a _ hz h1 hf hR I fun g1 a1 w1 d1 hx1 hI1 hR1 hd1 hm1=> ?_
   simp only[Out.exit',Exit.inBlock]
   split at he
   ·rename_i hi
    injection he with he
    injection he with e1 e2
    subst e1;subst e2
    rw[if_pos hi]
    exact hK g1 a1 w1 d1 hx1 hI1 hR1 hd1 hm1
   ·rename_i hi
    injection he with he
    injection he with e1 e2
    subst e1;subst e2
    rw[if_neg hi]
    exact hK g1 a1 w1 d1 hx1 hI1 hR1 hd1 hm1
  ·rename_i hne
   refine ihx _ _ _ hx hO hr σ out σ' g w a _ hz he hf hR I fun g1 a1 w1 d1 hx1 hI1 hR1 hd1 hm1=> ?_
   cases out with
   |normal=>exact hK g1 a1 w1 d1 hx1 hI1 hR1 hd1 hm1
   |exit i=>exact absurd he (hne i σ')
   |ret=>exact hK g1 a1 w1 d1 hx1 hI1 hR1 hd1 hm1
 |loop x ihx=>
  intro ann ac rest hc
  intro C rr N hO hr σ out σ' g w a Q hz he hf hR I hK
  cases ann with
  |nil=>simp[comp] at hc
  |cons live ann'=>
   simp only[comp,w00,Prod.mk.injEq] at hc
   obtain⟨⟨ax,r1⟩,hx,rfl,rfl⟩:=hc
   simp only[ev] at he
   refine UK (fun k a1 w1=> ∃σ1 g1 d1,iter (ev O n ax) (heads live σ.m.cur.length) k σ1=some (out,σ')∧σ1.m.floor≤σ1.m.stk.length∧Ext g w g1 w1∧Inv g1 w1 σ1.m∧Reps g1 w1 σ1.ρ a1.tmps.toList∧a1.defers=d1++a.defers∧Marks w d1 w1) ?_ (n:=n)
    ⟨σ,g,[],he,hf,Ext.refl g w,I,hR,rfl,Marks.nil _ _⟩
   rintro k a1 w1 ⟨σ1,g1,d1,hit,hf1,hx1,hI1,hR1,hd1,hm1⟩
   cases k with
   |zero=>simp[iter] at hit
   |succ k=>
    simp only[iter] at hit
    have k0:=UI live σ.m.cur.length σ1 hf1
    have hf0:(heads live σ.m.cur.length σ1).m.floor≤(heads live σ.m.cur.length σ1).m.stk.length:=by rw[k0.len,k0.floor];exact hf1
    split at hit
    ·rename_i σ2 h2
     have k1:=YK hA ax _ _ _ hf0 h2
     refine ihx _ _ _ hx hO hr (heads live σ.m.cur.length σ1) .normal σ2 g1 w1 a1 _ (C.mono hx1.toExtW hz) h2 hf0 (Q0 hR1) (z0H hI1) fun g2 a2 w2 d2 hx2 hI2 hR2 hd2 hm2=> ?_
     exact⟨k,Nat.lt_succ_self k,σ2,g2,d2++d1,hit,by rw[k1.len,k1.floor];exact hf0,hx1.trans hx2,hI2,hR2,by rw[hd2,hd1,w1e],hm1.trans hx2.toExtW hx1.toExtW.size hm2⟩
    ·rename_i hne
     refine ihx _ _ _ hx hO hr (heads live σ.m.cur.length σ1) out σ' g1 w1 a1 _ (C.mono hx1.toExtW hz) hit hf0 (Q0 hR1) (z0H hI1) fun g2 a2 w2 d2 hx2 hI2 hR2 hd2 hm2=> ?_
     have fin:=(hK.step hx1 hd1 hm1) g2 a2 w2 d2 hx2 hI2 hR2 hd2 hm2
     cases out with
     |normal=>exact absurd hit (hne σ')
     |exit i=>exact fin
     |ret=>exact fin
 |rangeFunc f ps x y ihx ihy=>
  intro ann ac rest hc
  simp only[comp,w05,w00,Prod.mk.injEq] at hc
  obtain⟨⟨ax,r1⟩,hx,⟨ay,r2⟩,hy,rfl,rfl⟩:=hc
  intro C rr N hO hr σ out σ' g w a Q hz he hf hR I hK
  split at he
  rotate_left
  ·simp[ev] at he
  rename_i d hd
  split at he
  rotate_left
  ·simp[ev] at he
  rename_i hnr
  simp only[w09] at hnr
  have hrr:rr=none:=by
   rcases hr with h|h
   ·exact h
   ·rw[hd] at h
    simp only[hnr.1,hnr.2,Bool.and_self,if_true,noRange] at h
    cases h
  subst hrr
  simp only[ev] at he
  exact z4a (C:=C) hI (fun σ o σ' hf h=>YK hA ax σ o σ' hf h) (fun σ o σ' hf h=>YK hA ay σ o σ' hf h)
   (fun L {σ out σ' g w a Q} hz h hf hR I hk=>ihx _ _ _ hx hO (.inr hnr.1) σ out σ' g w a Q hz h hf hR I hk)
   (fun L {σ out σ' g w a Q} hz h hf hR I hk=>ihy _ _ _ hy hO (.inr hnr.2) σ out σ' g w a Q hz h hf hR I hk) hd hz he hf hR I hK
end
theorem z44 {g:G} {w w':World} {m:Mem} (I:Inv g w m) (hb:Below w.heap.size w w'):Ext g w g w'∧Inv g w' m:=by
 have hc: ∀b o v,w.cell? ⟨b,o,none⟩=some v→w'.cell? ⟨b,o,none⟩=some v:=fun b o v h=>by
  have:b<w.heap.size:=World.block_lt_of_cell? _ _ h
  rw[hb.cell (p:=⟨b,o,none⟩) this];exact h
 have e:Ext g w g w':=⟨⟨fun _ _ h=>h,fun _ _ h=>h,fun b o v h1 h2=>⟨hc b o v h1,h2⟩,rfl,fun _ _ h=>h,hb.mono I.hbase,fun b ob h=>by rw[hb.block b (w31.1 h).1,h];exact OthKept.refl ob⟩,rfl⟩
 have hh: ∀{x b p q},Held g w x b p q→Held g w' x b p q:=fun{x b p q} h j h1 h2=>by
  obtain⟨k1,k2,k3⟩:=h j h1 h2
  have hlt:b<w.heap.size:=(I.ownb b j x k1).2
  obtain⟨v,hv⟩:=Option.isSome_iff_exists.1 k3
  exact⟨k1,by rw[hb.frozen (p:=⟨b,j,none⟩) hlt];exact k2,by rw[hc b j v hv];rfl⟩
 refine⟨e,⟨fun bl h hrs=> ?_,I.nd,I.stlt,I.tklt,fun t h=> ?_,fun b o x h=> ?_,Nat.le_trans I.hbase hb.size,I.lnd,I.rsv,I.mpk⟩⟩
 ·rcases I.blk bl h hrs with⟨b,o,q,k1,k2,k3,vs,k4,k5⟩|⟨b,ps,es,clock,k1,k2,k3,k4,k5⟩|⟨b,r,n,k1,k2,k3,k4,k5⟩
  ·exact .inl ⟨b,o,q,k1,k2,hh k3,vs,k4.mono e,fun j v h=>hc _ _ _ (k5 j v h)⟩
  ·refine .inr (.inl ⟨b,ps,es,clock,k1,k2,k3,?_,k5⟩)
   rw[hb.block b (I.ownb b 0 _ (k2 0)).2];exact k4
  ·refine .inr (.inr ⟨b,r,n,k1,k2,k3,?_,k5⟩)
   rw[hb.block b (I.ownb b 0 _ (k2 0)).2];exact k4
 ·obtain⟨b,p,q,k1,k2⟩:=I.live t h
  grind
 ·obtain⟨k1,k2⟩:=I.ownb b o x h
  exact⟨k1,w55 k2 hb.size⟩
def Known (P:Program) (f:Nat) (b:Bool):Prop:=
 (∃fn,P.funcs[f]? =some fn∧(fn.name== "runtime.NumGoroutine")=false∧fn.body.isNone=false)∧
 ∀w,Calls P f #[] w fun e w'=>e= .returned (.bool b)∧Below w.heap.size w w'
def constFn (b:Bool):AFunc:=⟨0,[.tmp 0],.const (.bool b)⟩
def TabOk (P:Program) (tab:Nat→Option AFunc):Prop:= ∀f afn,tab f=some afn→(∃fn ann,P.funcs[f]? =some fn∧compFn P fn ann=some afn)∨ ∃b,afn=constFn b∧Known P f b
theorem z2R (m:Mem) (b:Bool):leave m (enter m) (.bool b)=some (.bool b,m):=by
 simp[leave,enter,AV.refs,AV.toks,pushToks]
theorem z8O {O:Ora} {n:Nat} {b:Bool} {args:List AV} {m m':Mem} {r:AV} (h:evFn O n (constFn b) args m=some (r,m')):args=[]∧r= .bool b∧m'=m:=by
 cases args with
 |cons x l=>simp[evFn,constFn,ev] at h
 |nil=>
  simp only[evFn,constFn,ev,w46,Nat.sub_self,List.replicate_zero,w21,evRess,evRes,w36,w06,w03,List.getElem?_cons_zero,w32,packRes] at h
  rw[z2R] at h
  grind
theorem z8q {P:Program} {C:Ctx} {f:Nat} {b:Bool} (h:Known P f b) (m:Mem):CallOk P C f [] m (.bool b) m:=by
 refine⟨h.1,fun g w vs _ I hA=> ?_⟩
 obtain rfl:vs=[]:=w2a hA.1
 refine(h.2 w).mono fun e w' ⟨he,hb⟩=> ?_
 obtain⟨k1,k2⟩:=z44 I hb
 exact⟨.bool b,g,he,k1,k2,.bool b⟩
theorem Qf {O:Ora} (hA:OraAbove O) {n:Nat} {fn:AFunc} {args:List AV} {m m':Mem} {r:AV} (h:evFn O n fn args m=some (r,m')) (hf:m.floor≤m.stk.length+1):Above m m':=by
 unfold evFn at h
 split at h
 ·cases h
 ·rename_i out σ hne he
  simp only[w05] at h
  obtain⟨vs,_,h⟩:=h
  have k:=YK hA fn.body _ _ _ (by simp only[enter];simp;exact hf) he
  have hl:=k.len
  simp only[enter,w15,w59,w46,w1f] at hl
  exact Uo hl hf (fun l i st cs hl hb=>k.blk l i st cs hl (UE m hf l i st cs hl hb)) k.nx h
 ·cases h
theorem Ub {O:Oracle} {Y:YH} (hO:OracleAbove O) (hY:YAbove Y):OracleAbove (withY O Y):=by
 intro c args m r m' h hf
 unfold withY at h
 cases c with
 |some f=>exact hO _ _ _ _ _ h hf
 |none=>exact hY _ _ _ _ h hf
theorem uK {tab:Nat→Option AFunc}: ∀n,OraAbove (callB tab n)
 |0=>⟨fun c args m r m' h=>by simp[callB] at h,fun Y hY c args m r m' h=>by simp[callB] at h⟩
 |n+1=>by
  refine⟨fun c args m r m' h hf=> ?_,fun Y hY c args m r m' h hf=> ?_⟩
  ·simp only[callB] at h
   split at h
   ·split at h
    ·exact Qf (uK n) h hf
    ·cases h
   ·cases h
  ·simp only[callB] at h
   split at h
   ·split at h
    ·exact Qf (O:=⟨withY (callB tab n).call Y,(callB tab n).iter⟩) ⟨Ub (uK n).1 hY,(uK n).2⟩ h hf
    ·cases h
   ·cases h
theorem z3u {tab:Nat→Option AFunc} (n:Nat):OracleAbove (callN tab n):=(uK n).1
section
variable {P : Program}
def oneRes (tmps:Array Value):ResultVar→Sem Value
 | .tmp t=>pure (tmps.getD t Go.undef)
 | .cell ad t=>do loadVar t (←asAddr (tmps.getD ad Go.undef))
theorem TJ (fn:Func) (tmps:Array Value):results fn tmps=(fn.results.mapM (oneRes tmps))>>=fun vs=>pure (if h:vs.size=1 then vs[0] else .tuple vs):=by
 rfl
theorem Yz {g:G} {w:World} {σ:St} {a:Act} (hR:Reps g w σ.ρ a.tmps.toList) (I:Inv g w σ.m): ∀{l:List ResultVar} {al:List ARes} {vs:List AV},compRes P l=some al→evRess σ al=some vs→
  ∃us:List Value,(l.mapM (oneRes a.tmps)).run P w= .ok us w∧Reps g w vs us
 | [],al,vs,hc,he=>by
  simp[compRes] at hc;subst hc
  simp[evRess] at he;subst he
  exact⟨[],rfl,Reps.nil g w⟩
 | .tmp t::l,al,vs,hc,he=>by
  simp only[compRes,w00] at hc
  obtain⟨al',h1,rfl⟩:=hc
  simp only[evRess,evRes,w05,w00,Option.some.injEq] at he
  obtain⟨v,rfl,vs',h2,rfl⟩:=he
  obtain⟨us,k1,k2⟩:=Yz hR I h1 h2
  refine⟨a.tmps.getD t Go.undef::us,?_,Reps.cons (Zz hR t) k2⟩
  rw[List.mapM_cons]
  simp only[oneRes,Sem.run_bind,Sem.run_pure,Result.andThen_ok,k1]
 | .cell ad t::l,al,vs,hc,he=>by
  simp only[compRes] at hc
  split at hc
  ·rename_i b n al' hb hn h1
   split at hc
   ·injection hc with hc;subst hc
    simp only[evRess,evRes,w05,w00] at he
    obtain⟨v,⟨cs,hcs,htk⟩,vs',h2,rfl⟩:=he
    obtain⟨us,k1,k2⟩:=Yz hR I h1 h2
    obtain⟨u,k3,k4⟩:=XR (P:=P) I (Zz hR ad) hb hn hcs htk
    obtain⟨bb,oo,us',hv,_,_⟩:=z3y I (Zz hR ad) hcs
    refine⟨u::us,?_,Reps.cons k4 k2⟩
    rw[hv] at k3
    have k5:(loadVar t ⟨bb,oo,none⟩).run P w= .ok u w:=by simpa [Instr.loadAt,Instr.sureAddr] using k3
    rw[List.mapM_cons]
    simp only[oneRes,Sem.run_bind,Sem.run_pure,Result.andThen_ok,hv,asAddr,k5,k1]
   ·cases hc
  ·cases hc
theorem z6g {w:World} {D:Nat} {x:Option (List Deferred)} (hD:w.heap[D]? =some (.deferred x)) (b j:Nat):(setMap w D (.deferred none)).cell? ⟨b,j,none⟩=w.cell? ⟨b,j,none⟩:=by
 by_cases h:b=D
 ·subst h
  have hlt:b<w.heap.size:=(w31.1 hD).1
  have h1:(setMap w b (.deferred none)).heap[b]? =some (.deferred none):=by simp[setMap,hlt]
  unfold World.cell?
  grind
 ·exact jG _ _ _ h j
theorem z2o {w:World} {D:Nat} {x:Option (List Deferred)} (hD:w.heap[D]? =some (.deferred x)) (b j:Nat):(setMap w D (.deferred none)).frozen? ⟨b,j,none⟩=w.frozen? ⟨b,j,none⟩:=by
 by_cases h:b=D
 ·subst h
  have hlt:b<w.heap.size:=(w31.1 hD).1
  have h1:(setMap w b (.deferred none)).heap[b]? =some (.deferred none):=by simp[setMap,hlt]
  unfold World.frozen?
  grind
 ·exact ZD _ _ _ h j
theorem z9G {g0:G} {w0:World} {m0:Mem} (I0:Inv g0 w0 m0) {g:G} {w:World} {m:Mem} (hx:Ext g0 w0 g w) (I:Inv g w m) {D:Nat} {x:Option (List Deferred)} (hD:w.heap[D]? =some (.deferred x)) (hs:w0.heap.size≤D):
  Ext g0 w0 g (setMap w D (.deferred none))∧Inv g (setMap w D (.deferred none)) m∧ ∀ρ vs,Reps g w ρ vs→Reps g (setMap w D (.deferred none)) ρ vs:=by
 have hc:=z6g hD
 have hfz:=z2o hD
 have eV:ExtV g w g (setMap w D (.deferred none)):=⟨fun _ _ h=>h,fun _ _ h=>h,fun b o v h1 h2=>⟨by rw[hc];exact h1,h2⟩,fun _ _ h=>h⟩
 have hoth: ∀{b:Nat} {ob:Obj},w.heap[b]? =some ob→b≠D→(setMap w D (.deferred none)).heap[b]? =some ob:=fun{b ob} h hne=>by rw[yQ _ _ _ hne];exact h
 have hh: ∀{y b p q},Held g w y b p q→Held g (setMap w D (.deferred none)) y b p q:=fun{y b p q} h j h1 h2=>by
  obtain⟨k1,k2,k3⟩:=h j h1 h2
  grind
 have hne: ∀{b:Nat} {ob:Obj},w.heap[b]? =some ob→(∀d,ob≠ .deferred d)→b≠D:=fun{b ob} h hn e=>by subst e;rw[hD] at h;injection h with h;exact hn _ h.symm
 refine⟨⟨⟨hx.bt,hx.tk,fun b o v h1 h2=> ?_,hx.base,hx.mp,?_,fun b ob h=> ?_⟩,hx.rs⟩,⟨fun bl h hrs=> ?_,I.nd,I.stlt,I.tklt,fun t h=> ?_,fun b o y h=> ?_,?_,I.lnd,I.rsv,I.mpk⟩,fun ρ vs h=>⟨h.1,fun j c v a b=>(h.2 j c v a b).monoV eV⟩⟩
 ·have:=hx.seal_ b o v h1 h2
  grind
 ·have hb:g0.base≤D:=Nat.le_trans I0.hbase hs
  exact hx.below.trans ⟨rfl,rfl,rfl,by simp[setMap],fun q hq=>yQ _ _ _ (by omega)⟩
 ·have hlt:b<w0.heap.size:=(w31.1 h).1
  rw[yQ _ _ _ (by omega)]
  exact hx.oth b ob h
 ·rcases I.blk bl h hrs with⟨b,o,q,k1,k2,k3,vs,k4,k5⟩|⟨b,ps,es,clock,k1,k2,k3,k4,k5⟩|⟨b,r,n,k1,k2,k3,k4,k5⟩
  ·exact .inl ⟨b,o,q,k1,k2,hh k3,vs,⟨k4.1,fun j c v a b=>(k4.2 j c v a b).monoV eV⟩,fun j v h=>by rw[hc];exact k5 j v h⟩
  ·exact .inr (.inl ⟨b,ps,es,clock,k1,k2,k3,hoth k4 (hne k4 (fun d e=>by cases e)),k5⟩)
  ·exact .inr (.inr ⟨b,r,n,k1,k2,k3,hoth k4 (hne k4 (fun d e=>by cases e)),k5⟩)
 ·obtain⟨b,p,q,k1,k2⟩:=I.live t h
  grind
 ·have:=I.ownb b o y h
  exact⟨this.1,by simp[setMap];exact this.2⟩
 ·simp[setMap];exact I.hbase
theorem V0 {F:Fence} {N:Nat} {fn:Func} {tmps:Array Value} {R:Ending→World→Prop} {g0:G} {w0:World} {m0:Mem} (I0:Inv g0 w0 m0): ∀(Ds:List Nat) {g:G} {w:World} {m:Mem},Ds.Nodup→(∀D∈Ds,w0.heap.size≤D∧w.heap[D]? =some (.deferred (some [])))→Ext g0 w0 g w→Inv g w m→
  (∀w',Ext g0 w0 g w'→Inv g w' m→(∀ρ vs,Reps g w ρ vs→Reps g w' ρ vs)→LeavesIn F N P fn tmps R [] .returning w')→LeavesInM F N P fn tmps R (Ds.map markD) .returning w
 | [],g,w,m,_,_,hx,I,h=>h w hx I (fun _ _ h=>h)
 |D::Ds,g,w,m,hn,hD,hx,I,h=>by
  obtain⟨h1,h2⟩:=hD D w24
  obtain⟨n1,n2⟩:=List.nodup_cons.1 hn
  obtain⟨e1,e2,e3⟩:=z9G I0 hx I h2 h1
  refine⟨by simp,.inl ⟨D,_,rfl,run_takeDeferred h2,V0 I0 Ds n2 (fun D' hD'=> ?_) e1 e2 (fun w' a b c=>h w' a b (fun ρ vs q=>c ρ vs (e3 ρ vs q)))⟩⟩
  obtain⟨q1,q2⟩:=hD D' (w2c _ hD')
  exact⟨q1,(yQ _ _ _ (fun e:D'=D=>n1 (by rw[←e];exact hD'))).trans q2⟩
noncomputable def bodyV (O:Ora) (n:Nat) (fn:AFunc) (args:List AV) (m1:Mem) (fin:Mem→AV→Option (AV×Mem)):Option (AV×Mem):=
 match ev O n fn.body ⟨args++List.replicate (fn.ntmps-args.length) (.tup []),m1⟩ with
 |some (.exit _,_)=>none
 |some (_,σ)=>(evRess σ fn.res).bind fun vs=>fin σ.m (packRes vs)
 |none=>none
theorem zc0 (hM:P.follows .mixedOrders=true) {C:Ctx} {O:Ora} (hO:OracleOk P C O.call) (hI:OraOk P O) (hA0:OraAbove O) {n f:Nat} {fn:Func} {ann:List (List Nat)} {afn:AFunc} (hfn:P.funcs[f]? =some fn) (hcomp:compFn P fn ann=some afn)
  {args:List AV} {m m1 m':Mem} {r:AV} {fin:Mem→AV→Option (AV×Mem)} (h:bodyV O n afn args m1 fin=some (r,m')) (hf:m1.floor≤m1.stk.length) (hE: ∀{g w},Inv g w m→Inv g w m1)
  (hL: ∀{g w m2 v u r' m3},Inv g w m2→fin m2 v=some (r',m3)→Rep g w v u→Inv g w m3∧Rep g w r' u):CallOk P C f args m r m':=by
 unfold compFn at hcomp
 split at hcomp
 ·rename_i c hbody
  split at hcomp
  ·rename_i b rest res hc hres
   split at hcomp
   ·cases hcomp
   ·rename_i hname
    injection hcomp with hcomp
    subst hcomp
    refine⟨⟨fn,hfn,by simpa using hname,by rw[hbody];rfl⟩,fun g w vs hz I hA=> ?_⟩
    unfold bodyV at h
    simp only at h
    have fin_: ∀(out:Out) (σ:St),(out= .normal∨out= .ret)→ev O n b ⟨args++List.replicate (fn.ntmps-args.length) (.tup []),m1⟩=some (out,σ)→((evRess σ res).bind fun vs=>fin σ.m (packRes vs))=some (r,m')→
      Calls P f vs.toArray w fun e w'=> ∃v g',e= .returned v∧Ext g w g' w'∧Inv g' w' m'∧Rep g' w' r v:=by
     intro out σ hout he hlv
     simp only[w05] at hlv
     obtain⟨rs,hrs,hlv⟩:=hlv
     refine z3t (rr:=none) (N:=0) (callsIn_of_wp_marks hfn hbody trivial (zc2 hM hI hA0 n c ann b rest hc (rr:=none) (N:=0) hO (.inl rfl) _ out σ g w _ _ hz he hf ?_ (hE I) fun g1 a1 w1 ds hx1 hI1 hR1 hd1 hm1=> ?_))
     ·have hl:vs.length=args.length:=hA.1
      have:(vs.toArray++Array.replicate (fn.ntmps-vs.toArray.size) Go.undef).toList=vs++List.replicate (fn.ntmps-args.length) Go.undef:=by
       simp[hl]
      rw[this]
      refine hA.append ⟨by simp,fun j x v h1 h2=> ?_⟩
      have e1:=List.eq_of_mem_replicate (w3a h1)
      have e2:=List.eq_of_mem_replicate (w3a h2)
      subst e1;subst e2
      exact xK g w
     ·obtain⟨Ds,rfl,hnd,hDs⟩:=hm1
      have hdd:a1.defers=Ds.map markD:=by rw[hd1];simp
      have key:LeavesInM (FW none) 0 P fn a1.tmps (fun e w'=> ∃v g',e= .returned v∧Ext g w g' w'∧Inv g' w' m'∧Rep g' w' r v) a1.defers .returning w1:=by
       rw[hdd]
       refine V0 I Ds hnd hDs hx1 hI1 fun w2 hx2 hI2 hRR=> ?_
       have hR2:=hRR _ _ hR1
       obtain⟨us,k1,k2⟩:=Yz (P:=P) hR2 hI2 hres hrs
       have hval: ∃v,(results fn a1.tmps).run P w2= .ok v w2∧Rep g1 w2 (packRes rs) v:=by
        have hm:(fn.results.mapM (oneRes a1.tmps)).run P w2= .ok us.toArray w2:=by
         rw[Array.mapM_eq_mapM_toList]
         simp_all
        by_cases h1:us.length=1
        ·obtain⟨u,rfl⟩:=List.length_eq_one_iff.1 h1
         have hr1:rs.length=1:=by rw[←k2.1];rfl
         obtain⟨x,rfl⟩:=List.length_eq_one_iff.1 hr1
         refine⟨u,?_,k2.2 0 x u rfl rfl⟩
         rw[TJ,Sem.run_bind,hm]
         rfl
        ·refine⟨.tuple us.toArray,?_,?_⟩
         ·rw[TJ,Sem.run_bind,hm]
          simp_all
         ·have:packRes rs= .tup rs:=by
           unfold packRes
           split
           ·rename_i x
            have:=k2.1
            trivial
           ·rfl
          rw[this]
          exact k2.tup
       obtain⟨v,hv,hrep⟩:=hval
       obtain⟨hI3,hr3⟩:=hL hI2 hlv hrep
       exact⟨v,hv,v,g1,rfl,hx2,hI3,hr3⟩
      rcases hout with rfl|rfl
      ·exact key
      ·exact key
    split at h
    ·cases h
    ·rename_i out σ hne he
     refine fin_ out σ ?_ he h
     cases out with
     |normal=>exact .inl rfl
     |ret=>exact .inr rfl
     |exit id=>exact absurd rfl (hne id)
    ·cases h
  ·cases hcomp
 ·cases hcomp
theorem zaf (hM:P.follows .mixedOrders=true) {C:Ctx} {O:Ora} (hO:OracleOk P C O.call) (hI:OraOk P O) (hA0:OraAbove O) {n f:Nat} {fn:Func} {ann:List (List Nat)} {afn:AFunc} (hfn:P.funcs[f]? =some fn) (hcomp:compFn P fn ann=some afn)
  {args:List AV} {m m':Mem} {r:AV} (h:evFn O n afn args m=some (r,m')) (hf:m.floor≤m.stk.length+1):CallOk P C f args m r m':=
 zc0 hM hO hI hA0 hfn hcomp (m1:=enter m) (fin:=fun m2 v=>leave m m2 v) (by rw[←h];rfl) (by simp only[enter];simp;exact hf) z0R Un
theorem z7p {C:Ctx} {O:Oracle} {Y:YH} (hO: ∀C,OracleOk P C O) (hY: ∀args m r m',Y args m=some (r,m')→m.floor≤m.stk.length+1→YieldOk P C args m r m'):OracleOk P C (withY O Y):=by
 intro c args m r m' h hf
 unfold withY at h
 cases c with
 |some f=>exact hO C (some f) _ _ _ _ h hf
 |none=>exact hY _ _ _ _ h hf
theorem z3v (hM:P.follows .mixedOrders=true) {tab:Nat→Option AFunc} (hT:TabOk P tab): ∀n,(∀C,OracleOk P C (callB tab n).call)∧OraOk P (callB tab n)
 |0=>⟨fun C c args m r m' h=>by simp[callB] at h,fun C Y hY hYA f args m r m' h=>by simp[callB] at h⟩
 |n+1=>by
  have ih:=z3v hM hT n
  have one: ∀(C:Ctx) (O:Ora),OracleOk P C O.call→OraOk P O→OraAbove O→ ∀f afn args m r m',tab f=some afn→evFn O n afn args m=some (r,m')→m.floor≤m.stk.length+1→CallOk P C f args m r m':=by
   intro C O hO hI hA f afn args m r m' htab h hf
   rcases hT f afn htab with⟨fn,ann,hfn,hcomp⟩|⟨b,rfl,hk⟩
   ·exact zaf hM hO hI hA hfn hcomp h hf
   ·obtain⟨rfl,rfl,rfl⟩:=z8O h
    exact z8q hk m'
  refine⟨fun C c args m r m' h hf=> ?_,fun C Y hY hYA f args m r m' h hf=> ?_⟩
  ·simp only[callB] at h
   split at h
   ·split at h
    ·rename_i htab
     exact one C _ (ih.1 C) ih.2 (uK n) _ _ _ _ _ _ htab h hf
    ·cases h
   ·cases h
  ·simp only[callB] at h
   split at h
   ·rename_i htab
    exact one C ⟨withY (callB tab n).call Y,(callB tab n).iter⟩ (z7p ih.1 hY) ih.2 ⟨Ub (uK n).1 hYA,(uK n).2⟩ _ _ _ _ _ _ htab h hf
   ·cases h
theorem z8U (hM:P.follows .mixedOrders=true) {tab:Nat→Option AFunc} (hT:TabOk P tab) (n:Nat) (C:Ctx):OracleOk P C (callN tab n):=(z3v hM hT n).1 C
end
end Go.Vs
end
