/-
  Part 2 of the proof, shared by claims of this seat: NVsk, NVseq, NVsmp, NVscp, NVsl, NVsm, NVsn, NVso, NVsna, NVsp, NVsq, NVsqa, NVsqb.
-/
import Derived.Test.YtakpbpfknnjaaaaGreatC0
import Derived.Laws.StructEq
import Derived.MapKept
import Derived.Carry
import Derived.RangeFuncRecord
import Derived.TacticsIn
import Derived.OrdersIn
import Derived.RangeFuncLeaves
set_option maxHeartbeats 64000000
set_option linter.unusedVariables false
set_option linter.unusedSimpArgs false
open Nat renaming le_refl → w0e, zero_add → w1b, lt_succ_of_lt → w1e, add_mul → w20, eq_of_beq_eq_true → w24
open List renaming getD_eq_getElem?_getD → w03, getElem?_eq_some_iff → w07, mem_append → w08, getElem?_append_left → w09, getElem?_eq_getElem → w0b, getElem?_append_right → w0d, getElem?_take → w0f, eq_nil_of_length_eq_zero → w10, append_assoc → w11, getElem?_map → w13, mem_cons → w17, length_append → w18, getElem?_eq_none → w19, getElem?_drop → w1a, mem_cons_of_mem → w1c, map_cons → w1d, map_append → w1f, length_take → w21, nodup_append → w22, mem_of_getElem? → w23, mem_map → w25, flatMap_cons → w26, mem_singleton → w27, mem_cons_self → w28, all_eq_true → w29, getElem?_cons_zero → w2a
open Option renaming map_eq_some_iff → w01, bind_eq_some_iff → w02, map_some → w05, getD_some → w15, bind_some → w16
open Bool renaming and_eq_true → w04, false_eq_true → w0c, or_eq_true → w14, or_eq_false_iff → w2b
open Array renaming getD_eq_getD_getElem? → w06, getElem?_eq_getElem → w0a, getElem?_eq_some_iff → w12
section
namespace Go.Vs
open Go.RowKit
section
variable {P : Program} {g : G} {w : World} {ρ : List AV} {a : Act} {m m' : Mem} {o : Oper} {r : AV}
theorem YR {c:AV} (h:c.one=true):c.cells=[c]:=by cases c<;>simp[AV.one] at h<;>rfl
theorem tQ: ∀(n:Nat) (cs:List AV),allOne cs=true→allOne (cs.take n)=true∧allOne (cs.drop n)=true
 |0,cs,h=>⟨rfl,h⟩
 |n+1,[],_=>⟨rfl,rfl⟩
 |n+1,c::r,h=>by
  simp only[allOne,w04] at h
  obtain⟨h1,h2⟩:=tQ n r h.2
  exact⟨by simp[allOne,h.1,h1],h2⟩
theorem vE {s:Nat} (h0:0<s): ∀(n:Nat) (cs:List AV),n*s≤cs.length→allOne (cs.take (n*s))=true→
  (chunk s n cs).length=n∧(∀(i:Nat) (x:AV),(chunk s n cs)[i]? =some x→x.cells.length=s)∧(chunk s n cs).flatMap AV.cells=cs.take (n*s)
 |0,cs,_,_=>by simp[chunk]
 |n+1,cs,hl,ho=>by
  rw[w20,Nat.one_mul] at hl ho
  have hd:(cs.take (n*s+s)).drop s=(cs.drop s).take (n*s):=by rw[List.drop_take];congr 1;omega
  have ho2:=(tQ s _ ho).2
  rw[hd] at ho2
  obtain⟨h1,h2,h3⟩:=vE h0 n (cs.drop s) (by simp;omega) ho2
  have hc:(if(s==1)=true then cs.headD .undef else .agg (cs.take s)).cells=cs.take s:=by
   by_cases hs:s=1
   ·subst hs
    cases cs with
    |nil=>simp at hl
    |cons c r=>
     have:c.one=true:=by
      have:=(tQ 1 _ ho).1
      rw[List.take_take,show min 1 (n*1+1)=1 by omega] at this
      simpa [allOne] using this
     simp[YR this]
   ·simp[hs,AV.cells]
  refine⟨by simp[chunk,h1],fun i x hx=> ?_,?_⟩
  ·cases i with
   |zero=>
    simp only[chunk,w2a,Option.some.injEq] at hx
    subst hx
    rw[hc,w21];omega
   |succ i=>exact h2 i x (by simpa [chunk] using hx)
  ·rw[chunk,w26,hc,h3,w20,Nat.one_mul,Nat.add_comm (n*s) s,List.take_add]
theorem kH (I:Inv g w m) {s:Nat} (h0:0<s) {tx:TypeId} (hk:(∃e',P.underlying tx=some (.slice e'))∨P.underlying tx=some .string) {y:AV} (hng: ∀s l k st n,y≠ .grow s l k st n) {v:Value} {ys:List AV} (hy:m.elems s y=some ys) (h:Rep g w y v):
  ∃news,Src P s tx v ys.length news w∧Reps g w (ys.flatMap AV.cells) news∧(∀(i:Nat) (x:AV),ys[i]? =some x→x.cells.length=s):=by
 unfold Mem.elems at hy
 split at hy
 ·rename_i l k st off len
  split at hy
  ·rename_i cs hblk
   split at hy
   ·rename_i hcond
    simp only[w04,decide_eq_true_eq] at hcond
    injection hy with hy;subst hy
    obtain⟨q1,q2,q3⟩:=vE h0 len (cs.drop off) (by simp;omega) hcond.2
    rw[q1,q3]
    rcases jw I h hblk with⟨rfl,b,cap,hv⟩|⟨b,oo,cap,us,hv,hcap,hreps,hcell⟩
    ·rw[hv]
     refine⟨[],⟨hk,fun _=>rfl,?_,?_,by simp,fun _ h=>by cases h⟩,by simpa using Reps.nil g w,q2⟩
     ·exact run_firstCells_some w s 0 b 0 cap [] (by simp) (fun j u hj=>by simp at hj)
     ·exact run_firstCells_some w.drew s 0 b 0 cap [] (by simp) (fun j u hj=>by simp at hj)
    ·rw[hv]
     have hul:us.length=cs.length-off:=by rw[hreps.1,List.length_drop]
     have hlen:(us.take (len*s)).length=len*s:=by rw[w21];omega
     have hget: ∀(j:Nat) (u:Value),(us.take (len*s))[j]? =some u→w.cell? ((⟨b,oo,none⟩:Addr).add j)=some u:=fun j u hj=>by
      rw[w0f] at hj
      split at hj
      ·rw[zt];exact hcell j u hj
      ·cases hj
     exact⟨us.take (len*s),⟨hk,fun _=>rfl,run_firstCells_some w s len _ _ _ _ hlen hget,run_firstCells_some w.drew s len _ _ _ _ hlen (fun j u hj=>by simpa using hget j u hj),hlen,
      (hreps.take (len*s)).one hcond.2⟩,hreps.take (len*s),q2⟩
   ·cases hy
  ·cases hy
 ·exact absurd rfl (hng _ _ _ _ _)
 rename_i hna hna2
 clear hna hna2
 unfold elemsOf at hy
 split at hy
 ·injection hy with hy;subst hy
  rw[h.inv_nils]
  exact⟨[],⟨hk,fun _=>rfl,run_firstCells_none w s 0 0 0,run_firstCells_none w.drew s 0 0 0,by simp,fun _ h=>by cases h⟩,Reps.nil g w,fun i x hx=>by simp at hx⟩
 ·rename_i s' tk xs
  split at hy
  ·rename_i hs
   have hs':s'=s:=eq_of_beq hs
   subst hs'
   injection hy with hy;subst hy
   rcases h.inv_list with⟨b,oo,cap,hv,hsz,hcap,htk,f,hc,hr⟩|⟨rfl,b,cap,hv,_⟩
   ·obtain⟨us,k1,k2,k3⟩:=yP h0 hsz hc hr
    rw[hv]
    refine⟨us,⟨hk,fun _=>rfl,?_,?_,k2,fun u hu=> ?_⟩,k1,hsz⟩
    ·exact run_firstCells_some w s' xs.length _ _ _ us k2 (fun j u hj=>by rw[zt];exact(k3 j u hj).1)
    ·exact run_firstCells_some w.drew s' xs.length _ _ _ us k2 (fun j u hj=>by rw[zt];exact(k3 j u hj).1)
    ·obtain⟨j,hj⟩:=List.getElem?_of_mem hu
     exact(k3 j u hj).2.2
   ·rw[hv]
    refine⟨[],⟨hk,fun _=>rfl,?_,?_,by simp,fun _ h=>by cases h⟩,Reps.nil g w,fun i x hx=>by simp at hx⟩
    ·exact run_firstCells_some w s' 0 b 0 cap [] (by simp) (fun j u hj=>by simp at hj)
    ·exact run_firstCells_some w.drew s' 0 b 0 cap [] (by simp) (fun j u hj=>by simp at hj)
  ·cases hy
 ·rename_i l
  split at hy
  ·rename_i hs
   have hs':s=1:=eq_of_beq hs
   subst hs'
   injection hy with hy;subst hy
   obtain⟨b,hv,rfl⟩:=h.inv_str
   rw[hv]
   have hlen:(ofBytes b.data.toList).length=b.size:=by simp[ofBytes]
   have hcells:(ofBytes b.data.toList).flatMap AV.cells=ofBytes b.data.toList:=by
    unfold ofBytes
    rw[List.flatMap_map]
    simp[AV.cells,List.flatMap_singleton']
    induction b.data.toList with
    |nil=>rfl
    |cons c r ih=>simp[ih]
   refine⟨byteCells b,⟨hk,fun _=>by rw[hlen];rfl,by rw[hlen];exact firstCells_string b w,by rw[hlen];exact firstCells_string b w.drew,by rw[hlen,byteCells_length,Nat.mul_one],fun u hu=> ?_⟩,?_,fun i x hx=> ?_⟩
   ·obtain⟨_,_,rfl⟩:=w25.1 hu
    rfl
   ·rw[hcells]
    exact ZE _
   ·simp only[ofBytes,w13,w01] at hx
    obtain⟨y,_,rfl⟩:=hx;rfl
  ·cases hy
 ·cases hy
theorem Zt (m:Mem) (s s' l k st len:Nat):m.elems s (.grow s' l k st len)=m.elems s (.arr l k st 0 len):=rfl
theorem u6 (I:Inv g w m) {s:Nat} (h0:0<s) {tx:TypeId} (hk:(∃e',P.underlying tx=some (.slice e'))∨P.underlying tx=some .string) {y:AV} {v:Value} {ys:List AV} (hy:m.elems s y=some ys) (h:Rep g w y v):
  ∃news,Src P s tx v ys.length news w∧Reps g w (ys.flatMap AV.cells) news∧(∀(i:Nat) (x:AV),ys[i]? =some x→x.cells.length=s):=by
 by_cases hg: ∃s l k st n,y= .grow s l k st n
 ·obtain⟨s',l,k,st,n,rfl⟩:=hg
  rw[Zt] at hy
  exact kH I h0 hk (fun _ _ _ _ _ e=>by cases e) hy h.grow_arr
 ·exact kH I h0 hk (fun s l k st n e=>hg ⟨s,l,k,st,n,e⟩) hy h
theorem yi (t tx ty e:TypeId) (i:TypeInfo) (ht:P.underlying t=some (.slice e)) (hi:P.info? e=some i) (base:Option Addr) (sLen sCap:Nat) (x:Value) (hs:Src P i.size tx x 0 [] w) (hle:sLen≤sCap):
  (Builtin.append_ #[t,tx] ty #[.slice base sLen sCap,x]).run P w= .ok (.slice base sLen sCap) w:=by
 rcases hs.kind with⟨e',hk⟩|hk<;>cases base<;>simp[Builtin.append_,run_underlying ht,run_underlying hk,sizeOf,typeInfo,hi,hs.len,hle,hs.cells,storeCells]
theorem Reps.live_grow {g':G} (I:Inv g w m) (olds news:List Value) (z:Value) (e:TypeId) (s n cap:Nat) (hs:0<s) (hz:z.cells.size=s) (hn:(olds++news).length=n*s) (hcap:n≤cap) (live:List (List Nat)) (hl:live.flatten.Sublist m.live.flatten)
  (xs:List AV) (hx: ∀(i:Nat) (x:AV),xs[i]? =some x→x.cells.length=s) (hxl:xs.length=n) (hrep:Reps g w (xs.flatMap AV.cells) (olds++news)) (hone: ∀u∈olds++news,u.oneCell'=true) (hg:g'=g):
  ∃g1,Ext g w g1 (w.drew.alloc (.cells ((olds++news).toArray++Builtin.zeroCells z.cells (cap-n)) e))∧
   Inv g1 (w.drew.alloc (.cells ((olds++news).toArray++Builtin.zeroCells z.cells (cap-n)) e)) {m with nx:=m.nx+1,live:=addTok m.nx live}∧
   Rep g1 (w.drew.alloc (.cells ((olds++news).toArray++Builtin.zeroCells z.cells (cap-n)) e)) (.list s (.id m.nx) xs) (.slice (some ⟨w.heap.size,0,none⟩) n cap):=by
 have harr:(olds++news).toArray++Builtin.zeroCells z.cells (cap-n)=((olds++news)++(Builtin.zeroCells z.cells (cap-n)).toList).toArray:=by
  apply Array.ext';simp
 rw[harr]
 have hlen:((olds++news)++(Builtin.zeroCells z.cells (cap-n)).toList).length=cap*s:=by
  rw[w18,hn,Array.length_toList,size_zeroCells,hz,←w20,show n+(cap-n)=cap by omega]
 obtain⟨g1,k1,k2,k3,k4⟩:=I.drew.alloc_tok ((olds++news)++(Builtin.zeroCells z.cells (cap-n)).toList) (n*s) e (0,0) (fun j _=>by simp) live hl
 have kx:=(Ext.drew g w).trans k1
 refine⟨g1,kx,k2,?_⟩
 have:=Rep.rowsC (g:=g1) (w:=w.drew.alloc (.cells ((olds++news)++(Builtin.zeroCells z.cells (cap-n)).toList).toArray e)) hs hx (hrep.mono kx) w.heap.size 0 cap (.id m.nx) (by omega)
  (by simp only[TokAt,w1b,hxl];rw[←hlen];exact k3) (fun j u hj=>by
   have hjl:j<n*s:=by rw[←hn];exact(w07.1 hj).1
   refine⟨?_,?_,hone u (w23 hj)⟩
   ·have:=vm w.drew ((olds++news)++(Builtin.zeroCells z.cells (cap-n)).toList) e (0+j)
    rw[show(w.drew).heap.size=w.heap.size from rfl] at this
    rw[this,w1b,w09 (by rw[hn];exact hjl)]
    exact hj
   ·have:=k4 j hjl
    rw[w1b];exact this)
 rw[hxl] at this
 exact this
def AppRun (P:Program) (o:Oper) (t tx:TypeId) (x:Operand) (y':Opd):Prop:=
 ∀(g:G) (w:World) (ρ:List AV) (a:Act),Reps g w ρ a.tmps.toList→ ∃v2,Rep g w (y'.ev ρ) v2∧ ∀v w',(Builtin.append_ #[t,tx] o.type #[a.eval x,v2]).run P w= .ok v w'→(execOp a.eval o).run P w= .ok (.value v) w'
theorem qh {c:Call} {t tx:TypeId} {x y:Operand} {y':Opd} (hop:o.op= .call c) (hc:c.callee= .builtin .append) (hA:c.argTypes.toList=[t,tx]) (ha:c.args.toList=[x,y]) (hy:compOpd y=some y'):AppRun P o t tx x y':=by
 intro g w ρ a hR
 have hargs:c.args= #[x,y]:=by apply Array.ext';simpa using ha
 have hargT:c.argTypes= #[t,tx]:=by apply Array.ext';simpa using hA
 refine⟨a.eval y,za hR hy,fun v w' hv=> ?_⟩
 simp[execOp,hop,resolve,hc,hargs,hargT,invoke,builtin,hv]
theorem jD (n:Nat):Builtin.zeroCells #[Value.int .u8 0] n=Array.replicate n (Value.int .u8 0):=by
 apply Array.ext
 ·simp[Builtin.zeroCells]
 ·intro i h1 h2
  simp[Builtin.zeroCells,Nat.mod_one]
theorem ZF (t tn ts ty e:TypeId) (ik:IntKind) (i:TypeInfo) (z:Value) (ht:P.underlying t=some (.slice e)) (hn:P.underlying tn=some (.int ik)) (hs:P.underlying ts=some .string) (hi:P.info? e=some i) (hz:i.zero=some z) (hzc:z.cells= #[.int .u8 0]) (h1:i.size=1) (hb:i.bytes=1)
  (k:IntKind) (n:Nat) (b:ByteArray) (hbz:b.data=Array.replicate n 0) (h0:0<n) (hn2:n≤1048576) (base:Option Addr) (sLen sCap:Nat) (v:Value) (w':World)
  (hok:(Builtin.append_ #[t,ts] ty #[.slice base sLen sCap,.string b]).run P w= .ok v w'):(Builtin.append_ #[t,tn] ty #[.slice base sLen sCap,.int k n]).run P w= .ok v w':=by
 have hw:IntKind.i64.wrap (n:Int)=n:=by
  unfold IntKind.wrap
  simp[IntKind.signed,IntKind.bits]
  omega
 have hbs:b.size=n:=by show b.data.size=n;rw[hbz];simp
 have hx:(Array.map (fun c:UInt8=>Value.int .u8 c.toNat) b.data).extract 0 n=Array.replicate n (Value.int .u8 0):=by rw[hbz];simp
 have hx2:List.take n (List.map (fun c:UInt8=>Value.int .u8 c.toNat) b.data.toList)=List.replicate n (Value.int .u8 0):=by rw[hbz];simp
 have g1: ¬((n:Int)<0):=by omega
 have g2: ¬((n:Int)*1>2^48):=by omega
 have g3: ¬((281474976710656:Int)<n):=by omega
 have g4: ¬(n=0):=by omega
 rw[←hok]
 by_cases hc:sLen+n≤sCap
 ·simp[Builtin.append_,run_underlying ht,run_underlying hn,run_underlying hs,sizeOf,typeInfo,hi,h1,hb,asInt,asIntOf,hw,g1,g2,g3,g4,Builtin.lenOf,hbs,hc,Builtin.firstCells,hx,hx2,zeroValue,hz,hzc,jD]
 ·by_cases hf:281474976710656<Builtin.nextslicecap (sLen+n) sCap
  ·exfalso
   simp[Builtin.append_,run_underlying ht,run_underlying hs,sizeOf,typeInfo,hi,h1,hb,Builtin.lenOf,hbs,hc,hf] at hok
   generalize (Builtin.mayShare 1 sLen n base (Value.string b)).run P w=rr at hok
   cases rr<;>simp[Result.andThen] at hok
  ·have g5: ¬((9223372036854775807:Int)<(sLen:Int)+n):=by
    have:=le_nextslicecap (need:=sLen+n) (old:=sCap) (by omega)
    omega
   simp[Builtin.append_,run_underlying ht,run_underlying hn,run_underlying hs,sizeOf,typeInfo,hi,h1,hb,asInt,asIntOf,hw,g1,g2,g3,g4,g5,hf,Builtin.lenOf,hbs,hc,Builtin.firstCells,hx,hx2,zeroValue,hz,hzc,jD]
theorem qg (hR:Reps g w ρ a.tmps.toList) (I:Inv g w m) {t tx e:TypeId} {ti:TypeInfo} {x:Operand} {x' y':Opd} (hA:AppRun P o t tx x y') (hx:compOpd x=some x')
  (ht:P.underlying t=some (.slice e)) (hk:(∃e',P.underlying tx=some (.slice e'))∨P.underlying tx=some .string) (hi:P.info? e=some ti) (h0:0<ti.size) (hb0:0<ti.bytes) (hz:(ti.zero.map fun z=>z.cells.size)=some ti.size)
  (he:evApp m ti.size ti.bytes (x'.ev ρ) (y'.ev ρ)=some (r,m')):Yields P a o g w r m':=by
 have h1:=za hR hx
 obtain⟨v2,h2,run⟩:=hA g w ρ a hR
 obtain⟨zv,hzv,hzs⟩: ∃z,ti.zero=some z∧z.cells.size=ti.size:=by
  cases hq:ti.zero with
  |none=>simp[hq] at hz
  |some z=>rw[hq] at hz;exact⟨z,rfl,by simpa using hz⟩
 unfold evApp at he
 split at he
 ·cases he
 ·
  rename_i hel
  obtain⟨news,hs,hn1,hn2⟩:=u6 I h0 hk hel h2
  have hnews:news=[]:=w10 (by have:=hs.newsLen;simpa using this)
  subst hnews
  split at he
  ·rename_i e1
   injection he with he
   injection he with e2 e3
   subst e2;subst e3
   rw[e1] at h1
   refine .pure I (v:= .slice none 0 0) (run _ _ ?_) .nils
   rw[h1.inv_nils]
   exact yi t tx o.type e ti ht hi none 0 0 _ hs (w0e _)
  ·rename_i s' tk xs e1
   split at he
   ·rename_i hss
    have hs':s'=ti.size:=eq_of_beq hss
    injection he with he
    injection he with e2 e3
    subst e2;subst e3
    rw[e1,hs'] at h1
    rcases h1.inv_list with⟨b,oo,cap,hv,hsz,hcap,htk,f,hcc,hr⟩|⟨rfl,b,cap,hv,htk⟩
    ·rw[hv] at h1
     refine .pure I (run _ _ ?_) h1
     rw[hv]
     exact yi t tx o.type e ti ht hi _ _ _ _ hs hcap
    ·rw[hv] at h1
     refine .pure I (run _ _ ?_) h1
     rw[hv]
     exact yi t tx o.type e ti ht hi _ _ _ _ hs (Nat.zero_le _)
   ·cases he
  ·rename_i s' l k st len e1
   split at he
   ·rename_i hss
    have hs':s'=ti.size:=eq_of_beq hss
    injection he with he
    injection he with e2 e3
    subst e2;subst e3
    rw[e1,hs'] at h1
    obtain⟨b,oo,en,cap,hb,hv,hcap,_⟩:=h1.inv_grow
    refine .pure I (run _ _ ?_) h1
    rw[hv]
    exact yi t tx o.type e ti ht hi _ _ _ _ hs hcap
   ·cases he
  ·cases he
 ·rename_i y0 ys hel
  obtain⟨news,hs,hn1,hn2⟩:=u6 I h0 hk hel h2
  have hnl:=hs.newsLen
  have grow: ∀(xs:List AV) (base:Option Addr) (cap:Nat) (olds:List Value) (live:List (List Nat)),live.flatten.Sublist m.live.flatten→a.eval x= .slice base xs.length cap→(xs.length+(y0::ys).length)*ti.bytes≤140737488355328→
    cap<xs.length+(y0::ys).length→(Builtin.firstCells ti.size xs.length (.slice base xs.length cap)).run P w.drew= .ok olds.toArray w.drew→(∀(i:Nat) (x:AV),xs[i]? =some x→x.cells.length=ti.size)→
    Reps g w (xs.flatMap AV.cells) olds→(∀u∈olds,u.oneCell'=true)→Yields P a o g w (.list ti.size (.id m.nx) (xs++(y0::ys))) {m with nx:=m.nx+1,live:=addTok m.nx live}:=by
   intro xs base cap olds live hlive hv hbytes hlt hold hxs hrx hone
   have hfit:=growslice_fits (need:=xs.length+(y0::ys).length) (old:=cap) (bytes:=ti.bytes) hlt hbytes
   have h63:((xs.length+(y0::ys).length:Nat):Int)≤9223372036854775807:=by
    have:(xs.length+(y0::ys).length)*1≤(xs.length+(y0::ys).length)*ti.bytes:=Nat.mul_le_mul_left _ hb0
    omega
   have hrun:=run_append_grow_src (P:=P) w t tx o.type e ti zv ht hi hzv base xs.length cap olds hold v2 (y0::ys).length news hs hlt h63 hfit
   have hall: ∀(i:Nat) (x:AV),(xs++(y0::ys))[i]? =some x→x.cells.length=ti.size:=by
    intro i x hx
    by_cases hi:i<xs.length
    ·rw[w09 hi] at hx;exact hxs i x hx
    ·rw[w0d (by omega)] at hx;exact hn2 _ x hx
   have holdl:olds.length=xs.length*ti.size:=by rw[hrx.1,zP xs hxs]
   obtain⟨g1,q1,q2,q3⟩:=Reps.live_grow (g':=g) I olds news zv e ti.size (xs.length+(y0::ys).length) (grownCap w (xs.length+(y0::ys).length) cap e) h0 hzs
    (by rw[w18,holdl,hnl,w20]) (grownCap_ge _ _ _ _) live hlive (xs++(y0::ys)) hall (by simp) (by rw[List.flatMap_append];exact hrx.append hn1)
    (fun u hu=>by rcases w08.1 hu with hu|hu;·exact hone u hu
                  ·exact hs.one u hu) rfl
   exact⟨g1,_,_,.inl (run _ _ (by rw[hv];exact hrun)),q1,q2,q3⟩
  split at he
  ·rename_i e1
   split at he
   ·rename_i hbytes
    injection he with he
    injection he with e2 e3
    subst e2;subst e3
    rw[e1] at h1
    exact grow [] none 0 [] m.live (List.Sublist.refl _) h1.inv_nils (by simpa using hbytes) (by simp) (run_firstCells_none w.drew _ _ _ _) (fun i x hx=>by simp at hx) (Reps.nil g w) (fun u hu=>by cases hu)
   ·cases he
  ·rename_i s' tk xs e1
   split at he
   ·rename_i hcond
    simp only[w04,beq_iff_eq,decide_eq_true_eq] at hcond
    obtain⟨hs',hbytes⟩:=hcond
    rw[e1,hs'] at h1
    have located: ∀live:List (List Nat),live.flatten.Sublist m.live.flatten→ ∀(b oo cap:Nat) (f:Nat→Nat→Value),a.eval x= .slice (some ⟨b,oo,none⟩) xs.length cap→(∀(i:Nat) (x:AV),xs[i]? =some x→x.cells.length=ti.size)→
      (∀(i j:Nat) (x c:AV),xs[i]? =some x→x.cells[j]? =some c→w.cell? ⟨b,oo+(i*ti.size+j),none⟩=some (f i j)∧g.own b (oo+(i*ti.size+j))=none∧(f i j).oneCell'=true)→
      (∀(i j:Nat) (x c:AV),xs[i]? =some x→x.cells[j]? =some c→Rep g w c (f i j))→cap<xs.length+(y0::ys).length→
      Yields P a o g w (.list ti.size (.id m.nx) (xs++(y0::ys))) {m with nx:=m.nx+1,live:=addTok m.nx live}:=by
     intro live hlive b oo cap f hv hsz hcc hr hlt
     obtain⟨us,k1,k2,k3⟩:=yP h0 hsz hcc hr
     exact grow xs _ cap us live hlive hv hbytes hlt (run_firstCells_some w.drew ti.size xs.length _ _ _ us k2 (fun j u hj=>by rw[zt];exact(k3 j u hj).1)) hsz k1
      (fun u hu=>by obtain⟨j,hj⟩:=List.getElem?_of_mem hu;exact(k3 j u hj).2.2)
    split at he
    ·cases he
    ·
     injection he with he
     injection he with e2 e3
     subst e2;subst e3
     rcases h1.inv_list with⟨b,oo,cap,hv,hsz,hcap,htk,f,hcc,hr⟩|⟨rfl,b,cap,hv,htk⟩
     ·have hcl:cap=xs.length:=by
       have:xs.length*ti.size=cap*ti.size:=by simp only[TokAt] at htk;omega
       exact(Nat.eq_of_mul_eq_mul_right h0 this).symm
      exact located m.live (List.Sublist.refl _) b oo cap f hv hsz hcc hr (by simp;omega)
     ·have hc0:cap=0:=by rcases htk with h|⟨_,h⟩;·cases h
                         ·exact h
      subst hc0
      refine grow [] b 0 [] m.live (List.Sublist.refl _) hv (by simpa using hbytes) (by simp) ?_ (fun i x hx=>by simp at hx) (Reps.nil g w) (fun u hu=>by cases hu)
      exact run_firstCells_some w.drew _ 0 b 0 0 [] (by simp) (fun j u hj=>by simp at hj)
    ·rename_i tid
     split at he
     ·rename_i hlive
      injection he with he
      injection he with e2 e3
      subst e2;subst e3
      have hmem:tid∈m.live.flatten:=Zm hlive
      have hfilt:=xO tid m.live
      rcases h1.inv_list with⟨b,oo,cap,hv,hsz,hcap,htk,f,hcc,hr⟩|⟨rfl,b,cap,hv,htk⟩
      ·by_cases hroom:xs.length+(y0::ys).length≤cap
       ·
        simp only[TokAt] at htk
        obtain⟨us,k1,k2,k3⟩:=yP h0 hsz hcc hr
        have hnl':news.length=(y0::ys).length*ti.size:=hnl
        have hle:oo+xs.length*ti.size+news.length≤oo+cap*ti.size:=by
         have:=Nat.mul_le_mul_right ti.size hroom
         rw[w20] at this
         omega
        have hpos:0<news.length:=by rw[hnl'];exact Nat.mul_pos (by simp) h0
        obtain⟨g1,q0,q1,q2,q3,q4⟩:=I.fill (us:=news) hmem htk hle hpos
        have hrun:=run_append_room_src (P:=P) w t tx o.type e ti ht hi b oo xs.length cap v2 (y0::ys).length news hs hroom (fun j hj=>(q0 (oo+xs.length*ti.size+j) (by omega) (by omega)).2.2)
         (fun j hj=>(q0 (oo+xs.length*ti.size+j) (by omega) (by omega)).2.1)
        refine⟨g1,_,_,.inl (run _ _ (by rw[hv];exact hrun)),q1,q2,?_⟩
        have hall: ∀(i:Nat) (x:AV),(xs++(y0::ys))[i]? =some x→x.cells.length=ti.size:=by
         intro i x hx
         by_cases hi:i<xs.length
         ·rw[w09 hi] at hx;exact hsz i x hx
         ·rw[w0d (by omega)] at hx;exact hn2 _ x hx
        have hlen2:(xs++(y0::ys)).length=xs.length+(y0::ys).length:=by simp
        have:=Rep.rowsC (g:=g1) (w:=w.setCells b (oo+xs.length*ti.size) news) h0 hall (us:=us++news) (by rw[List.flatMap_append];exact(k1.mono q1).append (hn1.mono q1)) b oo cap (.id m.nx) (by omega)
         (by simp only[TokAt];rw[q3,hlen2,w20,hnl',Nat.add_assoc]) (fun j u hj=>by
          by_cases hju:j<us.length
          ·rw[w09 hju] at hj
           obtain⟨c1,c2,c3⟩:=k3 j u hj
           obtain⟨d1,d2⟩:=q1.seal_ _ _ _ c1 c2
           exact⟨d1,d2,c3⟩
          ·rw[w0d (by omega)] at hj
           have hjn:j-us.length<news.length:=(w07.1 hj).1
           have hc1:=World.cell?_setCells_in b news (oo+xs.length*ti.size) w (fun i hi=>(q0 (oo+xs.length*ti.size+i) (by omega) (by omega)).2.2) (j-us.length) hjn
           rw[show oo+xs.length*ti.size+(j-us.length)=oo+j by omega] at hc1
           rw[w0b hjn] at hj
           refine⟨by rw[hc1];exact hj,q4 (oo+j) (by omega) (by omega),hs.one u (by rw[←Option.some.inj hj];exact List.getElem_mem hjn)⟩)
        rw[hlen2] at this
        exact this
       ·exact located _ hfilt b oo cap f hv hsz hcc hr (by omega)
      ·rcases htk with h|⟨h,_⟩<;>cases h
     ·cases he
   ·cases he
  ·rename_i s' l k st len e1
   split at he
   ·rename_i cs hblk
    split at he
    ·rename_i hcond
     simp only[w04,beq_iff_eq,decide_eq_true_eq] at hcond
     obtain⟨⟨⟨hs',hbytes⟩,hlen⟩,_⟩:=hcond
     injection he with he
     injection he with e2 e3
     subst e2;subst e3
     rw[e1,hs'] at h1
     obtain⟨b,oo,en,cap,hbt,hv,hcap,hce⟩:=h1.inv_grow
     have hcells:((y0::ys).flatMap AV.cells).length=(y0::ys).length*ti.size:=zP _ hn2
     have hnl':news.length=(y0::ys).length*ti.size:=hnl
     have hpos:0<news.length:=by rw[hnl'];exact Nat.mul_pos (by simp) h0
     by_cases hroom:len+(y0::ys).length≤cap
     ·have hle:len*ti.size+news.length≤cap*ti.size:=by
       have:=Nat.mul_le_mul_right ti.size hroom
       rw[w20] at this
       omega
      obtain⟨g1,r1,r2,r3⟩:=I.restamp (n:=len*ti.size) (r:=news.length) hblk hbt hlen (by omega)
      have hb2:({m.put l k m.nx (cs.take (len*ti.size)++List.replicate news.length .undef) with nx:=m.nx+1}:Mem).blk l k m.nx=some (cs.take (len*ti.size)++List.replicate news.length .undef):=QC hblk _ _ _
      obtain⟨b2,o2,en2,q1,q2,q3,q4⟩:=r2.store (off:=len*ti.size) (new:=(y0::ys).flatMap AV.cells) hb2 r3 (by simp only[w18,w21,List.length_replicate];omega) (by omega) (hn1.mono r1)
      rw[r3] at q1
      obtain⟨rfl,rfl,rfl⟩:b=b2∧oo=o2∧en=en2:=by simpa using q1
      have hrun:=run_append_room_src (P:=P) w t tx o.type e ti ht hi b oo len cap v2 (y0::ys).length news hs hroom (fun j hj=>(q2 (oo+len*ti.size+j) (by omega) (by omega)).2.2)
       (fun j hj=>(q2 (oo+len*ti.size+j) (by omega) (by omega)).2.1)
      refine⟨g1,_,_,.inl (run _ _ (by rw[hv];exact hrun)),r1.trans q3,?_,.grow _ _ _ _ _ _ _ _ _ (q3.bt _ _ r3) (by omega) hce⟩
      have hspl:splice (cs.take (len*ti.size)++List.replicate news.length .undef) (len*ti.size) ((y0::ys).flatMap AV.cells)=cs.take (len*ti.size)++(y0::ys).flatMap AV.cells:=by
       have ht:(cs.take (len*ti.size)).length=len*ti.size:=by rw[w21];omega
       unfold splice
       rw[List.take_append_of_le_length (by omega),List.take_of_length_le (Nat.le_of_eq ht),List.drop_eq_nil_of_le (by simp only[w18,List.length_replicate];omega),List.append_nil]
      rw[hspl,QA] at q4
      exact q4
     ·obtain⟨b1,o1,en1,a1,a2,a3,vs,a4,a5⟩:=I.cells (zj hblk) hbt
      simp only at a1 a2 a3 a4 a5
      rw[hbt] at a1
      obtain⟨rfl,rfl,rfl⟩:b=b1∧oo=o1∧en=en1:=by simpa using a1
      have holdl:(vs.take (len*ti.size)).length=len*ti.size:=by rw[w21,a4.1];omega
      have hold:=run_firstCells_some (P:=P) w.drew ti.size len ⟨b,oo,none⟩ len cap (vs.take (len*ti.size)) holdl (fun j u hj=>by
       rw[w0f] at hj
       split at hj
       ·rw[zt];exact a5 j u hj
       ·cases hj)
      have hlt:cap<len+(y0::ys).length:=by omega
      have hfit:=growslice_fits (need:=len+(y0::ys).length) (old:=cap) (bytes:=ti.bytes) hlt hbytes
      have h63:((len+(y0::ys).length:Nat):Int)≤9223372036854775807:=by
       have:(len+(y0::ys).length)*1≤(len+(y0::ys).length)*ti.bytes:=Nat.mul_le_mul_left _ hb0
       omega
      have hrun:=run_append_grow_src (P:=P) w t tx o.type e ti zv ht hi hzv (some ⟨b,oo,none⟩) len cap _ hold v2 (y0::ys).length news hs hlt h63 hfit
      have hge:=grownCap_ge w (len+(y0::ys).length) cap e
      have harr:(vs.take (len*ti.size)++news).toArray++Builtin.zeroCells zv.cells (grownCap w (len+(y0::ys).length) cap e-(len+(y0::ys).length))=((vs.take (len*ti.size)++news)++(Builtin.zeroCells zv.cells (grownCap w (len+(y0::ys).length) cap e-(len+(y0::ys).length))).toList).toArray:=by
       apply Array.ext';simp
      rw[harr] at hrun
      obtain⟨g1,r1,r2,r3⟩:=I.drew.moved hblk (cs.take (len*ti.size)++(y0::ys).flatMap AV.cells) (vs.take (len*ti.size)++news) (Builtin.zeroCells zv.cells (grownCap w (len+(y0::ys).length) cap e-(len+(y0::ys).length))).toList e
       (((a4.take _).append hn1).mono (Ext.drew g w))
      refine⟨g1,_,_,.inl (run _ _ (by rw[hv];exact hrun)),(Ext.drew g w).trans r1,r2,.grow _ _ _ _ _ _ _ _ _ r3 hge ?_⟩
      have hzl: ∀N,(Builtin.zeroCells zv.cells N).toList.length=N*ti.size:=fun N=>by rw[Array.length_toList (xs:=Builtin.zeroCells zv.cells N),size_zeroCells,hzs]
      rw[w18,w18,holdl,hnl',hzl,←w20,←w20,w1b]
      congr 1;omega
    ·cases he
   ·cases he
  ·cases he
theorem Uc (hR:Reps g w ρ a.tmps.toList) (I:Inv g w m) {t tx e:TypeId} {ti:TypeInfo} {x:Operand} {x' y':Opd} (hA:AppRun P o t tx x y') (hx:compOpd x=some x')
  (ht:P.underlying t=some (.slice e)) (hk:(∃e',P.underlying tx=some (.slice e'))∨P.underlying tx=some .string) (hi:P.info? e=some ti) (h0:0<ti.size) (hb0:0<ti.bytes) (hz:(ti.zero.map fun z=>z.cells.size)=some ti.size)
  (he:evAppB m ti.size ti.bytes (x'.ev ρ) (y'.ev ρ)=some (r,m')):Yields P a o g w r m':=by
 have old:=fun he=>qg (r:=r) (m':=m') hR I hA hx ht hk hi h0 hb0 hz he
 have h1:=za hR hx
 obtain⟨v2,h2,run⟩:=hA g w ρ a hR
 obtain⟨zv,hzv,hzs⟩: ∃z,ti.zero=some z∧z.cells.size=ti.size:=by
  cases hq:ti.zero with
  |none=>simp[hq] at hz
  |some z=>rw[hq] at hz;exact⟨z,rfl,by simpa using hz⟩
 unfold evAppB at he
 split at he
 ·rename_i y0 ys hel
  obtain⟨news,hs,hn1,hn2⟩:=u6 I h0 hk hel h2
  have hnl:=hs.newsLen
  have grow: ∀(xs:List AV) (base:Option Addr) (cap:Nat) (olds:List Value),a.eval x= .slice base xs.length cap→
    cap<xs.length+(y0::ys).length→(Builtin.firstCells ti.size xs.length (.slice base xs.length cap)).run P w.drew= .ok olds.toArray w.drew→(∀(i:Nat) (x:AV),xs[i]? =some x→x.cells.length=ti.size)→
    Reps g w (xs.flatMap AV.cells) olds→newRowB m ti.size ti.bytes (xs++y0::ys)=some (r,m')→Yields P a o g w r m':=by
   intro xs base cap olds hv hlt hold hxs hrx he
   unfold newRowB at he
   split at he
   ·rename_i hbytes
    injection he with he
    injection he with e2 e3
    subst e2;subst e3
    rw[w18] at hbytes
    have hfit:=growslice_fits (need:=xs.length+(y0::ys).length) (old:=cap) (bytes:=ti.bytes) hlt hbytes
    have h63:((xs.length+(y0::ys).length:Nat):Int)≤9223372036854775807:=by
     have:(xs.length+(y0::ys).length)*1≤(xs.length+(y0::ys).length)*ti.bytes:=Nat.mul_le_mul_left _ hb0
     omega
    have hrun:=run_append_grow_src (P:=P) w t tx o.type e ti zv ht hi hzv base xs.length cap olds hold v2 (y0::ys).length news hs hlt h63 hfit
    have hge:=grownCap_ge w (xs.length+(y0::ys).length) cap e
    have holdl:olds.length=xs.length*ti.size:=by rw[hrx.1,zP xs hxs]
    have hnl':news.length=(y0::ys).length*ti.size:=hnl
    have harr:(olds++news).toArray++Builtin.zeroCells zv.cells (grownCap w (xs.length+(y0::ys).length) cap e-(xs.length+(y0::ys).length))=((olds++news)++(Builtin.zeroCells zv.cells (grownCap w (xs.length+(y0::ys).length) cap e-(xs.length+(y0::ys).length))).toList).toArray:=by
     apply Array.ext';simp
    rw[harr] at hrun
    obtain⟨g1,r1,r2,r3⟩:=I.drew.alloc_blkG ((xs++y0::ys).flatMap AV.cells) (olds++news) (Builtin.zeroCells zv.cells (grownCap w (xs.length+(y0::ys).length) cap e-(xs.length+(y0::ys).length))).toList e
     (by rw[List.flatMap_append];exact(hrx.append hn1).mono (Ext.drew g w))
    refine⟨g1,_,_,.inl (run _ _ (by rw[hv];exact hrun)),(Ext.drew g w).trans r1,r2,?_⟩
    rw[w18]
    refine .grow _ _ _ _ _ _ _ _ _ r3 hge ?_
    have hzl: ∀N,(Builtin.zeroCells zv.cells N).toList.length=N*ti.size:=fun N=>by rw[Array.length_toList (xs:=Builtin.zeroCells zv.cells N),size_zeroCells,hzs]
    rw[w18,w18,holdl,hnl',hzl,←w20,←w20,w1b]
    congr 1;omega
   ·cases he
  split at he
  ·rename_i e1
   rw[e1] at h1
   exact grow [] none 0 [] h1.inv_nils (by simp) (run_firstCells_none w.drew _ _ _ _) (fun i x hx=>by simp at hx) (Reps.nil g w) he
  ·rename_i s' xs e1
   split at he
   ·rename_i hss
    have hs':s'=ti.size:=eq_of_beq hss
    rw[e1,hs'] at h1
    rcases h1.inv_list with⟨b,oo,cap,hv,hsz,hcap,htk,f,hcc,hr⟩|⟨rfl,b,cap,hv,htk⟩
    ·have hcl:cap=xs.length:=by
      have:xs.length*ti.size=cap*ti.size:=by simp only[TokAt] at htk;omega
      exact(Nat.eq_of_mul_eq_mul_right h0 this).symm
     obtain⟨us,k1,k2,k3⟩:=yP h0 hsz hcc hr
     exact grow xs _ cap us hv (by simp;omega) (run_firstCells_some w.drew ti.size xs.length _ _ _ us k2 (fun j u hj=>by rw[zt];exact(k3 j u hj).1)) hsz k1 he
    ·have hc0:cap=0:=by rcases htk with h|⟨_,h⟩;·cases h
                        ·exact h
     subst hc0
     exact grow [] b 0 [] hv (by simp) (run_firstCells_some w.drew _ 0 b 0 0 [] (by simp) (fun j u hj=>by simp at hj)) (fun i x hx=>by simp at hx) (Reps.nil g w) he
   ·cases he
  ·exact old he
 ·exact old he
theorem Ub (hR:Reps g w ρ a.tmps.toList) (I:Inv g w m) {t tx e:TypeId} {ti:TypeInfo} {x:Operand} {x' y':Opd} (hA:AppRun P o t tx x y') (hx:compOpd x=some x')
  (ht:P.underlying t=some (.slice e)) (hk:(∃e',P.underlying tx=some (.slice e'))∨P.underlying tx=some .string) (hi:P.info? e=some ti) (h0:0<ti.size)
  (he:evAppK m ti.size (x'.ev ρ) (y'.ev ρ)=some (r,m')):Yields P a o g w r m':=by
 have h1:=za hR hx
 obtain⟨v2,h2,run⟩:=hA g w ρ a hR
 unfold evAppK at he
 split at he
 ·rename_i s' l k st len hel e1
  obtain⟨news,hs,hn1,hn2⟩:=u6 I h0 hk hel h2
  have hnews:news=[]:=w10 (by have:=hs.newsLen;simpa using this)
  subst hnews
  split at he
  ·rename_i hss
   have hs':s'=ti.size:=eq_of_beq hss
   injection he with he
   injection he with e2 e3
   subst e2;subst e3
   rw[e1,hs'] at h1
   obtain⟨b,oo,en,cap,hb,hv,hcap,_⟩:=h1.inv_grow
   refine .pure I (run _ _ ?_) h1
   rw[hv]
   exact yi t tx o.type e ti ht hi _ _ _ _ hs hcap
  ·cases he
 ·rename_i y0 ys s' l k st len hel e1
  obtain⟨news,hs,hn1,hn2⟩:=u6 I h0 hk hel h2
  have hnl:=hs.newsLen
  split at he
  ·rename_i cs hblk
   split at he
   ·rename_i hcond
    simp only[w04,w14,beq_iff_eq,decide_eq_true_eq] at hcond
    obtain⟨⟨⟨hs',hlen⟩,hone⟩,_⟩:=hcond
    injection he with he
    injection he with e2 e3
    subst e2;subst e3
    rw[e1,hs'] at h1
    obtain⟨b,oo,en,cap,hbt,hv,hcap,hce⟩:=h1.inv_grow
    have hcells:((y0::ys).flatMap AV.cells).length=(y0::ys).length*ti.size:=zP _ hn2
    have hnl':news.length=(y0::ys).length*ti.size:=hnl
    rw[w20] at hlen
    have hpos:0<((y0::ys).flatMap AV.cells).length:=by rw[hcells];exact Nat.mul_pos (by simp) h0
    obtain⟨b1,o1,en1,a1,a2,_⟩:=I.cells (zj hblk) hbt
    simp only at a1 a2
    rw[hbt] at a1
    obtain⟨rfl,rfl,rfl⟩:b=b1∧oo=o1∧en=en1:=by simpa using a1
    obtain⟨b2,o2,en2,q1,q2,q3,q4⟩:=I.store (off:=len*ti.size) (new:=(y0::ys).flatMap AV.cells) hblk hbt (by omega) hpos hn1
    rw[hbt] at q1
    obtain⟨rfl,rfl,rfl⟩:b=b2∧oo=o2∧en=en2:=by simpa using q1
    have hroom:len+(y0::ys).length≤cap:=by
     have h3:(len+(y0::ys).length)*ti.size≤cap*ti.size:=by rw[w20];omega
     exact Nat.le_of_mul_le_mul_right h3 h0
    have hrun:=run_append_room_src (P:=P) w t tx o.type e ti ht hi b oo len cap v2 (y0::ys).length news hs hroom (fun j hj=>(q2 (oo+len*ti.size+j) (by omega) (by omega)).2.2)
     (fun j hj=>(q2 (oo+len*ti.size+j) (by omega) (by omega)).2.1)
    exact⟨g,_,_,.inl (run _ _ (by rw[hv];exact hrun)),q3,q4,.grow _ _ _ _ _ _ _ _ _ (q3.bt _ _ hbt) hroom hce⟩
   ·cases he
  ·cases he
 ·cases he
end
theorem jX (l k:List (Nat×Nat)) (xs ys:List AV):eqAt (l++k) xs ys=match eqAt l xs ys with|some true=>eqAt k xs ys|r=>r:=by
 induction l with
 |nil=>simp[eqAt]
 |cons o r ih=>
  simp only[List.cons_append,eqAt]
  cases eqCell o.2 (xs.getD o.1 .undef) (ys.getD o.1 .undef) with
  |none=>rfl
  |some b=>cases b with
   |false=>rfl
   |true=>exact ih
theorem jW (l:List (Nat×Nat)) (off n:Nat) (xs ys:List AV) (h: ∀o∈l,o.1<n):eqAt (shiftL off l) xs ys=eqAt l ((xs.drop off).take n) ((ys.drop off).take n):=by
 induction l with
 |nil=>simp[eqAt,shiftL]
 |cons o r ih=>
  have ho:o.1<n:=h o w28
  have e: ∀zs:List AV,zs.getD (o.1+off) .undef=((zs.drop off).take n).getD o.1 .undef:=fun zs=>by
   simp only[w03,w0f,ho,if_true,w1a,Nat.add_comm]
  have ih:=ih (fun q hq=>h q (w1c _ hq))
  simp only[shiftL] at ih
  simp only[shiftL,w1d,eqAt,e,ih]
def eqElems (d:Nat) (e:TypeId) (n:Nat) (xs ys:Array Value):Nat→Nat→Sem Bool
 |_,0=>pure true
 |i,k+1=>do
  let a←part e xs (i*n)
  let b←part e ys (i*n)
  let r←Op.equalIn d e a b
  if(!r)=true then pure false else eqElems d e n xs ys (i+1) k
theorem qN {P:Program} (w:World) (d:Nat) (t:TypeId) (len:Nat) (e:TypeId) (n:Nat) (xs ys:Array Value) (ht:P.underlying t=some (.array len e)) (hn:sizeOfT P e=some n):
  (Op.equalIn (d+1) t (.agg xs) (.agg ys)).run P w=(eqElems d e n xs ys 0 len).run P w:=by
 simp only[Op.equalIn,Sem.run_bind,run_underlying ht,Result.andThen_ok,yE hn w,Std.Legacy.Range.forIn_eq_forIn_range',Std.Legacy.Range.size,Nat.sub_zero,Nat.add_one_sub_one,Nat.div_one]
 clear ht
 generalize 0=i
 induction len generalizing w i with
 |zero=>simp[eqElems]
 |succ k ih=>
  simp only[List.range'_succ,List.forIn_cons,eqElems,Sem.run_bind,Sem.run_ite]
  generalize (part e xs (i*n)).run P w=r1
  cases r1 with
  |ok a w1=>
   simp only[Result.andThen_ok]
   generalize (part e ys (i*n)).run P w1=r2
   cases r2 with
   |ok b w2=>
    simp only[Result.andThen_ok]
    generalize (Op.equalIn d e a b).run P w2=r3
    cases r3 with
    |ok r w3=>
     cases r
     ·simp only[Result.andThen_ok,Bool.not_false,if_true,Sem.run_pure]
     ·simp only[Result.andThen_ok,Bool.not_true,w0c,if_false,Sem.run_pure]
      exact ih w3 (i+1)
    |halt x w3=>simp[Result.andThen]
   |halt x w2=>simp[Result.andThen]
  |halt x w1=>simp[Result.andThen]
section
variable {P : Program} {g : G} {w : World}
def RepT (P:Program) (g:G) (w:World) (t:TypeId) (xs:List AV) (u:Value):Prop:=
 match aggT P t with
 |some true=> ∃us:List Value,u= .agg us.toArray∧Reps g w xs us∧sizeOfT P t=some xs.length
 |_=>Rep g w (xs.getD 0 .undef) u
theorem XA {cs:List AV} {us:List Value} (h:Reps g w cs us) {t:TypeId} {b:Bool} {n off:Nat} (hb:aggT P t=some b) (hn:sizeOfT P t=some n) (hlen:off+n≤cs.length) (h0:0<n) (h1:b=true∨n=1):
  ∃u,(part t us.toArray off).run P w= .ok u w∧RepT P g w t ((cs.drop off).take n) u:=by
 have hl:n≤(cs.drop off).length:=by simp;omega
 unfold RepT
 rw[hb]
 cases b with
 |true=>
  refine⟨.agg (us.toArray.extract off (off+n)),by simp[part,ue hb w,yE hn w],(us.drop off).take n,?_,(h.drop off).take n,?_⟩
  ·congr 1
   apply Array.ext'
   simp[List.extract_eq_take_drop]
  ·rw[hn,w21,Nat.min_eq_left hl]
 |false=>
  have hn1:n=1:=by rcases h1 with h1|h1;(cases h1);exact h1
  subst hn1
  have hx:(cs.drop off)[0]? =some ((cs.drop off)[0]'(by omega)):=w0b _
  obtain⟨u,h3,h4⟩:=(h.drop off).get hx
  rw[w1a] at h3
  refine⟨u,?_,?_⟩
  ·simp only[part,Sem.run_bind,ue hb w,Result.andThen_ok,w0c,if_false]
   simp at h3
   simp[h3]
  ·have:((cs.drop off).take 1).getD 0 .undef=(cs.drop off)[0]'(by omega):=by
    rw[w03,w0f,if_pos (by omega),hx];rfl
   rw[this];exact h4
theorem RepT.agg {t:TypeId} {xs:List AV} {u:Value} (h:RepT P g w t xs u) (ha:aggT P t=some true): ∃us:List Value,u= .agg us.toArray∧Reps g w xs us∧sizeOfT P t=some xs.length:=by
 unfold RepT at h;rw[ha] at h;exact h
theorem RepT.leaf {t:TypeId} {xs:List AV} {u:Value} (h:RepT P g w t xs u) (ha:aggT P t=some false):Rep g w (xs.getD 0 .undef) u:=by
 unfold RepT at h;rw[ha] at h;exact h
theorem Qb (q:Nat): ∀(d:Nat) (t:TypeId) (l:List (Nat×Nat)),eqLeaves P d t=some l→ ∀(xs ys:List AV) (u v:Value) (b:Bool),RepT P g w t xs u→RepT P g w t ys v→eqAt l xs ys=some b→(Op.equalIn (d+q) t u v).run P w= .ok b w:=by
 intro d
 induction d with
 |zero=>intro t l h;simp[eqLeaves] at h
 |succ d ih=>
  intro t l h xs ys u v b hu hv he
  unfold eqLeaves at h
  rw[show d+1+q=(d+q)+1 by omega]
  have one: ∀{k:Nat} {c:AV} {c':AV},eqAt [(0,k)] xs ys=some b→eqCell k (xs.getD 0 .undef) (ys.getD 0 .undef)=some b:=by
   intro k c c' h
   simp only[eqAt] at h
   split at h
   ·rename_i h1;rw[h1];exact h
   ·rename_i h1;rw[h1];exact h
   ·cases h
  split at h
  ·rename_i ht
   injection h with h;subst h
   have ha:aggT P t=some false:=by unfold aggT;rw[ht]
   have he:=one (c:= .undef) (c':= .undef) he
   have h1:=hu.leaf ha
   have h2:=hv.leaf ha
   generalize xs.getD 0 .undef=c1 at h1 he
   generalize ys.getD 0 .undef=c2 at h2 he
   cases c1<;>cases c2<;>simp only[eqCell,reduceCtorEq,Option.some.injEq] at he
   subst he
   rw[h1.inv_bool,h2.inv_bool]
   simp[Op.equalIn,run_underlying ht]
  ·rename_i kk ht
   injection h with h;subst h
   have ha:aggT P t=some false:=by unfold aggT;rw[ht]
   have he:=one (c:= .undef) (c':= .undef) he
   have h1:=hu.leaf ha
   have h2:=hv.leaf ha
   generalize xs.getD 0 .undef=c1 at h1 he
   generalize ys.getD 0 .undef=c2 at h2 he
   cases c1<;>cases c2<;>simp only[eqCell,reduceCtorEq] at he
   rename_i k p k' q
   split at he
   ·rename_i hk
    injection he with he;subst he
    have:k=k':=by cases k<;>cases k'<;>simp[sameKind] at hk<;>rfl
    subst this
    rw[h1.inv_int,h2.inv_int]
    simp[Op.equalIn,run_underlying ht]
   ·cases he
  ·rename_i ht
   injection h with h;subst h
   have ha:aggT P t=some false:=by unfold aggT;rw[ht]
   have he:=one (c:= .undef) (c':= .undef) he
   have h1:=hu.leaf ha
   have h2:=hv.leaf ha
   generalize xs.getD 0 .undef=c1 at h1 he
   generalize ys.getD 0 .undef=c2 at h2 he
   cases c1<;>cases c2<;>simp only[eqCell,reduceCtorEq,Option.some.injEq] at he
   subst he
   cases h1 with
   |str _ p hp=>cases h2 with
    |str _ q hq=>
     subst hp;subst hq
     have e: ∀z:ByteArray,z.toList=z.data.toList:=ByteArray.toList_eq
     rw[run_equalIn_string _ _ _ _ _ ht,e,e]
  ·rename_i fs ht
   split at h
   ·cases h
   ·rename_i hst
    simp only[w02] at h
    obtain⟨N,hN,h⟩:=h
    have ha:aggT P t=some true:=by unfold aggT;rw[ht]
    obtain⟨us,rfl,hus,hsu⟩:=hu.agg ha
    obtain⟨vs,rfl,hvs,hsv⟩:=hv.agg ha
    rw[hN] at hsu hsv
    injection hsu with hsu
    injection hsv with hsv
    have hf:P.fieldsOf t=fs:=by simp[Program.fieldsOf,ht]
    rw[run_equalIn_struct w (d+q) t us.toArray vs.toArray (by rw[hf];exact ht) (by simpa using hst),hf]
    generalize fs.toList=fl at h
    clear ht hf
    induction fl generalizing l with
    |nil=>
     simp only[eqFieldsP] at h
     injection h with h;subst h
     simp only[eqAt] at he
     injection he with he;subst he
     simp[Op.eqFields]
    |cons f r ihf=>
     simp only[eqFieldsP] at h
     split at h
     ·rename_i hname
      split at h
      ·rename_i lf n bb k e1 e2 e3 e4
       split at h
       ·rename_i hc
        obtain⟨c1,c2,c3,c4⟩:=hc
        injection h with h;subst h
        rw[jX,jW lf f.offset n xs ys c1] at he
        obtain⟨u1,p1,p2⟩:=XA (P:=P) (off:=f.offset) hus e3 e2 (by omega) c3 c4
        obtain⟨v1,p3,p4⟩:=XA (P:=P) (off:=f.offset) hvs e3 e2 (by omega) c3 c4
        simp only[Op.eqFields,if_pos hname,Sem.run_bind,p1,p3,Result.andThen_ok]
        split at he
        ·rename_i h1
         rw[ih f.type lf e1 _ _ _ _ _ p2 p4 h1]
         simp only[Result.andThen_ok,Bool.not_true,w0c,if_false]
         exact ihf k he e4
        ·rename_i h1
         rw[ih f.type lf e1 _ _ _ _ _ p2 p4 he]
         cases b with
         |true=>exact absurd he h1
         |false=>simp
       ·cases h
      ·cases h
     ·rename_i hname
      simp only[Op.eqFields,if_neg hname]
      exact ihf l he h
  ·rename_i len e ht
   split at h
   ·rename_i lf n bb N e1 e2 e3 hN
    split at h
    ·rename_i hc
     obtain⟨c1,c2,c3,c4⟩:=hc
     injection h with h;subst h
     have ha:aggT P t=some true:=by unfold aggT;rw[ht]
     obtain⟨us,rfl,hus,hsu⟩:=hu.agg ha
     obtain⟨vs,rfl,hvs,hsv⟩:=hv.agg ha
     rw[hN] at hsu hsv
     injection hsu with hsu
     injection hsv with hsv
     rw[qN w (d+q) t len e n us.toArray vs.toArray ht e2]
     have key: ∀k i,(i+k)*n≤N→eqAt (arrLeaves lf n i k) xs ys=some b→(eqElems (d+q) e n us.toArray vs.toArray i k).run P w= .ok b w:=by
      intro k
      induction k with
      |zero=>
       intro i _ he
       simp only[arrLeaves,eqAt] at he
       injection he with he;subst he
       simp[eqElems]
      |succ k ihk=>
       intro i hi he
       have hle:i*n+n≤N:=by
        have:(i+1)*n≤(i+(k+1))*n:=Nat.mul_le_mul_right n (by omega)
        rw[w20,Nat.one_mul] at this
        omega
       simp only[arrLeaves] at he
       rw[jX,jW lf (i*n) n xs ys c1] at he
       obtain⟨u1,p1,p2⟩:=XA (P:=P) (off:=i*n) hus e3 e2 (by omega) c3 c4
       obtain⟨v1,p3,p4⟩:=XA (P:=P) (off:=i*n) hvs e3 e2 (by omega) c3 c4
       simp only[eqElems,Sem.run_bind,p1,p3,Result.andThen_ok]
       split at he
       ·rename_i h1
        rw[ih e lf e1 _ _ _ _ _ p2 p4 h1]
        simp only[Result.andThen_ok,Bool.not_true,w0c,if_false]
        exact ihk (i+1) (by rw[show i+1+k=i+(k+1) by omega];exact hi) he
       ·rename_i h1
        rw[ih e lf e1 _ _ _ _ _ p2 p4 he]
        cases b with
        |true=>exact absurd he h1
        |false=>simp
     exact key len 0 (by rw[w1b];exact c2) he
    ·cases h
   ·cases h
  ·cases h
variable {ρ : List AV} {a : Act} {m : Mem} {o : Oper} {r : AV}
theorem Wq {op:BinOp} {neg:Bool} (h:negOf op=some neg):op=(if neg then .neq else .eql):=by
 cases op<;>simp[negOf] at h<;>subst h<;>rfl
theorem Xe (hR:Reps g w ρ a.tmps.toList) (I:Inv g w m) {op:BinOp} {neg:Bool} {xt yt:TypeId} {x y:Operand} {x' y':Opd} {ls:List (Nat×Nat)} {xs ys:List AV} {b:Bool} (hop:o.op= .binOp op xt x y yt) (hn:negOf op=some neg)
  (ha:aggT P xt=some true) (hl:eqLeaves P 20 xt=some ls) (hx:compOpd x=some x') (hy:compOpd y=some y') (hg:P.eqGuardType P.depth xt=false) (e1:x'.ev ρ= .agg xs) (e2:y'.ev ρ= .agg ys)
  (hsx:sizeOfT P xt=some xs.length) (hsy:sizeOfT P xt=some ys.length) (he:eqAt ls xs ys=some b):Yields P a o g w (.bool (if neg then !b else b)) m:=by
 have h1:=za hR hx
 have h2:=za hR hy
 rw[e1] at h1;rw[e2] at h2
 obtain⟨us,i1,k1⟩:=Reps.of_agg h1
 obtain⟨vs,i2,k2⟩:=Reps.of_agg h2
 have heq:(Op.equal xt (.agg us.toArray) (.agg vs.toArray)).run P w= .ok b w:=by
  rw[Op.equal,show Op.maxDepth=20+9980 from rfl]
  refine Qb (g:=g) 9980 20 xt ls hl xs ys _ _ b ?_ ?_ he
  ·unfold RepT;rw[ha];exact⟨us,rfl,k1,hsx⟩
  ·unfold RepT;rw[ha];exact⟨vs,rfl,k2,hsy⟩
 have hgd:=run_eqGuard_agg (P:=P) w op xt x y us.toArray vs.toArray hg
 refine .pure I (v:= .bool (if neg then !b else b)) ?_ (.bool _)
 have:=Wq hn
 subst this
 cases neg<;>simp[execOp,hop,i1,i2,hgd,binOp,heq]<;>simp_all [execOp,binOp]
def NilV (kd:Nat) (v:Value) (b:Bool):Prop:=
 (kd=0∧ ∃ad n c,v= .slice ad n c∧b=ad.isNone)∨(kd=1∧ ∃ad,v= .pointer ad∧b=ad.isNone)∨(kd=2∧((v= .nilFunc∧b=true)∨(∃f p q,v= .func f p q∧b=false)))
theorem Wp {x:AV} {v:Value} {b:Bool} {kd:Nat} (h:Rep g w x v) (he:nilOf kd x=some b):NilV kd v b:=by
 unfold nilOf at he
 split at he<;>simp only[Option.some.injEq,reduceCtorEq] at he<;>subst he<;>cases h
 ·exact .inl ⟨rfl,_,_,_,rfl,rfl⟩
 ·exact .inl ⟨rfl,_,_,_,rfl,rfl⟩
 ·exact .inl ⟨rfl,_,_,_,rfl,rfl⟩
 ·exact .inl ⟨rfl,_,_,_,rfl,rfl⟩
 ·exact .inl ⟨rfl,_,_,_,rfl,rfl⟩
 ·exact .inl ⟨rfl,_,_,_,rfl,rfl⟩
 ·exact .inr (.inl ⟨rfl,_,rfl,rfl⟩)
 ·exact .inr (.inl ⟨rfl,_,rfl,rfl⟩)
 ·exact .inr (.inl ⟨rfl,_,rfl,rfl⟩)
 ·exact .inr (.inr ⟨rfl,.inl ⟨rfl,rfl⟩⟩)
 ·exact .inr (.inr ⟨rfl,.inr ⟨_,_,_,rfl,rfl⟩⟩)
theorem WY (op:BinOp) (t:TypeId) (x y:Operand) (u v:Value) (h:(∃a n c,u= .slice a n c)∨(∃a,u= .pointer a)∨u= .nilFunc∨(∃f p q,u= .func f p q)) (w:World):(eqGuard op t x y u v).run P w= .ok () w:=by
 rcases h with⟨a,n,c,rfl⟩|⟨a,rfl⟩|rfl|⟨f,p,q,rfl⟩<;>(unfold eqGuard;cases op<;>simp)
theorem jO (hR:Reps g w ρ a.tmps.toList) (I:Inv g w m) {op:BinOp} {neg:Bool} {xt yt:TypeId} {x y z:Operand} {z':Opd} {kd:Nat} {b:Bool} (hop:o.op= .binOp op xt x y yt) (hn:negOf op=some neg)
  (hz:(z=x∧nilKind P xt y=some kd)∨(z=y∧nilKind P xt x=some kd)) (hx:compOpd z=some z') (he:nilOf kd (z'.ev ρ)=some b):Yields P a o g w (.bool (if neg then !b else b)) m:=by
 have h1:=Wp (za hR hx) he
 refine .pure I (v:= .bool (if neg then !b else b)) ?_ (.bool _)
 have hgd:((∃a' n c,a.eval x= .slice a' n c)∨(∃a',a.eval x= .pointer a')∨a.eval x= .nilFunc∨(∃f p q,a.eval x= .func f p q))∧(Op.equal xt (a.eval x) (a.eval y)).run P w= .ok b w:=by
  rw[Op.equal,show Op.maxDepth=9999+1 from rfl,Op.equalIn]
  rcases hz with⟨rfl,hk⟩|⟨rfl,hk⟩
  ·unfold nilKind at hk
   split at hk
   all_goals first|(cases hk;done)|skip
   all_goals (split at hk<;>first|(cases hk;done)|skip)
   all_goals (injection hk with hk;subst hk;rename_i ht)
   all_goals (rcases h1 with⟨e,ad,n,c,hv,rfl⟩|⟨e,ad,hv,rfl⟩|⟨e,⟨hv,rfl⟩|⟨f,p,q,hv,rfl⟩⟩<;>first|(cases e;done)|skip)
   all_goals (rw[hv];refine⟨by simp,?_⟩;simp[Act.eval,run_underlying ht])
   all_goals (cases ad<;>simp)
  ·unfold nilKind at hk
   split at hk
   all_goals first|(cases hk;done)|skip
   all_goals (split at hk<;>first|(cases hk;done)|skip)
   all_goals (injection hk with hk;subst hk;rename_i ht)
   all_goals (rcases h1 with⟨e,ad,n,c,hv,rfl⟩|⟨e,ad,hv,rfl⟩|⟨e,⟨hv,rfl⟩|⟨f,p,q,hv,rfl⟩⟩<;>first|(cases e;done)|skip)
   all_goals (rw[hv];refine⟨by simp[Act.eval],?_⟩;simp[Act.eval,run_underlying ht])
 obtain⟨hs,h3⟩:=hgd
 have hg:=WY (P:=P) op xt x y (a.eval x) (a.eval y) hs w
 have:=Wq hn
 subst this
 have hb:(binOp (if neg then .neq else .eql) xt (a.eval x) (a.eval y)).run P w= .ok (.bool (if neg then !b else b)) w:=by
  rcases hs with⟨p,n,c,hs⟩|⟨p,hs⟩|hs|⟨f,p,q,hs⟩<;>rw[hs] at h3⊢ <;>cases neg<;>simp[binOp,h3]
 simp[execOp,hop,hg,hb]
theorem XE (hR:Reps g w ρ a.tmps.toList) (I:Inv g w m) {x:Operand} {x':Opd} {v:AV} (hop:o.op= .nilCheck x) (hx:compOpd x=some x') (he:nilChkV (x'.ev ρ)=some v):Yields P a o g w v m:=by
 have h1:=za hR hx
 revert he h1
 generalize x'.ev ρ=y
 generalize hu:a.eval x=u
 intro he h1
 have hy:y=v:=by
  unfold nilChkV at he
  split at he
  ·cases he;rfl
  ·cases he;rfl
  ·cases he
 subst hy
 refine .pure I (v:=u) ?_ h1
 cases h1<;>first|(cases he;done)|simp[execOp,hop,hu]
end
section
variable {P : Program} {g : G} {w : World} {ρ : List AV} {a : Act} {m m' : Mem} {o : Oper} {r : AV}
theorem Rep.inv_mapR {l k st:Nat} {v:Value} (h:Rep g w (.mapR l k st) v): ∃b,g.mp st=some b∧v= .map (some b):=by
 cases h with|mapR _ _ _ b h=>exact⟨b,h,rfl⟩
theorem Inv.alloc_map (I:Inv g w m): ∃g',Ext g w g' (w.alloc (.map #[] 0))∧Inv g' (w.alloc (.map #[] 0)) {m with cur:=m.cur++[⟨m.nx,[.tup []]⟩],nx:=m.nx+1}∧g'.mp m.nx=some w.heap.size:=by
 let g':G:={g with mp:=fun st=>if st=m.nx then some w.heap.size else g.mp st,own:=fun b o=>if b=w.heap.size then some (false,m.nx) else g.own b o}
 have hmp: ∀st x,g.mp st=some x→g'.mp st=some x:=fun st x h=>by
  have:=(I.mpk st x h).2.1
  have hne:st≠m.nx:=by omega
  simp[g',hne,h]
 have hown: ∀b o,b≠w.heap.size→g'.own b o=g.own b o:=fun b o h=>by simp[g',h]
 have e:Ext g w g' (w.alloc (.map #[] 0)):=⟨ExtW.alloc I _ (fun _ _ h=>h) (fun _ _ h=>h) hown rfl hmp,rfl⟩
 have k: ∀x,Kept g w g' (w.alloc (.map #[] 0)) x:=fun x=>Kept.alloc I _ hown x
 have hb:g'.mp m.nx=some w.heap.size:=by simp[g']
 refine⟨g',e,⟨fun bl hb' hr=> ?_,?_,?_,?_,?_,?_,?_,I.lnd,fun st hr=> ?_,fun st b h=> ?_⟩,hb⟩
 ·simp only[Mem.all,w08,w27] at hb'
  rcases hb' with hb'|hb'|rfl
  ·exact(I.blk bl (by simp[Mem.all,hb']) hr).mono e (k _)
  ·exact(I.blk bl (by simp[Mem.all,hb']) hr).mono e (k _)
  ·exact .inr (.inl ⟨w.heap.size,[],#[],0,hb,fun j=>by simp[g'],rfl,xo w _,by simpa using EntsOk.nil⟩)
 ·have:=I.nd
  simp only[Mem.all,w1f,w1d,List.map_nil] at this⊢
  rw[←w11,w22]
  refine⟨this,by simp,fun a ha b hb'=> ?_⟩
  simp only[w27] at hb'
  subst hb'
  rw[←w1f] at ha
  obtain⟨bl,hbl,rfl⟩:=w25.1 ha
  have:=I.st_lt (bl:=bl) hbl
  omega
 ·intro st x hx
  have:=I.stlt st x hx;simp;omega
 ·intro t x hx
  have:=I.tklt t x hx
  exact⟨w1e this.1,this.2⟩
 ·intro t ht
  obtain⟨b,p,en,h1,h2⟩:=I.live t ht
  exact⟨b,p,en,h1,h2.mono (k _)⟩
 ·intro b o x hx
  simp only[g'] at hx
  split at hx
  ·rename_i hc;exact⟨by rw[hc];exact I.hbase,by rw[hc];simp⟩
  ·have:=I.ownb b o x hx;exact⟨this.1,by simp;omega⟩
 ·have:=I.hbase;simp;exact Nat.le_succ_of_le this
 ·have h1:=I.rsv st hr
  exact⟨h1.1,by simp;omega⟩
 ·by_cases hs:st=m.nx
  ·subst hs
   refine⟨?_,by simp,?_⟩
   ·cases h:g.bt m.nx with
    |none=>simp[g',h]
    |some x=>exact absurd (I.stlt _ _ h) (Nat.lt_irrefl _)
   ·cases h:g.rs m.nx with
    |false=>simp[g',h]
    |true=>exact absurd (I.rsv _ h).2 (Nat.lt_irrefl _)
  ·simp only[g',hs,if_false] at h
   have h1:=I.mpk st b h
   exact⟨h1.1,by simp;omega,h1.2.2⟩
theorem WA (I:Inv g w m) {t:TypeId} (hop:o.op= .makeMap t none):Yields P a o g w (.mapR m.stk.length m.cur.length m.nx) {m with cur:=m.cur++[⟨m.nx,[.tup []]⟩],nx:=m.nx+1}:=by
 obtain⟨g',e,I',hb⟩:=I.alloc_map
 refine⟨g',_,_,.inl ?_,e,I',.mapR _ _ _ _ hb⟩
 simp[execOp,hop,run_makeMap,Result.andThen]
def setMap (w:World) (b:Nat) (ob:Obj):World:={w with heap:=w.heap.setIfInBounds b ob}
theorem zB (w:World) (b:Nat) (ob:Obj) {b':Nat} (h:b'≠b):(setMap w b ob).heap[b']? =w.heap[b']? :=by
 unfold setMap
 simp only[Array.getElem?_setIfInBounds]
 rw[if_neg (fun e=>h e.symm)]
theorem vl (w:World) (b:Nat) (ob:Obj) {b':Nat} (h:b'≠b) (j:Nat):(setMap w b ob).cell? ⟨b',j,none⟩=w.cell? ⟨b',j,none⟩:=by
 unfold World.cell?
 rw[zB w b ob h]
theorem uE (w:World) (b:Nat) (ob:Obj) {b':Nat} (h:b'≠b) (j:Nat):(setMap w b ob).frozen? ⟨b',j,none⟩=w.frozen? ⟨b',j,none⟩:=by
 unfold World.frozen?
 rw[zB w b ob h]
theorem Inv.put_map (I:Inv g w m) {l k st b:Nat} {ps ps':List AV} {es':Array MapEntry} {c':Nat} (hb:m.blk l k st=some [.tup ps]) (hm:g.mp st=some b) (hps:EntsOk ps' es'.toList):
  Ext g w g (setMap w b (.map es' c'))∧Inv g (setMap w b (.map es' c')) (m.put l k st [.tup ps']):=by
 have hin:=zj hb
 obtain⟨b0,ps0,es,clock,h1,h2,h3,h4,h5⟩:=I.map hin hm rfl
 simp only at h1 h2 h3
 rw[hm] at h1
 injection h1 with h1;subst h1
 have hlt:b<w.heap.size:=(w12.1 h4).1
 have hnc: ∀j,w.cell? ⟨b,j,none⟩=none:=fun j=>by unfold World.cell?;simp[h4]
 have hbase:g.base≤b:=(I.ownb b 0 _ (h2 0)).1
 have ext:Ext g w g (setMap w b (.map es' c')):=by
  refine⟨⟨fun _ _ h=>h,fun _ _ h=>h,fun b' j v e1 e2=>⟨?_,e2⟩,rfl,fun _ _ h=>h,?_,fun b' ob h=> ?_⟩,rfl⟩
  ·have hne:b'≠b:=fun e=>by rw[e,hnc] at e1;cases e1
   rw[vl _ _ _ hne];exact e1
  ·exact⟨rfl,rfl,rfl,by simp[setMap],fun q hq=>zB _ _ _ (by omega)⟩
  ·by_cases e:b'=b
   ·subst e;rw[h4] at h;injection h with h;subst h;trivial
   ·rw[zB _ _ _ e,h];exact OthKept.refl ob
 have kept: ∀y,y≠(false,st)→Kept g w g (setMap w b (.map es' c')) y:=by
  intro y hy b' j hj
  have hne:b'≠b:=fun e=>by rw[e,h2 j] at hj;exact hy (Option.some.inj hj).symm
  exact⟨hj,uE _ _ _ hne j,vl _ _ _ hne j,fun ob _ he=>by rw[zB _ _ _ hne];exact he⟩
 refine⟨ext,⟨fun bl hbl hr=> ?_,?_,?_,?_,?_,?_,?_,?_,?_,?_⟩⟩
 ·rcases qa I _ hb hbl with rfl|⟨hbl,hne⟩
  ·refine .inr (.inl ⟨b,ps',es',c',hm,h2,rfl,?_,hps⟩)
   simp[setMap,hlt]
  ·exact(I.blk bl hbl hr).mono ext (kept _ (fun h=>hne (by injection h)))
 ·rw[qP _ hb];exact I.nd
 ·rw[yL];exact I.stlt
 ·rw[yL];exact I.tklt
 ·rw[ya]
  intro t ht
  obtain⟨b',p,en,a1,a2⟩:=I.live t ht
  exact⟨b',p,en,a1,a2.mono (kept _ (fun h=>by injection h with h _;cases h))⟩
 ·intro b' o' x hx
  have:=I.ownb b' o' x hx
  exact⟨this.1,by simp[setMap];exact this.2⟩
 ·simp[setMap];exact I.hbase
 ·rw[ya];exact I.lnd
 ·rw[yL];exact I.rsv
 ·rw[yL];exact I.mpk
theorem Inv.alloc_loop (I:Inv g w m) (r:Loop) (hr0:LoopSt 0 r): ∃g',Ext g w g' (w.alloc (.loop r))∧Inv g' (w.alloc (.loop r)) {m with cur:=m.cur++[⟨m.nx,[.int .i64 (.ofNat 0)]⟩],nx:=m.nx+1}∧g'.mp m.nx=some w.heap.size:=by
 let g':G:={g with mp:=fun st=>if st=m.nx then some w.heap.size else g.mp st,own:=fun b o=>if b=w.heap.size then some (false,m.nx) else g.own b o}
 have hmp: ∀st x,g.mp st=some x→g'.mp st=some x:=fun st x h=>by
  have:=(I.mpk st x h).2.1
  have hne:st≠m.nx:=by omega
  simp[g',hne,h]
 have hown: ∀b o,b≠w.heap.size→g'.own b o=g.own b o:=fun b o h=>by simp[g',h]
 have e:Ext g w g' (w.alloc (.loop r)):=⟨ExtW.alloc I _ (fun _ _ h=>h) (fun _ _ h=>h) hown rfl hmp,rfl⟩
 have k: ∀x,Kept g w g' (w.alloc (.loop r)) x:=fun x=>Kept.alloc I _ hown x
 have hb:g'.mp m.nx=some w.heap.size:=by simp[g']
 refine⟨g',e,⟨fun bl hb' hr=> ?_,?_,?_,?_,?_,?_,?_,I.lnd,fun st hr=> ?_,fun st b h=> ?_⟩,hb⟩
 ·simp only[Mem.all,w08,w27] at hb'
  rcases hb' with hb'|hb'|rfl
  ·exact(I.blk bl (by simp[Mem.all,hb']) hr).mono e (k _)
  ·exact(I.blk bl (by simp[Mem.all,hb']) hr).mono e (k _)
  ·exact .inr (.inr ⟨w.heap.size,r,0,hb,fun j=>by simp[g'],rfl,xo w _,hr0⟩)
 ·have:=I.nd
  simp only[Mem.all,w1f,w1d,List.map_nil] at this⊢
  rw[←w11,w22]
  refine⟨this,by simp,fun a ha b hb'=> ?_⟩
  simp only[w27] at hb'
  subst hb'
  rw[←w1f] at ha
  obtain⟨bl,hbl,rfl⟩:=w25.1 ha
  have:=I.st_lt (bl:=bl) hbl
  omega
 ·intro st x hx
  have:=I.stlt st x hx;simp;omega
 ·intro t x hx
  have:=I.tklt t x hx
  exact⟨w1e this.1,this.2⟩
 ·intro t ht
  obtain⟨b,p,en,h1,h2⟩:=I.live t ht
  exact⟨b,p,en,h1,h2.mono (k _)⟩
 ·intro b o x hx
  simp only[g'] at hx
  split at hx
  ·rename_i hc;exact⟨by rw[hc];exact I.hbase,by rw[hc];simp⟩
  ·have:=I.ownb b o x hx;exact⟨this.1,by simp;omega⟩
 ·have:=I.hbase;simp;exact Nat.le_succ_of_le this
 ·have h1:=I.rsv st hr
  exact⟨h1.1,by simp;omega⟩
 ·by_cases hs:st=m.nx
  ·subst hs
   refine⟨?_,by simp,?_⟩
   ·cases h:g.bt m.nx with
    |none=>simp[g',h]
    |some x=>exact absurd (I.stlt _ _ h) (Nat.lt_irrefl _)
   ·cases h:g.rs m.nx with
    |false=>simp[g',h]
    |true=>exact absurd (I.rsv _ h).2 (Nat.lt_irrefl _)
  ·simp only[g',hs,if_false] at h
   have h1:=I.mpk st b h
   exact⟨h1.1,by simp;omega,h1.2.2⟩
theorem Inv.put_loop (I:Inv g w m) {l k st b n':Nat} {x:Int} {r:Loop} {s':LoopState} {p':Option Code} (hb:m.blk l k st=some [.int .i64 x]) (hm:g.mp st=some b) (hr:w.heap[b]? =some (.loop r)) (hps:LoopSt n' {r with state:=s',pending:=p'}):
  Ext g w g (setMap w b (.loop {r with state:=s',pending:=p'}))∧Inv g (setMap w b (.loop {r with state:=s',pending:=p'})) (m.put l k st [.int .i64 (.ofNat n')]):=by
 have hin:=zj hb
 obtain⟨b0,r0,n0,h1,h2,h3,h4,h5⟩:=I.loop hin hm rfl
 simp only at h1 h2 h3
 rw[hm] at h1
 injection h1 with h1;subst h1
 have hlt:b<w.heap.size:=(w12.1 h4).1
 have hnc: ∀j,w.cell? ⟨b,j,none⟩=none:=fun j=>by unfold World.cell?;simp[h4]
 have hbase:g.base≤b:=(I.ownb b 0 _ (h2 0)).1
 have ext:Ext g w g (setMap w b (.loop {r with state:=s',pending:=p'})):=by
  refine⟨⟨fun _ _ h=>h,fun _ _ h=>h,fun b' j v e1 e2=>⟨?_,e2⟩,rfl,fun _ _ h=>h,?_,fun b' ob h=> ?_⟩,rfl⟩
  ·have hne:b'≠b:=fun e=>by rw[e,hnc] at e1;cases e1
   rw[vl _ _ _ hne];exact e1
  ·exact⟨rfl,rfl,rfl,by simp[setMap],fun q hq=>zB _ _ _ (by omega)⟩
  ·by_cases e:b'=b
   ·subst e;rw[hr] at h;injection h with h;subst h;exact⟨s',p',by simp[setMap,hlt]⟩
   ·rw[zB _ _ _ e,h];exact OthKept.refl ob
 have kept: ∀y,y≠(false,st)→Kept g w g (setMap w b (.loop {r with state:=s',pending:=p'})) y:=by
  intro y hy b' j hj
  have hne:b'≠b:=fun e=>by rw[e,h2 j] at hj;exact hy (Option.some.inj hj).symm
  exact⟨hj,uE _ _ _ hne j,vl _ _ _ hne j,fun ob _ he=>by rw[zB _ _ _ hne];exact he⟩
 refine⟨ext,⟨fun bl hbl hr=> ?_,?_,?_,?_,?_,?_,?_,?_,?_,?_⟩⟩
 ·rcases qa I _ hb hbl with rfl|⟨hbl,hne⟩
  ·refine .inr (.inr ⟨b,_,n',hm,h2,rfl,?_,hps⟩)
   simp[setMap,hlt]
  ·exact(I.blk bl hbl hr).mono ext (kept _ (fun h=>hne (by injection h)))
 ·rw[qP _ hb];exact I.nd
 ·rw[yL];exact I.stlt
 ·rw[yL];exact I.tklt
 ·rw[ya]
  intro t ht
  obtain⟨b',p,en,a1,a2⟩:=I.live t ht
  exact⟨b',p,en,a1,a2.mono (kept _ (fun h=>by injection h with h _;cases h))⟩
 ·intro b' o' x hx
  have:=I.ownb b' o' x hx
  exact⟨this.1,by simp[setMap];exact this.2⟩
 ·simp[setMap];exact I.hbase
 ·rw[ya];exact I.lnd
 ·rw[yL];exact I.rsv
 ·rw[yL];exact I.mpk
theorem Xk (s s':ByteArray):(s==s')=(s.data.toList==s'.data.toList):=by
 have h:(s==s')=(s.data==s'.data):=rfl
 rw[h]
 cases hq:(s.data==s'.data) with
 |true=>have:=beq_iff_eq.1 hq;rw[this];simp
 |false=>
  have hne:s.data≠s'.data:=fun e=>by rw[e] at hq;simp at hq
  have:s.data.toList≠s'.data.toList:=fun e=>hne (by simpa using e)
  simp[hne]
theorem jN {kk:Bool} {kt:TypeId} (hk:keyKindT P kt=some kk): ∃d,P.underlying kt=some d∧ ∀{x y:AV} {u v:Value} {t:Bool},PRep x u→PRep y v→keyEq kk x y=some t→Instr.sameNow d u v=some t:=by
 unfold keyKindT at hk
 split at hk
 ·rename_i hd
  injection hk with hk;subst hk
  refine⟨_,hd,fun{x y u v t} h1 h2 he=> ?_⟩
  cases h1<;>cases h2<;>simp only[keyEq] at he<;>first|(cases he;done)|skip
  rename_i l s h l' s' h'
  subst h;subst h'
  injection he with he;subst he
  simp only[Instr.sameNow,Option.some.injEq]
  exact Xk s s'
 ·rename_i q hd
  injection hk with hk;subst hk
  refine⟨_,hd,fun{x y u v t} h1 h2 he=> ?_⟩
  cases h1<;>cases h2<;>simp only[keyEq] at he<;>first|(cases he;done)|skip
  split at he
  ·rename_i hs
   injection he with he;subst he
   simp[Instr.sameNow,tw hs]
  ·cases he
 ·cases hk
theorem jT {kk:Bool} {d:TypeDesc} (hs: ∀{x y:AV} {u v:Value} {t:Bool},PRep x u→PRep y v→keyEq kk x y=some t→Instr.sameNow d u v=some t) {z k r:AV} {kv:Value} (hk:PRep k kv):
  ∀{ps:List AV} {es:List MapEntry} (i:Nat),EntsOk ps es→mapGet kk z k ps=some r→(Instr.findNow d kv es i=some none∧r=z)∨ ∃j v,Instr.findNow d kv es i=some (some (j,v))∧PRep r v
 |_,_,i,.nil,h=>by
  simp only[mapGet,Option.some.injEq] at h
  exact .inl ⟨rfl,h.symm⟩
 |_,_,i,.cons (k:=k') (v:=v') (e:=e) h1 h2 h3,h=>by
  simp only[mapGet] at h
  split at h
  ·rename_i he
   injection h with h;subst h
   exact .inr ⟨i,e.val,by simp[Instr.findNow,hs hk h1 he],h2⟩
  ·rename_i he
   have:=jT hs hk (i+1) h3 h
   simpa [Instr.findNow,hs hk h1 he] using this
  ·cases h
theorem jS {kk:Bool} {d:TypeDesc} (hs: ∀{x y:AV} {u v:Value} {t:Bool},PRep x u→PRep y v→keyEq kk x y=some t→Instr.sameNow d u v=some t) {k v:AV} {kv vv:Value} (hk:PRep k kv) (hv:PRep v vv):
  ∀{ps ps':List AV} {es:List MapEntry} (i:Nat),EntsOk ps es→mapPut kk k v ps=some ps'→
   (Instr.findNow d kv es i=some none∧ ∀born,EntsOk ps' (es++[⟨kv,vv,born⟩]))∨
   ∃j e,Instr.findNow d kv es i=some (some (i+j,e.val))∧es[j]? =some e∧(∃k',PRep k' e.key∧keyEq kk k k'=some true)∧EntsOk ps' (es.modify j fun e=>{e with key:=kv,val:=vv})
 |_,_,_,i,.nil,h=>by
  simp only[mapPut,Option.some.injEq] at h
  subst h
  exact .inl ⟨rfl,fun born=> .cons hk hv .nil⟩
 |_,_,_,i,.cons (k:=k') (v:=v') (e:=e) h1 h2 h3,h=>by
  simp only[mapPut] at h
  split at h
  ·rename_i he
   injection h with h;subst h
   exact .inr ⟨0,e,by simp[Instr.findNow,hs hk h1 he],rfl,⟨k',h1,he⟩,by simpa using EntsOk.cons hk hv h3⟩
  ·rename_i he
   simp only[w01] at h
   obtain⟨l,hl,rfl⟩:=h
   rcases jS hs hk hv (i+1) h3 hl with⟨a1,a2⟩|⟨j,e',a1,a2,a3,a4⟩
   ·exact .inl ⟨by simp[Instr.findNow,hs hk h1 he,a1],fun born=> .cons h1 h2 (a2 born)⟩
   ·exact .inr ⟨j+1,e',by simp[Instr.findNow,hs hk h1 he,a1];omega,by simpa using a2,a3,by simpa using EntsOk.cons h1 h2 a4⟩
  ·cases h
theorem jP {kk:Bool} {k:AV} (h:isKey kk k=true):isPlain k=true:=by
 cases k<;>cases kk<;>simp[isKey] at h<;>rfl
theorem qc {kk:Bool} {kt:TypeId} (hk:keyKindT P kt=some kk) (em:Bool) (n:Nat) (v:Value) (w:World):(Instr.checkKey em (n+1) kt v).run P w= .ok () w:=by
 unfold keyKindT at hk
 split at hk
 ·rename_i hd;simp[Instr.checkKey,run_underlying hd]
 ·rename_i hd;simp[Instr.checkKey,run_underlying hd]
 ·cases hk
theorem Vn {t:TypeId} {z:AV} (h:plainZero P t=some z) (w:World): ∃v,(zeroValue t).run P w= .ok v w∧PRep z v:=by
 unfold plainZero at h
 split at h
 ·rename_i z' hz
  split at h
  ·rename_i hp
   injection h with h;subst h
   obtain⟨v,h1,h2⟩:=v3 hz w
   exact⟨v,h1,(zS (g:=⟨fun _=>none,fun _=>none,fun _ _=>none,0,fun _=>false,fun _=>none⟩) (w:=w) h2).plain hp⟩
  ·cases h
 ·cases h
theorem VE (hR:Reps g w ρ a.tmps.toList) (I:Inv g w m) {t kt et:TypeId} {x k:Operand} {x' k':Opd} {kk:Bool} {z:AV} {ps:List AV} (hop:o.op= .lookup t x k false) (ht:P.underlying t=some (.map kt et)) (hk:keyKindT P kt=some kk) (hz:plainZero P et=some z)
  (hx:compOpd x=some x') (hkx:compOpd k=some k') (hps:m.ents (x'.ev ρ)=some ps) (hky:isKey kk (k'.ev ρ)=true) (hg:mapGet kk z (k'.ev ρ) ps=some r):Yields P a o g w r m:=by
 have h1:=za hR hx
 have h2:=(za hR hkx).plain (jP hky)
 unfold Mem.ents at hps
 split at hps
 ·rename_i l i st hxe
  split at hps
  ·rename_i ps0 hb
   injection hps with hps;subst hps
   rw[hxe] at h1
   obtain⟨b,hmp,hv⟩:=h1.inv_mapR
   obtain⟨b0,ps1,es,clock,e1,e2,e3,e4,e5⟩:=I.map (zj hb) hmp rfl
   simp only at e1 e3
   rw[hmp] at e1
   injection e1 with e1;subst e1
   injection e3 with e3 _;injection e3 with e3;subst e3
   obtain⟨d,hd,hs⟩:=jN hk
   obtain⟨zv,hzv,hzr⟩:=Vn hz w
   rcases jT hs h2 0 e5 hg with⟨f1,rfl⟩|⟨j,v,f1,f2⟩
   ·refine .pure I (v:=zv) ?_ hzr.rep
    simp[execOp,hop,hv,Instr.lookup,run_underlying ht,MapKept.run_getObj_map e4,qc hk,Instr.findKey,run_underlying hd,f1,hzv,Result.andThen]
   ·refine .pure I (v:=v) ?_ f2.rep
    simp[execOp,hop,hv,Instr.lookup,run_underlying ht,MapKept.run_getObj_map e4,qc hk,Instr.findKey,run_underlying hd,f1,Result.andThen]
  ·cases hps
 ·cases hps
theorem Xx {kk:Bool} {x y:AV} {u v:Value} (h1:PRep x u) (h2:PRep y v) (h:keyEq kk x y=some true) (n:Nat):Instr.sameBits n v u=true:=by
 cases h1<;>cases h2<;>cases kk<;>simp only[keyEq] at h<;>first|(cases h;done)|skip
 ·split at h
  ·rename_i hs
   injection h with h
   have:=tw hs
   have h':=beq_iff_eq.1 h
   subst this;subst h'
   cases n<;>simp[Instr.sameBits]
  ·cases h
 ·rename_i l s h1 l' s' h2
  injection h with h
  have h':=beq_iff_eq.1 h
  have:s=s':=by cases s;cases s';simp at h1 h2;subst h1;subst h2;simpa using h'
  subst this
  have hb:(s==s)=true:=by rw[Xk];simp
  cases n<;>simp[Instr.sameBits,hb]
theorem VC (hR:Reps g w ρ a.tmps.toList) (I:Inv g w m) {t kt et:TypeId} {x k v:Operand} {x' k' v':Opd} {kk:Bool} (hop:o.op= .mapUpdate t x k v) (ht:P.underlying t=some (.map kt et)) (hk:keyKindT P kt=some kk)
  (hx:compOpd x=some x') (hkx:compOpd k=some k') (hvx:compOpd v=some v') (he:evMput m kk (x'.ev ρ) (k'.ev ρ) (v'.ev ρ)=some (r,m')):Yields P a o g w r m':=by
 unfold evMput at he
 split at he
 ·rename_i l i st hxe
  split at he
  ·rename_i ps hps
   split at he
   ·rename_i hc
    simp only[w04] at hc
    obtain⟨⟨c1,c2⟩,c3⟩:=hc
    simp only[w01,Prod.mk.injEq] at he
    obtain⟨ps',hput,rfl,rfl⟩:=he
    have h1:=za hR hx
    have h2:=(za hR hkx).plain (jP c1)
    have h3:=(za hR hvx).plain c2
    simp only[Mem.ents] at hps
    split at hps
    ·rename_i ps0 hb
     injection hps with hps;subst hps
     rw[hxe] at h1
     obtain⟨b,hmp,hv⟩:=h1.inv_mapR
     obtain⟨b0,ps1,es,clock,e1,e2,e3,e4,e5⟩:=I.map (zj hb) hmp rfl
     simp only at e1 e3
     rw[hmp] at e1
     injection e1 with e1;subst e1
     injection e3 with e3 _;injection e3 with e3;subst e3
     obtain⟨d,hd,hs⟩:=jN hk
     rcases jS hs h2 h3 0 e5 hput with⟨f1,f2⟩|⟨j,e,f1,f2,⟨k0,f3,f4⟩,f5⟩
     ·obtain⟨k1,k2⟩:=I.put_map (ps':=ps') (es':=es.push ⟨a.eval k,a.eval v,clock⟩) (c':=clock+1) hb hmp (by simpa using f2 clock)
      refine⟨g,_,Go.undef,.inr ⟨?_,rfl⟩,k1,k2,zZ _ _⟩
      simp[execOp,hop,hv,Instr.mapUpdate,run_underlying ht,MapKept.run_getObj_map e4,qc hk,Instr.findKey,run_underlying hd,f1,MapKept.run_setObj_map _ e4,setMap,Result.andThen]
     ·obtain⟨k1,k2⟩:=I.put_map (ps':=ps') (es':=es.modify j fun e=>{e with key:=a.eval k,val:=a.eval v}) (c':=clock) hb hmp (by simpa using f5)
      refine⟨g,_,Go.undef,.inr ⟨?_,rfl⟩,k1,k2,zZ _ _⟩
      have hge:es[j]? =some e:=by simpa using f2
      have hst:(Instr.keyThatStays e.key (a.eval k)).run P w= .ok (a.eval k) w:=by
       simp[Instr.keyThatStays,Xx h2 f3 f4]
      simp only[w1b] at f1
      simp[execOp,hop,hv,Instr.mapUpdate,run_underlying ht,MapKept.run_getObj_map e4,qc hk,Instr.findKey,run_underlying hd,f1,hge,hst,MapKept.run_setObj_map _ e4,setMap,Result.andThen]
    ·cases hps
   ·cases he
  ·cases he
 ·cases he
end
section
variable {P : Program} {g : G} {w : World} {ρ : List AV} {a : Act} {m m' : Mem} {o : Oper} {r : AV}
theorem kI (I:Inv g w m) {s:Nat} (h0:0<s) {y:AV} {v:Value} {ys:List AV} (hng: ∀s l k st n,y≠ .grow s l k st n) (hns: ∀b,y≠ .str b) (hy:m.elems s y=some ys) (h:Rep g w y v):
  ∃base cap us,v= .slice base ys.length cap∧Reps g w (ys.flatMap AV.cells) us∧us.length=ys.length*s∧(∀(i:Nat) (x:AV),ys[i]? =some x→x.cells.length=s)∧
   (base=none→ys=[])∧ ∀ad,base=some ad→ ∀(j:Nat) (u:Value),us[j]? =some u→w.cell? (ad.add j)=some u:=by
 unfold Mem.elems at hy
 split at hy
 ·rename_i l k st off len
  split at hy
  ·rename_i cs hblk
   split at hy
   ·rename_i hcond
    simp only[w04,decide_eq_true_eq] at hcond
    injection hy with hy;subst hy
    obtain⟨q1,q2,q3⟩:=vE h0 len (cs.drop off) (by simp;omega) hcond.2
    rw[q1,q3]
    rcases jw I h hblk with⟨rfl,b,cap,hv⟩|⟨b,oo,cap,us,hv,hcap,hreps,hcell⟩
    ·exact⟨some b,cap,[],hv,by simpa using Reps.nil g w,by simp,q2,fun e=>(by cases e),fun ad _ j u hj=>by simp at hj⟩
    ·refine⟨_,cap,us.take (len*s),hv,hreps.take (len*s),?_,q2,fun e=>(by cases e),fun ad had j u hj=> ?_⟩
     ·rw[w21,hreps.1,List.length_drop];omega
     ·injection had with had;subst had
      rw[w0f] at hj
      split at hj
      ·rw[zt];exact hcell j u hj
      ·cases hj
   ·cases hy
  ·cases hy
 ·exact absurd rfl (hng _ _ _ _ _)
 rename_i hna hna2
 clear hna hna2
 unfold elemsOf at hy
 split at hy
 ·injection hy with hy;subst hy
  rw[h.inv_nils]
  exact⟨none,0,[],rfl,Reps.nil g w,by simp,fun i x hx=>by simp at hx,fun _=>rfl,fun ad e=>by cases e⟩
 ·rename_i s' tk xs
  split at hy
  ·rename_i hs
   have hs':s'=s:=eq_of_beq hs
   subst hs'
   injection hy with hy;subst hy
   rcases h.inv_list with⟨b,oo,cap,hv,hsz,hcap,htk,f,hc,hr⟩|⟨rfl,b,cap,hv,_⟩
   ·obtain⟨us,k1,k2,k3⟩:=yP h0 hsz hc hr
    refine⟨_,cap,us,hv,k1,k2,hsz,fun e=>(by cases e),fun ad had j u hj=> ?_⟩
    injection had with had;subst had
    rw[zt];exact(k3 j u hj).1
   ·exact⟨some b,cap,[],hv,Reps.nil g w,by simp,fun i x hx=>by simp at hx,fun e=>(by cases e),fun ad _ j u hj=>by simp at hj⟩
  ·cases hy
 ·exact absurd rfl (hns _)
 ·cases hy
theorem UC (I:Inv g w m) {s:Nat} (h0:0<s) {y:AV} {v:Value} {ys:List AV} (hns: ∀b,y≠ .str b) (hy:m.elems s y=some ys) (h:Rep g w y v):
  ∃base cap us,v= .slice base ys.length cap∧Reps g w (ys.flatMap AV.cells) us∧us.length=ys.length*s∧(∀(i:Nat) (x:AV),ys[i]? =some x→x.cells.length=s)∧
   (base=none→ys=[])∧ ∀ad,base=some ad→ ∀(j:Nat) (u:Value),us[j]? =some u→w.cell? (ad.add j)=some u:=by
 by_cases hg: ∃s l k st n,y= .grow s l k st n
 ·obtain⟨s',l,k,st,n,rfl⟩:=hg
  rw[Zt] at hy
  exact kI I h0 (fun _ _ _ _ _ e=>by cases e) (fun _ e=>by cases e) hy h.grow_arr
 ·exact kI I h0 (fun s l k st n e=>hg ⟨s,l,k,st,n,e⟩) hns hy h
theorem X6 {s:Nat}: ∀(n:Nat) (zs:List AV),(∀(i:Nat) (x:AV),zs[i]? =some x→x.cells.length=s)→(zs.take n).flatMap AV.cells=(zs.flatMap AV.cells).take (n*s)
 |0,zs,_=>by simp
 |n+1,[],_=>by simp
 |n+1,z::zs,h=>by
  have h1:=h 0 z rfl
  rw[List.take_succ_cons,w26,w26,X6 n zs (fun i x hx=>h (i+1) x (by simpa using hx)),w20,Nat.one_mul,Nat.add_comm (n*s) s,←h1,List.take_length_add_append]
theorem YN (w:World) (dT sT ty elem:TypeId) {ti:TypeInfo} (d:Option Addr) (dLen dCap sLen sCap:Nat) (sa:Option Addr) (cs:List Value) (w':World)
  (hu:P.underlying dT=some (.slice elem)) (hi:P.info? elem=some ti)
  (hf:(Builtin.firstCells ti.size (Nat.min sLen dLen) (.slice sa sLen sCap)).run P w= .ok cs.toArray w)
  (hst: ∀ad,d=some ad→(storeCells ad cs).run P w= .ok () w') (hn:d=none→w'=w):
  (Builtin.copy_ #[dT,sT] ty #[.slice d dLen dCap,.slice sa sLen sCap]).run P w= .ok (goInt (Nat.min sLen dLen)) w':=by
 cases d with
 |none=>
  rw[hn rfl]
  simp[Builtin.copy_,run_underlying hu,Builtin.lenOf,sizeOf,typeInfo,hi,hf]
 |some ad=>
  simp[Builtin.copy_,run_underlying hu,Builtin.lenOf,sizeOf,typeInfo,hi,hf,hst ad rfl]
theorem VY (hR:Reps g w ρ a.tmps.toList) (I:Inv g w m) {c:Call} {t tx e:TypeId} {x y:Operand} {x' y':Opd} {ti:TypeInfo} (hop:o.op= .call c) (hc:c.callee= .builtin .copy) (hA:c.argTypes.toList=[t,tx]) (ha:c.args.toList=[x,y]) (hx:compOpd x=some x') (hy:compOpd y=some y')
  (ht:P.underlying t=some (.slice e)) (hi:P.info? e=some ti) (h0:0<ti.size) (he:evCopy m ti.size (x'.ev ρ) (y'.ev ρ)=some (r,m')):Yields P a o g w r m':=by
 have h1:=(za hR hx).asArr
 have h2:=za hR hy
 have hargs:c.args= #[x,y]:=by apply Array.ext';simpa using ha
 have hargT:c.argTypes= #[t,tx]:=by apply Array.ext';simpa using hA
 have run: ∀v w',(Builtin.copy_ #[t,tx] o.type #[a.eval x,a.eval y]).run P w= .ok v w'→(execOp a.eval o).run P w= .ok (.value v) w':=by
  intro v w' hv
  simp[execOp,hop,resolve,hc,hargs,hargT,invoke,builtin,hv]
 unfold evCopy evCopy0 at he
 split at he
 ·cases he
 ·rename_i _ l k st off len hd hns
  split at he
  ·rename_i ys cs hys hb
   split at he
   ·rename_i hcond
    simp only[w04,decide_eq_true_eq] at hcond
    obtain⟨⟨c1,c2⟩,_⟩:=hcond
    obtain⟨base,cap,us,hv,k1,k2,k3,k4,k5⟩:=UC I h0 (fun b hb=>hns b hb) hys h2
    rw[hd] at h1
    have hmin:Nat.min ys.length len≤ys.length:=Nat.min_le_left _ _
    have hmin2:Nat.min ys.length len≤len:=Nat.min_le_right _ _
    have hmul:Nat.min ys.length len*ti.size≤ys.length*ti.size:=Nat.mul_le_mul_right _ hmin
    have hmul2:Nat.min ys.length len*ti.size≤len*ti.size:=Nat.mul_le_mul_right _ hmin2
    have hul:(us.take (len*ti.size)).length=Nat.min ys.length len*ti.size:=by
     rw[w21,k2]
     by_cases hle:ys.length≤len
     ·have h1:Nat.min ys.length len=ys.length:=Nat.min_eq_left hle
      have:=Nat.mul_le_mul_right ti.size hle
      rw[h1];omega
     ·have h1:Nat.min ys.length len=len:=Nat.min_eq_right (by omega)
      have:=Nat.mul_le_mul_right ti.size (show len≤ys.length by omega)
      rw[h1];omega
    have hfc:(Builtin.firstCells ti.size (Nat.min ys.length len) (.slice base ys.length cap)).run P w= .ok (us.take (len*ti.size)).toArray w:=by
     cases base with
     |none=>
      have:us=[]:=by
       have:=k4 rfl
       subst this
       exact w10 (by simpa using k2)
      subst this
      simpa using run_firstCells_none (P:=P) (w:=w) ti.size (Nat.min ys.length len) ys.length cap
     |some sa=>
      refine run_firstCells_some (P:=P) w ti.size _ sa ys.length cap _ hul (fun j v hj=> ?_)
      rw[w0f] at hj
      split at hj
      ·exact k5 sa rfl j v hj
      ·cases hj
    split at he
    ·rename_i hn
     simp only[Option.some.injEq,Prod.mk.injEq] at he
     obtain⟨rfl,rfl⟩:=he
     obtain⟨d,dcap,hdv⟩: ∃d dcap,a.eval x= .slice d len dcap:=by
      rcases h1.inv_arr with⟨b,oo,en,dcap,_,hv,_⟩|⟨rfl,ad,dcap,hv⟩
      ·exact⟨_,_,hv⟩
      ·exact⟨_,_,hv⟩
     refine .pure I (v:= .int .i64 0) (run _ _ ?_) (.int _ _)
     rw[hdv,hv]
     have hn':Nat.min ys.length len=0:=hn
     have hnil:us.take (len*ti.size)=[]:=w10 (by rw[hul,hn'];simp)
     have:=YN (P:=P) w t tx o.type e d len dcap ys.length cap base _ w ht hi hfc (fun ad _=>by rw[hnil];simp[storeCells]) (fun _=>rfl)
     rw[hn'] at this
     exact this
    ·rename_i hn
     simp only[Option.some.injEq,Prod.mk.injEq] at he
     obtain⟨rfl,rfl⟩:=he
     have hn': ¬Nat.min ys.length len=0:=hn
     rcases h1.inv_arr with⟨b,oo,en,dcap,hb1,hdv,hcap⟩|⟨rfl,ad,dcap,hdv⟩
     rotate_left
     ·exact absurd (by simp) hn
     have hsub: ∀(i:Nat) (x:AV),(ys.take len)[i]? =some x→x.cells.length=ti.size:=fun i x hx=>by
      rw[w0f] at hx
      split at hx
      ·exact k3 i x hx
      ·cases hx
     have hreps:Reps g w ((ys.take len).flatMap AV.cells) (us.take (len*ti.size)):=by rw[X6 len ys k3];exact k1.take _
     have hnl:((ys.take len).flatMap AV.cells).length=Nat.min ys.length len*ti.size:=by rw[←hreps.1,hul]
     have hpos:0<Nat.min ys.length len*ti.size:=Nat.mul_pos (by omega) h0
     obtain⟨b2,o2,e2,q1,q2,q3,q4⟩:=I.store (off:=off) (new:=(ys.take len).flatMap AV.cells) hb hb1 (by omega) (by omega) hreps
     rw[hb1] at q1
     obtain⟨rfl,rfl,rfl⟩:b=b2∧oo=o2∧en=e2:=by simpa using q1
     refine⟨g,_,.int .i64 ((min ys.length len:Nat):Int),.inl (run _ _ ?_),q3,q4,.int _ _⟩
     rw[hdv,hv]
     have hst:=run_storeCells_cells (P:=P) b (oo+off) (us.take (len*ti.size)) 0 w (fun j hj=>by simpa using (q2 (oo+off+j) (by omega) (by omega)).2.2)
      (fun j hj=>by simpa using (q2 (oo+off+j) (by omega) (by omega)).2.1) (hreps.one c2)
     simp only[Nat.add_zero] at hst
     exact YN (P:=P) w t tx o.type e (some ⟨b,oo+off,none⟩) len dcap ys.length cap base _ _ ht hi hfc (fun ad had=>by injection had with had;subst had;exact hst) (fun e=>by cases e)
   ·cases he
  ·cases he
 ·cases he
theorem Th (hR:Reps g w ρ a.tmps.toList) (I:Inv g w m) {c:Call} {t e:TypeId} {x:Operand} {x':Opd} {z:AV} (hop:o.op= .call c) (hc:c.callee= .builtin .clear) (hA:c.argTypes.toList=[t]) (ha:c.args.toList=[x]) (hx:compOpd x=some x')
  (ht:P.underlying t=some (.slice e)) (hz:zeroT P e=some z) (h0:0<z.cells.length) (he:evClr m z.cells (x'.ev ρ)=some (r,m')):Yields P a o g w r m':=by
 have h1:=(za hR hx).asArr
 have hargs:c.args= #[x]:=by apply Array.ext';simpa using ha
 have hargT:c.argTypes= #[t]:=by apply Array.ext';simpa using hA
 have run: ∀v w',(Builtin.clear_ #[t] o.type #[a.eval x]).run P w= .ok v w'→(execOp a.eval o).run P w= .ok (.value v) w':=by
  intro v w' hv
  simp[execOp,hop,resolve,hc,hargs,hargT,invoke,builtin,hv]
 unfold evClr evClr0 at he
 split at he
 ·rename_i l k st off len hd
  rw[hd] at h1
  split at he
  ·rename_i cs hb
   split at he
   ·rename_i hcond
    simp only[w04,decide_eq_true_eq] at hcond
    obtain⟨⟨c1,c2⟩,_⟩:=hcond
    split at he
    ·rename_i hn
     have hl0:len=0:=by rcases Nat.mul_eq_zero.1 hn with h|h<;>omega
     subst hl0
     simp only[Option.some.injEq,Prod.mk.injEq] at he
     obtain⟨rfl,rfl⟩:=he
     refine .pure I (v:= .tuple #[]) (run _ _ ?_) (zZ g w)
     rcases h1.inv_arr with⟨b,oo,en,dcap,_,hv,_⟩|⟨_,ad,dcap,hv⟩
     ·rw[hv];simp[Builtin.clear_,run_underlying ht]
     ·rw[hv];simp[Builtin.clear_,run_underlying ht]
    ·rename_i hn
     simp only[Option.some.injEq,Prod.mk.injEq] at he
     obtain⟨rfl,rfl⟩:=he
     have hlp:0<len:=Nat.pos_of_ne_zero fun h=>hn (by rw[h];simp)
     rcases h1.inv_arr with⟨b,oo,en,dcap,hb1,hv,hcap⟩|⟨h,_⟩
     rotate_left
     ·omega
     obtain⟨zv,hzv,hav⟩:=v3 hz w
     have hzr:=(zS (g:=g) (w:=w) hav).cells h0
     have hzl:zv.cells.size=z.cells.length:=by have:=hzr.1;simpa using this
     have hrep:=yO hzr len
     have hfl:(flatRep z.cells len).length=len*z.cells.length:=by
      have: ∀n,(flatRep z.cells n).length=n*z.cells.length:=by
       intro n
       induction n with
       |zero=>simp[flatRep]
       |succ n ih=>simp only[flatRep,w18,ih,w20];omega
      exact this len
     have hpos:0<len*z.cells.length:=Nat.mul_pos hlp h0
     obtain⟨b2,o2,e2,q1,q2,q3,q4⟩:=I.store (off:=off) (new:=flatRep z.cells len) hb hb1 (by omega) (by omega) hrep
     rw[hb1] at q1
     obtain⟨rfl,rfl,rfl⟩:b=b2∧oo=o2∧en=e2:=by simpa using q1
     refine⟨g,_,.tuple #[],.inl (run _ _ ?_),q3,q4,zZ g _⟩
     have hone: ∀u∈(List.replicate len zv.cells.toList).flatten,u.oneCell'=true:=fun u hu=>by
      obtain⟨l',hl',hu'⟩:=List.mem_flatten.1 hu
      rw[List.eq_of_mem_replicate hl'] at hu'
      exact hzr.one c2 u hu'
     have hst:=run_storeCells_cells (P:=P) b (oo+off) ((List.replicate len zv.cells.toList).flatten) 0 w (fun j hj=>by simpa using (q2 (oo+off+j) (by omega) (by omega)).2.2)
      (fun j hj=>by simpa using (q2 (oo+off+j) (by omega) (by omega)).2.1) hone
     simp only[Nat.add_zero] at hst
     have hzc:(Builtin.zeroCells zv.cells len).toList=(List.replicate len zv.cells.toList).flatten:=by
      unfold Builtin.zeroCells
      have:=rangeZ (s:=zv.cells.size) (by omega) zv.cells rfl len
      rw[this]
     rw[hv]
     obtain⟨n',rfl⟩: ∃n',len=n'+1:=⟨len-1,by omega⟩
     simp[Builtin.clear_,run_underlying ht,hzv,hzc,hst]
   ·cases he
  ·cases he
 ·cases he
end
section
variable {P : Program} {g : G} {w : World} {ρ : List AV} {a : Act} {m m' : Mem} {o : Oper} {r : AV}
theorem Te {e:XOp} (h:compX P o=some e) (hR:Reps g w ρ a.tmps.toList) (I:Inv g w m) (he:evX ρ m e=some (r,m')):Yields P a o g w r m':=by
 unfold compX at h
 split at h
 ·rename_i op xt x y yt hop
  split at h
  ·rename_i neg fs hn ht
   split at h
   ·rename_i ls n x' y' hl hsz hx hy
    split at h
    ·rename_i hg
     injection h with h;subst h
     simp only[evX] at he
     split at he
     ·rename_i xs ys e1 e2
      split at he
      ·rename_i hc
       simp only[w04,beq_iff_eq] at hc
       simp only[w01,Prod.mk.injEq] at he
       obtain⟨b,hb,rfl,rfl⟩:=he
       exact Xe hR I hop hn (by unfold aggT;rw[ht]) hl hx hy hg e1 e2 (by rw[hc.1];exact hsz) (by rw[hc.2];exact hsz) hb
      ·cases he
     ·cases he
    ·cases h
   ·cases h
  ·rename_i neg _ _ hn ht
   split at h
   ·rename_i ls n x' y' hl hsz hx hy
    split at h
    ·rename_i hg
     injection h with h;subst h
     simp only[evX] at he
     split at he
     ·rename_i xs ys e1 e2
      split at he
      ·rename_i hc
       simp only[w04,beq_iff_eq] at hc
       simp only[w01,Prod.mk.injEq] at he
       obtain⟨b,hb,rfl,rfl⟩:=he
       exact Xe hR I hop hn (by unfold aggT;rw[ht]) hl hx hy hg e1 e2 (by rw[hc.1];exact hsz) (by rw[hc.2];exact hsz) hb
      ·cases he
     ·cases he
    ·cases h
   ·cases h
  ·rename_i neg hn _ _
   split at h
   ·rename_i kd hk
    simp only[w01] at h
    obtain⟨x',hx,rfl⟩:=h
    simp only[evX,w01,Prod.mk.injEq] at he
    obtain⟨b,hb,rfl,rfl⟩:=he
    exact jO hR I hop hn (.inl ⟨rfl,hk⟩) hx hb
   ·split at h
    ·rename_i kd hk
     simp only[w01] at h
     obtain⟨x',hx,rfl⟩:=h
     simp only[evX,w01,Prod.mk.injEq] at he
     obtain⟨b,hb,rfl,rfl⟩:=he
     exact jO hR I hop hn (.inr ⟨rfl,hk⟩) hx hb
    ·cases h
  ·cases h
 ·rename_i x hop
  simp only[w01] at h
  obtain⟨x',hx,rfl⟩:=h
  simp only[evX,w01,Prod.mk.injEq] at he
  obtain⟨b,hb,rfl,rfl⟩:=he
  exact XE hR I hop hx hb
 ·rename_i c hop
  split at h
  ·rename_i t tx x y hc hA ha
   split at h
   ·rename_i e x' y' ht hx hy
    split at h
    ·rename_i ti hi
     split at h
     ·rename_i h0
      injection h with h;subst h
      simp only[evX] at he
      exact VY hR I hop hc hA ha hx hy ht hi h0 he
     ·cases h
    ·cases h
   ·cases h
  ·rename_i t x hc hA ha
   split at h
   ·rename_i e x' ht hx
    split at h
    ·rename_i z hz
     split at h
     ·rename_i h0
      injection h with h;subst h
      simp only[evX] at he
      exact Th hR I hop hc hA ha hx ht hz h0 he
     ·cases h
    ·cases h
   ·cases h
  ·cases h
 ·rename_i t hop
  split at h
  ·injection h with h;subst h
   simp only[evX,Option.some.injEq,Prod.mk.injEq] at he
   obtain⟨rfl,rfl⟩:=he
   exact WA I hop
  ·cases h
 ·rename_i t x k hop
  split at h
  ·rename_i kt et ht
   split at h
   ·rename_i kk z x' k' hk hz hx hkx
    injection h with h;subst h
    simp only[evX] at he
    split at he
    ·rename_i ps hps
     split at he
     ·rename_i hky
      simp only[w01,Prod.mk.injEq] at he
      obtain⟨v,hv,rfl,rfl⟩:=he
      exact VE hR I hop ht hk hz hx hkx hps hky hv
     ·cases he
    ·cases he
   ·cases h
  ·cases h
 ·rename_i t x k v hop
  split at h
  ·rename_i kt et ht
   split at h
   ·rename_i kk x' k' v' hk hx hkx hvx
    injection h with h;subst h
    simp only[evX] at he
    exact VC hR I hop ht hk hx hkx hvx he
   ·cases h
  ·cases h
 ·cases h
theorem k6 {c:Call} {t tx e:TypeId} {ik:IntKind} {x y:Operand} {op:AOp} (hop:o.op= .call c) (hc:c.callee= .builtin .append) (hA:c.argTypes.toList=[t,tx]) (ha:c.args.toList=[x,y]) (ht:P.underlying t=some (.slice e)) (htx:P.underlying tx=some (.int ik)) (h:appMake P e x y=some op):
  ∃ts ti x' n,op= .app 1 1 x' (.c (.str (List.replicate n 0)))∧AppRun P o t ts x (.c (.str (List.replicate n 0)))∧compOpd x=some x'∧P.underlying ts=some .string∧P.info? e=some ti∧ti.size=1∧ti.bytes=1∧(ti.zero.map fun z=>z.cells.size)=some ti.size:=by
 unfold appMake at h
 split at h
 ·rename_i k n ti a0 ts hi hz hx hst
  split at h
  ·rename_i hcond
   obtain⟨h0,hn,h1,hb⟩:=hcond
   injection h with h;subst h
   have hts:P.underlying ts=some .string:=by
    have:=List.find?_some hst
    split at this
    ·assumption
    ·cases this
   obtain⟨z,hz1,hz2⟩: ∃z,ti.zero=some z∧z.cells= #[.int .u8 0]:=by
    simp only[zeroT,hi,w16,w02] at hz
    obtain⟨z,hz1,hz2⟩:=hz
    refine⟨z,hz1,?_⟩
    unfold avOf at hz2
    split at hz2
    ·simp only[w01] at hz2;obtain⟨_,_,hz2⟩:=hz2;cases hz2
    ·split at hz2<;>cases hz2
    ·unfold avCell at hz2
     split at hz2<;>cases hz2
     rfl
   have hargs:c.args= #[x,.const (.int k n)]:=by apply Array.ext';simpa using ha
   have hargT:c.argTypes= #[t,tx]:=by apply Array.ext';simpa using hA
   refine⟨ts,ti,a0,n.toNat,rfl,fun g w ρ a hR=>⟨.string ⟨Array.replicate n.toNat 0⟩,.str _ _ (by simp),fun v w' hv=> ?_⟩,hx,hts,hi,h1,hb,by rw[hz1,h1];simp[hz2]⟩
   have hn':(Value.int k n)= .int k (n.toNat:Int):=by rw[Int.toNat_of_nonneg (by omega)]
   have key:(Builtin.append_ #[t,tx] o.type #[a.eval x,.int k n]).run P w= .ok v w':=by
    cases hax:a.eval x with
    |slice base sLen sCap=>
     rw[hax] at hv
     rw[hn']
     exact ZF t tx ts o.type e ik ti z ht htx hts hi hz1 hz2 h1 hb k n.toNat _ rfl (by omega) (by omega) base sLen sCap v w' hv
    |_=>rw[hax] at hv;simp[Builtin.append_,run_underlying ht] at hv
   have hac:a.eval (.const (.int k n))= .int k n:=rfl
   simp[execOp,hop,resolve,hc,hargs,hargT,invoke,builtin,hac,key]
  ·cases h
 ·cases h
theorem WW {O:Oracle} {op:AOp} (h:compOp0 P o=some op) (hnc: ∀f l,op≠ .call f l) (hR:Reps g w ρ a.tmps.toList) (I:Inv g w m) (he:evOp O ρ m op=some (r,m')):Yields P a o g w r m':=by
 have pairI: ∀{x:Option AV} {mm:Mem} {v:AV} {m2:Mem},(x.map fun z=>(z,mm))=some (v,m2)→x=some v∧m2=mm:=by
  intro x mm v m2 h
  cases x with
  |none=>simp at h
  |some z=>simp at h;exact⟨by rw[h.1],h.2.symm⟩
 unfold compOp0 at h
 split at h
 ·rename_i x hop
  simp only[w01] at h
  obtain⟨y,hy,rfl⟩:=h
  simp only[evOp,Option.some.injEq,Prod.mk.injEq] at he
  obtain⟨rfl,rfl⟩:=he
  exact YU hR I (.inl hop) hy
 ·rename_i x hop
  simp only[w01] at h
  obtain⟨y,hy,rfl⟩:=h
  simp only[evOp,Option.some.injEq,Prod.mk.injEq] at he
  obtain⟨rfl,rfl⟩:=he
  exact YU hR I (.inr hop) hy
 ·rename_i c x y hop
  split at h
  ·rename_i c' x' y' hc hx hy
   injection h with h;subst h
   simp only[evOp] at he
   split at he
   ·rename_i t ht
    simp only[Option.some.injEq,Prod.mk.injEq] at he
    obtain⟨rfl,rfl⟩:=he
    exact Vx hR I hop hc hx hy ht
   ·cases he
  ·cases h
 ·rename_i e hop
  simp only[w02] at h
  obtain⟨z,hz,h⟩:=h
  split at h
  ·rename_i hpos
   injection h with h;subst h
   simp only[evOp,Option.some.injEq] at he
   have:=Vc (P:=P) (a:=a) I hop hz hpos
   rw[he] at this
   exact this
  ·cases h
 ·rename_i e x hop
  split at h
  ·rename_i n y hn hy
   split at h
   ·rename_i hpos
    injection h with h;subst h
    simp only[evOp] at he
    split at he
    ·rename_i hl
     injection he with he
     have:=To (P:=P) hR I hop hy (eq_of_beq hl) hpos
     rw[he] at this
     exact this
    ·cases he
   ·cases h
  ·cases h
 ·rename_i t ps hop
  split at h
  ·rename_i z fs hz ht
   split at h
   ·rename_i hall
    simp only[w01] at h
    obtain⟨l,hl,rfl⟩:=h
    simp only[evOp] at he
    simp only[w01,Prod.mk.injEq] at he
    obtain⟨cs,he,rfl,rfl⟩:=he
    exact qZ hR I hop hz ht hall hl he
   ·cases h
  ·rename_i z n e hz ht
   split at h
   ·rename_i s hs
    split at h
    ·rename_i hpos
     simp only[w01] at h
     obtain⟨l,hl,rfl⟩:=h
     simp only[evOp] at he
     simp only[w01,Prod.mk.injEq] at he
     obtain⟨cs,he,rfl,rfl⟩:=he
     exact jv hR I hop hz ht hs hl he hpos
    ·cases h
   ·cases h
  ·cases h
 ·rename_i t len ps hop
  split at h
  ·rename_i e ht
   split at h
   ·rename_i ti hi
    split at h
    ·rename_i hc
     simp only[w01,w02] at h
     obtain⟨l,⟨xs,hp,hl⟩,rfl⟩:=h
     simp only[evOp] at he
     split at he
     ·rename_i hall
      simp only[Option.some.injEq,Prod.mk.injEq] at he
      obtain⟨rfl,rfl⟩:=he
      exact UO hR I hop ht hi hc.1 hc.2.1 hc.2.2.1 hc.2.2.2 hp hl hall
     ·cases he
    ·cases h
   ·cases h
  ·cases h
 ·rename_i t x hop
  split at h
  ·rename_i b n y hb hn hy
   split at h
   ·injection h with h;subst h
    simp only[evOp,w02] at he
    obtain⟨cs,hc,he⟩:=he
    obtain⟨hq,rfl⟩:=pairI he
    exact VG hR I hop hy hb hn hc hq
   ·cases h
  ·cases h
 ·rename_i t x y hop
  split at h
  ·rename_i n x' y' hn hx hy
   split at h
   ·rename_i hpos
    injection h with h;subst h
    simp only[evOp] at he
    exact Wc hR I hop hx hy hn he hpos
   ·cases h
  ·cases h
 ·rename_i bop xt x y yt hop
  split at h
  ·rename_i x' y' hx hy
   split at h
   ·rename_i hbool
    split at h
    ·injection h with h;subst h
     simp only[evOp] at he
     split at he
     ·rename_i u v e1 e2
      simp only[Option.some.injEq,Prod.mk.injEq] at he
      obtain⟨rfl,rfl⟩:=he
      exact Xn hR I hop hx hy hbool e1 e2 false rfl
     ·cases he
    ·injection h with h;subst h
     simp only[evOp] at he
     split at he
     ·rename_i u v e1 e2
      simp only[Option.some.injEq,Prod.mk.injEq] at he
      obtain⟨rfl,rfl⟩:=he
      exact Xn hR I hop hx hy hbool e1 e2 true rfl
     ·cases he
    ·cases h
   ·injection h with h;subst h
    simp only[evOp] at he
    obtain⟨hq,rfl⟩:=pairI he
    exact Tp hR I hop hx hy hq
  ·cases h
 ·rename_i uop t x hop
  simp only[w01] at h
  obtain⟨y,hy,rfl⟩:=h
  simp only[evOp] at he
  obtain⟨hq,rfl⟩:=pairI he
  exact Tt hR I hop hy hq
 ·rename_i s d x hop
  split at h
  ·rename_i j k y hs hd hy
   injection h with h;subst h
   simp only[evOp] at he
   split at he
   ·rename_i k' n e1
    simp only[Option.some.injEq,Prod.mk.injEq] at he
    obtain⟨rfl,rfl⟩:=he
    exact VZ hR I hop hy hs hd e1
   ·cases he
  ·rename_i y hs hd hy
   injection h with h;subst h
   simp only[evOp] at he
   split at he
   ·rename_i b e1
    simp only[Option.some.injEq,Prod.mk.injEq] at he
    obtain⟨rfl,rfl⟩:=he
    exact Ys hR I hop hy hs hd e1
   ·cases he
  ·rename_i e y hs hd hy
   split at h
   ·rename_i hu
    injection h with h;subst h
    simp only[evOp] at he
    obtain⟨hq,rfl⟩:=pairI he
    exact Wa hR I hop hy hs hd hu hq
   ·cases h
  ·rename_i e y hs hd hy
   split at h
   ·rename_i hu
    injection h with h;subst h
    simp only[evOp] at he
    split at he
    ·rename_i b e1
     split at he
     ·simp only[Option.some.injEq,Prod.mk.injEq] at he
      obtain⟨rfl,rfl⟩:=he
      simp only[w04] at hu
      exact Y4 hR I hop hy hs hd hu.1 e1
     ·cases he
    ·cases he
   ·cases h
  ·cases h
 ·rename_i f x y hop
  split at h
  ·rename_i x' y' hx hy
   injection h with h;subst h
   simp only[evOp,Option.some.injEq,Prod.mk.injEq] at he
   obtain⟨rfl,rfl⟩:=he
   exact VD hR I hop hx hy
  ·cases h
 ·rename_i t x i hop
  split at h
  ·rename_i fs y ht hy
   split at h
   ·rename_i f hf
    split at h
    ·rename_i ti hi
     split at h
     ·cases h
     ·rename_i hne
      injection h with h;subst h
      simp only[evOp] at he
      obtain⟨hq,rfl⟩:=pairI he
      exact WV hR I hop hy ht hf hi hne hq
    ·cases h
   ·cases h
  ·cases h
 ·rename_i t x i hop
  split at h
  ·rename_i fs y ht hy
   split at h
   ·rename_i f hf
    split at h
    ·rename_i b n hb hn
     split at h
     ·injection h with h;subst h
      simp only[evOp] at he
      split at he
      ·rename_i cs e1
       obtain⟨hq,rfl⟩:=pairI he
       exact WU hR I hop hy ht hf hb hn e1 hq
      ·cases he
     ·cases h
    ·cases h
   ·cases h
  ·cases h
 ·rename_i t x i hop
  split at h
  ·rename_i e x' i' ht hx hi
   simp only[w01] at h
   obtain⟨s,hs,rfl⟩:=h
   simp only[evOp] at he
   obtain⟨hq,rfl⟩:=pairI he
   exact WS hR I hop hx hi ht hs hq
  ·rename_i n e x' i' ht hx hi
   simp only[w01] at h
   obtain⟨s,hs,rfl⟩:=h
   simp only[evOp] at he
   obtain⟨hq,rfl⟩:=pairI he
   exact XR hR I hop hx hi ht hs hq
  ·cases h
 ·rename_i t x i hop
  split at h
  ·rename_i x' i' ht hx hi
   injection h with h;subst h
   simp only[evOp] at he
   split at he
   ·rename_i b e1
    simp only[w02,w01,Prod.mk.injEq] at he
    obtain⟨j,hj,c,hc,rfl,rfl⟩:=he
    exact XP hR I hop hx hi ht e1 hj hc
   ·cases he
  ·rename_i n e x' i' ht hx hi
   split at h
   ·rename_i b s hb hs
    split at h
    ·injection h with h;subst h
     simp only[evOp] at he
     split at he
     ·rename_i cs e1
      simp only[w02,w01,Prod.mk.injEq] at he
      obtain⟨j,hj,c,hc,rfl,rfl⟩:=he
      exact XQ hR I hop hx hi ht hb hs e1 hj hc
     ·cases he
    ·cases h
   ·cases h
  ·cases h
 ·rename_i t x lo hi mx hop
  split at h
  ·rename_i x' lo' hi' ht hx hlo hhi hmx
   injection h with h;subst h
   have:mx=none:=by cases mx with|none=>rfl|some q=>simp[compOpt] at hmx
   subst this
   simp only[evOp] at he
   obtain⟨hq,rfl⟩:=pairI he
   exact Xq hR I hop hx hlo hhi ht hq
  ·rename_i e x' lo' hi' mx' ht hx hlo hhi hmx
   simp only[w02] at h
   obtain⟨s,hs,h⟩:=h
   split at h
   ·rename_i hc
    simp only[w04,decide_eq_true_eq,w14] at hc
    injection h with h;subst h
    simp only[evOp] at he
    obtain⟨hq,rfl⟩:=pairI he
    refine We hR I hop hx hlo hhi hmx ht hs hc.1 (fun hm=> ?_) hq
    rcases hc.2 with h|h
    ·cases mx' with
     |none=>simp at hm
     |some q=>simp at h
    ·exact h
   ·cases h
  ·rename_i n e x' lo' hi' ht hx hlo hhi hmx
   simp only[w01] at h
   obtain⟨s,hs,rfl⟩:=h
   have:mx=none:=by cases mx with|none=>rfl|some q=>simp[compOpt] at hmx
   subst this
   simp only[evOp] at he
   obtain⟨hq,rfl⟩:=pairI he
   exact Xr hR I hop hx hlo hhi ht hs hq
  ·cases h
 ·rename_i t n c hop
  split at h
  ·rename_i e ht
   split at h
   ·rename_i ti z n' c' hi hz hn hc
    split at h
    ·rename_i hcond
     injection h with h;subst h
     simp only[evOp] at he
     exact VF hR I hop hn hc ht hi hz hcond.1 hcond.2 he
    ·cases h
   ·cases h
  ·cases h
 ·rename_i x i hop
  simp only[w01] at h
  obtain⟨y,hy,rfl⟩:=h
  simp only[evOp] at he
  split at he
  ·rename_i vs e1
   obtain⟨hq,rfl⟩:=pairI he
   exact Yr hR I hop hy e1 hq
  ·cases he
 ·rename_i c hop
  unfold compCall at h
  split at h
  ·rename_i f hc
   split at h
   ·injection h with h;exact absurd h.symm (hnc _ _)
   ·cases h
  ·cases h
  ·rename_i b hc
   split at h
   ·rename_i t x hA ha
    split at h
    ·rename_i e ht
     simp only[w01] at h
     obtain⟨y,hy,rfl⟩:=h
     simp only[evOp] at he
     obtain⟨hq,rfl⟩:=pairI he
     exact UP hR I hop hc hA ha hy ht hq
    ·rename_i ht
     simp only[w01] at h
     obtain⟨y,hy,rfl⟩:=h
     simp only[evOp] at he
     split at he
     ·rename_i l e1
      simp only[Option.some.injEq,Prod.mk.injEq] at he
      obtain⟨rfl,rfl⟩:=he
      exact VI hR I hop hc hA ha hy ht e1
     ·cases he
    ·rename_i n e ht
     injection h with h;subst h
     simp only[evOp,Opd.ev,Option.some.injEq,Prod.mk.injEq] at he
     obtain⟨rfl,rfl⟩:=he
     exact VJ I hop hc hA ha ht
    ·cases h
   ·rename_i t tx x y hA ha
    split at h
    ·rename_i e e' ht htx
     split at h
     ·split at h
      ·rename_i ti x' y' hi hx hy
       split at h
       ·rename_i hcond
        injection h with h;subst h
        simp only[evOp] at he
        exact qg hR I (qh hop hc hA ha hy) hx ht (.inl ⟨_,htx⟩) hi hcond.1 hcond.2.1 hcond.2.2 he
       ·cases h
      ·cases h
     ·cases h
    ·rename_i e ht htx
     split at h
     ·rename_i ti x' y' hi hx hy
      split at h
      ·rename_i hcond
       injection h with h;subst h
       simp only[evOp] at he
       exact qg hR I (qh hop hc hA ha hy) hx ht (.inr htx) hi hcond.1 hcond.2.1 hcond.2.2 he
      ·cases h
     ·cases h
    ·rename_i e ik ht htx
     obtain⟨ts,ti,x',n,rfl,q1,q2,q3,q4,q5,q6,q7⟩:=k6 hop hc hA ha ht htx h
     simp only[evOp] at he
     exact qg hR I q1 q2 ht (.inr q3) q4 (by omega) (by omega) q7 (by rw[q5,q6];exact he)
    ·cases h
   ·rename_i x y ha
    split at h
    ·rename_i x' y' hx hy
     injection h with h;subst h
     simp only[evOp] at he
     obtain⟨hq,rfl⟩:=pairI he
     exact TH hR I hop hc ha hx hy hq
    ·cases h
   ·rename_i x y ha
    split at h
    ·rename_i x' y' hx hy
     injection h with h;subst h
     simp only[evOp] at he
     obtain⟨hq,rfl⟩:=pairI he
     exact TI hR I hop hc ha hx hy hq
    ·cases h
   ·cases h
 ·cases h
theorem yH (ds:List Nat) (dst:Option Nat) (op:AOp):markOp ds dst op=op∨(∃s ps,op= .lit s ps∧markOp ds dst op= .ext (.litB s ps))∨(∃p s b x y,op= .app s b x y∧markOp ds dst op= .ext (.appB p s b x y))∨
  (∃s b x y,op= .app s b x y∧markOp ds dst op= .ext (.appK s x y))∨(∃s x lo hi,op= .slice s x lo hi none∧markOp ds dst op= .ext (.slcB s x lo hi))∨(∃v l,op= .call (.c v) l∧markOp ds dst op= .call (.c (.tup [v])) l)∨
  ∃s b z k n k',op= .make s b [z] (.c (.int k n)) (.c (.int k' n))∧z.one=true∧0≤n∧b*n≤281474976710656∧n≤9223372036854775807∧s=1∧markOp ds dst op= .ext (.litB s (List.replicate n.toNat (.c z))):=by
 unfold markOp
 split
 ·split
  ·exact .inr (.inl ⟨_,_,rfl,rfl⟩)
  ·exact .inl rfl
 ·split
  ·exact .inr (.inr (.inl ⟨_,_,_,_,_,rfl,rfl⟩))
  ·split
   ·exact .inr (.inr (.inr (.inl ⟨_,_,_,_,rfl,rfl⟩)))
   ·exact .inl rfl
 ·split
  ·exact .inr (.inr (.inr (.inr (.inl ⟨_,_,_,_,rfl,rfl⟩))))
  ·exact .inl rfl
 ·split
  ·rename_i hc
   simp only[w04,decide_eq_true_eq] at hc
   obtain⟨⟨⟨⟨⟨⟨_,hz⟩,rfl⟩,h0⟩,h1⟩,h2⟩,h3⟩:=hc
   exact .inr (.inr (.inr (.inr (.inr (.inr ⟨_,_,_,_,_,_,rfl,hz,h0,h1,h2,w24 h3,rfl⟩)))))
  ·exact .inl rfl
 ·split
  ·exact .inr (.inr (.inr (.inr (.inr (.inl ⟨_,_,rfl,rfl⟩)))))
  ·exact .inl rfl
 ·exact .inl rfl
theorem WD {ds:List Nat} {dst:Option Nat} {op op':AOp} (h:markOp ds dst op=op') (h2: ∀e,op'≠ .ext e) (h3: ∀f l,op'≠ .call f l):op=op':=by
 rcases yH ds dst op with q|⟨s,ps,_,q⟩|⟨p,s,b,x,y,_,q⟩|⟨s,b,x,y,_,q⟩|⟨s,x,lo,hi,_,q⟩|⟨v,l,_,q⟩|⟨s,b,z,k,n,k',_,_,_,_,_,_,q⟩
 ·rw[←h,q]
 ·exact absurd (h▸q) (h2 _)
 ·exact absurd (h▸q) (h2 _)
 ·exact absurd (h▸q) (h2 _)
 ·exact absurd (h▸q) (h2 _)
 ·exact absurd (h▸q) (h3 _ _)
 ·exact absurd (h▸q) (h2 _)
theorem WE {ds:List Nat} {dst:Option Nat} {op:AOp} {f:Opd} {l:List Opd} (h:markOp ds dst op= .call f l): ∃f0,op= .call f0 l∧(f=f0∨ ∃v,f0= .c v∧f= .c (.tup [v])):=by
 rcases yH ds dst op with q|⟨s,ps,_,q⟩|⟨p,s,b,x,y,_,q⟩|⟨s,b,x,y,_,q⟩|⟨s,x,lo,hi,_,q⟩|⟨v,l',hop,q⟩|⟨s,b,z,k,n,k',hop,c1,c2,c3,c4,c5,q⟩<;>rw[h] at q<;>first|(cases q;done)|skip
 ·exact⟨f,q.symm,.inl rfl⟩
 ·injection q with q1 q2
  subst q1;subst q2
  exact⟨_,hop,.inr ⟨v,rfl,rfl⟩⟩
theorem Zx {s:Nat} {l:List Opd} (hc:compOp1 P o=some (.lit s l)): ∃t e len ps ti xs,o.op= .buildSlice t len ps∧P.underlying t=some (.slice e)∧P.info? e=some ti∧0<ti.size∧ps.size=len∧len*ti.size≤16777216∧(ti.zero.map fun z=>z.cells.size)=some ti.size∧
  litParts 0 ps.toList=some xs∧compOpds xs=some l∧s=ti.size:=by
 replace hc:compOp0 P o=some (.lit s l):=by
  unfold compOp1 at hc
  split at hc
  ·cases hc
  ·split at hc
   ·rename_i h0;injection hc with hc;rw[h0,hc]
   ·split at hc<;>cases hc
 unfold compOp0 at hc
 split at hc
 case h_7=>
  rename_i t len ps hop
  split at hc
  ·rename_i e ht
   split at hc
   ·rename_i ti hi
    split at hc
    ·rename_i hcond
     simp only[w01,w02] at hc
     obtain⟨l',⟨xs,h1,h2⟩,h3⟩:=hc
     injection h3 with h3 h4
     subst h3;subst h4
     exact⟨t,e,len,ps,ti,xs,hop,ht,hi,hcond.1,hcond.2.1,hcond.2.2.1,hcond.2.2.2,h1,h2,rfl⟩
    ·cases hc
   ·cases hc
  ·cases hc
 all_goals
  exfalso
  try unfold compCall appMake at hc
  repeat' (first|(cases hc;done)|(simp at hc;done)|(split at hc)|(simp only[w02,w01] at hc;obtain⟨_,_,hc⟩:=hc))
theorem uF {s b:Nat} {x' y':Opd} (hc:compOp1 P o=some (.app s b x' y')): ∃t tx e ti x,AppRun P o t tx x y'∧compOpd x=some x'∧P.underlying t=some (.slice e)∧
  ((∃e',P.underlying tx=some (.slice e'))∨P.underlying tx=some .string)∧P.info? e=some ti∧0<ti.size∧0<ti.bytes∧(ti.zero.map fun z=>z.cells.size)=some ti.size∧s=ti.size∧b=ti.bytes:=by
 replace hc:compOp0 P o=some (.app s b x' y'):=by
  unfold compOp1 at hc
  split at hc
  ·cases hc
  ·split at hc
   ·rename_i h0;injection hc with hc;rw[h0,hc]
   ·split at hc<;>cases hc
 unfold compOp0 at hc
 split at hc
 case h_21=>
  rename_i c hop
  unfold compCall at hc
  split at hc
  ·split at hc<;>cases hc
  ·cases hc
  ·rename_i bb hb
   split at hc
   ·exfalso
    repeat' (first|(cases hc;done)|(simp at hc;done)|(split at hc)|(simp only[w02,w01] at hc;obtain⟨_,_,hc⟩:=hc))
   ·rename_i t tx x y hA ha
    split at hc
    ·rename_i e e' ht htx
     split at hc
     ·split at hc
      ·rename_i ti x1 y1 hi hx hy
       split at hc
       ·rename_i hcond
        injection hc with hc
        injection hc with q1 q2 q3 q4
        subst q1;subst q2;subst q3;subst q4
        exact⟨t,tx,e,ti,x,qh hop hb hA ha hy,hx,ht,.inl ⟨_,htx⟩,hi,hcond.1,hcond.2.1,hcond.2.2,rfl,rfl⟩
       ·cases hc
      ·cases hc
     ·cases hc
    ·rename_i e ht htx
     split at hc
     ·rename_i ti x1 y1 hi hx hy
      split at hc
      ·rename_i hcond
       injection hc with hc
       injection hc with q1 q2 q3 q4
       subst q1;subst q2;subst q3;subst q4
       exact⟨t,tx,e,ti,x,qh hop hb hA ha hy,hx,ht,.inr htx,hi,hcond.1,hcond.2.1,hcond.2.2,rfl,rfl⟩
      ·cases hc
     ·cases hc
    ·rename_i e ik ht htx
     obtain⟨ts,ti,x1,n,q0,q1,q2,q3,q4,q5,q6,q7⟩:=k6 hop hb hA ha ht htx hc
     injection q0 with r1 r2 r3 r4
     subst r1;subst r2;subst r3;subst r4
     exact⟨t,ts,e,ti,x,q1,q2,ht,.inr q3,q4,by omega,by omega,q7,q5.symm,q6.symm⟩
    ·cases hc
   all_goals
    exfalso
    repeat' (first|(cases hc;done)|(simp at hc;done)|(split at hc)|(simp only[w02,w01] at hc;obtain⟨_,_,hc⟩:=hc))
 all_goals
  exfalso
  repeat' (first|(cases hc;done)|(simp at hc;done)|(split at hc)|(simp only[w02,w01] at hc;obtain⟨_,_,hc⟩:=hc))
theorem V3 {ds:List Nat} {s:Nat} {x y:Opd} (h:compOp P ds o=some (.ext (.appK s x y))): ∃b,compOp1 P o=some (.app s b x y):=by
 unfold compOp at h
 rw[w01] at h
 obtain⟨op1,h,hm⟩:=h
 rcases yH ds o.dst op1 with q|⟨s,ps,rfl,q⟩|⟨p,s,b,x,y,rfl,q⟩|⟨s,b,x,y,rfl,q⟩|⟨s,x,lo,hi,rfl,q⟩|⟨v,l,rfl,q⟩|⟨s,b,z,k,n,k',rfl,c1,c2,c3,c4,c5,q⟩<;>rw[q] at hm
 ·exfalso
  subst hm
  unfold compOp1 at h
  split at h
  ·rename_i e he
   injection h with h
   injection h with h
   subst h
   unfold compX at he
   repeat' (first|(cases he;done)|(simp at he;done)|(split at he)|(simp only[w02,w01] at he;obtain⟨_,_,he⟩:=he))
  ·split at h
   ·rename_i h0
    injection h with h
    subst h
    unfold compOp0 at h0
    try unfold compCall appMake at h0
    repeat' (first|(cases h0;done)|(simp at h0;done)|(split at h0)|(simp only[w02,w01] at h0;obtain⟨_,_,h0⟩:=h0))
   ·split at h<;>cases h
 ·cases hm
 ·cases hm
 ·cases hm;exact⟨_,h⟩
 ·cases hm
 ·cases hm
 ·cases hm
theorem V4 {ds:List Nat} {p:Bool} {s b:Nat} {x y:Opd} (h:compOp P ds o=some (.ext (.appB p s b x y))):compOp1 P o=some (.app s b x y):=by
 unfold compOp at h
 rw[w01] at h
 obtain⟨op1,h,hm⟩:=h
 rcases yH ds o.dst op1 with q|⟨s,ps,rfl,q⟩|⟨p,s,b,x,y,rfl,q⟩|⟨s,b,x,y,rfl,q⟩|⟨s,x,lo,hi,rfl,q⟩|⟨v,l,rfl,q⟩|⟨s,b,z,k,n,k',rfl,c1,c2,c3,c4,c5,q⟩<;>rw[q] at hm
 ·exfalso
  subst hm
  unfold compOp1 at h
  split at h
  ·rename_i e he
   injection h with h
   injection h with h
   subst h
   unfold compX at he
   repeat' (first|(cases he;done)|(simp at he;done)|(split at he)|(simp only[w02,w01] at he;obtain⟨_,_,he⟩:=he))
  ·split at h
   ·rename_i h0
    injection h with h
    subst h
    unfold compOp0 at h0
    try unfold compCall appMake at h0
    repeat' (first|(cases h0;done)|(simp at h0;done)|(split at h0)|(simp only[w02,w01] at h0;obtain⟨_,_,h0⟩:=h0))
   ·split at h<;>cases h
 ·cases hm
 ·cases hm;exact h
 ·cases hm
 ·cases hm
 ·cases hm
 ·cases hm
theorem U1 {s:Nat} {x':Opd} {lo' hi':Option Opd} (hc:compOp1 P o=some (.slice s x' lo' hi' none)): ∃t e x lo hi mx,o.op= .slice t x lo hi mx∧compOpd x=some x'∧compOpt lo=some lo'∧compOpt hi=some hi'∧compOpt mx=some none∧P.underlying t=some (.slice e)∧sizeOfT P e=some s∧0<s:=by
 replace hc:compOp0 P o=some (.slice s x' lo' hi' none):=by
  unfold compOp1 at hc
  split at hc
  ·cases hc
  ·split at hc
   ·rename_i h0;injection hc with hc;rw[h0,hc]
   ·split at hc<;>cases hc
 unfold compOp0 at hc
 split at hc
 case h_18=>
  rename_i t x lo hi mx hop
  split at hc
  ·exfalso
   repeat' (first|(cases hc;done)|(simp at hc;done)|(split at hc)|(simp only[w02,w01] at hc;obtain⟨_,_,hc⟩:=hc))
  ·rename_i e x1 l1 h1 m1 ht hx hlo hhi hmx
   simp only[w02] at hc
   obtain⟨s1,hs,hc⟩:=hc
   split at hc
   ·rename_i hcond
    injection hc with hc
    injection hc with q1 q2 q3 q4 q5
    subst q1;subst q2;subst q3;subst q4;subst q5
    simp only[w04,decide_eq_true_eq] at hcond
    exact⟨t,e,x,lo,hi,mx,hop,hx,hlo,hhi,hmx,ht,hs,hcond.1⟩
   ·cases hc
  ·exfalso
   repeat' (first|(cases hc;done)|(simp at hc;done)|(split at hc)|(simp only[w02,w01] at hc;obtain⟨_,_,hc⟩:=hc))
  ·cases hc
 all_goals
  exfalso
  try unfold compCall appMake at hc
  repeat' (first|(cases hc;done)|(simp at hc;done)|(split at hc)|(simp only[w02,w01] at hc;obtain⟨_,_,hc⟩:=hc))
theorem uG {s b:Nat} {z:List AV} {n c:Opd} (h:compOp0 P o=some (.make s b z n c)):
  ∃t e x y ti v,o.op= .makeSlice t x y∧compOpd x=some n∧compOpd y=some c∧P.underlying t=some (.slice e)∧P.info? e=some ti∧zeroT P e=some v∧0<ti.size∧(ti.zero.map fun z=>z.cells.size)=some ti.size∧s=ti.size∧b=ti.bytes∧z=v.cells:=by
 unfold compOp0 at h
 split at h
 case h_19=>
  rename_i t x y hop
  split at h
  ·rename_i e ht
   split at h
   ·rename_i ti v n' c' hi hz hn hc
    split at h
    ·rename_i hp
     injection h with h
     injection h with h1 h2 h3 h4 h5
     subst h1;subst h2;subst h3;subst h4;subst h5
     exact⟨t,e,x,y,ti,v,hop,hn,hc,ht,hi,hz,hp.1,hp.2,rfl,rfl,rfl⟩
    ·cases h
   ·cases h
  ·cases h
 case h_21=>
  exfalso
  unfold compCall appMake at h
  repeat' (first|(cases h;done)|(simp at h;done)|(split at h)|(simp only[w02,w01] at h;obtain⟨_,_,h⟩:=h))
 all_goals
  exfalso
  repeat' (first|(cases h;done)|(simp at h;done)|(split at h)|(simp only[w02,w01] at h;obtain⟨_,_,h⟩:=h))
theorem qY {s b:Nat} {z:List AV} {n c:Opd} (h:compOp1 P o=some (.make s b z n c)):compOp0 P o=some (.make s b z n c):=by
 unfold compOp1 at h
 split at h
 ·injection h with h;cases h
 ·split at h
  ·rename_i h0;injection h with h;rw[h0,h]
  ·split at h
   ·cases h
   ·injection h with h;cases h
theorem YO {z:AV} (hz:z.one=true) (n:Nat) (ρ:List AV):((List.replicate n (Opd.c z)).map fun p=>p.ev ρ).flatMap AV.cells=flatRep [z] n:=by
 induction n with
 |zero=>rfl
 |succ n ih=>
  rw[List.replicate_succ,w1d,w26,ih]
  show z.cells++_=_
  rw[YR hz]
  rfl
theorem WF (hR:Reps g w ρ a.tmps.toList) {t e:TypeId} {x y:Operand} {k k':IntKind} {n:Int} {ti:TypeInfo} {z:AV} (hop:o.op= .makeSlice t x y) (hx:compOpd x=some (.c (.int k n))) (hy:compOpd y=some (.c (.int k' n)))
  (ht:P.underlying t=some (.slice e)) (hi:P.info? e=some ti) (hz:zeroT P e=some z) (h0:0<ti.size) (hzs:(ti.zero.map fun z=>z.cells.size)=some ti.size) (c1:0≤n) (c2:ti.bytes*n≤281474976710656) (c3:n≤9223372036854775807) (c4:z.cells.length=ti.size):
  ∃flat:List Value,flat.length=n.toNat*ti.size∧Reps g w (flatRep z.cells n.toNat) flat∧(execOp a.eval o).run P w= .ok (.value (.slice (some ⟨w.heap.size,0,none⟩) n.toNat n.toNat)) (w.alloc (.cells flat.toArray e)):=by
 have hv1:=(za hR hx).inv_int
 have hv2:=(za hR hy).inv_int
 obtain⟨zv,hzv,hav⟩:=v3 hz w
 have hzi:ti.zero=some zv:=by
  simp only[zeroT,hi,w16,w02] at hz
  obtain⟨v,h3,h4⟩:=hz
  have:(zeroValue e).run P w= .ok v w:=by simp[zeroValue,typeInfo,hi,h3]
  rw[this] at hzv
  injection hzv with hzv
  rw[←hzv];exact h3
 have hsz:zv.cells.size=ti.size:=by rw[hzi] at hzs;simpa using hzs
 have hzr:=(zS (g:=g) (w:=w) hav).cells (by omega)
 have hrun:=run_make (P:=P) w t e ti zv ht hi hzi k k' n n c1 (Int.le_refl _) c2 c3
 have hcells:madeCells zv.cells (n.toNat*ti.size)=((List.replicate n.toNat zv.cells.toList).flatten).toArray:=by
  unfold madeCells
  exact rangeZ h0 zv.cells hsz n.toNat
 rw[hcells] at hrun
 refine⟨_,?_,yO hzr n.toNat,?_⟩
 ·rw[List.length_flatten,List.map_replicate,List.sum_replicate_nat];simp[hsz]
 ·simp only[execOp,hop,hv1,hv2,Sem.run_bind,hrun,Result.andThen_ok]
  rfl
theorem VU {O:Oracle} {ds:List Nat} {op:AOp} (h:compOp P ds o=some op) (hnc: ∀f l,op≠ .call f l) (hR:Reps g w ρ a.tmps.toList) (I:Inv g w m) (he:evOp O ρ m op=some (r,m')):Yields P a o g w r m':=by
 unfold compOp at h
 rw[w01] at h
 obtain⟨op1,h,hm⟩:=h
 rcases yH ds o.dst op1 with q|⟨s,ps,rfl,q⟩|⟨p,s,b,x,y,rfl,q⟩|⟨s,b,x,y,rfl,q⟩|⟨s,x,lo,hi,rfl,q⟩|⟨v,l,rfl,q⟩|⟨s,b,z,k,n,k',rfl,c1,c2,c3,c4,c5,q⟩
 rotate_left
 ·rw[q] at hm
  subst hm
  obtain⟨t,e,len,ps',ti,xs,q1,q2,q3,q4,q5,q6,q7,q8,q9,rfl⟩:=Zx h
  simp only[evOp,evX] at he
  exact VH hR I q1 q2 q3 q4 q5 q6 q7 q8 q9 he
 ·rw[q] at hm
  subst hm
  obtain⟨t,tx,e,ti,x0,q1,q2,q3,q4,q5,q6,q7,q8,rfl,rfl⟩:=uF h
  simp only[evOp,evX] at he
  exact Uc hR I q1 q2 q3 q4 q5 q6 q7 q8 he
 ·rw[q] at hm
  subst hm
  obtain⟨t,tx,e,ti,x0,q1,q2,q3,q4,q5,q6,q7,q8,rfl,rfl⟩:=uF h
  simp only[evOp,evX] at he
  exact Ub hR I q1 q2 q3 q4 q5 q6 he
 ·rw[q] at hm
  subst hm
  obtain⟨t,e,x0,lo0,hi0,mx0,q1,q2,q3,q4,q5,q6,q7,q8⟩:=U1 h
  simp only[evOp,evX] at he
  exact Vq hR I q1 q2 q3 q4 q5 q6 q7 q8 he
 ·rw[q] at hm
  exact absurd hm.symm (hnc _ _)
 ·rw[q] at hm
  subst hm
  subst c5
  obtain⟨t,e,x,y,ti,v,hop,hx,hy,ht,hi,hz,h0,hzs,hs,hb,hv⟩:=uG (qY h)
  obtain⟨flat,hfl,hrep,hrun⟩:=WF (g:=g) (w:=w) (a:=a) hR hop hx hy ht hi hz h0 hzs c2 (by rw[←hb];exact c3) c4 (by rw[←hv,←hs];rfl)
  simp only[evOp,evX,evLitB] at he
  split at he
  ·injection he with he
   injection he with he1 he2
   subst he1;subst he2
   have hcs:((List.replicate n.toNat (Opd.c z)).map fun p=>p.ev ρ).flatMap AV.cells=flatRep v.cells n.toNat:=by
    rw[←hv];exact YO c1 n.toNat ρ
   rw[hcs]
   obtain⟨g',k1,k2,k3⟩:=I.alloc_blk _ flat e hrep
   refine⟨g',_,_,.inl hrun,k1,k2,?_⟩
   rw[List.length_map,List.length_replicate]
   exact .grow _ _ _ _ _ _ _ _ _ k3 (w0e _) (by rw[hfl,←hs];omega)
  ·cases he
 rw[q] at hm
 subst hm
 unfold compOp1 at h
 split at h
 ·rename_i e hx
  injection h with h;subst h
  exact Te hx hR I he
 ·split at h
  ·rename_i op' h0
   injection h with h;subst h
   exact WW h0 hnc hR I he
  ·split at h
   ·cases h
   ·injection h with h;subst h
    cases he
theorem qF {f:Mem→AV→Option (AV×Mem)} (hf: ∀{m:Mem} {x x':AV} {m':Mem} {g:G} {v:Value},f m x=some (x',m')→Inv g w m→Rep g w x v→ ∃g',Ext g w g' w∧Inv g' w m'∧Rep g' w x' v):
  ∀{cs cs':List AV} {m m':Mem} {g:G} {vs:List Value},frzL f m cs=some (cs',m')→Inv g w m→Reps g w cs vs→ ∃g',Ext g w g' w∧Inv g' w m'∧Reps g' w cs' vs
 | [],cs',m,m',g,vs,h,I,hR=>by
  simp only[frzL,Option.some.injEq,Prod.mk.injEq] at h
  obtain⟨rfl,rfl⟩:=h
  exact⟨g,Ext.refl g w,I,hR⟩
 |c::r,cs',m,m',g,vs,h,I,hR=>by
  simp only[frzL,w02,w01] at h
  obtain⟨⟨c',m1⟩,h1,⟨r',m2⟩,h2,h3⟩:=h
  simp only[Prod.mk.injEq] at h3
  obtain⟨rfl,rfl⟩:=h3
  obtain⟨v,vr,rfl,k1,k2⟩:=hR.head
  obtain⟨g1,e1,I1,r1⟩:=hf h1 I k1
  obtain⟨g2,e2,I2,r2⟩:=qF hf h2 I1 (k2.mono e1)
  exact⟨g2,e1.trans e2,I2,Reps.cons (r1.mono e2) r2⟩
theorem Zn: ∀(n:Nat) {m:Mem} {x x':AV} {m':Mem} {g:G} {v:Value},frzV n m x=some (x',m')→Inv g w m→Rep g w x v→ ∃g',Ext g w g' w∧Inv g' w m'∧Rep g' w x' v:=by
 intro n
 induction n with
 |zero=>
  intro m x x' m' g v h I hR
  unfold frzV at h
  split at h
  ·cases h
  ·rename_i h0;cases h0
  ·injection h with h;injection h with h1 h2;subst h1;subst h2;exact⟨g,Ext.refl g w,I,hR⟩
 |succ n ih=>
  intro m x x' m' g v h I hR
  unfold frzV at h
  split at h
  ·cases h
  ·rename_i n' s l k st len hn
   injection hn with hn;subst hn
   split at h
   ·rename_i cs hb
    split at h
    ·rename_i hc
     obtain⟨_,hlen,h0⟩:=hc
     simp only[w02] at h
     obtain⟨⟨cs',m1⟩,h1,h⟩:=h
     simp only at h
     split at h
     ·rename_i hc2
      obtain⟨hone,hsome⟩:=hc2
      injection h with h;injection h with e1 e2
      subst e1;subst e2
      obtain⟨b,o,e,cap,hbt,rfl,hcap,hce⟩:=hR.inv_grow
      obtain⟨b1,o1,e1,a1,a2,a3,vs,a4,a5⟩:=I.cells (zj hb) hbt
      simp only at a1 a2 a3 a4 a5
      rw[hbt] at a1
      obtain⟨rfl,rfl,rfl⟩:b=b1∧o=o1∧e=e1:=by simpa using a1
      obtain⟨g1,x1,I1,r1⟩:=qF ih h1 I (a4.take (len*s))
      obtain⟨cs2,hb2⟩:=Option.isSome_iff_exists.1 hsome
      obtain⟨g2,x2,I2,ho⟩:=I1.freeze hb2 (x1.bt _ _ hbt)
      refine⟨g2,x1.trans x2,I2,?_⟩
      have hvl:(vs.take (len*s)).length=len*s:=by rw[w21,a4.1];omega
      have hcl:cs'.length=len*s:=by rw[←r1.1,hvl]
      obtain⟨q1,q2,q3⟩:=vE h0 len cs' (by omega) (by rw[List.take_of_length_le (by omega)];exact hone)
      rw[List.take_of_length_le (show cs'.length≤len*s by omega)] at q3
      have:=Rep.rowsC (g:=g2) (w:=w) h0 q2 (us:=vs.take (len*s)) (by rw[q3];exact r1.mono x2) b o cap .none (by omega) trivial (fun j u hj=>by
       have hju:j<len*s:=by rw[←hvl];exact(w07.1 hj).1
       have hj':=hj
       rw[w0f,if_pos hju] at hj'
       have hle:len*s≤cap*s:=Nat.mul_le_mul_right s hcap
       exact⟨a5 j u hj',ho (o+j) (by omega) (by omega),(r1.one hone) u (w23 hj)⟩)
      rw[q1] at this
      exact this
     ·cases h
    ·cases h
   ·cases h
  ·injection h with h;injection h with h1 h2;subst h1;subst h2;exact⟨g,Ext.refl g w,I,hR⟩
theorem uC: ∀(ts:List Nat) {σ σ':St} {g:G} {vs:List Value},frzT ts σ=some σ'→Inv g w σ.m→Reps g w σ.ρ vs→ ∃g',Ext g w g' w∧Inv g' w σ'.m∧Reps g' w σ'.ρ vs
 | [],σ,σ',g,vs,h,I,hR=>by
  simp only[frzT,Option.some.injEq] at h
  subst h
  exact⟨g,Ext.refl g w,I,hR⟩
 |t::r,σ,σ',g,vs,h,I,hR=>by
  simp only[frzT] at h
  split at h
  ·rename_i l k st off hv
   split at h
   ·rename_i cs hb
    split at h
    ·simp only[w02] at h
     obtain⟨⟨cs',m1⟩,h1,h⟩:=h
     simp only at h
     split at h
     ·rename_i hsome
      obtain⟨cs2,hb2⟩:=Option.isSome_iff_exists.1 hsome
      by_cases ht:t<σ.ρ.length
      ·obtain⟨v,hv1,hv2⟩:=hR.get (j:=t) (c:= .ptr l k st off) (by rw[w03,w0b ht,w15] at hv;rw[w0b ht,hv])
       obtain⟨b,o,e,hbt,rfl⟩:=hv2.inv_ptr
       obtain⟨b1,o1,e1,a1,a2,a3,us,a4,a5⟩:=I.cells (zj hb) hbt
       simp only at a1 a2 a3 a4 a5
       rw[hbt] at a1
       obtain⟨rfl,rfl,rfl⟩:b=b1∧o=o1∧e=e1:=by simpa using a1
       obtain⟨g1,x1,I1,r1⟩:=qF (Zn 3) h1 I a4
       have I2:=I1.retell hb2 (x1.bt _ _ hbt) r1 a5 (by rw[←r1.1,a4.1];exact a2)
       obtain⟨g3,x3,I3,r3⟩:=uC r h I2 (hR.mono x1)
       exact⟨g3,x1.trans x3,I3,r3⟩
      ·rw[w03,w19 (by omega)] at hv;cases hv
     ·cases h
    ·cases h
   ·cases h
  ·simp only[w02] at h
   obtain⟨⟨v',m1⟩,h1,h⟩:=h
   by_cases ht:t<σ.ρ.length
   ·obtain⟨v,hv1,hv2⟩:=hR.get (j:=t) (c:=σ.ρ.getD t (.tup [])) (by rw[w03,w0b ht,w15])
    obtain⟨g1,x1,I1,r1⟩:=Zn 3 h1 I hv2
    have hset:Reps g1 w (σ.ρ.set t v') vs:=by
     refine⟨by simp[hR.1],fun j c u q1 q2=> ?_⟩
     rw[List.getElem?_set] at q1
     split at q1
     ·rename_i hj
      subst hj
      injection q1 with q1;subst q1
      rw[hv1] at q2;injection q2 with q2;subst q2
      exact r1
     ·exact(hR.2 j c u q1 q2).mono x1
    obtain⟨g3,x3,I3,r3⟩:=uC r h I1 hset
    exact⟨g3,x1.trans x3,I3,r3⟩
   ·rw[w03,w19 (by omega)] at h1
    simp only[Option.getD_none,frzV,Option.some.injEq,Prod.mk.injEq] at h1
    obtain⟨rfl,rfl⟩:=h1
    rw[List.set_eq_of_length_le (by omega)] at h
    exact uC r h I hR
end
structure Above (m m':Mem):Prop where
 len:m'.stk.length=m.stk.length
 floor:m'.floor=m.floor
 blk: ∀l k st cs,l<m.floor→m.blk l k st=some cs→m'.blk l k st=some cs
 nx:m.nx≤m'.nx
theorem Above.refl (m:Mem):Above m m:=⟨rfl,rfl,fun _ _ _ _ _ h=>h,w0e _⟩
theorem Above.trans {a b c:Mem} (h:Above a b) (k:Above b c):Above a c:=
 ⟨k.len.trans h.len,k.floor.trans h.floor,fun l i st cs hl hb=>k.blk l i st cs (by rw[h.floor];exact hl) (h.blk l i st cs hl hb),Nat.le_trans h.nx k.nx⟩
theorem yA {m m':Mem} {l k st:Nat} {cs:List AV} (h:m.blk l k st=some cs) (hr: ∀x,(m.row l)[k]? =some x→(m'.row l)[k]? =some x):m'.blk l k st=some cs:=by
 have h1:=hr _ (xJ h)
 unfold Mem.blk
 rw[h1]
 simp
theorem xb (m:Mem) (x:List Blk) (nx:Nat) (live:List (List Nat)) (hn:m.nx≤nx:=by simp):Above m {m with cur:=m.cur++x,nx:=nx,live:=live}:=by
 refine⟨rfl,rfl,fun l k st cs _ h=>yA h fun y hy=> ?_,hn⟩
 unfold Mem.row at hy⊢
 split at hy
 ·rename_i hl
  rw[if_pos hl]
  have hk:k<m.cur.length:=(w07.1 hy).1
  simp only
  rw[w09 hk];exact hy
 ·rename_i hl
  rw[if_neg hl];exact hy
theorem jc (m:Mem) (nx:Nat) (live:List (List Nat)) (hn:m.nx≤nx:=by simp):Above m {m with nx:=nx,live:=live}:=⟨rfl,rfl,fun _ _ _ _ _ h=>h,hn⟩
theorem yc (m:Mem) (l k st:Nat) (cs:List AV) (h:m.floor≤l):Above m (m.put l k st cs):=by
 unfold Mem.put
 split
 ·rename_i hl
  have hl':l=m.stk.length:=eq_of_beq hl
  refine⟨rfl,rfl,fun l2 k2 st2 cs2 h2 hb=>yA hb fun y hy=> ?_,w0e _⟩
  unfold Mem.row at hy⊢
  simp only at hy⊢
  rw[if_neg (by simp;omega)] at hy⊢
  exact hy
 ·refine⟨by simp,rfl,fun l2 k2 st2 cs2 h2 hb=>yA hb fun y hy=> ?_,w0e _⟩
  unfold Mem.row at hy⊢
  simp only[List.length_modify] at hy⊢
  split at hy
  ·rename_i hq;rw[if_pos hq];exact hy
  ·rename_i hq
   rw[if_neg hq]
   rw[w03] at hy⊢
   rw[List.getElem?_modify]
   have: ¬l=l2:=by omega
   simp only[this,if_false]
   simpa using hy
def OracleAbove (O:Oracle):Prop:= ∀f args m r m',O f args m=some (r,m')→m.floor≤m.stk.length+1→Above m m'
theorem ZI (m:Mem) (l k st:Nat) (cs:List AV) (ts:List Nat) (h:m.floor≤l):Above m (m.putS l k st cs ts):=by
 have:=yc m l k st cs h
 rw[kw]
 exact⟨this.len,this.floor,this.blk,this.nx⟩
theorem ZH (m:Mem) (l k st:Nat) (cs:List AV) (nx:Nat) (h:m.floor≤l) (hn:m.nx≤nx:=by simp):Above m {m.put l k st cs with nx:=nx}:=by
 have:=yc m l k st cs h
 exact⟨this.len,this.floor,this.blk,hn⟩
theorem tL {m m':Mem} {s b:Nat} {x y r:AV} (h:evApp m s b x y=some (r,m')):Above m m':=by
 unfold evApp at h
 split at h
 ·cases h
 ·split at h
  ·injection h with h;injection h with _ h;rw[←h];exact Above.refl m
  ·split at h
   ·injection h with h;injection h with _ h;rw[←h];exact Above.refl m
   ·cases h
  ·split at h
   ·injection h with h;injection h with _ h;rw[←h];exact Above.refl m
   ·cases h
  ·cases h
 ·split at h
  ·split at h
   ·injection h with h;injection h with _ h;rw[←h];exact jc m _ _
   ·cases h
  ·split at h
   ·split at h
    ·cases h
    ·injection h with h;injection h with _ h;rw[←h];exact jc m _ _
    ·split at h
     ·injection h with h;injection h with _ h;rw[←h];exact jc m _ _
     ·cases h
   ·cases h
  ·split at h
   ·split at h
    ·rename_i hc
     simp only[w04,decide_eq_true_eq,beq_iff_eq] at hc
     injection h with h;injection h with _ h;rw[←h]
     exact ZH m _ _ _ _ _ hc.2
    ·cases h
   ·cases h
  ·cases h
theorem yh {O:Oracle} (hO:OracleAbove O) {ρ:List AV} {m m':Mem} {op:AOp} {r:AV} (hf:m.floor≤m.stk.length+1) (hs:op.isStore=true→m.floor≤m.stk.length) (h:evOp O ρ m op=some (r,m')):Above m m':=by
 have same: ∀{α:Type} {x:Option α} {f:α→AV},(x.map fun v=>(f v,m))=some (r,m')→Above m m':=by
  intro α x f h
  cases x with
  |none=>simp at h
  |some z=>simp at h;rw[←h.2];exact Above.refl m
 cases op<;>simp only[evOp] at h
 case ext e=>
  cases e<;>simp only[evX] at h
  case bad=>cases h
  case eqA=>
   split at h
   ·split at h
    ·exact same h
    ·cases h
   ·cases h
  case isNil=>exact same h
  case nilChk=>exact same h
  case mkmap=>injection h with h;injection h with _ h;rw[←h];exact xb m _ _ _
  case mget=>
   split at h
   ·split at h
    ·exact same h
    ·cases h
   ·cases h
  case copy=>
   unfold evCopy evCopy0 at h
   split at h
   ·cases h
   ·split at h
    ·split at h
     ·rename_i hc
      simp only[w04,w14,decide_eq_true_eq,beq_iff_eq] at hc
      split at h
      ·injection h with h;injection h with _ h;rw[←h];exact Above.refl m
      ·injection h with h;injection h with _ h;rw[←h]
       have hs:=hs rfl
       exact yc m _ _ _ _ (by rcases hc.2 with h|h<;>omega)
     ·cases h
    ·cases h
   ·cases h
  case lst n a x=>
   unfold evStore at h
   split at h
   ·split at h
    ·split at h
     ·rename_i hc
      simp only[w04,w14,decide_eq_true_eq,beq_iff_eq] at hc
      injection h with h;injection h with _ h
      rw[←h]
      have hs:=hs rfl
      exact ZI m _ _ _ _ _ (by rcases hc.2 with h|h<;>omega)
     ·cases h
    ·cases h
   ·cases h
  case litB=>
   unfold evLitB at h
   split at h
   ·injection h with h;injection h with _ h;rw[←h];exact xb m _ _ _
   ·cases h
  case appB=>
   unfold evAppB newRowB at h
   split at h
   ·split at h
    ·split at h
     ·injection h with h;injection h with _ h;rw[←h];exact xb m _ _ _
     ·cases h
    ·split at h
     ·split at h
      ·injection h with h;injection h with _ h;rw[←h];exact xb m _ _ _
      ·cases h
     ·cases h
    ·exact tL h
   ·exact tL h
  case appK=>
   unfold evAppK at h
   split at h
   ·split at h
    ·injection h with h;injection h with _ h;rw[←h];exact Above.refl m
    ·cases h
   ·split at h
    ·split at h
     ·rename_i hc
      simp only[w04,w14,decide_eq_true_eq,beq_iff_eq] at hc
      injection h with h;injection h with _ h;rw[←h]
      have hs:=hs rfl
      exact yc m _ _ _ _ (by rcases hc.2 with h|h<;>omega)
     ·cases h
    ·cases h
   ·cases h
  case slcB=>
   unfold evSlcB at h
   split at h
   ·split at h
    ·split at h
     ·simp only[w02,w01,Prod.mk.injEq] at h
      obtain⟨_,_,_,_,_,h⟩:=h
      rw[←h];exact Above.refl m
     ·cases h
    ·cases h
   ·cases h
  case clr=>
   unfold evClr evClr0 at h
   split at h
   ·split at h
    ·split at h
     ·rename_i hc
      simp only[w04,w14,decide_eq_true_eq,beq_iff_eq] at hc
      split at h
      ·injection h with h;injection h with _ h;rw[←h];exact Above.refl m
      ·injection h with h;injection h with _ h;rw[←h]
       have hs:=hs rfl
       exact yc m _ _ _ _ (by rcases hc.2 with h|h<;>omega)
     ·cases h
    ·cases h
   ·cases h
  case mput=>
   unfold evMput at h
   split at h
   ·split at h
    ·split at h
     ·rename_i hc
      simp only[w04,w14,decide_eq_true_eq,beq_iff_eq] at hc
      simp only[w01,Prod.mk.injEq] at h
      obtain⟨ps',_,_,h⟩:=h
      rw[←h]
      have hs:=hs rfl
      exact yc m _ _ _ _ (by rcases hc.2 with h|h<;>omega)
     ·cases h
    ·cases h
   ·cases h
  case wload=>
   simp only[w02] at h
   obtain⟨cs,_,h⟩:=h
   exact same h
 case mov=>injection h with h;injection h with _ h;rw[←h];exact Above.refl m
 case pick=>split at h<;>first|(cases h;done)|(injection h with h;injection h with _ h;rw[←h];exact Above.refl m)
 case alloc z=>injection h with h;injection h with _ h;rw[←h];exact xb m _ _ _
 case box n x=>split at h<;>first|(cases h;done)|(injection h with h;injection h with _ h;rw[←h];exact xb m _ _ _)
 case build z ps=>exact same h
 case lit s ps=>split at h<;>first|(cases h;done)|(injection h with h;injection h with _ h;rw[←h];exact Above.refl m)
 case load g n a=>
  simp only[w02] at h
  obtain⟨cs,_,h⟩:=h
  exact same h
 case store n a x=>
  unfold evStore at h
  split at h
  ·split at h
   ·split at h
    ·rename_i hc
     simp only[w04,w14,decide_eq_true_eq,beq_iff_eq] at hc
     injection h with h;injection h with _ h
     rw[←h]
     have hs:=hs rfl
     exact ZI m _ _ _ _ _ (by rcases hc.2 with h|h<;>omega)
    ·cases h
   ·cases h
  ·cases h
 case bin=>exact same h
 case beq=>split at h<;>first|(cases h;done)|(injection h with h;injection h with _ h;rw[←h];exact Above.refl m)
 case un=>exact same h
 case conv=>split at h<;>first|(cases h;done)|(injection h with h;injection h with _ h;rw[←h];exact Above.refl m)
 case convS=>split at h<;>first|(cases h;done)|(injection h with h;injection h with _ h;rw[←h];exact Above.refl m)
 case toStr=>exact same h
 case toBytes x=>
  split at h
  ·split at h
   ·injection h with h;injection h with _ h;rw[←h];exact jc m _ _
   ·cases h
  ·cases h
 case mkfn=>injection h with h;injection h with _ h;rw[←h];exact Above.refl m
 case faddr=>exact same h
 case field=>split at h<;>first|(cases h;done)|exact same h
 case iaddr=>exact same h
 case iaddrA=>exact same h
 case indexS=>
  split at h
  ·simp only[w02] at h
   obtain⟨j,_,h⟩:=h
   exact same h
  ·cases h
 case indexA=>
  split at h
  ·simp only[w02] at h
   obtain⟨j,_,h⟩:=h
   exact same h
  ·cases h
 case len=>exact same h
 case lenS=>split at h<;>first|(cases h;done)|(injection h with h;injection h with _ h;rw[←h];exact Above.refl m)
 case app s b x y=>exact tL h
 case mx=>exact same h
 case mn=>exact same h
 case slice=>exact same h
 case sliceA=>exact same h
 case sliceS=>exact same h
 case make s b z n c=>
  unfold evMake at h
  split at h
  ·split at h
   ·injection h with h;injection h with _ h;rw[←h];exact xb m _ _ _
   ·cases h
  ·cases h
 case extract=>split at h<;>first|(cases h;done)|exact same h
 case call f args=>
  unfold evCall at h
  split at h
  ·exact hO _ _ _ _ _ h hf
  ·exact hO _ _ _ _ _ h hf
  ·cases h
structure Ctx where
 Z:G→World→Prop
 mono: ∀{g w g' w'},ExtW g w g' w'→Z g w→Z g' w'
def Ctx.top:Ctx:=⟨fun _ _=>True,fun _ h=>h⟩
def CallOk (P:Program) (C:Ctx) (f:Nat) (args:List AV) (m:Mem) (r:AV) (m':Mem):Prop:=
 (∃fn,P.funcs[f]? =some fn∧(fn.name== "runtime.NumGoroutine")=false∧fn.body.isNone=false)∧
 ∀g w vs,C.Z g w→Inv g w m→Reps g w args vs→Calls P f vs.toArray w fun e w'=> ∃v g',e= .returned v∧Ext g w g' w'∧Inv g' w' m'∧Rep g' w' r v
def YieldOk (P:Program) (C:Ctx) (args:List AV) (m:Mem) (r:AV) (m':Mem):Prop:=
 ∀y aS,args=y::aS→ ∀g w yv vs,C.Z g w→Inv g w m→Rep g w y yv→Reps g w aS vs→ ∃l f tmps assign body,yv= .func (.yield l) #[] #[]∧(Instr.yield l vs.toArray).run P w= .ok (.round l f tmps assign body) w∧
  RoundIn Fence.wide 0 P l f tmps assign body w fun e w'=> ∃v g',e= .returned v∧Ext g w g' w'∧Inv g' w' m'∧Rep g' w' r v
def OracleOk (P:Program) (C:Ctx) (O:Oracle):Prop:= ∀c args m r m',O c args m=some (r,m')→m.floor≤m.stk.length+1→
 match c with
 |some f=>CallOk P C f args m r m'
 |none=>YieldOk P C args m r m'
def FW (rr:Option Nat):Fence:={Fence.wide with round:=rr}
theorem Y3 (rr:Option Nat):(FW rr).round=rr:=rfl
theorem Zy {rr:Option Nat} {N:Nat} {P:Program} {f:FuncId} {args:Array Value} {w:World} {R:Ending→World→Prop} (h:Calls P f args w R):CallsIn (FW rr) N P f args w R:=
 ⟨trivial,fun cs _=>(callsIn_wide (n:=N).2 h).2 cs (room_wide _)⟩
theorem V8 {rr:Option Nat} {N:Nat} {P:Program} {f:FuncId} {args:Array Value} {w:World} {R:Ending→World→Prop} (h:CallsIn (FW rr) N P f args w R):Calls P f args w R:=
 callsIn_wide (n:=N).1 ⟨trivial,fun cs _=>h.2 cs (fun d hd=>by cases hd)⟩
theorem Vt {F F':Fence} {N N':Nat} {P:Program} {l:Nat} {f:FuncId} {tmps:Array Value} {assign body:Code} {w:World} {R:Ending→World→Prop} {rr rr':Option Nat} (hF:F=FW rr) (hF':F'=FW rr')
  (h:RoundIn F N P l f tmps assign body w R):RoundIn F' N' P l f tmps assign body w R:=by
 subst hF;subst hF'
 exact⟨trivial,fun c cs _=>h.2 c cs (fun d hd=>by cases hd)⟩
theorem Qw:Fence.wide=FW none:=rfl
section
variable {P : Program} {g : G} {w : World} {a : Act} {o : Oper} {ops : Array Oper} {ds : List Nat} {Q : Exit → Act → World → Prop} {K : Act → World → Prop}
theorem Reps.set {ρ:List AV} {vs:List Value} (h:Reps g w ρ vs) {r:AV} {v:Value} (k:Rep g w r v) (d:Nat):Reps g w (ρ.set d r) (vs.set d v):=by
 refine⟨by simp[h.1],fun j c u h1 h2=> ?_⟩
 rw[List.getElem?_set] at h1 h2
 split at h1
 ·rename_i hd
  rw[if_pos hd] at h2
  split at h1
  ·split at h2
   ·injection h1 with h1;injection h2 with h2;subst h1;subst h2;exact k
   ·cases h2
  ·cases h1
 ·rename_i hd
  rw[if_neg hd] at h2
  exact h.2 j c u h1 h2
theorem qQ {ρ:List AV} (h:Reps g w ρ a.tmps.toList) {r:AV} {v:Value} (k:Rep g w r v) (d:Option Nat):Reps g w (setDst ρ d r) (a.put d v).tmps.toList:=by
 cases d with
 |none=>exact h
 |some d=>
  simp only[setDst,Act.put,Array.toList_setIfInBounds]
  exact h.set k d
theorem zR (d:Option Nat) (v:Value):(a.put d v).defers=a.defers:=by cases d<;>rfl
theorem Xj {x:Operand} {y:Opd} {ρ:List AV} (hR:Reps g w ρ a.tmps.toList) (hx:compOpd x=some y) {f:Nat} {first caps:List AV} (h:y.ev ρ= .fn (.func f) first caps):
  ∃f1 c1:List Value,a.eval x= .func (.func f) f1.toArray c1.toArray∧Reps g w first f1∧Reps g w caps c1:=by
 have h1:=za hR hx
 rw[h] at h1
 generalize a.eval x=v at h1
 cases h1 with
 |fn _ _ _ first' caps' a1 a2 a3 a4=>
  exact⟨first'.toList,caps'.toList,by simp,⟨by simpa using a1,fun j c v h1 h2=>a3 j c v h1 (by simpa using h2)⟩,⟨by simpa using a2,fun j c v h1 h2=>a4 j c v h1 (by simpa using h2)⟩⟩
theorem uq {ao:AOper} (hc:compOper P ds ops o=some ao) {ρ:List AV} (hR:Reps g w ρ a.tmps.toList) {b:Bool} (h:wanted ρ ao.guard=some b):Region.wanted o (yielded ops a.tmps)=b:=by
 unfold compOper at hc
 split at hc
 ·rename_i op gd _ hg
  injection hc with hc
  subst hc
  simp only at h
  unfold compGuard at hg
  split at hg
  ·rename_i hgd
   injection hg with hg;subst hg
   simp only[wanted,Option.some.injEq] at h
   subst h
   simp[Region.wanted,hgd]
  ·rename_i j want hgd
   split at hg
   ·rename_i d hd
    injection hg with hg;subst hg
    simp only[wanted] at h
    have hy:yielded ops a.tmps j=match a.tmps[d]? with|some (.bool b)=>some b|_=>none:=by
     unfold yielded
     rw[hd]
     rfl
    simp only[Region.wanted,hgd,hy]
    rw[w03] at h
    cases hρ:ρ[d]? with
    |none=>rw[hρ] at h;simp at h
    |some x=>
     obtain⟨v,h1,h2⟩:=hR.get hρ
     have h1':a.tmps[d]? =some v:=by simpa using h1
     rw[hρ] at h
     simp only[w15] at h
     split at h
     ·injection h with h
      rw[h1',h2.inv_bool]
      simpa using h
     ·injection h with h
      subst h
      rw[h1']
      obtain⟨us,rfl,_⟩:=Reps.of_tup h2
      rfl
     ·cases h
   ·cases hg
 ·cases hc
end
section
variable {P : Program} {g : G} {w : World} {a : Act} {o : Oper} {ops : Array Oper} {ds : List Nat} {Q : Exit → Act → World → Prop} {K : Act → World → Prop}
theorem Qi {v:Value} {z:AV}:avOf v≠some (.tup [z]):=by
 intro h
 unfold avOf avCell at h
 repeat' (first|(cases h;done)|(simp at h;done)|split at h)
theorem Tu {x:Operand} {f:Opd} (h:compOpd x=some f):unS f=f:=by
 unfold compOpd at h
 split at h
 ·injection h with h;rw[←h];rfl
 ·rename_i v
  rw[w01] at h
  obtain⟨y,h1,rfl⟩:=h
  unfold unS
  split
  ·rename_i z hz
   injection hz with hz
   subst hz
   exact absurd h1 Qi
  ·rfl
 ·injection h with h;rw[←h];rfl
 ·cases h
theorem V2 {f:Opd} {l:List Opd} (hc:compOp P ds o=some (.call f l)): ∃c x xs,o.op= .call c∧c.callee= .value x∧c.args.toList=xs∧compOpd x=some (unS f)∧compOpds xs=some l:=by
 have key: ∃f0,compOp0 P o=some (.call f0 l)∧(f=f0∨ ∃v,f0= .c v∧f= .c (.tup [v])):=by
  unfold compOp at hc
  rw[w01] at hc
  obtain⟨op1,hc,hm⟩:=hc
  obtain⟨f0,rfl,hf⟩:=WE hm
  refine⟨f0,?_,hf⟩
  unfold compOp1 at hc
  split at hc
  ·cases hc
  ·split at hc
   ·rename_i h0;injection hc with hc;rw[h0,hc]
   ·split at hc<;>cases hc
 obtain⟨f0,hc,hf⟩:=key
 unfold compOp0 at hc
 split at hc
 case h_21=>
  rename_i c hop
  unfold compCall appMake at hc
  split at hc
  ·rename_i x hcal
   split at hc
   ·rename_i y l' hx hl
    injection hc with hc
    injection hc with h1 h2
    subst h1;subst h2
    refine⟨c,x,_,hop,hcal,rfl,?_,hl⟩
    rcases hf with rfl|⟨v,rfl,rfl⟩
    ·rw[Tu hx];exact hx
    ·exact hx
   ·cases hc
  ·cases hc
  ·exfalso
   repeat' (first|(cases hc;done)|(simp at hc;done)|(split at hc)|(simp only[w02,w01] at hc;obtain⟨_,_,hc⟩:=hc))
 all_goals
  exfalso
  repeat' (first|(cases hc;done)|(simp at hc;done)|(split at hc)|(simp only[w02,w01] at hc;obtain⟨_,_,hc⟩:=hc))
def Goes (g:G) (w:World) (a:Act) (ρ:List AV) (m:Mem) (K:Act→World→Prop):Prop:=
 ∀g' a' w',Ext g w g' w'→Inv g' w' m→Reps g' w' ρ a'.tmps.toList→a'.defers=a.defers→K a' w'
theorem XT {c:Call} {op:AOp} (hop:o.op= .defer c) (hc:compOp P ds o=some op):op= .ext .bad:=by
 unfold compOp at hc
 rw[w01] at hc
 obtain⟨op1,hc,rfl⟩:=hc
 have h1:compX P o=none:=by unfold compX;rw[hop]
 have h2:compOp0 P o=none:=by unfold compOp0;rw[hop]
 unfold compOp1 at hc
 rw[h1,h2] at hc
 simp only[hop,isStore,w0c,if_false,Option.some.injEq] at hc
 subst hc
 rfl
theorem Wi {O:Oracle} {op:AOp} {ρ:List AV} {m:Mem} {z:AV×Mem} (hc:compOp P ds o=some op) (he:evOp O ρ m op=some z) (rr:Option Nat) (ev:Operand→Value):o.semAt rr ev=execOp ev o:=by
 unfold Oper.semAt
 split
 ·rename_i l c hop
  rw[XT hop hc] at he
  cases he
 ·rfl
theorem Up {O:Oracle} {C:Ctx} {N:Nat} {rr:Option Nat} (hO:OracleOk P C O) (hz:C.Z g w) {op:AOp} (hc:compOp P ds o=some op) {ρ:List AV} {m m':Mem} {r:AV} (hf:m.floor≤m.stk.length+1) (he:evOp O ρ m op=some (r,m')) (hR:Reps g w ρ a.tmps.toList) (I:Inv g w m)
  (hK: ∀g' w' v,Ext g w g' w'→Inv g' w' m'→Rep g' w' r v→K (a.put o.dst v) w'):o.wpIn (FW rr) N P a w K Q:=by
 have hsem:=Wi hc he rr a.eval
 refine⟨fun _ _=>trivial,?_⟩
 rw[Y3,hsem]
 by_cases hnc: ∃f l,op= .call f l
 ·obtain⟨f,l,rfl⟩:=hnc
  have hcall:=V2 hc
  obtain⟨c,x,xs,hop,hcal,rfl,hx,hl⟩:=hcall
  simp only[evOp,evCall] at he
  split at he
  ·rename_i fid first caps hfe
   obtain⟨f1,c1,hv,k1,k2⟩:=Xj hR hx hfe
   have k3:=yR hR hl
   obtain⟨⟨fn,hfn,hname,hbody⟩,hcalls⟩:CallOk P C fid _ _ _ _:=hO (some fid) _ _ _ _ he hf
   have hargs:Reps g w (first++l.map (fun p=>p.ev ρ)++caps) (f1++c.args.toList.map a.eval++c1):=(k1.append k3).append k2
   have hrun:(execOp a.eval o).run P w= .ok (.enter fid (f1++c.args.toList.map a.eval++c1).toArray) w:=by
    have harr:(f1.toArray++c.args.map a.eval++c1.toArray)=(f1++c.args.toList.map a.eval++c1).toArray:=by
     apply Array.ext';simp
    simp only[execOp,hop,resolve,hcal,hv,Deferred.ofValue,Sem.run_bind,Sem.run_pure,Result.andThen_ok,invoke,callFunc,run_program,hfn,hname,hbody,w0c,if_false]
    rw[←harr]
   rw[hrun,Oper.uponIn_enter]
   refine⟨fun h=>by simp[FW,Fence.wide] at h,(Zy (hcalls g w _ hz I hargs)).mono fun e w' ⟨v,g',he',hx1,hI,hr⟩=> ?_⟩
   subst he'
   exact hK g' w' v hx1 hI hr
  ·rename_i yl yk yst hfe
   have h1:=za hR hx
   rw[hfe] at h1
   have k3:=yR hR hl
   obtain⟨l',f',tmps,assign,body,hv,hy,hround⟩: ∃l f tmps assign body,_:=(show YieldOk P C _ _ _ _ from hO none _ _ _ _ he hf) _ _ rfl g w _ _ hz I h1 k3
   have hrun:(execOp a.eval o).run P w= .ok (.round l' f' tmps assign body) w:=by
    simp only[execOp,hop,resolve,hcal,hv,Deferred.ofValue,Sem.run_bind,Sem.run_pure,Result.andThen_ok,invoke]
    rw[←hy]
    congr 2
    apply Array.ext';simp
   rw[hrun,Oper.uponIn_round]
   refine⟨fun h=>by simp[FW,Fence.wide] at h,(Vt (rr:=none) Qw rfl hround).mono fun e w' ⟨v,g',he',hx1,hI,hr⟩=> ?_⟩
   subst he'
   exact hK g' w' v hx1 hI hr
  ·cases he
 ·have hnc': ∀f l,op≠ .call f l:=fun f l h=>hnc ⟨f,l,h⟩
  obtain⟨g',w',v,hrun,hx,hI,hr⟩:=VU hc hnc' hR I he
  rcases hrun with hrun|⟨hrun,rfl⟩
  ·rw[hrun,Oper.uponIn_value]
   exact hK g' w' v hx hI hr
  ·rw[hrun,Oper.uponIn_skip]
   exact hK g' w' _ hx hI hr
theorem Uo {O:Oracle} {C:Ctx} {N:Nat} {rr:Option Nat} (hO:OracleOk P C O) (hz:C.Z g w) {ao:AOper} (hc:compOper P ds ops o=some ao) {σ σ':St} (hf:σ.m.floor≤σ.m.stk.length+1) (he:evOper O ao σ=some σ') (hR:Reps g w σ.ρ a.tmps.toList) (I:Inv g w σ.m)
  (hK:Goes g w a σ'.ρ σ'.m K):if Region.wanted o (yielded ops a.tmps) then o.wpIn (FW rr) N P a w K Q else(∀f,o.about P w a.eval=some f→(FW rr).fn f)∧K (a.put o.dst undef) w:=by
 have hdst:ao.dst=o.dst∧compOp P ds o=some ao.op:=by
  unfold compOper at hc
  split at hc
  ·rename_i op gd h1 _
   injection hc with hc
   subst hc
   exact⟨rfl,h1⟩
  ·cases hc
 unfold evOper at he
 split at he
 ·rename_i hw
  rw[uq hc hR hw,if_pos rfl]
  simp only[w01] at he
  obtain⟨⟨r,m'⟩,h1,rfl⟩:=he
  refine Up hO hz hdst.2 hf h1 hR I fun g' w' v hx hI hr=>hK g' _ w' hx hI ?_ (zR _ _)
  rw[hdst.1]
  exact qQ (hR.mono hx) hr _
 ·rename_i hw
  rw[uq hc hR hw,if_neg (by simp)]
  injection he with he
  subst he
  refine⟨fun _ _=>trivial,hK g _ w (Ext.refl g w) I ?_ (zR _ _)⟩
  simp only
  rw[hdst.1]
  exact qQ hR (zZ g w) _
 ·cases he
theorem v5 {O:Oracle} (hO:OracleAbove O) {ao:AOper} {σ σ':St} (hf:σ.m.floor≤σ.m.stk.length+1) (hs:ao.op.isStore=true→σ.m.floor≤σ.m.stk.length) (he:evOper O ao σ=some σ'):Above σ.m σ'.m:=by
 unfold evOper at he
 split at he
 ·simp only[w01] at he
  obtain⟨⟨r,m'⟩,h1,rfl⟩:=he
  exact yh hO hf hs h1
 ·injection he with he;subst he;exact Above.refl _
 ·cases he
theorem jU {O:Oracle} (hO:OracleAbove O): ∀{l:List AOper} {σ σ':St},σ.m.floor≤σ.m.stk.length→evOps O l σ=some σ'→Above σ.m σ'.m
 | [],σ,σ',_,h=>by simp[evOps] at h;rw[h];exact Above.refl _
 |o::l,σ,σ',hf,h=>by
  simp only[evOps,w02] at h
  obtain⟨σ1,h1,h2⟩:=h
  have k1:=v5 hO (by omega) (fun _=>hf) h1
  exact k1.trans (jU hO (by rw[k1.len,k1.floor];exact hf) h2)
theorem Wj {rr:Option Nat} (ev:Operand→Value) (h: ∀c,o.op≠ .defer c):o.semAt rr ev=execOp ev o:=by
 unfold Oper.semAt
 split
 ·rename_i l c hop
  exact absurd hop (h _)
 ·rfl
theorem Tx {N:Nat} {rr:Option Nat} {v:Value} {w':World} (hsem:o.semAt rr a.eval=execOp a.eval o) (hrun:(execOp a.eval o).run P w= .ok (.value v) w') (hK:K (a.put o.dst v) w'):o.wpIn (FW rr) N P a w K Q:=by
 refine⟨fun _ _=>trivial,?_⟩
 rw[Y3,hsem,hrun,Oper.uponIn_value]
 exact hK
theorem V1 {t e:TypeId} {C:Array Value} {n c:Nat} (ht:P.underlying t=some (.slice e)) (he:P.underlying e=some (.int .u8)):
  (convert t t (.slice (some ⟨w.heap.size,0,none⟩) n c)).run P (w.alloc (.cells C e))= .ok (.slice (some ⟨w.heap.size,0,none⟩) n c) (w.alloc (.cells C e (C.size,C.size+1))):=by
 have hsh:(w.alloc (.cells C e)).shape? w.heap.size=some (e,C.size):=by
  unfold World.shape?
  rw[xo]
 have hfr:(w.alloc (.cells C e)).freeze ⟨w.heap.size,C.size,none⟩ 1=w.alloc (.cells C e (C.size,C.size+1)):=by
  simp only[World.freeze,World.alloc]
  rw[if_neg (by decide)]
  congr 1
  apply Array.ext_getElem?
  intro i
  rw[Array.getElem?_modify,Array.getElem?_push,Array.getElem?_push]
  by_cases hi:i=w.heap.size
  ·subst hi;simp
  ·have: ¬w.heap.size=i:=fun h=>hi h.symm
   simp[hi,this]
 simp[convert,run_underlying ht,run_underlying he,markStringish,hsh]
 exact hfr
theorem V9 {o2:Oper} {d d2:Nat} {l:List Opd} (h:bytesLit P o o2=some (d,d2,l)): ∃t len ps e ti xs,o.op= .buildSlice t len ps∧o2.op= .convert t t (.tmp d)∧o.dst=some d∧o2.dst=some d2∧o.guard=none∧o2.guard=none∧P.underlying t=some (.slice e)∧P.info? e=some ti∧
  P.underlying e=some (.int .u8)∧ti.size=1∧ps.size=len∧len*ti.size≤16777216∧(ti.zero.map fun z=>z.cells.size)=some ti.size∧litParts 0 ps.toList=some xs∧compOpds xs=some l∧ ∀p∈l,∃v,p= .c v:=by
 unfold bytesLit at h
 split at h
 ·rename_i t len ps s u x e1 e2 hop hop2 hd hd2
  split at h
  ·rename_i e ht
   split at h
   ·rename_i ti hi
    split at h
    ·rename_i hc
     obtain⟨rfl,rfl,rfl,c4,c5,c6,c7,c8,c9,c10⟩:=hc
     split at h
     ·rename_i l' hl
      split at h
      ·rename_i hall
       simp only[Option.some.injEq,Prod.mk.injEq] at h
       obtain⟨rfl,rfl,rfl⟩:=h
       simp only[w02] at hl
       obtain⟨xs,h1,h2⟩:=hl
       refine⟨_,len,ps,e,ti,xs,hop,hop2,hd,hd2,c4,c5,ht,hi,?_,c7,c8,c9,c10,h1,h2,fun p hp=> ?_⟩
       ·unfold isU8 at c6
        split at c6
        ·assumption
        ·cases c6
       ·have:=w29.1 hall p hp
        split at this
        ·exact⟨_,rfl⟩
        ·cases this
      ·cases h
     ·cases h
    ·cases h
   ·cases h
  ·cases h
 ·cases h
theorem XD {O:Oracle} {C:Ctx} {N:Nat} {rr:Option Nat} (hO:OracleOk P C O) (hA:OracleAbove O): ∀{l:List Oper} {al:List AOper} {i:Nat} {σ σ':St} {g:G} {w:World} {a:Act},C.Z g w→compOpersF P ds ops i l=some al→σ.m.floor≤σ.m.stk.length→
  evOps O al σ=some σ'→Reps g w σ.ρ a.tmps.toList→Inv g w σ.m→Goes g w a σ'.ρ σ'.m (Q .normal)→wpListIn (FW rr) N P ops Q l a w
 | [],al,i,σ,σ',g,w,a,_,hc,_,he,hR,I,hK=>by
  simp[compOpersF] at hc;subst hc
  simp[evOps] at he;subst he
  exact hK g a w (Ext.refl g w) I hR rfl
 | [o],al,i,σ,σ',g,w,a,hz,hc,hf,he,hR,I,hK=>by
  simp only[compOpersF,w01] at hc
  obtain⟨ao,h1,rfl⟩:=hc
  simp only[evOps,w02,Option.some.injEq] at he
  obtain⟨σ1,h3,rfl⟩:=he
  refine wpListIn_step fun K hKK=>Uo hO hz h1 (by omega) h3 hR I fun g' a' w' hx hI hR' hd=> ?_
  exact hKK a' w' (hK g' a' w' hx hI hR' hd)
 |o::o2::l,al,i,σ,σ',g,w,a,hz,hc,hf,he,hR,I,hK=>by
  simp only[compOpersF] at hc
  split at hc
  ·rename_i d d2 l1 hb
   simp only[w01] at hc
   obtain⟨k,hk,rfl⟩:=hc
   obtain⟨t,len,ps,e,ti,xs,q1,q2,q3,q4,q5,q6,q7,q8,q9,q10,q11,q12,q13,q14,q15,q16⟩:=V9 hb
   simp only[evOps,evOper,wanted,evOp,setDst] at he
   by_cases hall:allLen 1 (l1.map fun p=>p.ev σ.ρ)=true
   case neg=>rw[if_neg hall] at he;cases he
   rw[if_pos hall] at he
   simp only[w05,w16,show∀(ρ:List AV) (i:Nat),(Opd.t i).ev ρ=ρ.getD i (.tup []) from fun _ _=>rfl,Option.map_none] at he
   by_cases hd:d<σ.ρ.length
   case neg=>
    rw[List.set_eq_of_length_le (by omega),w03,w19 (by omega)] at he
    cases he
   rw[show(σ.ρ.set d (.list 1 .full (l1.map fun p=>p.ev σ.ρ))).getD d (.tup [])= .list 1 .full (l1.map fun p=>p.ev σ.ρ) by rw[w03,List.getElem?_set_self hd];rfl] at he
   simp only[evSlice,beq_self_eq_true,if_true,bound,w16,w05,Bool.true_or,Bool.and_self,List.take_length,List.drop_zero] at he
   obtain⟨D,r1,r2,r3⟩:=Ur (m:=σ.m) hR I q1 q7 q8 (by omega) q11 q12 q13 q14 q15 (by rw[q10];exact hall)
   obtain⟨x2,I2,k2⟩:=r3 (D.size,D.size+1)
   rw[q10] at k2
   have hdt:d<a.tmps.size:=by have:=hR.1;simp at this;omega
   refine wpListIn_step fun K hKK=> ?_
   rw[show Region.wanted o (yielded ops a.tmps)=true by unfold Region.wanted;rw[q5],if_pos rfl]
   refine Tx (Wj _ fun c=>by rw[q1];exact fun h=>by cases h) r1 (hKK _ _ ?_)
   refine wpListIn_step fun K hKK=> ?_
   rw[show Region.wanted o2 (yielded ops (a.put o.dst (.slice (some ⟨w.heap.size,0,none⟩) len len)).tmps)=true by unfold Region.wanted;rw[q6],if_pos rfl]
   have hev:(a.put o.dst (.slice (some ⟨w.heap.size,0,none⟩) len len)).eval (.tmp d)= .slice (some ⟨w.heap.size,0,none⟩) len len:=by
    rw[q3]
    simp[Act.put,Act.eval,hdt]
   refine Tx (v:= .slice (some ⟨w.heap.size,0,none⟩) len len) (w':=w.alloc (.cells D e (D.size,D.size+1))) (Wj _ fun c=>by rw[q2];exact fun h=>by cases h) ?_ (hKK _ _ ?_)
   ·simp[execOp,q2,hev,V1 q7 q9]
   ·refine XD hO hA (C.mono x2.toExtW hz) hk (by exact hf) he ?_ I2 fun g2 a2 w2 hx2 hI2 hR2 hd2=>hK g2 a2 w2 (x2.trans hx2) hI2 hR2 (hd2.trans ?_)
    ·rw[q3,q4]
     exact qQ (qQ (hR.mono x2) k2 (some d)) k2 (some d2)
    ·rw[zR,zR]
  ·split at hc
   ·rename_i ao al' h1 h2
    injection hc with hc;subst hc
    simp only[evOps,w02] at he
    obtain⟨σ1,h3,h4⟩:=he
    have k1:=v5 hA (by omega) (fun _=>hf) h3
    refine wpListIn_step fun K hKK=>Uo hO hz h1 (by omega) h3 hR I fun g' a' w' hx hI hR' hd=> ?_
    exact hKK a' w' (XD hO hA (C.mono hx.toExtW hz) h2 (by rw[k1.len,k1.floor];exact hf) h4 hR' hI fun g2 a2 w2 hx2 hI2 hR2 hd2=>hK g2 a2 w2 (hx.trans hx2) hI2 hR2 (hd2.trans hd))
   ·cases hc
end
theorem X5 (acc:List Nat) (i:Nat): ∀(l:List Edge) (s:Nat),(l.foldl (fun s e=>if Region.binds .any e then s|||2^e.on|||acc.getD e.on 0 else s) s).testBit i=true→
  s.testBit i=true∨ ∃e∈l,Region.binds .any e=true∧(i=e.on∨(acc.getD e.on 0).testBit i=true)
 | [],s,h=> .inl h
 |e::l,s,h=>by
  rw[List.foldl_cons] at h
  rcases X5 acc i l _ h with h|⟨e',he',hb,hi⟩
  ·split at h
   ·rename_i hb
    rw[Nat.testBit_or,Nat.testBit_or,w14,w14] at h
    rcases h with (h|h)|h
    ·exact .inl h
    ·rw[Nat.testBit_two_pow] at h
     simp at h
     exact .inr ⟨e,w28,hb,.inl h.symm⟩
    ·exact .inr ⟨e,w28,hb,.inr h⟩
   ·exact .inl h
  ·exact .inr ⟨e',w1c _ he',hb,hi⟩
theorem uy: ∀(l:List Oper) (acc:List Nat),(masks l acc).take acc.length=acc∧(masks l acc).length=acc.length+l.length
 | [],acc=>by simp[masks]
 |o::l,acc=>by
  obtain⟨h1,h2⟩:=uy l (acc++[maskOf acc o])
  simp only[masks]
  refine⟨?_,by rw[h2];simp;omega⟩
  have:(masks l (acc++[maskOf acc o])).take acc.length=((masks l (acc++[maskOf acc o])).take (acc++[maskOf acc o]).length).take acc.length:=by
   rw[List.take_take];congr 1;simp
  rw[this,h1]
  simp
theorem YV: ∀(l:List Oper) (acc:List Nat) (k:Nat) (o:Oper),l[k]? =some o→(masks l acc)[acc.length+k]? =some (maskOf ((masks l acc).take (acc.length+k)) o)
 | [],_,_,_,h=>by simp at h
 |o'::l,acc,0,o,h=>by
  simp at h;subst h
  simp only[masks,Nat.add_zero]
  obtain⟨h1,_⟩:=uy l (acc++[maskOf acc o'])
  have h2:(masks l (acc++[maskOf acc o'])).take acc.length=acc:=(uy (o'::l) acc).1
  rw[h2]
  have h3:((masks l (acc++[maskOf acc o'])).take (acc++[maskOf acc o']).length)[acc.length]? =(masks l (acc++[maskOf acc o']))[acc.length]? :=by
   rw[w0f,if_pos (by simp)]
  rw[←h3,h1]
  simp
 |o'::l,acc,k+1,o,h=>by
  simp only[masks]
  have:=YV l (acc++[maskOf acc o']) k o (by simpa using h)
  rw[show(acc++[maskOf acc o']).length+k=acc.length+(k+1) by simp;omega] at this
  exact this
def Closed (ops:Array Oper) (X:Nat→Bool):Prop:= ∀(j:Nat) (o:Oper),ops[j]? =some o→X j=true→ ∀e∈o.after,Region.binds .any e=true→X e.on=true
theorem U3 {ops:Array Oper} {X:Nat→Bool} (hX:Closed ops X): ∀(j i:Nat),X j=true→((masks ops.toList []).getD j 0).testBit i=true→X i=true:=by
 intro j
 induction j using Nat.strongRecOn with
 |_ j ih=>
  intro i hj hb
  cases ho:ops[j]? with
  |none=>
   have:(masks ops.toList [])[j]? =none:=by
    rw[List.getElem?_eq_none_iff,(uy ops.toList []).2]
    simpa using ho
   rw[w03,this] at hb
   simp at hb
  |some o=>
   have hm:=YV ops.toList [] j o (by simpa using ho)
   simp only[List.length_nil,w1b] at hm
   rw[w03,hm,w15] at hb
   rcases X5 _ i _ _ hb with h|⟨e,he,hbd,hi⟩
   ·simp at h
   ·have hXe:=hX j o ho hj e (by simpa using he) hbd
    rcases hi with rfl|hi
    ·exact hXe
    ·by_cases hlt:e.on<j
     ·refine ih e.on hlt i hXe ?_
      rw[w03,w0f,if_pos hlt] at hi
      rw[w03];exact hi
     ·rw[w03,w0f,if_neg hlt] at hi
      simp at hi
theorem yz {ops:Array Oper} {X:Nat→Bool} (hX:Closed ops X) {i j:Nat} (hij:i<j) (h:ordered (masks ops.toList []) i j=true∨ordered (masks ops.toList []) j i=true) (hj:X j=true):X i=true:=by
 unfold ordered at h
 rw[Nat.max_eq_right (by omega),Nat.min_eq_left (by omega),Nat.max_eq_left (by omega),Nat.min_eq_right (by omega)] at h
 rcases h with h|h<;>exact U3 hX j i hj h
theorem qu {ρ ρ':List AV}: ∀{ps:List (Nat×Nat×Opd)} {z:List AV},(∀y∈ps.map (fun p=>p.2.2),y.ev ρ=y.ev ρ')→evBuild z ρ ps=evBuild z ρ' ps
 | [],_,_=>rfl
 |(off,n,x)::r,z,h=>by
  have hx:x.ev ρ=x.ev ρ':=h x (by simp)
  simp only[evBuild,hx]
  split
  ·exact qu fun y hy=>h y (by simp only[w1d];exact w1c _ hy)
  ·rfl
theorem z0u {f:Opd} {ρ ρ':List AV} (h:f.ev ρ=f.ev ρ'):(unS f).ev ρ=(unS f).ev ρ':=by
 cases f with
 |t i=>exact h
 |c v=>unfold unS;split<;>rfl
theorem VV {O:Oracle} {ρ ρ':List AV} {m:Mem} {op:AOp} (h: ∀y∈op.reads,y.ev ρ=y.ev ρ'):evOp O ρ m op=evOp O ρ' m op:=by
 have lst: ∀{l:List Opd},(∀y∈l,y.ev ρ=y.ev ρ')→(l.map fun p=>p.ev ρ)=l.map fun p=>p.ev ρ':=fun hl=>List.map_congr_left hl
 have opt: ∀{x:Option Opd},(∀y∈x.toList,y.ev ρ=y.ev ρ')→(x.map fun p=>p.ev ρ)=x.map fun p=>p.ev ρ':=by
  intro x hx
  cases x with
  |none=>rfl
  |some y=>simp only[w05];rw[hx y (by simp)]
 cases op<;>simp only[AOp.reads] at h<;>simp only[evOp]
 case build z ps=>rw[qu h]
 case ext e=>
  cases e<;>simp only[XOp.reads] at h<;>simp only[evX]
  case eqA n s ls x y=>rw[h x (by simp),h y (by simp)]
  case isNil n kd x=>rw[h x (by simp)]
  case wload g n x=>rw[h x (by simp)]
  case nilChk x=>rw[h x (by simp)]
  case mget kk z x k=>rw[h x (by simp),h k (by simp)]
  case copy s d x=>rw[h d (by simp),h x (by simp)]
  case litB s ps=>rw[lst h]
  case clr z x=>rw[h x (by simp)]
  case appB p s b x y=>rw[h x (by simp),h y (by simp)]
  case appK s x y=>rw[h x (by simp),h y (by simp)]
  case lst n x y=>rw[h x (by simp),h y (by simp)]
  case slcB s x lo hi=>rw[h x (by simp),opt fun y hy=>h y (by simp only[w17,w08];simp[hy]),opt fun y hy=>h y (by simp only[w17,w08];simp[hy])]
  case mput kk x k v=>rw[h x (by simp),h k (by simp),h v (by simp)]
 case lit s ps=>rw[lst h]
 case mkfn f x y=>rw[lst fun y hy=>h y (List.mem_append_left _ hy),lst fun y hy=>h y (List.mem_append_right _ hy)]
 case slice s x lo hi top=>
  rw[h x (by simp),opt fun y hy=>h y (by simp only[w17,w08];simp[hy]),opt fun y hy=>h y (by simp only[w17,w08];simp[hy]),opt fun y hy=>h y (by simp only[w17,w08];simp[hy])]
 case sliceA n s x lo hi=>
  rw[h x (by simp),opt fun y hy=>h y (by simp only[w17,w08];simp[hy]),opt fun y hy=>h y (by simp only[w17,w08];simp[hy])]
 case sliceS x lo hi=>
  rw[h x (by simp),opt fun y hy=>h y (by simp only[w17,w08];simp[hy]),opt fun y hy=>h y (by simp only[w17,w08];simp[hy])]
 case call f args=>rw[z0u (h f (by simp)),lst fun y hy=>h y (w1c _ hy)]
 case pick c x y=>rw[h c (by simp),h x (by simp),h y (by simp)]
 case store n x y=>rw[h x (by simp),h y (by simp)]
 case bin b x y=>rw[h x (by simp),h y (by simp)]
 case beq b x y=>rw[h x (by simp),h y (by simp)]
 case iaddr s x y=>rw[h x (by simp),h y (by simp)]
 case iaddrA n s x y=>rw[h x (by simp),h y (by simp)]
 case indexS x y=>rw[h x (by simp),h y (by simp)]
 case indexA n s b x y=>rw[h x (by simp),h y (by simp)]
 case app s b x y=>rw[h x (by simp),h y (by simp)]
 case mx x y=>rw[h x (by simp),h y (by simp)]
 case mn x y=>rw[h x (by simp),h y (by simp)]
 case make s b z x y=>rw[h x (by simp),h y (by simp)]
 case mov x=>rw[h x (by simp)]
 case un u x=>rw[h x (by simp)]
 case conv k x=>rw[h x (by simp)]
 case convS x=>rw[h x (by simp)]
 case toStr x=>rw[h x (by simp)]
 case toBytes x=>rw[h x (by simp)]
 case faddr n x=>rw[h x (by simp)]
 case field b n f x=>rw[h x (by simp)]
 case box n x=>rw[h x (by simp)]
 case load b n x=>rw[h x (by simp)]
 case len x=>rw[h x (by simp)]
 case lenS x=>rw[h x (by simp)]
 case extract x i=>rw[h x (by simp)]
theorem X9 {O:Oracle} {ρ:List AV} {m m':Mem} {op:AOp} {r:AV} (hk:op.kind=0) (h:evOp O ρ m op=some (r,m')):m'=m∧ ∀m2,evOp O ρ m2 op=some (r,m2):=by
 have same: ∀{x:Option AV},(x.map fun v=>(v,m))=some (r,m')→m'=m∧ ∀m2:Mem,(x.map fun v=>(v,m2))=some (r,m2):=by
  intro x h
  cases x with
  |none=>simp at h
  |some z=>simp at h;obtain⟨rfl,rfl⟩:=h;exact⟨rfl,fun _=>rfl⟩
 cases op<;>simp only[AOp.kind] at hk<;>first|(cases hk;done)|skip
 case mov x=>simp only[evOp,Option.some.injEq,Prod.mk.injEq] at h;obtain⟨rfl,rfl⟩:=h;exact⟨rfl,fun _=>rfl⟩
 case pick c x y=>
  simp only[evOp] at h⊢
  split at h
  ·simp only[Option.some.injEq,Prod.mk.injEq] at h;obtain⟨rfl,rfl⟩:=h;exact⟨rfl,fun _=>rfl⟩
  ·cases h
 case build z ps=>
  simp only[evOp,w01,Prod.mk.injEq] at h⊢
  obtain⟨cs,h1,rfl,rfl⟩:=h
  exact⟨rfl,fun _=>⟨cs,h1,rfl,trivial⟩⟩
 case lit s ps=>
  simp only[evOp] at h⊢
  split at h
  ·rename_i hc
   simp only[Option.some.injEq,Prod.mk.injEq] at h;obtain⟨rfl,rfl⟩:=h;exact⟨rfl,fun _=>by rw[if_pos hc]⟩
  ·cases h
 case bin b x y=>exact same h
 case beq b x y=>
  simp only[evOp] at h⊢
  split at h
  ·simp only[Option.some.injEq,Prod.mk.injEq] at h;obtain⟨rfl,rfl⟩:=h;exact⟨rfl,fun _=>rfl⟩
  ·cases h
 case un u x=>exact same h
 case conv k x=>
  simp only[evOp] at h⊢
  split at h
  ·simp only[Option.some.injEq,Prod.mk.injEq] at h;obtain⟨rfl,rfl⟩:=h;exact⟨rfl,fun _=>rfl⟩
  ·cases h
 case convS x=>
  simp only[evOp] at h⊢
  split at h
  ·simp only[Option.some.injEq,Prod.mk.injEq] at h;obtain⟨rfl,rfl⟩:=h;exact⟨rfl,fun _=>rfl⟩
  ·cases h
 case ext e=>
  cases e<;>simp only[evOp,evX] at h⊢
  case bad=>cases h
  case wload=>cases hk
  case eqA n s ls x y=>
   split at h
   ·split at h
    ·rename_i hc
     simp only[w01,Prod.mk.injEq] at h
     obtain⟨b,h1,rfl,rfl⟩:=h
     refine⟨rfl,fun m2=> ?_⟩
     rw[if_pos hc,h1];rfl
    ·cases h
   ·cases h
  case isNil n kd x=>
   simp only[w01,Prod.mk.injEq] at h
   obtain⟨b,h1,rfl,rfl⟩:=h
   exact⟨rfl,fun m2=>by rw[h1];rfl⟩
  case nilChk x=>
   simp only[w01,Prod.mk.injEq] at h
   obtain⟨b,h1,rfl,rfl⟩:=h
   exact⟨rfl,fun m2=>by rw[h1];rfl⟩
  case mkmap=>cases hk
  case mget=>cases hk
  case mput=>cases hk
  case copy=>cases hk
  case litB=>cases hk
  case clr=>cases hk
  case appB=>cases hk
  case appK=>cases hk
  case slcB=>cases hk
  case lst=>cases hk
 case mkfn f x y=>simp only[evOp,Option.some.injEq,Prod.mk.injEq] at h;obtain⟨rfl,rfl⟩:=h;exact⟨rfl,fun _=>rfl⟩
 case faddr n x=>exact same h
 case field b n f x=>
  simp only[evOp] at h⊢
  split at h
  ·exact same h
  ·cases h
 case iaddr s x y=>exact same h
 case iaddrA n s x y=>exact same h
 case indexS x y=>
  simp only[evOp] at h⊢
  split at h
  ·simp only[w02,w01,Prod.mk.injEq] at h⊢
   obtain⟨j,h1,c,h2,rfl,rfl⟩:=h
   exact⟨rfl,fun _=>⟨j,h1,c,h2,rfl,trivial⟩⟩
  ·cases h
 case indexA n s b x y=>
  simp only[evOp] at h⊢
  split at h
  ·simp only[w02,w01,Prod.mk.injEq] at h⊢
   obtain⟨j,h1,c,h2,rfl,rfl⟩:=h
   exact⟨rfl,fun _=>⟨j,h1,c,h2,rfl,trivial⟩⟩
  ·cases h
 case len x=>exact same h
 case lenS x=>
  simp only[evOp] at h⊢
  split at h
  ·simp only[Option.some.injEq,Prod.mk.injEq] at h;obtain⟨rfl,rfl⟩:=h;exact⟨rfl,fun _=>rfl⟩
  ·cases h
 case mx x y=>exact same h
 case mn x y=>exact same h
 case slice s x lo hi top=>exact same h
 case sliceA n s x lo hi=>exact same h
 case sliceS x lo hi=>exact same h
 case extract x i=>
  simp only[evOp] at h⊢
  split at h
  ·exact same h
  ·cases h
theorem Xa {O:Oracle} {ρ:List AV} {m m':Mem} {op:AOp} {r:AV} (hk:op.kind≤1) (h:evOp O ρ m op=some (r,m')):m'=m∧ ∀m2:Mem,(∀l k st cs,m.blk l k st=some cs→m2.blk l k st=some cs)→evOp O ρ m2 op=some (r,m2):=by
 by_cases h0:op.kind=0
 ·obtain⟨h1,h2⟩:=X9 h0 h
  exact⟨h1,fun m2 _=>h2 m2⟩
 ·have:op.kind=1:=by omega
  cases op<;>simp only[AOp.kind] at this<;>first|(cases this;done)|skip
  case ext e=>
   cases e<;>first|(cases this;done)|skip
   rename_i b n x
   simp only[evOp,evX,w02,w01,Prod.mk.injEq] at h⊢
   obtain⟨cs,h1,v,h2,rfl,rfl⟩:=h
   refine⟨rfl,fun m2 hm=>⟨cs,?_,v,h2,rfl,trivial⟩⟩
   unfold Mem.at at h1⊢
   split at h1
   ·simp only[w01] at h1⊢
    obtain⟨c0,h3,h4⟩:=h1
    exact⟨c0,hm _ _ _ _ h3,h4⟩
   ·exact h1
   ·cases h1
  case toStr x=>
   simp only[evOp,w01,Prod.mk.injEq] at h⊢
   obtain⟨v,h1,rfl,rfl⟩:=h
   refine⟨rfl,fun m2 hm=>⟨v,?_,rfl,trivial⟩⟩
   unfold evToStr evToStr0 at h1⊢
   split at h1
   ·exact h1
   ·exact h1
   ·split at h1
    ·rename_i hb
     rw[hm _ _ _ _ hb];exact h1
    ·cases h1
   ·cases h1
  rename_i b n x
  simp only[evOp,w02,w01,Prod.mk.injEq] at h⊢
  obtain⟨cs,h1,v,h2,rfl,rfl⟩:=h
  refine⟨rfl,fun m2 hm=>⟨cs,?_,v,h2,rfl,trivial⟩⟩
  unfold Mem.at at h1⊢
  split at h1
  ·simp only[w01] at h1⊢
   obtain⟨c0,h3,h4⟩:=h1
   exact⟨c0,hm _ _ _ _ h3,h4⟩
  ·exact h1
  ·cases h1
section
variable {P : Program} {g : G} {w : World} {a : Act} {o : Oper} {ds : List Nat} {ops : Array Oper}
theorem vD {op:AOp} (hA:kindA op=true):(∃z,op= .alloc z)∨(∃n x,op= .box n x)∨(∃s b z n c,op= .make s b z n c)∨ ∃s ps,op= .ext (.litB s ps):=by
 unfold kindA at hA
 split at hA
 ·exact .inl ⟨_,rfl⟩
 ·exact .inr (.inl ⟨_,_,rfl⟩)
 ·exact .inr (.inr (.inl ⟨_,_,_,_,_,rfl⟩))
 ·exact .inr (.inr (.inr ⟨_,_,rfl⟩))
 ·cases hA
theorem YY {O:Oracle} {op:AOp} (hA:kindA op=true) {ρ:List AV} {m m':Mem} {r:AV} (he:evOp O ρ m op=some (r,m')): ∃cs,m'={m with cur:=m.cur++[⟨m.nx,cs⟩],nx:=m.nx+1}:=by
 rcases vD hA with⟨z,rfl⟩|⟨n,x,rfl⟩|⟨s,b,z,n,c,rfl⟩|⟨s,ps,rfl⟩
 case inl=>simp only[evOp,Mem.new,Option.some.injEq,Prod.mk.injEq] at he;exact⟨_,he.2.symm⟩
 case inr.inl=>
  simp only[evOp] at he
  split at he
  ·simp only[Mem.new,Option.some.injEq,Prod.mk.injEq] at he;exact⟨_,he.2.symm⟩
  ·cases he
 case inr.inr.inl=>
  simp only[evOp,evMake] at he
  split at he
  ·split at he
   ·simp only[Option.some.injEq,Prod.mk.injEq] at he;exact⟨_,he.2.symm⟩
   ·cases he
  ·cases he
 case inr.inr.inr=>
  simp only[evOp,evX,evLitB] at he
  split at he
  ·simp only[Option.some.injEq,Prod.mk.injEq] at he;exact⟨_,he.2.symm⟩
  ·cases he
theorem ug {op:AOp} (h:compOp P ds o=some op) (hne: ∀e,op≠ .ext e) (hnc: ∀f l,op≠ .call f l:=by intro f l hq;cases hq):compOp0 P o=some op:=by
 unfold compOp at h
 rw[w01] at h
 obtain⟨op1,h,hm⟩:=h
 have:=WD hm hne hnc
 subst this
 unfold compOp1 at h
 split at h
 ·injection h with h;exact absurd h.symm (hne _)
 ·split at h
  ·rename_i h0;injection h with h;rw[h0,h]
  ·split at h
   ·cases h
   ·injection h with h;exact absurd h.symm (hne _)
theorem Yu {z:List AV} (h:compOp0 P o=some (.alloc z)): ∃e v,o.op= .alloc e∧zeroT P e=some v∧0<v.cells.length∧z=v.cells:=by
 unfold compOp0 at h
 split at h
 case h_4=>
  rename_i e hop
  simp only[w02] at h
  obtain⟨v,hv,h⟩:=h
  split at h
  ·rename_i hp
   injection h with h
   injection h with h
   exact⟨e,v,hop,hv,hp,h.symm⟩
  ·cases h
 case h_21=>
  exfalso
  unfold compCall appMake at h
  repeat' (first|(cases h;done)|(simp at h;done)|(split at h)|(simp only[w02,w01] at h;obtain⟨_,_,h⟩:=h))
 all_goals
  exfalso
  repeat' (first|(cases h;done)|(simp at h;done)|(split at h)|(simp only[w02,w01] at h;obtain⟨_,_,h⟩:=h))
theorem V6 {n:Nat} {y:Opd} (h:compOp0 P o=some (.box n y)): ∃e x,o.op= .box e x∧compOpd x=some y∧0<n:=by
 unfold compOp0 at h
 split at h
 case h_5=>
  rename_i e x hop
  split at h
  ·rename_i n' a' hn hx
   split at h
   ·rename_i hp
    injection h with h
    injection h with h1 h2
    subst h1;subst h2
    exact⟨e,x,hop,hx,hp⟩
   ·cases h
  ·cases h
 case h_21=>
  exfalso
  unfold compCall appMake at h
  repeat' (first|(cases h;done)|(simp at h;done)|(split at h)|(simp only[w02,w01] at h;obtain⟨_,_,h⟩:=h))
 all_goals
  exfalso
  repeat' (first|(cases h;done)|(simp at h;done)|(split at h)|(simp only[w02,w01] at h;obtain⟨_,_,h⟩:=h))
theorem Yt {n:Nat} {y u:Opd} (h:compOp0 P o=some (.store n y u)): ∃t x z,o.op= .store t x z∧compOpd x=some y∧compOpd z=some u:=by
 unfold compOp0 at h
 split at h
 case h_9=>
  rename_i t x z hop
  split at h
  ·rename_i n' x' z' hn hx hz
   split at h
   ·injection h with h
    injection h with h1 h2 h3
    subst h1;subst h2;subst h3
    exact⟨t,x,z,hop,hx,hz⟩
   ·cases h
  ·cases h
 case h_21=>
  exfalso
  unfold compCall appMake at h
  repeat' (first|(cases h;done)|(simp at h;done)|(split at h)|(simp only[w02,w01] at h;obtain⟨_,_,h⟩:=h))
 all_goals
  exfalso
  repeat' (first|(cases h;done)|(simp at h;done)|(split at h)|(simp only[w02,w01] at h;obtain⟨_,_,h⟩:=h))
theorem U0 {s:Nat} {ps:List Opd} (h:compX P o=some (.litB s ps)):False:=by
 unfold compX at h
 repeat' (first|(cases h;done)|(simp at h;done)|(split at h)|(simp only[w02,w01] at h;obtain⟨_,_,h⟩:=h))
theorem V5 {e:XOp} (h:compOp0 P o=some (.ext e)):False:=by
 unfold compOp0 at h
 split at h
 case h_21=>
  unfold compCall appMake at h
  repeat' (first|(cases h;done)|(simp at h;done)|(split at h)|(simp only[w02,w01] at h;obtain⟨_,_,h⟩:=h))
 all_goals
  repeat' (first|(cases h;done)|(simp at h;done)|(split at h)|(simp only[w02,w01] at h;obtain⟨_,_,h⟩:=h))
theorem VK {O:Oracle} {op:AOp} (hc:compOp P ds o=some op) (hA:kindA op=true) {ρ:List AV} {m m' M:Mem} {r:AV} {cs:List AV} (he:evOp O ρ m op=some (r,m')) (hm:m'={m with cur:=m.cur++[⟨m.nx,cs⟩],nx:=m.nx+1})
  (hR:Reps g w ρ a.tmps.toList) (I:Inv g w M) (hin: ∀bl∈M.all,bl.st=m.nx→bl.cs=cs) (hrs:g.rs m.nx=true):
  ∃g' w' v,(execOp a.eval o).run P w= .ok (.value v) w'∧ExtW g w g' w'∧Inv g' w' M∧Rep g' w' r v∧g'.rs=fun s=>g.rs s&&s !=m.nx:=by
 have csEq: ∀{cs':List AV},m'={m with cur:=m.cur++[⟨m.nx,cs'⟩],nx:=m.nx+1}→cs'=cs:=by
  intro cs' h
  rw[hm] at h
  have:=congrArg Mem.cur h
  simp only[List.append_cancel_left_eq,List.cons.injEq,Blk.mk.injEq,true_and,and_true] at this
  exact this.symm
 rcases vD hA with⟨z,rfl⟩|⟨n,x,rfl⟩|⟨s,b,z,n',c',rfl⟩|⟨s,ps,rfl⟩
 case inl=>
  obtain⟨e,v,hop,hz,hz0,rfl⟩:=Yu (ug hc (by simp))
  simp only[evOp,Mem.new,Option.some.injEq,Prod.mk.injEq] at he
  obtain⟨rfl,he2⟩:=he
  have:=csEq he2.symm
  subst this
  obtain⟨u,h1,h2⟩:=v3 hz w
  have h3:=(zS (g:=g) (w:=w) h2).cells hz0
  obtain⟨g',k1,k2,k3,k4⟩:=I.alloc_late v.cells u.cells.toList e hin hrs h3
  refine⟨g',_,.pointer (some ⟨w.heap.size,0,none⟩),?_,k1,k2,?_,k4⟩
  ·simp[execOp,hop,Instr.alloc,h1,newVar,newRow]
  ·have:=Rep.ptr (g:=g') (w:=w.alloc (.cells u.cells.toList.toArray e)) m.stk.length m.cur.length m.nx 0 w.heap.size 0 _ k3
   simpa using this
 case inr.inl=>
  obtain⟨e,x',hop,hx,h0⟩:=V6 (ug hc (by simp))
  simp only[evOp] at he
  split at he
  ·rename_i hl
   simp only[Mem.new,Option.some.injEq,Prod.mk.injEq] at he
   obtain⟨rfl,he2⟩:=he
   have:=csEq he2.symm
   subst this
   have hl':(x.ev ρ).cells.length=n:=eq_of_beq hl
   have h3:=(za hR hx).cells (by omega)
   obtain⟨g',k1,k2,k3,k4⟩:=I.alloc_late (x.ev ρ).cells (a.eval x').cells.toList e hin hrs h3
   refine⟨g',_,.pointer (some ⟨w.heap.size,0,none⟩),?_,k1,k2,?_,k4⟩
   ·simp[execOp,hop,Instr.box,newVar,newRow]
   ·have:=Rep.ptr (g:=g') (w:=w.alloc (.cells (a.eval x').cells.toList.toArray e)) m.stk.length m.cur.length m.nx 0 w.heap.size 0 _ k3
    simpa using this
  ·cases he
 case inr.inr.inr=>
  unfold compOp at hc
  rw[w01] at hc
  obtain⟨op1,h,hm2⟩:=hc
  have hq:(∃s' ps',op1= .lit s' ps'∧markOp ds o.dst op1= .ext (.litB s' ps'))∨ ∃s b z k n k',op1= .make s b [z] (.c (.int k n)) (.c (.int k' n))∧z.one=true∧0≤n∧b*n≤281474976710656∧n≤9223372036854775807∧s=1∧markOp ds o.dst op1= .ext (.litB s (List.replicate n.toNat (.c z))):=by
   rcases yH ds o.dst op1 with q|⟨s,ps,rfl,q⟩|⟨p,s,b,x,y,rfl,q⟩|⟨s,b,x,y,rfl,q⟩|⟨s,x,lo,hi,rfl,q⟩|⟨v,l,rfl,q⟩|⟨s,b,z,k,n,k',rfl,c1,c2,c3,c4,c5,q⟩
   ·rw[q] at hm2
    subst hm2
    exfalso
    unfold compOp1 at h
    split at h
    ·rename_i e0 h0
     injection h with h
     injection h with h
     subst h
     exact U0 h0
    ·split at h
     ·rename_i h0
      injection h with h
      subst h
      exact V5 h0
     ·split at h
      ·cases h
      ·injection h with h
       injection h with h
       cases h
   ·exact .inl ⟨s,ps,rfl,q⟩
   ·rw[q] at hm2;cases hm2
   ·rw[q] at hm2;cases hm2
   ·rw[q] at hm2;cases hm2
   ·rw[q] at hm2;cases hm2
   ·exact .inr ⟨s,b,z,k,n,k',rfl,c1,c2,c3,c4,c5,q⟩
  rcases hq with⟨s',ps',rfl,q⟩|⟨s1,b,z,k,n,k',rfl,c1,c2,c3,c4,c5,q⟩
  rotate_left
  ·rw[q] at hm2
   injection hm2 with hm2
   injection hm2 with hm3 hm4
   subst hm3;subst hm4;subst c5
   obtain⟨t,e,x,y,ti,v,hop,hx,hy,ht,hi,hz,h0,hzs,hs,hb,hv⟩:=uG (qY h)
   obtain⟨flat,hfl,hrep,hrun⟩:=WF (g:=g) (w:=w) (a:=a) hR hop hx hy ht hi hz h0 hzs c2 (by rw[←hb];exact c3) c4 (by rw[←hv,←hs];rfl)
   simp only[evOp,evX,evLitB] at he
   split at he
   ·injection he with he
    injection he with he1 he2
    have:=csEq he2.symm
    subst he1
    have hcs:((List.replicate n.toNat (Opd.c z)).map fun p=>p.ev ρ).flatMap AV.cells=flatRep v.cells n.toNat:=by
     rw[←hv];exact YO c1 n.toNat ρ
    rw[hcs] at this
    subst this
    obtain⟨g',k1,k2,k3,k4⟩:=I.alloc_late _ flat e hin hrs hrep
    refine⟨g',_,_,hrun,k1,k2,?_,k4⟩
    rw[List.length_map,List.length_replicate]
    exact .grow _ _ _ _ _ _ _ _ _ k3 (w0e _) (by rw[hfl,←hs];omega)
   ·cases he
  rw[q] at hm2
  injection hm2 with hm2
  injection hm2 with hm3 hm4
  subst hm3;subst hm4
  obtain⟨t,e,len,ps0,ti,xs,q1,q2,q3,q4,q5,q6,q7,q8,q9,rfl⟩:=Zx h
  simp only[evOp,evX,evLitB] at he
  split at he
  ·rename_i hall
   injection he with he
   injection he with he1 he2
   have:=csEq he2.symm
   subst this
   subst he1
   obtain⟨flat,hflat,hll,hrep,hrun⟩:=WH hR q1 q2 q3 q4 q5 q6 q7 q8 q9 hall
   obtain⟨g',k1,k2,k3,k4⟩:=I.alloc_late _ flat e hin hrs hrep
   exact⟨g',_,_,hrun,k1,k2,by rw[hll];exact .grow _ _ _ _ _ _ _ _ _ k3 (w0e _) (by rw[hflat,w1b]),k4⟩
  ·cases he
 case inr.inr.inl=>
  obtain⟨t,e,x,y,ti,v,hop,hx,hy,ht,hi,hz,h0,hzs,rfl,rfl,rfl⟩:=uG (ug hc (by simp))
  have h1:=za hR hx
  have h2:=za hR hy
  simp only[evOp,evMake] at he
  split at he
  ·rename_i k n k' n2 e1 e2
   split at he
   ·rename_i hcc
    obtain⟨rfl,c1,c2,c3,c4⟩:=hcc
    injection he with he
    injection he with he1 he2
    have:=csEq he2.symm
    subst this
    subst he1
    rw[e1] at h1;rw[e2] at h2
    have hv1:=h1.inv_int
    have hv2:=h2.inv_int
    obtain⟨zv,hzv,hav⟩:=v3 hz w
    have hzi:ti.zero=some zv:=by
     simp only[zeroT,hi,w16,w02] at hz
     obtain⟨v,h3,h4⟩:=hz
     have:(zeroValue e).run P w= .ok v w:=by simp[zeroValue,typeInfo,hi,h3]
     rw[this] at hzv
     injection hzv with hzv
     rw[←hzv];exact h3
    have hsz:zv.cells.size=ti.size:=by rw[hzi] at hzs;simpa using hzs
    have hzr:=(zS (g:=g) (w:=w) hav).cells (by omega)
    have hrun:=run_make (P:=P) w t e ti zv ht hi hzi k k' n n c1 (Int.le_refl _) c2 c3
    have hcells:madeCells zv.cells (n.toNat*ti.size)=((List.replicate n.toNat zv.cells.toList).flatten).toArray:=by
     unfold madeCells
     exact rangeZ h0 zv.cells hsz n.toNat
    rw[hcells] at hrun
    obtain⟨g',k1,k2,k3,k4⟩:=I.alloc_late (flatRep v.cells n.toNat) _ e hin hrs (yO hzr n.toNat)
    refine⟨g',_,.slice (some ⟨w.heap.size,0,none⟩) n.toNat n.toNat,?_,k1,k2,?_,k4⟩
    ·simp only[execOp,hop,hv1,hv2,Sem.run_bind,hrun,Result.andThen_ok]
     rfl
    ·exact .arr _ _ _ 0 _ _ 0 _ _ k3 (w0e _)
   ·cases he
  ·cases he
end
def StepD (O:Oracle) (m0:Mem) (ws:Watch) (ao:AOper) (s s':St):Prop:=
 match ao.flt with
 |true=> ∃q,evOper O ao ⟨s.ρ,m0⟩=some q∧s'=⟨q.ρ,s.m⟩
 |false=>
  match ao.op.isStore with
  |true=>clearG s.ρ ao ws=true∧ ∃q,evOperS O m0 ws ao s=some q∧s'=⟨q.ρ,{q.m with floor:=s.m.floor}⟩
  |false=>evOper O ao s=some s'
theorem jZ {ρ:List AV} {op:AOp} {ws:Watch} (hs:op.isStore=true) (hc:clear ρ op ws=true):(∃n a x,op= .store n a x∨op= .ext (.lst n a x))∨((∃s x y,op= .ext (.appK s x y))∧ws=[])∨
  (∃p s b x y,op= .ext (.appB p s b x y)∧ ∀s' l k st n,x.ev ρ= .grow s' l k st n→ ∀w∈ws,¬(l=w.1∧k=w.2.1))∨op.isC=true:=by
 cases op<;>first|(cases hs;done)|skip
 ·rename_i e
  cases e<;>first|(cases hs;done)|(cases hc;done)|skip
  ·rename_i p s b x y
   refine .inr (.inr (.inl ⟨p,s,b,x,y,rfl,fun s' l k st n hx w hw=> ?_⟩))
   simp only[clear,hx,w29] at hc
   have:=hc w hw
   simp only[w14,bne_iff_ne,ne_eq] at this
   omega
  ·exact .inr (.inl ⟨⟨_,_,_,rfl⟩,by simpa [clear] using hc⟩)
  ·exact .inl ⟨_,_,_,.inr rfl⟩
 ·exact .inl ⟨_,_,_,.inl rfl⟩
 ·exact .inr (.inr (.inr (by rename_i f args;cases f with|t i=>(cases hs)|c v=>(cases v<;>first|rfl|(cases hs;done)))))
theorem jk {op:AOp} (hs:op.isStore=true):mvB op=true:=by
 cases op<;>first|rfl|(cases hs;done)|skip
 rename_i e
 cases e<;>first|(cases hs;done)|rfl
def nextW (m0:Mem) (ao:AOper) (s:St) (ws:Watch):Watch:=if ao.flt then watchG s.ρ m0 ao ws else ws
theorem Zv {O:Oracle} {m0:Mem}: ∀{al:List AOper} {ws:Watch} {σ σ':St},evDraw O m0 ws al σ=some σ'→
  ∃(S:Nat→St) (W:Nat→Watch),S 0=σ∧W 0=ws∧S al.length=σ'∧ ∀(i:Nat) (ao:AOper),al[i]? =some ao→StepD O m0 (W i) ao (S i) (S (i+1))∧W (i+1)=nextW m0 ao (S i) (W i)
 | [],ws,σ,σ',h=>by
  simp[evDraw] at h
  exact⟨fun _=>σ,fun _=>ws,rfl,rfl,h,fun i ao hi=>by simp at hi⟩
 |o::r,ws,σ,σ',h=>by
  have key: ∃s1,StepD O m0 ws o σ s1∧evDraw O m0 (nextW m0 o σ ws) r s1=some σ':=by
   simp only[evDraw] at h
   unfold StepD nextW
   split at h
   ·rename_i hf
    split at h
    ·rename_i q hq
     exact⟨_,by rw[hf];exact⟨q,hq,rfl⟩,by rw[hf];exact h⟩
    ·cases h
   ·rename_i hf
    split at h
    ·rename_i hs
     split at h
     ·rename_i hcl
      split at h
      ·rename_i q hq
       exact⟨_,by rw[hf,hs];exact⟨hcl,q,hq,rfl⟩,by rw[hf];exact h⟩
      ·cases h
     ·cases h
    ·rename_i hs
     split at h
     ·rename_i q hq
      exact⟨_,by rw[hf,hs];exact hq,by rw[hf];exact h⟩
     ·cases h
  obtain⟨s1,h1,h2⟩:=key
  obtain⟨S,W,k1,k1',k2,k3⟩:=Zv h2
  refine⟨fun i=>match i with|0=>σ|i+1=>S i,fun i=>match i with|0=>ws|i+1=>W i,rfl,rfl,k2,fun i ao hi=> ?_⟩
  cases i with
  |zero=>simp at hi;subst hi;exact⟨by show StepD O m0 ws o σ (S 0);rw[k1];exact h1,k1'⟩
  |succ i=>exact k3 i ao (by simpa using hi)
theorem qv {P:Program} {ds:List Nat} {ops:Array Oper}: ∀{l:List Oper} {al:List AOper} {i:Nat},compOpers P ds ops i l=some al→
  al.length=l.length∧ ∀(k:Nat) (o:Oper),l[k]? =some o→ ∃ao,al[k]? =some ao∧compOper P ds ops o=some ao
 | [],al,i,h=>by simp[compOpers] at h;subst h;exact⟨rfl,fun k o hk=>by simp at hk⟩
 |o::l,al,i,h=>by
  simp only[compOpers] at h
  split at h
  ·rename_i a al' h1 h2
   injection h with h;subst h
   obtain⟨k1,k2⟩:=qv h2
   refine⟨by simp[k1],fun k o' hk=> ?_⟩
   cases k with
   |zero=>simp at hk;subst hk;exact⟨a,rfl,h1⟩
   |succ k=>exact k2 k o' (by simpa using hk)
  ·cases h
theorem Z7 (pin:Bool) (al:List AOper) (n:Nat) (b:List Nat): ∀(l:List AOper) (j k:Nat),(marked pin al n b j l)[k]? =(l[k]?).map (markOne pin al n b (j+k))
 | [],j,k=>by simp[marked]
 |o::l,j,0=>by simp[marked]
 |o::l,j,k+1=>by
  simp only[marked,List.getElem?_cons_succ,Z7 pin al n b l (j+1) k]
  rw[show j+1+k=j+(k+1) by omega]
theorem qr (pin:Bool) (al:List AOper) (n:Nat) (b:List Nat): ∀(l:List AOper) (j:Nat),(marked pin al n b j l).length=l.length
 | [],j=>rfl
 |o::l,j=>by simp[marked,qr pin al n b l]
theorem jH {ops:Array Oper}: ∀{l:List Oper} {al:List AOper},readsOk ops l al=true→ ∀(k:Nat) (o:Oper) (ao:AOper),l[k]? =some o→al[k]? =some ao→readsIn (looksAt ops o) ao.op.reads=true
 | [],_,_,k,o,ao,h,_=>by simp at h
 |_::_,[],_,k,o,ao,_,h=>by simp at h
 |o::l,a::al,h,k,o',ao,h1,h2=>by
  simp only[readsOk,w04] at h
  cases k with
  |zero=>simp at h1 h2;subst h1;subst h2;exact h.1
  |succ k=>exact jH h.2 k o' ao (by simpa using h1) (by simpa using h2)
theorem x7 {l:List Nat}: ∀{r:List Opd},readsIn l r=true→ ∀i,Opd.t i∈r→i∈l
 | [],_,i,h=>by cases h
 | .t j::r,h,i,hm=>by
  simp only[readsIn,w04] at h
  rcases w17.1 hm with hm|hm
  ·injection hm with hm;subst hm;simpa using h.1
  ·exact x7 h.2 i hm
 | .c v::r,h,i,hm=>by
  simp only[readsIn] at h
  rcases w17.1 hm with hm|hm
  ·cases hm
  ·exact x7 h i hm
theorem Zw {P:Program} {ds:List Nat} {ops:Array Oper} {o:Oper} {ao:AOper} (h:compOper P ds ops o=some ao):ao.dst=o.dst∧ao.flt=false∧compOp P ds o=some ao.op∧compGuard ops o.guard=some ao.guard:=by
 unfold compOper at h
 split at h
 ·rename_i op gd h1 h2
  injection h with h;subst h
  exact⟨rfl,rfl,h1,h2⟩
 ·cases h
def mask (looks:List Nat) (ρ:List AV):List AV:=ρ.zipIdx.map fun p=>if looks.contains p.2 then p.1 else .undef
theorem WC (looks:List Nat) (ρ:List AV) (t:Nat):(mask looks ρ)[t]? =(ρ[t]?).map fun x=>if looks.contains t then x else .undef:=by
 unfold mask
 rw[w13,List.getElem?_zipIdx]
 cases ρ[t]? <;>simp
theorem WB (looks:List Nat) (ρ:List AV):(mask looks ρ).length=ρ.length:=by simp[mask]
theorem ud {looks:List Nat} {ρ:List AV} {t:Nat} (h:t∈looks) (d:AV):(mask looks ρ).getD t d=ρ.getD t d:=by
 rw[w03,w03,WC]
 cases ρ[t]? <;>simp[h]
theorem kK (ρ:List AV) (d:Option Nat) (r:AV) (t:Nat):(setDst ρ d r)[t]? =if d=some t∧t<ρ.length then some r else ρ[t]? :=by
 cases d with
 |none=>simp[setDst]
 |some d=>
  simp only[setDst,List.getElem?_set,Option.some.injEq]
  by_cases h:d=t
  ·subst h
   by_cases h2:d<ρ.length
   ·simp[h2]
   ·simp[h2]
  ·simp[h]
theorem Y7 (ρ:List AV) (d:Option Nat) (r:AV):(setDst ρ d r).length=ρ.length:=by cases d<;>simp[setDst]
theorem XU {P:Program} {o:Oper} {g:Bool} {n:Nat} {y:Opd} (h:compOp0 P o=some (.load g n y)):g=true∨n=1:=by
 unfold compOp0 at h
 split at h
 case h_8=>
  split at h
  ·split at h
   ·rename_i hc
    injection h with h
    injection h with h1 h2 h3
    subst h1;subst h2
    simpa using hc
   ·cases h
  ·cases h
 case h_21=>
  exfalso
  unfold compCall appMake at h
  repeat' (first|(cases h;done)|(simp at h;done)|(split at h)|(simp only[w02,w01] at h;obtain⟨_,_,h⟩:=h))
 all_goals
  exfalso
  repeat' (first|(cases h;done)|(simp at h;done)|(split at h)|(simp only[w02,w01] at h;obtain⟨_,_,h⟩:=h))
structure IsOp (P:Program) (ops:Array Oper) (o:Oper) (ao:AOper):Prop where
 dst:ao.dst=o.dst
 guard:compGuard ops o.guard=some ao.guard
 op: ∃ds op,compOp P ds o=some op∧(∀(O:Oracle) (ρ:List AV) (m:Mem),evOp O ρ m ao.op=evOp O ρ m op)∧((op=ao.op∧ao.op.isLst=false)∨(∃g n y,op= .load g n y∧ao.op= .ext (.wload g n y))∨ ∃n a x,op= .store n a x∧ao.op= .ext (.lst n a x))
 flt:ao.flt=true→ ∃g n y,(ao.op= .load g n y∨ao.op= .ext (.wload g n y))∧(g=true∨n=1)
structure Dr (P:Program) (C:Ctx) (O:Oracle) (ops:Array Oper) (al:List AOper) (m0:Mem) (S:Nat→St) (W:Nat→Watch):Prop where
 hO:OracleOk P C O
 hA:OracleAbove O
 hd:drawOk ops al (masks ops.toList [])=true
 hop: ∀(i:Nat) (o:Oper),ops[i]? =some o→ ∃ao,al[i]? =some ao∧IsOp P ops o ao∧readsIn (looksAt ops o) ao.op.reads=true
 hs: ∀(i:Nat) (ao:AOper),al[i]? =some ao→StepD O m0 (W i) ao (S i) (S (i+1))∧W (i+1)=nextW m0 ao (S i) (W i)
 h0:(S 0).m={m0 with floor:=m0.stk.length+1}
 hf:m0.floor≤m0.stk.length
theorem XV {P:Program} {ds:List Nat} {ops:Array Oper} {al:List AOper} (h:compDraw P ds ops=some al):drawOk ops al (masks ops.toList [])=true∧al.length=ops.size∧
  ∀(i:Nat) (o:Oper),ops[i]? =some o→ ∃ao,al[i]? =some ao∧IsOp P ops o ao∧readsIn (looksAt ops o) ao.op.reads=true:=by
 unfold compDraw at h
 simp only[w02] at h
 obtain⟨al0,h0,h⟩:=h
 split at h
 ·rename_i hc
  simp only[w04] at hc
  injection h with h
  subst h
  obtain⟨k1,k2⟩:=qv h0
  obtain⟨⟨hc1,hc2⟩,hc3⟩:=hc
  refine⟨hc1,by rw[qr,k1];simp,fun i o ho=> ?_⟩
  obtain⟨a0,h3,h4⟩:=k2 i o (by simpa using ho)
  obtain⟨p1,p2,p3,p4⟩:=Zw h4
  have hnl:a0.op.isLst=false:=by
   rw[w29] at hc3
   have:=hc3 a0 (w23 h3)
   simpa using this
  have hget:(marked (ds.contains 654321) al0 ops.size (masks ops.toList []) 0 al0)[i]? =some (markOne (ds.contains 654321) al0 ops.size (masks ops.toList []) i a0):=by
   rw[Z7,h3,w05,w1b]
  refine⟨_,hget,?_,jH hc2 i o _ (by simpa using ho) hget⟩
  unfold markOne
  split
  ·rename_i hf
   unfold fltOf at hf
   simp only[w04] at hf
   obtain⟨hf,_⟩:=hf
   unfold opAt at hf
   rw[h3] at hf
   simp only at hf
   split at hf
   ·rename_i g n y hl
    have hw:=XU (ug (by rw[←hl];exact p3) (fun e he=>by cases he))
    refine⟨p1,p4,⟨ds,a0.op,p3,fun O ρ m=> ?_,?_⟩,fun _=>⟨g,n,y,?_,hw⟩⟩
    ·simp only[hl]
     split<;>rfl
    ·simp only[hl]
     split
     ·exact .inr (.inl ⟨g,n,y,rfl,rfl⟩)
     ·exact .inl ⟨rfl,rfl⟩
    ·simp only[hl]
     split
     ·exact .inr rfl
     ·exact .inl rfl
   ·cases hf
  ·split
   ·rename_i n a x hst
    split
    ·exact⟨p1,p4,⟨ds,a0.op,p3,fun _ _ _=>by rw[hst];rfl,.inr (.inr ⟨n,a,x,hst,rfl⟩)⟩,fun h=>by rw[p2] at h;cases h⟩
    ·exact⟨p1,p4,⟨ds,a0.op,p3,fun _ _ _=>rfl,.inl ⟨rfl,hnl⟩⟩,fun h=>by rw[p2] at h;cases h⟩
   ·exact⟨p1,p4,⟨ds,a0.op,p3,fun _ _ _=>rfl,.inl ⟨rfl,hnl⟩⟩,fun h=>by rw[p2] at h;cases h⟩
 ·cases h
section
variable {P : Program} {C : Ctx} {O : Oracle} {ops : Array Oper} {al : List AOper} {m0 : Mem} {S : Nat → St} {W : Nat → Watch}
theorem Dr.step (D:Dr P C O ops al m0 S W) {i:Nat} {ao:AOper} (ha:al[i]? =some ao):
  ∃b r,wanted (S i).ρ ao.guard=some b∧(S (i+1)).ρ=setDst (S i).ρ ao.dst r∧(b=false→r= .tup []∧(S (i+1)).m=(S i).m)∧
   (b=true→(ao.flt=true∧(∃m',evOp O (S i).ρ m0 ao.op=some (r,m'))∧(S (i+1)).m=(S i).m)∨
    (ao.flt=false∧ao.op.isStore=true∧clear (S i).ρ ao.op (W i)=true∧ ∃m',evOp O (S i).ρ {(S i).m with floor:=m0.floor} ao.op=some (r,m')∧(S (i+1)).m={m' with floor:=(S i).m.floor}∧kept ao.op m0 (W i) (S i).m m'=true)∨
    (ao.flt=false∧ao.op.isStore=false∧evOp O (S i).ρ (S i).m ao.op=some (r,(S (i+1)).m))):=by
 have hs:=(D.hs i ao ha).1
 unfold StepD at hs
 cases hf:ao.flt with
 |true=>
  rw[hf] at hs
  obtain⟨q,hq,hS⟩:=hs
  unfold evOper at hq
  split at hq
  ·rename_i hw
   simp only[w01] at hq
   obtain⟨⟨r,m'⟩,h1,rfl⟩:=hq
   exact⟨true,r,hw,by rw[hS],fun h=>by(cases h),fun _=> .inl ⟨rfl,⟨m',h1⟩,by rw[hS]⟩⟩
  ·rename_i hw
   injection hq with hq;subst hq
   exact⟨false,.tup [],hw,by rw[hS],fun _=>⟨rfl,by rw[hS]⟩,fun h=>by(cases h)⟩
  ·cases hq
 |false=>
  rw[hf] at hs
  simp only at hs
  cases hst:ao.op.isStore with
  |true=>
   rw[hst] at hs
   obtain⟨hcl,q,hq,hS⟩:=hs
   obtain⟨hq,hkp⟩:=yJ hq
   unfold evOper at hq
   split at hq
   ·rename_i hw
    simp only[w01] at hq
    obtain⟨⟨r,m'⟩,h1,rfl⟩:=hq
    exact⟨true,r,hw,by rw[hS],fun h=>by(cases h),fun _=> .inr (.inl ⟨rfl,rfl,by unfold clearG at hcl;rw[hw] at hcl;exact hcl,m',h1,by rw[hS],by have hw':wanted (S i).ρ ao.guard=some true:=hw;unfold keptG at hkp;rw[hw'] at hkp;exact hkp⟩)⟩
   ·rename_i hw
    injection hq with hq;subst hq
    exact⟨false,.tup [],hw,by rw[hS],fun _=>⟨rfl,by rw[hS]⟩,fun h=>by(cases h)⟩
   ·cases hq
  |false=>
   rw[hst] at hs
   have hs':evOper O ao (S i)=some (S (i+1)):=hs
   clear hs
   have hs:=hs'
   unfold evOper at hs
   split at hs
   ·rename_i hw
    simp only[w01] at hs
    obtain⟨⟨r,m'⟩,h1,h2⟩:=hs
    refine⟨true,r,hw,by rw[←h2],fun h=>by(cases h),fun _=> .inr (.inr ⟨rfl,rfl,?_⟩)⟩
    rw[h1,←h2]
   ·rename_i hw
    injection hs with hs
    exact⟨false,.tup [],hw,by rw[←hs],fun _=>⟨rfl,by rw[←hs]⟩,fun h=>by(cases h)⟩
   ·cases hs
def isB (al:List AOper) (i:Nat):Bool:=mvB (opAt al i)
def isA (al:List AOper) (i:Nat):Bool:=kindA (opAt al i)
def wr (ops:Array Oper) (t i:Nat):Bool:=match ops[i]? with|some o=>o.dst==some t|none=>false
theorem zK {i:Nat} {ao:AOper} (h:al[i]? =some ao):opAt al i=ao.op:=by unfold opAt;rw[h]
theorem QK (op:AOp):op.kind≤2:=by
 cases op<;>simp only[AOp.kind]<;>try omega
 rename_i e
 cases e<;>simp[XOp.kind]
theorem YX {op:AOp} (h1:mvB op=false) (h2:kindA op=false):op.kind≤1:=by
 have:=QK op
 unfold mvB at h1
 rw[h2] at h1
 simp at h1
 omega
theorem Dr.at_ (D:Dr P C O ops al m0 S W) {i:Nat} (hi:i<ops.size): ∃o ao,ops[i]? =some o∧al[i]? =some ao∧IsOp P ops o ao∧readsIn (looksAt ops o) ao.op.reads=true:=by
 have ho:ops[i]? =some ops[i]:=w0a hi
 obtain⟨ao,h1,h2,h3⟩:=D.hop i _ ho
 exact⟨_,ao,ho,h1,h2,h3⟩
theorem Dr.lens (D:Dr P C O ops al m0 S W): ∀i,i≤ops.size→(S i).m.stk.length=m0.stk.length∧(S i).m.floor=m0.stk.length+1
 |0,_=>by rw[D.h0];exact⟨rfl,rfl⟩
 |i+1,hi=>by
  obtain⟨k1,k2⟩:=D.lens i (by omega)
  obtain⟨o,ao,_,ha,_⟩:=D.at_ (i:=i) (by omega)
  obtain⟨b,r,_,_,hfalse,htrue⟩:=D.step ha
  cases b with
  |false=>rw[(hfalse rfl).2];exact⟨k1,k2⟩
  |true=>
   rcases htrue rfl with⟨_,_,h⟩|⟨_,_,_,m',h1,h2,_⟩|⟨_,hns,h1⟩
   ·rw[h];exact⟨k1,k2⟩
   ·have:=yh D.hA (by simp only;rw[k1];have:=D.hf;omega) (fun _=>by simp only;rw[k1];exact D.hf) h1
    rw[h2]
    exact⟨by simp only;rw[this.len];exact k1,k2⟩
   ·have:=yh D.hA (by rw[k1,k2];omega) (fun h=>by rw[hns] at h;cases h) h1
    exact⟨this.len.trans k1,this.floor.trans k2⟩
theorem Dr.nx_succ (D:Dr P C O ops al m0 S W) {i:Nat} (hi:i<ops.size):(S i).m.nx≤(S (i+1)).m.nx:=by
 obtain⟨k1,k2⟩:=D.lens i (by omega)
 obtain⟨o,ao,_,ha,_⟩:=D.at_ hi
 obtain⟨b,r,_,_,hfalse,htrue⟩:=D.step ha
 cases b with
 |false=>rw[(hfalse rfl).2];exact w0e _
 |true=>
  rcases htrue rfl with⟨_,_,h⟩|⟨_,_,_,m',h1,h2,_⟩|⟨_,hns,h1⟩
  ·rw[h];exact w0e _
  ·have:=yh D.hA (by simp only;rw[k1];have:=D.hf;omega) (fun _=>by simp only;rw[k1];exact D.hf) h1
   rw[h2]
   exact this.nx
  ·exact(yh D.hA (by rw[k1,k2];omega) (fun h=>by rw[hns] at h;cases h) h1).nx
theorem Dr.nx_mono (D:Dr P C O ops al m0 S W) (a:Nat): ∀b,a≤b→b≤ops.size→(S a).m.nx≤(S b).m.nx
 |0,h,_=>by have:a=0:=by omega
            rw[this];exact w0e _
 |b+1,h,hb=>by
  by_cases hab:a=b+1
  ·rw[hab];exact w0e _
  ·exact Nat.le_trans (D.nx_mono a b (by omega) (by omega)) (D.nx_succ (by omega))
theorem Dr.quiet (D:Dr P C O ops al m0 S W) {i:Nat} (hi:i<ops.size) (hB:isB al i=false):(S (i+1)).m=(S i).m∨
  (isA al i=true∧ ∃cs,(S (i+1)).m={(S i).m with cur:=(S i).m.cur++[⟨(S i).m.nx,cs⟩],nx:=(S i).m.nx+1}):=by
 obtain⟨o,ao,_,ha,_⟩:=D.at_ hi
 obtain⟨b,r,_,_,hfalse,htrue⟩:=D.step ha
 unfold isB at hB
 rw[zK ha] at hB
 cases b with
 |false=>exact .inl (hfalse rfl).2
 |true=>
  cases hA:kindA ao.op with
  |true=>
   rcases htrue rfl with⟨_,_,h⟩|⟨_,hs,_⟩|⟨_,_,h1⟩
   ·exact .inl h
   ·rcases vD hA with⟨_,e⟩|⟨_,_,e⟩|⟨_,_,_,_,_,e⟩|⟨_,_,e⟩<;>(rw[e] at hs;cases hs)
   ·refine .inr ⟨by unfold isA;rw[zK ha];exact hA,?_⟩
    exact YY hA h1
  |false=>
   left
   have hk:=YX hB hA
   rcases htrue rfl with⟨_,_,h⟩|⟨_,hs,_⟩|⟨_,_,h1⟩
   ·exact h
   ·cases hop:ao.op<;>rw[hop] at hs hk<;>first|(cases hs;done)|(simp[AOp.kind] at hk;done)|skip
    rename_i e
    cases e<;>first|(cases hs;done)|(simp[AOp.kind,XOp.kind] at hk)
   ·exact(Xa hk h1).1
structure Grew (m m':Mem):Prop where
 stk:m'.stk=m.stk
 cur: ∃l,m'.cur=m.cur++l
theorem Grew.blk {m m':Mem} (h:Grew m m') {l k st:Nat} {cs:List AV} (hb:m.blk l k st=some cs):m'.blk l k st=some cs:=by
 refine yA hb fun x hx=> ?_
 obtain⟨add,hc⟩:=h.cur
 unfold Mem.row at hx⊢
 rw[h.stk]
 split at hx
 ·rename_i hl
  rw[if_pos hl,hc,w09 (w07.1 hx).1]
  exact hx
 ·rename_i hl
  rw[if_neg hl];exact hx
theorem Dr.grew (D:Dr P C O ops al m0 S W) (a:Nat): ∀b,a≤b→b≤ops.size→(∀i,a≤i→i<b→isB al i=false)→Grew (S a).m (S b).m
 |0,h,_,_=>by have:a=0:=by omega
              rw[this];exact⟨rfl,[],by simp⟩
 |b+1,h,hb,hE=>by
  by_cases hab:a=b+1
  ·rw[hab];exact⟨rfl,[],by simp⟩
  ·obtain⟨k1,l,k2⟩:=D.grew a b (by omega) (by omega) (fun i h1 h2=>hE i h1 (by omega))
   rcases D.quiet (by omega) (hE b (by omega) (by omega)) with h|⟨_,cs,h⟩
   ·rw[h];exact⟨k1,l,k2⟩
   ·rw[h];exact⟨k1,l++[⟨(S b).m.nx,cs⟩],by simp only;rw[k2,w11]⟩
theorem Dr.reg_len (D:Dr P C O ops al m0 S W): ∀i,i≤ops.size→(S i).ρ.length=(S 0).ρ.length
 |0,_=>rfl
 |i+1,hi=>by
  obtain⟨o,ao,_,ha,_⟩:=D.at_ (i:=i) (by omega)
  obtain⟨b,r,_,hρ,_⟩:=D.step ha
  rw[hρ,Y7]
  exact D.reg_len i (by omega)
theorem Dr.reg_const (D:Dr P C O ops al m0 S W) (t a:Nat): ∀b,a≤b→b≤ops.size→(∀i,a≤i→i<b→wr ops t i=false)→(S b).ρ[t]? =(S a).ρ[t]?
 |0,h,_,_=>by have:a=0:=by omega
              rw[this]
 |b+1,h,hb,hE=>by
  by_cases hab:a=b+1
  ·rw[hab]
  ·have ih:=D.reg_const t a b (by omega) (by omega) (fun i h1 h2=>hE i h1 (by omega))
   obtain⟨o,ao,ho,ha,hop,_⟩:=D.at_ (i:=b) (by omega)
   have hq:=hE b (by omega) (by omega)
   simp only[wr,ho] at hq
   obtain⟨bb,r,_,hρ,_⟩:=D.step ha
   rw[hρ,kK,hop.dst,if_neg (by intro hh;simp[hh.1] at hq)]
   exact ih
end
theorem XX {m:Mem} {l k st:Nat} {cs new:List AV} (h:m.blk l k st=some cs):(m.put l k st new).blk l k st=some new:=by
 have h1:=xJ h
 unfold Mem.row at h1
 unfold Mem.put
 split
 ·rename_i hl
  rw[if_pos hl] at h1
  have hk:k<m.cur.length:=(w07.1 h1).1
  unfold Mem.blk Mem.row
  simp only[hl,if_true,List.getElem?_set_self hk,beq_self_eq_true]
 ·rename_i hl
  rw[if_neg hl] at h1
  unfold Mem.blk Mem.row
  simp only[List.length_modify,hl,if_false,w0c]
  rw[w03,List.getElem?_modify]
  simp only[if_true]
  rw[w03] at h1
  cases hm:m.stk[l]? with
  |none=>rw[hm] at h1;simp at h1
  |some f=>
   rw[hm] at h1
   have hk:k<f.length:=(w07.1 h1).1
   simp[List.getElem?_set_self hk]
theorem US {m m':Mem} {l k st off n:Nat} {cs:List AV} (hk:kept1 m m' l k off n=true) (hb:m.blk l k st=some cs): ∃cs',m'.blk l k st=some cs'∧cs'.length=cs.length∧(cs'.drop off).take n=(cs.drop off).take n:=by
 unfold kept1 at hk
 unfold Mem.blk at hb⊢
 split at hk
 ·rename_i b b' h1 h2
  simp only[w04] at hk
  obtain⟨⟨a1,a2⟩,a3⟩:=hk
  have a1:=w24 a1
  have a2:=w24 a2
  have a3:=Xt a3
  rw[h1] at hb
  rw[h2]
  simp only at hb⊢
  rw[←a1]
  split at hb
  ·rename_i hs
   rw[if_pos hs]
   injection hb with hb
   subst hb
   exact⟨b'.cs,rfl,a2.symm,a3.symm⟩
  ·cases hb
 ·cases hk
theorem YZ {x0:Nat}: ∀{l l':List Blk} {k:Nat} {b:Blk},keptC x0 l l'=true→l[k]? =some b→x0≤b.st→ ∃b',l'[k]? =some b'∧b'.st=b.st∧b'.cs=b.cs
 | [],_,k,b,_,h,_=>by simp at h
 |_::_,[],_,_,h,_,_=>by cases h
 |c::r,c'::r',k,b,h,hk,hx=>by
  simp only[keptC,w04,w14] at h
  cases k with
  |zero=>
   simp only[w2a,Option.some.injEq] at hk⊢
   subst hk
   rcases h.1 with h1|⟨h1,h2⟩
   ·have:=Nat.le_of_ble_eq_true h1;omega
   ·exact⟨c',rfl,(w24 h1).symm,(Xt h2).symm⟩
  |succ k=>
   have:=YZ (k:=k) h.2 (by simpa using hk) hx
   simpa using this
theorem UR {x0:Nat} {m m':Mem} {k st:Nat} {cs:List AV} (hl:m'.stk.length=m.stk.length) (h:keptC x0 m.cur m'.cur=true) (hb:m.blk m.stk.length k st=some cs) (hx:x0≤st):m'.blk m.stk.length k st=some cs:=by
 unfold Mem.blk Mem.row at hb⊢
 simp only[hl,beq_self_eq_true,if_true] at hb⊢
 split at hb
 ·rename_i b hq
  split at hb
  ·rename_i hs
   have hs':b.st=st:=by simpa using hs
   injection hb with hb
   subst hb
   obtain⟨b',h1,h2,h3⟩:=YZ h hq (by omega)
   rw[h1]
   simp only[h2,h3,hs,if_true]
  ·cases hb
 ·cases hb
theorem Y5 {a b:List AV} {off n q:Nat} (h:(a.drop off).take n=(b.drop off).take n) (h1:off≤q) (h2:q<off+n):a[q]? =b[q]? :=by
 have e: ∀l:List AV,((l.drop off).take n)[q-off]? =l[q]? :=by
  intro l
  rw[w0f,if_pos (by omega),w1a,show off+(q-off)=q by omega]
 rw[←e a,←e b,h]
theorem xK {m:Mem} {l k st l2 k2 st2:Nat} {cs new:List AV} (hne: ¬(l=l2∧k=k2)) (h:m.blk l2 k2 st2=some cs):(m.put l k st new).blk l2 k2 st2=some cs:=by
 refine yA h fun x hx=> ?_
 unfold Mem.row at hx
 unfold Mem.put
 split
 ·rename_i hl
  have hl':l=m.stk.length:=eq_of_beq hl
  unfold Mem.row
  simp only
  split at hx
  ·rename_i hl2
   have hl2':l2=m.stk.length:=eq_of_beq hl2
   rw[if_pos hl2,List.getElem?_set_ne (fun e=>hne ⟨by omega,e⟩)]
   exact hx
  ·rename_i hl2
   rw[if_neg hl2];exact hx
 ·rename_i hl
  unfold Mem.row
  simp only[List.length_modify]
  split at hx
  ·rename_i hl2;rw[if_pos hl2];exact hx
  ·rename_i hl2
   rw[if_neg hl2]
   rw[w03] at hx⊢
   rw[List.getElem?_modify]
   by_cases hll:l=l2
   ·subst hll
    simp only[if_true]
    cases hm:m.stk[l]? with
    |none=>rw[hm] at hx;simp at hx
    |some f=>
     rw[hm] at hx
     have hx':f[k2]? =some x:=by simpa using hx
     show((f.set k ⟨st,new⟩))[k2]? =some x
     rw[List.getElem?_set_ne (fun e=>hne ⟨rfl,e⟩)]
     exact hx'
   ·simp only[hll,if_false]
    cases hm:m.stk[l2]? with
    |none=>rw[hm] at hx;exact hx
    |some f=>rw[hm] at hx;exact hx
theorem Xb {m m':Mem} {s b:Nat} {x y r:AV} {l k st:Nat} {cs:List AV} (h:evApp m s b x y=some (r,m')) (hb:m.blk l k st=some cs) (hx: ∀s' l2 k2 st2 n cs2,x= .grow s' l2 k2 st2 n→m.blk l2 k2 st2=some cs2→ ¬(l2=l∧k2=k)):m'.blk l k st=some cs:=by
 unfold evApp at h
 split at h
 ·cases h
 ·split at h
  ·injection h with h;injection h with _ h;rw[←h];exact hb
  ·split at h
   ·injection h with h;injection h with _ h;rw[←h];exact hb
   ·cases h
  ·split at h
   ·injection h with h;injection h with _ h;rw[←h];exact hb
   ·cases h
  ·cases h
 ·split at h
  ·split at h
   ·injection h with h;injection h with _ h;rw[←h];exact hb
   ·cases h
  ·split at h
   ·split at h
    ·cases h
    ·injection h with h;injection h with _ h;rw[←h];exact hb
    ·split at h
     ·injection h with h;injection h with _ h;rw[←h];exact hb
     ·cases h
   ·cases h
  ·split at h
   ·rename_i cs2 hb2
    split at h
    ·injection h with h;injection h with _ h;rw[←h]
     exact xK (hx _ _ _ _ _ _ rfl hb2) hb
    ·cases h
   ·cases h
  ·cases h
theorem jK {m m':Mem} {s b:Nat} {xs:List AV} {r:AV} {l k st:Nat} {cs:List AV} (h:newRowB m s b xs=some (r,m')) (hb:m.blk l k st=some cs):m'.blk l k st=some cs:=by
 unfold newRowB at h
 split at h
 ·injection h with h;injection h with _ h;rw[←h]
  refine Grew.blk (m:=m) (Grew.mk ?_ ?_) hb
  ·rfl
  ·exact⟨_,rfl⟩
 ·cases h
theorem Zr {m m':Mem} {s b:Nat} {x y r:AV} {l k st:Nat} {cs:List AV} (h:evAppB m s b x y=some (r,m')) (hb:m.blk l k st=some cs) (hx: ∀s' l2 k2 st2 n cs2,x= .grow s' l2 k2 st2 n→m.blk l2 k2 st2=some cs2→ ¬(l2=l∧k2=k)):m'.blk l k st=some cs:=by
 unfold evAppB at h
 split at h
 ·split at h
  ·exact jK h hb
  ·split at h
   ·exact jK h hb
   ·cases h
  ·exact Xb h hb hx
 ·exact Xb h hb hx
theorem Xm (m:Mem) (f l k st:Nat):({m with floor:=f}:Mem).blk l k st=m.blk l k st:=rfl
theorem Xl {m:Mem} {l k st:Nat} {cs:List AV} (h:m.blk l k st=some cs):l≤m.stk.length:=by
 rcases Nat.lt_or_ge m.stk.length l with hlt|hle
 ·exfalso
  have:=xJ h
  unfold Mem.row at this
  have hnone:m.stk[l]? =none:=w19 (by omega)
  rw[if_neg (by simp;omega),w03,hnone] at this
  simp at this
 ·exact hle
theorem qf {m:Mem} {l k st st':Nat} {cs cs':List AV} (h:m.blk l k st=some cs) (h':m.blk l k st'=some cs'):st=st'∧cs=cs':=by
 have h1:=xJ h
 have h2:=xJ h'
 rw[h1] at h2
 injection h2 with h2
 injection h2 with h2 h3
 exact⟨h2,h3⟩
theorem Wb {g:Bool} {n off:Nat} {cs cs':List AV} (hw:g=true∨n=1) (hl:cs'.length=cs.length) (h: ∀q,off≤q→q<off+n→cs'[q]? =cs[q]?):takeV g n (cs'.drop off)=takeV g n (cs.drop off):=by
 unfold takeV
 rw[List.length_drop,List.length_drop,hl]
 split
 ·cases g with
  |true=>
   simp only[Option.some.injEq,AV.agg.injEq]
   apply List.ext_getElem?
   intro q
   rw[w0f,w0f,w1a,w1a]
   split
   ·exact h _ (by omega) (by omega)
   ·rfl
  |false=>
   have hn:n=1:=by rcases hw with h|h;·cases h
                   ·exact h
   subst hn
   simp only
   rw[List.head?_drop,List.head?_drop]
   exact h off (w0e _) (by omega)
 ·rfl
section
variable {P : Program} {C : Ctx} {O : Oracle} {ops : Array Oper} {al : List AOper} {m0 : Mem} {S : Nat → St} {W : Nat → Watch} {Q : Exit → Act → World → Prop}
def Cut (n:Nat) (X:Nat→Bool) (p:Nat→Bool) (k:Nat):Prop:= ∀i,i<n→p i=true→(X i=true↔i<k)
def Nxt (al:List AOper) (n:Nat) (X:Nat→Bool) (k:Nat):Prop:=k≤n∧Cut n X (isB al) k∧(k=n∨isB al k=true)
theorem Nxt.uniq {n k k':Nat} {X:Nat→Bool} (h:Nxt al n X k) (h':Nxt al n X k'):k=k':=by
 have key: ∀{k k':Nat},Nxt al n X k→Nxt al n X k'→k<k'→False:=by
  intro k k' h h' hlt
  have hkn:k<n:=by have:=h'.1;omega
  have hB:isB al k=true:=by rcases h.2.2 with e|e;·omega
                            ·exact e
  have h1:=(h'.2.1 k hkn hB).2 hlt
  have h2:=(h.2.1 k hkn hB).1 h1
  omega
 rcases Nat.lt_trichotomy k k' with e|e|e
 ·exact(key h h' e).elim
 ·exact e
 ·exact(key h' h e).elim
theorem XC (b:List Nat) (i j:Nat):ordered b i j=ordered b j i:=by unfold ordered;rw[Nat.max_comm,Nat.min_comm]
theorem Dr.pair (D:Dr P C O ops al m0 S W) {i j:Nat} {x y:Oper} {ai aj:AOper} (hi:ops[i]? =some x) (hj:ops[j]? =some y) (hai:al[i]? =some ai) (haj:al[j]? =some aj) (hne:i≠j) (ho:ordered (masks ops.toList []) i j=false):
  clash ops x y=false∧(mvB ai.op&&mvB aj.op)=false∧(kindA ai.op&&mvB aj.op&&decide (j<i))=false∧(mvB ai.op&&decide (aj.op.kind=1)&& !aj.flt&&(decide (i<j)||ai.op.isStore))=false:=by
 have hd:=D.hd
 unfold drawOk at hd
 rw[w29] at hd
 have hilt:i<ops.size:=(w12.1 hi).1
 have hjlt:j<ops.size:=(w12.1 hj).1
 have h1:=hd i (List.mem_range.2 hilt)
 rw[w04,w29] at h1
 have h2:=h1.2 j (List.mem_range.2 hjlt)
 rw[w04] at h2
 have h3:=h2.1
 unfold pairOk at h3
 simp only[hi,hj,ho,zK hai,zK haj,haj,w05,w15,Bool.or_false,w14,beq_iff_eq,w04,Bool.not_eq_true'] at h3
 rcases h3 with h3|⟨⟨⟨h3,h4⟩,h5⟩,h6⟩
 ·exact absurd h3 hne
 ·exact⟨h3,h4,h5,h6⟩
theorem Dr.edge (D:Dr P C O ops al m0 S W) {j:Nat} {o:Oper} (hj:ops[j]? =some o) {e:Edge} (he:e∈o.after) (hb:Region.binds .any e=true):e.on<j:=by
 have hd:=D.hd
 unfold drawOk at hd
 rw[w29] at hd
 have hjlt:j<ops.size:=(w12.1 hj).1
 have h1:=hd j (List.mem_range.2 hjlt)
 rw[w04] at h1
 have h2:=h1.1
 unfold edgesOk at h2
 rw[hj] at h2
 simp only[w29] at h2
 have:=h2 e (by simpa using he)
 rw[hb] at this
 simpa using this
theorem Dr.flt_before (D:Dr P C O ops al m0 S W) {i j:Nat} {ai aj:AOper} (hi:i<ops.size) (hj:j<ops.size) (hai:al[i]? =some ai) (haj:al[j]? =some aj) (hs:ai.op.isStore=true) (hf:aj.flt=true):
  j<i∧(ordered (masks ops.toList []) i j=true∨(ai.op.isLst=false∧ ∃g n y,aj.op= .ext (.wload g n y))):=by
 have hd:=D.hd
 unfold drawOk at hd
 rw[w29] at hd
 have h1:=hd i (List.mem_range.2 hi)
 rw[w04,w29] at h1
 have h2:=h1.2 j (List.mem_range.2 hj)
 rw[w04] at h2
 have h3:=h2.2
 unfold fltOk at h3
 simp only[zK hai,zK haj,haj,hs,hf,w05,w15,Bool.and_self,Bool.not_true,Bool.false_or,w04,decide_eq_true_eq,w14,Bool.not_eq_true'] at h3
 refine⟨h3.1,?_⟩
 rcases h3.2 with h|h
 ·exact .inl h
 ·right
  obtain⟨hl,h⟩:=h
  refine⟨hl,?_⟩
  split at h
  ·rename_i g n y e;exact⟨g,n,y,e⟩
  ·cases h
theorem qd {g:G} {w:World} {m:Mem} (f:Nat) (I:Inv g w m):Inv g w {m with floor:=f}:=⟨I.blk,I.nd,I.stlt,I.tklt,I.live,I.ownb,I.hbase,I.lnd,I.rsv,I.mpk⟩
theorem Dr.reserve (D:Dr P C O ops al m0 S W) {g:G} {w:World} (a:Nat): ∀b,a≤b→b≤ops.size→(∀i,a≤i→i<b→isB al i=false)→Inv g w (S a).m→
  ∃g',ExtW g w g' w∧Inv g' w (S b).m∧ ∀st,g'.rs st=true↔(g.rs st=true∨ ∃i,a≤i∧i<b∧isA al i=true∧(S (i+1)).m.nx≠(S i).m.nx∧st=(S i).m.nx)
 |0,h,_,_,I=>by
  have:a=0:=by omega
  subst this
  exact⟨g,(Ext.refl g w).toExtW,I,fun st=>⟨.inl,fun h=>h.elim id fun⟨i,h1,h2,_⟩=>by omega⟩⟩
 |b+1,h,hb,hE,I=>by
  by_cases hab:a=b+1
  ·subst hab
   exact⟨g,(Ext.refl g w).toExtW,I,fun st=>⟨.inl,fun h=>h.elim id fun⟨i,h1,h2,_⟩=>by omega⟩⟩
  ·obtain⟨g1,k1,k2,k3⟩:=D.reserve a b (by omega) (by omega) (fun i h1 h2=>hE i h1 (by omega)) I
   rcases D.quiet (by omega) (hE b (by omega) (by omega)) with hm|⟨hA,cs,hm⟩
   ·refine⟨g1,k1,by rw[hm];exact k2,fun st=>(k3 st).trans ⟨fun h=> ?_,fun h=> ?_⟩⟩
    ·rcases h with h|⟨i,h1,h2,h3⟩
     ·exact .inl h
     ·exact .inr ⟨i,h1,by omega,h3⟩
    ·rcases h with h|⟨i,h1,h2,h3,h4,h5⟩
     ·exact .inl h
     ·right
      refine⟨i,h1,?_,h3,h4,h5⟩
      rcases Nat.lt_or_ge i b with hlt|hge
      ·exact hlt
      ·have:i=b:=by omega
       subst this
       rw[hm] at h4
       exact absurd rfl h4
   ·obtain⟨e1,e2⟩:=k2.reserve cs
    refine⟨_,k1.trans e1,by rw[hm];exact e2,fun st=> ?_⟩
    simp only[w14,beq_iff_eq]
    rw[k3 st]
    constructor
    ·rintro((h|⟨i,h1,h2,h3⟩)|h)
     ·exact .inl h
     ·exact .inr ⟨i,h1,by omega,h3⟩
     ·exact .inr ⟨b,by omega,by omega,hA,by rw[hm];simp,h⟩
    ·rintro(h|⟨i,h1,h2,h3,h4,h5⟩)
     ·exact .inl (.inl h)
     ·rcases Nat.lt_or_ge i b with hlt|hge
      ·exact .inl (.inr ⟨i,h1,hlt,h3,h4,h5⟩)
      ·have:i=b:=by omega
       subst this
       exact .inr h5
def content (S:Nat→St) (i:Nat):List AV:=match (S (i+1)).m.cur.getLast? with|some b=>b.cs|none=>[]
theorem Dr.made (D:Dr P C O ops al m0 S W) {i:Nat} (hi:i<ops.size) (hB:isB al i=false) (hm:(S (i+1)).m.nx≠(S i).m.nx):
  (S (i+1)).m={(S i).m with cur:=(S i).m.cur++[⟨(S i).m.nx,content S i⟩],nx:=(S i).m.nx+1}:=by
 rcases D.quiet hi hB with h|⟨_,cs,h⟩
 ·rw[h] at hm;exact absurd rfl hm
 ·have:content S i=cs:=by unfold content;rw[h];simp
  rw[this];exact h
theorem UA {i:Nat} (h:isA al i=true):isB al i=false:=by
 unfold isA at h
 unfold isB mvB
 rw[h];simp
theorem QH (m:Mem) (cs:List AV):({m with cur:=m.cur++[⟨m.nx,cs⟩],nx:=m.nx+1}:Mem).blk m.stk.length m.cur.length m.nx=some cs:=by
 unfold Mem.blk Mem.row
 simp
theorem Dr.made_blk (D:Dr P C O ops al m0 S W) {i:Nat} (hi:i<ops.size) (hA:isA al i=true) (hm:(S (i+1)).m.nx≠(S i).m.nx):(S (i+1)).m.blk m0.stk.length (S i).m.cur.length (S i).m.nx=some (content S i):=by
 rw[D.made hi (UA hA) hm,←(D.lens i (by omega)).1]
 exact QH _ _
theorem Dr.watched (D:Dr P C O ops al m0 S W) {j:Nat} (x:Nat×Nat×Nat×Nat×List AV) (hx:x∈W (j+1)): ∀p,j<p→p≤ops.size→x∈W p
 |0,h,_=>by omega
 |p+1,h,hp=>by
  by_cases hj:j=p
  ·subst hj;exact hx
  ·have ih:=D.watched x hx p (by omega) (by omega)
   obtain⟨o,ao,_,ha,_⟩:=D.at_ (i:=p) (by omega)
   rw[(D.hs p ao ha).2]
   unfold nextW
   split
   ·unfold watchG
    split
    ·unfold watch
     split
     ·split
      ·exact w1c _ ih
      ·exact ih
     ·exact ih
    ·exact ih
   ·exact ih
theorem Dr.range (D:Dr P C O ops al m0 S W) {j:Nat} {l kk st off n:Nat} {cs0:List AV} (hb:m0.blk l kk st=some cs0) (k:Nat)
  (hst: ∀p ap,p<k→al[p]? =some ap→ap.op.isStore=true→ap.op.isLst=false∧j<p∧(l,kk,off,n,(cs0.drop off).take n)∈W (j+1)):
  ∀p,p≤k→p≤ops.size→ ∃cs,(S p).m.blk l kk st=some cs∧cs.length=cs0.length∧ ∀q,off≤q→q<off+n→cs[q]? =cs0[q]?
 |0,_,_=>⟨cs0,by rw[D.h0];exact hb,rfl,fun _ _ _=>rfl⟩
 |p+1,hpk,hp=>by
  obtain⟨cs,h1,h2,h3⟩:=D.range hb k hst p (by omega) (by omega)
  obtain⟨k1,k2⟩:=D.lens p (by omega)
  have hlev:l≤m0.stk.length:=Xl hb
  cases hB:isB al p with
  |false=>
   have hg:=D.grew p (p+1) (by omega) hp (fun i a b=>by have:i=p:=by omega
                                                        subst this;exact hB)
   exact⟨cs,hg.blk h1,h2,h3⟩
  |true=>
   obtain⟨o,ao,_,ha,_⟩:=D.at_ (i:=p) (by omega)
   obtain⟨b,r,_,_,hfalse,htrue⟩:=D.step ha
   cases b with
   |false=>exact⟨cs,by rw[(hfalse rfl).2];exact h1,h2,h3⟩
   |true=>
    rcases htrue rfl with⟨_,_,h⟩|⟨_,hs,hcl,m',he,hm,hkp⟩|⟨_,hns,he⟩
    ·exact⟨cs,by rw[h];exact h1,h2,h3⟩
    ·obtain⟨hnl,hjp,hin⟩:=hst p ao (by omega) ha hs
     have hw:=D.watched _ hin p hjp (by omega)
     rcases jZ hs hcl with⟨n',ad,x,hop|hop⟩|⟨_,h⟩|⟨_,s',b',x,y,hop,hne⟩|hC
     rotate_left
     ·rw[hop] at hnl;cases hnl
     ·rw[h] at hw;cases hw
     ·rw[hop] at he
      simp only[evOp,evX] at he
      refine⟨cs,?_,h2,h3⟩
      rw[hm,Xm]
      exact Zr he (show({(S p).m with floor:=m0.floor}:Mem).blk l kk st=some cs from h1) (fun s2 l2 k2 st2 n2 cs2 hx _=>hne _ _ _ _ _ hx _ hw)
     ·simp only[kept,hC,w04,w29] at hkp
      obtain⟨cs2,b1,b2,b3⟩:=US (hkp.1 _ hw) h1
      refine⟨cs2,by rw[hm,Xm];exact b1,b2.trans h2,fun q a1 a2=> ?_⟩
      rw[Y5 b3 a1 a2]
      exact h3 q a1 a2
     rw[hop] at he hcl
     simp only[evOp,evStore] at he
     split at he
     ·rename_i l2 k2' st2 off2 hae
      split at he
      ·rename_i cs2 hb2
       split at he
       ·rename_i hc
        simp only[w04,beq_iff_eq,decide_eq_true_eq] at hc
        simp only[Option.some.injEq,Prod.mk.injEq] at he
        obtain⟨_,rfl⟩:=he
        rw[hm,kw]
        simp only[clear,hae,w29] at hcl
        have hcl:=hcl _ hw
        simp only[w14,w04,bne_iff_ne,ne_eq,decide_eq_true_eq] at hcl
        have hb2':(S p).m.blk l2 k2' st2=some cs2:=hb2
        by_cases hsame:l2=l∧k2'=kk
        ·obtain⟨rfl,rfl⟩:=hsame
         obtain⟨rfl,rfl⟩:=qf h1 hb2'
         refine⟨splice cs off2 (x.ev (S p).ρ).cells,?_,?_,fun q a1 a2=> ?_⟩
         ·exact XX (m:={(S p).m with floor:=m0.floor}) h1
         ·rw[qp _ _ _ (by omega)];exact h2
         ·rw[Vp _ _ _ (by omega)]
          rcases hcl with hcl|⟨e1,e2⟩
          ·rw[if_neg (by omega)]
           exact h3 q a1 a2
          ·have e2:=Xt e2
           split
           ·rename_i hq
            rw[e2,w0f,w1a,if_pos (by omega),show off+(q-off2)=q by omega]
           ·exact h3 q a1 a2
        ·exact⟨cs,xK (m:={(S p).m with floor:=m0.floor}) hsame h1,h2,h3⟩
       ·cases he
      ·cases he
     ·cases he
    ·have:=yh D.hA (by rw[k1,k2];omega) (fun h=>by rw[hns] at h;cases h) he
     exact⟨cs,this.blk l kk st cs (by rw[k2];omega) h1,h2,h3⟩
theorem Dr.float (D:Dr P C O ops al m0 S W) {j k:Nat} {ao:AOper} (hj:j<ops.size) (ha:al[j]? =some ao) (hf:ao.flt=true) (hwt:wanted (S j).ρ ao.guard=some true) (hk:k≤ops.size) {g:Bool} {n:Nat} {y:Opd} (hop:ao.op= .load g n y∨ao.op= .ext (.wload g n y)) (hw:g=true∨n=1)
  (hst: ∀p ap,p<k→al[p]? =some ap→ap.op.isStore=true→ap.op.isLst=false∧j<p∧ ∃g n y,ao.op= .ext (.wload g n y)) {r:AV} {m':Mem} (he:evOp O (S j).ρ m0 ao.op=some (r,m')):evOp O (S j).ρ (S k).m ao.op=some (r,(S k).m):=by
 have hev: ∀m:Mem,evOp O (S j).ρ m ao.op=(m.at (y.ev (S j).ρ)).bind fun cs=>(takeV g n cs).map fun v=>(v,m):=by
  intro m
  rcases hop with h|h<;>rw[h]<;>rfl
 rw[hev] at he⊢
 simp only[w02,w01,Prod.mk.injEq] at he⊢
 obtain⟨cs,h1,v,h2,rfl,rfl⟩:=he
 unfold Mem.at at h1⊢
 split at h1
 ·rename_i l kk st off hae
  simp only[w01] at h1
  obtain⟨cs0,h3,rfl⟩:=h1
  obtain⟨cs1,k1,k2,k3⟩:=D.range (j:=j) (off:=off) (n:=n) h3 k (fun p ap hp hap hs=>by
   obtain⟨a0,a1,g',n',y',a2⟩:=hst p ap hp hap hs
   refine⟨a0,a1,?_⟩
   have hop':ao.op= .ext (.wload g n y):=by
    rcases hop with h|h
    ·rw[h] at a2;cases a2
    ·exact h
   rw[(D.hs j ao ha).2]
   simp only[nextW,hf,if_true,watchG,hwt,watch,hop',hae,Mem.at,h3,w05,w15]
   exact w28) k (w0e _) hk
  exact⟨cs1.drop off,by simp only[k1,w05],v,by rw[Wb hw k2 k3];exact h2,rfl,trivial⟩
 ·injection h1 with h1
  subst h1
  exact⟨_,rfl,v,h2,rfl,trivial⟩
 ·cases h1
end
section
variable {P : Program} {C : Ctx} {O : Oracle} {ops : Array Oper} {al : List AOper} {m0 : Mem} {S : Nat → St} {W : Nat → Watch} {Q : Exit → Act → World → Prop}
def Pend (al:List AOper) (S:Nat→St) (X:Nat→Bool) (k i:Nat):Prop:=i<k∧isA al i=true∧(S (i+1)).m.nx≠(S i).m.nx∧X i=false
structure Mid (ops:Array Oper) (al:List AOper) (S:Nat→St) (rs0:Nat→Bool) (L:Nat) (X:Nat→Bool) (g:G) (w:World) (a:Act):Prop where
 mem: ∀k,Nxt al ops.size X k→Inv g w (S k).m
 rsv: ∀k,Nxt al ops.size X k→ ∀st,g.rs st=true↔(rs0 st=true∨ ∃i,Pend al S X k i∧st=(S i).m.nx)
 cont: ∀k,Nxt al ops.size X k→ ∀i,Pend al S X k i→(S k).m.blk L (S i).m.cur.length (S i).m.nx=some (content S i)
 reg: ∀t k x,k≤ops.size→Cut ops.size X (wr ops t) k→(S k).ρ[t]? =some x→ ∃v,a.tmps[t]? =some v∧Rep g w x v
 len:a.tmps.size=(S 0).ρ.length
theorem Dr.nxt (D:Dr P C O ops al m0 S W) {X:Nat→Bool} (hX:Closed ops X): ∃k,Nxt al ops.size X k:=by
 have least: ∀n,n≤ops.size→ ∃k,k≤n∧(∀i,i<k→isB al i=true→X i=true)∧(k=n∨(isB al k=true∧X k=false)):=by
  intro n
  induction n with
  |zero=>exact fun _=>⟨0,w0e _,fun i hi=>by omega,.inl rfl⟩
  |succ n ih=>
   intro hn
   obtain⟨k,h1,h2,h3⟩:=ih (by omega)
   rcases h3 with rfl|h3
   ·by_cases hb:isB al k=true∧X k=false
    ·exact⟨k,by omega,h2,.inr hb⟩
    ·refine⟨k+1,w0e _,fun i hi hB=> ?_,.inl rfl⟩
     by_cases hik:i=k
     ·subst hik
      cases hx:X i with
      |true=>rfl
      |false=>exact absurd ⟨hB,hx⟩ hb
     ·exact h2 i (by omega) hB
   ·exact⟨k,by omega,h2,.inr h3⟩
 obtain⟨k,h1,h2,h3⟩:=least ops.size (w0e _)
 refine⟨k,h1,fun i hi hB=>⟨fun hXi=> ?_,fun hlt=>h2 i hlt hB⟩,h3.imp id (fun h=>h.1)⟩
 rcases Nat.lt_or_ge i k with hlt|hge
 ·exact hlt
 ·exfalso
  rcases h3 with rfl|⟨hBk,hXk⟩
  ·omega
  ·have hne:k≠i:=fun e=>by subst e;rw[hXk] at hXi;cases hXi
   have hkn:k<ops.size:=by omega
   obtain⟨ok,ak,p1,p2,_⟩:=D.at_ hkn
   obtain⟨oi,ai,q1,q2,_⟩:=D.at_ hi
   unfold isB at hBk hB
   rw[zK p2] at hBk
   rw[zK q2] at hB
   have hord:ordered (masks ops.toList []) k i=true:=by
    cases ho:ordered (masks ops.toList []) k i with
    |true=>rfl
    |false=>
     have:=(D.pair p1 q1 p2 q2 hne ho).2.1
     rw[hBk,hB] at this;cases this
   have:=yz hX (i:=k) (j:=i) (by omega) (.inl hord) hXi
   rw[hXk] at this;cases this
theorem Mid.next {N:Nat} {rr:Option Nat} (D:Dr P C O ops al m0 S W) {rs0:Nat→Bool} (hrs0: ∀st,rs0 st=true→st<(S 0).m.nx) {X:Nat→Bool} {g:G} {w:World} {a:Act} (hz:C.Z g w) (M:Mid ops al S rs0 m0.stk.length X g w a) {j:Nat} {o:Oper} (ho:ops[j]? =some o) (hXj:X j=false) (hX:Closed ops X)
  (hX':Closed ops fun i=>X i||i==j) (K:Act→World→Prop) (hK: ∀g' a' w',ExtW g w g' w'→Mid ops al S rs0 m0.stk.length (fun i=>X i||i==j) g' w' a'→a'.defers=a.defers→K a' w'):wpOpIn (FW rr) N P ops Q j K a w:=by
 have hjlt:j<ops.size:=(w12.1 ho).1
 obtain⟨ao,ha,hisop,hreads⟩:=D.hop j o ho
 obtain⟨b,r,hw,hρ,hfalse,htrue⟩:=D.step ha
 obtain⟨ds,op0,hop,hevop,hkop⟩:=hisop.op
 have hdst:=hisop.dst
 have hguard:=hisop.guard
 have hord: ∀i,i<ops.size→i≠j→ordered (masks ops.toList []) i j=true→(X i=true↔i<j):=by
  intro i hi hne h
  constructor
  ·intro hXi
   rcases Nat.lt_or_ge i j with hlt|hge
   ·exact hlt
   ·have:=yz hX (i:=j) (j:=i) (by omega) (.inr h) hXi
    rw[hXj] at this;cases this
  ·intro hlt
   have:=yz hX' (i:=i) (j:=j) hlt (.inl h) (by simp)
   simp only[w14,beq_iff_eq] at this
   exact this.resolve_right hne
 have hpair: ∀i oi ai,ops[i]? =some oi→al[i]? =some ai→i≠j→(clash ops oi o=true∨(mvB ai.op=true∧mvB ao.op=true))→ordered (masks ops.toList []) i j=true:=by
  intro i oi ai h1 h2 hne h
  cases hoo:ordered (masks ops.toList []) i j with
  |true=>rfl
  |false=>
   obtain⟨q1,q2,_⟩:=D.pair h1 ho h2 ha hne hoo
   rcases h with h|⟨h,h'⟩
   ·rw[h] at q1;cases q1
   ·rw[h,h'] at q2;cases q2
 have hlook: ∀t∈looksAt ops o,Cut ops.size X (wr ops t) j:=by
  intro t ht i hi hwr
  obtain⟨oi,ai,h1,h2,_⟩:=D.at_ hi
  simp only[wr,h1,beq_iff_eq] at hwr
  by_cases hne:i=j
  ·subst hne
   constructor
   ·intro h;rw[hXj] at h;cases h
   ·intro h;omega
  ·refine hord i hi hne (hpair i oi ai h1 h2 hne (.inl ?_))
   unfold clash
   rw[hwr]
   simp[ht]
 have hmask:Reps g w (mask (looksAt ops o) (S j).ρ) a.tmps.toList:=by
  refine⟨by simp[WB,D.reg_len j (by omega),M.len],fun t c v h1 h2=> ?_⟩
  rw[WC] at h1
  simp only[w01] at h1
  obtain⟨x,hx,h1⟩:=h1
  by_cases ht:t∈looksAt ops o
  ·have hcon:(looksAt ops o).contains t=true:=by simpa using ht
   rw[if_pos hcon] at h1
   subst h1
   obtain⟨v',h3,h4⟩:=M.reg t j x (by omega) (hlook t ht) hx
   have h2':a.tmps[t]? =some v:=by simpa using h2
   rw[h3] at h2'
   injection h2' with h2'
   rw[←h2'];exact h4
  ·have hcon: ¬(looksAt ops o).contains t=true:=by simpa using ht
   rw[if_neg hcon] at h1
   subst h1
   exact .undef v
 have hwant:wanted (mask (looksAt ops o) (S j).ρ) ao.guard=some b:=by
  rw[←hw]
  unfold compGuard at hguard
  split at hguard
  ·injection hguard with hguard;rw[←hguard];rfl
  ·rename_i q want hgd
   split at hguard
   ·rename_i d hd
    injection hguard with hguard
    rw[←hguard]
    have hmem:d∈looksAt ops o:=by
     unfold looksAt
     rw[hgd]
     simp[hd]
    simp only[wanted,ud hmem]
   ·cases hguard
 have hcomp: ∃ao0,compOper P ds ops o=some ao0∧ao0.guard=ao.guard:=by
  refine⟨⟨o.dst,op0,ao.guard,false⟩,?_,rfl⟩
  unfold compOper
  rw[hop,hguard]
 have hRw:Region.wanted o (yielded ops a.tmps)=b:=by
  obtain⟨ao0,h1,h2⟩:=hcomp
  exact uq h1 hmask (by rw[h2];exact hwant)
 have hcongr: ∀mm:Mem,evOp O (mask (looksAt ops o) (S j).ρ) mm op0=evOp O (S j).ρ mm ao.op:=by
  intro mm
  rw[←hevop]
  refine VV fun y hy=> ?_
  cases y with
  |c v=>rfl
  |t i=>exact ud (x7 hreads i hy) _
 have after: ∀g' w' v,ExtW g w g' w'→Rep g' w' r v→(∀k,Nxt al ops.size (fun i=>X i||i==j) k→Inv g' w' (S k).m)→
   (∀k,Nxt al ops.size (fun i=>X i||i==j) k→ ∀st,g'.rs st=true↔(rs0 st=true∨ ∃i,Pend al S (fun i=>X i||i==j) k i∧st=(S i).m.nx))→
   (∀k,Nxt al ops.size (fun i=>X i||i==j) k→ ∀i,Pend al S (fun i=>X i||i==j) k i→(S k).m.blk m0.stk.length (S i).m.cur.length (S i).m.nx=some (content S i))→
   Mid ops al S rs0 m0.stk.length (fun i=>X i||i==j) g' w' (a.put o.dst v):=by
  intro g' w' v hx hr hmem hrsv hcont
  refine⟨hmem,hrsv,hcont,fun t k x hk hcut hx'=> ?_,by cases o.dst<;>simp[Act.put,M.len]⟩
  by_cases hd:o.dst=some t
  ·have hwrj:wr ops t j=true:=by simp[wr,ho,hd]
   have hjk:j<k:=(hcut j hjlt hwrj).1 (by simp)
   have hconst:=D.reg_const t (j+1) k (by omega) hk (fun i h1 h2=>by
    cases hwi:wr ops t i with
    |false=>rfl
    |true=>
     exfalso
     obtain⟨oi,ai,p1,p2,_⟩:=D.at_ (i:=i) (by omega)
     have hXi:=(hcut i (by omega) hwi).2 h2
     simp only[w14,beq_iff_eq] at hXi
     have hXi':X i=true:=hXi.resolve_right (by omega)
     have hcl:clash ops oi o=true:=by
      simp only[wr,p1,beq_iff_eq] at hwi
      unfold clash
      rw[hwi,hd]
      simp
     have:=(hord i (by omega) (by omega) (hpair i oi ai p1 p2 (by omega) (.inl hcl))).1 hXi'
     omega)
   rw[hconst,hρ,kK,hdst] at hx'
   have hlt:t<(S j).ρ.length:=by
    rcases Nat.lt_or_ge t (S j).ρ.length with h|h
    ·exact h
    ·rw[if_neg (by omega),w19 h] at hx';cases hx'
   rw[if_pos ⟨hd,hlt⟩] at hx'
   injection hx' with hx'
   subst hx'
   refine⟨v,?_,hr⟩
   rw[hd]
   simp only[Act.put]
   have:t<a.tmps.size:=by rw[M.len,←D.reg_len j (by omega)];exact hlt
   simp[this]
  ·have hcut':Cut ops.size X (wr ops t) k:=by
    intro i hi hwi
    have hne:i≠j:=by
     intro h;subst h
     simp only[wr,ho,beq_iff_eq] at hwi
     exact hd hwi
    have:=hcut i hi hwi
    have h2:(i==j)=false:=by simp[hne]
    simp only[h2,Bool.or_false] at this
    exact this
   obtain⟨v0,h1,h2⟩:=M.reg t k x hk hcut' hx'
   refine⟨v0,?_,h2.monoW hx⟩
   cases hdd:o.dst with
   |none=>exact h1
   |some d=>
    simp only[Act.put]
    have hne:d≠t:=fun h=>hd (by rw[hdd,h])
    rw[Array.getElem?_setIfInBounds_ne hne]
    exact h1
 obtain⟨k,hk⟩:=D.nxt hX
 obtain⟨k',hk'⟩:=D.nxt hX'
 have I:=M.mem k hk
 have hklen:=D.lens k hk.1
 have early: ∀i,i<ops.size→isA al i=true→X i=true→i<k:=by
  intro i hi hA hXi
  rcases Nat.lt_or_ge i k with hlt|hge
  ·exact hlt
  ·exfalso
   rcases hk.2.2 with e|hB
   ·omega
   ·have hne:i≠k:=fun e=>by rw[e] at hA;rw[UA hA] at hB;cases hB
    have hkn:k<ops.size:=by omega
    obtain⟨oi,ai,p1,p2,_⟩:=D.at_ hi
    obtain⟨ok,ak,q1,q2,_⟩:=D.at_ hkn
    have hXk:X k=false:=by
     cases hx:X k with
     |false=>rfl
     |true=>have:=(hk.2.1 k hkn hB).1 hx;omega
    cases hoo:ordered (masks ops.toList []) i k with
    |true=>
     have:=yz hX (i:=k) (j:=i) (by omega) (.inr hoo) hXi
     rw[hXk] at this;cases this
    |false=>
     have:=(D.pair p1 q1 p2 q2 hne hoo).2.2.1
     unfold isA at hA
     unfold isB at hB
     rw[zK p2] at hA
     rw[zK q2] at hB
     rw[hA,hB] at this
     simp at this
     omega
 unfold wpOpIn
 rw[ho]
 simp only
 rw[hRw]
 cases hB:isB al j with
 |true=>
  have hmvj:mvB ao.op=true:=by unfold isB at hB;rw[zK ha] at hB;exact hB
  have hkj:k=j:=by
   rcases Nat.lt_trichotomy k j with hlt|rfl|hgt
   ·exfalso
    have hkn:k<ops.size:=by omega
    have hBk:isB al k=true:=hk.2.2.elim (fun e=>by omega) id
    obtain⟨ok,ak,q1,q2,_⟩:=D.at_ hkn
    have hmk:mvB ak.op=true:=by unfold isB at hBk;rw[zK q2] at hBk;exact hBk
    have hXk:=(hord k hkn (by omega) (hpair k ok ak q1 q2 (by omega) (.inr ⟨hmk,hmvj⟩))).2 hlt
    have:=(hk.2.1 k hkn hBk).1 hXk
    omega
   ·rfl
   ·exfalso
    have:=(hk.2.1 j hjlt hB).2 hgt
    rw[hXj] at this;cases this
  subst hkj
  have hjk':k<k':=(hk'.2.1 k hjlt hB).1 (by simp)
  have hnoB: ∀i,k+1≤i→i<k'→isB al i=false:=by
   intro i h1 h2
   cases hBi:isB al i with
   |false=>rfl
   |true=>
    exfalso
    have hXi:=(hk'.2.1 i (by have:=hk'.1;omega) hBi).2 h2
    simp only[w14,beq_iff_eq] at hXi
    have:=(hk.2.1 i (by have:=hk'.1;omega) hBi).1 (hXi.resolve_right (by omega))
    omega
  have fin: ∀g' w' v,ExtW g w g' w'→g'.rs=g.rs→Inv g' w' (S (k+1)).m→Rep g' w' r v→
    (∀i,Pend al S X k i→(S (k+1)).m.blk m0.stk.length (S i).m.cur.length (S i).m.nx=some (content S i))→
    ∃g'',ExtW g w g'' w'∧Mid ops al S rs0 m0.stk.length (fun i=>X i||i==k) g'' w' (a.put o.dst v):=by
   intro g' w' v hx hrs hI hr hc
   obtain⟨g'',e1,e2,e3⟩:=D.reserve (k+1) k' (by omega) hk'.1 hnoB hI
   have hgrew:=D.grew (k+1) k' (by omega) hk'.1 hnoB
   refine⟨g'',hx.trans e1,after g'' w' v (hx.trans e1) (hr.monoW e1) (fun q hq=> ?_) (fun q hq st=> ?_) (fun q hq i hp=> ?_)⟩
   ·rw[hq.uniq hk'];exact e2
   ·rw[hq.uniq hk',e3 st,hrs,M.rsv k hk st]
    constructor
    ·rintro((h|⟨i,⟨h1,h2,h3,h4⟩,h5⟩)|⟨i,h1,h2,h3,h4,h5⟩)
     ·exact .inl h
     ·exact .inr ⟨i,⟨by omega,h2,h3,by simp only[h4,Bool.false_or,beq_eq_false_iff_ne];omega⟩,h5⟩
     ·refine .inr ⟨i,⟨h2,h3,h4,?_⟩,h5⟩
      simp only[w2b,beq_eq_false_iff_ne]
      refine⟨?_,by omega⟩
      cases hxi:X i with
      |false=>rfl
      |true=>have:=early i (by have:=hk'.1;omega) h3 hxi;omega
    ·rintro(h|⟨i,⟨h1,h2,h3,h4⟩,h5⟩)
     ·exact .inl (.inl h)
     ·simp only[w2b,beq_eq_false_iff_ne] at h4
      rcases Nat.lt_or_ge i k with hlt|hge
      ·exact .inl (.inr ⟨i,⟨hlt,h2,h3,h4.1⟩,h5⟩)
      ·exact .inr ⟨i,by omega,h1,h2,h3,h5⟩
   ·rw[hq.uniq hk'] at hp⊢
    obtain⟨h1,h2,h3,h4⟩:=hp
    simp only[w2b,beq_eq_false_iff_ne] at h4
    rcases Nat.lt_or_ge i k with hlt|hge
    ·exact hgrew.blk (hc i ⟨hlt,h2,h3,h4.1⟩)
    ·have hin:i<ops.size:=by have:=hk'.1;omega
     have hg2:=D.grew (i+1) k' (by omega) hk'.1 (fun q a1 a2=>hnoB q (by omega) a2)
     exact hg2.blk (D.made_blk hin h2 h3)
  cases b with
  |false=>
   obtain⟨hr,hm⟩:=hfalse rfl
   simp only[w0c,if_false]
   obtain⟨g'',e1,e2⟩:=fin g w Go.undef (Ext.refl g w).toExtW rfl (by rw[hm];exact I) (by rw[hr];exact zZ g w) (fun i hp=>by rw[hm];exact M.cont k hk i hp)
   exact⟨fun _ _=>trivial,hK g'' _ w e1 e2 (zR _ _)⟩
  |true=>
   simp only[if_true]
   rcases htrue rfl with⟨hf,_,_⟩|⟨hf,hs,hcl,m',h1,hm,hkp⟩|⟨hf,hs,h1⟩
   ·exfalso
    obtain⟨g1,n1,y1,h|h,_⟩:=hisop.flt hf<;>rw[h] at hmvj<;>cases hmvj
   ·have h1':=h1
    rw[←hcongr] at h1
    have hcs: ∀i,Pend al S X k i→(S (k+1)).m.blk m0.stk.length (S i).m.cur.length (S i).m.nx=some (content S i):=by
     intro i hp
     have hb:=M.cont k hk i hp
     rw[hm]
     rcases jZ hs hcl with⟨n',ad,x,hop''⟩|⟨⟨s',x,y,hop'⟩,_⟩|⟨pp,s',b',x,y,hop',_⟩|hC
     rotate_left
     rotate_left
     rotate_left
     ·simp only[kept,hC,w04] at hkp
      have hlen:m'.stk.length=(S k).m.stk.length:=(yh (ρ:=(S k).ρ) D.hA (by simp only;have:=D.hf;have:=hklen.1;omega) (fun _=>by simp only;have:=D.hf;have:=hklen.1;omega) h1').len
      have hi:i<ops.size:=by have:=hp.1;have:=hk.1;omega
      have hx0:m0.nx≤(S i).m.nx:=by
       have:=D.nx_mono 0 i (Nat.zero_le _) (by omega)
       rw[D.h0] at this
       exact this
      have:=UR hlen hkp.2 (by rw[hklen.1];exact hb) hx0
      rw[hklen.1] at this
      exact this
     rotate_left
     rotate_left
     ·have hop2:op0= .ext (.appB pp s' b' x y):=by
       rcases hkop with⟨h,_⟩|⟨_,_,_,_,h⟩|⟨_,_,_,_,h⟩
       ·rw[h,hop']
       ·rw[hop'] at h;cases h
       ·rw[hop'] at h;cases h
      rw[hop2] at hop
      have hq:=V4 hop
      obtain⟨_,_,_,_,x0,_,hx',_⟩:=uF hq
      have hrep:=za hmask hx'
      have hae':x.ev (mask (looksAt ops o) (S k).ρ)=x.ev (S k).ρ:=by
       cases x with
       |c c=>rfl
       |t q=>exact ud (x7 hreads q (by rw[hop'];simp[AOp.reads,XOp.reads])) _
      rw[hop'] at h1'
      simp only[evOp,evX] at h1'
      refine(show m'.blk _ _ _=some _ from Zr h1' hb fun s2 l2 k2 st2 len2 cs2 hae hb2 e=> ?_)
      obtain⟨rfl,rfl⟩:=e
      have hst:=(qf (m:=(S k).m) hb2 hb).1
      have hres:=(M.rsv k hk ((S i).m.nx)).2 (.inr ⟨i,hp,rfl⟩)
      have hnone:=(I.rsv _ hres).1
      rw[hae',hae] at hrep
      obtain⟨b1,o1,e1,_,hbt,_⟩:=hrep.inv_grow
      rw[hst,hnone] at hbt;cases hbt
     rotate_left
     ·have hop2:op0= .ext (.appK s' x y):=by
       rcases hkop with⟨h,_⟩|⟨_,_,_,_,h⟩|⟨_,_,_,_,h⟩
       ·rw[h,hop']
       ·rw[hop'] at h;cases h
       ·rw[hop'] at h;cases h
      rw[hop2] at hop
      obtain⟨_,hq⟩:=V3 hop
      obtain⟨_,_,_,_,x0,_,hx',_⟩:=uF hq
      have hrep:=za hmask hx'
      have hae':x.ev (mask (looksAt ops o) (S k).ρ)=x.ev (S k).ρ:=by
       cases x with
       |c c=>rfl
       |t q=>exact ud (x7 hreads q (by rw[hop'];simp[AOp.reads,XOp.reads])) _
      rw[hop'] at h1'
      simp only[evOp,evX,evAppK] at h1'
      split at h1'
      ·split at h1'
       ·simp only[Option.some.injEq,Prod.mk.injEq] at h1'
        obtain⟨_,rfl⟩:=h1'
        exact hb
       ·cases h1'
      ·rename_i l2 k2 st2 len2 _ hae
       split at h1'
       ·rename_i cs2 hb2
        split at h1'
        ·simp only[Option.some.injEq,Prod.mk.injEq] at h1'
         obtain⟨_,rfl⟩:=h1'
         refine xK (m:={(S k).m with floor:=m0.floor}) (fun e=> ?_) hb
         obtain⟨rfl,rfl⟩:=e
         have hst:=(qf (m:=(S k).m) hb2 hb).1
         have hres:=(M.rsv k hk ((S i).m.nx)).2 (.inr ⟨i,hp,rfl⟩)
         have hnone:=(I.rsv _ hres).1
         rw[hae',hae] at hrep
         obtain⟨b1,o1,e1,_,hbt,_⟩:=hrep.inv_grow
         rw[hst,hnone] at hbt;cases hbt
        ·cases h1'
       ·cases h1'
      ·cases h1'
     have hop2:op0= .store n' ad x:=by
      rcases hkop with⟨h,hl⟩|⟨_,_,_,_,h⟩|⟨_,_,_,h0,h⟩
      ·rcases hop'' with e|e
       ·rw[h,e]
       ·rw[e] at hl;cases hl
      ·rcases hop'' with e|e<;>rw[e] at h<;>cases h
      ·rcases hop'' with e|e<;>rw[e] at h<;>cases h
       exact h0
     have hev1:evOp O (S k).ρ {(S k).m with floor:=m0.floor} (.store n' ad x)=some (r,m'):=by
      rcases hop'' with e|e<;>rw[e] at h1'<;>exact h1'
     have hrd: ∀q,Opd.t q=ad→Opd.t q∈ao.op.reads:=fun q hq=>by rcases hop'' with e|e<;>rw[e,←hq]<;>simp[AOp.reads,XOp.reads]
     obtain⟨t',x',z',_,hx',_⟩:=Yt (ug (by rw[←hop2];exact hop) (fun e he=>by cases he))
     have hrep:=za hmask hx'
     have hae':ad.ev (mask (looksAt ops o) (S k).ρ)=ad.ev (S k).ρ:=by
      cases ad with
      |c c=>rfl
      |t q=>exact ud (x7 hreads q (hrd q rfl)) _
     replace h1':=hev1
     simp only[evOp,evStore] at h1'
     split at h1'
     ·rename_i l2 k2 st2 off2 hae
      split at h1'
      ·rename_i cs2 hb2
       split at h1'
       ·simp only[Option.some.injEq,Prod.mk.injEq] at h1'
        obtain⟨_,rfl⟩:=h1'
        rw[kw]
        refine xK (m:={(S k).m with floor:=m0.floor}) (fun e=> ?_) hb
        obtain⟨rfl,rfl⟩:=e
        have hst:=(qf (m:=(S k).m) hb2 hb).1
        have hres:=(M.rsv k hk ((S i).m.nx)).2 (.inr ⟨i,hp,rfl⟩)
        have hnone:=(I.rsv _ hres).1
        rw[hae',hae] at hrep
        obtain⟨b1,o1,e1,hbt,_⟩:=hrep.inv_ptr
        rw[hst,hnone] at hbt;cases hbt
       ·cases h1'
      ·cases h1'
     ·cases h1'
    refine Up D.hO hz hop (by simp only;have:=D.hf;have:=hklen.1;omega) h1 hmask (qd _ I) fun g' w' v hx hI hr=> ?_
    obtain⟨g'',e1,e2⟩:=fin g' w' v hx.toExtW hx.rs (by rw[hm];exact qd _ hI) hr hcs
    exact hK g'' _ w' e1 e2 (zR _ _)
   ·rw[←hcongr] at h1
    have hab:=yh (ρ:=mask (looksAt ops o) (S k).ρ) D.hA (by rw[hklen.1,hklen.2];omega) (fun h=>by
     exfalso
     rcases hkop with⟨e,_⟩|⟨_,_,_,e,_⟩|⟨_,_,_,e,e2⟩
     ·rw[e,hs] at h;cases h
     ·rw[e] at h;cases h
     ·rw[e2] at hs;cases hs) h1
    refine Up D.hO hz hop (by omega) h1 hmask I fun g' w' v hx hI hr=> ?_
    obtain⟨g'',e1,e2⟩:=fin g' w' v hx.toExtW hx.rs hI hr (fun i hp=>hab.blk _ _ _ _ (by rw[hklen.2];omega) (M.cont k hk i hp))
    exact hK g'' _ w' e1 e2 (zR _ _)
 |false=>
  have hkk:Nxt al ops.size (fun i=>X i||i==j) k:=by
   refine⟨hk.1,fun i hi hBi=> ?_,hk.2.2⟩
   have hne:(i==j)=false:=by
    simp only[beq_eq_false_iff_ne]
    intro e
    rw[e,hB] at hBi;cases hBi
   simp only[hne,Bool.or_false]
   exact hk.2.1 i hi hBi
  have hmv:mvB ao.op=false:=by unfold isB at hB;rw[zK ha] at hB;exact hB
  have same: ∀g' w' v,Ext g w g' w'→Inv g' w' (S k).m→Rep g' w' r v→(isA al j=false∨(S (j+1)).m.nx=(S j).m.nx)→Mid ops al S rs0 m0.stk.length (fun i=>X i||i==j) g' w' (a.put o.dst v):=by
   intro g' w' v hx hI hr hno
   have hp: ∀i,Pend al S (fun i=>X i||i==j) k i↔Pend al S X k i:=by
    intro i
    constructor
    ·rintro⟨h1,h2,h3,h4⟩
     simp only[w2b] at h4
     exact⟨h1,h2,h3,h4.1⟩
    ·rintro⟨h1,h2,h3,h4⟩
     refine⟨h1,h2,h3,?_⟩
     simp only[w2b,beq_eq_false_iff_ne]
     refine⟨h4,fun e=> ?_⟩
     subst e
     rcases hno with h|h
     ·rw[h] at h2;cases h2
     ·exact h3 h
   refine after g' w' v hx.toExtW hr (fun q hq=> ?_) (fun q hq st=> ?_) (fun q hq i hpi=> ?_)
   ·rw[hq.uniq hkk];exact hI
   ·rw[hq.uniq hkk,hx.rs,M.rsv k hk st]
    simp only[hp]
   ·rw[hq.uniq hkk] at hpi⊢
    exact M.cont k hk i ((hp i).1 hpi)
  cases hA:isA al j with
  |true=>
   have hkA:kindA ao.op=true:=by unfold isA at hA;rw[zK ha] at hA;exact hA
   have hjk:j<k:=by
    rcases Nat.lt_or_ge j k with h|h
    ·exact h
    ·exfalso
     have hne:k≠j:=by
      intro e
      rcases hk.2.2 with e2|e2
      ·omega
      ·rw[e,hB] at e2;cases e2
     have hkn:k<ops.size:=by omega
     have hBk:isB al k=true:=hk.2.2.elim (fun e=>by omega) id
     have hXk:X k=false:=by
      cases hx:X k with
      |false=>rfl
      |true=>have:=(hk.2.1 k hkn hBk).1 hx;omega
     obtain⟨ok,ak,q1,q2,_⟩:=D.at_ hkn
     cases hoo:ordered (masks ops.toList []) k j with
     |true=>
      have:=(hord k hkn hne hoo).2 (by omega)
      rw[hXk] at this;cases this
     |false=>
      have:=(D.pair ho q1 ha q2 (fun e=>hne e.symm) (by rw[XC];exact hoo)).2.2.1
      unfold isB at hBk
      rw[zK q2] at hBk
      rw[hkA,hBk] at this
      simp at this
      omega
   cases b with
   |false=>
    obtain⟨hr,hm⟩:=hfalse rfl
    simp only[w0c,if_false]
    exact⟨fun _ _=>trivial,hK g _ w (Ext.refl g w).toExtW (same g w Go.undef (Ext.refl g w) I (by rw[hr];exact zZ g w) (.inr (by rw[hm]))) (zR _ _)⟩
   |true=>
    simp only[if_true]
    rcases htrue rfl with⟨hf,_,_⟩|⟨hf,hs,_⟩|⟨hf,hs,h1⟩
    ·exfalso
     obtain⟨g1,n1,y1,h|h,_⟩:=hisop.flt hf<;>rw[h] at hkA<;>cases hkA
    ·exfalso
     rcases vD hkA with⟨_,e⟩|⟨_,_,e⟩|⟨_,_,_,_,_,e⟩|⟨_,_,e⟩<;>(rw[e] at hs;cases hs)
    ·have hop0:op0=ao.op:=by
      rcases hkop with⟨h,_⟩|⟨_,_,_,_,h⟩|⟨_,_,_,_,h⟩
      ·exact h
      ·rw[h] at hkA;cases hkA
      ·rw[h] at hkA;cases hkA
     obtain⟨cs,hcs⟩:=YY hkA h1
     have hmade:(S (j+1)).m.nx≠(S j).m.nx:=by rw[hcs];simp
     have hm:=D.made hjlt hB hmade
     have hpend:Pend al S X k j:=⟨hjk,hA,hmade,hXj⟩
     rw[←hcongr] at h1
     have hin: ∀bl∈(S k).m.all,bl.st=(S j).m.nx→bl.cs=content S j:=by
      intro bl hbl hst
      have:=YS I.nd hbl (zj (M.cont k hk j hpend)) hst
      rw[this]
     obtain⟨g',w',v,hrun,hx,hI,hr,hrs⟩:=VK hop (by rw[hop0];exact hkA) h1 hm hmask I hin ((M.rsv k hk _).2 (.inr ⟨j,hpend,rfl⟩))
     refine⟨fun _ _=>trivial,?_⟩
     rw[Y3,Wi hop h1 rr a.eval,hrun,Oper.uponIn_value]
     have hne: ∀i,i<ops.size→isA al i=true→(S (i+1)).m.nx≠(S i).m.nx→i≠j→(S i).m.nx≠(S j).m.nx:=by
      intro i hi hAi hmi hij
      have b1:=D.nx_succ hi
      have b2:=D.nx_succ hjlt
      rcases Nat.lt_or_ge i j with hlt|hge
      ·have:=D.nx_mono (i+1) j (by omega) (by omega);omega
      ·have:=D.nx_mono (j+1) i (by omega) (by omega);omega
     refine hK g' _ w' hx (after g' w' v hx hr (fun q hq=> ?_) (fun q hq st=> ?_) (fun q hq i hpi=> ?_)) (zR _ _)
     ·rw[hq.uniq hkk];exact hI
     ·rw[hq.uniq hkk,hrs]
      simp only[w04,bne_iff_ne]
      rw[M.rsv k hk st]
      constructor
      ·rintro⟨h|⟨i,⟨a1,a2,a3,a4⟩,a5⟩,hn⟩
       ·exact .inl h
       ·refine .inr ⟨i,⟨a1,a2,a3,?_⟩,a5⟩
        simp only[w2b,beq_eq_false_iff_ne]
        exact⟨a4,fun e=>hn (by rw[a5,e])⟩
      ·rintro(h|⟨i,⟨a1,a2,a3,a4⟩,a5⟩)
       ·refine⟨.inl h,fun e=> ?_⟩
        have:=hrs0 st h
        have:=D.nx_mono 0 j (Nat.zero_le _) (by omega)
        omega
       ·simp only[w2b,beq_eq_false_iff_ne] at a4
        refine⟨.inr ⟨i,⟨a1,a2,a3,a4.1⟩,a5⟩,fun e=> ?_⟩
        exact hne i (by have:=hk.1;omega) a2 a3 a4.2 (by rw[←a5,e])
     ·rw[hq.uniq hkk] at hpi⊢
      obtain⟨a1,a2,a3,a4⟩:=hpi
      simp only[w2b] at a4
      exact M.cont k hk i ⟨a1,a2,a3,a4.1⟩
  |false=>
   have hkA:kindA ao.op=false:=by unfold isA at hA;rw[zK ha] at hA;exact hA
   have hkind:=YX hmv hkA
   cases b with
   |false=>
    obtain⟨hr,hm⟩:=hfalse rfl
    simp only[w0c,if_false]
    exact⟨fun _ _=>trivial,hK g _ w (Ext.refl g w).toExtW (same g w Go.undef (Ext.refl g w) I (by rw[hr];exact zZ g w) (.inl hA)) (zR _ _)⟩
   |true=>
    simp only[if_true]
    have hw0:=hw
    have hev:evOp O (S j).ρ (S k).m ao.op=some (r,(S k).m):=by
     rcases htrue rfl with⟨hf,⟨m',h1⟩,_⟩|⟨hf,hs,_⟩|⟨hf,hs,h1⟩
     ·obtain⟨g1,n1,y1,hld,hw⟩:=hisop.flt hf
      refine D.float hjlt ha hf hw0 hk.1 hld hw (fun p ap hp hap hs=> ?_) h1
      have hpn:p<ops.size:=by have:=hk.1;omega
      have hBp:isB al p=true:=by
       unfold isB
       rw[zK hap]
       exact jk hs
      have hXp:=(hk.2.1 p hpn hBp).2 hp
      obtain⟨h2,h3⟩:=D.flt_before hpn hjlt hap ha hs hf
      rcases h3 with h3|h3
      ·have:=yz hX (i:=j) (j:=p) h2 (.inr h3) hXp
       rw[hXj] at this;cases this
      ·exact⟨h3.1,h2,h3.2⟩
     ·exfalso
      rw[jk hs] at hmv;cases hmv
     ·by_cases hk0:ao.op.kind=0
      ·exact(X9 hk0 h1).2 _
      ·have hk1:ao.op.kind=1:=by omega
       obtain⟨hmm,hev0⟩:=Xa hkind h1
       have hall: ∀i,i<ops.size→isB al i=true→(i<j∨(opAt al i).isStore=true)→ordered (masks ops.toList []) i j=true:=by
        intro i hi hBi hor
        obtain⟨oi,ai,p1,p2,_⟩:=D.at_ hi
        have hne:i≠j:=fun e=>by rw[e,hB] at hBi;cases hBi
        cases hoo:ordered (masks ops.toList []) i j with
        |true=>rfl
        |false=>
         have:=(D.pair p1 ho p2 ha hne hoo).2.2.2
         unfold isB at hBi
         rw[zK p2] at hBi hor
         rw[hBi,hk1,hf] at this
         rcases hor with hor|hor
         ·rw[decide_eq_true hor] at this;simp at this
         ·rw[hor] at this;simp at this
       have hjk:j≤k:=by
        rcases Nat.lt_or_ge k j with h|h
        ·exfalso
         have hkn:k<ops.size:=by omega
         have hBk:isB al k=true:=hk.2.2.elim (fun e=>by omega) id
         have hXk:=(hord k hkn (by omega) (hall k hkn hBk (.inl h))).2 h
         have:=(hk.2.1 k hkn hBk).1 hXk
         omega
        ·exact h
       have keep: ∀d,j+d≤k→ ∀l q st cs,(S j).m.blk l q st=some cs→(S (j+d)).m.blk l q st=some cs:=by
        intro d
        induction d with
        |zero=>exact fun _ _ _ _ _ h=>h
        |succ d ih=>
         intro hd l q st cs h
         have h0:=ih (by omega) l q st cs h
         have hin:j+d<ops.size:=by have:=hk.1;omega
         obtain⟨oi,ai,p1,p2,_⟩:=D.at_ hin
         obtain⟨b1,r1,_,_,hF,hT⟩:=D.step p2
         rw[show j+(d+1)=j+d+1 by omega]
         cases b1 with
         |false=>rw[(hF rfl).2];exact h0
         |true=>
          rcases hT rfl with⟨_,_,e⟩|⟨_,hst,_⟩|⟨_,hns,e1⟩
          ·rw[e];exact h0
          ·exfalso
           have hBi:isB al (j+d)=true:=by unfold isB;rw[zK p2];exact jk hst
           have hne:j+d≠j:=fun e=>by rw[e,hB] at hBi;cases hBi
           have hXi:=(hk.2.1 (j+d) hin hBi).2 (by omega)
           have:=(hord (j+d) hin hne (hall (j+d) hin hBi (.inr (by rw[zK p2];exact hst)))).1 hXi
           omega
          ·obtain⟨k1,k2⟩:=D.lens (j+d) (by omega)
           have hab:=yh D.hA (by rw[k1,k2];omega) (fun h=>by rw[hns] at h;cases h) e1
           refine hab.blk l q st cs ?_ h0
           have:=Xl h0
           rw[k2];omega
       have hkeep:=keep (k-j) (by omega)
       rw[show j+(k-j)=k by omega] at hkeep
       exact hev0 _ hkeep
    rw[←hcongr] at hev
    refine Up D.hO hz hop (by omega) hev hmask I fun g' w' v hx hI hr=> ?_
    exact hK g' _ w' hx.toExtW (same g' w' v hx hI hr (.inl hA)) (zR _ _)
end
section
variable {P : Program} {Q : Exit → Act → World → Prop}
structure PermOf (ops ops':Array Oper) (pos:Nat→Nat):Prop where
 size:ops'.size=ops.size
 lt: ∀i,i<ops.size→pos i<ops.size
 out: ∀i,¬i<ops.size→pos i=i
 inj: ∀i j,i<ops.size→j<ops.size→pos i=pos j→i=j
 onto: ∀p,p<ops.size→ ∃i,i<ops.size∧pos i=p
 get: ∀i o,ops[i]? =some o→ops'[pos i]? =some (movedTo pos o)
theorem PermOf.get_none {ops ops':Array Oper} {pos:Nat→Nat} (h:PermOf ops ops' pos) {i:Nat} (hi:ops[i]? =none):ops'[pos i]? =none:=by
 have: ¬i<ops.size:=by simpa using hi
 rw[h.out i this]
 rw[Array.getElem?_eq_none_iff,h.size];omega
theorem PermOf.yielded {ops ops':Array Oper} {pos:Nat→Nat} (h:PermOf ops ops' pos) (tmps:Array Value) (g:Nat):yielded ops' tmps (pos g)=yielded ops tmps g:=by
 unfold Go.yielded
 cases hg:ops[g]? with
 |none=>rw[h.get_none hg]
 |some o=>rw[h.get g o hg];rfl
theorem PermOf.wanted {ops ops':Array Oper} {pos:Nat→Nat} (h:PermOf ops ops' pos) (tmps:Array Value) (o:Oper):Region.wanted (movedTo pos o) (Go.yielded ops' tmps)=Region.wanted o (Go.yielded ops tmps):=by
 unfold Region.wanted movedTo
 cases hg:o.guard with
 |none=>rfl
 |some g=>
  obtain⟨j,w⟩:=g
  simp only[w05,h.yielded]
theorem PermOf.wpOp {F:Fence} {N:Nat} {ops ops':Array Oper} {pos:Nat→Nat} (h:PermOf ops ops' pos) {i:Nat} {K:Act→World→Prop} {a:Act} {w:World} (hh:wpOpIn F N P ops' Q (pos i) K a w):wpOpIn F N P ops Q i K a w:=by
 unfold Go.wpOpIn at hh⊢
 cases hi:ops[i]? with
 |none=>
  rw[h.get_none hi] at hh
  exact hh
 |some o=>
  rw[h.get i o hi] at hh
  simp only at hh⊢
  rw[h.wanted] at hh
  exact hh
theorem v9 {ops:Array Oper} {listed:Array Bool} {i:Nat}:i∈Region.ready .any ops listed↔
  i<ops.size∧listed.getD i true=false∧ ∃o,ops[i]? =some o∧ ∀e∈o.after,Region.binds .any e=true→listed.getD e.on false=true:=by
 unfold Region.ready
 rw[List.mem_filter,List.mem_range]
 constructor
 ·rintro⟨h1,h2⟩
  simp only[w04,Bool.not_eq_true'] at h2
  refine⟨h1,h2.1,ops[i],w0a h1,fun e he hb=> ?_⟩
  have h3:=h2.2
  rw[w0a h1,w05,w15,Array.all_eq_true_iff_forall_mem] at h3
  have:=h3 e he
  rw[hb] at this
  simpa using this
 ·rintro⟨h1,h2,o,h3,h4⟩
  refine⟨h1,?_⟩
  simp only[w04,Bool.not_eq_true']
  refine⟨h2,?_⟩
  rw[h3,w05,w15,Array.all_eq_true_iff_forall_mem]
  intro e he
  cases hb:Region.binds .any e with
  |false=>rfl
  |true=>simp[h4 e he hb]
theorem PermOf.ready {ops ops':Array Oper} {pos:Nat→Nat} (h:PermOf ops ops' pos) {listed listed':Array Bool} (hs:listed.size=ops.size) (hs':listed'.size=ops.size) (hl: ∀i,i<ops.size→listed.getD i false=listed'.getD (pos i) false) {i:Nat} (hi:i<ops.size):
  i∈Region.ready .any ops listed→pos i∈Region.ready .any ops' listed':=by
 rw[v9,v9]
 have key: ∀e,listed.getD e false=listed'.getD (pos e) false:=by
  intro e
  by_cases he:e<ops.size
  ·exact hl e he
  ·rw[h.out e he,w06,w06,Array.getElem?_eq_none (by omega),Array.getElem?_eq_none (by omega)]
 rintro⟨h1,h2,o,h3,h4⟩
 refine⟨by rw[h.size];exact h.lt i h1,?_,_,h.get i o h3,fun e he hb=> ?_⟩
 ·have h5:=hl i h1
  have h6:=h.lt i h1
  rw[w06,w0a (by omega)] at h2
  rw[w06,w06,w0a (by omega),w0a (by omega)] at h5
  rw[w06,w0a (by omega)]
  simp only[w15] at h2 h5⊢
  rw[←h5];exact h2
 ·simp only[movedTo,Array.mem_map] at he
  obtain⟨e0,he0,rfl⟩:=he
  have hb0:Region.binds .any e0=true:=hb
  rw[←key]
  exact h4 e0 he0 hb0
theorem PermOf.ready_nil {ops ops':Array Oper} {pos:Nat→Nat} (h:PermOf ops ops' pos) {listed listed':Array Bool} (hs:listed.size=ops.size) (hs':listed'.size=ops.size) (hl: ∀i,i<ops.size→listed.getD i false=listed'.getD (pos i) false):
  Region.ready .any ops listed=[]→Region.ready .any ops' listed'=[]:=by
 intro hn
 rw[List.eq_nil_iff_forall_not_mem] at hn⊢
 intro p hp
 rw[v9] at hp
 obtain⟨h1,h2,o',h3,h4⟩:=hp
 rw[h.size] at h1
 obtain⟨i,hi,rfl⟩:=h.onto p h1
 have key: ∀e,listed.getD e false=listed'.getD (pos e) false:=by
  intro e
  by_cases he:e<ops.size
  ·exact hl e he
  ·rw[h.out e he,w06,w06,Array.getElem?_eq_none (by omega),Array.getElem?_eq_none (by omega)]
 refine hn i (v9.2 ⟨hi,?_,ops[i],w0a hi,fun e he hb=> ?_⟩)
 ·have h5:=hl i hi
  rw[w06,w0a (by omega)] at h2
  rw[w06,w06,w0a (by omega),w0a (by omega)] at h5
  rw[w06,w0a (by omega)]
  simp only[w15] at h2 h5⊢
  rw[h5];exact h2
 ·rw[h.get i _ (w0a hi)] at h3
  injection h3 with h3
  have:=h4 {e with on:=pos e.on} (by rw[←h3];simp only[movedTo,Array.mem_map];exact⟨e,he,rfl⟩) hb
  rw[key];exact this
theorem PermOf.wpAny {F:Fence} {N:Nat} {ops ops':Array Oper} {pos:Nat→Nat} (h:PermOf ops ops' pos): ∀(fuel:Nat) (listed listed':Array Bool) (a:Act) (w:World),listed.size=ops.size→listed'.size=ops.size→(∀i,i<ops.size→listed.getD i false=listed'.getD (pos i) false)→
  Go.wpAnyIn F N P .any ops' Q fuel listed' a w→Go.wpAnyIn F N P .any ops Q fuel listed a w
 |0,listed,listed',a,w,hs,hs',hl,hh=>by
  refine⟨?_,hh.2⟩
  rw[List.eq_nil_iff_forall_not_mem]
  intro i hi
  have hlt:=(v9.1 hi).1
  have:=h.ready hs hs' hl hlt hi
  rw[hh.1] at this;cases this
 |fuel+1,listed,listed',a,w,hs,hs',hl,hh=>by
  refine⟨fun hn=>hh.1 (h.ready_nil hs hs' hl hn),fun i hi=> ?_⟩
  have hlt:=(v9.1 hi).1
  refine h.wpOp (wpOpIn_mono (fun a' w' hk=> ?_) (hh.2 (pos i) (h.ready hs hs' hl hlt hi)))
  refine h.wpAny fuel _ _ a' w' (by simpa using hs) (by simpa using hs') (fun j hj=> ?_) hk
  rw[w06,w06]
  by_cases hij:i=j
  ·subst hij
   have:=h.lt i hlt
   rw[Array.getElem?_setIfInBounds_self_of_lt (by omega),Array.getElem?_setIfInBounds_self_of_lt (by omega)]
  ·rw[Array.getElem?_setIfInBounds_ne hij,Array.getElem?_setIfInBounds_ne (fun e=>hij (h.inj i j hlt hj e))]
   have:=hl j hj
   rw[w06,w06] at this
   exact this
theorem Vz (ops:Array Oper):(ordOf ops).Perm (List.range ops.size):=List.filter_append_perm _ _
theorem Vy (ops:Array Oper):PermOf ops (permOps ops) (posOf ops):=by
 have hp:=Vz ops
 have hlen:(ordOf ops).length=ops.size:=by rw[hp.length_eq];simp
 have hnd:(ordOf ops).Nodup:=hp.nodup_iff.2 List.nodup_range
 have hmem: ∀i,i∈ordOf ops↔i<ops.size:=fun i=>by rw[hp.mem_iff,List.mem_range]
 have hmap:((ordOf ops).filterMap fun i=>(ops[i]?).map (movedTo (posOf ops)))=(ordOf ops).map fun i=>movedTo (posOf ops) (ops.getD i default):=by
  have: ∀l:List Nat,(∀i∈l,i<ops.size)→(l.filterMap fun i=>(ops[i]?).map (movedTo (posOf ops)))=l.map fun i=>movedTo (posOf ops) (ops.getD i default):=by
   intro l
   induction l with
   |nil=>intro _;rfl
   |cons i r ih=>
    intro h
    have hi:=h i w28
    rw[List.filterMap_cons,w0a hi]
    simp only[w05,w1d]
    rw[ih fun j hj=>h j (w1c _ hj)]
    congr 2
    rw[w06,w0a hi];rfl
  exact this _ fun i hi=>(hmem i).1 hi
 have hpos: ∀i,i<ops.size→(ordOf ops)[posOf ops i]? =some i:=by
  intro i hi
  have:i∈ordOf ops:=(hmem i).2 hi
  unfold posOf
  rw[if_pos hi,w0b (List.idxOf_lt_length_of_mem this),List.getElem_idxOf (List.idxOf_lt_length_of_mem this)]
 have hlt: ∀i,i<ops.size→posOf ops i<ops.size:=by
  intro i hi
  have:=(w07.1 (hpos i hi)).1
  omega
 refine⟨by unfold permOps;rw[hmap];simp[hlen],hlt,fun i hi=>by unfold posOf;rw[if_neg hi],fun i j hi hj e=> ?_,fun p hp'=> ?_,fun i o ho=> ?_⟩
 ·have h1:=hpos i hi
  rw[e,hpos j hj] at h1
  injection h1 with h1
  exact h1.symm
 ·have hp2:p<(ordOf ops).length:=by omega
  refine⟨(ordOf ops)[p],(hmem _).1 (List.getElem_mem hp2),?_⟩
  have hi:(ordOf ops)[p]<ops.size:=(hmem _).1 (List.getElem_mem hp2)
  unfold posOf
  rw[if_pos hi]
  exact hnd.idxOf_getElem p hp2
 ·have hi:i<ops.size:=(w12.1 ho).1
  unfold permOps
  rw[hmap]
  rw[List.getElem?_toArray,w13,hpos i hi,w05]
  congr 2
  rw[w06,ho];rfl
end
end Go.Vs
end
