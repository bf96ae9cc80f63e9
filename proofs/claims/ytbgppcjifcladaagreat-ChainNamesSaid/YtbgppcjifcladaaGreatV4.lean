/-
  Part 5 of the proof, shared by claims of this seat: NVkb, NVkg, NVkh, NVki, C1Tie.
-/
import Derived.Test.YtbgppcjifcladaaGreatV3
import Derived.Test.YtbgppcjifcladaaGreatProg
import Derived.KernelRfl
set_option maxHeartbeats 64000000
set_option linter.unusedVariables false
set_option linter.unusedSimpArgs false
open Nat renaming zero_add → w19
open Option renaming map_eq_some_iff → w00, bind_eq_some_iff → w01, map_some → w04, getD_some → w13, bind_some → w17
open List renaming getD_eq_getElem?_getD → w02, getElem?_eq_getElem → w0a, getElem?_eq_none → w18, map_cons → w1c
open Bool renaming and_eq_true → w03
section
namespace Go.Vs
set_option linter.unusedSimpArgs false
set_option linter.unusedVariables false
structure KG (α β:Type) where
 run:α→β
structure KU (α β:Type) where
 run:(β→β)→α→α
structure N8 (α:Type) where
 mk::
 a0:α
 a1:α
 a2:α
 a3:α
 a4:α
 a5:α
 a6:α
 a7:α
noncomputable def g8 {α:Type} (j:Nat):KG (N8 α) α:=match j with
 |0=>⟨fun n=>n.a0⟩
 |1=>⟨fun n=>n.a1⟩
 |2=>⟨fun n=>n.a2⟩
 |3=>⟨fun n=>n.a3⟩
 |4=>⟨fun n=>n.a4⟩
 |5=>⟨fun n=>n.a5⟩
 |6=>⟨fun n=>n.a6⟩
 |_=>⟨fun n=>n.a7⟩
noncomputable def u8 {α:Type} (j:Nat):KU (N8 α) α:=match j with
 |0=>⟨fun f n=>N8.rec (fun a0 a1 a2 a3 a4 a5 a6 a7=>N8.mk (f a0) a1 a2 a3 a4 a5 a6 a7) n⟩
 |1=>⟨fun f n=>N8.rec (fun a0 a1 a2 a3 a4 a5 a6 a7=>N8.mk a0 (f a1) a2 a3 a4 a5 a6 a7) n⟩
 |2=>⟨fun f n=>N8.rec (fun a0 a1 a2 a3 a4 a5 a6 a7=>N8.mk a0 a1 (f a2) a3 a4 a5 a6 a7) n⟩
 |3=>⟨fun f n=>N8.rec (fun a0 a1 a2 a3 a4 a5 a6 a7=>N8.mk a0 a1 a2 (f a3) a4 a5 a6 a7) n⟩
 |4=>⟨fun f n=>N8.rec (fun a0 a1 a2 a3 a4 a5 a6 a7=>N8.mk a0 a1 a2 a3 (f a4) a5 a6 a7) n⟩
 |5=>⟨fun f n=>N8.rec (fun a0 a1 a2 a3 a4 a5 a6 a7=>N8.mk a0 a1 a2 a3 a4 (f a5) a6 a7) n⟩
 |6=>⟨fun f n=>N8.rec (fun a0 a1 a2 a3 a4 a5 a6 a7=>N8.mk a0 a1 a2 a3 a4 a5 (f a6) a7) n⟩
 |_=>⟨fun f n=>N8.rec (fun a0 a1 a2 a3 a4 a5 a6 a7=>N8.mk a0 a1 a2 a3 a4 a5 a6 (f a7)) n⟩
theorem z4n {α:Type} (f:α→α) (n:N8 α) (j k:Nat) (hj:j<8) (hk:k<8):(g8 k).run ((u8 j).run f n)=if k=j then f ((g8 k).run n) else(g8 k).run n:=by
 have h1:j=0∨j=1∨j=2∨j=3∨j=4∨j=5∨j=6∨j=7:=by omega
 have h2:k=0∨k=1∨k=2∨k=3∨k=4∨k=5∨k=6∨k=7:=by omega
 rcases h1 with rfl|rfl|rfl|rfl|rfl|rfl|rfl|rfl<;>rcases h2 with rfl|rfl|rfl|rfl|rfl|rfl|rfl|rfl<;>rfl
structure N16 (α:Type) where
 mk::
 a0:α
 a1:α
 a2:α
 a3:α
 a4:α
 a5:α
 a6:α
 a7:α
 a8:α
 a9:α
 a10:α
 a11:α
 a12:α
 a13:α
 a14:α
 a15:α
noncomputable def g16 {α:Type} (j:Nat):KG (N16 α) α:=match j with
 |0=>⟨fun n=>n.a0⟩
 |1=>⟨fun n=>n.a1⟩
 |2=>⟨fun n=>n.a2⟩
 |3=>⟨fun n=>n.a3⟩
 |4=>⟨fun n=>n.a4⟩
 |5=>⟨fun n=>n.a5⟩
 |6=>⟨fun n=>n.a6⟩
 |7=>⟨fun n=>n.a7⟩
 |8=>⟨fun n=>n.a8⟩
 |9=>⟨fun n=>n.a9⟩
 |10=>⟨fun n=>n.a10⟩
 |11=>⟨fun n=>n.a11⟩
 |12=>⟨fun n=>n.a12⟩
 |13=>⟨fun n=>n.a13⟩
 |14=>⟨fun n=>n.a14⟩
 |_=>⟨fun n=>n.a15⟩
noncomputable def u16 {α:Type} (j:Nat):KU (N16 α) α:=match j with
 |0=>⟨fun f n=>N16.rec (fun a0 a1 a2 a3 a4 a5 a6 a7 a8 a9 a10 a11 a12 a13 a14 a15=>N16.mk (f a0) a1 a2 a3 a4 a5 a6 a7 a8 a9 a10 a11 a12 a13 a14 a15) n⟩
 |1=>⟨fun f n=>N16.rec (fun a0 a1 a2 a3 a4 a5 a6 a7 a8 a9 a10 a11 a12 a13 a14 a15=>N16.mk a0 (f a1) a2 a3 a4 a5 a6 a7 a8 a9 a10 a11 a12 a13 a14 a15) n⟩
 |2=>⟨fun f n=>N16.rec (fun a0 a1 a2 a3 a4 a5 a6 a7 a8 a9 a10 a11 a12 a13 a14 a15=>N16.mk a0 a1 (f a2) a3 a4 a5 a6 a7 a8 a9 a10 a11 a12 a13 a14 a15) n⟩
 |3=>⟨fun f n=>N16.rec (fun a0 a1 a2 a3 a4 a5 a6 a7 a8 a9 a10 a11 a12 a13 a14 a15=>N16.mk a0 a1 a2 (f a3) a4 a5 a6 a7 a8 a9 a10 a11 a12 a13 a14 a15) n⟩
 |4=>⟨fun f n=>N16.rec (fun a0 a1 a2 a3 a4 a5 a6 a7 a8 a9 a10 a11 a12 a13 a14 a15=>N16.mk a0 a1 a2 a3 (f a4) a5 a6 a7 a8 a9 a10 a11 a12 a13 a14 a15) n⟩
 |5=>⟨fun f n=>N16.rec (fun a0 a1 a2 a3 a4 a5 a6 a7 a8 a9 a10 a11 a12 a13 a14 a15=>N16.mk a0 a1 a2 a3 a4 (f a5) a6 a7 a8 a9 a10 a11 a12 a13 a14 a15) n⟩
 |6=>⟨fun f n=>N16.rec (fun a0 a1 a2 a3 a4 a5 a6 a7 a8 a9 a10 a11 a12 a13 a14 a15=>N16.mk a0 a1 a2 a3 a4 a5 (f a6) a7 a8 a9 a10 a11 a12 a13 a14 a15) n⟩
 |7=>⟨fun f n=>N16.rec (fun a0 a1 a2 a3 a4 a5 a6 a7 a8 a9 a10 a11 a12 a13 a14 a15=>N16.mk a0 a1 a2 a3 a4 a5 a6 (f a7) a8 a9 a10 a11 a12 a13 a14 a15) n⟩
 |8=>⟨fun f n=>N16.rec (fun a0 a1 a2 a3 a4 a5 a6 a7 a8 a9 a10 a11 a12 a13 a14 a15=>N16.mk a0 a1 a2 a3 a4 a5 a6 a7 (f a8) a9 a10 a11 a12 a13 a14 a15) n⟩
 |9=>⟨fun f n=>N16.rec (fun a0 a1 a2 a3 a4 a5 a6 a7 a8 a9 a10 a11 a12 a13 a14 a15=>N16.mk a0 a1 a2 a3 a4 a5 a6 a7 a8 (f a9) a10 a11 a12 a13 a14 a15) n⟩
 |10=>⟨fun f n=>N16.rec (fun a0 a1 a2 a3 a4 a5 a6 a7 a8 a9 a10 a11 a12 a13 a14 a15=>N16.mk a0 a1 a2 a3 a4 a5 a6 a7 a8 a9 (f a10) a11 a12 a13 a14 a15) n⟩
 |11=>⟨fun f n=>N16.rec (fun a0 a1 a2 a3 a4 a5 a6 a7 a8 a9 a10 a11 a12 a13 a14 a15=>N16.mk a0 a1 a2 a3 a4 a5 a6 a7 a8 a9 a10 (f a11) a12 a13 a14 a15) n⟩
 |12=>⟨fun f n=>N16.rec (fun a0 a1 a2 a3 a4 a5 a6 a7 a8 a9 a10 a11 a12 a13 a14 a15=>N16.mk a0 a1 a2 a3 a4 a5 a6 a7 a8 a9 a10 a11 (f a12) a13 a14 a15) n⟩
 |13=>⟨fun f n=>N16.rec (fun a0 a1 a2 a3 a4 a5 a6 a7 a8 a9 a10 a11 a12 a13 a14 a15=>N16.mk a0 a1 a2 a3 a4 a5 a6 a7 a8 a9 a10 a11 a12 (f a13) a14 a15) n⟩
 |14=>⟨fun f n=>N16.rec (fun a0 a1 a2 a3 a4 a5 a6 a7 a8 a9 a10 a11 a12 a13 a14 a15=>N16.mk a0 a1 a2 a3 a4 a5 a6 a7 a8 a9 a10 a11 a12 a13 (f a14) a15) n⟩
 |_=>⟨fun f n=>N16.rec (fun a0 a1 a2 a3 a4 a5 a6 a7 a8 a9 a10 a11 a12 a13 a14 a15=>N16.mk a0 a1 a2 a3 a4 a5 a6 a7 a8 a9 a10 a11 a12 a13 a14 (f a15)) n⟩
theorem z42 {α:Type} (f:α→α) (n:N16 α) (j k:Nat) (hj:j<16) (hk:k<16):(g16 k).run ((u16 j).run f n)=if k=j then f ((g16 k).run n) else(g16 k).run n:=by
 have h1:j=0∨j=1∨j=2∨j=3∨j=4∨j=5∨j=6∨j=7∨j=8∨j=9∨j=10∨j=11∨j=12∨j=13∨j=14∨j=15:=by omega
 have h2:k=0∨k=1∨k=2∨k=3∨k=4∨k=5∨k=6∨k=7∨k=8∨k=9∨k=10∨k=11∨k=12∨k=13∨k=14∨k=15:=by omega
 rcases h1 with rfl|rfl|rfl|rfl|rfl|rfl|rfl|rfl|rfl|rfl|rfl|rfl|rfl|rfl|rfl|rfl<;>rcases h2 with rfl|rfl|rfl|rfl|rfl|rfl|rfl|rfl|rfl|rfl|rfl|rfl|rfl|rfl|rfl|rfl<;>rfl
abbrev Tr:=N16 (N8 (N8 AV))
noncomputable def kGet (i:Nat):KG Tr AV:=⟨fun t=>(g8 (i%8)).run ((g8 (i/8%8)).run ((g16 (i/64)).run t))⟩
noncomputable def kSetF (i:Nat):KU Tr AV:=⟨fun f t=>(u16 (i/64)).run (fun p=>(u8 (i/8%8)).run (fun q=>(u8 (i%8)).run f q) p) t⟩
theorem z2R (f:AV→AV) (t:Tr) (i j:Nat) (hi:i<1024) (hj:j<1024):(kGet j).run ((kSetF i).run f t)=if j=i then f ((kGet j).run t) else(kGet j).run t:=by
 unfold kGet kSetF
 simp only
 rw[z42 _ _ _ _ (by omega) (by omega)]
 by_cases h1:j/64=i/64
 ·rw[if_pos h1]
  try simp only
  rw[z4n _ _ _ _ (by omega) (by omega)]
  by_cases h2:j/8%8=i/8%8
  ·rw[if_pos h2]
   try simp only
   rw[z4n _ _ _ _ (by omega) (by omega)]
   by_cases h3:j%8=i%8
   ·rw[if_pos h3,if_pos (by omega)]
   ·rw[if_neg h3,if_neg (by intro h;exact h3 (by rw[h]))]
  ·rw[if_neg h2,if_neg (by intro h;exact h2 (by rw[h]))]
 ·rw[if_neg h1,if_neg (by intro h;exact h1 (by rw[h]))]
noncomputable def kNil8:N8 AV:=⟨.tup [],.tup [],.tup [],.tup [],.tup [],.tup [],.tup [],.tup []⟩
noncomputable def kNil64:N8 (N8 AV):=⟨kNil8,kNil8,kNil8,kNil8,kNil8,kNil8,kNil8,kNil8⟩
noncomputable def kNil:Tr:=⟨kNil64,kNil64,kNil64,kNil64,kNil64,kNil64,kNil64,kNil64,kNil64,kNil64,kNil64,kNil64,kNil64,kNil64,kNil64,kNil64⟩
theorem z41 (j:Nat):(g8 j).run kNil8= .tup []:=by unfold g8;split<;>rfl
theorem z33 (j:Nat):(g8 j).run kNil64=kNil8:=by unfold g8;split<;>rfl
theorem z43 (j:Nat):(g16 j).run kNil=kNil64:=by unfold g16;split<;>rfl
theorem z2S (i:Nat):(kGet i).run kNil= .tup []:=by unfold kGet;simp only[z43,z33,z41]
structure Fr (N:Nat) (ρ:List AV) (τ:Tr):Prop where
 len:ρ.length=N
 most:N≤1024
 get: ∀i,i<N→(kGet i).run τ=ρ.getD i (.tup [])
theorem Fr.put {N:Nat} {ρ:List AV} {τ:Tr} (h:Fr N ρ τ) {d:Nat} (hd:d<N) (v:AV):Fr N (ρ.set d v) ((kSetF d).run (fun _=>v) τ):=by
 have hm:=h.most
 have hl:=h.len
 refine⟨by simp[h.len],h.most,fun i hi=> ?_⟩
 rw[z2R _ _ _ _ (by omega) (by omega)]
 by_cases e:i=d
 ·subst e
  rw[if_pos rfl,w02,List.getElem?_set_self (by omega)];rfl
 ·rw[if_neg e,h.get i hi,w02,w02,List.getElem?_set_ne (by omega)]
noncomputable def kO (N:Nat):Opd→KG Tr AV
 | .t i=>Bool.rec ⟨fun _=> .tup []⟩ (kGet i) (Nat.ble (i+1) N)
 | .c v=>⟨fun _=>v⟩
theorem tR {N:Nat} {ρ:List AV} {τ:Tr} (h:Fr N ρ τ) (x:Opd):(kO N x).run τ=x.ev ρ:=by
 have hl:=h.len
 cases x with
 |c v=>rfl
 |t i=>
  unfold kO Opd.ev
  simp only
  rw[zB]
  by_cases e:i+1≤N
  ·rw[decide_eq_true e];exact h.get i (by omega)
  ·rw[decide_eq_false e,w02,w18 (by omega)];rfl
noncomputable def kOs (N:Nat):List Opd→KG Tr (List AV)
 | []=>⟨fun _=>[]⟩
 |x::r=>⟨fun τ=>(kO N x).run τ::(kOs N r).run τ⟩
theorem z2O {N:Nat} {ρ:List AV} {τ:Tr} (h:Fr N ρ τ) (l:List Opd):(kOs N l).run τ=l.map fun x=>x.ev ρ:=by
 induction l with
 |nil=>rfl
 |cons x r ih=>simp only[kOs,w1c,ih,tR h]
noncomputable def kOo (N:Nat):Option Opd→KG Tr (Option AV)
 |none=>⟨fun _=>none⟩
 |some x=>⟨fun τ=>some ((kO N x).run τ)⟩
theorem z4x {N:Nat} {ρ:List AV} {τ:Tr} (h:Fr N ρ τ) (l:Option Opd):(kOo N l).run τ=l.map fun x=>x.ev ρ:=by
 cases l with
 |none=>rfl
 |some x=>simp only[kOo,w04,tR h]
inductive KV where
 |no
 |ok (v:AV) (m:Mem)
def KV.toO:KV→Option (AV×Mem)
 | .no=>none
 | .ok v m=>some (v,m)
noncomputable def kPure (o:Option AV) (m:Mem):KV:=Option.rec .no (fun v=> .ok v m) o
theorem tQ (o:Option AV) (m:Mem):(kPure o m).toO=o.map fun v=>(v,m):=by cases o<;>rfl
noncomputable def kImp (o:Option (AV×Mem)):KV:=Option.rec .no (fun q=>Prod.rec (fun v m=> .ok v m) q) o
theorem Yh (o:Option (AV×Mem)):(kImp o).toO=o:=by rcases o with _|⟨v,m⟩<;>rfl
noncomputable def kForce {α:Type} (n:Nat) (k:Nat→α):α:=Nat.rec (motive:=fun _=>α) (k 0) (fun p _=>k (Nat.succ p)) n
theorem kI {α:Type} (n:Nat) (k:Nat→α):kForce n k=k n:=by cases n<;>rfl
noncomputable def kInt (k:IntKind) (n:Int) (m:Mem):KV:=Int.rec (fun a=>kForce a fun b=> .ok (.int k (.ofNat b)) m) (fun a=>kForce a fun b=> .ok (.int k (.negSucc b)) m) n
theorem Yg (k:IntKind) (n:Int) (m:Mem):kInt k n m= .ok (.int k n) m:=by
 cases n<;>(unfold kInt;simp only[kI])
noncomputable def kNew (m:Mem) (cs:List AV):KV:=
 Mem.rec (fun stk cur nx live floor=>kForce (kLen stk) fun l=>kForce (kLen cur) fun k=>kForce nx fun st=> .ok (.ptr l k st 0) ⟨stk,cur++[⟨st,cs⟩],Nat.succ st,live,floor⟩) m
theorem z1B (m:Mem) (cs:List AV):(kNew m cs).toO=some (m.new cs):=by
 cases m
 unfold kNew Mem.new
 simp only[kI,zH]
 rfl
noncomputable def kSt (m:Mem) (n:Nat) (a x:AV):KV:=
 match a with
 | .ptr l k st off=>Option.rec .no (fun cs=>Bool.rec .no (Bool.rec (.ok (.tup []) (m.putS l k st (kSplice cs off x.cells) x.toks)) (Mem.rec (fun stk cur nx live floor=> .ok (.tup []) ⟨stk,kSet cur k ⟨st,kSplice cs off x.cells⟩,nx,live,floor⟩) m) (Nat.beq l (kLen m.stk)))
   (kAnd (Nat.beq (kLen x.cells) n) (kAnd (allOne x.cells) (kAnd (Nat.ble (Nat.add off n) (kLen cs)) (kOr (Nat.ble m.floor l) (Nat.beq l (kLen m.stk))))))) (kBlk m l k st)
 |_=> .no
theorem z4v (m:Mem) (n:Nat) (a x:AV):(kSt m n a x).toO=evStore m n a x:=by
 rw[←z1X]
 unfold kSt kStore
 cases a<;>try rfl
 rename_i l k st off
 simp only
 cases kBlk m l k st with
 |none=>rfl
 |some cs=>
  simp only
  unfold kStoreP kPut
  generalize (kAnd (Nat.beq (kLen x.cells) n) (kAnd (allOne x.cells) (kAnd (Nat.ble (Nat.add off n) (kLen cs)) (kOr (Nat.ble m.floor l) (Nat.beq l (kLen m.stk))))))=b
  cases b with
  |false=>rfl
  |true=>
   simp only
   cases Nat.beq l (kLen m.stk) with
   |false=>rfl
   |true=>cases m;rfl
noncomputable def kBinV (op:BinOp) (x y:AV) (m:Mem):KV:=Option.rec .no (fun v=>match v with
 | .int k n=>kInt k n m
 |v=> .ok v m) (kBin op x y)
theorem z2U (op:BinOp) (x y:AV) (m:Mem):(kBinV op x y m).toO=(evBin op x y).map fun v=>(v,m):=by
 unfold kBinV
 rw[z3P]
 cases evBin op x y with
 |none=>rfl
 |some v=>cases v<;>first|rfl|(simp only[Yg];rfl)
structure KO where
 run:Oracle→Tr→Mem→KV
noncomputable def kX (N:Nat):XOp→KO
 | .bad=>⟨fun _ _ _=> .no⟩
 | .eqA neg n ls x y=>⟨fun _ τ m=>kImp (match (kO N x).run τ,(kO N y).run τ with
  | .agg xs,.agg ys=>if xs.length==n&&ys.length==n then(eqAt ls xs ys).map fun b=>(.bool (if neg then !b else b),m) else none
  |_,_=>none)⟩
 | .isNil neg kd x=>⟨fun _ τ m=>Option.rec .no (fun b=> .ok (.bool (Bool.rec b (kNot b) neg)) m) (nilOf kd ((kO N x).run τ))⟩
 | .wload agg n a=>⟨fun _ τ m=>kPure (kLoad agg n ((kO N a).run τ) m) m⟩
 | .nilChk x=>⟨fun _ τ m=>kPure (nilChkV ((kO N x).run τ)) m⟩
 | .mkmap=>⟨fun _ τ m=>kImp (some (.mapR m.stk.length m.cur.length m.nx,{m with cur:=m.cur++[⟨m.nx,[.tup []]⟩],nx:=m.nx+1}))⟩
 | .mget kk z x k=>⟨fun _ τ m=>kImp (match m.ents ((kO N x).run τ) with
  |some ps=>if isKey kk ((kO N k).run τ) then(mapGet kk z ((kO N k).run τ) ps).map fun v=>(v,m) else none
  |none=>none)⟩
 | .mput kk x k v=>⟨fun _ τ m=>kImp (evMput m kk ((kO N x).run τ) ((kO N k).run τ) ((kO N v).run τ))⟩
 | .copy s d x=>⟨fun _ τ m=>kImp (evCopy m s ((kO N d).run τ) ((kO N x).run τ))⟩
 | .litB s ps=>⟨fun _ τ m=>kImp (evLitB m s ((kOs N ps).run τ))⟩
 | .clr z x=>⟨fun _ τ m=>kImp (evClr m z ((kO N x).run τ))⟩
 | .appB _ s bytes x y=>⟨fun _ τ m=>kImp (evAppB m s bytes ((kO N x).run τ) ((kO N y).run τ))⟩
 | .appK s x y=>⟨fun _ τ m=>kImp (evAppK m s ((kO N x).run τ) ((kO N y).run τ))⟩
 | .slcB s x lo hi=>⟨fun _ τ m=>kImp (evSlcB m s ((kO N x).run τ) (lo.map fun p=>(kO N p).run τ) (hi.map fun p=>(kO N p).run τ))⟩
theorem z4W {N:Nat} {ρ:List AV} {τ:Tr} (h:Fr N ρ τ) (O:Oracle) (m:Mem) (e:XOp):((kX N e).run O τ m).toO=evX ρ m e:=by
 cases e<;>simp only[kX,evX,Yh,tQ,tR h,z2O h,X3]<;>try rfl
 ·rename_i neg kd x
  cases nilOf kd (x.ev ρ) with
  |none=>rfl
  |some b=>cases neg<;>cases b<;>rfl
 ·simp only[Option.map_bind];rfl
noncomputable def kBuild (N:Nat) (z:List AV) (τ:Tr):List (Nat×Nat×Opd)→Option (List AV)
 | []=>some z
 |(off,n,x)::r=>
  Bool.rec none (kBuild N (kSplice z off ((kO N x).run τ).cells) τ r) (kAnd (Nat.beq (kLen ((kO N x).run τ).cells) n) (Nat.ble (Nat.add off n) (kLen z)))
theorem Uo {N:Nat} {ρ:List AV} {τ:Tr} (h:Fr N ρ τ): ∀(ps:List (Nat×Nat×Opd)) (z:List AV),kBuild N z τ ps=evBuild z ρ ps
 | [],z=>rfl
 |(off,n,x)::r,z=>by
  unfold kBuild evBuild
  simp only[tR h]
  rw[uA,zH,zH,zB]
  have e:=(nbeq (x.ev ρ).cells.length n).symm
  have e3:Nat.add off n=off+n:=rfl
  rw[e,e3]
  by_cases hc:((x.ev ρ).cells.length==n&&decide (off+n≤z.length))=true
  ·rw[if_pos hc,hc]
   simp only
   rw[Uo h r]
   simp only[w03,beq_iff_eq,decide_eq_true_eq] at hc
   rw[YZ _ _ _ (by omega)]
  ·rw[if_neg hc,Bool.not_eq_true _|>.mp hc]
noncomputable def kOp (N:Nat):AOp→KO
 | .ext e=>⟨fun O τ m=>(kX N e).run O τ m⟩
 | .mov x=>⟨fun _ τ m=> .ok ((kO N x).run τ) m⟩
 | .pick c a b=>⟨fun _ τ m=>match (kO N c).run τ with| .bool t=> .ok (Bool.rec ((kO N b).run τ) ((kO N a).run τ) t) m|_=> .no⟩
 | .alloc z=>⟨fun _ _ m=>kNew m z⟩
 | .box n x=>⟨fun _ τ m=>Bool.rec .no (kNew m ((kO N x).run τ).cells) (Nat.beq (kLen ((kO N x).run τ).cells) n)⟩
 | .build z ps=>⟨fun _ τ m=>Option.rec .no (fun cs=> .ok (.agg cs) m) (kBuild N z τ ps)⟩
 | .lit s ps=>⟨fun _ τ m=>Bool.rec .no (.ok (.list s .full ((kOs N ps).run τ)) m) (allLen s ((kOs N ps).run τ))⟩
 | .load agg n a=>⟨fun _ τ m=>kPure (kLoad agg n ((kO N a).run τ) m) m⟩
 | .store n a x=>⟨fun _ τ m=>kSt m n ((kO N a).run τ) ((kO N x).run τ)⟩
 | .bin op x y=>⟨fun _ τ m=>kBinV op ((kO N x).run τ) ((kO N y).run τ) m⟩
 | .beq neg x y=>⟨fun _ τ m=>match (kO N x).run τ,(kO N y).run τ with| .bool a,.bool b=> .ok (.bool (if neg then !(a==b) else(a==b))) m|_,_=> .no⟩
 | .un op x=>⟨fun _ τ m=>kPure (evUn op ((kO N x).run τ)) m⟩
 | .conv k x=>⟨fun _ τ m=>match (kO N x).run τ with| .int _ n=>kInt k (kWrap k n) m|_=> .no⟩
 | .convS x=>⟨fun _ τ m=>match (kO N x).run τ with| .str b=> .ok (.str b) m|_=> .no⟩
 | .toStr x=>⟨fun _ τ m=>kPure (evToStr m ((kO N x).run τ)) m⟩
 | .toBytes x=>⟨fun _ τ m=>kImp (match (kO N x).run τ with
  | .str b=>if b.length≤140737488355328 then some (.list 1 (.id m.nx) (ofBytes b),{m with nx:=m.nx+1,live:=addTok m.nx m.live}) else none
  |_=>none)⟩
 | .mkfn f first caps=>⟨fun _ τ m=> .ok (.fn f ((kOs N first).run τ) ((kOs N caps).run τ)) m⟩
 | .faddr off a=>⟨fun _ τ m=>kPure (evFaddr off ((kO N a).run τ)) m⟩
 | .field agg n off x=>⟨fun _ τ m=>match (kO N x).run τ with| .agg cs=>kPure (kTakeV agg n (kDrop off cs)) m|_=> .no⟩
 | .iaddr s x i=>⟨fun _ τ m=>kPure (kIaddr s ((kO N x).run τ) ((kO N i).run τ)) m⟩
 | .iaddrA n s x i=>⟨fun _ τ m=>kPure (evIaddrA n s ((kO N x).run τ) ((kO N i).run τ)) m⟩
 | .indexS x i=>⟨fun _ τ m=>match (kO N x).run τ with| .str b=>Option.rec .no (fun j=>Option.rec .no (fun c=> .ok (.int .u8 (.ofNat c.toNat)) m) (kNth b j)) (kIdx ((kO N i).run τ) (kLen b))|_=> .no⟩
 | .indexA n s agg x i=>⟨fun _ τ m=>match (kO N x).run τ with| .agg cs=>Option.rec .no (fun j=>kPure (kTakeV agg s (kDrop (Nat.mul j s) cs)) m) (kIdx ((kO N i).run τ) n)|_=> .no⟩
 | .len x=>⟨fun _ τ m=>Option.rec .no (fun v=>match v with| .int k n=>kInt k n m|v=> .ok v m) (kLenV ((kO N x).run τ))⟩
 | .lenS x=>⟨fun _ τ m=>match (kO N x).run τ with
  | .str b=>kInt .i64 (.ofNat (kLen b)) m
  |_=> .no⟩
 | .app s bytes x y=>⟨fun _ τ m=>kImp (evApp m s bytes ((kO N x).run τ) ((kO N y).run τ))⟩
 | .mx x y=>⟨fun _ τ m=>kPure (evMax ((kO N x).run τ) ((kO N y).run τ)) m⟩
 | .mn x y=>⟨fun _ τ m=>kPure (evMin ((kO N x).run τ) ((kO N y).run τ)) m⟩
 | .slice s x lo hi mx=>⟨fun _ τ m=>kPure (evSlice s ((kO N x).run τ) ((kOo N lo).run τ) ((kOo N hi).run τ) ((kOo N mx).run τ)) m⟩
 | .sliceA n s x lo hi=>⟨fun _ τ m=>kPure (evSliceA n s ((kO N x).run τ) ((kOo N lo).run τ) ((kOo N hi).run τ)) m⟩
 | .sliceS x lo hi=>⟨fun _ τ m=>kPure (evSliceS ((kO N x).run τ) ((kOo N lo).run τ) ((kOo N hi).run τ)) m⟩
 | .make s bytes z n c=>⟨fun _ τ m=>kImp (evMake m s bytes z ((kO N n).run τ) ((kO N c).run τ))⟩
 | .extract x i=>⟨fun _ τ m=>match (kO N x).run τ with| .tup vs=>kPure (kNth vs i) m|_=> .no⟩
 | .call f args=>⟨fun O τ m=>kImp (evCall O m ((kO N f).run τ) ((kOs N args).run τ))⟩
theorem z2P {N:Nat} {ρ:List AV} {τ:Tr} (h:Fr N ρ τ) (O:Oracle) (m:Mem) (e:AOp):((kOp N e).run O τ m).toO=evOp O ρ m e:=by
 cases e<;>simp only[kOp,evOp,Yh,tQ,tR h,z2O h,z4x h,X3,z4v,z2U,z1B,z4W h,Uo h,z21,zH,z2Q,Ye,QC,kH,Yi]<;>try rfl
 ·rename_i c a b
  cases c.ev ρ<;>try rfl
  rename_i t
  cases t<;>rfl
 ·rename_i n x
  rw[←nbeq]
  cases (x.ev ρ).cells.length==n with
  |false=>rfl
  |true=>exact z1B _ _
 ·rename_i z ps
  cases evBuild z ρ ps<;>rfl
 ·rename_i s ps
  cases allLen s (ps.map fun x=>x.ev ρ)<;>rfl
 ·simp only[Option.map_bind];rfl
 ·rename_i neg x y
  cases x.ev ρ<;>try rfl
  cases y.ev ρ<;>rfl
 ·rename_i k x
  cases x.ev ρ<;>try rfl
  simp only[Yg,YX];rfl
 ·rename_i x
  cases x.ev ρ<;>rfl
 ·rename_i agg n off x
  cases x.ev ρ<;>try rfl
  exact tQ _ _
 ·rename_i x i
  cases x.ev ρ<;>try rfl
  rename_i b
  simp only
  cases idx (i.ev ρ) b.length with
  |none=>rfl
  |some j=>
   simp only[w17]
   cases b[j]? <;>rfl
 ·rename_i n s agg x i
  cases x.ev ρ<;>try rfl
  rename_i b
  simp only
  cases idx (i.ev ρ) n with
  |none=>rfl
  |some j=>
   simp only[w17]
   exact tQ _ _
 ·rename_i x
  cases evLen (x.ev ρ) with
  |none=>rfl
  |some v=>cases v<;>first|rfl|(simp only[Yg];rfl)
 ·rename_i x
  cases x.ev ρ<;>try rfl
  simp only[Yg];rfl
 ·rename_i x i
  cases x.ev ρ<;>try rfl
  exact tQ _ _
inductive KR where
 |no
 |ok (τ:Tr) (m:Mem)
def KR.Is (N:Nat) (k:KR) (o:Option St):Prop:= ∀τ m,k= .ok τ m→ ∃ρ,Fr N ρ τ∧o=some ⟨ρ,m⟩
structure KOp where
 run:Oracle→Tr→Mem→KR
noncomputable def kDst (d:Nat) (τ:Tr) (r:KV):KR:=KV.rec .no (fun v m=> .ok ((kSetF d).run (fun _=>v) τ) m) r
noncomputable def kSkip (τ:Tr) (r:KV):KR:=KV.rec .no (fun _ m=> .ok τ m) r
noncomputable def kDstO (N:Nat):Option Nat→Tr→KV→KR
 |some d,τ,r=>Bool.rec .no (kDst d τ r) (Nat.ble (d+1) N)
 |none,τ,r=>kSkip τ r
theorem X5 {N:Nat} {ρ:List AV} {τ:Tr} (h:Fr N ρ τ) (d:Option Nat) {r:KV} {o:Option (AV×Mem)} (hr:r.toO=o):(kDstO N d τ r).Is N (o.map fun r=>⟨setDst ρ d r.1,r.2⟩):=by
 intro τ' m' e
 subst hr
 cases d with
 |none=>
  cases r with
  |no=>cases e
  |ok v m=>injection e with e1 e2;subst e1;subst e2;exact⟨ρ,h,rfl⟩
 |some d=>
  unfold kDstO at e
  simp only at e
  rw[zB] at e
  by_cases hd:d+1≤N
  ·rw[decide_eq_true hd] at e
   cases r with
   |no=>cases e
   |ok v m=>injection e with e1 e2;subst e1;subst e2;exact⟨_,h.put hd v,rfl⟩
  ·rw[decide_eq_false hd] at e;cases e
noncomputable def kWanted (N:Nat) (τ:Tr) (g:Nat) (want:Bool):Option Bool:=
 Bool.rec none (match (kGet g).run τ with
  | .bool b=>some (Bool.rec (kNot b) b want)
  | .tup []=>some false
  |_=>none) (Nat.ble (g+1) N)
theorem YY {N:Nat} {ρ:List AV} {τ:Tr} (h:Fr N ρ τ) (g:Nat) (want:Bool):kWanted N τ g want=wanted ρ (some (g,want)):=by
 have hl:=h.len
 unfold kWanted wanted
 rw[zB]
 by_cases hg:g+1≤N
 ·rw[decide_eq_true hg]
  simp only
  rw[h.get g (by omega)]
  have e:ρ.getD g (.tup [])=ρ.getD g .undef:=by simp only[w02,w0a (show g<ρ.length by omega),w13]
  rw[e]
  cases ρ.getD g .undef<;>try rfl
  ·rename_i b
   cases b<;>cases want<;>rfl
  ·rename_i vs
   cases vs<;>rfl
 ·rw[decide_eq_false hg]
  have e:ρ.getD g .undef= .undef:=by rw[w02,w18 (by omega)];rfl
  simp only[e]
noncomputable def kOper (N:Nat):AOper→KOp
 |⟨d,op,none,_⟩=>⟨fun O τ m=>kDstO N d τ ((kOp N op).run O τ m)⟩
 |⟨d,op,some (g,want),_⟩=>⟨fun O τ m=>match kWanted N τ g want with
  |some true=>kDstO N d τ ((kOp N op).run O τ m)
  |some false=>kDstO N d τ (.ok (.tup []) m)
  |none=> .no⟩
theorem jT {N:Nat} {ρ:List AV} {τ:Tr} (h:Fr N ρ τ) (O:Oracle) (m:Mem) (o:AOper):((kOper N o).run O τ m).Is N (evOper O o ⟨ρ,m⟩):=by
 obtain⟨d,op,g,flt⟩:=o
 cases g with
 |none=>exact X5 h d (z2P h O m op)
 |some g=>
  obtain⟨g,want⟩:=g
  unfold kOper evOper
  simp only
  rw[YY h]
  cases wanted ρ (some (g,want)) with
  |none=>intro τ' m' e;cases e
  |some b=>cases b with
   |true=>exact X5 h d (z2P h O m op)
   |false=>exact X5 h d (r:= .ok (.tup []) m) rfl
noncomputable def kOps (N:Nat):List AOper→KOp
 | []=>⟨fun _ τ m=> .ok τ m⟩
 |o::r=>⟨fun O τ m=>KR.rec .no (fun τ' m'=>(kOps N r).run O τ' m') ((kOper N o).run O τ m)⟩
theorem z1A {N:Nat} (O:Oracle): ∀(l:List AOper) {ρ:List AV} {τ:Tr} (h:Fr N ρ τ) (m:Mem),((kOps N l).run O τ m).Is N (evOps O l ⟨ρ,m⟩)
 | [],ρ,τ,h,m=>by intro τ' m' e;injection e with e1 e2;subst e1;subst e2;exact⟨ρ,h,rfl⟩
 |o::l,ρ,τ,h,m=>by
  intro τ' m' e
  have k:=jT h O m o
  unfold kOps at e
  simp only at e
  cases hk:(kOper N o).run O τ m with
  |no=>rw[hk] at e;cases e
  |ok τ1 m1=>
   rw[hk] at e
   obtain⟨ρ1,h1,e1⟩:=k τ1 m1 hk
   simp only[evOps,e1,w17]
   exact z1A O l h1 m1 τ' m' e
noncomputable def kWatch (N:Nat) (τ:Tr) (m0:Mem) (op:AOp) (ws:Watch):Watch:=
 match op with
 | .ext (.wload _ n a)=>match (kO N a).run τ with
  | .ptr l k st off=>(l,k,off,n,((m0.at (.ptr l k st off)).getD []).take n)::ws
  |_=>ws
 |_=>ws
noncomputable def kClear (N:Nat) (τ:Tr) (op:AOp) (ws:Watch):Bool:=
 match op with
 | .store n a x=>match (kO N a).run τ with
  | .ptr l k _ off=>ws.all fun w=>w.1 !=l||w.2.1 !=k||decide (off+n≤w.2.2.1)||decide (w.2.2.1+w.2.2.2.1≤off)||(decide (off=w.2.2.1)&&same ((kO N x).run τ).cells w.2.2.2.2)
  |_=>true
 | .ext (.mput _ _ _ _)| .ext (.copy _ _ _)| .ext (.clr _ _)=>false
 | .ext (.appK _ _ _)=>ws.isEmpty
 | .ext (.appB _ _ _ x _)=>match (kO N x).run τ with
  | .grow _ l k _ _=>ws.all fun w=>w.1 !=l||w.2.1 !=k
  |_=>true
 |_=>true
noncomputable def kWant (N:Nat) (τ:Tr):Option (Nat×Bool)→Option Bool
 |none=>some true
 |some (g,want)=>kWanted N τ g want
theorem Qz {N:Nat} {ρ:List AV} {τ:Tr} (h:Fr N ρ τ) (g:Option (Nat×Bool)):kWant N τ g=wanted ρ g:=by
 cases g with
 |none=>rfl
 |some g=>exact YY h _ _
noncomputable def kWatchG (N:Nat) (τ:Tr) (m0:Mem) (o:AOper) (ws:Watch):Watch:=
 match kWant N τ o.guard with
 |some true=>kWatch N τ m0 o.op ws
 |_=>ws
theorem z0O {N:Nat} {ρ:List AV} {τ:Tr} (h:Fr N ρ τ) (m0:Mem) (o:AOper) (ws:Watch):kWatchG N τ m0 o ws=watchG ρ m0 o ws:=by
 unfold kWatchG watchG kWatch watch
 rw[Qz h]
 simp only[tR h]
 rfl
noncomputable def kClearG (N:Nat) (τ:Tr) (o:AOper) (ws:Watch):Bool:=
 match ws with
 | []=>match o.op with
  | .store _ _ _=>true
  |_=>(match kWant N τ o.guard with
   |some true=>kClear N τ o.op []
   |_=>true)
 |w::r=>match kWant N τ o.guard with
  |some true=>kClear N τ o.op (w::r)
  |_=>true
theorem z23 {N:Nat} {ρ:List AV} {τ:Tr} (h:Fr N ρ τ) (op:AOp) (ws:Watch):kClear N τ op ws=clear ρ op ws:=by
 unfold kClear clear
 simp only[tR h]
 rfl
theorem z0P {N:Nat} {ρ:List AV} {τ:Tr} (h:Fr N ρ τ) (o:AOper) (ws:Watch):kClearG N τ o ws=clearG ρ o ws:=by
 unfold kClearG clearG
 simp only[Qz h,z23 h]
 cases ws with
 |cons w r=>rfl
 |nil=>
  simp only
  split
  ·rename_i a b c e
   rw[e]
   split
   ·unfold clear
    simp only
    split<;>rfl
   ·rfl
  ·rfl
structure KD where
 run:Oracle→Mem→Watch→Tr→Mem→KR
noncomputable def kFloor (f:Nat) (m:Mem):Mem:=Mem.rec (fun stk cur nx live _=>⟨stk,cur,nx,live,f⟩) m
theorem Un (f:Nat) (m:Mem):kFloor f m={m with floor:=f}:=by cases m;rfl
noncomputable def kDraw (N:Nat):List AOper→KD
 | []=>⟨fun _ _ _ τ m=> .ok τ m⟩
 |o::r=>match o.flt with
  |true=>⟨fun O m0 ws τ m=>KR.rec .no (fun τ' _=>(kDraw N r).run O m0 (kWatchG N τ m0 o ws) τ' m) ((kOper N o).run O τ m0)⟩
  |false=>match o.op.isStore with
   |true=>⟨fun O m0 ws τ m=>Bool.rec .no (KR.rec .no (fun τ' m'=>(kDraw N r).run O m0 ws τ' (kFloor m.floor m')) ((kOper N o).run O τ (kFloor m0.floor m))) (kClearG N τ o ws)⟩
   |false=>⟨fun O m0 ws τ m=>KR.rec .no (fun τ' m'=>(kDraw N r).run O m0 ws τ' m') ((kOper N o).run O τ m)⟩
theorem jV {N:Nat} (O:Oracle) (m0:Mem): ∀(l:List AOper) {ρ:List AV} {τ:Tr} (h:Fr N ρ τ) (ws:Watch) (m:Mem),((kDraw N l).run O m0 ws τ m).Is N (evDraw O m0 ws l ⟨ρ,m⟩)
 | [],ρ,τ,h,ws,m=>by intro τ' m' e;injection e with e1 e2;subst e1;subst e2;exact⟨ρ,h,rfl⟩
 |o::l,ρ,τ,h,ws,m=>by
  intro τ' m' e
  unfold kDraw at e
  unfold evDraw
  cases hf:o.flt with
  |true=>
   rw[hf] at e
   simp only at e⊢
   have k:=jT h O m0 o
   cases hk:(kOper N o).run O τ m0 with
   |no=>rw[hk] at e;cases e
   |ok τ1 m1=>
    rw[hk] at e
    obtain⟨ρ1,h1,e1⟩:=k τ1 m1 hk
    rw[e1]
    simp only at e⊢
    rw[z0O h] at e
    exact jV O m0 l h1 _ m τ' m' e
  |false=>
   rw[hf] at e
   simp only at e⊢
   cases hs:o.op.isStore with
   |true=>
    rw[hs] at e
    simp only at e⊢
    rw[z0P h] at e
    cases hc:clearG ρ o ws with
    |false=>rw[hc] at e;cases e
    |true=>
     rw[hc] at e
     simp only[Un] at e⊢
     have k:=jT h O {m with floor:=m0.floor} o
     cases hk:(kOper N o).run O τ {m with floor:=m0.floor} with
     |no=>rw[hk] at e;cases e
     |ok τ1 m1=>
      rw[hk] at e
      obtain⟨ρ1,h1,e1⟩:=k τ1 m1 hk
      rw[e1]
      exact jV O m0 l h1 _ _ τ' m' e
   |false=>
    rw[hs] at e
    simp only at e⊢
    have k:=jT h O m o
    cases hk:(kOper N o).run O τ m with
    |no=>rw[hk] at e;cases e
    |ok τ1 m1=>
     rw[hk] at e
     obtain⟨ρ1,h1,e1⟩:=k τ1 m1 hk
     rw[e1]
     exact jV O m0 l h1 _ _ τ' m' e
inductive KE where
 |no
 |nrm (τ:Tr) (m:Mem)
 |ret (τ:Tr) (m:Mem)
 |exit (i:Nat) (τ:Tr) (m:Mem)
 |goto (i:Nat) (τ:Tr) (m:Mem)
def KE.Is (N:Nat) (o:Option (Out×St)):KE→Prop
 | .no=>True
 | .nrm τ m=> ∃ρ,Fr N ρ τ∧o=some (.normal,⟨ρ,m⟩)
 | .ret τ m=> ∃ρ,Fr N ρ τ∧o=some (.ret,⟨ρ,m⟩)
 | .exit i τ m=> ∃ρ,Fr N ρ τ∧o=some (.exit i,⟨ρ,m⟩)
 | .goto i τ m=> ∃ρ,Fr N ρ τ∧o=some (.goto i,⟨ρ,m⟩)
structure KC where
 run:Ora→Nat→Tr→Mem→KE
noncomputable def kIter (f:Tr→Mem→KE) (n:Nat):Tr→Mem→KE:=
 Nat.rec (motive:=fun _=>Tr→Mem→KE) (fun _ _=> .no) (fun _ ih τ m=>KE.rec .no (fun τ' m'=>ih τ' m') (fun τ' m'=> .ret τ' m') (fun i τ' m'=> .exit i τ' m') (fun i τ' m'=> .goto i τ' m') (f τ m)) n
noncomputable def kCut (nb:Nat) (m:Mem) (k:Mem→KE):KE:=
 Mem.rec (fun stk cur nx live floor=>Bool.rec (k ⟨stk,cur.take nb,nx,live,floor⟩) (k ⟨stk,cur,nx,live,floor⟩) (Nat.ble (kLen cur) nb)) m
theorem z1C (nb:Nat) (m:Mem) (k:Mem→KE):kCut nb m k=k {m with cur:=m.cur.take nb}:=by
 cases m with
 |mk stk cur nx live floor=>
  unfold kCut
  simp only
  rw[zH,zB]
  by_cases h:cur.length≤nb
  ·rw[decide_eq_true h,List.take_of_length_le h]
  ·rw[decide_eq_false h]
def loopKind (live:List Nat):Nat:=if live.head? =some 777777∨live.head? =some 888888 then 0 else if live.contains 999999 then 1 else 2
noncomputable def kMax (a b:Nat):Nat:=Bool.rec a b (Nat.ble a b)
theorem z3N (a b:Nat):kMax a b=max a b:=by
 unfold kMax
 rw[zB]
 by_cases h:a≤b
 ·rw[decide_eq_true h];show b=_;omega
 ·rw[decide_eq_false h];show a=_;omega
noncomputable def kSetAll (N:Nat):List Nat→List AV→Tr→Tr
 |p::ps,x::xs,τ=>kSetAll N ps xs (Bool.rec τ ((kSetF p).run (fun _=>x) τ) (Nat.ble (p+1) N))
 |_,_,τ=>τ
theorem X0 {N:Nat}: ∀(ps:List Nat) (xs:List AV) {ρ:List AV} {τ:Tr},Fr N ρ τ→Fr N (setAll ρ ps xs) (kSetAll N ps xs τ)
 | [],xs,ρ,τ,h=>by simp only[setAll,kSetAll];exact h
 |p::ps,[],ρ,τ,h=>by simp only[setAll,kSetAll];exact h
 |p::ps,x::xs,ρ,τ,h=>by
  simp only[setAll,kSetAll]
  refine X0 ps xs ?_
  rw[zB]
  by_cases hp:p+1≤N
  ·rw[decide_eq_true hp];exact h.put hp x
  ·rw[decide_eq_false hp,List.set_eq_of_length_le (by have:=h.len;omega)];exact h
noncomputable def kScope (run:Tr→Mem→KE) (from_:Nat→Tr→Mem→KE) (has:Nat→Bool) (n:Nat):Option Nat→Tr→Mem→KE:=
 Nat.rec (motive:=fun _=>Option Nat→Tr→Mem→KE) (fun _ _ _=> .no) (fun _ ih s τ m=>
  KE.rec .no (fun τ' m'=> .nrm τ' m') (fun τ' m'=> .ret τ' m') (fun i τ' m'=> .exit i τ' m') (fun i τ' m'=>Bool.rec (.goto i τ' m') (ih (some i) τ' m') (has i)) (match s with|none=>run τ m|some l=>from_ l τ m)) n
def KE.out:KE→Option (Nat×Mem)
 | .nrm _ m=>some (0,m)
 | .ret _ m=>some (2,m)
 | .exit i _ m=>some (3+i,m)
 |_=>none
noncomputable def kRound (N:Nat) (RA RB:Tr→Mem→KE) (ps:List Nat) (τ:Tr) (l k st:Nat) (aS:List AV) (m:Mem):Option (AV×Mem):=
 if loopSt m l k st=some 0∧aS.length=ps.length∧m.floor≤l∧l≤m.stk.length then
  match RA (kSetAll N ps aS τ) (enter m) with
  | .nrm τ1 m1=>if loopSt m1 l k st=some 0 then
    match (RB τ1 (m1.put l k st [.int .i64 (.ofNat 1)])).out with
    |some (n,m2)=>if loopSt m2 l k st=some 1 then leave m (m2.put l k st [.int .i64 (.ofNat n)]) (.bool (n==0)) else none
    |none=>none
   else none
  |_=>none
 else none
noncomputable def kYield (N:Nat) (RA RB:Tr→Mem→KE) (ps:List Nat) (τ:Tr) (l k st:Nat):YH:=fun args m=>
 match args with
 | .yld l' k' st'::aS=>if l'=l∧k'=k∧st'=st then kRound N RA RB ps τ l k st aS m else none
 |_=>none
noncomputable def kOutOf (n:Nat) (τ:Tr) (m:Mem):KE:=match n with
 |0=> .nrm τ m
 |1=> .no
 |2=> .ret τ m
 |n+3=> .exit n τ m
noncomputable def kRange (N:Nat) (I:YH→Oracle) (RA RB:Tr→Mem→KE) (f:AV) (ps:List Nat) (τ:Tr) (m:Mem):KE:=
 match f with
 | .fn (.func g) [] caps=>
  match I (kYield N RA RB ps τ m.stk.length m.cur.length m.nx) (some g) (.yld m.stk.length m.cur.length m.nx::caps) {m with cur:=m.cur++[⟨m.nx,[.int .i64 (.ofNat 0)]⟩],nx:=m.nx+1} with
  |some (_,m2)=>match loopSt m2 m.stk.length m.cur.length m.nx with
   |some n=>kOutOf n τ (m2.put m.stk.length m.cur.length m.nx [.int .i64 (.ofNat 1)])
   |none=> .no
  |none=> .no
 |_=> .no
mutual
noncomputable def kC (N:Nat):ACode→KC
 | .bad=>⟨fun _ _ _ _=> .no⟩
 | .const _=>⟨fun _ _ _ _=> .no⟩
 | .skip=>⟨fun _ _ τ m=> .nrm τ m⟩
 | .ret=>⟨fun _ _ τ m=> .ret τ m⟩
 | .exit id=>⟨fun _ _ τ m=> .exit id τ m⟩
 | .ops l=>⟨fun O _ τ m=>KR.rec .no (fun τ' m'=> .nrm τ' m') ((kOps N l).run O.call τ m)⟩
 | .draw l=>⟨fun O _ τ m=>KR.rec .no (fun τ' m'=> .nrm τ' (kFloor m.floor m')) ((kDraw N l).run O.call m [] τ (kFloor (kMax m.floor (Nat.add (kLen m.stk) 1)) m))⟩
 | .seq a b=>⟨fun O n τ m=>KE.rec .no (fun τ' m'=>(kC N b).run O n τ' m') (fun τ' m'=> .ret τ' m') (fun i τ' m'=> .exit i τ' m') (fun i τ' m'=> .goto i τ' m') ((kC N a).run O n τ m)⟩
 | .cond c a b=>⟨fun O n τ m=>match (kO N c).run τ with
  | .bool t=>Bool.rec ((kC N b).run O n τ m) ((kC N a).run O n τ m) t
  |_=> .no⟩
 | .block id a=>⟨fun O n τ m=>KE.rec .no (fun τ' m'=> .nrm τ' m') (fun τ' m'=> .ret τ' m') (fun i τ' m'=>Bool.rec (.exit i τ' m') (.nrm τ' m') (Nat.beq i id)) (fun i τ' m'=> .goto i τ' m') ((kC N a).run O n τ m)⟩
 | .loop live a=>match loopKind live with
  |0=>⟨fun _ _ _ _=> .no⟩
  |1=>⟨fun O n τ m=>kIter (fun τ m=>(kC N a).run O n τ m) n τ m⟩
  |_=>⟨fun O n τ m=>kForce (kLen m.cur) fun nb=>kIter (fun τ m=>kCut nb m fun m'=>(kC N a).run O n τ m') n τ m⟩
 | .scope a=>⟨fun O n τ m=>kScope (fun τ m=>(kC N a).run O n τ m) (fun l τ m=>(kCF N a l).run O n τ m) (hasLbl a) n none τ m⟩
 | .label _=>⟨fun _ _ τ m=> .nrm τ m⟩
 | .goto l=>⟨fun _ _ τ m=> .goto l τ m⟩
 | .frz _=>⟨fun _ _ _ _=> .no⟩
 | .rangeF f ps a b=>⟨fun O n τ m=>kRange N O.iter (fun τ m=>(kC N a).run O n τ m) (fun τ m=>(kC N b).run O n τ m) ((kO N f).run τ) ps τ m⟩
noncomputable def kCF (N:Nat):ACode→Nat→KC
 | .seq a b,l=>Bool.rec (kCF N b l) ⟨fun O n τ m=>KE.rec .no (fun τ' m'=>(kC N b).run O n τ' m') (fun τ' m'=> .ret τ' m') (fun i τ' m'=> .exit i τ' m') (fun i τ' m'=> .goto i τ' m') ((kCF N a l).run O n τ m)⟩ (hasLbl a l)
 | .label _,_=>⟨fun _ _ τ m=> .nrm τ m⟩
 |_,_=>⟨fun _ _ _ _=> .no⟩
end
def ren (N:Nat) (l:List Nat):List Nat:=if l.head? =some 777777∨l.head? =some 888888 then l else if l.contains 999999 then List.range N++[999999] else List.range N
def relive (N:Nat):ACode→ACode
 | .seq a b=> .seq (relive N a) (relive N b)
 | .cond c a b=> .cond c (relive N a) (relive N b)
 | .block id a=> .block id (relive N a)
 | .loop live a=> .loop (ren N live) (relive N a)
 | .bad=> .bad
 | .const v=> .const v
 | .skip=> .skip
 | .ret=> .ret
 | .exit i=> .exit i
 | .ops l=> .ops l
 | .draw l=> .draw l
 | .scope a=> .scope (relive N a)
 | .label l=> .label l
 | .goto l=> .goto l
 | .rangeF f ps a b=> .rangeF f ps (relive N a) (relive N b)
 | .frz ts=> .frz ts
theorem xi (N:Nat): ∀(c:ACode) (l:Nat),hasLbl (relive N c) l=hasLbl c l
 | .seq a b,l=>by simp only[relive,hasLbl,xi N a l,xi N b l]
 | .cond _ _ _,_| .block _ _,_| .loop _ _,_| .bad,_| .const _,_| .skip,_| .ret,_| .exit _,_| .ops _,_| .draw _,_| .scope _,_| .label _,_| .goto _,_| .rangeF _ _ _ _,_| .frz _,_=>rfl
theorem zk (N:Nat): ∀(c:ACode),noRange (relive N c)=noRange c
 | .seq a b=>by simp only[relive,noRange,zk N a,zk N b]
 | .cond _ a b=>by simp only[relive,noRange,zk N a,zk N b]
 | .block _ a=>by simp only[relive,noRange,zk N a]
 | .loop _ a=>by simp only[relive,noRange,zk N a]
 | .scope a=>by simp only[relive,noRange,zk N a]
 | .bad| .const _| .skip| .ret| .exit _| .ops _| .draw _| .label _| .goto _| .rangeF _ _ _ _| .frz _=>rfl
theorem ue {N:Nat} {l:List Nat} (hl: ∀i,i<N→l.contains i=true) {ρ:List AV} (h:ρ.length=N):clean l ρ=ρ:=by
 unfold clean
 refine List.ext_getElem (by simp) fun i h1 h2=> ?_
 rw[List.getElem_map,List.getElem_zipIdx]
 simp only[w19]
 rw[if_pos (hl i (by omega))]
theorem Uc (N i:Nat) (h:i<N):(List.range N).contains i=true:=by simp[h]
theorem z1Z {N:Nat} {RA RB:Tr→Mem→KE} {SA SB:St→Option (Out×St)} (hA: ∀{ρ τ} (h:Fr N ρ τ) m,(RA τ m).Is N (SA ⟨ρ,m⟩)) (hB: ∀{ρ τ} (h:Fr N ρ τ) m,(RB τ m).Is N (SB ⟨ρ,m⟩)) {ps:List Nat} {ρ:List AV} {τ:Tr} (h:Fr N ρ τ) {l k st:Nat} {aS:List AV} {m:Mem} {r:AV×Mem}
  (hr:kRound N RA RB ps τ l k st aS m=some r):roundV SA SB ps ρ l k st aS m=some r:=by
 unfold kRound at hr
 unfold roundV
 split at hr
 ·rename_i hc
  rw[if_pos hc]
  have kA:=hA (X0 ps aS h) (enter m)
  split at hr
  ·rename_i τ1 m1 hRA
   rw[hRA] at kA
   obtain⟨ρ1,h1,e1⟩:=kA
   rw[e1]
   simp only
   split at hr
   ·rename_i hs
    rw[if_pos hs]
    have kB:=hB h1 (m1.put l k st [.int .i64 (.ofNat 1)])
    generalize RB τ1 (m1.put l k st [.int .i64 (.ofNat 1)])=z at hr kB
    cases z with
    |no=>cases hr
    |goto i τ2 m2=>cases hr
    |nrm τ2 m2=>obtain⟨ρ2,_,e2⟩:=kB;rw[e2];exact hr
    |ret τ2 m2=>obtain⟨ρ2,_,e2⟩:=kB;rw[e2];exact hr
    |exit i τ2 m2=>obtain⟨ρ2,_,e2⟩:=kB;rw[e2];exact hr
   ·cases hr
  ·cases hr
 ·cases hr
theorem z20 {N:Nat} {I I':YH→Oracle} (hI: ∀Y Y',YLe Y Y'→Le (I Y) (I' Y')) {RA RB:Tr→Mem→KE} {SA SB:St→Option (Out×St)} (hA: ∀{ρ τ} (h:Fr N ρ τ) m,(RA τ m).Is N (SA ⟨ρ,m⟩)) (hB: ∀{ρ τ} (h:Fr N ρ τ) m,(RB τ m).Is N (SB ⟨ρ,m⟩)) {ps:List Nat} {ρ:List AV} {τ:Tr} (h:Fr N ρ τ) (f:AV) (m:Mem):
  (kRange N I RA RB f ps τ m).Is N (rangeEv I' SA SB f ps ⟨ρ,m⟩):=by
 by_cases hf: ∃g caps,f= .fn (.func g) [] caps
 ·obtain⟨g,caps,rfl⟩:=hf
  unfold kRange rangeEv
  simp only
  cases hc:I (kYield N RA RB ps τ m.stk.length m.cur.length m.nx) (some g) (.yld m.stk.length m.cur.length m.nx::caps) {m with cur:=m.cur++[⟨m.nx,[.int .i64 (.ofNat 0)]⟩],nx:=m.nx+1} with
  |none=>trivial
  |some z=>
   obtain⟨v,m2⟩:=z
   rw[hI _ (yieldV SA SB ps ρ m.stk.length m.cur.length m.nx) (fun a m r hy=>by
    unfold kYield at hy
    unfold yieldV
    split at hy
    ·split at hy
     ·rename_i hcc
      exact(if_pos hcc).trans (z1Z hA hB h hy)
     ·cases hy
    ·cases hy) _ _ _ _ hc]
   simp only
   cases hl:loopSt m2 m.stk.length m.cur.length m.nx with
   |none=>trivial
   |some n=>
    simp only
    unfold kOutOf
    split
    ·exact⟨ρ,h,rfl⟩
    ·trivial
    ·exact⟨ρ,h,rfl⟩
    ·exact⟨ρ,h,rfl⟩
 ·have e:kRange N I RA RB f ps τ m= .no:=by
   unfold kRange
   split
   ·rename_i g caps;exact absurd ⟨g,caps,rfl⟩ hf
   ·rfl
  rw[e];trivial
theorem Um {N:Nat} {run:Tr→Mem→KE} {from_:Nat→Tr→Mem→KE} {has:Nat→Bool} {S:St→Option (Out×St)} {SF:Nat→St→Option (Out×St)} (h1: ∀{ρ τ} (h:Fr N ρ τ) m,(run τ m).Is N (S ⟨ρ,m⟩)) (h2: ∀l {ρ τ} (h:Fr N ρ τ) m,(from_ l τ m).Is N (SF l ⟨ρ,m⟩)):
  ∀(n:Nat) (s:Option Nat) {ρ:List AV} {τ:Tr} (_:Fr N ρ τ) (m:Mem),(kScope run from_ has n s τ m).Is N (scopeIt S SF has n s ⟨ρ,m⟩)
 |0,s,ρ,τ,h,m=>trivial
 |n+1,s,ρ,τ,h,m=>by
  have key: ∀(z:KE) (o:Option (Out×St)),z.Is N o→KE.Is N (match o with|some (.goto l,σ')=>if has l then scopeIt S SF has n (some l) σ' else some (.goto l,σ')|r=>r)
    (KE.rec .no (fun τ' m'=> .nrm τ' m') (fun τ' m'=> .ret τ' m') (fun i τ' m'=> .exit i τ' m') (fun i τ' m'=>Bool.rec (.goto i τ' m') (kScope run from_ has n (some i) τ' m') (has i)) z):=by
   intro z o hz
   cases z with
   |no=>trivial
   |nrm τ' m'=>obtain⟨ρ',h',rfl⟩:=hz;exact⟨ρ',h',rfl⟩
   |ret τ' m'=>obtain⟨ρ',h',rfl⟩:=hz;exact⟨ρ',h',rfl⟩
   |exit i τ' m'=>obtain⟨ρ',h',rfl⟩:=hz;exact⟨ρ',h',rfl⟩
   |goto i τ' m'=>
    obtain⟨ρ',h',rfl⟩:=hz
    simp only
    cases has i with
    |false=>exact⟨ρ',h',rfl⟩
    |true=>exact Um h1 h2 n (some i) h' m'
  simp only[scopeIt]
  cases s with
  |none=>exact key _ _ (h1 h m)
  |some l=>exact key _ _ (h2 l h m)
theorem z4B {N:Nat} (O O':Ora) (hO:OraLe O O') (n:Nat): ∀(c:ACode),(∀{ρ:List AV} {τ:Tr} (h:Fr N ρ τ) (m:Mem),((kC N c).run O n τ m).Is N (ev O' n (relive N c) ⟨ρ,m⟩))∧
  ∀(l:Nat) {ρ:List AV} {τ:Tr} (h:Fr N ρ τ) (m:Mem),((kCF N c l).run O n τ m).Is N (evF O' n (relive N c) l ⟨ρ,m⟩):=by
 intro c
 induction c with
 |bad=>exact⟨(by
   intro ρ τ h m
   trivial),fun l ρ τ h m=>by simp only[kCF];trivial⟩
 |const v=>exact⟨(by
   intro ρ τ h m
   trivial),fun l ρ τ h m=>by simp only[kCF];trivial⟩
 |skip=>exact⟨(by
   intro ρ τ h m
   exact⟨ρ,h,rfl⟩),fun l ρ τ h m=>by simp only[kCF];trivial⟩
 |ret=>exact⟨(by
   intro ρ τ h m
   exact⟨ρ,h,rfl⟩),fun l ρ τ h m=>by simp only[kCF];trivial⟩
 |exit i=>exact⟨(by
   intro ρ τ h m
   exact⟨ρ,h,rfl⟩),fun l ρ τ h m=>by simp only[kCF];trivial⟩
 |ops l=>exact⟨(by
   intro ρ τ h m
   have k:=z1A O.call l h m
   unfold kC
   simp only
   cases hk:(kOps N l).run O.call τ m with
   |no=>trivial
   |ok τ' m'=>
    obtain⟨ρ',h',e⟩:=k τ' m' hk
    have e:=va hO.call e
    exact⟨ρ',h',by simp only[relive,ev,e,w04]⟩),fun l ρ τ h m=>by simp only[kCF];trivial⟩
 |draw l=>exact⟨(by
   intro ρ τ h m
   unfold kC
   simp only[Un,z3N,zH]
   show KE.Is N _ (KR.rec .no (fun τ' m'=> .nrm τ' {m' with floor:=m.floor}) ((kDraw N l).run O.call m [] τ {m with floor:=max m.floor (m.stk.length+1)}))
   have k:=jV O.call m l h [] {m with floor:=max m.floor (m.stk.length+1)}
   cases hk:(kDraw N l).run O.call m [] τ {m with floor:=max m.floor (m.stk.length+1)} with
   |no=>trivial
   |ok τ' m'=>
    obtain⟨ρ',h',e⟩:=k τ' m' hk
    have e:=ya hO.call e
    exact⟨ρ',h',by simp only[relive,ev,e,w04]⟩),fun l ρ τ h m=>by simp only[kCF];trivial⟩
 |seq a b iha ihb=>exact⟨(by
   intro ρ τ h m
   have k:=iha.1 h m
   unfold kC
   simp only
   cases hk:(kC N a).run O n τ m with
   |no=>trivial
   |nrm τ' m'=>
    rw[hk] at k
    obtain⟨ρ',h',e⟩:=k
    have k2:=ihb.1 h' m'
    simp only[relive,ev,e]
    exact k2
   |ret τ' m'=>
    rw[hk] at k
    obtain⟨ρ',h',e⟩:=k
    exact⟨ρ',h',by simp only[relive,ev,e]⟩
   |exit i τ' m'=>
    rw[hk] at k
    obtain⟨ρ',h',e⟩:=k
    exact⟨ρ',h',by simp only[relive,ev,e]⟩
   |goto i τ' m'=>
    rw[hk] at k
    obtain⟨ρ',h',e⟩:=k
    exact⟨ρ',h',by simp only[relive,ev,e]⟩),(by
   intro l ρ τ h m
   simp only[kCF,relive,evF,xi]
   cases hasLbl a l with
   |false=>exact ihb.2 l h m
   |true=>
    simp only[if_true]
    have k:=iha.2 l h m
    cases hk:(kCF N a l).run O n τ m with
    |no=>trivial
    |nrm τ' m'=>
     rw[hk] at k
     obtain⟨ρ',h',e⟩:=k
     have k2:=ihb.1 h' m'
     simp only[e]
     exact k2
    |ret τ' m'=>
     rw[hk] at k
     obtain⟨ρ',h',e⟩:=k
     exact⟨ρ',h',by simp only[e]⟩
    |exit i τ' m'=>
     rw[hk] at k
     obtain⟨ρ',h',e⟩:=k
     exact⟨ρ',h',by simp only[e]⟩
    |goto i τ' m'=>
     rw[hk] at k
     obtain⟨ρ',h',e⟩:=k
     exact⟨ρ',h',by simp only[e]⟩)⟩
 |cond c a b iha ihb=>exact⟨(by
   intro ρ τ h m
   unfold kC
   simp only[tR h,relive,ev]
   cases c.ev ρ<;>try trivial
   rename_i t
   cases t with
   |true=>exact iha.1 h m
   |false=>exact ihb.1 h m),fun l ρ τ h m=>by simp only[kCF];trivial⟩
 |block id a ih=>exact⟨(by
   intro ρ τ h m
   have k:=ih.1 h m
   unfold kC
   simp only
   cases hk:(kC N a).run O n τ m with
   |no=>trivial
   |nrm τ' m'=>
    rw[hk] at k
    obtain⟨ρ',h',e⟩:=k
    exact⟨ρ',h',by simp only[relive,ev,e]⟩
   |ret τ' m'=>
    rw[hk] at k
    obtain⟨ρ',h',e⟩:=k
    exact⟨ρ',h',by simp only[relive,ev,e]⟩
   |exit i τ' m'=>
    rw[hk] at k
    obtain⟨ρ',h',e⟩:=k
    simp only
    cases hb:Nat.beq i id with
    |true=>
     have hi:i=id:=Nat.eq_of_beq_eq_true hb
     exact⟨ρ',h',by simp only[relive,ev,e,hi,if_pos]⟩
    |false=>
     have hi: ¬i=id:=fun q=>by rw[q,Nat.beq_refl] at hb;cases hb
     exact⟨ρ',h',by simp only[relive,ev,e,if_neg hi]⟩
   |goto i τ' m'=>
    rw[hk] at k
    obtain⟨ρ',h',e⟩:=k
    exact⟨ρ',h',by simp only[relive,ev,e]⟩),fun l ρ τ h m=>by simp only[kCF];trivial⟩
 |loop live a ih=>exact⟨(by
   intro ρ τ h m
   unfold kC
   unfold loopKind
   by_cases h0:live.head? =some 777777∨live.head? =some 888888
   ·rw[if_pos h0];trivial
   ·rw[if_neg h0]
    have go: ∀(hd:St→St) (kf:Tr→Mem→KE),(∀ρ τ m,Fr N ρ τ→(kf τ m).Is N (ev O' n (relive N a) (hd ⟨ρ,m⟩)))→ ∀(j:Nat) (ρ:List AV) (τ:Tr) (m:Mem),Fr N ρ τ→(kIter kf j τ m).Is N (iter (ev O' n (relive N a)) hd j ⟨ρ,m⟩):=by
     intro hd kf hkf j
     induction j with
     |zero=>intro ρ τ m h;trivial
     |succ j ihj=>
      intro ρ τ m h
      have k:=hkf ρ τ m h
      show KE.Is N _ (KE.rec .no (fun τ' m'=>kIter kf j τ' m') (fun τ' m'=> .ret τ' m') (fun i τ' m'=> .exit i τ' m') (fun i τ' m'=> .goto i τ' m') (kf τ m))
      cases hk:kf τ m with
      |no=>trivial
      |nrm τ' m'=>
       rw[hk] at k
       obtain⟨ρ',h',e⟩:=k
       simp only[iter,e]
       exact ihj ρ' τ' m' h'
      |ret τ' m'=>
       rw[hk] at k
       obtain⟨ρ',h',e⟩:=k
       exact⟨ρ',h',by simp only[iter,e]⟩
      |exit i τ' m'=>
       rw[hk] at k
       obtain⟨ρ',h',e⟩:=k
       exact⟨ρ',h',by simp only[iter,e]⟩
      |goto i τ' m'=>
       rw[hk] at k
       obtain⟨ρ',h',e⟩:=k
       exact⟨ρ',h',by simp only[iter,e]⟩
    by_cases h1:live.contains 999999=true
    ·rw[if_pos h1]
     simp only[relive,ev,ren,if_neg h0,if_pos h1]
     refine go _ _ (fun ρ τ m h=> ?_) n ρ τ m h
     have e:heads (List.range N++[999999]) (List.length (St.mk ρ m).m.cur) ⟨ρ,m⟩=⟨ρ,m⟩:=by
      unfold heads cut
      rw[ue (N:=N) (fun i hi=>by simp[hi]) h.len,if_pos (by simp)]
     unfold heads cut
     rw[ue (N:=N) (fun i hi=>by simp[hi]) h.len,if_pos (by simp)]
     exact ih.1 h m
    ·rw[if_neg h1]
     simp only[relive,ev,ren,if_neg h0,if_neg h1,kI,zH]
     refine go _ _ (fun ρ τ m1 h=> ?_) n ρ τ m h
     have hm:=h.most
     rw[z1C]
     unfold heads cut
     rw[ue (N:=N) (fun i hi=>Uc N i hi) h.len,if_neg (by simp;omega)]
     exact ih.1 h _),fun l ρ τ h m=>by simp only[kCF];trivial⟩
 |scope a ih=>exact⟨(by
   intro ρ τ h m
   simp only[kC,relive,ev]
   have e:hasLbl (relive N a)=hasLbl a:=funext fun l=>xi N a l
   rw[e]
   exact Um (fun h m=>ih.1 h m) (fun l _ _ h m=>ih.2 l h m) n none h m),fun l ρ τ h m=>by simp only[kCF];trivial⟩
 |label l=>exact⟨fun{ρ τ} h m=>⟨ρ,h,rfl⟩,fun _ {ρ τ} h m=>⟨ρ,h,rfl⟩⟩
 |goto l=>exact⟨fun{ρ τ} h m=>⟨ρ,h,rfl⟩,fun l ρ τ h m=>by simp only[kCF];trivial⟩
 |frz ts=>exact⟨(fun{ρ τ} h m=>by simp only[kC];trivial),fun l ρ τ h m=>by simp only[kCF];trivial⟩
 |rangeF f ps a b iha ihb=>exact⟨(by
   intro ρ τ h m
   simp only[kC,relive,ev,tR h]
   exact z20 hO.iter (fun h m=>iha.1 h m) (fun h m=>ihb.1 h m) h _ m),fun l ρ τ h m=>by simp only[kCF];trivial⟩
theorem QD {N:Nat} (O O':Ora) (hO:OraLe O O') (n:Nat) (c:ACode) {ρ:List AV} {τ:Tr} (h:Fr N ρ τ) (m:Mem):((kC N c).run O n τ m).Is N (ev O' n (relive N c) ⟨ρ,m⟩):=(z4B O O' hO n c).1 h m
noncomputable def kRes (N:Nat):ARes→KG Tr (Mem→Option AV)
 | .tmp t=>⟨fun τ _=>some ((kO N (.t t)).run τ)⟩
 | .cell a agg n=>⟨fun τ m=>kLoad agg n ((kO N (.t a)).run τ) m⟩
noncomputable def kRess (N:Nat):List ARes→KG Tr (Mem→Option (List AV))
 | []=>⟨fun _ _=>some []⟩
 |r::l=>⟨fun τ m=>Option.rec none (fun v=>Option.rec none (fun vs=>some (v::vs)) ((kRess N l).run τ m)) ((kRes N r).run τ m)⟩
theorem X2 {N:Nat} {ρ:List AV} {τ:Tr} (h:Fr N ρ τ) (m:Mem): ∀l,(kRess N l).run τ m=evRess ⟨ρ,m⟩ l
 | []=>rfl
 |r::l=>by
  have e:(kRes N r).run τ m=evRes ⟨ρ,m⟩ r:=by
   cases r with
   |tmp t=>simp only[kRes,evRes,tR h];rfl
   |cell a agg n=>simp only[kRes,evRes,tR h,X3];rfl
  simp only[kRess,evRess,e,X2 h m l]
  cases evRes ⟨ρ,m⟩ r with
  |none=>rfl
  |some v=>cases evRess ⟨ρ,m⟩ l<;>rfl
noncomputable def kArgs:List AV→Nat→Tr→Tr
 | [],_,τ=>τ
 |x::r,i,τ=>kArgs r (Nat.succ i) ((kSetF i).run (fun _=>x) τ)
theorem tS {N:Nat}: ∀(l:List AV) (i:Nat) {ρ:List AV} {τ:Tr},Fr N ρ τ→i+l.length≤N→Fr N (ρ.take i++l++ρ.drop (i+l.length)) (kArgs l i τ)
 | [],i,ρ,τ,h,hi=>by simpa [kArgs] using h
 |x::r,i,ρ,τ,h,hi=>by
  simp only[List.length_cons] at hi
  have hl:=h.len
  have k:=tS r (i+1) (h.put (d:=i) (by omega) x) (by omega)
  have e:(ρ.set i x).take (i+1)++r++(ρ.set i x).drop (i+1+r.length)=ρ.take i++(x::r)++ρ.drop (i+(x::r).length):=by
   rw[List.take_set,List.drop_set_of_lt (by omega),List.length_cons,show i+(r.length+1)=i+1+r.length by omega]
   congr 1
   rw[List.take_succ_eq_append_getElem (by omega),List.set_append_right _ _ (by simp;omega)]
   simp[show min i ρ.length=i by omega]
  rw[e] at k
  exact k
theorem Yf {N:Nat} (h:N≤1024):Fr N (List.replicate N (.tup [])) kNil:=by
 refine⟨by simp,h,fun i hi=> ?_⟩
 rw[z2S,w02,List.getElem?_replicate,if_pos hi];rfl
noncomputable def kEnter (m:Mem):Mem:=Mem.rec (fun stk cur nx live floor=>⟨stk++[cur],[],nx,[]::live,floor⟩) m
theorem z22 (m:Mem):kEnter m=enter m:=by cases m;rfl
noncomputable def kEnd (N:Nat) (res:List ARes) (m:Mem) (τ:Tr) (m':Mem):KV:=Option.rec .no (fun vs=>kImp (leave m m' (packRes vs))) ((kRess N res).run τ m')
noncomputable def kFn (O:Ora) (n:Nat) (fn:AFunc) (args:List AV) (m:Mem):KV:=
 Bool.rec .no (KE.rec .no (fun τ m'=>kEnd fn.ntmps fn.res m τ m') (fun τ m'=>kEnd fn.ntmps fn.res m τ m') (fun _ _ _=> .no) (fun _ _ _=> .no) ((kC fn.ntmps fn.body).run O n (kArgs args 0 kNil) (kEnter m)))
  (kAnd (Nat.ble (kLen args) fn.ntmps) (Nat.ble fn.ntmps 1024))
def reliveF (fn:AFunc):AFunc:={fn with body:=relive fn.ntmps fn.body}
theorem z2T (O O':Ora) (hO:OraLe O O') (n:Nat) (fn:AFunc) (args:List AV) (m:Mem) {r:AV×Mem} (h:(kFn O n fn args m).toO=some r):evFn O' n (reliveF fn) args m=some r:=by
 unfold kFn at h
 rw[uA,zH,zB,zB] at h
 by_cases hb:(decide (args.length≤fn.ntmps)&&decide (fn.ntmps≤1024))=true
 ·rw[hb] at h
  simp only[w03,decide_eq_true_eq] at hb
  simp only[z22] at h
  have f:=tS args 0 (Yf hb.2) (by omega)
  have e:(List.replicate fn.ntmps (AV.tup [])).take 0++args++(List.replicate fn.ntmps (AV.tup [])).drop (0+args.length)=args++List.replicate (fn.ntmps-args.length) (.tup []):=by simp
  rw[e] at f
  have k:=QD O O' hO n fn.body f (enter m)
  unfold evFn reliveF
  simp only
  have fin: ∀ρ τ m',Fr fn.ntmps ρ τ→(kEnd fn.ntmps fn.res m τ m').toO=some r→((evRess ⟨ρ,m'⟩ fn.res).bind fun vs=>leave m m' (packRes vs))=some r:=by
   intro ρ τ m' hF hE
   unfold kEnd at hE
   rw[X2 hF] at hE
   cases hr:evRess ⟨ρ,m'⟩ fn.res with
   |none=>rw[hr] at hE;cases hE
   |some vs=>rw[hr] at hE;simp only[Yh] at hE;exact hE
  cases hk:(kC fn.ntmps fn.body).run O n (kArgs args 0 kNil) (enter m) with
  |no=>rw[hk] at h;cases h
  |nrm τ m'=>
   rw[hk] at h k
   obtain⟨ρ,hF,e⟩:=k
   rw[e]
   exact fin ρ τ m' hF h
  |ret τ m'=>
   rw[hk] at h k
   obtain⟨ρ,hF,e⟩:=k
   rw[e]
   exact fin ρ τ m' hF h
  |exit i τ m'=>rw[hk] at h;cases h
  |goto i τ m'=>rw[hk] at h;cases h
 ·rw[Bool.not_eq_true _|>.mp hb] at h;cases h
structure KFn where
 run:Ora→Nat→List AV→Mem→Option (AV×Mem)
def reTab (tab:Nat→Option AFunc):Nat→Option AFunc:=fun f=>(tab f).map reliveF
theorem Q8 {N:Nat} {l:List Nat} (h: ¬(l.head? =some 777777∨l.head? =some 888888)) (x:Nat) (hx:x=777777∨x=888888):(ren N l).head? ≠some x:=by
 unfold ren
 rw[if_neg h]
 cases N with
 |zero=>split<;>simp<;>omega
 |succ N=>split<;>rw[List.range_succ_eq_map]<;>simp<;>omega
theorem Ui (N:Nat) (a:List (List Nat)):marksOf (a.map (ren N))=marksOf a:=by
 unfold marksOf
 rw[List.getLast?_map]
 cases a.getLast? with
 |none=>rfl
 |some l=>
  simp only[w04]
  by_cases h0:l.head? =some 777777∨l.head? =some 888888
  ·unfold ren;rw[if_pos h0]
  ·have e2: ∀l:List Nat,l.head? ≠some 777777→(match some l with|some (777777::ds)=>ds|_=>([]:List Nat))=[]:=by
    intro l hl
    split
    ·rename_i ds e;injection e with e;subst e;exact absurd rfl hl
    ·rfl
   exact(e2 _ (Q8 h0 _ (.inl rfl))).trans (e2 _ (fun h=>h0 (.inl h))).symm
theorem z44 (N:Nat) (a:List (List Nat)) (ops:List Oper):frzOf (a.map (ren N)) ops=frzOf a ops:=by
 unfold frzOf
 rw[List.find?_map]
 have key: ∀l:List Nat,frzHit ops (ren N l)=frzHit ops l:=by
  intro l
  by_cases h0:l.head? =some 777777∨l.head? =some 888888
  ·unfold ren;rw[if_pos h0]
  ·have e2: ∀l:List Nat,l.head? ≠some 888888→frzHit ops l=false:=by
    intro l hl
    unfold frzHit
    rw[show(l.head? ==some 888888)=false from beq_eq_false_iff_ne.2 hl];rfl
   exact(e2 _ (Q8 h0 _ (.inr rfl))).trans (e2 _ (fun h=>h0 (.inr h))).symm
 rw[show frzHit ops∘ren N=frzHit ops from funext key]
 cases hf:a.find? (frzHit ops) with
 |none=>rfl
 |some l=>
  have hp:=List.find?_some hf
  have:ren N l=l:=by
   unfold frzHit at hp
   simp only[w03,beq_iff_eq] at hp
   unfold ren
   rw[if_pos (.inr hp.1)]
  simp only[w04,this]
theorem z3a (P:Program) (N:Nat): ∀(c:Code) (a:List (List Nat)) (r:ACode×List (List Nat)),comp P c a=some r→comp P c (a.map (ren N))=some (relive N r.1,r.2.map (ren N)):=by
 have bad: ∀(x:Option ACode),(∀y,x=some y→relive N y=y)→relive N (orBad x)=orBad x:=by
  intro x hx
  cases x with
  |none=>rfl
  |some y=>exact hx y rfl
 intro c
 induction c with
 |region site ops dr=>
  intro a r h
  cases dr with
  |false=>
   simp only[comp] at h⊢
   injection h with h;subst h
   rw[Ui,z44]
   simp only
   rw[bad _ (fun y hy=>by simp only[w00] at hy;obtain⟨al,_,rfl⟩:=hy;cases frzOf a ops.toList<;>rfl)]
  |true=>
   simp only[comp] at h⊢
   injection h with h;subst h
   rw[Ui]
   simp only
   rw[bad _ (fun y hy=>by simp only[w00] at hy;obtain⟨al,_,rfl⟩:=hy;rfl)]
 |seq x y ihx ihy=>
  intro a r h
  simp only[comp,w01,w00] at h
  obtain⟨p,hp,q,hq,rfl⟩:=h
  simp only[comp,ihx a p hp,w17,ihy _ q hq,w04,relive]
 |cond c x y ihx ihy=>
  intro a r h
  simp only[comp,w01,w00] at h
  obtain⟨d,hd,p,hp,q,hq,rfl⟩:=h
  simp only[comp,hd,ihx a p hp,w17,ihy _ q hq,w04,relive]
 |block id x ih=>
  intro a r h
  simp only[comp,w00] at h
  obtain⟨p,hp,rfl⟩:=h
  simp only[comp,ih a p hp,w04,relive]
 |loop x ih=>
  intro a r h
  cases a with
  |nil=>simp only[comp] at h;cases h
  |cons live a=>
   simp only[comp,w00] at h
   obtain⟨p,hp,rfl⟩:=h
   simp only[comp,w1c,ih a p hp,w04,relive]
 |scope x ih=>
  intro a r h
  simp only[comp,w00] at h
  obtain⟨p,hp,rfl⟩:=h
  simp only[comp,ih a p hp,w04,relive]
 |rangeFunc f ps x y ihx ihy=>
  intro a r h
  simp only[comp,w01,w00] at h
  obtain⟨p,hp,q,hq,rfl⟩:=h
  simp only[comp,ihx a p hp,w17,ihy _ q hq,w04,zk]
  cases compOpd f with
  |none=>rfl
  |some d=>
   simp only
   split<;>rfl
 |_=>intro a r h;simp only[comp] at h⊢;injection h with h;subst h;rfl
theorem z16 {P:Program} {fn:Func} {ann:List (List Nat)} {a:AFunc} (h:compFn P fn ann=some a): ∃ann',compFn P fn ann'=some (reliveF a):=by
 unfold compFn at h
 split at h
 ·rename_i c hb
  split at h
  ·rename_i b rest r hc hr
   split at h
   ·cases h
   ·rename_i hn
    injection h with h
    subst h
    refine⟨ann.map (ren fn.ntmps),?_⟩
    unfold compFn
    rw[hb]
    simp only[z3a P fn.ntmps c ann _ hc,hr,if_neg hn]
    rfl
  ·cases h
 ·cases h
theorem z2A {P:Program} {tab:Nat→Option AFunc} (h:TabOk P tab):TabOk P (reTab tab):=by
 intro f afn hf
 simp only[reTab,w00] at hf
 obtain⟨a,ha,rfl⟩:=hf
 rcases h f a ha with⟨fn,ann,h1,h2⟩|⟨b,rfl,hk⟩
 ·obtain⟨ann',h3⟩:=z16 h2
  exact .inl ⟨fn,ann',h1,h3⟩
 ·exact .inr ⟨b,rfl,hk⟩
end Go.Vs
end
section
namespace Go.Vs
noncomputable def evFnG (O:Ora) (n:Nat) (fn:AFunc) (args:List AV) (m:Mem):Option (AV×Mem):=bodyV O n fn args m fun m2 v=>some (v,m2)
noncomputable def evFnC (b:Bool) (O:Ora) (n:Nat) (fn:AFunc) (args:List AV) (m:Mem):Option (AV×Mem):=
 match b with
 |true=>match Nat.ble m.floor m.stk.length with
  |true=>evFnG O n fn args m
  |false=>evFn O n fn args m
 |false=>evFn O n fn args m
noncomputable def callG (tab:Nat→Option AFunc) (G:Nat→Bool):Nat→Ora
 |0=>⟨fun _ _ _=>none,fun _ _ _ _=>none⟩
 |n+1=>⟨fun c args m=>match c with
   |some f=>match tab f with
    |some fn=>evFnC (G f) (callG tab G n) n fn args m
    |none=>none
   |none=>none,fun Y c args m=>match c with
   |some f=>match tab f with
    |some fn=>evFnC (G f) ⟨withY (callG tab G n).call Y,(callG tab G n).iter⟩ n fn args m
    |none=>none
   |none=>none⟩
theorem tU {b:Bool} {O:Ora} {n:Nat} {fn:AFunc} {args:List AV} {m:Mem} {r:AV×Mem} (h:evFnC b O n fn args m=some r):evFn O n fn args m=some r∨(m.floor≤m.stk.length∧evFnG O n fn args m=some r):=by
 unfold evFnC at h
 split at h
 ·split at h
  ·rename_i hb;exact .inr ⟨Nat.le_of_ble_eq_true hb,h⟩
  ·exact .inl h
 ·exact .inl h
theorem QL {O:Ora} (hA:OraAbove O) {n:Nat} {fn:AFunc} {args:List AV} {m m':Mem} {r:AV} (h:evFnG O n fn args m=some (r,m')) (hf:m.floor≤m.stk.length):Above m m':=by
 unfold evFnG bodyV at h
 split at h
 ·cases h
 ·cases h
 ·rename_i out σ hne hne2 he
  simp only[w01,Option.some.injEq,Prod.mk.injEq] at h
  obtain⟨vs,_,_,rfl⟩:=h
  exact uc hA fn.body _ _ _ hf he
 ·cases h
theorem Zn {b:Bool} {O:Ora} (hA:OraAbove O) {n:Nat} {fn:AFunc} {args:List AV} {m m':Mem} {r:AV} (h:evFnC b O n fn args m=some (r,m')) (hf:m.floor≤m.stk.length+1):Above m m':=by
 rcases tU h with h|⟨h1,h⟩
 ·exact z0Z hA h hf
 ·exact QL hA h h1
theorem yI {tab:Nat→Option AFunc} {G:Nat→Bool}: ∀n,OraAbove (callG tab G n)
 |0=>⟨fun c args m r m' h=>by simp[callG] at h,fun Y hY c args m r m' h=>by simp[callG] at h⟩
 |n+1=>by
  refine⟨fun c args m r m' h hf=> ?_,fun Y hY c args m r m' h hf=> ?_⟩
  ·simp only[callG] at h
   split at h
   ·split at h
    ·exact Zn (yI n) h hf
    ·cases h
   ·cases h
  ·simp only[callG] at h
   split at h
   ·split at h
    ·exact Zn (O:=⟨withY (callG tab G n).call Y,(callG tab G n).iter⟩) ⟨Z6 (yI n).1 hY,(yI n).2⟩ h hf
    ·cases h
   ·cases h
section
variable {P : Program}
theorem z36 (hM:P.follows .mixedOrders=true) {b:Bool} {C:Ctx} {O:Ora} (hO:OracleOk P C O.call) (hI:OraOk P O) (hA0:OraAbove O) {n f:Nat} {fn:Func} {ann:List (List Nat)} {afn:AFunc} (hfn:P.funcs[f]? =some fn) (hcomp:compFn P fn ann=some afn)
  {args:List AV} {m m':Mem} {r:AV} (h:evFnC b O n afn args m=some (r,m')) (hf:m.floor≤m.stk.length+1):CallOk P C f args m r m':=by
 rcases tU h with h|⟨h1,h⟩
 ·exact z45 hM hO hI hA0 hfn hcomp h hf
 ·exact z4o hM hO hI hA0 hfn hcomp (m1:=m) (fin:=fun m2 v=>some (v,m2)) h h1 (fun I=>I) (fun I e hr=>by injection e with e;injection e with e1 e2;subst e1;subst e2;exact⟨I,hr⟩)
theorem z2h {O:Ora} {n:Nat} {b:Bool} {args:List AV} {m m':Mem} {r:AV} (h:evFnG O n (constFn b) args m=some (r,m')):args=[]∧r= .bool b∧m'=m:=by
 cases args with
 |cons x l=>simp[evFnG,bodyV,constFn,ev] at h
 |nil=>
  simp only[evFnG,bodyV,constFn,ev,List.length_nil,Nat.sub_self,List.replicate_zero,List.append_nil,evRess,evRes,w17,w04,w02,List.getElem?_cons_zero,w13,packRes] at h
  injection h with h;injection h with h1 h2
  exact⟨rfl,h1.symm,h2.symm⟩
theorem QW (hM:P.follows .mixedOrders=true) {tab:Nat→Option AFunc} {G:Nat→Bool} (hT:TabOk P tab): ∀n,(∀C,OracleOk P C (callG tab G n).call)∧OraOk P (callG tab G n)
 |0=>⟨fun C c args m r m' h=>by simp[callG] at h,fun C Y hY hYA f args m r m' h=>by simp[callG] at h⟩
 |n+1=>by
  have ih:=QW hM (G:=G) hT n
  have one: ∀(C:Ctx) (O:Ora),OracleOk P C O.call→OraOk P O→OraAbove O→ ∀b f afn args m r m',tab f=some afn→evFnC b O n afn args m=some (r,m')→m.floor≤m.stk.length+1→CallOk P C f args m r m':=by
   intro C O hO hI hA b f afn args m r m' htab h hf
   rcases hT f afn htab with⟨fn,ann,hfn,hcomp⟩|⟨b,rfl,hk⟩
   ·exact z36 hM hO hI hA hfn hcomp h hf
   ·rcases tU h with h|⟨_,h⟩
    ·obtain⟨rfl,rfl,rfl⟩:=z39 h
     exact Qy hk m'
    ·obtain⟨rfl,rfl,rfl⟩:=z2h h
     exact Qy hk m'
  refine⟨fun C c args m r m' h hf=> ?_,fun C Y hY hYA f args m r m' h hf=> ?_⟩
  ·simp only[callG] at h
   split at h
   ·split at h
    ·rename_i htab
     exact one C _ (ih.1 C) ih.2 (yI n) _ _ _ _ _ _ _ htab h hf
    ·cases h
   ·cases h
  ·simp only[callG] at h
   split at h
   ·rename_i htab
    exact one C ⟨withY (callG tab G n).call Y,(callG tab G n).iter⟩ (z2u ih.1 hY) ih.2 ⟨Z6 (yI n).1 hYA,(yI n).2⟩ _ _ _ _ _ _ _ htab h hf
   ·cases h
end
noncomputable def kEndG (N:Nat) (res:List ARes) (τ:Tr) (m':Mem):KV:=Option.rec .no (fun vs=>kImp (some (packRes vs,m'))) ((kRess N res).run τ m')
noncomputable def kFnG (O:Ora) (n:Nat) (fn:AFunc) (args:List AV) (m:Mem):KV:=
 Bool.rec .no (KE.rec .no (fun τ m'=>kEndG fn.ntmps fn.res τ m') (fun τ m'=>kEndG fn.ntmps fn.res τ m') (fun _ _ _=> .no) (fun _ _ _=> .no) ((kC fn.ntmps fn.body).run O n (kArgs args 0 kNil) m))
  (kAnd (Nat.ble (kLen args) fn.ntmps) (Nat.ble fn.ntmps 1024))
theorem z3O (O O':Ora) (hO:OraLe O O') (n:Nat) (fn:AFunc) (args:List AV) (m:Mem) {r:AV×Mem} (h:(kFnG O n fn args m).toO=some r):evFnG O' n (reliveF fn) args m=some r:=by
 unfold kFnG at h
 rw[uA,zH,zB,zB] at h
 by_cases hb:(decide (args.length≤fn.ntmps)&&decide (fn.ntmps≤1024))=true
 ·rw[hb] at h
  simp only[w03,decide_eq_true_eq] at hb
  have f:=tS args 0 (Yf hb.2) (by omega)
  have e:(List.replicate fn.ntmps (AV.tup [])).take 0++args++(List.replicate fn.ntmps (AV.tup [])).drop (0+args.length)=args++List.replicate (fn.ntmps-args.length) (.tup []):=by simp
  rw[e] at f
  have k:=QD O O' hO n fn.body f m
  unfold evFnG bodyV reliveF
  simp only
  have fin: ∀ρ τ m',Fr fn.ntmps ρ τ→(kEndG fn.ntmps fn.res τ m').toO=some r→((evRess ⟨ρ,m'⟩ fn.res).bind fun vs=>some (packRes vs,m'))=some r:=by
   intro ρ τ m' hF hE
   unfold kEndG at hE
   rw[X2 hF] at hE
   cases hr:evRess ⟨ρ,m'⟩ fn.res with
   |none=>rw[hr] at hE;cases hE
   |some vs=>rw[hr] at hE;simp only[Yh] at hE;exact hE
  cases hk:(kC fn.ntmps fn.body).run O n (kArgs args 0 kNil) m with
  |no=>rw[hk] at h;cases h
  |nrm τ m'=>
   rw[hk] at h k
   obtain⟨ρ,hF,e⟩:=k
   rw[e]
   exact fin ρ τ m' hF h
  |ret τ m'=>
   rw[hk] at h k
   obtain⟨ρ,hF,e⟩:=k
   rw[e]
   exact fin ρ τ m' hF h
  |exit i τ m'=>rw[hk] at h;cases h
  |goto i τ m'=>rw[hk] at h;cases h
 ·rw[Bool.not_eq_true _|>.mp hb] at h;cases h
noncomputable def kFloorOk (m:Mem):Bool:=Mem.rec (fun stk _ _ _ floor=>Nat.ble floor (kLen stk)) m
theorem QB (m:Mem):kFloorOk m=Nat.ble m.floor m.stk.length:=by cases m;simp only[kFloorOk,zH]
noncomputable def kFunG (tab:Nat→Option AFunc) (G:Nat→Bool) (f:Nat):KFn:=match tab f with
 |some fn=>match G f with
  |true=>⟨fun O n args m=>Bool.rec (kFn O n fn args m).toO (kFnG O n fn args m).toO (kFloorOk m)⟩
  |false=>⟨fun O n args m=>(kFn O n fn args m).toO⟩
 |none=>⟨fun _ _ _ _=>none⟩
noncomputable def kOraG (tab:Nat→Option AFunc) (G:Nat→Bool) (n:Nat):Ora:=
 Nat.rec (motive:=fun _=>Ora) ⟨fun _ _ _=>none,fun _ _ _ _=>none⟩ (fun k ih=>⟨fun c args m=>Option.rec none (fun f=>(kFunG tab G f).run ih k args m) c,fun Y c args m=>Option.rec none (fun f=>(kFunG tab G f).run ⟨withY ih.call Y,ih.iter⟩ k args m) c⟩) n
theorem QA {tab:Nat→Option AFunc} {G:Nat→Bool} {O O':Ora} (hO:OraLe O O') {n f:Nat} {a:List AV} {m:Mem} {r:AV×Mem} (h:(kFunG tab G f).run O n a m=some r): ∃fn,tab f=some fn∧evFnC (G f) O' n (reliveF fn) a m=some r:=by
 unfold kFunG at h
 cases hf:tab f with
 |none=>rw[hf] at h;cases h
 |some fn=>
  rw[hf] at h
  refine⟨fn,rfl,?_⟩
  cases hG:G f with
  |false=>rw[hG] at h;exact z2T O O' hO n fn a m h
  |true=>
   rw[hG] at h
   simp only[QB] at h
   unfold evFnC
   cases hb:Nat.ble m.floor m.stk.length with
   |true=>rw[hb] at h;exact z3O O O' hO n fn a m h
   |false=>rw[hb] at h;exact z2T O O' hO n fn a m h
theorem jS (tab:Nat→Option AFunc) (G:Nat→Bool): ∀n,OraLe (kOraG tab G n) (callG (reTab tab) G n)
 |0=>⟨(fun c a m r h=>by cases h),(fun Y Y' _ c a m r h=>by cases h)⟩
 |n+1=>by
  have ih:=jS tab G n
  refine⟨fun c a m r h=> ?_,fun Y Y' hy c a m r h=> ?_⟩
  ·cases c with
   |none=>cases h
   |some f=>
    have h1:(kFunG tab G f).run (kOraG tab G n) n a m=some r:=h
    obtain⟨fn,hf,h2⟩:=QA ih h1
    simp only[callG,reTab,hf,w04]
    exact h2
  ·cases c with
   |none=>cases h
   |some f=>
    have h1:(kFunG tab G f).run ⟨withY (kOraG tab G n).call Y,(kOraG tab G n).iter⟩ n a m=some r:=h
    obtain⟨fn,hf,h2⟩:=QA (O:=⟨withY (kOraG tab G n).call Y,(kOraG tab G n).iter⟩) (O':=⟨withY (callG (reTab tab) G n).call Y',(callG (reTab tab) G n).iter⟩) ⟨Yj ih.call hy,ih.iter⟩ h1
    simp only[callG,reTab,hf,w04]
    exact h2
section
open Go.RowKit Go.ChangeShapes Go.WideShapes
variable {H : Type} {enc : TypeId × Value → H} {P : Program} {W : World}
theorem Uj (hl:laidOutB P=true) {f:FuncId} {fn:Func} {s:ChangeSpec} {tb:TypeId} (hvars:s.vars=[])
  (hp:fn.params.toList=[]) (hres:fn.resultTypes= #[tb]) (htb:P.underlying tb=some .bool)
  (hspec:s.fn H ([]:List (DataW H))={results:=[.lit (.bool true)],args:=[]}) (K:Known P f true)
  {args:Array Value} {ds gs:List (DataW H)} {before:List MemPlace} {fresh handsOn:Bool}
  (hW:DataW.Whole enc P fn.params.toList s.vars false W args.toList ds gs before):
  Calls P f args W fun e W'=> ∃v,e= .returned v∧s.post enc P fn false fresh handsOn false W args v W':=by
 have hW':=hW
 obtain⟨p,q,hA,hV,rfl,_,_⟩:=hW
 rw[hvars] at hV
 obtain⟨rfl,rfl⟩:=trodVars_none hV
 rw[hp] at hA
 obtain⟨ha,rfl,rfl⟩:=trodAll_nil hA
 have ha2:args= #[]:=by
  cases args with
  |mk l=>simp only at ha;subst ha;rfl
 have hc:=K.2 W
 rw[←ha2] at hc
 refine hc.mono fun e W' ⟨he,hb⟩=> ?_
 have hlt:=hW'.lt
 refine⟨_,he,[],[],_,[],[],[],hW',?_,?_,?_,hb.frame _,fun h=>by cases h⟩
 ·rw[List.append_nil,hspec,hres]
  exact trodAll_mk1 (shut_bool htb true)
 ·rw[List.append_nil,hspec,hp]
  exact Z7 hl hb [] args.toList [] [] (fun t ht=>by cases ht) (fun x hx=>by cases hx) hA
 ·rw[List.append_nil,hspec,hvars];rfl
end
noncomputable def kList (τ:Tr):Nat→Nat→List AV
 |0,_=>[]
 |n+1,i=>(kGet i).run τ::kList τ n (i+1)
theorem X4 {N:Nat} {ρ:List AV} {τ:Tr} (h:Fr N ρ τ): ∀n i,i+n=N→kList τ n i=ρ.drop i
 |0,i,hi=>by rw[List.drop_of_length_le (by rw[h.len];omega)];rfl
 |n+1,i,hi=>by
  have hl:=h.len
  simp only[kList]
  rw[X4 h n (i+1) (by omega),h.get i (by omega),List.drop_eq_getElem_cons (by omega:i<ρ.length),w02,w0a (by omega),w13]
theorem jU {N:Nat} {ρ:List AV} {τ:Tr} (h:Fr N ρ τ):kList τ N 0=ρ:=by rw[X4 h N 0 (by omega)];rfl
noncomputable def kSnap (N:Nat) (e:KE):Option (Nat×List AV×Mem):=KE.rec none (fun τ m=>some (0,kList τ N 0,m)) (fun τ m=>some (1,kList τ N 0,m)) (fun i τ m=>some (i+2,kList τ N 0,m)) (fun _ _ _=>none) e
def outOf:Nat→Out
 |0=> .normal
 |1=> .ret
 |i+2=> .exit i
theorem zh {tab:Nat→Option AFunc} {gl:Nat→Bool} {N n:Nat} {c:ACode} {ρ ρ':List AV} {m m':Mem} {b:Nat} (hN:N≤1024) (hl:ρ.length=N)
  (h:kSnap N ((kC N c).run (kOraG tab gl n) n (kArgs ρ 0 kNil) m)=some (b,ρ',m')):ev (callG (reTab tab) gl n) n (relive N c) ⟨ρ,m⟩=some (outOf b,⟨ρ',m'⟩):=by
 have f:=tS ρ 0 (Yf hN) (by omega)
 have e:(List.replicate N (AV.tup [])).take 0++ρ++(List.replicate N (AV.tup [])).drop (0+ρ.length)=ρ:=by simp[hl]
 rw[e] at f
 have k:=QD (kOraG tab gl n) (callG (reTab tab) gl n) (jS tab gl n) n c f m
 cases hk:(kC N c).run (kOraG tab gl n) n (kArgs ρ 0 kNil) m with
 |no=>rw[hk] at h;cases h
 |nrm τ m1=>
  rw[hk] at h k
  obtain⟨ρ1,hF,e⟩:=k
  have h:some (0,kList τ N 0,m1)=some (b,ρ',m'):=h
  rw[jU hF] at h
  injection h with h;injection h with h1 h;injection h with h2 h3
  subst h1;subst h2;subst h3
  exact e
 |ret τ m1=>
  rw[hk] at h k
  obtain⟨ρ1,hF,e⟩:=k
  have h:some (1,kList τ N 0,m1)=some (b,ρ',m'):=h
  rw[jU hF] at h
  injection h with h;injection h with h1 h;injection h with h2 h3
  subst h1;subst h2;subst h3
  exact e
 |exit i τ m1=>
  rw[hk] at h k
  obtain⟨ρ1,hF,e⟩:=k
  have h:some (i+2,kList τ N 0,m1)=some (b,ρ',m'):=h
  rw[jU hF] at h
  injection h with h;injection h with h1 h;injection h with h2 h3
  subst h1;subst h2;subst h3
  exact e
 |goto i τ m1=>rw[hk] at h;cases h
theorem z4r {O:Ora} {n:Nat} {a b:ACode} {σ σ':St} {r:Option (Out×St)} (h:ev O n a σ=some (.normal,σ')) (k:ev O n b σ'=r):ev O n (.seq a b) σ=r:=by
 simp only[ev,h];exact k
theorem z1e {O:Ora} {n id:Nat} {a:ACode} {σ σ':St} (h:ev O n a σ=some (.exit id,σ')):ev O n (.block id a) σ=some (.normal,σ'):=by simp only[ev,h,if_true]
theorem z2q {O:Ora} {n id:Nat} {a:ACode} {σ σ':St} (h:ev O n a σ=some (.ret,σ')):ev O n (.block id a) σ=some (.ret,σ'):=by simp only[ev,h]
theorem Q6 {f:St→Option (Out×St)} {hd:St→St} {k:Nat} {σ σ1 σ':St} {r:Option (Out×St)} (h0:hd σ=σ1) (h:f σ1=some (.normal,σ')) (g:iter f hd k σ'=r):iter f hd (k+1) σ=r:=by
 simp only[iter,h0,h];exact g
def sL:ACode→ACode
 | .seq a _=>a
 | .block _ a=>a
 | .loop _ a=>a
 |_=> .bad
def sR:ACode→ACode
 | .seq _ b=>b
 |_=> .bad
def isSeq:ACode→Bool
 | .seq _ _=>true
 |_=>false
theorem z0w {N:Nat} {c:ACode} (h:isSeq c=true):relive N c= .seq (relive N (sL c)) (relive N (sR c)):=by
 cases c<;>first|(cases h;done)|rfl
end Go.Vs
end
section
namespace Go.Vs
def spT:Nat→ACode→ACode
 |0,_=> .skip
 |k+1,.seq a b=> .seq a (spT k b)
 |_+1,c=>c
def spD:Nat→ACode→ACode
 |0,c=>c
 |k+1,.seq _ b=>spD k b
 |_+1,_=> .skip
theorem yF {O:Ora} {N n:Nat} {r:Option (Out×St)} {σ':St}: ∀(k:Nat) (c:ACode) {σ:St},ev O n (relive N (spT k c)) σ=some (.normal,σ')→ev O n (relive N (spD k c)) σ'=r→ev O n (relive N c) σ=r
 |0,c,σ,h,g=>by
  simp only[spT,relive,ev,Option.some.injEq,Prod.mk.injEq,true_and] at h
  subst h
  simpa only[spD] using g
 |k+1,c,σ,h,g=>by
  cases c<;>first|(simp only[spT,spD,relive,ev,Option.some.injEq,Prod.mk.injEq,reduceCtorEq,false_and,true_and] at h g⊢;first|(rw[h];exact g)|(subst h;exact g)|(cases h;done))|skip
  all_goals try (simp only[spT,spD] at h g;rw[show ev O n (relive N .skip) σ'=some (.normal,σ') by simp only[relive,ev]] at g;rw[h];exact g)
  rename_i a b
  simp only[spT,spD,relive,ev] at h g⊢
  split at h
  ·rename_i σ1 he
   exact yF k b h g
  ·rename_i he
   cases hq:ev O n (relive N a) σ with
   |none=>rw[hq] at h;cases h
   |some q=>
    rw[hq] at h
    injection h with h
    exact absurd (by rw[hq,h]) (he σ')
def sT:Nat→ACode→ACode
 |k,.ops l=> .ops (l.take k)
 |_,_=> .bad
def sD:Nat→ACode→ACode
 |k,.ops l=> .ops (l.drop k)
 |_,_=> .bad
theorem Uv (O:Oracle): ∀(a b:List AOper) (σ:St),evOps O (a++b) σ=(evOps O a σ).bind (evOps O b)
 | [],b,σ=>rfl
 |o::a,b,σ=>by
  simp only[List.cons_append,evOps]
  cases evOper O o σ with
  |none=>rfl
  |some s=>simp only[w17];exact Uv O a b s
theorem qC {O:Ora} {N n:Nat} {c:ACode} {r:Option (Out×St)} {σ σ':St} (k:Nat) (h:ev O n (relive N (sT k c)) σ=some (.normal,σ')) (g:ev O n (relive N (sD k c)) σ'=r):ev O n (relive N c) σ=r:=by
 cases c<;>first|(simp only[sT,relive,ev] at h;cases h;done)|skip
 rename_i l
 simp only[sT,sD,relive,ev] at h g⊢
 rw[←List.take_append_drop k l,Uv]
 cases he:evOps O.call (l.take k) σ with
 |none=>rw[he] at h;cases h
 |some s=>
  rw[he] at h
  simp only[w04,Option.some.injEq,Prod.mk.injEq,true_and] at h
  subst h
  simp only[w17,List.drop_append_of_le_length,List.take_append_drop]
  exact g
theorem z47 {O:Ora} {N n d f:Nat} {fl:Bool} {c:ACode} {xs:List Opd} {av:List AV} {ρ ρ':List AV} {m m':Mem} {r:AV} (hc:c= .ops [⟨some d,.call (.c (.fn (.func f) [] [])) xs,none,fl⟩])
  (ha:xs.map (fun p=>p.ev ρ)=av) (h:O.call (some f) av m=some (r,m')) (hr:ρ.set d r=ρ'):ev O n (relive N c) ⟨ρ,m⟩=some (.normal,⟨ρ',m'⟩):=by
 subst hc;subst hr;subst ha
 simp only[relive,ev,evOps,evOper,wanted,evOp,evCall,show∀v,(Opd.c v).ev ρ=v from fun _=>rfl,List.nil_append,List.append_nil,h,w04,w17,setDst]
noncomputable def fnEnd (fn:AFunc) (m:Mem) (ρ:List AV) (m1:Mem):Option (AV×Mem):=(evRess ⟨ρ,m1⟩ fn.res).bind fun vs=>leave m m1 (packRes vs)
def fnRegs (fn:AFunc) (av:List AV):List AV:=av++List.replicate (fn.ntmps-av.length) (.tup [])
theorem Tf {tab:Nat→Option AFunc} {gl:Nat→Bool} {n f:Nat} {fn:AFunc} {av ρ0 ρ1:List AV} {m m0 m1 m':Mem} {r:AV} (b:Nat) (hb:b<2) (hf:tab f=some fn) (hg:gl f=false) (hρ:fnRegs fn av=ρ0) (hm:enter m=m0)
  (h:ev (callG (reTab tab) gl n) n (relive fn.ntmps fn.body) ⟨ρ0,m0⟩=some (outOf b,⟨ρ1,m1⟩)) (hr:fnEnd fn m ρ1 m1=some (r,m')):(callG (reTab tab) gl (n+1)).call (some f) av m=some (r,m'):=by
 subst hρ;subst hm
 have e: ∀o,(o= .normal∨o= .ret)→ev (callG (reTab tab) gl n) n (relive fn.ntmps fn.body) ⟨fnRegs fn av,enter m⟩=some (o,⟨ρ1,m1⟩)→(callG (reTab tab) gl (n+1)).call (some f) av m=some (r,m'):=by
  intro o ho h
  unfold fnRegs at h
  simp only[callG,reTab,hf,w04,hg,evFnC,evFn,reliveF,h]
  rcases ho with rfl|rfl<;>exact hr
 match b,hb,h with
 |0,_,h=>exact e _ (.inl rfl) h
 |1,_,h=>exact e _ (.inr rfl) h
def blockOf:ACode→Option Nat
 | .block i _=>some i
 |_=>none
theorem z3e {O:Ora} {N n i:Nat} {c:ACode} {σ σ':St} (hc:blockOf c=some i) (h:ev O n (relive N (sL c)) σ=some (.exit i,σ')):ev O n (relive N c) σ=some (.normal,σ'):=by
 cases c<;>first|(cases hc;done)|(injection hc with hc;subst hc;exact z1e h)
theorem z48 {O:Ora} {N n i:Nat} {c:ACode} {σ σ':St} (hc:blockOf c=some i) (h:ev O n (relive N (sL c)) σ=some (.ret,σ')):ev O n (relive N c) σ=some (.ret,σ'):=by
 cases c<;>first|(cases hc;done)|exact z2q h
theorem z3w {O:Ora} {N n:Nat} {c:ACode} {r:Option (Out×St)} {σ σ':St} (o:Out) (ho:(match o with| .ret=>true| .exit _=>true|_=>false)=true) (hs:isSeq c=true) (h:ev O n (relive N (sL c)) σ=some (o,σ')) (hr:r=some (o,σ')):ev O n (relive N c) σ=r:=by
 cases c<;>first|(cases hs;done)|skip
 subst hr
 simp only[sL,relive,ev] at h⊢
 rw[h]
 cases o<;>first|(cases ho;done)|rfl
def loopOf:ACode→Option (List Nat)
 | .loop l _=>some l
 |_=>none
noncomputable def lpI (O:Ora) (N n nb:Nat) (c:ACode) (live:List Nat) (k:Nat) (σ:St):Option (Out×St):=iter (ev O n (relive N (sL c))) (heads (ren N live) nb) k σ
theorem z1x {O:Ora} {N n nb:Nat} {c:ACode} {live:List Nat} {ρ:List AV} {m:Mem} {r:Option (Out×St)} (hc:loopOf c=some live) (hn:m.cur.length=nb) (h:lpI O N n nb c live n ⟨ρ,m⟩=r):ev O n (relive N c) ⟨ρ,m⟩=r:=by
 cases c<;>first|(cases hc;done)|skip
 injection hc with hc;subst hc;subst hn
 exact h
theorem Uq {N nb:Nat} {live:List Nat} {ρ:List AV} {m:Mem} (hk:loopKind live=2) (hN:N≤1024) (hl:ρ.length=N):heads (ren N live) nb ⟨ρ,m⟩=⟨ρ,{m with cur:=m.cur.take nb}⟩:=by
 have h1: ¬(live.head? =some 777777∨live.head? =some 888888):=by intro h;simp only[loopKind,h,if_true] at hk;cases hk
 have h2: ¬(live.contains 999999=true):=by intro h;simp only[loopKind,h1,h,if_false,if_true] at hk;cases hk
 have e:ren N live=List.range N:=by unfold ren;rw[if_neg h1,if_neg h2]
 unfold heads
 rw[e,ue (fun i hi=>Uc N i hi) hl]
 unfold cut
 by_cases hN:(List.range N).contains 999999=true
 ·exfalso
  simp only[List.contains_iff_mem,List.mem_range] at hN
  omega
 ·rw[if_neg hN]
theorem z0V {N nb:Nat} {live:List Nat} {ρ:List AV} {m:Mem} (hk:loopKind live=1) (hl:ρ.length=N):heads (ren N live) nb ⟨ρ,m⟩=⟨ρ,m⟩:=by
 have h1: ¬(live.head? =some 777777∨live.head? =some 888888):=by intro h;simp only[loopKind,h,if_true] at hk;cases hk
 have h2:live.contains 999999=true:=by
  by_cases h:live.contains 999999=true
  ·exact h
  ·simp only[loopKind,h1,h,if_false] at hk;cases hk
 have e:ren N live=List.range N++[999999]:=by unfold ren;rw[if_neg h1,if_pos h2]
 unfold heads
 rw[e,ue (fun i hi=>by simp[hi]) hl]
 unfold cut
 rw[if_pos (by simp)]
section
variable {O : Ora} {N n nb k : Nat} {c : ACode} {live : List Nat} {ρ : List AV} {m m1 : Mem} {r : Option (Out × St)}
theorem z2z {σ':St} (hk:loopKind live=2) (hN:N≤1024) (hl:ρ.length=N) (hm:{m with cur:=m.cur.take nb}=m1) (h:ev O n (relive N (sL c)) ⟨ρ,m1⟩=some (.normal,σ')) (g:lpI O N n nb c live k σ'=r):lpI O N n nb c live (k+1) ⟨ρ,m⟩=r:=
 Q6 ((Uq hk hN hl).trans (by rw[hm])) h g
theorem z1O {σ':St} (hk:loopKind live=1) (hl:ρ.length=N) (h:ev O n (relive N (sL c)) ⟨ρ,m⟩=some (.normal,σ')) (g:lpI O N n nb c live k σ'=r):lpI O N n nb c live (k+1) ⟨ρ,m⟩=r:=
 Q6 (z0V hk hl) h g
theorem z1t {σ':St} (o:Out) (ho:(match o with| .ret=>true| .exit _=>true|_=>false)=true) (hk:loopKind live=2) (hN:N≤1024) (hl:ρ.length=N) (hm:{m with cur:=m.cur.take nb}=m1) (h:ev O n (relive N (sL c)) ⟨ρ,m1⟩=some (o,σ')):lpI O N n nb c live (k+1) ⟨ρ,m⟩=some (o,σ'):=by
 unfold lpI
 simp only[iter,(Uq hk hN hl).trans (by rw[hm]),h]
 cases o<;>first|(cases ho;done)|rfl
end
theorem Yc {O:Ora} {N n:Nat} {c:ACode} {r:Option (Out×St)} {σ σ':St} (hs:isSeq c=true) (h:ev O n (relive N (sL c)) σ=some (.normal,σ')) (g:ev O n (relive N (sR c)) σ'=r):ev O n (relive N c) σ=r:=by
 rw[z0w hs];exact z4r h g
noncomputable def kRnds (N:Nat) (f:Tr→Mem→KE) (keep:Bool) (nb j:Nat):Tr→Mem→KE:=
 Nat.rec (motive:=fun _=>Tr→Mem→KE) (fun τ m=> .nrm τ m) (fun _ ih τ m=>KE.rec .no (fun τ' m'=>ih τ' m') (fun _ _=> .no) (fun _ _ _=> .no) (fun _ _ _=> .no) (Bool.rec (kCut nb m (f τ)) (f τ m) keep)) j
theorem X1 {tab:Nat→Option AFunc} {gl:Nat→Bool} {N n nb k:Nat} {c:ACode} {live:List Nat} {keep:Bool} (hN:N≤1024) (hk:loopKind live=if keep then 1 else 2) {r:Option (Out×St)}: ∀(j:Nat) {τ τ':Tr} {ρ:List AV} {m m':Mem},Fr N ρ τ→
  kRnds N (fun τ m=>(kC N (sL c)).run (kOraG tab gl n) n τ m) keep nb j τ m= .nrm τ' m'→(∀ρ',Fr N ρ' τ'→lpI (callG (reTab tab) gl n) N n nb c live k ⟨ρ',m'⟩=r)→lpI (callG (reTab tab) gl n) N n nb c live (k+j) ⟨ρ,m⟩=r
 |0,τ,τ',ρ,m,m',hF,h,g=>by injection h with h1 h2;subst h1;subst h2;exact g ρ hF
 |j+1,τ,τ',ρ,m,m',hF,h,g=>by
  cases keep with
  |true=>
   have h:KE.rec (motive:=fun _=>KE) .no (fun τ1 m1=>kRnds N (fun τ m=>(kC N (sL c)).run (kOraG tab gl n) n τ m) true nb j τ1 m1) (fun _ _=> .no) (fun _ _ _=> .no) (fun _ _ _=> .no) ((kC N (sL c)).run (kOraG tab gl n) n τ m)= .nrm τ' m':=h
   have q:=QD (kOraG tab gl n) (callG (reTab tab) gl n) (jS tab gl n) n (sL c) hF m
   cases hq:(kC N (sL c)).run (kOraG tab gl n) n τ m with
   |nrm τ1 m1=>
    rw[hq] at h q
    obtain⟨ρ1,hF1,e⟩:=q
    exact z1O hk hF.len e (X1 hN hk j hF1 h g)
   |_=>rw[hq] at h;cases h
  |false=>
   have h:KE.rec (motive:=fun _=>KE) .no (fun τ1 m1=>kRnds N (fun τ m=>(kC N (sL c)).run (kOraG tab gl n) n τ m) false nb j τ1 m1) (fun _ _=> .no) (fun _ _ _=> .no) (fun _ _ _=> .no) (kCut nb m ((kC N (sL c)).run (kOraG tab gl n) n τ))= .nrm τ' m':=h
   rw[z1C] at h
   have q:=QD (kOraG tab gl n) (callG (reTab tab) gl n) (jS tab gl n) n (sL c) hF {m with cur:=m.cur.take nb}
   cases hq:(kC N (sL c)).run (kOraG tab gl n) n τ {m with cur:=m.cur.take nb} with
   |nrm τ1 m1=>
    rw[hq] at h q
    obtain⟨ρ1,hF1,e⟩:=q
    exact z2z hk hN hF.len rfl e (X1 hN hk j hF1 h g)
   |_=>rw[hq] at h;cases h
theorem zx {tab:Nat→Option AFunc} {gl:Nat→Bool} {N n nb k k':Nat} {c:ACode} {live:List Nat} {r:Option (Out×St)} (j:Nat) (keep:Bool) {ρ ρ':List AV} {m m':Mem} (hN:N≤1024) (hl:ρ.length=N) (hk:loopKind live=if keep then 1 else 2) (hj:k+j=k')
  (h:kSnap N (kRnds N (fun τ m=>(kC N (sL c)).run (kOraG tab gl n) n τ m) keep nb j (kArgs ρ 0 kNil) m)=some (0,ρ',m')) (g:lpI (callG (reTab tab) gl n) N n nb c live k ⟨ρ',m'⟩=r):lpI (callG (reTab tab) gl n) N n nb c live k' ⟨ρ,m⟩=r:=by
 subst hj
 have f:=tS ρ 0 (Yf hN) (by omega)
 have e:(List.replicate N (AV.tup [])).take 0++ρ++(List.replicate N (AV.tup [])).drop (0+ρ.length)=ρ:=by simp[hl]
 rw[e] at f
 cases hq:kRnds N (fun τ m=>(kC N (sL c)).run (kOraG tab gl n) n τ m) keep nb j (kArgs ρ 0 kNil) m with
 |nrm τ1 m1=>
  rw[hq] at h
  have h:some (0,kList τ1 N 0,m1)=some (0,ρ',m'):=h
  injection h with h;injection h with h1 h;injection h with h2 h3
  subst h3
  refine X1 hN hk j f hq fun ρ1 hF=> ?_
  have:ρ1=ρ':=(jU hF).symm.trans h2
  subst this
  exact g
 |no=>rw[hq] at h;cases h
 |ret τ1 m1=>rw[hq] at h;injection h with h;injection h with h1 h;cases h1
 |exit i τ1 m1=>rw[hq] at h;injection h with h;injection h with h1 h;cases h1
 |goto i τ1 m1=>rw[hq] at h;cases h
theorem YW {P:Program} {tab:Nat→Option AFunc} (gl:Nat→Bool) (hM:P.follows .mixedOrders=true) (hT:TabOk P tab) {f:Nat} (n:Nat) {m':Mem} (hc:(callG (reTab tab) gl n).call (some f) [] Mem.zero=some (.bool true,m')):Known P f true:=by
 obtain⟨h1,h2⟩:=(show CallOk P .top f [] Mem.zero _ m' from(QW hM (z2A hT) n).1 .top (some f) [] Mem.zero _ m' hc (Nat.zero_le _))
 refine⟨h1,fun w=>(h2 (_root_.Go.Vs.G.zero w.heap.size) w [] trivial (z32 w) (Reps.nil _ _)).mono fun e w' ⟨v,g',he,hx,_,hr⟩=> ?_⟩
 rw[he,hr.inv_bool]
 exact⟨rfl,hx.below⟩
namespace Sn
def i (n:Nat):AV:= .int .i64 (.ofNat n)
def u (n:Nat):AV:= .int .u8 (.ofNat n)
def q (n:Nat):AV:= .int .u64 (.ofNat n)
def T:AV:= .bool true
def F:AV:= .bool false
def e:AV:= .tup []
def p (l k st off:Nat):AV:= .ptr l k st off
def G (l:List AV):AV:= .agg l
def L (s t:Nat) (l:List AV):AV:= .list s (.id t) l
def N (s:Nat) (l:List AV):AV:= .list s .none l
def Fl (s:Nat) (l:List AV):AV:= .list s .full l
end Sn
end Go.Vs
end
section
namespace Go.Proofs.W
open Go.Vs Go.Vs.U
set_option maxRecDepth 100000
theorem tabp0Ok:TabOk Tryz.prog tabp0:=by
 intro f afn h
 unfold tabp0 at h
 split at h
 ·exact tab1 (n:=v3) Tryz.func4 (by kernel_rfl) h
 ·exact tab1 (n:=xO) Tryz.func6 (by kernel_rfl) h
 ·exact tab1 (n:=Wn) Tryz.func8 (by kernel_rfl) h
 ·exact tab1 (n:=tG) Tryz.func9 (by kernel_rfl) h
 ·exact tab1 (n:=Qg) Tryz.func12 (by kernel_rfl) h
 ·exact tab1 (n:=u5) Tryz.func14 (by kernel_rfl) h
 ·exact tab1 (n:=YS) Tryz.func15 (by kernel_rfl) h
 ·exact tab1 (n:=YQ) Tryz.func16 (by kernel_rfl) h
 ·exact tab1 (n:=YR) Tryz.func17 (by kernel_rfl) h
 ·exact tab1 (n:=t2) Tryz.func18 (by kernel_rfl) h
 ·exact tab1 (n:=Ta) Tryz.func24 (by kernel_rfl) h
 ·exact tab1 (n:=u4) Tryz.func27 (by kernel_rfl) h
 ·exact tab1 (n:=Yz) Tryz.func28 (by kernel_rfl) h
 ·exact tab1 (n:=ZF) Tryz.func29 (by kernel_rfl) h
 ·exact tab1 (n:=t1) Tryz.func30 (by kernel_rfl) h
 ·exact tab1 (n:=YA) Tryz.func31 (by kernel_rfl) h
 ·exact tab1 (n:=ZE) Tryz.func32 (by kernel_rfl) h
 ·exact tab1 (n:=UY) Tryz.func33 (by kernel_rfl) h
 ·exact tab1 (n:=tL) Tryz.func34 (by kernel_rfl) h
 ·exact tab1 (n:=jM) Tryz.func35 (by kernel_rfl) h
 ·exact tab1 (n:=tJ) Tryz.func36 (by kernel_rfl) h
 ·exact tab1 (n:=tH) Tryz.func37 (by kernel_rfl) h
 ·exact tab1 (n:=t0) Tryz.func38 (by kernel_rfl) h
 ·exact tab1 (n:=T3) Tryz.func39 (by kernel_rfl) h
 ·exact tab1 (n:=WJ) Tryz.func40 (by kernel_rfl) h
 ·exact tab1 (n:=Qh) Tryz.func41 (by kernel_rfl) h
 ·exact tab1 (n:=ZL) Tryz.func43 (by kernel_rfl) h
 ·exact tab1 (n:=YP) Tryz.func44 (by kernel_rfl) h
 ·exact tab1 (n:=WW) Tryz.func45 (by kernel_rfl) h
 ·exact tab1 (n:=YO) Tryz.func46 (by kernel_rfl) h
 ·exact tab1 (n:=WX) Tryz.func47 (by kernel_rfl) h
 ·exact tab1 (n:=Wz) Tryz.func48 (by kernel_rfl) h
 ·exact tab1 (n:=xZ) Tryz.func49 (by kernel_rfl) h
 ·exact tab1 (n:=xY) Tryz.func50 (by kernel_rfl) h
 ·exact tab1 (n:=Yx) Tryz.func51 (by kernel_rfl) h
 ·exact tab1 (n:=YI) Tryz.func55 (by kernel_rfl) h
 ·exact tab1 (n:=ZJ) Tryz.func58 (by kernel_rfl) h
 ·exact tab1 (n:=WV) Tryz.func60 (by kernel_rfl) h
 ·exact tab1 (n:=WT) Tryz.func61 (by kernel_rfl) h
 ·exact tab1 (n:=Yy) Tryz.func62 (by kernel_rfl) h
 ·exact tab1 (n:=WA) Tryz.func63 (by kernel_rfl) h
 ·exact tab1 (n:=T6) Tryz.func64 (by kernel_rfl) h
 ·exact tab1 (n:=tI) Tryz.func65 (by kernel_rfl) h
 ·exact tab1 (n:=WB) Tryz.func66 (by kernel_rfl) h
 ·exact tab1 (n:=ky) Tryz.func67 (by kernel_rfl) h
 ·exact tab1 (n:=jP) Tryz.func68 (by kernel_rfl) h
 ·exact tab1 (n:=YB) Tryz.func69 (by kernel_rfl) h
 ·exact tab1 (n:=qJ) Tryz.func70 (by kernel_rfl) h
 ·exact tab1 (n:=qI) Tryz.func71 (by kernel_rfl) h
 ·exact tab1 (n:=Qf) Tryz.func72 (by kernel_rfl) h
 ·exact tab1 (n:=tK) Tryz.func73 (by kernel_rfl) h
 ·exact tab1 (n:=Yr) Tryz.func74 (by kernel_rfl) h
 ·exact tab1 (n:=Wt) Tryz.func75 (by kernel_rfl) h
 ·exact tab1 (n:=Ws) Tryz.func76 (by kernel_rfl) h
 ·exact tab1 (n:=y7) Tryz.func77 (by kernel_rfl) h
 ·exact tab1 (n:=ZM) Tryz.func78 (by kernel_rfl) h
 ·exact tab1 (n:=z0D) Tryz.func79 (by kernel_rfl) h
 ·exact tab1 (n:=Yq) Tryz.func80 (by kernel_rfl) h
 ·exact tab1 (n:=ZB) Tryz.func81 (by kernel_rfl) h
 ·exact tab1 (n:=jm) Tryz.func82 (by kernel_rfl) h
 ·exact tab1 (n:=Wx) Tryz.func83 (by kernel_rfl) h
 ·exact tab1 (n:=WY) Tryz.func84 (by kernel_rfl) h
 ·exact tab1 (n:=T2) Tryz.func85 (by kernel_rfl) h
 ·exact tab1 (n:=tP) Tryz.func86 (by kernel_rfl) h
 ·exact tab1 (n:=t6) Tryz.func87 (by kernel_rfl) h
 ·exact tab1 (n:=qO) Tryz.func88 (by kernel_rfl) h
 ·exact tab1 (n:=u7) Tryz.func89 (by kernel_rfl) h
 ·exact tab1 (n:=Qr) Tryz.func94 (by kernel_rfl) h
 ·exact tab1 (n:=WU) Tryz.func99 (by kernel_rfl) h
 ·exact tab1 (n:=UV) Tryz.func100 (by kernel_rfl) h
 ·exact tab1 (n:=T5) Tryz.func101 (by kernel_rfl) h
 ·exact tab1 (n:=ZD) Tryz.func102 (by kernel_rfl) h
 ·exact tab1 (n:=T7) Tryz.func103 (by kernel_rfl) h
 ·exact tab1 (n:=jk) Tryz.func104 (by kernel_rfl) h
 ·exact tab1 (n:=kr) Tryz.func105 (by kernel_rfl) h
 ·exact tab1 (n:=Wq) Tryz.func106 (by kernel_rfl) h
 ·exact tab1 (n:=Qd) Tryz.func107 (by kernel_rfl) h
 ·exact tab1 (n:=US) Tryz.func108 (by kernel_rfl) h
 ·exact tab1 (n:=Qc) Tryz.func109 (by kernel_rfl) h
 ·exact tab1 (n:=Ww) Tryz.func110 (by kernel_rfl) h
 ·exact tab1 (n:=Wy) Tryz.func111 (by kernel_rfl) h
 ·exact tab1 (n:=kw) Tryz.func112 (by kernel_rfl) h
 ·exact tab1 (n:=WH) Tryz.func113 (by kernel_rfl) h
 ·exact tab1 (n:=WC) Tryz.func114 (by kernel_rfl) h
 ·exact tab1 (n:=kE) Tryz.func115 (by kernel_rfl) h
 ·exact tab1 (n:=t7) Tryz.func116 (by kernel_rfl) h
 ·exact tab1 (n:=Qe) Tryz.func117 (by kernel_rfl) h
 ·exact tab1 (n:=Wm) Tryz.func118 (by kernel_rfl) h
 ·exact tab1 (n:=UX) Tryz.func119 (by kernel_rfl) h
 ·exact tab1 (n:=Zz) Tryz.func120 (by kernel_rfl) h
 ·exact tab1 (n:=WS) Tryz.func127 (by kernel_rfl) h
 ·exact tab1 (n:=WR) Tryz.func128 (by kernel_rfl) h
 ·exact tab1 (n:=jp) Tryz.func129 (by kernel_rfl) h
 ·exact tab1 (n:=WQ) Tryz.func130 (by kernel_rfl) h
 ·exact tab1 (n:=jn) Tryz.func131 (by kernel_rfl) h
 ·exact tab1 (n:=WP) Tryz.func132 (by kernel_rfl) h
 ·exact tab1 (n:=tO) Tryz.func133 (by kernel_rfl) h
 ·exact tab1 (n:=WO) Tryz.func134 (by kernel_rfl) h
 ·exact tab1 (n:=jo) Tryz.func135 (by kernel_rfl) h
 ·exact tab1 (n:=WN) Tryz.func136 (by kernel_rfl) h
 ·cases h
theorem tabp1Ok:TabOk Tryz.prog tabp1:=by
 intro f afn h
 unfold tabp1 at h
 split at h
 ·exact tab1 (n:=qQ) Tryz.func137 (by kernel_rfl) h
 ·exact tab1 (n:=WM) Tryz.func138 (by kernel_rfl) h
 ·exact tab1 (n:=Tb) Tryz.func144 (by kernel_rfl) h
 ·exact tab1 (n:=xe) Tryz.func145 (by kernel_rfl) h
 ·exact tab1 (n:=Wp) Tryz.func146 (by kernel_rfl) h
 ·exact tab1 (n:=Wu) Tryz.func147 (by kernel_rfl) h
 ·exact tab1 (n:=Yv) Tryz.func148 (by kernel_rfl) h
 ·exact tab1 (n:=qL) Tryz.func149 (by kernel_rfl) h
 ·exact tab1 (n:=kD) Tryz.func150 (by kernel_rfl) h
 ·exact tab1 (n:=YD) Tryz.func151 (by kernel_rfl) h
 ·exact tab1 (n:=jl) Tryz.func152 (by kernel_rfl) h
 ·exact tab1 (n:=T1) Tryz.func153 (by kernel_rfl) h
 ·exact tab1 (n:=YF) Tryz.func154 (by kernel_rfl) h
 ·exact tab1 (n:=YC) Tryz.func155 (by kernel_rfl) h
 ·exact tab1 (n:=WG) Tryz.func156 (by kernel_rfl) h
 ·exact tab1 (n:=WI) Tryz.func157 (by kernel_rfl) h
 ·exact tab1 (n:=Qn) Tryz.func158 (by kernel_rfl) h
 ·exact tab1 (n:=Wl) Tryz.func159 (by kernel_rfl) h
 ·exact tab1 (n:=Qk) Tryz.func160 (by kernel_rfl) h
 ·exact tab1 (n:=Yw) Tryz.func161 (by kernel_rfl) h
 ·exact tab1 (n:=ZI) Tryz.func165 (by kernel_rfl) h
 ·exact tab1 (n:=Qo) Tryz.func166 (by kernel_rfl) h
 ·exact tab1 (n:=uu) Tryz.func167 (by kernel_rfl) h
 ·exact tab1 (n:=kF) Tryz.func168 (by kernel_rfl) h
 ·exact tab1 (n:=T4) Tryz.func169 (by kernel_rfl) h
 ·exact tab1 (n:=jQ) Tryz.func170 (by kernel_rfl) h
 ·exact tab1 (n:=YK) Tryz.func173 (by kernel_rfl) h
 ·exact tab1 (n:=tc) Tryz.func174 (by kernel_rfl) h
 ·exact tab1 (n:=uv) Tryz.func175 (by kernel_rfl) h
 ·exact tab1 (n:=vG) Tryz.func176 (by kernel_rfl) h
 ·exact tab1 (n:=T8) Tryz.func177 (by kernel_rfl) h
 ·exact tab1 (n:=Qm) Tryz.func178 (by kernel_rfl) h
 ·exact tab1 (n:=Wr) Tryz.func179 (by kernel_rfl) h
 ·exact tab1 (n:=WF) Tryz.func180 (by kernel_rfl) h
 ·exact tab1 (n:=zM) Tryz.func181 (by kernel_rfl) h
 ·exact tab1 (n:=ZA) Tryz.func182 (by kernel_rfl) h
 ·exact tab1 (n:=Yu) Tryz.func183 (by kernel_rfl) h
 ·exact tab1 (n:=ks) Tryz.func184 (by kernel_rfl) h
 ·exact tab1 (n:=Ys) Tryz.func185 (by kernel_rfl) h
 ·exact tab1 (n:=UW) Tryz.func186 (by kernel_rfl) h
 ·exact tab1 (n:=vC) Tryz.func187 (by kernel_rfl) h
 ·exact tab1 (n:=UT) Tryz.func188 (by kernel_rfl) h
 ·exact tab1 (n:=qK) Tryz.func189 (by kernel_rfl) h
 ·exact tab1 (n:=t3) Tryz.func190 (by kernel_rfl) h
 ·exact tab1 (n:=qM) Tryz.func191 (by kernel_rfl) h
 ·exact tab1 (n:=Wo) Tryz.func192 (by kernel_rfl) h
 ·exact tab1 (n:=Zy) Tryz.func193 (by kernel_rfl) h
 ·exact tab1 (n:=kz) Tryz.func194 (by kernel_rfl) h
 ·exact tab1 (n:=UZ) Tryz.func195 (by kernel_rfl) h
 ·exact tab1 (n:=YG) Tryz.func196 (by kernel_rfl) h
 ·exact tab1 (n:=T0) Tryz.func197 (by kernel_rfl) h
 ·exact tab1 (n:=zT) Tryz.func198 (by kernel_rfl) h
 ·exact tab1 (n:=ZH) Tryz.func199 (by kernel_rfl) h
 ·exact tab1 (n:=Wv) Tryz.func200 (by kernel_rfl) h
 ·exact tab1 (n:=Qi) Tryz.func201 (by kernel_rfl) h
 ·exact tab1 (n:=Qj) Tryz.func202 (by kernel_rfl) h
 ·exact tab1 (n:=Ql) Tryz.func203 (by kernel_rfl) h
 ·exact tab1 (n:=z0E) Tryz.func204 (by kernel_rfl) h
 ·exact tab1 (n:=YJ) Tryz.func206 (by kernel_rfl) h
 ·exact tab1 (n:=yr) Tryz.func207 (by kernel_rfl) h
 ·exact tab1 (n:=qP) Tryz.func208 (by kernel_rfl) h
 ·exact tab1 (n:=T9) Tryz.func209 (by kernel_rfl) h
 ·exact tab1 (n:=WK) Tryz.func210 (by kernel_rfl) h
 ·exact tab1 (n:=kG) Tryz.func211 (by kernel_rfl) h
 ·exact tab1 (n:=vD) Tryz.func212 (by kernel_rfl) h
 ·exact tab1 (n:=YN) Tryz.func213 (by kernel_rfl) h
 ·exact tab1 (n:=t8) Tryz.func214 (by kernel_rfl) h
 ·exact tab1 (n:=ta) Tryz.func215 (by kernel_rfl) h
 ·exact tab1 (n:=vF) Tryz.func216 (by kernel_rfl) h
 ·exact tab1 (n:=xr) Tryz.func217 (by kernel_rfl) h
 ·exact tab1 (n:=v8) Tryz.func218 (by kernel_rfl) h
 ·exact tab1 (n:=qR) Tryz.func219 (by kernel_rfl) h
 ·exact tab1 (n:=vE) Tryz.func220 (by kernel_rfl) h
 ·exact tab1 (n:=u9) Tryz.func221 (by kernel_rfl) h
 ·exact tab1 (n:=td) Tryz.func222 (by kernel_rfl) h
 ·exact tab1 (n:=uw) Tryz.func223 (by kernel_rfl) h
 ·exact tab1 (n:=t9) Tryz.func224 (by kernel_rfl) h
 ·exact tab1 (n:=Qq) Tryz.func225 (by kernel_rfl) h
 ·exact tab1 (n:=ut) Tryz.func226 (by kernel_rfl) h
 ·exact tab1 (n:=ux) Tryz.func227 (by kernel_rfl) h
 ·exact tab1 (n:=Qp) Tryz.func228 (by kernel_rfl) h
 ·exact tab1 (n:=YL) Tryz.func229 (by kernel_rfl) h
 ·exact tab1 (n:=WE) Tryz.func230 (by kernel_rfl) h
 ·exact tab1 (n:=ZG) Tryz.func231 (by kernel_rfl) h
 ·exact tab1 (n:=y2) Tryz.func232 (by kernel_rfl) h
 ·exact tab1 (n:=Yt) Tryz.func233 (by kernel_rfl) h
 ·exact tab1 (n:=qN) Tryz.func234 (by kernel_rfl) h
 ·exact tab1 (n:=UU) Tryz.func235 (by kernel_rfl) h
 ·exact tab1 (n:=YE) Tryz.func236 (by kernel_rfl) h
 ·exact tab1 (n:=y8) Tryz.func237 (by kernel_rfl) h
 ·exact tab1 (n:=yV) Tryz.func238 (by kernel_rfl) h
 ·exact tab1 (n:=WL) Tryz.func239 (by kernel_rfl) h
 ·exact tab1 (n:=v7) Tryz.func240 (by kernel_rfl) h
 ·exact tab1 (n:=xq) Tryz.func241 (by kernel_rfl) h
 ·exact tab1 (n:=vH) Tryz.func242 (by kernel_rfl) h
 ·exact tab1 (n:=t5) Tryz.func243 (by kernel_rfl) h
 ·exact tab1 (n:=tM) Tryz.func244 (by kernel_rfl) h
 ·exact tab1 (n:=tN) Tryz.func245 (by kernel_rfl) h
 ·exact tab1 (n:=WD) Tryz.func246 (by kernel_rfl) h
 ·exact tab1 (n:=t4) Tryz.func247 (by kernel_rfl) h
 ·cases h
theorem tabp2Ok:TabOk Tryz.prog tabp2:=by
 intro f afn h
 unfold tabp2 at h
 split at h
 ·exact tab1 (n:=vB) Tryz.func248 (by kernel_rfl) h
 ·exact tab1 (n:=v6) Tryz.func249 (by kernel_rfl) h
 ·exact tab1 (n:=xP) Tryz.func250 (by kernel_rfl) h
 ·exact tab1 (n:=ZC) Tryz.func251 (by kernel_rfl) h
 ·exact tab1 (n:=yO) Tryz.func252 (by kernel_rfl) h
 ·exact tab1 (n:=xE) Tryz.func253 (by kernel_rfl) h
 ·exact tab1 (n:=yP) Tryz.func254 (by kernel_rfl) h
 ·exact tab1 (n:=x7) Tryz.func255 (by kernel_rfl) h
 ·exact tab1 (n:=yU) Tryz.func256 (by kernel_rfl) h
 ·exact tab1 (n:=zZ) Tryz.func257 (by kernel_rfl) h
 ·exact tab1 (n:=YM) Tryz.func258 (by kernel_rfl) h
 ·exact tab1 (n:=yz) Tryz.func259 (by kernel_rfl) h
 ·exact tab1 (n:=xp) Tryz.func260 (by kernel_rfl) h
 ·exact tab1 (n:=jO) Tryz.func261 (by kernel_rfl) h
 ·exact tab1 (n:=jN) Tryz.func262 (by kernel_rfl) h
 ·exact tab1 (n:=xD) Tryz.func263 (by kernel_rfl) h
 ·exact tab1 (n:=u6) Tryz.func264 (by kernel_rfl) h
 ·exact tab1 (n:=ur) Tryz.func265 (by kernel_rfl) h
 ·exact tab1 (n:=yA) Tryz.func266 (by kernel_rfl) h
 ·exact tab1 (n:=v5) Tryz.func267 (by kernel_rfl) h
 ·exact tab1 (n:=ZK) Tryz.func268 (by kernel_rfl) h
 ·exact tab1 (n:=v4) Tryz.func269 (by kernel_rfl) h
 ·cases h
theorem tabOk:TabOk Tryz.prog tab:=by
 intro f afn h
 unfold tab at h
 cases h0:tabp0 f with
 |some a=>rw[h0] at h;exact tabp0Ok f afn (h0.trans h)
 |none=>
 rw[h0] at h
 cases h1:tabp1 f with
 |some a=>rw[h1] at h;exact tabp1Ok f afn (h1.trans h)
 |none=>
 rw[h1] at h
 exact tabp2Ok f afn h
end Go.Proofs.W
end
