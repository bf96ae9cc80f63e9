/-
  Part 1 of the proof, shared by claims of this seat: MVsa, MVsb, MVsc, MVsd, MVse, MVsf, MVsg, MVsh, MVsi, MVsj, MVsk, MVseq.
-/
import Derived.Calls
import Derived.Orders
import Derived.Below
import Derived.Deep.AppendSrc
import Derived.Deep.MidRow
import Derived.Great.FillDense
import Derived.Laws.Strings
import Derived.Laws.MakeOwn
import Derived.Laws.BytesString
import Derived.Laws.AppendOwn
import Derived.Laws.StructEq
set_option maxHeartbeats 64000000
set_option maxRecDepth 1000000
set_option linter.unusedVariables false
set_option linter.unusedSimpArgs false
open Nat renaming reduceMul → G2, reduceAdd → G3, reduceSub → G4, reduceEqDiff → G6, reduceBEq → G7, reduceLT → G8, reduceLeDiff → G9, le_refl → w08, min_eq_left → w0c, zero_le → w0e, mul_one → w11, zero_add → w1f, lt_succ_of_lt → w3c, add_mul → w40, lt_or_ge → w43, add_assoc → w48, lt_of_lt_of_le → w55
open Int renaming reduceEq → H0, reduceLT → H1, reduceLE → H2, reduceAdd → H3, reduceSub → H4, reduceMul → H5, reducePow → H6, reduceToNat → H7, ofNat_lt → w02, toNat_natCast → w07, toNat_zero → w18, toNat_of_nonneg → w45
open Option renaming map_eq_some_iff → w00, bind_eq_some_iff → w05, map_some → w06, map_none → w0d, getD_some → w32, bind_some → w36
open List renaming getD_eq_getElem?_getD → w03, getElem_mem → w04, mem_append → w0b, getElem?_eq_some_iff → w13, length_append → w15, getElem?_append_left → w1b, mem_singleton → w1c, getElem?_eq_getElem → w1d, append_assoc → w1e, length_take → w20, append_nil → w21, getElem?_map → w22, mem_cons_self → w24, cons_append → w26, ext_getElem? → w27, eq_nil_of_length_eq_zero → w2a, map_append → w2b, mem_cons_of_mem → w2c, flatMap_cons → w2d, nil_append → w2e, map_cons → w30, modify_eq_take_cons_drop → w33, take_of_length_le → w35, all_eq_true → w37, getElem?_append_right → w39, mem_of_getElem? → w3a, flatten_cons → w3e, getElem?_take → w3f, mem_map → w42, replicate_succ → w44, length_nil → w46, length_drop → w47, mem_iff_getElem → w49, getElem?_cons_succ → w4e, nodup_append → w4f, mem_append_left → w52, mem_cons → w57, length_map → w58, mem_append_right → w5a, set_eq_take_append_cons_drop → w5c
open Bool renaming and_eq_true → w09, false_and → w16, and_false → w17, false_eq_true → w25, or_eq_false_iff → w28, or_eq_true → w2f
open Array renaming getElem?_eq_some_iff → w31, getD_eq_getD_getElem? → w38, getElem?_eq_getElem → w51
section
namespace Go.Vs
inductive Tok where
 |none
 |full
 |id (t:Nat)
inductive AV where
 |bool (b:Bool)
 |int (k:IntKind) (n:Int)
 |str (s:List UInt8)
 |nils
 |list (s:Nat) (tk:Tok) (xs:List AV)
 |arr (l k st off len:Nat)
 |grow (s l k st len:Nat)
 |ptr (l k st off:Nat)
 |ro (cs:List AV)
 |nilptr
 |mapR (l k st:Nat)
 |yld (l k st:Nat)
 |fn (f:Fn) (first caps:List AV)
 |nilfn
 |agg (cs:List AV)
 |tup (vs:List AV)
 |undef
def AV.cells:AV→List AV
 | .agg cs=>cs
 | .undef=>[]
 |v=>[v]
def AV.one:AV→Bool
 | .agg _| .tup _| .undef=>false
 |_=>true
def allOne:List AV→Bool
 | []=>true
 |c::r=>c.one&&allOne r
structure Blk where
 st:Nat
 cs:List AV
structure Mem where
 stk:List (List Blk)
 cur:List Blk
 nx:Nat
 live:List (List Nat)
 floor:Nat
def hasTok (t:Nat):List (List Nat)→Bool
 | []=>false
 |h::r=>h.contains t||hasTok t r
def dropTok (t:Nat):List (List Nat)→List (List Nat)
 | []=>[]
 |h::r=>if h.contains t then h.erase t::r else h::dropTok t r
def addTok (t:Nat):List (List Nat)→List (List Nat)
 | []=>[[t]]
 |h::r=>(t::h)::r
def pushToks:List Nat→List (List Nat)→List (List Nat)
 | [],l=>l
 |t::ts,[]=>[t::ts]
 |t::ts,h::r=>(t::ts++h)::r
def addAt (t:Nat):Nat→List (List Nat)→List (List Nat)
 |0,l=>addTok t l
 |_+1,[]=>[]
 |j+1,h::r=>h::addAt t j r
def sink1 (j t:Nat):List (List Nat)→List (List Nat)
 | []=>[]
 |h::r=>if h.contains t then h.erase t::addAt t (j-1) r else h::r
def sink (j:Nat):List Nat→List (List Nat)→List (List Nat)
 | [],l=>l
 |t::ts,l=>sink j ts (sink1 j t l)
def Mem.row (m:Mem) (l:Nat):List Blk:=if l==m.stk.length then m.cur else m.stk.getD l []
def Mem.blk (m:Mem) (l k st:Nat):Option (List AV):=
 match (m.row l)[k]? with
 |some b=>if b.st==st then some b.cs else none
 |none=>none
def Mem.put (m:Mem) (l k st:Nat) (cs:List AV):Mem:=
 if l==m.stk.length then{m with cur:=m.cur.set k ⟨st,cs⟩} else{m with stk:=m.stk.modify l fun f=>f.set k ⟨st,cs⟩}
def Mem.putS (m:Mem) (l k st:Nat) (cs:List AV) (ts:List Nat):Mem:=
 if l==m.stk.length then{m with cur:=m.cur.set k ⟨st,cs⟩} else{m with stk:=m.stk.modify l fun f=>f.set k ⟨st,cs⟩,live:=sink (m.stk.length-l) ts m.live}
def Mem.new (m:Mem) (cs:List AV):AV×Mem:=
 (.ptr m.stk.length m.cur.length m.nx 0,{m with cur:=m.cur++[⟨m.nx,cs⟩],nx:=m.nx+1})
inductive Opd where
 |t (i:Nat)
 |c (v:AV)
inductive XOp where
 |bad
 |eqA (neg:Bool) (n:Nat) (ls:List (Nat×Nat)) (x y:Opd)
 |isNil (neg:Bool) (kd:Nat) (x:Opd)
 |wload (agg:Bool) (n:Nat) (a:Opd)
 |nilChk (x:Opd)
 |mkmap
 |mget (kk:Bool) (z:AV) (x k:Opd)
 |mput (kk:Bool) (x k v:Opd)
 |copy (s:Nat) (d x:Opd)
 |litB (s:Nat) (ps:List Opd)
 |clr (z:List AV) (x:Opd)
inductive AOp where
 |ext (e:XOp)
 |mov (x:Opd)
 |pick (c a b:Opd)
 |alloc (z:List AV)
 |box (n:Nat) (x:Opd)
 |build (z:List AV) (ps:List (Nat×Nat×Opd))
 |lit (s:Nat) (ps:List Opd)
 |load (agg:Bool) (n:Nat) (a:Opd)
 |store (n:Nat) (a x:Opd)
 |bin (op:BinOp) (x y:Opd)
 |beq (neg:Bool) (x y:Opd)
 |un (op:UnOp) (x:Opd)
 |conv (k:IntKind) (x:Opd)
 |convS (x:Opd)
 |toStr (x:Opd)
 |toBytes (x:Opd)
 |mkfn (f:Fn) (first caps:List Opd)
 |faddr (off:Nat) (a:Opd)
 |field (agg:Bool) (n off:Nat) (x:Opd)
 |iaddr (s:Nat) (x i:Opd)
 |iaddrA (len s:Nat) (x i:Opd)
 |indexS (x i:Opd)
 |indexA (len s:Nat) (agg:Bool) (x i:Opd)
 |len (x:Opd)
 |lenS (x:Opd)
 |app (s bytes:Nat) (x y:Opd)
 |mx (x y:Opd)
 |mn (x y:Opd)
 |slice (s:Nat) (x:Opd) (lo hi mx:Option Opd)
 |sliceA (len s:Nat) (x:Opd) (lo hi:Option Opd)
 |sliceS (x:Opd) (lo hi:Option Opd)
 |make (s bytes:Nat) (z:List AV) (n c:Opd)
 |extract (x:Opd) (i:Nat)
 |call (f:Opd) (args:List Opd)
structure AOper where
 dst:Option Nat
 op:AOp
 guard:Option (Nat×Bool)
 flt:Bool
inductive ACode where
 |bad
 |const (v:AV)
 |skip
 |ret
 |exit (id:Nat)
 |ops (l:List AOper)
 |draw (l:List AOper)
 |seq (a b:ACode)
 |cond (c:Opd) (a b:ACode)
 |block (id:Nat) (a:ACode)
 |loop (live:List Nat) (a:ACode)
 |frz (ts:List Nat)
 |rangeF (f:Opd) (ps:List Nat) (a b:ACode)
inductive ARes where
 |tmp (t:Nat)
 |cell (a:Nat) (agg:Bool) (n:Nat)
structure AFunc where
 ntmps:Nat
 res:List ARes
 body:ACode
def Opd.ev (ρ:List AV):Opd→AV
 | .t i=>ρ.getD i (.tup [])
 | .c v=>v
def takeV (agg:Bool) (n:Nat) (cs:List AV):Option AV:=
 if n≤cs.length then(match agg with|true=>some (.agg (cs.take n))|false=>cs.head?) else none
def Mem.at (m:Mem):AV→Option (List AV)
 | .ptr l k st off=>(m.blk l k st).map fun cs=>cs.drop off
 | .ro cs=>some cs
 |_=>none
def splice (cs:List AV) (off:Nat) (new:List AV):List AV:=cs.take off++new++cs.drop (off+new.length)
mutual
def AV.toks:AV→List Nat
 | .list _ (.id t) _=>[t]
 | .agg cs=>toksAll cs
 | .tup vs=>toksAll vs
 |_=>[]
def toksAll:List AV→List Nat
 | []=>[]
 |c::r=>c.toks++toksAll r
end
def evStore (m:Mem) (n:Nat) (a x:AV):Option (AV×Mem):=
 match a with
 | .ptr l k st off=>
  match m.blk l k st with
  |some cs=>
   if x.cells.length==n&&allOne x.cells&&decide (off+n≤cs.length)&&(decide (m.floor≤l)||l==m.stk.length) then some (.tup [],m.putS l k st (splice cs off x.cells) x.toks) else none
  |none=>none
 |_=>none
def evBits (op:BinOp) (k:IntKind) (x y:Int):Option AV:=
 let a:=BitVec.ofInt k.bits x
 let b:=BitVec.ofInt k.bits y
 match op with
 | .and=>some (.int k (k.wrap (a&&&b).toNat))
 | .or=>some (.int k (k.wrap (a|||b).toNat))
 | .xor=>some (.int k (k.wrap (a^^^b).toNat))
 | .andNot=>some (.int k (k.wrap (a&&& ~~~b).toNat))
 |_=>none
def evInt (op:BinOp) (k:IntKind) (x y:Int):Option AV:=
 match op with
 | .add=>some (.int k (k.wrap (x+y)))
 | .sub=>some (.int k (k.wrap (x-y)))
 | .mul=>some (.int k (k.wrap (x*y)))
 | .quo=>if y=0 then none else some (.int k (k.wrap (x.tdiv y)))
 | .rem=>if y=0 then none else some (.int k (x.tmod y))
 | .and| .or| .xor| .andNot=>evBits op k x y
 | .eql=>some (.bool (x==y))
 | .neq=>some (.bool (x !=y))
 | .lss=>some (.bool (decide (x<y)))
 | .leq=>some (.bool (decide (x≤y)))
 | .gtr=>some (.bool (decide (x>y)))
 | .geq=>some (.bool (decide (x≥y)))
 |_=>none
def evShift (op:BinOp) (k:IntKind) (x y:Int):Option AV:=
 if y<0 then none else
 match op with
 | .shl=>some (.int k (k.wrap (x*2^(min y.toNat k.bits))))
 | .shr=>some (.int k (x.fdiv (2^(min y.toNat k.bits))))
 |_=>none
def evStr (op:BinOp) (x y:List UInt8):Option AV:=
 match op with
 | .add=>if((x.length+y.length:Nat):Int)>9223372036854775807 then none else some (.str (x++y))
 | .eql=>some (.bool (x==y))
 | .neq=>some (.bool (!(x==y)))
 | .lss=>some (.bool (Op.bytesLess x y))
 | .leq=>some (.bool (Op.bytesLess x y||x==y))
 | .gtr=>some (.bool (!(Op.bytesLess x y||x==y)))
 | .geq=>some (.bool (!Op.bytesLess x y))
 |_=>none
def sameKind:IntKind→IntKind→Bool
 | .i8,.i8| .i16,.i16| .i32,.i32| .i64,.i64| .u8,.u8| .u16,.u16| .u32,.u32| .u64,.u64=>true
 |_,_=>false
def evBin (op:BinOp) (x y:AV):Option AV:=
 match x,y with
 | .int k a,.int k' b=>
  match op with
  | .shl=>evShift .shl k a b
  | .shr=>evShift .shr k a b
  |_=>if sameKind k k' then evInt op k a b else none
 | .str a,.str b=>evStr op a b
 |_,_=>none
def evUn (op:UnOp) (x:AV):Option AV:=
 match op,x with
 | .neg,.int k n=>some (.int k (k.wrap (0-n)))
 | .xor,.int k n=>evBits .xor k (if k.signed then-1 else k.max) n
 | .not,.bool b=>some (.bool !b)
 |_,_=>none
def byteOf:AV→Option UInt8
 | .int .u8 n=>some (UInt8.ofNat n.toNat)
 |_=>none
def bytesOf:List AV→Option (List UInt8)
 | []=>some []
 |x::r=>match byteOf x,bytesOf r with
  |some b,some l=>some (b::l)
  |_,_=>none
def ofBytes (l:List UInt8):List AV:=l.map fun b=> .int .u8 b.toNat
def idx (i:AV) (n:Nat):Option Nat:=
 match i with
 | .int _ j=>if 0≤j∧j<n then some j.toNat else none
 |_=>none
def evIaddr (s:Nat) (x i:AV):Option AV:=
 match x with
 | .list s' _ xs=>if s'==s then(idx i xs.length).bind fun j=>(xs[j]?).map fun e=> .ro e.cells else none
 | .arr l k st off len=>(idx i len).map fun j=> .ptr l k st (off+j*s)
 | .grow _ l k st len=>(idx i len).map fun j=> .ptr l k st (j*s)
 |_=>none
def evIaddrA (len s:Nat) (x i:AV):Option AV:=
 match x with
 | .ptr l k st off=>(idx i len).map fun j=> .ptr l k st (off+j*s)
 | .ro cs=>(idx i len).map fun j=> .ro (cs.drop (j*s))
 |_=>none
def Tok.drop:Tok→Tok
 | .full=> .full
 |_=> .none
def bound (x:Option AV) (most dflt:Nat):Option Nat:=
 match x with
 |none=>some dflt
 |some (.int _ j)=>if 0≤j∧j≤most then some j.toNat else none
 |some _=>none
def evSlice (s:Nat) (x:AV) (lo hi mx:Option AV):Option AV:=
 match x with
 | .nils=>match mx with
  |none=>(bound hi 0 0).bind fun h=>(bound lo h 0).map fun _=> .nils
  |some m=>(bound (some m) 0 0).bind fun m'=>(bound hi m' 0).bind fun h=>(bound lo h 0).map fun _=> .nils
 | .list s' tk xs=>
  if s'==s then
   match mx with
   |none=>(bound hi xs.length xs.length).bind fun h=>(bound lo h 0).map fun l=>
     .list s (if h==xs.length&&(l==0||decide (l<xs.length)) then tk else .none) ((xs.take h).drop l)
   |some m=>(bound (some m) xs.length 0).bind fun m'=>(bound hi m' 0).bind fun h=>(bound lo h 0).map fun l=>
     .list s (if h==m' then .full else .none) ((xs.take h).drop l)
  else none
 | .arr l k st off len=>
  match mx with
  |none=>(bound hi len len).bind fun h=>(bound lo h 0).map fun i=> .arr l k st (off+i*s) (h-i)
  |some m=>(bound (some m) len 0).bind fun m'=>(bound hi m' 0).bind fun h=>(bound lo h 0).map fun i=> .arr l k st (off+i*s) (h-i)
 | .grow s' l k st len=>
  match mx with
  |none=>(bound hi len len).bind fun h=>(bound lo h 0).map fun i=>if i==0 then .grow s' l k st h else .arr l k st (i*s) (h-i)
  |some m=>(bound (some m) len 0).bind fun m'=>(bound hi m' 0).bind fun h=>(bound lo h 0).map fun i=> .arr l k st (i*s) (h-i)
 |_=>none
def evSliceS (x:AV) (lo hi:Option AV):Option AV:=
 match x with
 | .str b=>(bound hi b.length b.length).bind fun h=>(bound lo h 0).map fun l=> .str ((b.take h).drop l)
 |_=>none
def evSliceA (n s:Nat) (x:AV) (lo hi:Option AV):Option AV:=
 match x with
 | .ptr l k st off=>(bound hi n n).bind fun h=>(bound lo h 0).map fun i=> .arr l k st (off+i*s) (h-i)
 |_=>none
def elemsOf (s:Nat):AV→Option (List AV)
 | .nils=>some []
 | .list s' _ xs=>if s'==s then some xs else none
 | .str b=>if s==1 then some (ofBytes b) else none
 |_=>none
def chunk (s:Nat):Nat→List AV→List AV
 |0,_=>[]
 |n+1,cs=>(if s==1 then cs.headD .undef else .agg (cs.take s))::chunk s n (cs.drop s)
def Mem.elems (m:Mem) (s:Nat):AV→Option (List AV)
 | .arr l k st off len=>match m.blk l k st with
  |some cs=>if decide (off+len*s≤cs.length)&&allOne ((cs.drop off).take (len*s)) then some (chunk s len (cs.drop off)) else none
  |none=>none
 | .grow _ l k st len=>match m.blk l k st with
  |some cs=>if decide (0+len*s≤cs.length)&&allOne ((cs.drop 0).take (len*s)) then some (chunk s len (cs.drop 0)) else none
  |none=>none
 |y=>elemsOf s y
def evApp (m:Mem) (s bytes:Nat) (x y:AV):Option (AV×Mem):=
 match m.elems s y with
 |none=>none
 |some []=>match x with
  | .nils=>some (.nils,m)
  | .list s' tk xs=>if s'==s then some (.list s tk xs,m) else none
  | .grow s' l k st len=>if s'==s then some (.grow s l k st len,m) else none
  |_=>none
 |some (e::r)=>
  match x with
  | .nils=>
   if(e::r).length*bytes≤140737488355328 then some (.list s (.id m.nx) (e::r),{m with nx:=m.nx+1,live:=addTok m.nx m.live}) else none
  | .list s' tk xs=>
   if s'==s&&decide ((xs.length+(e::r).length)*bytes≤140737488355328) then
    match tk with
    | .none=>none
    | .full=>some (.list s (.id m.nx) (xs++(e::r)),{m with nx:=m.nx+1,live:=addTok m.nx m.live})
    | .id t=>if hasTok t m.live then some (.list s (.id m.nx) (xs++(e::r)),{m with nx:=m.nx+1,live:=addTok m.nx (dropTok t m.live)}) else none
   else none
  | .grow s' l k st len=>
   match m.blk l k st with
   |some cs=>
    if s'==s&&decide ((len+(e::r).length)*bytes≤140737488355328)&&decide (len*s≤cs.length)&&decide (m.floor≤l) then
     some (.grow s l k m.nx (len+(e::r).length),{m.put l k m.nx (cs.take (len*s)++(e::r).flatMap AV.cells) with nx:=m.nx+1})
    else none
   |none=>none
  |_=>none
def evMax (x y:AV):Option AV:=
 match x,y with
 | .int k a,.int _ b=>some (.int k (if b>a then b else a))
 |_,_=>none
def evMin (x y:AV):Option AV:=
 match x,y with
 | .int k a,.int _ b=>some (.int k (if b<a then b else a))
 |_,_=>none
def flatRep (z:List AV):Nat→List AV
 |0=>[]
 |n+1=>z++flatRep z n
def evMake (m:Mem) (s bytes:Nat) (z:List AV) (n c:AV):Option (AV×Mem):=
 match n,c with
 | .int _ a,.int _ b=>
  if a=b∧0≤a∧bytes*a≤281474976710656∧a≤9223372036854775807∧z.length=s then
   some (.arr m.stk.length m.cur.length m.nx 0 a.toNat,{m with cur:=m.cur++[⟨m.nx,flatRep z a.toNat⟩],nx:=m.nx+1})
  else none
 |_,_=>none
def evBuild (z:List AV) (ρ:List AV):List (Nat×Nat×Opd)→Option (List AV)
 | []=>some z
 |(off,n,x)::r=>
  if(x.ev ρ).cells.length==n&&decide (off+n≤z.length) then evBuild (splice z off (x.ev ρ).cells) ρ r else none
def evFaddr (off:Nat):AV→Option AV
 | .ptr l k st o=>some (.ptr l k st (o+off))
 | .ro cs=>some (.ro (cs.drop off))
 |_=>none
def AV.asArr:AV→AV
 | .grow _ l k st len=> .arr l k st 0 len
 |v=>v
def evToStr0 (m:Mem):AV→Option AV
 | .nils=>some (.str [])
 | .list 1 _ xs=>(bytesOf xs).map fun b=> .str b
 | .arr l k st off len=>match m.blk l k st with
  |some cs=>if decide (off+len≤cs.length) then(bytesOf ((cs.drop off).take len)).map fun b=> .str b else none
  |none=>none
 |_=>none
def evToStr (m:Mem) (x:AV):Option AV:=evToStr0 m x.asArr
def evLen:AV→Option AV
 | .nils=>some (.int .i64 0)
 | .list _ _ xs=>some (.int .i64 xs.length)
 | .arr _ _ _ _ n=>some (.int .i64 n)
 | .grow _ _ _ _ n=>some (.int .i64 n)
 |_=>none
def allLen (s:Nat):List AV→Bool
 | []=>true
 |x::r=>x.cells.length==s&&allOne x.cells&&allLen s r
abbrev Oracle:=Option Nat→List AV→Mem→Option (AV×Mem)
def evCall (O:Oracle) (m:Mem) (f:AV) (args:List AV):Option (AV×Mem):=
 match f with
 | .fn (.func g) first caps=>O (some g) (first++args++caps) m
 | .yld l k st=>O none (.yld l k st::args) m
 |_=>none
def eqCell:Nat→AV→AV→Option Bool
 |0,.bool a,.bool b=>some (a==b)
 |1,.int k a,.int k' b=>if sameKind k k' then some (a==b) else none
 |2,.str a,.str b=>some (a==b)
 |_,_,_=>none
def eqAt:List (Nat×Nat)→List AV→List AV→Option Bool
 | [],_,_=>some true
 |o::r,xs,ys=>match eqCell o.2 (xs.getD o.1 .undef) (ys.getD o.1 .undef) with
  |some true=>eqAt r xs ys
  |some false=>some false
  |none=>none
def nilOf:Nat→AV→Option Bool
 |0,.nils=>some true
 |0,.list _ _ _|0,.arr _ _ _ _ _|0,.grow _ _ _ _ _=>some false
 |1,.nilptr=>some true
 |1,.ptr _ _ _ _|1,.ro _=>some false
 |2,.nilfn=>some true
 |2,.fn _ _ _=>some false
 |_,_=>none
def nilChkV:AV→Option AV
 | .ptr l k st off=>some (.ptr l k st off)
 | .ro cs=>some (.ro cs)
 |_=>none
def keyEq:Bool→AV→AV→Option Bool
 |true,.str a,.str b=>some (a==b)
 |false,.int k a,.int k' b=>if sameKind k k' then some (a==b) else none
 |_,_,_=>none
def isKey:Bool→AV→Bool
 |true,.str _=>true
 |false,.int _ _=>true
 |_,_=>false
def isPlain:AV→Bool
 | .bool _| .int _ _| .str _=>true
 |_=>false
def mapGet (kk:Bool) (z k:AV):List AV→Option AV
 | []=>some z
 | .tup [k',v]::r=>match keyEq kk k k' with
  |some true=>some v
  |some false=>mapGet kk z k r
  |none=>none
 |_=>none
def mapPut (kk:Bool) (k v:AV):List AV→Option (List AV)
 | []=>some [.tup [k,v]]
 | .tup [k',v']::r=>match keyEq kk k k' with
  |some true=>some (.tup [k,v]::r)
  |some false=>(mapPut kk k v r).map fun l=> .tup [k',v']::l
  |none=>none
 |_=>none
def Mem.ents (m:Mem):AV→Option (List AV)
 | .mapR l k st=>match m.blk l k st with
  |some [.tup ps]=>some ps
  |_=>none
 |_=>none
def evMput (m:Mem) (kk:Bool) (x k v:AV):Option (AV×Mem):=
 match x with
 | .mapR l i st=>match m.ents (.mapR l i st) with
  |some ps=>if isKey kk k&&isPlain v&&(decide (m.floor≤l)||l==m.stk.length) then(mapPut kk k v ps).map fun ps'=>(.tup [],m.put l i st [.tup ps']) else none
  |none=>none
 |_=>none
def evCopy0 (m:Mem) (s:Nat) (d x:AV):Option (AV×Mem):=
 match d,x with
 |_,.str _=>none
 | .arr l k st off len,x=>
  match m.elems s x,m.blk l k st with
  |some ys,some cs=>
   if decide (off+len*s≤cs.length)&&allOne ((ys.take len).flatMap AV.cells)&&(decide (m.floor≤l)||l==m.stk.length) then
    if min ys.length len=0 then some (.int .i64 0,m) else some (.int .i64 ((min ys.length len:Nat):Int),m.put l k st (splice cs off ((ys.take len).flatMap AV.cells)))
   else none
  |_,_=>none
 |_,_=>none
def evCopy (m:Mem) (s:Nat) (d x:AV):Option (AV×Mem):=evCopy0 m s d.asArr x
def evLitB (m:Mem) (s:Nat) (xs:List AV):Option (AV×Mem):=
 if allLen s xs then some (.grow s m.stk.length m.cur.length m.nx xs.length,{m with cur:=m.cur++[⟨m.nx,xs.flatMap AV.cells⟩],nx:=m.nx+1}) else none
def evClr0 (m:Mem) (z:List AV) (x:AV):Option (AV×Mem):=
 match x with
 | .arr l k st off len=>match m.blk l k st with
  |some cs=>if decide (off+len*z.length≤cs.length)&&allOne z&&(decide (m.floor≤l)||l==m.stk.length) then
    if len*z.length=0 then some (.tup [],m) else some (.tup [],m.put l k st (splice cs off (flatRep z len))) else none
  |none=>none
 |_=>none
def evClr (m:Mem) (z:List AV) (x:AV):Option (AV×Mem):=evClr0 m z x.asArr
def evX (ρ:List AV) (m:Mem):XOp→Option (AV×Mem)
 | .bad=>none
 | .eqA neg n ls x y=>match x.ev ρ,y.ev ρ with
  | .agg xs,.agg ys=>if xs.length==n&&ys.length==n then(eqAt ls xs ys).map fun b=>(.bool (if neg then !b else b),m) else none
  |_,_=>none
 | .isNil neg kd x=>(nilOf kd (x.ev ρ)).map fun b=>(.bool (if neg then !b else b),m)
 | .wload agg n a=>(m.at (a.ev ρ)).bind fun cs=>(takeV agg n cs).map fun v=>(v,m)
 | .nilChk x=>(nilChkV (x.ev ρ)).map fun v=>(v,m)
 | .mkmap=>some (.mapR m.stk.length m.cur.length m.nx,{m with cur:=m.cur++[⟨m.nx,[.tup []]⟩],nx:=m.nx+1})
 | .mget kk z x k=>match m.ents (x.ev ρ) with
  |some ps=>if isKey kk (k.ev ρ) then(mapGet kk z (k.ev ρ) ps).map fun v=>(v,m) else none
  |none=>none
 | .mput kk x k v=>evMput m kk (x.ev ρ) (k.ev ρ) (v.ev ρ)
 | .copy s d x=>evCopy m s (d.ev ρ) (x.ev ρ)
 | .litB s ps=>evLitB m s (ps.map fun p=>p.ev ρ)
 | .clr z x=>evClr m z (x.ev ρ)
def evOp (O:Oracle) (ρ:List AV) (m:Mem):AOp→Option (AV×Mem)
 | .ext e=>evX ρ m e
 | .mov x=>some (x.ev ρ,m)
 | .pick c a b=>match c.ev ρ with| .bool t=>some (if t then a.ev ρ else b.ev ρ,m)|_=>none
 | .alloc z=>some (m.new z)
 | .box n x=>if(x.ev ρ).cells.length==n then some (m.new (x.ev ρ).cells) else none
 | .build z ps=>(evBuild z ρ ps).map fun cs=>(.agg cs,m)
 | .lit s ps=>if allLen s (ps.map fun p=>p.ev ρ) then some (.list s .full (ps.map fun p=>p.ev ρ),m) else none
 | .load agg n a=>(m.at (a.ev ρ)).bind fun cs=>(takeV agg n cs).map fun v=>(v,m)
 | .store n a x=>evStore m n (a.ev ρ) (x.ev ρ)
 | .bin op x y=>(evBin op (x.ev ρ) (y.ev ρ)).map fun v=>(v,m)
 | .beq neg x y=>match x.ev ρ,y.ev ρ with| .bool a,.bool b=>some (.bool (if neg then !(a==b) else(a==b)),m)|_,_=>none
 | .un op x=>(evUn op (x.ev ρ)).map fun v=>(v,m)
 | .conv k x=>match x.ev ρ with| .int _ n=>some (.int k (k.wrap n),m)|_=>none
 | .convS x=>match x.ev ρ with| .str b=>some (.str b,m)|_=>none
 | .toStr x=>(evToStr m (x.ev ρ)).map fun v=>(v,m)
 | .toBytes x=>match x.ev ρ with
  | .str b=>if b.length≤140737488355328 then some (.list 1 (.id m.nx) (ofBytes b),{m with nx:=m.nx+1,live:=addTok m.nx m.live}) else none
  |_=>none
 | .mkfn f first caps=>some (.fn f (first.map fun p=>p.ev ρ) (caps.map fun p=>p.ev ρ),m)
 | .faddr off a=>(evFaddr off (a.ev ρ)).map fun v=>(v,m)
 | .field agg n off x=>match x.ev ρ with| .agg cs=>(takeV agg n (cs.drop off)).map fun v=>(v,m)|_=>none
 | .iaddr s x i=>(evIaddr s (x.ev ρ) (i.ev ρ)).map fun v=>(v,m)
 | .iaddrA n s x i=>(evIaddrA n s (x.ev ρ) (i.ev ρ)).map fun v=>(v,m)
 | .indexS x i=>match x.ev ρ with| .str b=>(idx (i.ev ρ) b.length).bind fun j=>(b[j]?).map fun c=>(.int .u8 c.toNat,m)|_=>none
 | .indexA n s agg x i=>match x.ev ρ with| .agg cs=>(idx (i.ev ρ) n).bind fun j=>(takeV agg s (cs.drop (j*s))).map fun v=>(v,m)|_=>none
 | .len x=>(evLen (x.ev ρ)).map fun v=>(v,m)
 | .lenS x=>match x.ev ρ with
  | .str b=>some (.int .i64 b.length,m)
  |_=>none
 | .app s bytes x y=>evApp m s bytes (x.ev ρ) (y.ev ρ)
 | .mx x y=>(evMax (x.ev ρ) (y.ev ρ)).map fun v=>(v,m)
 | .mn x y=>(evMin (x.ev ρ) (y.ev ρ)).map fun v=>(v,m)
 | .slice s x lo hi mx=>(evSlice s (x.ev ρ) (lo.map fun p=>p.ev ρ) (hi.map fun p=>p.ev ρ) (mx.map fun p=>p.ev ρ)).map fun v=>(v,m)
 | .sliceA n s x lo hi=>(evSliceA n s (x.ev ρ) (lo.map fun p=>p.ev ρ) (hi.map fun p=>p.ev ρ)).map fun v=>(v,m)
 | .sliceS x lo hi=>(evSliceS (x.ev ρ) (lo.map fun p=>p.ev ρ) (hi.map fun p=>p.ev ρ)).map fun v=>(v,m)
 | .make s bytes z n c=>evMake m s bytes z (n.ev ρ) (c.ev ρ)
 | .extract x i=>match x.ev ρ with| .tup vs=>(vs[i]?).map fun v=>(v,m)|_=>none
 | .call f args=>evCall O m (f.ev ρ) (args.map fun p=>p.ev ρ)
structure St where
 ρ:List AV
 m:Mem
def setDst (ρ:List AV):Option Nat→AV→List AV
 |some d,v=>ρ.set d v
 |none,_=>ρ
def wanted (ρ:List AV):Option (Nat×Bool)→Option Bool
 |none=>some true
 |some (g,want)=>match ρ.getD g .undef with
  | .bool b=>some (b==want)
  | .tup []=>some false
  |_=>none
def evOper (O:Oracle) (o:AOper) (σ:St):Option St:=
 match wanted σ.ρ o.guard with
 |some true=>(evOp O σ.ρ σ.m o.op).map fun r=>⟨setDst σ.ρ o.dst r.1,r.2⟩
 |some false=>some ⟨setDst σ.ρ o.dst (.tup []),σ.m⟩
 |none=>none
def evOps (O:Oracle):List AOper→St→Option St
 | [],σ=>some σ
 |o::r,σ=>(evOper O o σ).bind (evOps O r)
def XOp.reads:XOp→List Opd
 | .bad=>[]
 | .eqA _ _ _ x y=>[x,y]
 | .isNil _ _ x=>[x]
 | .wload _ _ x=>[x]
 | .nilChk x=>[x]
 | .mkmap=>[]
 | .mget _ _ x k=>[x,k]
 | .mput _ x k v=>[x,k,v]
 | .copy _ d x=>[d,x]
 | .litB _ ps=>ps
 | .clr _ x=>[x]
def XOp.kind:XOp→Nat
 | .bad| .eqA _ _ _ _ _| .isNil _ _ _| .nilChk _=>0
 | .wload _ _ _=>1
 | .mkmap| .mget _ _ _ _| .mput _ _ _ _| .copy _ _ _| .litB _ _| .clr _ _=>2
def XOp.isPut:XOp→Bool
 | .mput _ _ _ _| .copy _ _ _| .clr _ _=>true
 |_=>false
def AOp.reads:AOp→List Opd
 | .ext e=>e.reads
 | .mov x| .un _ x| .conv _ x| .convS x| .toStr x| .toBytes x| .faddr _ x| .field _ _ _ x| .box _ x| .load _ _ x| .len x| .lenS x| .extract x _=>[x]
 | .pick c a b=>[c,a,b]
 | .alloc _=>[]
 | .build _ ps=>ps.map fun p=>p.2.2
 | .lit _ ps=>ps
 | .store _ a x=>[a,x]
 | .bin _ x y| .beq _ x y| .iaddr _ x y| .iaddrA _ _ x y| .indexS x y| .indexA _ _ _ x y| .app _ _ x y| .mx x y| .mn x y| .make _ _ _ x y=>[x,y]
 | .mkfn _ first caps=>first++caps
 | .slice _ x lo hi top=>x::(lo.toList++hi.toList++top.toList)
 | .sliceA _ _ x lo hi| .sliceS x lo hi=>x::(lo.toList++hi.toList)
 | .call f args=>f::args
def AOp.isStore:AOp→Bool
 | .store _ _ _=>true
 | .ext e=>e.isPut
 |_=>false
def AOp.kind:AOp→Nat
 | .ext e=>e.kind
 | .alloc _| .box _ _| .store _ _ _| .toBytes _| .app _ _ _ _| .make _ _ _ _ _| .call _ _=>2
 | .load _ _ _| .toStr _=>1
 |_=>0
def kindA:AOp→Bool
 | .alloc _| .box _ _| .make _ _ _ _ _| .ext (.litB _ _)=>true
 |_=>false
def mvB (op:AOp):Bool:=decide (op.kind=2)&& !kindA op
abbrev Watch:=List (Nat×Nat×Nat×Nat×List AV)
def Tok.eqB:Tok→Tok→Bool
 | .none,.none=>true
 | .full,.full=>true
 | .id a,.id b=>Nat.beq a b
 |_,_=>false
theorem Tok.eqB_eq {a b:Tok} (h:a.eqB b=true):a=b:=by
 cases a<;>cases b<;>first|rfl|(cases h;done)|skip
 rw[Nat.eq_of_beq_eq_true h]
mutual
def AV.eqB:AV→AV→Bool
 | .bool a,.bool b=>a==b
 | .int k a,.int k' b=>sameKind k k'&&decide (a=b)
 | .str a,.str b=>decide (a=b)
 | .nils,.nils=>true
 | .nilptr,.nilptr=>true
 | .arr l k st off len,.arr l' k' st' off' len'=>Nat.beq l l'&&Nat.beq k k'&&Nat.beq st st'&&Nat.beq off off'&&Nat.beq len len'
 | .grow s l k st len,.grow s' l' k' st' len'=>Nat.beq s s'&&Nat.beq l l'&&Nat.beq k k'&&Nat.beq st st'&&Nat.beq len len'
 | .ptr l k st off,.ptr l' k' st' off'=>Nat.beq l l'&&Nat.beq k k'&&Nat.beq st st'&&Nat.beq off off'
 | .agg a,.agg b=>eqsB a b
 | .list s tk a,.list s' tk' b=>Nat.beq s s'&&Tok.eqB tk tk'&&eqsB a b
 |_,_=>false
def eqsB:List AV→List AV→Bool
 | [],[]=>true
 |a::r,b::s=>a.eqB b&&eqsB r s
 |_,_=>false
end
theorem z1y {k k':IntKind} (h:sameKind k k'=true):k=k':=by cases k<;>cases k'<;>first|rfl|cases h
mutual
theorem eqB_eq: ∀(a b:AV),a.eqB b=true→a=b
 | .bool a,b,h=>by cases b<;>simp[AV.eqB] at h;rw[h]
 | .int k a,b,h=>by cases b<;>simp[AV.eqB] at h;rw[z1y h.1,h.2]
 | .str a,b,h=>by cases b<;>simp[AV.eqB] at h;rw[h]
 | .nils,b,h=>by cases b<;>simp[AV.eqB] at h;rfl
 | .nilptr,b,h=>by cases b<;>simp[AV.eqB] at h;rfl
 | .arr l k st off len,b,h=>by cases b<;>simp[AV.eqB] at h;obtain⟨⟨⟨⟨h1,h2⟩,h3⟩,h4⟩,h5⟩:=h;subst h1;subst h2;subst h3;subst h4;subst h5;rfl
 | .grow s l k st len,b,h=>by cases b<;>simp[AV.eqB] at h;obtain⟨⟨⟨⟨h1,h2⟩,h3⟩,h4⟩,h5⟩:=h;subst h1;subst h2;subst h3;subst h4;subst h5;rfl
 | .ptr l k st off,b,h=>by cases b<;>simp[AV.eqB] at h;obtain⟨⟨⟨h1,h2⟩,h3⟩,h4⟩:=h;subst h1;subst h2;subst h3;subst h4;rfl
 | .agg a,b,h=>by
  cases b<;>simp[AV.eqB] at h
  rw[T8 a _ h]
 | .list s tk a,b,h=>by
  cases b<;>simp[AV.eqB] at h
  rw[h.1.1,Tok.eqB_eq h.1.2,T8 a _ h.2]
 | .ro _,_,h=>by simp[AV.eqB] at h
 | .mapR _ _ _,_,h=>by simp[AV.eqB] at h
 | .yld _ _ _,_,h=>by simp[AV.eqB] at h
 | .fn _ _ _,_,h=>by simp[AV.eqB] at h
 | .nilfn,_,h=>by simp[AV.eqB] at h
 | .tup _,_,h=>by simp[AV.eqB] at h
 | .undef,_,h=>by simp[AV.eqB] at h
theorem T8: ∀(a b:List AV),eqsB a b=true→a=b
 | [],b,h=>by cases b<;>simp[eqsB] at h;rfl
 |a::r,b,h=>by
  cases b<;>simp[eqsB] at h
  rw[eqB_eq a _ h.1,T8 r _ h.2]
end
noncomputable def same (a b:List AV):Bool:=eqsB a b|| @decide (a=b) (Classical.propDecidable _)
theorem z6l (a:List AV):same a a=true:=by
 unfold same
 simp
theorem z9H {a b:List AV} (h:same a b=true):a=b:=by
 unfold same at h
 simp only[w2f] at h
 rcases h with h|h
 ·exact T8 a b h
 ·grind
def watch (ρ:List AV) (m0:Mem) (op:AOp) (ws:Watch):Watch:=
 match op with
 | .ext (.wload _ n a)=>match a.ev ρ with
  | .ptr l k st off=>(l,k,off,n,((m0.at (.ptr l k st off)).getD []).take n)::ws
  |_=>ws
 |_=>ws
noncomputable def clear (ρ:List AV) (op:AOp) (ws:Watch):Bool:=
 match op with
 | .store n a x=>match a.ev ρ with
  | .ptr l k _ off=>ws.all fun w=>w.1 !=l||w.2.1 !=k||decide (off+n≤w.2.2.1)||decide (w.2.2.1+w.2.2.2.1≤off)||(decide (off=w.2.2.1)&&same (x.ev ρ).cells w.2.2.2.2)
  |_=>true
 | .ext (.mput _ _ _ _)| .ext (.copy _ _ _)| .ext (.clr _ _)=>false
 |_=>true
def watchG (ρ:List AV) (m0:Mem) (o:AOper) (ws:Watch):Watch:=
 match wanted ρ o.guard with
 |some true=>watch ρ m0 o.op ws
 |_=>ws
noncomputable def clearG (ρ:List AV) (o:AOper) (ws:Watch):Bool:=
 match wanted ρ o.guard with
 |some true=>clear ρ o.op ws
 |_=>true
noncomputable def evDraw (O:Oracle) (m0:Mem):Watch→List AOper→St→Option St
 |_,[],σ=>some σ
 |ws,o::r,σ=>
  match o.flt with
  |true=>match evOper O o ⟨σ.ρ,m0⟩ with
   |some σ'=>evDraw O m0 (watchG σ.ρ m0 o ws) r ⟨σ'.ρ,σ.m⟩
   |none=>none
  |false=>
   match o.op.isStore with
   |true=>
    match clearG σ.ρ o ws with
    |true=>match evOper O o ⟨σ.ρ,{σ.m with floor:=m0.floor}⟩ with
     |some σ'=>evDraw O m0 ws r ⟨σ'.ρ,{σ'.m with floor:=σ.m.floor}⟩
     |none=>none
    |false=>none
   |false=>match evOper O o σ with
    |some σ'=>evDraw O m0 ws r σ'
    |none=>none
inductive Out where
 |normal
 |exit (id:Nat)
 |ret
def clean (live:List Nat) (ρ:List AV):List AV:=ρ.zipIdx.map fun p=>if live.contains p.2 then p.1 else .undef
def cut (live:List Nat) (nb:Nat) (cur:List Blk):List Blk:=if live.contains 999999 then cur else cur.take nb
def heads (live:List Nat) (nb:Nat) (σ:St):St:=⟨clean live σ.ρ,{σ.m with cur:=cut live nb σ.m.cur}⟩
def iter (f:St→Option (Out×St)) (h:St→St):Nat→St→Option (Out×St)
 |0,_=>none
 |n+1,σ=>match f (h σ) with
  |some (.normal,σ')=>iter f h n σ'
  |r=>r
def evRes (σ:St):ARes→Option AV
 | .tmp t=>some (σ.ρ.getD t (.tup []))
 | .cell a agg n=>(σ.m.at (σ.ρ.getD a (.tup []))).bind (takeV agg n)
def evRess (σ:St):List ARes→Option (List AV)
 | []=>some []
 |r::l=>(evRes σ r).bind fun v=>(evRess σ l).map fun vs=>v::vs
def packRes:List AV→AV
 | [v]=>v
 |vs=> .tup vs
mutual
def AV.refs (l:Nat):AV→Bool
 | .arr l' _ _ _ _=>l'==l
 | .grow _ l' _ _ _=>l'==l
 | .ptr l' _ _ _=>l'==l
 | .mapR l' _ _=>l'==l
 | .yld l' _ _=>l'==l
 | .fn _ first caps=>refsAny l first||refsAny l caps
 | .agg cs=>refsAny l cs
 | .tup vs=>refsAny l vs
 |_=>false
def refsAny (l:Nat):List AV→Bool
 | []=>false
 |c::r=>c.refs l||refsAny l r
end
mutual
def AV.shift (l l' k:Nat):AV→AV
 | .arr a i st off len=>if a==l then .arr l' (i+k) st off len else .arr a i st off len
 | .grow s a i st len=>if a==l then .grow s l' (i+k) st len else .grow s a i st len
 | .ptr a i st off=>if a==l then .ptr l' (i+k) st off else .ptr a i st off
 | .mapR a i st=>if a==l then .mapR l' (i+k) st else .mapR a i st
 | .yld a i st=>if a==l then .yld l' (i+k) st else .yld a i st
 | .fn f first caps=> .fn f (shiftAll l l' k first) (shiftAll l l' k caps)
 | .agg cs=> .agg (shiftAll l l' k cs)
 | .tup vs=> .tup (shiftAll l l' k vs)
 |v=>v
def shiftAll (l l' k:Nat):List AV→List AV
 | []=>[]
 |c::r=>c.shift l l' k::shiftAll l l' k r
end
def leave (m0 m:Mem) (r:AV):Option (AV×Mem):=
 match m.stk.getLast?,m.live with
 |none,_|_,[]=>none
 |some c,own::rest=>
  let live:=pushToks (own.filter fun t=>r.toks.contains t) rest
  if r.refs m.stk.length then
   let l:=m.stk.length
   some (r.shift l (l-1) c.length,{stk:=m.stk.dropLast,cur:=c++m.cur.map (fun b=>⟨b.st,shiftAll l (l-1) c.length b.cs⟩),nx:=m.nx,live,floor:=m0.floor})
  else some (r,{stk:=m.stk.dropLast,cur:=c,nx:=m.nx,live,floor:=m0.floor})
def leaveY (m0 m:Mem) (r:AV):Option (AV×Mem):=
 match m.live with
 | []=>none
 |own::rest=>leave m0 {m with live:=[]::pushToks own rest} r
def enter (m:Mem):Mem:={stk:=m.stk++[m.cur],cur:=[],nx:=m.nx,live:=[]::m.live,floor:=m.floor}
abbrev YH:=List AV→Mem→Option (AV×Mem)
def withY (O:Oracle) (Y:YH):Oracle:=fun c args m=>match c with
 |some f=>O (some f) args m
 |none=>Y args m
structure Ora where
 call:Oracle
 iter:YH→Oracle
def loopSt (m:Mem) (l k st:Nat):Option Nat:=
 match m.blk l k st with
 |some [.int .i64 (.ofNat n)]=>some n
 |_=>none
def outCode:Out→Option Nat
 | .normal=>some 0
 | .ret=>some 2
 | .exit id=>some (3+id)
def jumpOut:Nat→Option Out
 |0=>some .normal
 |1=>none
 |2=>some .ret
 |n+3=>some (.exit n)
def setAll (ρ:List AV):List Nat→List AV→List AV
 |p::ps,x::xs=>setAll (ρ.set p x) ps xs
 |_,_=>ρ
def roundV (RA RB:St→Option (Out×St)) (ps:List Nat) (ρ:List AV) (l k st:Nat) (aS:List AV) (m:Mem):Option (AV×Mem):=
 if loopSt m l k st=some 0∧aS.length=ps.length∧m.floor≤l∧l≤m.stk.length then
  match RA ⟨setAll ρ ps aS,enter m⟩ with
  |some (.normal,σ1)=>
   if loopSt σ1.m l k st=some 0 then
    match RB ⟨σ1.ρ,σ1.m.put l k st [.int .i64 (.ofNat 1)]⟩ with
    |some (out,σ2)=>
     if loopSt σ2.m l k st=some 1 then
      match outCode out with
      |some n=>leaveY m (σ2.m.put l k st [.int .i64 (.ofNat n)]) (.bool (n==0))
      |none=>none
     else none
    |none=>none
   else none
  |_=>none
 else none
def yieldV (RA RB:St→Option (Out×St)) (ps:List Nat) (ρ:List AV) (l k st:Nat):YH:=fun args m=>
 match args with
 | .yld l' k' st'::aS=>if l'=l∧k'=k∧st'=st then roundV RA RB ps ρ l k st aS m else none
 |_=>none
def rangeEv (I:YH→Oracle) (RA RB:St→Option (Out×St)) (f:AV) (ps:List Nat) (σ:St):Option (Out×St):=
 match f with
 | .fn (.func g) [] caps=>
  match I (yieldV RA RB ps σ.ρ σ.m.stk.length σ.m.cur.length σ.m.nx) (some g) (.yld σ.m.stk.length σ.m.cur.length σ.m.nx::caps) {σ.m with cur:=σ.m.cur++[⟨σ.m.nx,[.int .i64 (.ofNat 0)]⟩],nx:=σ.m.nx+1} with
  |some (_,m2)=>match loopSt m2 σ.m.stk.length σ.m.cur.length σ.m.nx with
   |some n=>(jumpOut n).map fun o=>(o,⟨σ.ρ,m2.put σ.m.stk.length σ.m.cur.length σ.m.nx [.int .i64 (.ofNat 1)]⟩)
   |none=>none
  |none=>none
 |_=>none
def frzL (f:Mem→AV→Option (AV×Mem)):Mem→List AV→Option (List AV×Mem)
 |m,[]=>some ([],m)
 |m,c::r=>(f m c).bind fun q=>(frzL f q.2 r).map fun z=>(q.1::z.1,z.2)
def frzV:Nat→Mem→AV→Option (AV×Mem)
 |0,_,.grow _ _ _ _ _=>none
 |n+1,m,.grow s l k st len=>
  match m.blk l k st with
  |some cs=>
   if m.floor≤l∧len*s≤cs.length∧0<s then
    (frzL (frzV n) m (cs.take (len*s))).bind fun r=>
     if allOne r.1=true∧(r.2.blk l k st).isSome=true then some (.list s .none (chunk s len r.1),{r.2.put l k r.2.nx [] with nx:=r.2.nx+1}) else none
   else none
  |none=>none
 |_,m,v=>some (v,m)
def frzT:List Nat→St→Option St
 | [],σ=>some σ
 |t::r,σ=>match σ.ρ.getD t (.tup []) with
  | .ptr l k st _=>match σ.m.blk l k st with
   |some cs=>if σ.m.floor≤l then(frzL (frzV 3) σ.m cs).bind fun q=>if(q.2.blk l k st).isSome=true then frzT r ⟨σ.ρ,q.2.put l k st q.1⟩ else none else none
   |none=>none
  |v=>(frzV 3 σ.m v).bind fun q=>frzT r ⟨σ.ρ.set t q.1,q.2⟩
noncomputable def ev (O:Ora) (n:Nat):ACode→St→Option (Out×St)
 | .bad,_=>none
 | .const v,σ=>match σ.ρ with| []=>some (.normal,⟨[v],σ.m⟩)|_=>none
 | .skip,σ=>some (.normal,σ)
 | .ret,σ=>some (.ret,σ)
 | .exit id,σ=>some (.exit id,σ)
 | .ops l,σ=>(evOps O.call l σ).map fun σ'=>(.normal,σ')
 | .draw l,σ=>(evDraw O.call σ.m [] l ⟨σ.ρ,{σ.m with floor:=max σ.m.floor (σ.m.stk.length+1)}⟩).map fun σ'=>(.normal,⟨σ'.ρ,{σ'.m with floor:=σ.m.floor}⟩)
 | .seq a b,σ=>match ev O n a σ with
  |some (.normal,σ')=>ev O n b σ'
  |r=>r
 | .cond c a b,σ=>match c.ev σ.ρ with
  | .bool t=>if t then ev O n a σ else ev O n b σ
  |_=>none
 | .block id a,σ=>match ev O n a σ with
  |some (.exit i,σ')=>if i=id then some (.normal,σ') else some (.exit i,σ')
  |r=>r
 | .loop live a,σ=>iter (ev O n a) (heads live σ.m.cur.length) n σ
 | .frz ts,σ=>(frzT ts σ).map fun σ'=>(.normal,σ')
 | .rangeF f ps a b,σ=>rangeEv O.iter (ev O n a) (ev O n b) (f.ev σ.ρ) ps σ
noncomputable def evFn (O:Ora) (n:Nat) (fn:AFunc) (args:List AV) (m:Mem):Option (AV×Mem):=
 match ev O n fn.body ⟨args++List.replicate (fn.ntmps-args.length) (.tup []),enter m⟩ with
 |some (.exit _,_)=>none
 |some (_,σ)=>(evRess σ fn.res).bind fun vs=>leave m σ.m (packRes vs)
 |none=>none
noncomputable def callB (tab:Nat→Option AFunc):Nat→Ora
 |0=>⟨fun _ _ _=>none,fun _ _ _ _=>none⟩
 |n+1=>⟨fun c args m=>match c with
   |some f=>match tab f with
    |some fn=>evFn (callB tab n) n fn args m
    |none=>none
   |none=>none,fun Y c args m=>match c with
   |some f=>match tab f with
    |some fn=>evFn ⟨withY (callB tab n).call Y,(callB tab n).iter⟩ n fn args m
    |none=>none
   |none=>none⟩
noncomputable def callN (tab:Nat→Option AFunc) (n:Nat):Oracle:=(callB tab n).call
def avCell:Value→Option AV
 | .bool b=>some (.bool b)
 | .int k n=>some (.int k n)
 | .string s=>some (.str s.data.toList)
 | .pointer none=>some .nilptr
 | .slice none 0 0=>some .nils
 | .nilFunc=>some .nilfn
 |_=>none
def avCells:List Value→Option (List AV)
 | []=>some []
 |v::r=>match avCell v,avCells r with
  |some a,some l=>some (a::l)
  |_,_=>none
def avOf:Value→Option AV
 | .agg cs=>(avCells cs.toList).map .agg
 | .tuple vs=>if vs.size=0 then some (.tup []) else none
 |v=>avCell v
def compOpd:Operand→Option Opd
 | .tmp t=>some (.t t)
 | .const v=>(avOf v).map .c
 | .func f=>some (.c (.fn (.func f) [] []))
 | .global _=>none
def compOpds:List Operand→Option (List Opd)
 | []=>some []
 |x::r=>match compOpd x,compOpds r with
  |some a,some l=>some (a::l)
  |_,_=>none
def compOpt:Option Operand→Option (Option Opd)
 |none=>some none
 |some x=>(compOpd x).map some
def sizeOfT (P:Program) (t:TypeId):Option Nat:=(P.info? t).map (·.size)
def aggT (P:Program) (t:TypeId):Option Bool:=
 match P.underlying t with
 |some (.struct _)|some (.array _ _)=>some true
 |some _=>some false
 |none=>none
def zeroT (P:Program) (t:TypeId):Option AV:=((P.info? t).bind (·.zero)).bind avOf
def compParts (P:Program) (place:Nat→Option (Nat×Nat)):List (Nat×Operand)→Option (List (Nat×Nat×Opd))
 | []=>some []
 |(i,x)::r=>match place i,compOpd x,compParts P place r with
  |some (off,n),some a,some l=>if 0<n then some ((off,n,a)::l) else none
  |_,_,_=>none
def fieldPlaceT (P:Program) (fs:Array Field) (i:Nat):Option (Nat×Nat):=
 match fs[i]? with
 |some f=>match P.info? f.type with
  |some ti=>some (f.offset,ti.size)
  |none=>none
 |none=>none
def litParts:Nat→List (Nat×Operand)→Option (List Operand)
 |_,[]=>some []
 |n,(i,x)::r=>if i=n then(litParts (n+1) r).map (x:: ·) else none
def isU8 (P:Program) (e:TypeId):Bool:=match P.underlying e with|some (.int .u8)=>true|_=>false
def isBoolT (P:Program) (e:TypeId):Bool:=match P.underlying e with|some .bool=>true|_=>false
def strT (P:Program):Option TypeId:=(List.range 400).find? fun t=>match P.underlying t with|some .string=>true|_=>false
def appMake (P:Program) (e:TypeId) (x y:Operand):Option AOp:=match y,P.info? e,zeroT P e,compOpd x,strT P with
 | .const (.int _ n),some ti,some (.int .u8 0),some a,some _=>if 0<n∧n≤1048576∧ti.size=1∧ti.bytes=1 then some (.app 1 1 a (.c (.str (List.replicate n.toNat 0)))) else none
 |_,_,_,_,_=>none
def compCall (P:Program) (c:Call):Option AOp:=
 match c.callee with
 | .value f=>match compOpd f,compOpds c.args.toList with
  |some g,some l=>some (.call g l)
  |_,_=>none
 | .invoke _ _=>none
 | .builtin b=>
  match b,c.argTypes.toList,c.args.toList with
  | .len,[t],[x]=>match P.underlying t with
   |some (.slice _)=>(compOpd x).map .len
   |some .string=>(compOpd x).map .lenS
   |some (.array n _)=>some (.mov (.c (.int .i64 n)))
   |_=>none
  | .append,[s,t],[x,y]=>match P.underlying s,P.underlying t with
   |some (.slice e),some (.slice e')=>
    if e=e' then match P.info? e,compOpd x,compOpd y with
     |some ti,some a,some b=>if 0<ti.size∧0<ti.bytes∧(ti.zero.map fun z=>z.cells.size)=some ti.size then some (.app ti.size ti.bytes a b) else none
     |_,_,_=>none
    else none
   |some (.slice e),some .string=>match P.info? e,compOpd x,compOpd y with
     |some ti,some a,some b=>if 0<ti.size∧0<ti.bytes∧(ti.zero.map fun z=>z.cells.size)=some ti.size then some (.app ti.size ti.bytes a b) else none
     |_,_,_=>none
   |some (.slice e),some (.int _)=>appMake P e x y
   |_,_=>none
  | .max,_,[x,y]=>match compOpd x,compOpd y with|some a,some b=>some (.mx a b)|_,_=>none
  | .min,_,[x,y]=>match compOpd x,compOpd y with|some a,some b=>some (.mn a b)|_,_=>none
  |_,_,_=>none
def isStore:Op→Bool
 | .store _ _ _=>true
 |_=>false
def shiftL (n:Nat) (l:List (Nat×Nat)):List (Nat×Nat):=l.map fun o=>(o.1+n,o.2)
def eqFieldsP (P:Program) (L:TypeId→Option (List (Nat×Nat))) (N:Nat):List Field→Option (List (Nat×Nat))
 | []=>some []
 |f::r=>
  if f.name≠ "_" then
   match L f.type,sizeOfT P f.type,aggT P f.type,eqFieldsP P L N r with
   |some l,some n,some b,some k=>if(∀o∈l,o.1<n)∧f.offset+n≤N∧0<n∧(b=true∨n=1) then some (shiftL f.offset l++k) else none
   |_,_,_,_=>none
  else eqFieldsP P L N r
def arrLeaves (l:List (Nat×Nat)) (n:Nat):Nat→Nat→List (Nat×Nat)
 |_,0=>[]
 |i,k+1=>shiftL (i*n) l++arrLeaves l n (i+1) k
def eqLeaves (P:Program):Nat→TypeId→Option (List (Nat×Nat))
 |0,_=>none
 |d+1,t=>
  match P.underlying t with
  |some .bool=>some [(0,0)]
  |some (.int _)=>some [(0,1)]
  |some .string=>some [(0,2)]
  |some (.struct fs)=>if P.stoodInHeld t then none else(sizeOfT P t).bind fun N=>eqFieldsP P (eqLeaves P d) N fs.toList
  |some (.array len e)=>match eqLeaves P d e,sizeOfT P e,aggT P e,sizeOfT P t with
   |some l,some n,some b,some N=>if(∀o∈l,o.1<n)∧len*n≤N∧0<n∧(b=true∨n=1) then some (arrLeaves l n 0 len) else none
   |_,_,_,_=>none
  |_=>none
def nilKind (P:Program) (t:TypeId):Operand→Option Nat
 | .const (.slice none 0 0)=>match P.underlying t with|some (.slice _)=>some 0|_=>none
 | .const (.pointer none)=>match P.underlying t with|some (.pointer _)=>some 1|_=>none
 | .const .nilFunc=>match P.underlying t with|some (.func _ _ _)=>some 2|_=>none
 |_=>none
def negOf:BinOp→Option Bool
 | .eql=>some false
 | .neq=>some true
 |_=>none
def keyKindT (P:Program) (t:TypeId):Option Bool:=
 match P.underlying t with
 |some .string=>some true
 |some (.int _)=>some false
 |_=>none
def plainZero (P:Program) (t:TypeId):Option AV:=
 match zeroT P t with
 |some z=>if isPlain z then some z else none
 |none=>none
def compX (P:Program) (o:Oper):Option XOp:=
 match o.op with
 | .binOp op xt x y _=>
  match negOf op,P.underlying xt with
  |some neg,some (.struct _)=>match eqLeaves P 20 xt,sizeOfT P xt,compOpd x,compOpd y with
   |some ls,some n,some a,some b=>if P.eqGuardType P.depth xt=false then some (.eqA neg n ls a b) else none
   |_,_,_,_=>none
  |some neg,some (.array _ _)=>match eqLeaves P 20 xt,sizeOfT P xt,compOpd x,compOpd y with
   |some ls,some n,some a,some b=>if P.eqGuardType P.depth xt=false then some (.eqA neg n ls a b) else none
   |_,_,_,_=>none
  |some neg,_=>match nilKind P xt y with
   |some kd=>(compOpd x).map (.isNil neg kd)
   |none=>match nilKind P xt x with
    |some kd=>(compOpd y).map (.isNil neg kd)
    |none=>none
  |_,_=>none
 | .nilCheck x=>(compOpd x).map .nilChk
 | .call c=>match c.callee,c.argTypes.toList,c.args.toList with
  | .builtin .copy,[t,_],[x,y]=>match P.underlying t,compOpd x,compOpd y with
   |some (.slice e),some a,some b=>match P.info? e with
    |some ti=>if 0<ti.size then some (.copy ti.size a b) else none
    |none=>none
   |_,_,_=>none
  | .builtin .clear,[t],[x]=>match P.underlying t,compOpd x with
   |some (.slice e),some a=>match zeroT P e with
    |some z=>if 0<z.cells.length then some (.clr z.cells a) else none
    |none=>none
   |_,_=>none
  |_,_,_=>none
 | .makeMap t none=>match P.underlying t with
  |some (.map _ _)=>some .mkmap
  |_=>none
 | .lookup t x k false=>match P.underlying t with
  |some (.map kt et)=>match keyKindT P kt,plainZero P et,compOpd x,compOpd k with
   |some kk,some z,some a,some b=>some (.mget kk z a b)
   |_,_,_,_=>none
  |_=>none
 | .mapUpdate t x k v=>match P.underlying t with
  |some (.map kt _)=>match keyKindT P kt,compOpd x,compOpd k,compOpd v with
   |some kk,some a,some b,some c=>some (.mput kk a b c)
   |_,_,_,_=>none
  |_=>none
 |_=>none
def compOp0 (P:Program) (o:Oper):Option AOp:=
 match o.op with
 | .move x| .assign x=>(compOpd x).map .mov
 | .pick c a b=>match compOpd c,compOpd a,compOpd b with|some c,some a,some b=>some (.pick c a b)|_,_,_=>none
 | .alloc e=>(zeroT P e).bind fun z=>if 0<z.cells.length then some (.alloc z.cells) else none
 | .box e x=>match sizeOfT P e,compOpd x with|some n,some a=>if 0<n then some (.box n a) else none|_,_=>none
 | .build t ps=>match zeroT P t,P.underlying t with
  |some z,some (.struct fs)=>if fs.toList.all fun f=>(P.info? f.type).isSome then(compParts P (fieldPlaceT P fs) ps.toList).map (.build z.cells) else none
  |some z,some (.array _ e)=>match sizeOfT P e with
   |some n=>if 0<z.cells.length then(compParts P (fun i=>some (i*n,n)) ps.toList).map (.build z.cells) else none
   |none=>none
  |_,_=>none
 | .buildSlice t len ps=>match P.underlying t with
  |some (.slice e)=>match P.info? e with
   |some ti=>if 0<ti.size∧ps.size=len∧len*ti.size≤16777216∧(ti.zero.map fun z=>z.cells.size)=some ti.size then
     ((litParts 0 ps.toList).bind compOpds).map (.lit ti.size) else none
   |none=>none
  |_=>none
 | .load t a=>match aggT P t,sizeOfT P t,compOpd a with
  |some g,some n,some x=>if g||n==1 then some (.load g n x) else none
  |_,_,_=>none
 | .store t a x=>match sizeOfT P t,compOpd a,compOpd x with|some n,some a,some x=>if 0<n then some (.store n a x) else none|_,_,_=>none
 | .binOp op xt x y _=>match compOpd x,compOpd y with
  |some a,some b=>
   if isBoolT P xt then(match op with| .eql=>some (.beq false a b)| .neq=>some (.beq true a b)|_=>none) else some (.bin op a b)
  |_,_=>none
 | .unOp op _ x=>(compOpd x).map (.un op)
 | .convert src dst x=>match P.underlying src,P.underlying dst,compOpd x with
  |some (.int _),some (.int k),some a=>some (.conv k a)
  |some .string,some .string,some a=>some (.convS a)
  |some (.slice e),some .string,some a=>if isU8 P e then some (.toStr a) else none
  |some .string,some (.slice e),some a=>if isU8 P e&&(sizeOfT P e==some 1) then some (.toBytes a) else none
  |_,_,_=>none
 | .makeFunc fn first caps=>match compOpds first.toList,compOpds caps.toList with|some a,some b=>some (.mkfn fn a b)|_,_=>none
 | .fieldAddr t x i=>match P.underlying t,compOpd x with
  |some (.struct fs),some a=>match fs[i]? with
   |some f=>match P.info? f.type with
    |some ti=>if ti.size=0 then none else some (.faddr f.offset a)
    |none=>none
   |none=>none
  |_,_=>none
 | .field t x i=>match P.underlying t,compOpd x with
  |some (.struct fs),some a=>match fs[i]? with
   |some f=>match aggT P f.type,sizeOfT P f.type with
    |some g,some n=>if g||n==1 then some (.field g n f.offset a) else none
    |_,_=>none
   |none=>none
  |_,_=>none
 | .indexAddr t x i=>match P.underlying t,compOpd x,compOpd i with
  |some (.slice e),some a,some j=>(sizeOfT P e).map fun s=> .iaddr s a j
  |some (.array n e),some a,some j=>(sizeOfT P e).map fun s=> .iaddrA n s a j
  |_,_,_=>none
 | .index t x i=>match P.underlying t,compOpd x,compOpd i with
  |some .string,some a,some j=>some (.indexS a j)
  |some (.array n e),some a,some j=>match aggT P e,sizeOfT P e with
   |some g,some s=>if g||s==1 then some (.indexA n s g a j) else none
   |_,_=>none
  |_,_,_=>none
 | .slice t x lo hi mx=>match P.underlying t,compOpd x,compOpt lo,compOpt hi,compOpt mx with
  |some .string,some a,some l,some h,some none=>some (.sliceS a l h)
  |some (.slice e),some a,some l,some h,some m=>(sizeOfT P e).bind fun s=>if 0<s&&(m.isNone||h.isSome) then some (.slice s a l h m) else none
  |some (.array n e),some a,some l,some h,some none=>(sizeOfT P e).map fun s=> .sliceA n s a l h
  |_,_,_,_,_=>none
 | .makeSlice t n c=>match P.underlying t with
  |some (.slice e)=>match P.info? e,zeroT P e,compOpd n,compOpd c with
   |some ti,some z,some a,some b=>if 0<ti.size∧(ti.zero.map fun z=>z.cells.size)=some ti.size then some (.make ti.size ti.bytes z.cells a b) else none
   |_,_,_,_=>none
  |_=>none
 | .extract x i=>(compOpd x).map fun a=> .extract a i
 | .call c=>compCall P c
 |_=>none
def compOp1 (P:Program) (o:Oper):Option AOp:=
 match compX P o with
 |some e=>some (.ext e)
 |none=>match compOp0 P o with
  |some a=>some a
  |none=>if isStore o.op then none else some (.ext .bad)
def markOp (ds:List Nat) (dst:Option Nat) (op:AOp):AOp:=
 match op,dst with
 | .lit s ps,some d=>if ds.contains d then .ext (.litB s ps) else .lit s ps
 | .make s b [z] (.c (.int _ n)) (.c (.int _ n')),some d=>if z.one&&decide (n=n')&&decide (0≤n)&&decide (b*n≤281474976710656)&&decide (n≤9223372036854775807)&&Nat.beq s 1 then(if ds.contains (d+1500000) then .lit s (List.replicate n.toNat (.c z)) else if ds.contains (d+1250000) then .ext (.litB s (List.replicate n.toNat (.c z))) else op) else op
 |op,_=>op
def compOp (P:Program) (ds:List Nat) (o:Oper):Option AOp:=(compOp1 P o).map (markOp ds o.dst)
def compGuard (ops:Array Oper):Option (Nat×Bool)→Option (Option (Nat×Bool))
 |none=>some none
 |some (j,w)=>match (ops[j]?).bind (·.dst) with
  |some d=>some (some (d,w))
  |none=>none
def compOper (P:Program) (ds:List Nat) (ops:Array Oper) (o:Oper):Option AOper:=
 match compOp P ds o,compGuard ops o.guard with
 |some op,some g=>some {dst:=o.dst,op:=op,guard:=g,flt:=false}
 |_,_=>none
def compOpers (P:Program) (ds:List Nat) (ops:Array Oper):Nat→List Oper→Option (List AOper)
 |_,[]=>some []
 |i,o::r=>match compOper P ds ops o,compOpers P ds ops (i+1) r with
  |some a,some l=>some (a::l)
  |_,_=>none
def bytesLit (P:Program) (o o2:Oper):Option (Nat×Nat×List Opd):=
 match o.op,o2.op,o.dst,o2.dst with
 | .buildSlice t len ps,.convert s u (.tmp x),some d,some d2=>match P.underlying t with
  |some (.slice e)=>match P.info? e with
   |some ti=>if s=t∧u=t∧x=d∧o.guard=none∧o2.guard=none∧isU8 P e=true∧ti.size=1∧ps.size=len∧len*ti.size≤16777216∧(ti.zero.map fun z=>z.cells.size)=some ti.size then
     match (litParts 0 ps.toList).bind compOpds with
     |some l=>if l.all fun p=>match p with| .c _=>true|_=>false then some (d,d2,l) else none
     |none=>none
    else none
   |none=>none
  |_=>none
 |_,_,_,_=>none
def compOpersF (P:Program) (ds:List Nat) (ops:Array Oper):Nat→List Oper→Option (List AOper)
 |_,[]=>some []
 |i,[o]=>(compOper P ds ops o).map fun a=>[a]
 |i,o::o2::r=>match bytesLit P o o2 with
  |some (d,d2,l)=>(compOpersF P ds ops (i+2) r).map fun k=>⟨some d,.lit 1 l,none,false⟩::⟨some d2,.slice 1 (.t d) none none none,none,false⟩::k
  |none=>match compOper P ds ops o,compOpersF P ds ops (i+1) (o2::r) with
   |some a,some k=>some (a::k)
   |_,_=>none
def maskOf (acc:List Nat) (o:Oper):Nat:=
 o.after.toList.foldl (fun s e=>if Region.binds .any e then s|||2^e.on|||acc.getD e.on 0 else s) 0
def masks:List Oper→List Nat→List Nat
 | [],acc=>acc
 |o::r,acc=>masks r (acc++[maskOf acc o])
def ordered (b:List Nat) (i j:Nat):Bool:=(b.getD (max i j) 0).testBit (min i j)
def looksAt (ops:Array Oper) (o:Oper):List Nat:=
 (o.op.operands.toList.filterMap fun| .tmp t=>some t|_=>none)++
 (match o.guard with
  |some (g,_)=>((ops[g]?).bind (·.dst)).toList
  |none=>[])
def clash (ops:Array Oper) (x y:Oper):Bool:=
 (match x.dst with|some d=>(looksAt ops y).contains d||y.dst==some d|none=>false)||
 (match y.dst with|some d=>(looksAt ops x).contains d|none=>false)
def opAt (al:List AOper) (i:Nat):AOp:=match al[i]? with|some a=>a.op|none=> .ext .bad
def fltOf (al:List AOper) (n:Nat) (b:List Nat) (j:Nat):Bool:=
 (match opAt al j with| .load _ _ _=>true|_=>false)&&(List.range n).any fun i=>i !=j&&mvB (opAt al i)&& !ordered b i j
def wtOf (al:List AOper) (n:Nat) (b:List Nat) (j:Nat):Bool:=
 (List.range n).any fun i=>(opAt al i).isStore&& !ordered b i j
def markOne (al:List AOper) (n:Nat) (b:List Nat) (j:Nat) (o:AOper):AOper:=
 if fltOf al n b j then{o with flt:=true,op:=match o.op with| .load g k a=>if wtOf al n b j then .ext (.wload g k a) else o.op|_=>o.op} else o
def marked (al:List AOper) (n:Nat) (b:List Nat):Nat→List AOper→List AOper
 |_,[]=>[]
 |j,o::r=>markOne al n b j o::marked al n b (j+1) r
def pairOk (ops:Array Oper) (al:List AOper) (b:List Nat) (i j:Nat):Bool:=
 match ops[i]?,ops[j]? with
 |some x,some y=>i==j||ordered b i j||(!clash ops x y&& !(mvB (opAt al i)&&mvB (opAt al j))&& !(kindA (opAt al i)&&mvB (opAt al j)&&decide (j<i))&&
   !(mvB (opAt al i)&&decide ((opAt al j).kind=1)&& !((al[j]?).map (·.flt)).getD false&&(decide (i<j)||(opAt al i).isStore)))
 |_,_=>true
def fltOk (al:List AOper) (b:List Nat) (i j:Nat):Bool:=
 !((opAt al i).isStore&&((al[j]?).map (·.flt)).getD false)||(decide (j<i)&&(ordered b i j||(match opAt al j with| .ext (.wload _ _ _)=>true|_=>false)))
def edgesOk (ops:Array Oper) (j:Nat):Bool:=
 match ops[j]? with
 |some o=>o.after.toList.all fun e=> !Region.binds .any e||decide (e.on<j)
 |none=>true
def drawOk (ops:Array Oper) (al:List AOper) (b:List Nat):Bool:=
 (List.range ops.size).all fun i=>edgesOk ops i&&(List.range ops.size).all fun j=>pairOk ops al b i j&&fltOk al b i j
def readsIn (l:List Nat):List Opd→Bool
 | []=>true
 | .t i::r=>l.contains i&&readsIn l r
 | .c _::r=>readsIn l r
def readsOk (ops:Array Oper):List Oper→List AOper→Bool
 |o::r,a::s=>readsIn (looksAt ops o) a.op.reads&&readsOk ops r s
 |_,_=>true
def compDraw (P:Program) (ds:List Nat) (ops:Array Oper):Option (List AOper):=
 (compOpers P ds ops 0 ops.toList).bind fun al=>
  if drawOk ops (marked al ops.size (masks ops.toList []) 0 al) (masks ops.toList [])&&readsOk ops ops.toList (marked al ops.size (masks ops.toList []) 0 al) then some (marked al ops.size (masks ops.toList []) 0 al) else none
def freeOp (o:Oper):Bool:=
 (match o.op with| .alloc _=>true|_=>false)&&o.guard.isNone&&o.after.toList.all fun e=> !Region.binds .any e
def ordOf (ops:Array Oper):List Nat:=
 ((List.range ops.size).filter fun i=>match ops[i]? with|some o=>freeOp o|none=>false)++
 ((List.range ops.size).filter fun i=> !(match ops[i]? with|some o=>freeOp o|none=>false))
def posOf (ops:Array Oper) (i:Nat):Nat:=if i<ops.size then(ordOf ops).idxOf i else i
def movedTo (pos:Nat→Nat) (o:Oper):Oper:=
 {o with after:=o.after.map fun e=>{e with on:=pos e.on},guard:=o.guard.map fun g=>(pos g.1,g.2)}
def permOps (ops:Array Oper):Array Oper:=((ordOf ops).filterMap fun i=>(ops[i]?).map (movedTo (posOf ops))).toArray
def orBad (x:Option ACode):ACode:=x.getD .bad
def marksOf (a:List (List Nat)):List Nat:=match a.getLast? with
 |some (777777::ds)=>ds
 |_=>[]
def noRange:ACode→Bool
 | .seq a b| .cond _ a b=>noRange a&&noRange b
 | .block _ a| .loop _ a=>noRange a
 | .rangeF _ _ _ _=>false
 |_=>true
def frzHit (ops:List Oper) (l:List Nat):Bool:=l.head? ==some 888888&&ops.any fun o=>o.dst.isSome&&o.dst==l[1]?
def frzOf (a:List (List Nat)) (ops:List Oper):List Nat:=match a.find? (frzHit ops) with
 |some l=>l.drop 2
 |none=>[]
def regOps (ts:List Nat) (al:List AOper):ACode:=match ts with
 | []=> .ops al
 |t::r=> .seq (.frz (t::r)) (.ops al)
def comp (P:Program):Code→List (List Nat)→Option (ACode×List (List Nat))
 | .skip,a=>some (.skip,a)
 | .ret,a=>some (.ret,a)
 | .exit id,a=>some (.exit id,a)
 | .region _ ops false,a=>some (orBad ((compOpersF P (marksOf a) ops 0 ops.toList).map (regOps (frzOf a ops.toList))),a)
 | .region _ ops true,a=>some (orBad ((compDraw P (marksOf a) (permOps ops)).map .draw),a)
 | .seq x y,a=>(comp P x a).bind fun p=>(comp P y p.2).map fun q=>(.seq p.1 q.1,q.2)
 | .cond c x y,a=>(compOpd c).bind fun d=>(comp P x a).bind fun p=>(comp P y p.2).map fun q=>(.cond d p.1 q.1,q.2)
 | .block id x,a=>(comp P x a).map fun p=>(.block id p.1,p.2)
 | .loop x,a=>match a with
  | []=>none
  |live::a'=>(comp P x a').map fun p=>(.loop live p.1,p.2)
 | .rangeFunc f ps x y,a=>(comp P x a).bind fun p=>(comp P y p.2).map fun q=>(match compOpd f with
   |some d=>if noRange p.1&&noRange q.1 then .rangeF d ps.toList p.1 q.1 else .bad
   |none=> .bad,q.2)
 |_,a=>some (.bad,a)
def compRes (P:Program):List ResultVar→Option (List ARes)
 | []=>some []
 | .tmp t::r=>(compRes P r).map (.tmp t:: ·)
 | .cell a t::r=>match aggT P t,sizeOfT P t,compRes P r with
  |some g,some n,some l=>if g||n==1 then some (.cell a g n::l) else none
  |_,_,_=>none
def compFn (P:Program) (fn:Func) (ann:List (List Nat)):Option AFunc:=
 match fn.body with
 |some c=>match comp P c ann,compRes P fn.results.toList with
  |some (b,_),some r=>if fn.name== "runtime.NumGoroutine" then none else some {ntmps:=fn.ntmps,res:=r,body:=b}
  |_,_=>none
 |none=>none
end Go.Vs
end
section
namespace Go.Vs
open Go.RowKit
structure G where
 bt:Nat→Option (Nat×Nat×Nat)
 tk:Nat→Option (Nat×Nat×Nat)
 own:Nat→Nat→Option (Bool×Nat)
 base:Nat
 rs:Nat→Bool
 mp:Nat→Option Nat
def TokAt (g:G):Tok→Nat→Nat→Nat→Prop
 | .none,_,_,_=>True
 | .full,_,p,e=>p=e
 | .id t,b,p,e=>g.tk t=some (b,p,e)
inductive Rep (g:G) (w:World):AV→Value→Prop
 |bool (b:Bool):Rep g w (.bool b) (.bool b)
 |int (k:IntKind) (n:Int):Rep g w (.int k n) (.int k n)
 |str (l:List UInt8) (s:ByteArray) (h:s.data.toList=l):Rep g w (.str l) (.string s)
 |nils:Rep g w .nils (.slice none 0 0)
 |list (s:Nat) (tk:Tok) (xs:List AV) (b o cap:Nat) (f:Nat→Nat→Value)
   (hs: ∀(i:Nat) (x:AV),xs[i]? =some x→x.cells.length=s) (hcap:xs.length≤cap) (htk:TokAt g tk b (o+xs.length*s) (o+cap*s))
   (hc: ∀(i j:Nat) (x c:AV),xs[i]? =some x→x.cells[j]? =some c→w.cell? ⟨b,o+(i*s+j),none⟩=some (f i j)∧g.own b (o+(i*s+j))=none∧(f i j).oneCell'=true)
   (hr: ∀(i j:Nat) (x c:AV),xs[i]? =some x→x.cells[j]? =some c→Rep g w c (f i j)):Rep g w (.list s tk xs) (.slice (some ⟨b,o,none⟩) xs.length cap)
 |empty (s:Nat) (tk:Tok) (a:Addr) (cap:Nat) (h:tk= .none∨tk= .full∧cap=0):Rep g w (.list s tk []) (.slice (some a) 0 cap)
 |arr (l k st off len b o e cap:Nat) (hb:g.bt st=some (b,o,e)) (hcap:len≤cap):Rep g w (.arr l k st off len) (.slice (some ⟨b,o+off,none⟩) len cap)
 |arr0 (l k st off:Nat) (a:Addr) (cap:Nat):Rep g w (.arr l k st off 0) (.slice (some a) 0 cap)
 |grow (s l k st len b o e cap:Nat) (hb:g.bt st=some (b,o,e)) (hcap:len≤cap) (he:o+cap*s=e):Rep g w (.grow s l k st len) (.slice (some ⟨b,o,none⟩) len cap)
 |ptr (l k st off b o e:Nat) (hb:g.bt st=some (b,o,e)):Rep g w (.ptr l k st off) (.pointer (some ⟨b,o+off,none⟩))
 |ro (cs:List AV) (b o:Nat) (f:Nat→Value) (hc: ∀(j:Nat) (c:AV),cs[j]? =some c→w.cell? ⟨b,o+j,none⟩=some (f j)∧g.own b (o+j)=none) (hr: ∀(j:Nat) (c:AV),cs[j]? =some c→Rep g w c (f j)):
   Rep g w (.ro cs) (.pointer (some ⟨b,o,none⟩))
 |nilptr:Rep g w .nilptr (.pointer none)
 |mapR (l k st b:Nat) (h:g.mp st=some b):Rep g w (.mapR l k st) (.map (some b))
 |yld (l k st b:Nat) (h:g.mp st=some b):Rep g w (.yld l k st) (.func (.yield b) #[] #[])
 |fn (f:Fn) (first caps:List AV) (first' caps':Array Value) (h1:first'.size=first.length) (h2:caps'.size=caps.length)
   (h3: ∀(j:Nat) (c:AV) (v:Value),first[j]? =some c→first'[j]? =some v→Rep g w c v) (h4: ∀(j:Nat) (c:AV) (v:Value),caps[j]? =some c→caps'[j]? =some v→Rep g w c v):Rep g w (.fn f first caps) (.func f first' caps')
 |nilfn:Rep g w .nilfn .nilFunc
 |agg (cs:List AV) (vs:Array Value) (hl:vs.size=cs.length) (h: ∀(j:Nat) (c:AV) (v:Value),cs[j]? =some c→vs[j]? =some v→Rep g w c v):Rep g w (.agg cs) (.agg vs)
 |tup (cs:List AV) (vs:Array Value) (hl:vs.size=cs.length) (h: ∀(j:Nat) (c:AV) (v:Value),cs[j]? =some c→vs[j]? =some v→Rep g w c v):Rep g w (.tup cs) (.tuple vs)
 |undef (v:Value):Rep g w .undef v
theorem Rep.arr0' {g:G} {w:World} (l k st off:Nat) (a:Option Addr) (cap:Nat) (h:a.isSome=true):Rep g w (.arr l k st off 0) (.slice a 0 cap):=by
 cases a with
 |none=>cases h
 |some a=>exact .arr0 l k st off a cap
theorem Rep.empty' {g:G} {w:World} (s:Nat) (tk:Tok) (a:Option Addr) (cap:Nat) (h:tk= .none∨tk= .full∧cap=0) (h':a.isSome=true):Rep g w (.list s tk []) (.slice a 0 cap):=by
 cases a with
 |none=>cases h'
 |some a=>exact .empty s tk a cap h
def OthKept:Obj→Option Obj→Prop
 | .loop r,x=> ∃s p,x=some (.loop {r with state:=s,pending:=p})
 | .deferred d,x=>x=some (.deferred d)
 |_,_=>True
theorem OthKept.refl (ob:Obj):OthKept ob (some ob):=by cases ob<;>first|trivial|rfl|exact⟨_,_,rfl⟩
structure ExtW (g:G) (w:World) (g':G) (w':World):Prop where
 bt: ∀st x,g.bt st=some x→g'.bt st=some x
 tk: ∀t x,g.tk t=some x→g'.tk t=some x
 seal_: ∀b o v,w.cell? ⟨b,o,none⟩=some v→g.own b o=none→w'.cell? ⟨b,o,none⟩=some v∧g'.own b o=none
 base:g'.base=g.base
 mp: ∀st b,g.mp st=some b→g'.mp st=some b
 below:Below g.base w w'
 oth: ∀(b:Nat) (ob:Obj),w.heap[b]? =some ob→OthKept ob (w'.heap[b]?)
structure Ext (g:G) (w:World) (g':G) (w':World):Prop extends ExtW g w g' w' where
 rs:g'.rs=g.rs
theorem Ext.refl (g:G) (w:World):Ext g w g w:=⟨⟨fun _ _ h=>h,fun _ _ h=>h,fun _ _ _ h1 h2=>⟨h1,h2⟩,rfl,fun _ _ h=>h,Below.refl _ _,fun b ob h=>h▸OthKept.refl ob⟩,rfl⟩
theorem ExtW.trans {g g1 g2:G} {w w1 w2:World} (h:ExtW g w g1 w1) (k:ExtW g1 w1 g2 w2):ExtW g w g2 w2:=
 ⟨fun _ _ a=>k.bt _ _ (h.bt _ _ a),fun _ _ a=>k.tk _ _ (h.tk _ _ a),fun b o v a c=>let ⟨a',c'⟩:=h.seal_ b o v a c;k.seal_ b o v a' c',k.base.trans h.base,fun _ _ a=>k.mp _ _ (h.mp _ _ a),h.below.trans (h.base▸k.below),fun b ob e=>by
  have h1:=h.oth b ob e
  cases ob with
  |loop r=>
   obtain⟨s,p,h1⟩:=h1
   obtain⟨s',p',h2⟩:=k.oth b _ h1
   exact⟨s',p',h2⟩
  |deferred d=>exact k.oth b _ h1
  |_=>trivial⟩
theorem Ext.trans {g g1 g2:G} {w w1 w2:World} (h:Ext g w g1 w1) (k:Ext g1 w1 g2 w2):Ext g w g2 w2:=⟨h.toExtW.trans k.toExtW,k.rs.trans h.rs⟩
structure ExtV (g:G) (w:World) (g':G) (w':World):Prop where
 bt: ∀st x,g.bt st=some x→g'.bt st=some x
 tk: ∀t x,g.tk t=some x→g'.tk t=some x
 seal_: ∀b o v,w.cell? ⟨b,o,none⟩=some v→g.own b o=none→w'.cell? ⟨b,o,none⟩=some v∧g'.own b o=none
 mp: ∀st b,g.mp st=some b→g'.mp st=some b
theorem ExtW.toV {g g':G} {w w':World} (e:ExtW g w g' w'):ExtV g w g' w':=⟨e.bt,e.tk,e.seal_,e.mp⟩
theorem TokAt.mono {g g':G} {w w':World} (e:ExtV g w g' w') {tk:Tok} {b p q:Nat} (h:TokAt g tk b p q):TokAt g' tk b p q:=by
 cases tk with
 |none=>trivial
 |full=>exact h
 |id t=>exact e.tk _ _ h
theorem Rep.monoV {g g':G} {w w':World} (e:ExtV g w g' w') {x:AV} {v:Value} (h:Rep g w x v):Rep g' w' x v:=by
 induction h with
 |bool b=>exact .bool b
 |int k n=>exact .int k n
 |str l s h=>exact .str l s h
 |nils=>exact .nils
 |list s tk xs b o cap f hs hcap htk hc hr ih=>
  exact .list s tk xs b o cap f hs hcap (htk.mono e) (fun i j x c h1 h2=>let ⟨a,b',c'⟩:=hc i j x c h1 h2;let ⟨p,q⟩:=e.seal_ _ _ _ a b';⟨p,q,c'⟩) ih
 |empty s tk a cap h=>exact .empty s tk a cap h
 |arr l k st off len b o e' cap hb hcap=>exact .arr l k st off len b o e' cap (e.bt _ _ hb) hcap
 |arr0 l k st off a cap=>exact .arr0 l k st off a cap
 |grow s l k st len b o e' cap hb hcap he=>exact .grow s l k st len b o e' cap (e.bt _ _ hb) hcap he
 |ptr l k st off b o e' hb=>exact .ptr l k st off b o e' (e.bt _ _ hb)
 |ro cs b o f hc hr ih=>exact .ro cs b o f (fun j c h1=>let ⟨a,b'⟩:=hc j c h1;e.seal_ _ _ _ a b') ih
 |nilptr=>exact .nilptr
 |mapR l k st b h=>exact .mapR l k st b (e.mp _ _ h)
 |yld l k st b h=>exact .yld l k st b (e.mp _ _ h)
 |fn f first caps first' caps' h1 h2 h3 h4 ih3 ih4=>exact .fn f first caps first' caps' h1 h2 ih3 ih4
 |nilfn=>exact .nilfn
 |agg cs vs hl h ih=>exact .agg cs vs hl ih
 |tup cs vs hl h ih=>exact .tup cs vs hl ih
 |undef v=>exact .undef v
theorem Rep.monoW {g g':G} {w w':World} (e:ExtW g w g' w') {x:AV} {v:Value} (h:Rep g w x v):Rep g' w' x v:=h.monoV e.toV
theorem Rep.mono {g g':G} {w w':World} (e:Ext g w g' w') {x:AV} {v:Value} (h:Rep g w x v):Rep g' w' x v:=h.monoW e.toExtW
def Reps (g:G) (w:World) (xs:List AV) (vs:List Value):Prop:=vs.length=xs.length∧ ∀(j:Nat) (c:AV) (v:Value),xs[j]? =some c→vs[j]? =some v→Rep g w c v
theorem Reps.monoW {g g':G} {w w':World} (e:ExtW g w g' w') {xs:List AV} {vs:List Value} (h:Reps g w xs vs):Reps g' w' xs vs:=
 ⟨h.1,fun j c v a b=>(h.2 j c v a b).monoW e⟩
theorem Reps.mono {g g':G} {w w':World} (e:Ext g w g' w') {xs:List AV} {vs:List Value} (h:Reps g w xs vs):Reps g' w' xs vs:=h.monoW e.toExtW
theorem Reps.nil (g:G) (w:World):Reps g w [] []:=⟨rfl,fun j c v h=>by simp at h⟩
theorem Reps.cons {g:G} {w:World} {x:AV} {v:Value} {xs:List AV} {vs:List Value} (h:Rep g w x v) (k:Reps g w xs vs):Reps g w (x::xs) (v::vs):=by
 refine⟨by simp[k.1],fun j c u h1 h2=> ?_⟩
 cases j with
 |zero=>simp at h1 h2;subst h1;subst h2;exact h
 |succ j=>simp at h1 h2;exact k.2 j c u h1 h2
theorem Reps.head {g:G} {w:World} {x:AV} {xs:List AV} {vs:List Value} (h:Reps g w (x::xs) vs): ∃v r,vs=v::r∧Rep g w x v∧Reps g w xs r:=by
 cases vs with
 |nil=>simp[Reps] at h
 |cons v r=>exact⟨v,r,rfl,h.2 0 x v rfl rfl,by simpa using h.1,fun j c u h1 h2=>h.2 (j+1) c u (by simpa using h1) (by simpa using h2)⟩
theorem Reps.append {g:G} {w:World} {xs ys:List AV} {vs us:List Value} (h:Reps g w xs vs) (k:Reps g w ys us):Reps g w (xs++ys) (vs++us):=by
 refine⟨by simp[h.1,k.1],fun j c v h1 h2=> ?_⟩
 by_cases hj:j<xs.length
 ·rw[w1b hj] at h1
  rw[w1b (by rw[h.1];exact hj)] at h2
  exact h.2 j c v h1 h2
 ·rw[w39 (by omega)] at h1
  rw[w39 (by rw[h.1];omega),h.1] at h2
  exact k.2 _ c v h1 h2
theorem Reps.take {g:G} {w:World} {xs:List AV} {vs:List Value} (h:Reps g w xs vs) (n:Nat):Reps g w (xs.take n) (vs.take n):=by
 refine⟨by simp[h.1],fun j c v h1 h2=> ?_⟩
 rw[w3f] at h1 h2
 split at h1
 ·rename_i hj;rw[if_pos hj] at h2;exact h.2 j c v h1 h2
 ·simp at h1
theorem Reps.drop {g:G} {w:World} {xs:List AV} {vs:List Value} (h:Reps g w xs vs) (n:Nat):Reps g w (xs.drop n) (vs.drop n):=by
 refine⟨by simp[h.1],fun j c v h1 h2=> ?_⟩
 rw[List.getElem?_drop] at h1 h2
 exact h.2 _ c v h1 h2
theorem Reps.get {g:G} {w:World} {xs:List AV} {vs:List Value} (h:Reps g w xs vs) {j:Nat} {c:AV} (hj:xs[j]? =some c): ∃v,vs[j]? =some v∧Rep g w c v:=by
 have hl:j<xs.length:=(w13.1 hj).1
 have:j<vs.length:=by rw[h.1];exact hl
 exact⟨vs[j],w1d this,h.2 j c _ hj (w1d this)⟩
theorem Reps.agg {g:G} {w:World} {cs:List AV} {vs:List Value} (h:Reps g w cs vs):Rep g w (.agg cs) (.agg vs.toArray):=
 .agg cs _ (by simpa using h.1) (fun j c v h1 h2=>h.2 j c v h1 (by simpa using h2))
theorem Reps.of_agg {g:G} {w:World} {cs:List AV} {v:Value} (h:Rep g w (.agg cs) v): ∃vs:List Value,v= .agg vs.toArray∧Reps g w cs vs:=by
 cases h with
 |agg _ vs hl h=>exact⟨vs.toList,by simp,by simpa using hl,fun j c v h1 h2=>h j c v h1 (by simpa using h2)⟩
theorem Reps.of_tup {g:G} {w:World} {cs:List AV} {v:Value} (h:Rep g w (.tup cs) v): ∃vs:List Value,v= .tuple vs.toArray∧Reps g w cs vs:=by
 cases h with
 |tup _ vs hl h=>exact⟨vs.toList,by simp,by simpa using hl,fun j c v h1 h2=>h j c v h1 (by simpa using h2)⟩
theorem Reps.tup {g:G} {w:World} {cs:List AV} {vs:List Value} (h:Reps g w cs vs):Rep g w (.tup cs) (.tuple vs.toArray):=
 .tup cs _ (by simpa using h.1) (fun j c v h1 h2=>h.2 j c v h1 (by simpa using h2))
theorem xK (g:G) (w:World):Rep g w (.tup []) Go.undef:= .tup [] #[] rfl (fun j c v h=>by simp at h)
theorem Rep.cells {g:G} {w:World} {x:AV} {v:Value} (h:Rep g w x v) (hx:0<x.cells.length):Reps g w x.cells v.cells.toList:=by
 have one: ∀{x:AV} {v:Value},Rep g w x v→v.cells= #[v]→x.cells=[x]→Reps g w x.cells v.cells.toList:=by
  intro x v h h1 h2
  rw[h1,h2]
  exact Reps.cons h (Reps.nil g w)
 cases h with
 |agg cs vs hl h=>exact⟨by simpa [Value.cells,AV.cells] using hl,fun j c u h1 h2=>h j c u h1 (by simpa [Value.cells] using h2)⟩
 |undef v=>simp[AV.cells] at hx
 |bool b=>exact one (.bool b) rfl rfl
 |int k n=>exact one (.int k n) rfl rfl
 |str l s h=>exact one (.str l s h) rfl rfl
 |nils=>exact one .nils rfl rfl
 |list s tk xs b o cap f hs hcap htk hc hr=>exact one (.list s tk xs b o cap f hs hcap htk hc hr) rfl rfl
 |empty s tk a cap h=>exact one (.empty s tk a cap h) rfl rfl
 |arr l k st off len b o e' cap hb hcap=>exact one (.arr l k st off len b o e' cap hb hcap) rfl rfl
 |arr0 l k st off a cap=>exact one (.arr0 l k st off a cap) rfl rfl
 |grow s l k st len b o e' cap hb hcap he=>exact one (.grow s l k st len b o e' cap hb hcap he) rfl rfl
 |ptr l k st off b o e' hb=>exact one (.ptr l k st off b o e' hb) rfl rfl
 |ro cs b o f hc hr=>exact one (.ro cs b o f hc hr) rfl rfl
 |nilptr=>exact one .nilptr rfl rfl
 |mapR l k st b h=>exact one (.mapR l k st b h) rfl rfl
 |yld l k st b h=>exact one (.yld l k st b h) rfl rfl
 |fn f first caps first' caps' h1 h2 h3 h4=>exact one (.fn f first caps first' caps' h1 h2 h3 h4) rfl rfl
 |nilfn=>exact one .nilfn rfl rfl
 |tup cs vs hl h=>exact one (.tup cs vs hl h) rfl rfl
theorem Rep.one {g:G} {w:World} {x:AV} {v:Value} (h:Rep g w x v) (hx:x.one=true):v.oneCell'=true:=by
 cases h<;>simp[AV.one] at hx<;>rfl
theorem Reps.one {g:G} {w:World} {xs:List AV} {vs:List Value} (h:Reps g w xs vs) (hx:allOne xs=true): ∀v∈vs,v.oneCell'=true:=by
 induction xs generalizing vs with
 |nil=>
  have:vs=[]:=w2a h.1
  grind
 |cons x xs ih=>
  obtain⟨v,r,rfl,h1,h2⟩:=h.head
  simp only[allOne,w09] at hx
  intro u hu
  rcases w57.1 hu with rfl|hu
  ·exact h1.one hx.1
  ·grind
def Held (g:G) (w:World) (o:Bool×Nat) (b p e:Nat):Prop:=
 ∀j,p≤j→j<e→g.own b j=some o∧w.frozen? ⟨b,j,none⟩=false∧(w.cell? ⟨b,j,none⟩).isSome=true
inductive PRep:AV→Value→Prop
 |bool (b:Bool):PRep (.bool b) (.bool b)
 |int (k:IntKind) (n:Int):PRep (.int k n) (.int k n)
 |str (l:List UInt8) (s:ByteArray) (h:s.data.toList=l):PRep (.str l) (.string s)
theorem PRep.rep {g:G} {w:World} {x:AV} {v:Value} (h:PRep x v):Rep g w x v:=by
 cases h with
 |bool b=>exact .bool b
 |int k n=>exact .int k n
 |str l s h=>exact .str l s h
theorem Rep.plain {g:G} {w:World} {x:AV} {v:Value} (h:Rep g w x v) (hx:isPlain x=true):PRep x v:=by
 cases h<;>first|(cases hx;done)|skip
 ·exact .bool _
 ·exact .int _ _
 ·rename_i h;exact .str _ _ h
inductive EntsOk:List AV→List MapEntry→Prop
 |nil:EntsOk [] []
 |cons {k v:AV} {e:MapEntry} {r:List AV} {s:List MapEntry} (h1:PRep k e.key) (h2:PRep v e.val) (h:EntsOk r s):EntsOk (.tup [k,v]::r) (e::s)
def MapBlk (g:G) (w:World) (bl:Blk):Prop:=
 ∃b ps es clock,g.mp bl.st=some b∧(∀j,g.own b j=some (false,bl.st))∧bl.cs=[.tup ps]∧w.heap[b]? =some (.map es clock)∧EntsOk ps es.toList
def CellBlk (g:G) (w:World) (bl:Blk):Prop:=
 ∃b o e,g.bt bl.st=some (b,o,e)∧o+bl.cs.length≤e∧Held g w (false,bl.st) b o e∧ ∃vs:List Value,Reps g w bl.cs vs∧ ∀(j:Nat) (v:Value),vs[j]? =some v→w.cell? ⟨b,o+j,none⟩=some v
def LoopSt (n:Nat) (r:Loop):Prop:=
 (n=0∧r.state= .ready∧r.pending=none)∨(n=1∧(r.state= .busy∨r.state= .exhausted))∨(n=2∧r.state= .done∧r.pending=some .ret)∨ ∃id,n=3+id∧r.state= .done∧r.pending=some (.exit id)
def LoopBlk (g:G) (w:World) (bl:Blk):Prop:=
 ∃b r n,g.mp bl.st=some b∧(∀j,g.own b j=some (false,bl.st))∧bl.cs=[.int .i64 (.ofNat n)]∧w.heap[b]? =some (.loop r)∧LoopSt n r
def BlkOk (g:G) (w:World) (bl:Blk):Prop:=CellBlk g w bl∨MapBlk g w bl∨LoopBlk g w bl
def Mem.all (m:Mem):List Blk:=m.stk.flatten++m.cur
theorem vm (t:Nat) (l:List (List Nat)):(addTok t l).flatten=t::l.flatten:=by cases l<;>simp[addTok]
theorem ky (ts:List Nat) (l:List (List Nat)):(pushToks ts l).flatten=ts++l.flatten:=by cases ts<;>cases l<;>simp[pushToks]
theorem Q2 {t:Nat}: ∀{l:List (List Nat)},hasTok t l=true→t∈l.flatten
 | [],h=>by cases h
 |a::r,h=>by
  simp only[hasTok,w2f] at h
  simp only[w3e,w0b]
  rcases h with h|h
  ·grind
  ·exact .inr (Q2 h)
theorem qN (t:Nat): ∀(l:List (List Nat)),(dropTok t l).flatten.Sublist l.flatten
 | []=>List.Sublist.refl _
 |a::r=>by
  simp only[dropTok]
  split
  ·exact List.Sublist.append List.erase_sublist (List.Sublist.refl _)
  ·exact List.Sublist.append (List.Sublist.refl _) (qN t r)
theorem Qi {t u:Nat}: ∀{l:List (List Nat)},l.flatten.Nodup→u∈(dropTok t l).flatten→u∈l.flatten∧(t∈l.flatten→u≠t)
 | [],_,h=>by simp[dropTok] at h
 |a::r,hn,h=>by
  refine⟨(qN t _).subset h,fun ht=> ?_⟩
  simp only[w3e,w4f] at hn
  simp only[dropTok] at h
  split at h
  ·grind
  ·rename_i hc
   have hc:t∉a:=by simpa using hc
   rcases w0b.1 h with h|h
   ·grind
   ·have ht':t∈r.flatten:=by
     grind
    exact(Qi hn.2.1 h).2 ht'
theorem Xz {t u:Nat}: ∀{j:Nat} {l:List (List Nat)},u∈(addAt t j l).flatten→u=t∨u∈l.flatten
 |0,l,h=>by unfold addAt at h;rw[vm] at h;simpa using h
 |_+1,[],h=>by simp[addAt] at h
 |j+1,a::r,h=>by
  simp only[addAt,w3e,w0b] at h⊢
  rcases h with h|h
  ·grind
  ·rcases Xz h with h|h
   ·exact .inl h
   ·grind
theorem UH {t:Nat}: ∀{j:Nat} {l:List (List Nat)},t∉l.flatten→l.flatten.Nodup→(addAt t j l).flatten.Nodup
 |0,l,h,hn=>by unfold addAt;rw[vm];exact List.nodup_cons.2 ⟨h,hn⟩
 |_+1,[],_,_=>by simp[addAt]
 |j+1,a::r,h,hn=>by
  simp only[addAt,w3e,w4f,w0b,not_or] at h hn⊢
  refine⟨hn.1,UH h.2 hn.2.1,fun x hx y hy e=> ?_⟩
  rcases Xz hy with h'|h'
  ·grind
  ·grind
theorem z7S {j t:Nat} {l:List (List Nat)} (hn:l.flatten.Nodup):(∀u∈(sink1 j t l).flatten,u∈l.flatten)∧(sink1 j t l).flatten.Nodup:=by
 cases l with
 |nil=>exact⟨fun u h=>h,hn⟩
 |cons a r=>
  simp only[sink1]
  split
  ·rename_i hc
   have hc:t∈a:=by simpa using hc
   simp only[w3e,w4f,w0b] at hn⊢
   refine⟨fun u hu=> ?_,hn.1.erase t,UH (fun h=>hn.2.2 t hc t h rfl) hn.2.1,fun x hx y hy e=> ?_⟩
   ·rcases hu with hu|hu
    ·grind
    ·rcases Xz hu with h|h
     ·grind
     ·exact .inr h
   ·have hx:=(hn.1.mem_erase_iff).1 hx
    rcases Xz hy with h|h
    ·omega
    ·grind
  ·grind
theorem z5j {j:Nat}: ∀{ts:List Nat} {l:List (List Nat)},l.flatten.Nodup→(∀u∈(sink j ts l).flatten,u∈l.flatten)∧(sink j ts l).flatten.Nodup
 | [],_,hn=>⟨fun _ h=>h,hn⟩
 |t::ts,l,hn=>by
  have h1:=z7S (j:=j) (t:=t) hn
  have h2:=z5j (j:=j) (ts:=ts) h1.2
  exact⟨fun u h=>h1.1 u (h2.1 u h),h2.2⟩
theorem UZ (m:Mem) (l k st:Nat) (cs:List AV) (ts:List Nat):m.putS l k st cs ts={m.put l k st cs with live:=if l==m.stk.length then m.live else sink (m.stk.length-l) ts m.live}:=by
 unfold Mem.putS Mem.put
 split<;>rfl
structure Inv (g:G) (w:World) (m:Mem):Prop where
 blk: ∀bl∈m.all,g.rs bl.st=false→BlkOk g w bl
 nd:(m.all.map (·.st)).Nodup
 stlt: ∀st x,g.bt st=some x→st<m.nx
 tklt: ∀t x,g.tk t=some x→t<m.nx∧g.base≤x.1
 live: ∀t∈m.live.flatten,∃b p e,g.tk t=some (b,p,e)∧Held g w (true,t) b p e
 ownb: ∀b o x,g.own b o=some x→g.base≤b∧b<w.heap.size
 hbase:g.base≤w.heap.size
 lnd:m.live.flatten.Nodup
 rsv: ∀st,g.rs st=true→g.bt st=none∧st<m.nx
 mpk: ∀st b,g.mp st=some b→g.bt st=none∧st<m.nx∧g.rs st=false
theorem Inv.rs_of {g:G} {w:World} {m:Mem} (I:Inv g w m) {st:Nat} {x:Nat×Nat×Nat} (h:g.bt st=some x):g.rs st=false:=by
 cases hr:g.rs st with
 |false=>rfl
 |true=>rw[(I.rsv st hr).1] at h;cases h
theorem Inv.cells {g:G} {w:World} {m:Mem} (I:Inv g w m) {bl:Blk} (h:bl∈m.all) {x:Nat×Nat×Nat} (hb:g.bt bl.st=some x):CellBlk g w bl:=by
 rcases I.blk bl h (I.rs_of hb) with h|⟨b,ps,es,clock,h1,_⟩|⟨b,r,n,h1,_⟩
 ·exact h
 ·rw[(I.mpk _ _ h1).1] at hb;cases hb
 ·rw[(I.mpk _ _ h1).1] at hb;cases hb
theorem Inv.map {g:G} {w:World} {m:Mem} (I:Inv g w m) {bl:Blk} (h:bl∈m.all) {b:Nat} (hb:g.mp bl.st=some b) {ps:List AV} (hc:bl.cs=[.tup ps]):MapBlk g w bl:=by
 rcases I.blk bl h (I.mpk _ _ hb).2.2 with⟨b',o,e,h1,_⟩|h|⟨b',r,n,_,_,h2,_⟩
 ·rw[(I.mpk _ _ hb).1] at h1;cases h1
 ·exact h
 ·grind
theorem Inv.loop {g:G} {w:World} {m:Mem} (I:Inv g w m) {bl:Blk} (h:bl∈m.all) {b:Nat} (hb:g.mp bl.st=some b) {x:Int} (hc:bl.cs=[.int .i64 x]):LoopBlk g w bl:=by
 rcases I.blk bl h (I.mpk _ _ hb).2.2 with⟨b',o,e,h1,_⟩|⟨b',ps,es,clock,_,_,h2,_⟩|h
 ·rw[(I.mpk _ _ hb).1] at h1;cases h1
 ·grind
 ·exact h
def Fix:Obj→Bool
 | .map _ _| .loop _| .deferred _=>true
 |_=>false
def Kept (g:G) (w:World) (g':G) (w':World) (x:Bool×Nat):Prop:=
 ∀b j,g.own b j=some x→g'.own b j=some x∧w'.frozen? ⟨b,j,none⟩=w.frozen? ⟨b,j,none⟩∧w'.cell? ⟨b,j,none⟩=w.cell? ⟨b,j,none⟩∧ ∀ob,Fix ob=true→w.heap[b]? =some ob→w'.heap[b]? =some ob
theorem Held.mono {g g':G} {w w':World} {x:Bool×Nat} {b p e:Nat} (k:Kept g w g' w' x) (h:Held g w x b p e):Held g' w' x b p e:=by
 intro j h1 h2
 obtain⟨a1,a2,a3⟩:=h j h1 h2
 obtain⟨b1,b2,b3,_⟩:=k b j a1
 grind
theorem BlkOk.monoW {g g':G} {w w':World} {bl:Blk} (e:ExtW g w g' w') (k:Kept g w g' w' (false,bl.st)) (h:BlkOk g w bl):BlkOk g' w' bl:=by
 rcases h with h|⟨b,ps,es,clock,h1,h2,h3,h4,h5⟩|⟨b,r,n,h1,h2,h3,h4,h5⟩
 rotate_left
 ·exact .inr (.inl ⟨b,ps,es,clock,e.mp _ _ h1,fun j=>(k b j (h2 j)).1,h3,(k b 0 (h2 0)).2.2.2 _ rfl h4,h5⟩)
 ·exact .inr (.inr ⟨b,r,n,e.mp _ _ h1,fun j=>(k b j (h2 j)).1,h3,(k b 0 (h2 0)).2.2.2 _ rfl h4,h5⟩)
 obtain⟨b,o,en,h1,h2,h3,vs,h4,h5⟩:=h
 refine .inl ⟨b,o,en,e.bt _ _ h1,h2,h3.mono k,vs,h4.monoW e,fun j v hj=> ?_⟩
 have hlt:j<vs.length:=(w13.1 hj).1
 rw[h4.1] at hlt
 rw[(k b (o+j) (h3 (o+j) (by omega) (by omega)).1).2.2.1]
 grind
theorem BlkOk.mono {g g':G} {w w':World} {bl:Blk} (e:Ext g w g' w') (k:Kept g w g' w' (false,bl.st)) (h:BlkOk g w bl):BlkOk g' w' bl:=h.monoW e.toExtW k
theorem z89 {g:G} {w:World} {m:Mem} (I:Inv g w m) {b o:Nat} {x:Bool×Nat} (h:g.own b o=some x):b<w.heap.size:=(I.ownb b o x h).2
theorem ExtW.alloc {g g':G} {w:World} {m:Mem} (I:Inv g w m) (ob:Obj) (hbt: ∀st x,g.bt st=some x→g'.bt st=some x) (htk: ∀t x,g.tk t=some x→g'.tk t=some x)
  (hown: ∀b o,b≠w.heap.size→g'.own b o=g.own b o) (hb:g'.base=g.base) (hmp: ∀st b,g.mp st=some b→g'.mp st=some b:=by exact fun _ _ h=>h):ExtW g w g' (w.alloc ob):=by
 refine⟨hbt,htk,fun b o v h1 h2=> ?_,hb,hmp,(Below.refl _ _).alloc I.hbase _,fun b ob' h=> ?_⟩
 ·have hlt:b<w.heap.size:=World.block_lt_of_cell? _ _ h1
  refine⟨?_,by rw[hown b o (by omega)];exact h2⟩
  rw[World.cell?_alloc_lt _ _ _ hlt]
  exact h1
 ·have hlt:b<w.heap.size:=(w31.1 h).1
  show OthKept ob' ((w.heap.push ob)[b]?)
  rw[Array.getElem?_push_lt hlt,←w51 hlt,h];exact OthKept.refl ob'
theorem Kept.alloc {g g':G} {w:World} {m:Mem} (I:Inv g w m) (ob:Obj) (hown: ∀b o,b≠w.heap.size→g'.own b o=g.own b o) (x:Bool×Nat):Kept g w g' (w.alloc ob) x:=by
 intro b j h
 have hlt:b<w.heap.size:=z89 I h
 refine⟨by rw[hown b j (by omega)];exact h,World.frozen?_alloc_old _ _ _ (by simp;omega),World.cell?_alloc_lt _ _ _ hlt,fun ob' _ he=> ?_⟩
 show(w.heap.push ob)[b]? =_
 grind
theorem Ext.drew (g:G) (w:World):Ext g w g w.drew:=⟨⟨fun _ _ h=>h,fun _ _ h=>h,fun _ _ _ h1 h2=>⟨h1,h2⟩,rfl,fun _ _ h=>h,(Below.refl _ _).drew,fun b ob h=>by rw[show w.drew.heap=w.heap from rfl,h];exact OthKept.refl ob⟩,rfl⟩
theorem Rep.drew {g:G} {w:World} {x:AV} {v:Value} (h:Rep g w x v):Rep g w.drew x v:=h.mono (Ext.drew g w)
theorem Inv.drew {g:G} {w:World} {m:Mem} (I:Inv g w m):Inv g w.drew m:=
 ⟨fun bl hb hr=>(I.blk bl hb hr).mono (Ext.drew g w) (fun b j h=>⟨h,rfl,rfl,fun _ _ h=>h⟩),I.nd,I.stlt,I.tklt,
  fun t ht=>let ⟨b,p,e,h1,h2⟩:=I.live t ht;⟨b,p,e,h1,h2.mono (fun b j h=>⟨h,rfl,rfl,fun _ _ h=>h⟩)⟩,I.ownb,I.hbase,I.lnd,I.rsv,I.mpk⟩
theorem Inv.sub {g:G} {w:World} {m m':Mem} (I:Inv g w m) (h1: ∀bl∈m'.all,bl∈m.all) (h2:(m'.all.map (·.st)).Nodup) (h3:m.nx≤m'.nx) (h4:m'.live.flatten.Sublist m.live.flatten):Inv g w m':=
 ⟨fun bl hb=>I.blk bl (h1 bl hb),h2,fun st x h=>w55 (I.stlt st x h) h3,fun t x h=>⟨w55 (I.tklt t x h).1 h3,(I.tklt t x h).2⟩,fun t ht=>I.live t (h4.subset ht),I.ownb,I.hbase,I.lnd.sublist h4,fun st h=>⟨(I.rsv st h).1,w55 (I.rsv st h).2 h3⟩,fun st b h=>⟨(I.mpk st b h).1,w55 (I.mpk st b h).2.1 h3,(I.mpk st b h).2.2⟩⟩
theorem Inv.st_lt {g:G} {w:World} {m:Mem} (I:Inv g w m) {bl:Blk} (h:bl∈m.all):bl.st<m.nx:=by
 cases hr:g.rs bl.st with
 |true=>exact(I.rsv _ hr).2
 |false=>
  rcases I.blk bl h hr with⟨b,o,e,h1,_⟩|⟨b,ps,es,clock,h1,_⟩|⟨b,r,n,h1,_⟩
  ·exact I.stlt _ _ h1
  ·exact(I.mpk _ _ h1).2.1
  ·exact(I.mpk _ _ h1).2.1
theorem Inv.live_lt {g:G} {w:World} {m:Mem} (I:Inv g w m) {t:Nat} (h:t∈m.live.flatten):t<m.nx:=by
 obtain⟨b,o,e,h1,_⟩:=I.live t h
 exact(I.tklt _ _ h1).1
theorem jD (w:World) (ob:Obj):(w.alloc ob).heap[w.heap.size]? =some ob:=by
 show(w.heap.push ob)[w.heap.size]? =some ob
 simp
theorem VY (w:World) (us:List Value) (t:TypeId) (fz:Nat×Nat) (j:Nat):(w.alloc (.cells us.toArray t fz)).cell? ⟨w.heap.size,j,none⟩=us[j]? :=by
 unfold World.cell?
 rw[jD]
 simp
theorem z38 (w:World) (us:List Value) (t:TypeId) (fz:Nat×Nat) (j:Nat) (h: ¬(fz.1≤j∧j<fz.2)):(w.alloc (.cells us.toArray t fz)).frozen? ⟨w.heap.size,j,none⟩=false:=by
 unfold World.frozen?
 rw[jD]
 grind
theorem YN (w:World) (us:List Value) (t:TypeId) (j:Nat):(w.alloc (.cells us.toArray t)).cell? ⟨w.heap.size,j,none⟩=us[j]? :=by
 simp
theorem We (w:World) (us:List Value) (t:TypeId) (j:Nat):(w.alloc (.cells us.toArray t)).frozen? ⟨w.heap.size,j,none⟩=false:=by
 simp
theorem Inv.alloc_sealed {g:G} {w:World} {m:Mem} (I:Inv g w m) (ob:Obj):Ext g w g (w.alloc ob)∧Inv g (w.alloc ob) m:=by
 have e:Ext g w g (w.alloc ob):=⟨ExtW.alloc I ob (fun _ _ h=>h) (fun _ _ h=>h) (fun _ _ _=>rfl) rfl,rfl⟩
 have k: ∀x,Kept g w g (w.alloc ob) x:=fun x=>Kept.alloc I ob (fun _ _ _=>rfl) x
 exact⟨e,fun bl hb hr=>(I.blk bl hb hr).mono e (k _),I.nd,I.stlt,I.tklt,fun t ht=>let ⟨b,p,en,h1,h2⟩:=I.live t ht;⟨b,p,en,h1,h2.mono (k _)⟩,
  fun b o x h=>⟨(I.ownb b o x h).1,by have:=(I.ownb b o x h).2;simp;omega⟩,by have:=I.hbase;simp;omega,I.lnd,I.rsv,I.mpk⟩
theorem z1H {g:G} {w:World} {m:Mem} (I:Inv g w m) (o:Nat):g.own w.heap.size o=none:=by
 cases h:g.own w.heap.size o with
 |none=>rfl
 |some x=>exact absurd (z89 I h) (by omega)
theorem Inv.alloc_blk {g:G} {w:World} {m:Mem} (I:Inv g w m) (cs:List AV) (us:List Value) (t:TypeId) (h:Reps g w cs us):
  ∃g',Ext g w g' (w.alloc (.cells us.toArray t))∧Inv g' (w.alloc (.cells us.toArray t)) {m with cur:=m.cur++[⟨m.nx,cs⟩],nx:=m.nx+1}∧g'.bt m.nx=some (w.heap.size,0,us.length):=by
 let g':G:={g with bt:=fun st=>if st=m.nx then some (w.heap.size,0,us.length) else g.bt st,own:=fun b o=>if b=w.heap.size∧o<us.length then some (false,m.nx) else g.own b o}
 have hne: ∀st x,g.bt st=some x→st≠m.nx:=fun st x h=>by have:=I.stlt st x h;omega
 have hbt: ∀st x,g.bt st=some x→g'.bt st=some x:=fun st x h=>by simp[g',hne st x h,h]
 have hown: ∀b o,b≠w.heap.size→g'.own b o=g.own b o:=fun b o h=>by simp[g',h]
 have e:Ext g w g' (w.alloc (.cells us.toArray t)):=⟨ExtW.alloc I _ hbt (fun _ _ h=>h) hown rfl,rfl⟩
 have k: ∀x,Kept g w g' (w.alloc (.cells us.toArray t)) x:=fun x=>Kept.alloc I _ hown x
 have hb:g'.bt m.nx=some (w.heap.size,0,us.length):=by simp[g']
 refine⟨g',e,⟨fun bl hb' hr=> ?_,?_,?_,?_,?_,?_,?_,I.lnd,fun st hr=> ?_,fun st b h=> ?_⟩,hb⟩
 ·simp only[Mem.all,w0b,w1c] at hb'
  rcases hb' with hb'|hb'|rfl
  ·exact(I.blk bl (by simp[Mem.all,hb']) hr).mono e (k _)
  ·exact(I.blk bl (by simp[Mem.all,hb']) hr).mono e (k _)
  ·refine .inl ⟨w.heap.size,0,us.length,hb,by simp[h.1],fun j _ hj=>⟨?_,We w us t j,?_⟩,us,h.mono e,fun j v hv=>by rw[w1f,YN];exact hv⟩
   ·simp[g',hj]
   ·simp_all
 ·have:=I.nd
  simp only[Mem.all,w2b,w30,List.map_nil] at this⊢
  rw[←w1e,w4f]
  refine⟨this,by simp,fun a ha b hb'=> ?_⟩
  simp only[w1c] at hb'
  subst hb'
  rw[←w2b] at ha
  obtain⟨bl,hbl,rfl⟩:=w42.1 ha
  have:=I.st_lt (bl:=bl) hbl
  omega
 ·intro st x hx
  simp only[g'] at hx
  split at hx
  ·simp;omega
  ·have:=I.stlt st x hx;simp;omega
 ·intro t x hx
  have:=I.tklt t x hx
  grind
 ·intro t ht
  obtain⟨b,p,en,h1,h2⟩:=I.live t ht
  exact⟨b,p,en,h1,h2.mono (k _)⟩
 ·intro b o x hx
  simp only[g'] at hx
  split at hx
  ·rename_i hc;exact⟨by rw[hc.1];exact I.hbase,by rw[hc.1];simp⟩
  ·have:=I.ownb b o x hx;exact⟨this.1,by simp;omega⟩
 ·have:=I.hbase;simp;exact Nat.le_succ_of_le this
 ·have hr:g.rs st=true:=hr
  have h1:=I.rsv st hr
  grind
 ·have h1:=I.mpk st b h
  grind
theorem Inv.alloc_blkG {g:G} {w:World} {m:Mem} (I:Inv g w m) (cs:List AV) (us ex:List Value) (t:TypeId) (h:Reps g w cs us):
  ∃g',Ext g w g' (w.alloc (.cells (us++ex).toArray t))∧Inv g' (w.alloc (.cells (us++ex).toArray t)) {m with cur:=m.cur++[⟨m.nx,cs⟩],nx:=m.nx+1}∧g'.bt m.nx=some (w.heap.size,0,(us++ex).length):=by
 let g':G:={g with bt:=fun st=>if st=m.nx then some (w.heap.size,0,(us++ex).length) else g.bt st,own:=fun b o=>if b=w.heap.size∧o<(us++ex).length then some (false,m.nx) else g.own b o}
 have hne: ∀st x,g.bt st=some x→st≠m.nx:=fun st x h=>by have:=I.stlt st x h;omega
 have hbt: ∀st x,g.bt st=some x→g'.bt st=some x:=fun st x h=>by simp[g',hne st x h,h]
 have hown: ∀b o,b≠w.heap.size→g'.own b o=g.own b o:=fun b o h=>by simp[g',h]
 have e:Ext g w g' (w.alloc (.cells (us++ex).toArray t)):=⟨ExtW.alloc I _ hbt (fun _ _ h=>h) hown rfl,rfl⟩
 have k: ∀x,Kept g w g' (w.alloc (.cells (us++ex).toArray t)) x:=fun x=>Kept.alloc I _ hown x
 have hb:g'.bt m.nx=some (w.heap.size,0,(us++ex).length):=by simp[g']
 refine⟨g',e,⟨fun bl hb' hr=> ?_,?_,?_,?_,?_,?_,?_,I.lnd,fun st hr=> ?_,fun st b h=> ?_⟩,hb⟩
 ·simp only[Mem.all,w0b,w1c] at hb'
  rcases hb' with hb'|hb'|rfl
  ·exact(I.blk bl (by simp[Mem.all,hb']) hr).mono e (k _)
  ·exact(I.blk bl (by simp[Mem.all,hb']) hr).mono e (k _)
  ·refine .inl ⟨w.heap.size,0,(us++ex).length,hb,by simp[h.1],fun j _ hj=>⟨?_,We w (us++ex) t j,?_⟩,us,h.mono e,fun j v hv=>by rw[w1f,YN,w1b (w13.1 hv).1];exact hv⟩
   ·grind
   ·simp_all
 ·have:=I.nd
  simp only[Mem.all,w2b,w30,List.map_nil] at this⊢
  rw[←w1e,w4f]
  refine⟨this,by simp,fun a ha b hb'=> ?_⟩
  simp only[w1c] at hb'
  subst hb'
  rw[←w2b] at ha
  obtain⟨bl,hbl,rfl⟩:=w42.1 ha
  have:=I.st_lt (bl:=bl) hbl
  omega
 ·intro st x hx
  simp only[g'] at hx
  split at hx
  ·simp;omega
  ·have:=I.stlt st x hx;simp;omega
 ·intro t x hx
  have:=I.tklt t x hx
  grind
 ·intro t ht
  obtain⟨b,p,en,h1,h2⟩:=I.live t ht
  exact⟨b,p,en,h1,h2.mono (k _)⟩
 ·intro b o x hx
  simp only[g'] at hx
  split at hx
  ·rename_i hc;exact⟨by rw[hc.1];exact I.hbase,by rw[hc.1];simp⟩
  ·have:=I.ownb b o x hx;exact⟨this.1,by simp;omega⟩
 ·have:=I.hbase;simp;exact Nat.le_succ_of_le this
 ·have hr:g.rs st=true:=hr
  have h1:=I.rsv st hr
  grind
 ·have h1:=I.mpk st b h
  grind
theorem Inv.reserve {g:G} {w:World} {m:Mem} (I:Inv g w m) (cs:List AV):
  ExtW g w {g with rs:=fun st=>g.rs st||st==m.nx} w∧Inv {g with rs:=fun st=>g.rs st||st==m.nx} w {m with cur:=m.cur++[⟨m.nx,cs⟩],nx:=m.nx+1}:=by
 have e:ExtW g w {g with rs:=fun st=>g.rs st||st==m.nx} w:=⟨fun _ _ h=>h,fun _ _ h=>h,fun _ _ _ h1 h2=>⟨h1,h2⟩,rfl,fun _ _ h=>h,Below.refl _ _,fun b ob h=>h▸OthKept.refl ob⟩
 refine⟨e,⟨fun bl hb hr=> ?_,?_,fun st x h=>w3c (I.stlt st x h),fun t x h=>⟨w3c (I.tklt t x h).1,(I.tklt t x h).2⟩,fun t ht=> ?_,I.ownb,I.hbase,I.lnd,fun st hr=> ?_,fun st b h=>⟨(I.mpk st b h).1,w3c (I.mpk st b h).2.1,by have h2:=I.mpk st b h;have hne:st≠m.nx:=(by omega);simp[hne,h2.2.2]⟩⟩⟩
 ·simp only[w28,beq_eq_false_iff_ne] at hr
  simp only[Mem.all,w0b,w1c] at hb
  have hin:bl∈m.all:=by
   rcases hb with hb|hb|rfl
   ·simp[Mem.all,hb]
   ·simp[Mem.all,hb]
   ·grind
  exact(I.blk bl hin hr.1).monoW e (fun b j h=>⟨h,rfl,rfl,fun _ _ h=>h⟩)
 ·have:=I.nd
  simp only[Mem.all,w2b,w30,List.map_nil] at this⊢
  rw[←w1e,w4f]
  refine⟨this,by simp,fun a ha b hb'=> ?_⟩
  simp only[w1c] at hb'
  subst hb'
  rw[←w2b] at ha
  obtain⟨bl,hbl,rfl⟩:=w42.1 ha
  have:=I.st_lt (bl:=bl) hbl
  omega
 ·obtain⟨b,p,e',h1,h2⟩:=I.live t ht
  exact⟨b,p,e',h1,h2.mono (fun b j h=>⟨h,rfl,rfl,fun _ _ h=>h⟩)⟩
 ·simp only[w2f,beq_iff_eq] at hr
  rcases hr with hr|rfl
  ·exact⟨(I.rsv st hr).1,w3c (I.rsv st hr).2⟩
  ·refine⟨?_,Nat.lt_succ_self _⟩
   cases h:g.bt m.nx with
   |none=>rfl
   |some x=>exact absurd (I.stlt _ _ h) (Nat.lt_irrefl _)
theorem Inv.alloc_late {g:G} {w:World} {m:Mem} (I:Inv g w m) {st:Nat} (cs:List AV) (us:List Value) (t:TypeId) (hin: ∀bl∈m.all,bl.st=st→bl.cs=cs) (hrs:g.rs st=true) (h:Reps g w cs us):
  ∃g',ExtW g w g' (w.alloc (.cells us.toArray t))∧Inv g' (w.alloc (.cells us.toArray t)) m∧g'.bt st=some (w.heap.size,0,us.length)∧g'.rs=fun s=>g.rs s&&s !=st:=by
 let g':G:={g with bt:=fun s=>if s=st then some (w.heap.size,0,us.length) else g.bt s,own:=fun b o=>if b=w.heap.size∧o<us.length then some (false,st) else g.own b o,rs:=fun s=>g.rs s&&s !=st}
 have hno:=(I.rsv st hrs).1
 have hlt:=(I.rsv st hrs).2
 have hne: ∀s x,g.bt s=some x→s≠st:=fun s x h e=>by rw[e,hno] at h;cases h
 have hbt: ∀s x,g.bt s=some x→g'.bt s=some x:=fun s x h=>by simp[g',hne s x h,h]
 have hown: ∀b o,b≠w.heap.size→g'.own b o=g.own b o:=fun b o h=>by simp[g',h]
 have e:ExtW g w g' (w.alloc (.cells us.toArray t)):=ExtW.alloc I _ hbt (fun _ _ h=>h) hown rfl
 have k: ∀x,Kept g w g' (w.alloc (.cells us.toArray t)) x:=fun x=>Kept.alloc I _ hown x
 have hb:g'.bt st=some (w.heap.size,0,us.length):=by simp[g']
 refine⟨g',e,⟨fun bl hb' hr=> ?_,I.nd,?_,?_,?_,?_,?_,I.lnd,fun s hr=> ?_,fun s b h=> ?_⟩,hb,rfl⟩
 ·by_cases hs:bl.st=st
  ·refine .inl ⟨w.heap.size,0,us.length,by rw[hs];exact hb,by rw[hin bl hb' hs];simp[h.1],fun j _ hj=>⟨?_,We w us t j,?_⟩,us,by rw[hin bl hb' hs];exact h.monoW e,fun j v hv=>by rw[w1f,YN];exact hv⟩
   ·grind
   ·simp_all
  ·have hr':g.rs bl.st=false:=by
    grind
   exact(I.blk bl hb' hr').monoW e (k _)
 ·intro s x hx
  simp only[g'] at hx
  split at hx
  ·omega
  ·exact I.stlt s x hx
 ·exact fun t x hx=>I.tklt t x hx
 ·intro t ht
  obtain⟨b,p,en,h1,h2⟩:=I.live t ht
  exact⟨b,p,en,h1,h2.mono (k _)⟩
 ·intro b o x hx
  simp only[g'] at hx
  split at hx
  ·rename_i hc;exact⟨by rw[hc.1];exact I.hbase,by rw[hc.1];simp⟩
  ·have:=I.ownb b o x hx;exact⟨this.1,by simp;omega⟩
 ·have:=I.hbase;simp;exact Nat.le_succ_of_le this
 ·have hr:(g.rs s&&s !=st)=true:=hr
  simp only[w09,bne_iff_ne] at hr
  exact⟨by simp[g',hr.2,(I.rsv s hr.1).1],(I.rsv s hr.1).2⟩
 ·have h1:=I.mpk s b h
  grind
theorem Inv.alloc_tok {g:G} {w:World} {m:Mem} (I:Inv g w m) (us:List Value) (n:Nat) (t:TypeId) (fz:Nat×Nat) (hfz: ∀j,j<us.length→ ¬(fz.1≤j∧j<fz.2)) (live:List (List Nat)) (hl:live.flatten.Sublist m.live.flatten):
  ∃g',Ext g w g' (w.alloc (.cells us.toArray t fz))∧Inv g' (w.alloc (.cells us.toArray t fz)) {m with nx:=m.nx+1,live:=addTok m.nx live}∧g'.tk m.nx=some (w.heap.size,n,us.length)∧
   ∀j,j<n→g'.own w.heap.size j=none:=by
 let g':G:={g with tk:=fun st=>if st=m.nx then some (w.heap.size,n,us.length) else g.tk st,own:=fun b o=>if b=w.heap.size∧n≤o∧o<us.length then some (true,m.nx) else g.own b o}
 have hne: ∀st x,g.tk st=some x→st≠m.nx:=fun st x h=>by have:=I.tklt st x h;omega
 have htk: ∀st x,g.tk st=some x→g'.tk st=some x:=fun st x h=>by simp[g',hne st x h,h]
 have hown: ∀b o,b≠w.heap.size→g'.own b o=g.own b o:=fun b o h=>by simp[g',h]
 have e:Ext g w g' (w.alloc (.cells us.toArray t fz)):=⟨ExtW.alloc I _ (fun _ _ h=>h) htk hown rfl,rfl⟩
 have k: ∀x,Kept g w g' (w.alloc (.cells us.toArray t fz)) x:=fun x=>Kept.alloc I _ hown x
 refine⟨g',e,⟨fun bl hb' hr=>(I.blk bl hb' hr).mono e (k _),I.nd,?_,?_,?_,?_,?_,by rw[vm];exact List.nodup_cons.2 ⟨fun h=>Nat.lt_irrefl _ (I.live_lt (hl.subset h)),I.lnd.sublist hl⟩,fun st hr=>⟨(I.rsv st hr).1,w3c (I.rsv st hr).2⟩,fun st b h=>⟨(I.mpk st b h).1,w3c (I.mpk st b h).2.1,(I.mpk st b h).2.2⟩⟩,by simp[g'],?_⟩
 ·intro st x hx
  have:=I.stlt st x hx
  simp;omega
 ·intro t x hx
  simp only[g'] at hx
  split at hx
  ·rename_i e;injection hx with hx;subst hx;subst e;exact⟨Nat.lt_succ_self _,I.hbase⟩
  ·have:=I.tklt t x hx;exact⟨w3c this.1,this.2⟩
 ·intro t' ht
  rw[vm] at ht
  rcases w57.1 ht with rfl|ht
  ·refine⟨w.heap.size,n,us.length,by simp[g'],fun j h1 h2=>⟨by simp[g',h1,h2],z38 w us t fz j (hfz j h2),?_⟩⟩
   rw[VY,w1d h2];rfl
  ·obtain⟨b,p,en,h1,h2⟩:=I.live t' (hl.subset ht)
   exact⟨b,p,en,htk _ _ h1,h2.mono (k _)⟩
 ·intro b o x hx
  simp only[g'] at hx
  split at hx
  ·rename_i hc;exact⟨by rw[hc.1];exact I.hbase,by rw[hc.1];simp⟩
  ·have:=I.ownb b o x hx;exact⟨this.1,by simp;omega⟩
 ·have:=I.hbase;simp;exact Nat.le_succ_of_le this
 ·intro j hj
  have: ¬(n≤j∧j<us.length):=by omega
  simp only[g',true_and,this,if_false]
  exact z1H I j
theorem YQ {B:Nat} {a:World} (b:Nat) (hb:B≤b): ∀(vs:List Value) (o:Nat) (w:World),Below B a w→Below B a (w.setCells b o vs)
 | [],_,_,h=>h
 |v::r,o,w,h=>YQ b hb r (o+1) _ (h.setCell (p:=⟨b,o,none⟩) hb v)
theorem tv (b:Nat): ∀(vs:List Value) (o:Nat) (w:World),(w.setCells b o vs).heap.size=w.heap.size
 | [],_,_=>rfl
 |v::r,o,w=>by rw[World.setCells,tv b r];simp[World.setCell]
theorem qy (b:Nat): ∀(vs:List Value) (o:Nat) (w:World) {b':Nat} {ob:Obj},w.heap[b']? =some ob→Fix ob=true→(w.setCells b o vs).heap[b']? =some ob
 | [],_,_,_,_,h,_=>h
 |v::r,o,w,b',ob,h,hf=>by
  rw[World.setCells]
  refine qy b r (o+1) _ ?_ hf
  unfold World.setCell
  simp only[Array.getElem?_modify]
  split
  ·rename_i hb;subst hb;rw[h];cases ob<;>first|(cases hf;done)|rfl
  ·exact h
theorem z1I (b:Nat): ∀(vs:List Value) (o:Nat) (w:World) {b':Nat} {ob:Obj},w.heap[b']? =some ob→OthKept ob ((w.setCells b o vs).heap[b']?)
 |vs,o,w,b',ob,h=>by
  cases ob with
  |loop r=>exact⟨_,_,qy b vs o w h rfl⟩
  |deferred d=>exact qy b vs o w h rfl
  |_=>trivial
theorem YM {w:World} {b o:Nat} {vs:List Value} {b' o':Nat} (h:b'=b→o'<o∨o+vs.length≤o'):(w.setCells b o vs).cell? ⟨b',o',none⟩=w.cell? ⟨b',o',none⟩:=
 World.cell?_setCells_out b vs o w ⟨b',o',none⟩ (fun h1 _=>h h1)
theorem ExtW.stored {g g':G} {w:World} {m:Mem} (I:Inv g w m) (x:Bool×Nat) (b o:Nat) (vs:List Value) (h:Held g w x b o (o+vs.length)) (hv:0<vs.length)
  (hbt: ∀st y,g.bt st=some y→g'.bt st=some y) (htk: ∀t y,g.tk t=some y→g'.tk t=some y)
  (hown: ∀b' j,g.own b' j=none→g'.own b' j=none) (hb:g'.base=g.base) (hmp: ∀st b,g.mp st=some b→g'.mp st=some b:=by exact fun _ _ h=>h):ExtW g w g' (w.setCells b o vs):=by
 refine⟨hbt,htk,fun b' j v h1 h2=>⟨?_,hown _ _ h2⟩,hb,hmp,YQ b (I.ownb b o x (h o (w08 _) (by omega)).1).1 vs o w (Below.refl _ _),fun b' ob h1=>z1I b vs o w h1⟩
 rw[YM (fun hbb=> ?_)]
 ·exact h1
 ·subst hbb
  rcases w43 j o with hj|hj
  ·exact .inl hj
  ·rcases w43 j (o+vs.length) with hk|hk
   ·have:=(h j hj hk).1;rw[h2] at this;simp at this
   ·exact .inr hk
theorem Kept.stored {g g':G} {w:World} (x y:Bool×Nat) (b o:Nat) (vs:List Value) (h:Held g w x b o (o+vs.length)) (hxy:y≠x)
  (hown: ∀b' j,g.own b' j=some y→g'.own b' j=some y):Kept g w g' (w.setCells b o vs) y:=by
 intro b' j hj
 refine⟨hown _ _ hj,World.frozen?_setCells b vs o w _,YM (fun hbb=> ?_),fun ob hf he=>qy b vs o w he hf⟩
 subst hbb
 rcases w43 j o with h1|h1
 ·exact .inl h1
 ·rcases w43 j (o+vs.length) with hk|hk
  ·have:=(h j h1 hk).1;rw[hj] at this;exact absurd (Option.some.inj this) hxy
  ·exact .inr hk
theorem qA {m:Mem} {l k st:Nat} {cs:List AV} (h:m.blk l k st=some cs):(m.row l)[k]? =some ⟨st,cs⟩:=by
 unfold Mem.blk at h
 split at h
 ·rename_i b hb
  split at h
  ·rename_i hs
   rw[hb]
   have:=eq_of_beq hs
   cases b
   grind
  ·cases h
 ·cases h
theorem y9 {m:Mem} {l k st:Nat} {cs:List AV} (h:m.blk l k st=some cs):(⟨st,cs⟩:Blk)∈m.all:=by
 have h1:=w3a (qA h)
 unfold Mem.row at h1
 simp only[Mem.all,w0b]
 split at h1
 ·exact .inr h1
 ·left
  rw[w03] at h1
  cases hq:m.stk[l]? with
  |none=>rw[hq] at h1;simp at h1
  |some fr=>rw[hq] at h1;exact List.mem_flatten.2 ⟨fr,w3a hq,h1⟩
theorem z5m {fr:List Blk} {k st:Nat} {cs cs':List AV} (h:fr[k]? =some ⟨st,cs⟩):(fr.set k ⟨st,cs'⟩).map (·.st)=fr.map (·.st):=by
 apply w27
 grind
theorem WO {m:Mem} {l k st:Nat} {cs:List AV} (cs':List AV) (h:m.blk l k st=some cs):(m.put l k st cs').all.map (·.st)=m.all.map (·.st):=by
 have h1:=qA h
 unfold Mem.row at h1
 unfold Mem.put Mem.all
 split
 ·rename_i hl
  rw[if_pos hl] at h1
  simp only[w2b,z5m h1]
 ·rename_i hl
  rw[if_neg hl] at h1
  simp only[w2b]
  congr 1
  rw[List.map_flatten,List.map_flatten]
  congr 1
  apply w27
  intro i
  simp only[w22,List.getElem?_modify]
  by_cases hi:l=i
  ·subst hi
   simp only[if_true]
   cases hq:m.stk[l]? with
   |none=>rfl
   |some fr=>
    have:fr[k]? =some ⟨st,cs⟩:=by rw[w03,hq] at h1;exact h1
    simp[z5m this]
  ·simp[hi]
theorem z9L {m:Mem} {l k st:Nat} {cs':List AV} {bl:Blk} (h:bl∈(m.put l k st cs').all):bl∈m.all∨bl=⟨st,cs'⟩:=by
 unfold Mem.put Mem.all at h
 unfold Mem.all
 split at h
 ·grind
 ·simp only[w0b] at h⊢
  rcases h with h|h
  ·obtain⟨fr,hfr,hb⟩:=List.mem_flatten.1 h
   obtain⟨i,hi⟩:=List.getElem?_of_mem hfr
   rw[List.getElem?_modify] at hi
   cases hq:m.stk[i]? with
   |none=>rw[hq] at hi;simp at hi
   |some f0=>
    rw[hq] at hi
    simp only[Option.map_eq_map,w06,Option.some.injEq] at hi
    split at hi
    ·rw[←hi] at hb
     rcases List.mem_or_eq_of_mem_set hb with hb|hb
     ·exact .inl (.inl (List.mem_flatten.2 ⟨f0,w3a hq,hb⟩))
     ·exact .inr hb
    ·rw[←hi] at hb
     exact .inl (.inl (List.mem_flatten.2 ⟨f0,w3a hq,hb⟩))
  ·grind
theorem z0x {l:List Blk} (h:(l.map (·.st)).Nodup) {x y:Blk} (hx:x∈l) (hy:y∈l) (e:x.st=y.st):x=y:=by
 induction l with
 |nil=>cases hx
 |cons a r ih=>
  grind
theorem X9 {g:G} {w:World} {m:Mem} (I:Inv g w m) {l k st:Nat} {cs:List AV} (cs':List AV) (h:m.blk l k st=some cs) {bl:Blk} (hb:bl∈(m.put l k st cs').all):
  bl=⟨st,cs'⟩∨(bl∈m.all∧bl.st≠st):=by
 rcases z9L hb with h1|h1
 ·by_cases hs:bl.st=st
  ·left
   have hnd:((m.put l k st cs').all.map (·.st)).Nodup:=by rw[WO cs' h];exact I.nd
   refine z0x hnd hb ?_ hs
   have hr:=qA h
   unfold Mem.put Mem.all
   unfold Mem.row at hr
   split
   ·rename_i hl
    rw[if_pos hl] at hr
    have hk:k<m.cur.length:=(w13.1 hr).1
    simp only[w0b]
    exact .inr (List.mem_set hk _)
   ·rename_i hl
    rw[if_neg hl,w03] at hr
    cases hq:m.stk[l]? with
    |none=>rw[hq] at hr;simp at hr
    |some fr=>
     rw[hq] at hr
     have hk:k<fr.length:=(w13.1 hr).1
     simp only[w0b]
     left
     refine List.mem_flatten.2 ⟨fr.set k ⟨st,cs'⟩,?_,List.mem_set hk _⟩
     apply w3a (i:=l)
     grind
  ·grind
 ·exact .inl h1
theorem z9M {m:Mem} {l k st:Nat} {cs:List AV} (h:m.blk l k st=some cs) (st':Nat) (cs':List AV) (nx:Nat):({m.put l k st' cs' with nx:=nx}:Mem).blk l k st'=some cs':=by
 have h1:=qA h
 have hrow:(({m.put l k st' cs' with nx:=nx}:Mem).row l)[k]? =some ⟨st',cs'⟩:=by
  unfold Mem.row at h1⊢
  unfold Mem.put
  grind
 unfold Mem.blk
 grind
theorem z9K (m:Mem) (l k a b:Nat) (cs cs':List AV) (nx:Nat):({m.put l k a cs with nx:=nx}:Mem).put l k b cs'={m.put l k b cs' with nx:=nx}:=by
 unfold Mem.put
 by_cases hl:(l==m.stk.length)=true
 ·simp_all
 ·have hl':(l==m.stk.length)=false:=by simpa using hl
  simp only[hl',w25,if_false,List.length_modify,List.modify_modify_eq]
  congr 2
  funext f;simp
theorem tl (m:Mem) (l k st:Nat) (cs:List AV):(m.put l k st cs).nx=m.nx:=by unfold Mem.put;split<;>rfl
theorem vb (m:Mem) (l k st:Nat) (cs:List AV):(m.put l k st cs).live=m.live:=by unfold Mem.put;split<;>rfl
theorem XO (cs:List AV) (off:Nat) (new:List AV) (h:off+new.length≤cs.length):(splice cs off new).length=cs.length:=by
 simp[splice];omega
theorem z41 (cs:List AV) (off:Nat) (new:List AV) (h:off+new.length≤cs.length) (j:Nat):(splice cs off new)[j]? =if off≤j∧j<off+new.length then new[j-off]? else cs[j]? :=by
 unfold splice
 have ht:(cs.take off).length=off:=by simp;omega
 grind
theorem Reps.splice {g:G} {w:World} {cs new:List AV} {vs us:List Value} (h:Reps g w cs vs) (k:Reps g w new us) {off:Nat} (hl:off+new.length≤cs.length):
  Reps g w (splice cs off new) (vs.take off++us++vs.drop (off+us.length)):=by
 unfold Vs.splice
 have:=(h.take off).append k|>.append (h.drop (off+new.length))
 rw[k.1]
 exact this
theorem VD {m:Mem} {l k st:Nat} {cs:List AV} (h:m.blk l k st=some cs): ∃pre post,m.all=pre++⟨st,cs⟩::post∧ ∀st' cs',(m.put l k st' cs').all=pre++⟨st',cs'⟩::post:=by
 have h1:=qA h
 have key: ∀(fr:List Blk),fr[k]? =some ⟨st,cs⟩→fr=fr.take k++⟨st,cs⟩::fr.drop (k+1)∧ ∀y:Blk,fr.set k y=fr.take k++y::fr.drop (k+1):=by
  intro fr hf
  have hk:k<fr.length:=(w13.1 hf).1
  have he:fr[k]=⟨st,cs⟩:=(w13.1 hf).2
  refine⟨?_,fun y=> ?_⟩
  ·rw[←he,←List.drop_eq_getElem_cons hk,List.take_append_drop]
  ·rw[w5c,if_pos hk]
 unfold Mem.row at h1
 unfold Mem.put Mem.all
 by_cases hl:(l==m.stk.length)=true
 ·grind
 ·rw[if_neg hl] at h1
  rw[w03] at h1
  cases hq:m.stk[l]? with
  |none=>rw[hq] at h1;simp at h1
  |some fr=>
   rw[hq] at h1
   obtain⟨k1,k2⟩:=key fr h1
   have hlt:l<m.stk.length:=(w13.1 hq).1
   have hfr:m.stk[l]=fr:=(w13.1 hq).2
   have e0:m.stk=m.stk.take l++fr::m.stk.drop (l+1):=by rw[←hfr,←List.drop_eq_getElem_cons hlt,List.take_append_drop]
   refine⟨(m.stk.take l).flatten++fr.take k,fr.drop (k+1)++((m.stk.drop (l+1)).flatten++m.cur),?_,fun st' cs'=> ?_⟩
   ·conv=>lhs;rw[e0]
    simp only[List.flatten_append,w3e]
    conv=>lhs;rw[k1]
    simp only[w1e,w26]
   ·rw[if_neg hl]
    have e1:(m.stk.modify l fun f=>f.set k ⟨st',cs'⟩)=m.stk.take l++fr.set k ⟨st',cs'⟩::m.stk.drop (l+1):=by
     rw[w33 hlt,hfr]
    simp only[e1,List.flatten_append,w3e,k2,w1e,w26]
theorem Reps.undefs {g:G} {w:World}: ∀(vs:List Value),Reps g w (List.replicate vs.length .undef) vs
 | []=>Reps.nil g w
 |v::r=>Reps.cons (.undef v) (Reps.undefs r)
theorem Inv.restamp {g:G} {w:World} {m:Mem} (I:Inv g w m) {l k st n r:Nat} {cs:List AV} (hb:m.blk l k st=some cs) {b o e:Nat} (hbt:g.bt st=some (b,o,e)) (hn:n≤cs.length) (hr:o+n+r≤e):
  ∃g',Ext g w g' w∧Inv g' w {m.put l k m.nx (cs.take n++List.replicate r .undef) with nx:=m.nx+1}∧g'.bt m.nx=some (b,o,e):=by
 have hm:=y9 hb
 obtain⟨b1,o1,e1,h1,h2,h3,vs,h4,h5⟩:=I.cells hm hbt
 simp only at h1 h2 h3 h4 h5
 rw[hbt] at h1
 obtain⟨rfl,rfl,rfl⟩:b=b1∧o=o1∧e=e1:=by simpa using h1
 obtain⟨pre,post,hall,hput⟩:=VD hb
 let g':G:={g with bt:=fun s=>if s=m.nx then some (b,o,e) else g.bt s,own:=fun b' j=>if g.own b' j=some (false,st) then some (false,m.nx) else g.own b' j}
 have hne: ∀s x,g.bt s=some x→s≠m.nx:=fun s x h=>by have:=I.stlt s x h;omega
 have hbt': ∀s x,g.bt s=some x→g'.bt s=some x:=fun s x h=>by simp[g',hne s x h,h]
 have hown: ∀b' j,g.own b' j=none→g'.own b' j=none:=fun b' j h=>by simp[g',h]
 have hkept: ∀y,y≠(false,st)→Kept g w g' w y:=fun y hy b' j h=>⟨by
  have: ¬y=(false,st):=hy
  simp[g',h,this],rfl,rfl,fun _ _ h=>h⟩
 have ext:Ext g w g' w:=⟨⟨hbt',fun _ _ h=>h,fun b' j v p q=>⟨p,hown b' j q⟩,rfl,fun _ _ h=>h,Below.refl _ _,fun b ob h=>h▸OthKept.refl ob⟩,rfl⟩
 have hbn:g'.bt m.nx=some (b,o,e):=by simp[g']
 have hnd:=I.nd
 rw[hall] at hnd
 simp only[w2b,w30] at hnd
 have hlt: ∀bl∈pre++post,bl.st<m.nx:=fun bl hbl=>by
  refine I.st_lt ?_
  rw[hall]
  rcases w0b.1 hbl with h|h
  ·grind
  ·grind
 have hst: ∀bl∈pre++post,bl.st≠st:=fun bl hbl e=>by
  rw[w4f] at hnd
  rcases w0b.1 hbl with h|h
  ·exact hnd.2.2 bl.st (w42.2 ⟨bl,h,rfl⟩) st w24 e
  ·exact(List.nodup_cons.1 hnd.2.1).1 (e▸w42.2 ⟨bl,h,rfl⟩)
 have hall':({m.put l k m.nx (cs.take n++List.replicate r .undef) with nx:=m.nx+1}:Mem).all=pre++⟨m.nx,cs.take n++List.replicate r .undef⟩::post:=hput _ _
 have hex: ∀q,q≤r→ ∃us:List Value,us.length=q∧ ∀(j:Nat) (v:Value),us[j]? =some v→w.cell? ⟨b,o+(n+j),none⟩=some v:=by
  intro q
  induction q with
  |zero=>intro _;exact⟨[],rfl,fun j v h=>by simp at h⟩
  |succ q ih=>
   intro hq
   obtain⟨us,u1,u2⟩:=ih (by omega)
   obtain⟨v,hv⟩:=Option.isSome_iff_exists.1 (h3 (o+(n+q)) (by omega) (by omega)).2.2
   refine⟨us++[v],by simp[u1],fun j u hj=> ?_⟩
   by_cases hjq:j<q
   ·rw[w1b (by omega)] at hj;exact u2 j u hj
   ·rw[w39 (by omega)] at hj
    grind
 obtain⟨us,u1,u2⟩:=hex r (w08 _)
 refine⟨g',ext,⟨fun bl hbl hr'=> ?_,?_,?_,?_,?_,?_,I.hbase,?_,?_,?_⟩,hbn⟩
 ·rw[hall'] at hbl
  have old:bl∈pre++post→BlkOk g' w bl:=fun hin=>by
   refine(I.blk bl ?_ hr').mono ext (hkept _ (fun h=>hst bl hin (by injection h)))
   rw[hall];simp only[w0b,w57] at hin⊢
   rcases hin with h|h
   ·exact .inl h
   ·grind
  simp only[w0b,w57] at hbl
  rcases hbl with hbl|rfl|hbl
  ·exact old (w52 _ hbl)
  ·have hvl:vs.length=cs.length:=h4.1
   refine .inl ⟨b,o,e,hbn,?_,fun j a1 a2=> ?_,vs.take n++us,?_,fun j v hv=> ?_⟩
   ·simp only[w15,w20,List.length_replicate];omega
   ·obtain⟨c1,c2,c3⟩:=h3 j a1 a2
    exact⟨by simp[g',c1],c2,c3⟩
   ·have:=((h4.take n).mono ext).append (Reps.undefs (g:=g') (w:=w) us)
    rw[u1] at this
    exact this
   ·by_cases hj:j<n
    ·rw[w1b (by rw[w20];omega),w3f,if_pos hj] at hv
     grind
    ·rw[w39 (by rw[w20];omega),w20,w0c (by omega)] at hv
     grind
  ·exact old (w5a _ hbl)
 ·rw[hall']
  simp only[w2b,w30]
  grind
 ·intro s x hx
  simp only[g'] at hx
  split at hx
  ·simp;omega
  ·have:=I.stlt s x hx;simp;omega
 ·intro t x hx
  have:=I.tklt t x hx
  exact⟨w3c this.1,this.2⟩
 ·intro t ht
  simp only[vb] at ht
  obtain⟨b',p,en,a1,a2⟩:=I.live t ht
  exact⟨b',p,en,a1,a2.mono (hkept _ (fun h=>by injection h with h _;cases h))⟩
 ·intro b' j x hx
  simp only[g'] at hx
  split at hx
  ·rename_i hc;exact I.ownb _ _ _ hc
  ·exact I.ownb _ _ _ hx
 ·simp only[vb];exact I.lnd
 ·intro s hs
  have h1:=I.rsv s hs
  have hne':s≠m.nx:=by omega
  exact⟨by simp[g',hne',h1.1],by simp;omega⟩
 ·intro s b' h
  have h1:=I.mpk s b' h
  have hne':s≠m.nx:=by omega
  exact⟨by simp[g',hne',h1.1],by simp;omega,h1.2.2⟩
theorem Inv.freeze {g:G} {w:World} {m:Mem} (I:Inv g w m) {l k st:Nat} {cs:List AV} (hb:m.blk l k st=some cs) {b o e:Nat} (hbt:g.bt st=some (b,o,e)):
  ∃g',Ext g w g' w∧Inv g' w {m.put l k m.nx [] with nx:=m.nx+1}∧ ∀j,o≤j→j<e→g'.own b j=none:=by
 have hm:=y9 hb
 obtain⟨b1,o1,e1,h1,h2,h3,vs,h4,h5⟩:=I.cells hm hbt
 simp only at h1 h2 h3 h4 h5
 rw[hbt] at h1
 obtain⟨rfl,rfl,rfl⟩:b=b1∧o=o1∧e=e1:=by simpa using h1
 obtain⟨pre,post,hall,hput⟩:=VD hb
 let g':G:={g with bt:=fun s=>if s=m.nx then some (b,e,e) else g.bt s,own:=fun b' j=>if g.own b' j=some (false,st) then none else g.own b' j}
 have hne: ∀s x,g.bt s=some x→s≠m.nx:=fun s x h=>by have:=I.stlt s x h;omega
 have hbt': ∀s x,g.bt s=some x→g'.bt s=some x:=fun s x h=>by simp[g',hne s x h,h]
 have hown: ∀b' j,g.own b' j=none→g'.own b' j=none:=fun b' j h=>by simp[g',h]
 have hkept: ∀y,y≠(false,st)→Kept g w g' w y:=fun y hy b' j h=>⟨by
  have: ¬y=(false,st):=hy
  simp[g',h,this],rfl,rfl,fun _ _ h=>h⟩
 have ext:Ext g w g' w:=⟨⟨hbt',fun _ _ h=>h,fun b' j v p q=>⟨p,hown b' j q⟩,rfl,fun _ _ h=>h,Below.refl _ _,fun b ob h=>h▸OthKept.refl ob⟩,rfl⟩
 have hbn:g'.bt m.nx=some (b,e,e):=by simp[g']
 have hnd:=I.nd
 rw[hall] at hnd
 simp only[w2b,w30] at hnd
 have hlt: ∀bl∈pre++post,bl.st<m.nx:=fun bl hbl=>by
  refine I.st_lt ?_
  rw[hall]
  rcases w0b.1 hbl with h|h
  ·grind
  ·grind
 have hst: ∀bl∈pre++post,bl.st≠st:=fun bl hbl e=>by
  rw[w4f] at hnd
  rcases w0b.1 hbl with h|h
  ·exact hnd.2.2 bl.st (w42.2 ⟨bl,h,rfl⟩) st w24 e
  ·exact(List.nodup_cons.1 hnd.2.1).1 (e▸w42.2 ⟨bl,h,rfl⟩)
 have hall':({m.put l k m.nx [] with nx:=m.nx+1}:Mem).all=pre++⟨m.nx,[]⟩::post:=hput _ _
 refine⟨g',ext,⟨fun bl hbl hr'=> ?_,?_,?_,?_,?_,?_,I.hbase,?_,?_,?_⟩,fun j a1 a2=> ?_⟩
 ·rw[hall'] at hbl
  have old:bl∈pre++post→BlkOk g' w bl:=fun hin=>by
   refine(I.blk bl ?_ hr').mono ext (hkept _ (fun h=>hst bl hin (by injection h)))
   rw[hall];simp only[w0b,w57] at hin⊢
   rcases hin with h|h
   ·exact .inl h
   ·grind
  simp only[w0b,w57] at hbl
  rcases hbl with hbl|rfl|hbl
  ·exact old (w52 _ hbl)
  ·exact .inl ⟨b,e,e,hbn,by simp,fun j a1 a2=>by omega,[],Reps.nil _ _,fun j v hv=>by simp at hv⟩
  ·exact old (w5a _ hbl)
 ·rw[hall']
  simp only[w2b,w30]
  grind
 ·intro s x hx
  simp only[g'] at hx
  split at hx
  ·simp;omega
  ·have:=I.stlt s x hx;simp;omega
 ·intro t x hx
  have:=I.tklt t x hx
  exact⟨w3c this.1,this.2⟩
 ·intro t ht
  simp only[vb] at ht
  obtain⟨b',p,en,a1,a2⟩:=I.live t ht
  exact⟨b',p,en,a1,a2.mono (hkept _ (fun h=>by injection h with h _;cases h))⟩
 ·intro b' j x hx
  simp only[g'] at hx
  split at hx
  ·cases hx
  ·exact I.ownb _ _ _ hx
 ·simp only[vb];exact I.lnd
 ·intro s hs
  have h1:=I.rsv s hs
  have hne':s≠m.nx:=by omega
  exact⟨by simp[g',hne',h1.1],by simp;omega⟩
 ·intro s b' h
  have h1:=I.mpk s b' h
  have hne':s≠m.nx:=by omega
  exact⟨by simp[g',hne',h1.1],by simp;omega,h1.2.2⟩
 ·simp[g',(h3 j a1 a2).1]
theorem Inv.retell {g:G} {w:World} {m:Mem} (I:Inv g w m) {l k st:Nat} {cs cs':List AV} (hb:m.blk l k st=some cs) {b o e:Nat} (hbt:g.bt st=some (b,o,e)) {vs:List Value} (hr:Reps g w cs' vs) (hc: ∀(j:Nat) (v:Value),vs[j]? =some v→w.cell? ⟨b,o+j,none⟩=some v) (hl:o+cs'.length≤e):Inv g w (m.put l k st cs'):=by
 refine⟨fun bl hbl hr'=> ?_,?_,?_,?_,?_,I.ownb,I.hbase,?_,?_,?_⟩
 ·rcases X9 I _ hb hbl with rfl|⟨hbl,hne⟩
  ·obtain⟨b1,o1,e1,h1,h2,h3,_⟩:=I.cells (y9 hb) hbt
   simp only at h1 h3
   rw[hbt] at h1
   obtain⟨rfl,rfl,rfl⟩:b=b1∧o=o1∧e=e1:=by simpa using h1
   exact .inl ⟨b,o,e,hbt,hl,h3,vs,hr,hc⟩
  ·exact I.blk bl hbl hr'
 ·rw[WO _ hb];exact I.nd
 ·rw[tl];exact I.stlt
 ·rw[tl];exact I.tklt
 ·rw[vb];exact I.live
 ·rw[vb];exact I.lnd
 ·rw[tl];exact I.rsv
 ·rw[tl];exact I.mpk
theorem Inv.moved {g:G} {w:World} {m:Mem} (I:Inv g w m) {l k st:Nat} {cs:List AV} (hb:m.blk l k st=some cs) (new:List AV) (us ex:List Value) (t:TypeId) (h:Reps g w new us):
  ∃g',Ext g w g' (w.alloc (.cells (us++ex).toArray t))∧Inv g' (w.alloc (.cells (us++ex).toArray t)) {m.put l k m.nx new with nx:=m.nx+1}∧g'.bt m.nx=some (w.heap.size,0,(us++ex).length):=by
 obtain⟨g',k1,k2,k3⟩:=I.alloc_blkG new us ex t h
 refine⟨g',k1,?_,k3⟩
 obtain⟨pre,post,hall,hput⟩:=VD hb
 have hall':({m.put l k m.nx new with nx:=m.nx+1}:Mem).all=pre++⟨m.nx,new⟩::post:=hput _ _
 have hall2:({m with cur:=m.cur++[⟨m.nx,new⟩],nx:=m.nx+1}:Mem).all=m.all++[⟨m.nx,new⟩]:=by simp[Mem.all]
 have hnd:=k2.nd
 rw[hall2,hall] at hnd
 refine k2.sub (fun bl hbl=> ?_) ?_ (w08 _) (by simp only[vb];exact List.Sublist.refl _)
 ·grind
 ·grind
theorem Inv.store {g:G} {w:World} {m:Mem} (I:Inv g w m) {l k st off:Nat} {cs new:List AV} {us:List Value} (hb:m.blk l k st=some cs) {x0:Nat×Nat×Nat} (hbt:g.bt st=some x0) (hl:off+new.length≤cs.length) (hn:0<new.length) (hu:Reps g w new us):
  ∃b o e,g.bt st=some (b,o,e)∧Held g w (false,st) b (o+off) (o+off+us.length)∧Ext g w g (w.setCells b (o+off) us)∧Inv g (w.setCells b (o+off) us) (m.put l k st (splice cs off new)):=by
 have hm:=y9 hb
 obtain⟨b,o,e,h1,h2,h3,vs,h4,h5⟩:=I.cells hm hbt
 simp only at h1 h2 h3 h4 h5
 have hus:us.length=new.length:=hu.1
 have hheld:Held g w (false,st) b (o+off) (o+off+us.length):=fun j a1 a2=>h3 j (by omega) (by omega)
 have ext:Ext g w g (w.setCells b (o+off) us):=⟨ExtW.stored I (false,st) b (o+off) us hheld (by omega) (fun _ _ h=>h) (fun _ _ h=>h) (fun _ _ h=>h) rfl,rfl⟩
 have kept: ∀y,y≠(false,st)→Kept g w g (w.setCells b (o+off) us) y:=fun y hy=>Kept.stored (false,st) y b (o+off) us hheld hy (fun _ _ h=>h)
 refine⟨b,o,e,h1,hheld,ext,⟨fun bl hbl hr=> ?_,?_,?_,?_,?_,?_,?_,?_,?_,?_⟩⟩
 ·rcases X9 I _ hb hbl with rfl|⟨hbl,hne⟩
  ·refine .inl ⟨b,o,e,h1,by simp only[XO cs off new hl];exact h2,fun j a1 a2=> ?_,vs.take off++us++vs.drop (off+us.length),(h4.splice hu hl).mono ext,fun j v hv=> ?_⟩
   ·obtain⟨c1,c2,c3⟩:=h3 j a1 a2
    refine⟨c1,by rw[World.frozen?_setCells];exact c2,?_⟩
    by_cases hj:o+off≤j∧j<o+off+us.length
    ·have:=World.cell?_setCells_in b us (o+off) w (fun i hi=>(hheld (o+off+i) (by omega) (by omega)).2.2) (j-(o+off)) (by omega)
     grind
    ·rw[YM (fun _=>by omega)];exact c3
   ·have hvl:vs.length=cs.length:=h4.1
    have htl:(vs.take off).length=off:=by simp;omega
    by_cases hj:off≤j∧j<off+us.length
    ·rw[w1e,w39 (by omega),htl,w1b (by omega)] at hv
     have:=World.cell?_setCells_in b us (o+off) w (fun i hi=>(hheld (o+off+i) (by omega) (by omega)).2.2) (j-off) (by omega)
     grind
    ·rw[YM (fun _=>by omega)]
     grind
  ·exact(I.blk bl hbl hr).mono ext (kept _ (fun h=>hne (by injection h)))
 ·rw[WO _ hb];exact I.nd
 ·rw[tl];exact I.stlt
 ·rw[tl];exact I.tklt
 ·rw[vb]
  intro t ht
  obtain⟨b',p,en,a1,a2⟩:=I.live t ht
  exact⟨b',p,en,a1,a2.mono (kept _ (fun h=>by injection h with h _;cases h))⟩
 ·intro b' o' x hx
  have:=I.ownb b' o' x hx
  exact⟨this.1,by rw[tv];exact this.2⟩
 ·rw[tv];exact I.hbase
 ·rw[vb];exact I.lnd
 ·rw[tl];exact I.rsv
 ·rw[tl];exact I.mpk
theorem Inv.fill {g:G} {w:World} {m:Mem} (I:Inv g w m) {t b p e:Nat} {us:List Value} (ht:t∈m.live.flatten) (hg:g.tk t=some (b,p,e)) (hl:p+us.length≤e) (hn:0<us.length):
  ∃g',Held g w (true,t) b p e∧Ext g w g' (w.setCells b p us)∧Inv g' (w.setCells b p us) {m with nx:=m.nx+1,live:=addTok m.nx (dropTok t m.live)}∧g'.tk m.nx=some (b,p+us.length,e)∧
   ∀j,p≤j→j<p+us.length→g'.own b j=none:=by
 obtain⟨b1,p1,e1,a1,a2⟩:=I.live t ht
 rw[hg] at a1
 obtain⟨rfl,rfl,rfl⟩:b=b1∧p=p1∧e=e1:=by simpa using a1
 let g':G:={g with tk:=fun st=>if st=m.nx then some (b,p+us.length,e) else g.tk st,own:=fun b' o=>if b'=b∧p≤o∧o<e then(if o<p+us.length then none else some (true,m.nx)) else g.own b' o}
 have hne: ∀st x,g.tk st=some x→st≠m.nx:=fun st x h=>by have:=I.tklt st x h;omega
 have htk: ∀st x,g.tk st=some x→g'.tk st=some x:=fun st x h=>by simp[g',hne st x h,h]
 have hheld:Held g w (true,t) b p (p+us.length):=fun j c1 c2=>a2 j c1 (by omega)
 have hnone: ∀b' j,g.own b' j=none→g'.own b' j=none:=by
  intro b' j hj
  simp only[g']
  split
  ·rename_i hc
   have:=(a2 j hc.2.1 hc.2.2).1
   grind
  ·exact hj
 have hother: ∀y,y≠(true,t)→ ∀b' j,g.own b' j=some y→g'.own b' j=some y:=by
  intro y hy b' j hj
  simp only[g']
  split
  ·rename_i hc
   have:=(a2 j hc.2.1 hc.2.2).1
   grind
  ·exact hj
 have ext:Ext g w g' (w.setCells b p us):=⟨ExtW.stored I (true,t) b p us hheld hn (fun _ _ h=>h) htk hnone rfl,rfl⟩
 have kept: ∀y,y≠(true,t)→Kept g w g' (w.setCells b p us) y:=fun y hy=>Kept.stored (true,t) y b p us hheld hy (hother y hy)
 refine⟨g',a2,ext,⟨fun bl hbl hr=>(I.blk bl hbl hr).mono ext (kept _ (fun h=>by injection h with h _;cases h)),I.nd,?_,?_,?_,?_,?_,by rw[vm];exact List.nodup_cons.2 ⟨fun h=>Nat.lt_irrefl _ (I.live_lt ((qN t _).subset h)),I.lnd.sublist (qN t _)⟩,fun st hr=>⟨(I.rsv st hr).1,w3c (I.rsv st hr).2⟩,fun st b h=>⟨(I.mpk st b h).1,w3c (I.mpk st b h).2.1,(I.mpk st b h).2.2⟩⟩,by simp[g'],?_⟩
 ·intro st x hx;have:=I.stlt st x hx;simp;omega
 ·intro t' x hx
  simp only[g'] at hx
  split at hx
  ·rename_i e;injection hx with hx;subst hx;subst e;exact⟨Nat.lt_succ_self _,(I.tklt _ _ hg).2⟩
  ·have:=I.tklt t' x hx;exact⟨w3c this.1,this.2⟩
 ·intro t' ht'
  rw[vm] at ht'
  rcases w57.1 ht' with rfl|ht'
  ·refine⟨b,p+us.length,e,by simp[g'],fun j c1 c2=> ?_⟩
   obtain⟨d1,d2,d3⟩:=a2 j (by omega) c2
   refine⟨?_,by rw[World.frozen?_setCells];exact d2,by rw[YM (fun _=>by omega)];exact d3⟩
   grind
  ·obtain⟨h1,h2⟩:=Qi I.lnd ht'
   have h2:=h2 ht
   obtain⟨b2,p2,e2,c1,c2⟩:=I.live t' h1
   exact⟨b2,p2,e2,htk _ _ c1,c2.mono (kept _ (fun h=>by injection h with _ h;simp[h] at h2))⟩
 ·intro b' o' x hx
  rw[tv]
  simp only[g'] at hx
  split at hx
  ·rename_i hc
   rw[hc.1]
   exact I.ownb b o' _ (a2 o' hc.2.1 hc.2.2).1
  ·exact I.ownb b' o' x hx
 ·rw[tv];exact I.hbase
 ·grind
theorem Vi {g:G} {w:World} {v:Value} {x:AV} (h:avCell v=some x):Rep g w x v:=by
 unfold avCell at h
 split at h<;>simp at h<;>subst h
 ·exact .bool _
 ·exact .int _ _
 ·exact .str _ _ rfl
 ·exact .nilptr
 ·exact .nils
 ·exact .nilfn
theorem XX {g:G} {w:World}: ∀{vs:List Value} {xs:List AV},avCells vs=some xs→Reps g w xs vs
 | [],xs,h=>by simp[avCells] at h;subst h;exact Reps.nil g w
 |v::r,xs,h=>by
  simp only[avCells] at h
  split at h
  ·rename_i a l h1 h2
   simp at h;subst h
   exact Reps.cons (Vi h1) (XX h2)
  ·cases h
theorem xB {g:G} {w:World} {v:Value} {x:AV} (h:avOf v=some x):Rep g w x v:=by
 unfold avOf at h
 split at h
 ·rename_i cs
  cases hq:avCells cs.toList with
  |none=>rw[hq] at h;cases h
  |some l=>rw[hq] at h;simp at h;subst h;exact(XX hq).agg
 ·rename_i vs
  split at h
  ·rename_i h0
   simp at h;subst h
   have:vs= #[]:=Array.eq_empty_of_size_eq_zero h0
   subst this
   exact xK g w
  ·cases h
 ·exact Vi h
theorem Zz {g:G} {w:World} {ρ:List AV} {tmps:Array Value} (hR:Reps g w ρ tmps.toList) (i:Nat):Rep g w (ρ.getD i (.tup [])) (tmps.getD i Go.undef):=by
 rw[w03,w38]
 have hl:tmps.size=ρ.length:=by simpa using hR.1
 cases h1:ρ[i]? with
 |some x=>
  obtain⟨v,h2,h3⟩:=hR.get h1
  grind
 |none=>
  have:ρ.length≤i:=by simpa using h1
  rw[Array.getElem?_eq_none (by omega)]
  exact xK g w
theorem ze {g:G} {w:World} {ρ:List AV} {a:Act} (hR:Reps g w ρ a.tmps.toList) {x:Operand} {y:Opd} (h:compOpd x=some y):Rep g w (y.ev ρ) (a.eval x):=by
 cases x with
 |tmp t=>simp[compOpd] at h;subst h;exact Zz hR t
 |const v=>
  simp only[compOpd,w00] at h
  obtain⟨z,h1,rfl⟩:=h
  exact xB h1
 |func f=>simp[compOpd] at h;subst h;exact .fn _ _ _ _ _ rfl rfl (fun j c v h=>by simp at h) (fun j c v h=>by simp at h)
 |global n=>simp[compOpd] at h
theorem tH {g:G} {w:World} {ρ:List AV} {a:Act} (hR:Reps g w ρ a.tmps.toList): ∀{xs:List Operand} {ys:List Opd},compOpds xs=some ys→Reps g w (ys.map fun p=>p.ev ρ) (xs.map a.eval)
 | [],ys,h=>by simp[compOpds] at h;subst h;exact Reps.nil g w
 |x::r,ys,h=>by
  simp only[compOpds] at h
  split at h
  ·rename_i y l h1 h2
   simp at h;subst h
   exact Reps.cons (ze hR h1) (tH hR h2)
  ·cases h
theorem Rep.inv_bool {g:G} {w:World} {b:Bool} {v:Value} (h:Rep g w (.bool b) v):v= .bool b:=by cases h;rfl
theorem Rep.inv_int {g:G} {w:World} {k:IntKind} {n:Int} {v:Value} (h:Rep g w (.int k n) v):v= .int k n:=by cases h;rfl
theorem Rep.inv_str {g:G} {w:World} {l:List UInt8} {v:Value} (h:Rep g w (.str l) v): ∃s,v= .string s∧s.data.toList=l:=by
 cases h with|str _ s h=>exact⟨s,rfl,h⟩
theorem Rep.inv_nils {g:G} {w:World} {v:Value} (h:Rep g w .nils v):v= .slice none 0 0:=by cases h;rfl
theorem Rep.inv_ptr {g:G} {w:World} {l k st off:Nat} {v:Value} (h:Rep g w (.ptr l k st off) v): ∃b o e,g.bt st=some (b,o,e)∧v= .pointer (some ⟨b,o+off,none⟩):=by
 cases h with|ptr _ _ _ _ b o e hb=>exact⟨b,o,e,hb,rfl⟩
theorem Rep.inv_arr {g:G} {w:World} {l k st off len:Nat} {v:Value} (h:Rep g w (.arr l k st off len) v):
  (∃b o e cap,g.bt st=some (b,o,e)∧v= .slice (some ⟨b,o+off,none⟩) len cap∧len≤cap)∨(len=0∧ ∃a cap,v= .slice (some a) 0 cap):=by
 cases h with
 |arr _ _ _ _ _ b o e cap hb hcap=>exact .inl ⟨b,o,e,cap,hb,rfl,hcap⟩
 |arr0 _ _ _ _ a cap=>exact .inr ⟨rfl,a,cap,rfl⟩
theorem Rep.inv_grow {g:G} {w:World} {s l k st len:Nat} {v:Value} (h:Rep g w (.grow s l k st len) v):
  ∃b o e cap,g.bt st=some (b,o,e)∧v= .slice (some ⟨b,o,none⟩) len cap∧len≤cap∧o+cap*s=e:=by
 cases h with|grow _ _ _ _ _ b o e cap hb hcap he=>exact⟨b,o,e,cap,hb,rfl,hcap,he⟩
theorem Rep.grow_arr {g:G} {w:World} {s l k st len:Nat} {v:Value} (h:Rep g w (.grow s l k st len) v):Rep g w (.arr l k st 0 len) v:=by
 obtain⟨b,o,e,cap,hb,rfl,hcap,_⟩:=h.inv_grow
 exact .arr l k st 0 len b o e cap hb hcap
theorem Rep.asArr {g:G} {w:World} {x:AV} {v:Value} (h:Rep g w x v):Rep g w x.asArr v:=by
 cases x<;>first|exact h|exact h.grow_arr
theorem Rep.inv_ro {g:G} {w:World} {cs:List AV} {v:Value} (h:Rep g w (.ro cs) v): ∃b o,v= .pointer (some ⟨b,o,none⟩)∧ ∃f:Nat→Value,
  (∀(j:Nat) (c:AV),cs[j]? =some c→w.cell? ⟨b,o+j,none⟩=some (f j)∧g.own b (o+j)=none)∧ ∀(j:Nat) (c:AV),cs[j]? =some c→Rep g w c (f j):=by
 cases h with|ro _ b o f hc hr=>exact⟨b,o,rfl,f,hc,hr⟩
theorem Rep.inv_list {g:G} {w:World} {s:Nat} {tk:Tok} {xs:List AV} {v:Value} (h:Rep g w (.list s tk xs) v):
  (∃b o cap,v= .slice (some ⟨b,o,none⟩) xs.length cap∧(∀(i:Nat) (x:AV),xs[i]? =some x→x.cells.length=s)∧xs.length≤cap∧TokAt g tk b (o+xs.length*s) (o+cap*s)∧
   ∃f:Nat→Nat→Value,(∀(i j:Nat) (x c:AV),xs[i]? =some x→x.cells[j]? =some c→w.cell? ⟨b,o+(i*s+j),none⟩=some (f i j)∧g.own b (o+(i*s+j))=none∧(f i j).oneCell'=true)∧
    ∀(i j:Nat) (x c:AV),xs[i]? =some x→x.cells[j]? =some c→Rep g w c (f i j))∨
  (xs=[]∧ ∃a cap,v= .slice (some a) 0 cap∧(tk= .none∨tk= .full∧cap=0)):=by
 cases h with
 |list _ _ _ b o cap f hs hcap htk hc hr=>exact .inl ⟨b,o,cap,rfl,hs,hcap,htk,f,hc,hr⟩
 |empty _ _ a cap h=>exact .inr ⟨rfl,a,cap,rfl,h⟩
def Yields (P:Program) (a:Act) (o:Oper) (g:G) (w:World) (r:AV) (m':Mem):Prop:=
 ∃g' w' v,((execOp a.eval o).run P w= .ok (.value v) w'∨((execOp a.eval o).run P w= .ok .skip w'∧v=Go.undef))∧Ext g w g' w'∧Inv g' w' m'∧Rep g' w' r v
theorem Yields.pure {P:Program} {a:Act} {o:Oper} {g:G} {w:World} {r:AV} {m:Mem} {v:Value} (I:Inv g w m) (h:(execOp a.eval o).run P w= .ok (.value v) w) (k:Rep g w r v):Yields P a o g w r m:=
 ⟨g,w,v,.inl h,Ext.refl g w,I,k⟩
section
variable {P : Program} {g : G} {w : World} {ρ : List AV} {a : Act} {m m' : Mem} {o : Oper} {r : AV}
theorem tD {t:TypeId} {n:Nat} (h:sizeOfT P t=some n) (w:World):(sizeOf t).run P w= .ok n w:=by
 simp only[sizeOfT,w00] at h
 obtain⟨i,h1,h2⟩:=h
 simp[sizeOf,typeInfo,h1,h2]
theorem Ze {t:TypeId} {b:Bool} (h:aggT P t=some b) (w:World):(isAgg t).run P w= .ok b w:=by
 unfold aggT at h
 unfold isAgg
 cases hu:P.underlying t with
 |none=>rw[hu] at h;cases h
 |some d=>
  rw[hu] at h
  rw[Sem.run_bind,run_underlying hu w]
  cases d<;>simp at h<;>subst h<;>rfl
theorem jb {t:TypeId} {x:AV} (h:zeroT P t=some x) (w:World): ∃v,(zeroValue t).run P w= .ok v w∧avOf v=some x:=by
 simp only[zeroT,w05] at h
 obtain⟨v,⟨i,h1,h2⟩,h3⟩:=h
 exact⟨v,by simp[zeroValue,typeInfo,h1,h2],h3⟩
theorem z0y (I:Inv g w m) (cs:List AV) (us:List Value) (t:TypeId) (h:Reps g w cs us):
  ∃g',Ext g w g' (w.alloc (.cells us.toArray t))∧Inv g' (w.alloc (.cells us.toArray t)) (m.new cs).2∧Rep g' (w.alloc (.cells us.toArray t)) (m.new cs).1 (.pointer (some ⟨w.heap.size,0,none⟩)):=by
 obtain⟨g',h1,h2,h3⟩:=I.alloc_blk cs us t h
 exact⟨g',h1,h2,.ptr _ _ _ 0 _ 0 _ h3⟩
theorem z3A (I:Inv g w m) {e:TypeId} {z:AV} (hop:o.op= .alloc e) (hz:zeroT P e=some z) (hz0:0<z.cells.length):Yields P a o g w (m.new z.cells).1 (m.new z.cells).2:=by
 obtain⟨v,h1,h2⟩:=jb hz w
 have h3:=(xB (g:=g) (w:=w) h2).cells hz0
 obtain⟨g',k1,k2,k3⟩:=z0y I z.cells v.cells.toList e h3
 refine⟨g',_,_,.inl ?_,k1,k2,k3⟩
 simp[execOp,hop,Instr.alloc,h1,newVar,newRow]
theorem z7c (hR:Reps g w ρ a.tmps.toList) (I:Inv g w m) {e:TypeId} {x:Operand} {y:Opd} {n:Nat} (hop:o.op= .box e x) (hx:compOpd x=some y) (hn:(y.ev ρ).cells.length=n) (h0:0<n):
  Yields P a o g w (m.new (y.ev ρ).cells).1 (m.new (y.ev ρ).cells).2:=by
 have h3:=(ze hR hx).cells (by omega)
 obtain⟨g',k1,k2,k3⟩:=z0y I (y.ev ρ).cells (a.eval x).cells.toList e h3
 refine⟨g',_,_,.inl ?_,k1,k2,k3⟩
 simp[execOp,hop,Instr.box,newVar,newRow]
theorem z3y (I:Inv g w m) {x:AV} {v:Value} {cs:List AV} (h:Rep g w x v) (hc:m.at x=some cs):
  ∃b o us,v= .pointer (some ⟨b,o,none⟩)∧Reps g w cs us∧ ∀(j:Nat) (u:Value),us[j]? =some u→w.cell? ⟨b,o+j,none⟩=some u:=by
 cases h with
 |ptr l k st off b o e hb=>
  simp only[Mem.at,w00] at hc
  obtain⟨cs0,h1,rfl⟩:=hc
  obtain⟨b1,o1,e1,a1,a2,a3,vs,a4,a5⟩:=I.cells (y9 h1) hb
  rw[hb] at a1
  obtain⟨rfl,rfl,rfl⟩:b=b1∧o=o1∧e=e1:=by simpa using a1
  exact⟨b,o+off,vs.drop off,rfl,a4.drop off,fun j u hj=>by rw[List.getElem?_drop] at hj;rw[w48];exact a5 _ _ hj⟩
 |ro cs' b o f hc' hr=>
  simp only[Mem.at,Option.some.injEq] at hc
  subst hc
  refine⟨b,o,(List.range cs'.length).map f,rfl,⟨by simp,fun j c v h1 h2=> ?_⟩,fun j u hj=> ?_⟩
  ·grind
  ·have hj':j<cs'.length:=by
    grind
   simp_all
 |_=>simp[Mem.at] at hc
theorem U1 (I:Inv g w m) {l k st off len:Nat} {v:Value} {cs:List AV} (h:Rep g w (.arr l k st off len) v) (hc:m.blk l k st=some cs):
  (len=0∧ ∃a cap,v= .slice (some a) 0 cap)∨
  ∃b o cap us,v= .slice (some ⟨b,o,none⟩) len cap∧len≤cap∧Reps g w (cs.drop off) us∧ ∀(j:Nat) (u:Value),us[j]? =some u→w.cell? ⟨b,o+j,none⟩=some u:=by
 rcases h.inv_arr with⟨b,o,e,cap,hb,hv,hcap⟩|h
 ·obtain⟨b1,o1,e1,a1,a2,a3,vs,a4,a5⟩:=I.cells (y9 hc) hb
  rw[hb] at a1
  obtain⟨rfl,rfl,rfl⟩:b=b1∧o=o1∧e=e1:=by simpa using a1
  exact .inr ⟨b,o+off,cap,vs.drop off,hv,hcap,a4.drop off,fun j u hj=>by rw[List.getElem?_drop] at hj;rw[w48];exact a5 _ _ hj⟩
 ·exact .inl h
theorem z0l {n:Nat} {cs:List AV} {v:AV} (h:takeV true n cs=some v):v= .agg (cs.take n)∧n≤cs.length:=by
 unfold takeV at h
 grind
theorem z0k {n:Nat} {cs:List AV} {v:AV} (h:takeV false n cs=some v):cs[0]? =some v∧n≤cs.length:=by
 unfold takeV at h
 split at h
 ·simp at h;exact⟨by cases cs<;>simp_all,by assumption⟩
 ·cases h
theorem XR (I:Inv g w m) {t:TypeId} {b:Bool} {n:Nat} {x:AV} {v:Value} {cs:List AV} {y:AV} (hx:Rep g w x v) (hb:aggT P t=some b) (hn:sizeOfT P t=some n) (hc:m.at x=some cs) (ht:takeV b n cs=some y):
  ∃u,(Instr.loadAt t v).run P w= .ok u w∧Rep g w y u:=by
 obtain⟨bb,oo,us,rfl,h1,h2⟩:=z3y I hx hc
 cases b with
 |true=>
  obtain⟨rfl,hle⟩:=z0l ht
  have hul:us.length=cs.length:=h1.1
  have hl:(loadCells ⟨bb,oo,none⟩ n).run P w= .ok (us.take n).toArray w:=by
   have:=run_loadCells_list (P:=P) w ⟨bb,oo,none⟩ (us.take n) (fun j v hj=>by
    rw[Addr.add_mid]
    rw[w3f] at hj
    split at hj
    ·grind
    ·cases hj)
   rw[w20,w0c (by omega)] at this
   exact this
  exact⟨_,by simp[Instr.loadAt,Instr.sureAddr,loadVar,Ze hb w,tD hn w,hl],(h1.take n).agg⟩
 |false=>
  obtain⟨h0,hle⟩:=z0k ht
  obtain⟨u,h3,h4⟩:=h1.get h0
  have:=h2 0 u h3
  exact⟨u,by simp[Instr.loadAt,Instr.sureAddr,loadVar,Ze hb w];simp at this;rw[this],h4⟩
theorem z4o (hR:Reps g w ρ a.tmps.toList) (I:Inv g w m) {t:TypeId} {x:Operand} {y:Opd} {b:Bool} {n:Nat} {cs:List AV} (hop:o.op= .load t x) (hx:compOpd x=some y) (hb:aggT P t=some b) (hn:sizeOfT P t=some n)
  (hc:m.at (y.ev ρ)=some cs) (ht:takeV b n cs=some r):Yields P a o g w r m:=by
 obtain⟨u,h1,h2⟩:=XR I (ze hR hx) hb hn hc ht
 exact .pure I (by simp[execOp,hop,h1]) h2
theorem Inv.putS {g:G} {w:World} {m:Mem} {l k st:Nat} {cs:List AV} (I:Inv g w (m.put l k st cs)) (ts:List Nat):Inv g w (m.putS l k st cs ts):=by
 rw[UZ]
 split
 ·have:{m.put l k st cs with live:=m.live}=m.put l k st cs:=by unfold Mem.put;split<;>rfl
  grind
 ·have hl:(m.put l k st cs).live=m.live:=by unfold Mem.put;split<;>rfl
  have h:=z5j (j:=m.stk.length-l) (ts:=ts) (hl▸I.lnd)
  exact⟨I.blk,I.nd,I.stlt,I.tklt,fun t ht=>I.live t (hl▸h.1 t ht),I.ownb,I.hbase,h.2,I.rsv,I.mpk⟩
theorem z2m (hR:Reps g w ρ a.tmps.toList) (I:Inv g w m) {t:TypeId} {x z:Operand} {y u:Opd} {n:Nat} (hop:o.op= .store t x z) (hx:compOpd x=some y) (hz:compOpd z=some u) (hn:sizeOfT P t=some n)
  (he:evStore m n (y.ev ρ) (u.ev ρ)=some (r,m')) (h0:0<n):Yields P a o g w r m':=by
 unfold evStore at he
 split at he
 ·rename_i l k st off hy
  split at he
  ·rename_i cs hb
   split at he
   ·rename_i hc
    simp only[w09,beq_iff_eq,decide_eq_true_eq] at hc
    obtain⟨⟨⟨c1,c2⟩,c3⟩,c4⟩:=hc
    simp only[Option.some.injEq,Prod.mk.injEq] at he
    obtain⟨rfl,rfl⟩:=he
    have hxr:=ze hR hx
    have hzr:=(ze hR hz).cells (by omega)
    rw[hy] at hxr
    obtain⟨b1,o1,e1,hb1,heq⟩:=hxr.inv_ptr
    ·obtain⟨b2,o2,e2,k1,k2,k3,k4⟩:=I.store (off:=off) (new:=(u.ev ρ).cells) hb hb1 (by omega) (by omega) hzr
     rw[hb1] at k1
     obtain⟨rfl,rfl,rfl⟩:b1=b2∧o1=o2∧e1=e2:=by simpa using k1
     refine⟨g,_,Go.undef,.inr ⟨?_,rfl⟩,k3,k4.putS _,xK _ _⟩
     have hsz:(a.eval z).cells.size=n:=by have:=hzr.1;simp at this;omega
     have hst:=run_storeCells_cells (P:=P) b1 (o1+off) (a.eval z).cells.toList 0 w (fun j hj=>by simpa using (k2 (o1+off+j) (by omega) (by simpa using hj)).2.2)
      (fun j hj=>by simpa using (k2 (o1+off+j) (by omega) (by simpa using hj)).2.1) (hzr.one c2)
     simp only[Nat.add_zero] at hst
     simp only[execOp,hop,heq,Instr.storeAt,Instr.sureAddr,storeVar,Sem.run_bind,Sem.run_pure,Result.andThen_ok,tD hn w,hsz]
     simp[hst]
   ·cases he
  ·cases he
 ·cases he
end
section
variable {P : Program} {g : G} {w : World} {ρ : List AV} {a : Act} {m m' : Mem} {o : Oper} {r : AV}
theorem Yy {k k':IntKind} (h:sameKind k k'=true):k=k':=by cases k<;>cases k'<;>first|rfl|(simp[sameKind] at h)
theorem jH {op:BinOp} {k:IntKind} {x y:Int} {z:AV} (h:evBits op k x y=some z) (g:G) (w:World): ∃v,(Op.intBits op k x y).run P w= .ok v w∧Rep g w z v:=by
 cases op<;>simp only[evBits] at h<;>first|(cases h;done)|(injection h with h;subst h;exact⟨_,rfl,.int _ _⟩)
theorem z6S {op:BinOp} {k:IntKind} {x y:Int} {z:AV} (t:TypeId) (h:(match op with| .shl=>evShift .shl k x y| .shr=>evShift .shr k x y|_=>evInt op k x y)=some z) (g:G) (w:World):
  ∃v,(binOp op t (.int k x) (.int k y)).run P w= .ok v w∧Rep g w z v:=by
 cases op<;>simp only[evInt,evShift] at h
 case add=>injection h with h;subst h;exact⟨_,by simp[binOp,Op.intArith],.int _ _⟩
 case sub=>injection h with h;subst h;exact⟨_,by simp[binOp,Op.intArith],.int _ _⟩
 case mul=>injection h with h;subst h;exact⟨_,by simp[binOp,Op.intArith],.int _ _⟩
 case quo=>
  split at h
  ·cases h
  ·rename_i h0;injection h with h;subst h;exact⟨_,by simp[binOp,Op.intDiv,h0],.int _ _⟩
 case rem=>
  split at h
  ·cases h
  ·rename_i h0;injection h with h;subst h;exact⟨_,by simp[binOp,Op.intDiv,h0],.int _ _⟩
 case and=>obtain⟨v,h1,h2⟩:=jH (P:=P) h g w;exact⟨v,by simp[binOp,h1],h2⟩
 case or=>obtain⟨v,h1,h2⟩:=jH (P:=P) h g w;exact⟨v,by simp[binOp,h1],h2⟩
 case xor=>obtain⟨v,h1,h2⟩:=jH (P:=P) h g w;exact⟨v,by simp[binOp,h1],h2⟩
 case andNot=>obtain⟨v,h1,h2⟩:=jH (P:=P) h g w;exact⟨v,by simp[binOp,h1],h2⟩
 case shl=>
  split at h
  ·cases h
  ·rename_i h0;injection h with h;subst h;exact⟨_,by simp only[binOp,Op.shift];rw[if_neg h0];rfl,.int _ _⟩
 case shr=>
  split at h
  ·cases h
  ·rename_i h0;injection h with h;subst h;exact⟨_,by simp only[binOp,Op.shift];rw[if_neg h0];rfl,.int _ _⟩
 case eql=>injection h with h;subst h;exact⟨_,by simp[binOp,Op.intCmp],.bool _⟩
 case neq=>injection h with h;subst h;exact⟨_,by simp[binOp,Op.intCmp],.bool _⟩
 case lss=>injection h with h;subst h;exact⟨_,by simp[binOp,Op.intCmp],.bool _⟩
 case leq=>injection h with h;subst h;exact⟨_,by simp[binOp,Op.intCmp],.bool _⟩
 case gtr=>injection h with h;subst h;exact⟨_,by simp[binOp,Op.intCmp],.bool _⟩
 case geq=>injection h with h;subst h;exact⟨_,by simp[binOp,Op.intCmp],.bool _⟩
theorem z2p {op:BinOp} {k k':IntKind} {x y:Int} {z:AV} (t:TypeId) (ho:op= .shl∨op= .shr) (h:evShift op k x y=some z) (g:G) (w:World):
  ∃v,(binOp op t (.int k x) (.int k' y)).run P w= .ok v w∧Rep g w z v:=by
 rcases ho with rfl|rfl<;>simp only[evShift] at h<;>split at h
 ·cases h
 ·rename_i h0;injection h with h;subst h;exact⟨_,by simp only[binOp,Op.shift];rw[if_neg h0];rfl,.int _ _⟩
 ·cases h
 ·rename_i h0;injection h with h;subst h;exact⟨_,by simp only[binOp,Op.shift];rw[if_neg h0];rfl,.int _ _⟩
theorem z6e {op:BinOp} {x y:ByteArray} {z:AV} (t:TypeId) (h:evStr op x.data.toList y.data.toList=some z) (g:G) (w:World):
  ∃v,(binOp op t (.string x) (.string y)).run P w= .ok v w∧Rep g w z v:=by
 have sz: ∀s:ByteArray,s.data.toList.length=s.size:=fun s=>by simp
 cases op<;>simp only[evStr] at h<;>first|(cases h;done)|skip
 case add=>
  split at h
  ·cases h
  ·rename_i h0
   injection h with h;subst h
   refine⟨.string (x++y),?_,.str _ _ (by simp)⟩
   have h1: ¬((((x.size+y.size:Nat):Int))>IntKind.max .i64):=by
    trivial
   simp only[binOp,Op.stringOp]
   simp_all
 all_goals
  injection h with h;subst h
  refine⟨_,rfl,?_⟩
  simp only[ByteArray.toList_eq]
  exact .bool _
theorem Qg (op:BinOp) (t:TypeId) (x y:Operand) (u v:Value) (h:(∃k n,u= .int k n)∨(∃s,u= .string s)∨(∃b,u= .bool b)) (w:World):(eqGuard op t x y u v).run P w= .ok () w:=by
 rcases h with⟨k,n,rfl⟩|⟨s,rfl⟩|⟨b,rfl⟩<;>(unfold eqGuard;cases op<;>simp)
theorem z7d (hR:Reps g w ρ a.tmps.toList) (I:Inv g w m) {op:BinOp} {xt yt:TypeId} {x y:Operand} {x' y':Opd} (hop:o.op= .binOp op xt x y yt) (hx:compOpd x=some x') (hy:compOpd y=some y')
  (he:evBin op (x'.ev ρ) (y'.ev ρ)=some r):Yields P a o g w r m:=by
 have h1:=ze hR hx
 have h2:=ze hR hy
 have fin: ∀v,((∃k n,a.eval x= .int k n)∨(∃s,a.eval x= .string s)∨(∃b,a.eval x= .bool b))→(binOp op xt (a.eval x) (a.eval y)).run P w= .ok v w→Rep g w r v→Yields P a o g w r m:=by
  intro v hk hv hrep
  refine .pure I ?_ hrep
  simp[execOp,hop,Qg op xt x y (a.eval x) (a.eval y) hk w,hv]
 unfold evBin at he
 split at he
 ·rename_i k n k' n' e1 e2
  rw[e1] at h1;rw[e2] at h2
  have i1:=h1.inv_int
  have i2:=h2.inv_int
  have hk:(∃k n,a.eval x= .int k n)∨(∃s,a.eval x= .string s)∨(∃b,a.eval x= .bool b):= .inl ⟨k,n,i1⟩
  by_cases hs:op= .shl∨op= .shr
  ·have he':evShift op k n n'=some r:=by rcases hs with rfl|rfl<;>exact he
   obtain⟨v,hv,hrep⟩:=z2p (P:=P) (k':=k') xt hs he' g w
   grind
  ·have he':sameKind k k'=true∧evInt op k n n'=some r:=by
    grind
   obtain⟨hkk,he'⟩:=he'
   have:=Yy hkk
   subst this
   obtain⟨v,hv,hrep⟩:=z6S (P:=P) (op:=op) xt (by cases op<;>first|exact absurd (.inl rfl) hs|exact absurd (.inr rfl) hs|exact he') g w
   grind
 ·rename_i s1 s2 e1 e2
  rw[e1] at h1;rw[e2] at h2
  obtain⟨b1,i1,rfl⟩:=h1.inv_str
  obtain⟨b2,i2,rfl⟩:=h2.inv_str
  obtain⟨v,hv,hrep⟩:=z6e (P:=P) xt he g w
  grind
 ·cases he
theorem z6R {t:TypeId} (h:isBoolT P t=true):P.underlying t=some .bool:=by
 unfold isBoolT at h
 grind
theorem z10 (hR:Reps g w ρ a.tmps.toList) (I:Inv g w m) {op:BinOp} {xt yt:TypeId} {x y:Operand} {x' y':Opd} (hop:o.op= .binOp op xt x y yt) (hx:compOpd x=some x') (hy:compOpd y=some y')
  (ht:isBoolT P xt=true) {u v:Bool} (e1:x'.ev ρ= .bool u) (e2:y'.ev ρ= .bool v) (neg:Bool) (hn:op=(if neg then .neq else .eql)):Yields P a o g w (.bool (if neg then !(u==v) else(u==v))) m:=by
 have h1:=ze hR hx
 have h2:=ze hR hy
 rw[e1] at h1;rw[e2] at h2
 have i1:=h1.inv_bool
 have i2:=h2.inv_bool
 have hu:=z6R ht
 have heq:(Op.equal xt (.bool u) (.bool v)).run P w= .ok (u==v) w:=by
  rw[Op.equal,show Op.maxDepth=9999+1 from rfl,Op.equalIn]
  simp[run_underlying hu]
 refine .pure I (v:= .bool (if neg then !(u==v) else(u==v))) ?_ (.bool _)
 cases neg<;>simp at hn<;>subst hn<;>simp[execOp,hop,i1,i2,Qg _ xt x y (.bool u) (.bool v) (.inr (.inr ⟨u,rfl⟩)) w,binOp,heq]
theorem z7N (hR:Reps g w ρ a.tmps.toList) (I:Inv g w m) {op:UnOp} {xt:TypeId} {x:Operand} {x':Opd} (hop:o.op= .unOp op xt x) (hx:compOpd x=some x') (he:evUn op (x'.ev ρ)=some r):Yields P a o g w r m:=by
 have h1:=ze hR hx
 unfold evUn at he
 split at he
 ·rename_i k n e1
  rw[e1] at h1
  simp at he;subst he
  refine .pure I (v:= .int k (k.wrap (0-n))) ?_ (by simpa using Rep.int k (k.wrap (0-n)))
  simp[execOp,hop,h1.inv_int,Op.unary,Op.intArith]
 ·rename_i k n e1
  rw[e1] at h1
  obtain⟨v,hv,hrep⟩:=jH (P:=P) he g w
  exact .pure I (by simp[execOp,hop,h1.inv_int,Op.unary,hv]) hrep
 ·rename_i b e1
  rw[e1] at h1
  simp at he;subst he
  exact .pure I (v:= .bool !b) (by simp[execOp,hop,h1.inv_bool,Op.unary]) (.bool _)
 ·cases he
theorem z0z (hR:Reps g w ρ a.tmps.toList) (I:Inv g w m) {x:Operand} {x':Opd} (hop:o.op= .move x∨o.op= .assign x) (hx:compOpd x=some x'):Yields P a o g w (x'.ev ρ) m:=
 .pure I (by rcases hop with hop|hop<;>simp[execOp,hop]) (ze hR hx)
theorem z4b (hR:Reps g w ρ a.tmps.toList) (I:Inv g w m) {c x y:Operand} {c' x' y':Opd} (hop:o.op= .pick c x y) (hc:compOpd c=some c') (hx:compOpd x=some x') (hy:compOpd y=some y') {t:Bool} (ht:c'.ev ρ= .bool t):
  Yields P a o g w (if t then x'.ev ρ else y'.ev ρ) m:=by
 have h1:=ze hR hc
 rw[ht] at h1
 refine .pure I (v:=if t then a.eval x else a.eval y) (by simp[execOp,hop,h1.inv_bool,asBool]) ?_
 cases t
 ·exact ze hR hy
 ·exact ze hR hx
theorem z5G {t:TypeId} (h:isU8 P t=true):P.underlying t=some (.int .u8):=by
 unfold isU8 at h
 grind
theorem z4O (hR:Reps g w ρ a.tmps.toList) (I:Inv g w m) {s d:TypeId} {x:Operand} {x':Opd} {j k k':IntKind} {n:Int} (hop:o.op= .convert s d x) (hx:compOpd x=some x') (hs:P.underlying s=some (.int j)) (hd:P.underlying d=some (.int k))
  (he:x'.ev ρ= .int k' n):Yields P a o g w (.int k (k.wrap n)) m:=by
 have h1:=ze hR hx
 rw[he] at h1
 refine .pure I (v:= .int k (k.wrap n)) ?_ (.int _ _)
 simp[execOp,hop,h1.inv_int,convert,run_underlying hs,run_underlying hd,Conv.intToInt]
theorem z0b (hR:Reps g w ρ a.tmps.toList) (I:Inv g w m) {s d:TypeId} {x:Operand} {x':Opd} {l:List UInt8} (hop:o.op= .convert s d x) (hx:compOpd x=some x') (hs:P.underlying s=some .string) (hd:P.underlying d=some .string)
  (he:x'.ev ρ= .str l):Yields P a o g w (.str l) m:=by
 have h1:=ze hR hx
 rw[he] at h1
 obtain⟨b,i1,i2⟩:=h1.inv_str
 refine .pure I (v:= .string b) ?_ (.str _ _ i2)
 simp[execOp,hop,i1,convert,run_underlying hs,run_underlying hd]
theorem z4j (hR:Reps g w ρ a.tmps.toList) (I:Inv g w m) {f:Fn} {x y:Array Operand} {x' y':List Opd} (hop:o.op= .makeFunc f x y) (hx:compOpds x.toList=some x') (hy:compOpds y.toList=some y'):
  Yields P a o g w (.fn f (x'.map fun p=>p.ev ρ) (y'.map fun p=>p.ev ρ)) m:=by
 have h1:=tH hR hx
 have h2:=tH hR hy
 refine .pure I (v:= .func f (x.map a.eval) (y.map a.eval)) (by simp[execOp,hop,Instr.makeFunc]) (.fn _ _ _ _ _ (by simpa using h1.1) (by simpa using h2.1) (fun j c v k1 k2=>h1.2 j c v k1 (by simpa using k2)) (fun j c v k1 k2=>h2.2 j c v k1 (by simpa using k2)))
theorem z0a (hR:Reps g w ρ a.tmps.toList) (I:Inv g w m) {x:Operand} {x':Opd} {i:Nat} {vs:List AV} (hop:o.op= .extract x i) (hx:compOpd x=some x') (he:x'.ev ρ= .tup vs) (hi:vs[i]? =some r):Yields P a o g w r m:=by
 have h1:=ze hR hx
 rw[he] at h1
 obtain⟨us,i1,i2⟩:=Reps.of_tup h1
 obtain⟨u,h3,h4⟩:=i2.get hi
 refine .pure I (v:=u) ?_ h4
 simp[execOp,hop,i1,Instr.extract,h3]
theorem z8j (hR:Reps g w ρ a.tmps.toList) (I:Inv g w m) {c:Call} {x y:Operand} {x' y':Opd} (hop:o.op= .call c) (hc:c.callee= .builtin .max) (ha:c.args.toList=[x,y]) (hx:compOpd x=some x') (hy:compOpd y=some y') (he:evMax (x'.ev ρ) (y'.ev ρ)=some r):Yields P a o g w r m:=by
 have h1:=ze hR hx
 have h2:=ze hR hy
 unfold evMax at he
 split at he
 ·rename_i k n k' n' e1 e2
  rw[e1] at h1;rw[e2] at h2
  simp at he;subst he
  have hargs:c.args= #[x,y]:=by apply Array.ext';simpa using ha
  refine .pure I (v:= .int k (if n'>n then n' else n)) ?_ (.int _ _)
  simp[execOp,hop,resolve,hc,hargs,invoke,builtin,Builtin.max_,h1.inv_int,h2.inv_int,Builtin.max2]
 ·cases he
theorem z8k (hR:Reps g w ρ a.tmps.toList) (I:Inv g w m) {c:Call} {x y:Operand} {x' y':Opd} (hop:o.op= .call c) (hc:c.callee= .builtin .min) (ha:c.args.toList=[x,y]) (hx:compOpd x=some x') (hy:compOpd y=some y') (he:evMin (x'.ev ρ) (y'.ev ρ)=some r):Yields P a o g w r m:=by
 have h1:=ze hR hx
 have h2:=ze hR hy
 unfold evMin at he
 split at he
 ·rename_i k n k' n' e1 e2
  rw[e1] at h1;rw[e2] at h2
  simp at he;subst he
  have hargs:c.args= #[x,y]:=by apply Array.ext';simpa using ha
  refine .pure I (v:= .int k (if n'<n then n' else n)) ?_ (.int _ _)
  simp[execOp,hop,resolve,hc,hargs,invoke,builtin,Builtin.min_,h1.inv_int,h2.inv_int,Builtin.min2]
 ·cases he
end
section
variable {P : Program} {g : G} {w : World} {ρ : List AV} {a : Act} {m m' : Mem} {o : Oper} {r : AV}
theorem yF (b o n:Nat):(⟨b,o,none⟩:Addr).add n=⟨b,o+n,none⟩:=Addr.add_mid b o n
theorem Rep.ro_drop {cs:List AV} {b o:Nat} {f:Nat→Value} (n:Nat) (hc: ∀(j:Nat) (c:AV),cs[j]? =some c→w.cell? ⟨b,o+j,none⟩=some (f j)∧g.own b (o+j)=none)
  (hr: ∀(j:Nat) (c:AV),cs[j]? =some c→Rep g w c (f j)):Rep g w (.ro (cs.drop n)) (.pointer (some ⟨b,o+n,none⟩)):=
 .ro _ b (o+n) (fun j=>f (n+j)) (fun j c h=>by rw[List.getElem?_drop] at h;rw[w48];exact hc _ c h) (fun j c h=>by rw[List.getElem?_drop] at h;exact hr _ c h)
theorem z3b (hR:Reps g w ρ a.tmps.toList) (I:Inv g w m) {t:TypeId} {x:Operand} {x':Opd} {i:Nat} {fs:Array Field} {f:Field} {ti:TypeInfo} (hop:o.op= .fieldAddr t x i) (hx:compOpd x=some x')
  (ht:P.underlying t=some (.struct fs)) (hf:fs[i]? =some f) (hi:P.info? f.type=some ti) (h0:ti.size≠0)
  (he:evFaddr f.offset (x'.ev ρ)=some r):Yields P a o g w r m:=by
 have h1:=ze hR hx
 have run: ∀b off,(Instr.fieldAt t (.pointer (some ⟨b,off,none⟩)) i).run P w= .ok (.pointer (some ⟨b,off+f.offset,none⟩)) w:=by
  intro b off
  simp[Instr.fieldAt,run_underlying ht,hf,Instr.sureAddr,fieldPlace,sizeOf,typeInfo,hi,h0,yF]
 unfold evFaddr at he
 split at he
 ·rename_i l k st off e1
  injection he with he;subst he
  rw[e1] at h1
  obtain⟨b,oo,e,hb,hv⟩:=h1.inv_ptr
  refine .pure I (v:= .pointer (some ⟨b,oo+off+f.offset,none⟩)) (by simp[execOp,hop,hv,run]) ?_
  rw[w48]
  exact .ptr _ _ _ _ _ _ _ hb
 ·rename_i cs e1
  injection he with he;subst he
  rw[e1] at h1
  obtain⟨b,oo,hv,ff,hc,hr⟩:=h1.inv_ro
  exact .pure I (v:= .pointer (some ⟨b,oo+f.offset,none⟩)) (by simp[execOp,hop,hv,run]) (Rep.ro_drop _ hc hr)
 ·cases he
theorem TM {cs:List AV} {us:List Value} (h:Reps g w cs us) {t:TypeId} {b:Bool} {n off:Nat} {y:AV} (hb:aggT P t=some b) (hn:sizeOfT P t=some n) (ht:takeV b n (cs.drop off)=some y):
  ∃u,(part t us.toArray off).run P w= .ok u w∧Rep g w y u:=by
 have h1:=h.drop off
 cases b with
 |true=>
  obtain⟨rfl,hle⟩:=z0l ht
  refine⟨.agg (us.toArray.extract off (off+n)),by simp[part,Ze hb w,tD hn w],?_⟩
  have:(us.toArray.extract off (off+n))=((us.drop off).take n).toArray:=by
   simp
  rw[this]
  exact(h1.take n).agg
 |false=>
  obtain⟨h0,hle⟩:=z0k ht
  obtain⟨u,h3,h4⟩:=h1.get h0
  rw[List.getElem?_drop] at h3
  refine⟨u,?_,h4⟩
  simp only[part,Sem.run_bind,Ze hb w,Result.andThen_ok,w25,if_false]
  simp_all
theorem z3a (hR:Reps g w ρ a.tmps.toList) (I:Inv g w m) {t:TypeId} {x:Operand} {x':Opd} {i:Nat} {fs:Array Field} {f:Field} {b:Bool} {n:Nat} {cs:List AV} (hop:o.op= .field t x i) (hx:compOpd x=some x')
  (ht:P.underlying t=some (.struct fs)) (hf:fs[i]? =some f) (hb:aggT P f.type=some b) (hn:sizeOfT P f.type=some n)
  (he:x'.ev ρ= .agg cs) (hv:takeV b n (cs.drop f.offset)=some r):Yields P a o g w r m:=by
 have h1:=ze hR hx
 rw[he] at h1
 obtain⟨us,i1,i2⟩:=Reps.of_agg h1
 obtain⟨u,k1,k2⟩:=TM (P:=P) i2 hb hn hv
 exact .pure I (v:=u) (by simp[execOp,hop,i1,Instr.field,run_underlying ht,hf,asAgg,k1]) k2
theorem Wb {i:AV} {n j:Nat} (h:idx i n=some j): ∃k z,i= .int k z∧0≤z∧z<n∧j=z.toNat∧j<n:=by
 unfold idx at h
 grind
theorem z33 (hR:Reps g w ρ a.tmps.toList) (I:Inv g w m) {t e:TypeId} {x y:Operand} {x' y':Opd} {s:Nat} (hop:o.op= .indexAddr t x y) (hx:compOpd x=some x') (hy:compOpd y=some y')
  (ht:P.underlying t=some (.slice e)) (hn:sizeOfT P e=some s) (he:evIaddr s (x'.ev ρ) (y'.ev ρ)=some r):Yields P a o g w r m:=by
 have h1:=ze hR hx
 have h2:=ze hR hy
 have run: ∀b off len cap k z,0≤z→z<((len:Nat):Int)→a.eval x= .slice (some ⟨b,off,none⟩) len cap→a.eval y= .int k z→(execOp a.eval o).run P w= .ok (.value (.pointer (some ⟨b,off+z.toNat*s,none⟩))) w:=by
  intro b off len cap k z hz hz' e1 e2
  simp[execOp,hop,e1,e2,Instr.indexAt,asIntOf,run_underlying ht,hz,hz',tD hn w,yF]
 unfold evIaddr at he
 split at he
 ·rename_i s' tk xs e1
  rw[e1] at h1
  split at he
  ·rename_i hs
   have hs':s'=s:=eq_of_beq hs
   subst hs'
   simp only[w05,w00] at he
   obtain⟨j,hj,x0,hx0,rfl⟩:=he
   obtain⟨k,z,e2,z0,z1,rfl,hlt⟩:=Wb hj
   rw[e2] at h2
   rcases h1.inv_list with⟨b,oo,cap,hv,hsz,hcap,htk,f,hc,hr⟩|⟨rfl,_⟩
   ·refine .pure I (run b oo _ cap k z z0 z1 hv h2.inv_int) (.ro _ _ _ (fun j=>f z.toNat j) (fun j c hj=> ?_) (fun j c hj=>hr _ _ _ _ hx0 hj))
    grind
   ·simp at hx0
  ·cases he
 ·rename_i l k st off len e1
  rw[e1] at h1
  simp only[w00] at he
  obtain⟨j,hj,rfl⟩:=he
  obtain⟨k',z,e2,z0,z1,rfl,hlt⟩:=Wb hj
  rw[e2] at h2
  rcases h1.inv_arr with⟨b,oo,e',cap,hb,hv,hcap⟩|⟨rfl,_⟩
  ·refine .pure I (run b (oo+off) len cap k' z z0 z1 hv h2.inv_int) ?_
   rw[w48]
   exact .ptr _ _ _ _ _ _ _ hb
  ·omega
 ·rename_i s' l k st len e1
  rw[e1] at h1
  simp only[w00] at he
  obtain⟨j,hj,rfl⟩:=he
  obtain⟨k',z,e2,z0,z1,rfl,hlt⟩:=Wb hj
  rw[e2] at h2
  obtain⟨b,oo,e',cap,hb,hv,hcap,_⟩:=h1.inv_grow
  exact .pure I (run b oo len cap k' z z0 z1 hv h2.inv_int) (.ptr _ _ _ _ _ _ _ hb)
 ·cases he
theorem z1U (hR:Reps g w ρ a.tmps.toList) (I:Inv g w m) {t e:TypeId} {x y:Operand} {x' y':Opd} {s n:Nat} (hop:o.op= .indexAddr t x y) (hx:compOpd x=some x') (hy:compOpd y=some y')
  (ht:P.underlying t=some (.array n e)) (hn:sizeOfT P e=some s) (he:evIaddrA n s (x'.ev ρ) (y'.ev ρ)=some r):Yields P a o g w r m:=by
 have h1:=ze hR hx
 have h2:=ze hR hy
 have run: ∀b off k z,0≤z→z<((n:Nat):Int)→a.eval x= .pointer (some ⟨b,off,none⟩)→a.eval y= .int k z→(execOp a.eval o).run P w= .ok (.value (.pointer (some ⟨b,off+z.toNat*s,none⟩))) w:=by
  intro b off k z hz hz' e1 e2
  simp[execOp,hop,e1,e2,Instr.indexAt,Instr.sureAddr,asIntOf,run_underlying ht,hz,hz',tD hn w,yF]
 unfold evIaddrA at he
 split at he
 ·rename_i l k st off e1
  rw[e1] at h1
  simp only[w00] at he
  obtain⟨j,hj,rfl⟩:=he
  obtain⟨k',z,e2,z0,z1,rfl,hlt⟩:=Wb hj
  rw[e2] at h2
  obtain⟨b,oo,e',hb,hv⟩:=h1.inv_ptr
  refine .pure I (run b (oo+off) k' z z0 z1 hv h2.inv_int) ?_
  rw[w48]
  exact .ptr _ _ _ _ _ _ _ hb
 ·rename_i cs e1
  rw[e1] at h1
  simp only[w00] at he
  obtain⟨j,hj,rfl⟩:=he
  obtain⟨k',z,e2,z0,z1,rfl,hlt⟩:=Wb hj
  rw[e2] at h2
  obtain⟨b,oo,hv,ff,hc,hr⟩:=h1.inv_ro
  exact .pure I (run b oo k' z z0 z1 hv h2.inv_int) (Rep.ro_drop _ hc hr)
 ·cases he
theorem z1S (hR:Reps g w ρ a.tmps.toList) (I:Inv g w m) {t:TypeId} {x y:Operand} {x' y':Opd} {l:List UInt8} {j:Nat} {c:UInt8} (hop:o.op= .index t x y) (hx:compOpd x=some x') (hy:compOpd y=some y')
  (ht:P.underlying t=some .string) (hl:x'.ev ρ= .str l) (hj:idx (y'.ev ρ) l.length=some j) (hc:l[j]? =some c):Yields P a o g w (.int .u8 c.toNat) m:=by
 have h1:=ze hR hx
 have h2:=ze hR hy
 rw[hl] at h1
 obtain⟨s,hv,rfl⟩:=h1.inv_str
 obtain⟨k,z,e2,z0,z1,rfl,hlt⟩:=Wb hj
 rw[e2] at h2
 have hsz:z.toNat<s.size:=by simpa using hlt
 have hget:s[z.toNat]? =some c:=by
  rw[getElem?_pos s z.toNat hsz]
  have:s.data.toList[z.toNat]? =some s.data[z.toNat]:=by simp
  rw[this] at hc
  exact hc
 refine .pure I (v:= .int .u8 c.toNat) ?_ (.int _ _)
 simp[execOp,hop,hv,h2.inv_int,Instr.index,asIntOf,run_underlying ht,z0,hget]
theorem z1T (hR:Reps g w ρ a.tmps.toList) (I:Inv g w m) {t e:TypeId} {x y:Operand} {x' y':Opd} {n s:Nat} {b:Bool} {j:Nat} {cs:List AV} (hop:o.op= .index t x y) (hx:compOpd x=some x') (hy:compOpd y=some y')
  (ht:P.underlying t=some (.array n e)) (hb:aggT P e=some b) (hs:sizeOfT P e=some s) (hl:x'.ev ρ= .agg cs) (hj:idx (y'.ev ρ) n=some j) (hv:takeV b s (cs.drop (j*s))=some r):Yields P a o g w r m:=by
 have h1:=ze hR hx
 have h2:=ze hR hy
 rw[hl] at h1
 obtain⟨us,i1,i2⟩:=Reps.of_agg h1
 obtain⟨k,z,e2,z0,z1,rfl,hlt⟩:=Wb hj
 rw[e2] at h2
 obtain⟨u,k1,k2⟩:=TM (P:=P) i2 hb hs hv
 exact .pure I (v:=u) (by simp[execOp,hop,i1,h2.inv_int,Instr.index,asIntOf,run_underlying ht,z0,z1,tD hs w,k1]) k2
theorem z6z (hR:Reps g w ρ a.tmps.toList) (I:Inv g w m) {c:Call} {t e:TypeId} {x:Operand} {x':Opd} (hop:o.op= .call c) (hc:c.callee= .builtin .len) (hA:c.argTypes.toList=[t]) (ha:c.args.toList=[x]) (hx:compOpd x=some x')
  (ht:P.underlying t=some (.slice e))
  (he:evLen (x'.ev ρ)=some r):Yields P a o g w r m:=by
 have h1:=ze hR hx
 have hargs:c.args= #[x]:=by apply Array.ext';simpa using ha
 have hargT:c.argTypes= #[t]:=by apply Array.ext';simpa using hA
 have run: ∀b n cap,a.eval x= .slice b n cap→(execOp a.eval o).run P w= .ok (.value (.int .i64 n)) w:=by
  intro b n cap hv
  simp[execOp,hop,resolve,hc,hargs,hargT,invoke,builtin,goInt,Builtin.len_,hv,run_underlying ht]
 unfold evLen at he
 split at he
 ·rename_i e1
  injection he with he;subst he
  rw[e1] at h1
  exact .pure I (run none 0 0 h1.inv_nils) (.int _ _)
 ·rename_i s tk xs e1
  injection he with he;subst he
  rw[e1] at h1
  rcases h1.inv_list with⟨b,oo,cap,hv,_⟩|⟨rfl,b,cap,hv,_⟩
  ·exact .pure I (run _ _ _ hv) (.int _ _)
  ·exact .pure I (run _ _ _ hv) (.int _ _)
 ·rename_i l k st off n e1
  injection he with he;subst he
  rw[e1] at h1
  rcases h1.inv_arr with⟨b,oo,e',cap,hb,hv,hcap⟩|⟨rfl,b,cap,hv⟩
  ·exact .pure I (run _ _ _ hv) (.int _ _)
  ·exact .pure I (run _ _ _ hv) (.int _ _)
 ·rename_i s l k st n e1
  injection he with he;subst he
  rw[e1] at h1
  obtain⟨b,oo,e',cap,hb,hv,hcap,_⟩:=h1.inv_grow
  exact .pure I (run _ _ _ hv) (.int _ _)
 ·cases he
theorem z4s (hR:Reps g w ρ a.tmps.toList) (I:Inv g w m) {c:Call} {t:TypeId} {x:Operand} {x':Opd} {l:List UInt8} (hop:o.op= .call c) (hc:c.callee= .builtin .len) (hA:c.argTypes.toList=[t]) (ha:c.args.toList=[x]) (hx:compOpd x=some x')
  (ht:P.underlying t=some .string) (he:x'.ev ρ= .str l):Yields P a o g w (.int .i64 l.length) m:=by
 have h1:=ze hR hx
 have hargs:c.args= #[x]:=by apply Array.ext';simpa using ha
 have hargT:c.argTypes= #[t]:=by apply Array.ext';simpa using hA
 rw[he] at h1
 obtain⟨s,hv,rfl⟩:=h1.inv_str
 have hs:s.data.toList.length=s.size:=by simp
 refine .pure I (v:= .int .i64 s.size) ?_ (by rw[hs];exact .int _ _)
 simp[execOp,hop,resolve,hc,hargs,hargT,invoke,builtin,goInt,Builtin.len_,hv,run_underlying ht]
theorem z4t (I:Inv g w m) {c:Call} {t e:TypeId} {n:Nat} {x:Operand} (hop:o.op= .call c) (hc:c.callee= .builtin .len) (hA:c.argTypes.toList=[t]) (ha:c.args.toList=[x])
  (ht:P.underlying t=some (.array n e)):Yields P a o g w (.int .i64 n) m:=by
 have hargs:c.args= #[x]:=by apply Array.ext';simpa using ha
 have hargT:c.argTypes= #[t]:=by apply Array.ext';simpa using hA
 refine .pure I (v:= .int .i64 n) ?_ (.int _ _)
 simp[execOp,hop,resolve,hc,hargs,hargT,invoke,builtin,goInt,Builtin.len_,run_underlying ht]
theorem yd {x:Option AV} {most d n:Nat} (h:bound x most d=some n):(x=none∧n=d)∨ ∃k z,x=some (.int k z)∧0≤z∧z≤(most:Int)∧n=z.toNat∧n≤most:=by
 unfold bound at h
 grind
theorem qv (k:IntKind) (z:Int) (y:Nat) (code:BoundsCode) (h0:0≤z) (h1:z≤(y:Int)) (w:World):(Instr.sliceBound (.int k z) y code).run P w= .ok z.toNat w:=by
 simp[Instr.sliceBound,asIntOf,h0,h1]
theorem z0e {lo hi mx:Option Operand} {lo' hi' mx':Option Opd} (hR:Reps g w ρ a.tmps.toList) (hlo:compOpt lo=some lo') (hhi:compOpt hi=some hi') (hmx:compOpt mx=some mx') (isSlice:Bool) (len cap:Nat) (hcap:len≤cap) (most:Nat) (hmost:most≤cap)
  {l h mm:Nat} (e3:match mx' with|none=>mm=cap∧bound (hi'.map fun p=>p.ev ρ) most len=some h|some p=>bound (some (p.ev ρ)) len 0=some mm∧hi'.isSome∧bound (hi'.map fun p=>p.ev ρ) mm 0=some h)
  (e1:bound (lo'.map fun p=>p.ev ρ) h 0=some l):
  (Instr.sliceBounds isSlice len cap (lo.map a.eval) (hi.map a.eval) (mx.map a.eval)).run P w= .ok (l,h,mm) w:=by
 have opt: ∀{x:Option Operand} {x':Option Opd},compOpt x=some x'→(x=none∧x'=none)∨ ∃y y',x=some y∧x'=some y'∧compOpd y=some y':=by
  intro x x' h
  cases x with
  |none=>simp[compOpt] at h;exact .inl ⟨rfl,h.symm⟩
  |some y=>
   simp only[compOpt,w00] at h
   grind
 have low: ∀code,(match lo.map a.eval with|some v=>Instr.sliceBound v h code|none=>Pure.pure 0:Sem Nat).run P w= .ok l w:=by
  intro code
  rcases opt hlo with⟨rfl,rfl⟩|⟨y,y',rfl,rfl,hy⟩
  ·rcases yd e1 with⟨_,rfl⟩|⟨_,_,hh,_⟩
   ·rfl
   ·simp at hh
  ·rcases yd e1 with⟨hh,_⟩|⟨k,z,hh,z0,z1,rfl,_⟩
   ·simp at hh
   ·have:=ze hR hy
    simp at hh
    rw[hh] at this
    simp only[w06,this.inv_int]
    exact qv k z h code z0 z1 w
 rcases opt hmx with⟨rfl,rfl⟩|⟨y,y',rfl,rfl,hy⟩
 ·obtain⟨rfl,e3⟩:=e3
  have high: ∀code,(match hi.map a.eval with|some v=>Instr.sliceBound v mm code|none=>Pure.pure len:Sem Nat).run P w= .ok h w:=by
   intro code
   rcases opt hhi with⟨rfl,rfl⟩|⟨y,y',rfl,rfl,hy⟩
   ·rcases yd e3 with⟨_,rfl⟩|⟨_,_,hh,_⟩
    ·rfl
    ·simp at hh
   ·rcases yd e3 with⟨hh,_⟩|⟨k,z,hh,z0,z1,rfl,_⟩
    ·simp at hh
    ·have:=ze hR hy
     simp at hh
     rw[hh] at this
     simp only[w06,this.inv_int]
     exact qv k z mm code z0 (by omega) w
  have l1:=low .sliceB
  rcases opt hhi with⟨rfl,rfl⟩|⟨y,y',rfl,rfl,hy⟩
  ·have h1:=high .sliceAlen
   simp only[w0d] at h1
   simp only[Sem.run_pure,Result.ok.injEq,and_true] at h1
   subst h1
   cases lo with
   |none=>simp at l1;subst l1;simp[Instr.sliceBounds]
   |some z=>simp at l1;simp[Instr.sliceBounds,l1]
  ·have h1:=high (if isSlice then .sliceAcap else .sliceAlen)
   simp only[w06] at h1
   cases lo with
   |none=>simp at l1;subst l1;simp[Instr.sliceBounds,h1]
   |some z=>simp at l1;simp[Instr.sliceBounds,h1,l1]
 ·obtain⟨e3,e4,e5⟩:=e3
  rcases yd e3 with⟨hh,_⟩|⟨k,z,hh,z0,z1,rfl,hle⟩
  ·simp at hh
  ·have hy1:=ze hR hy
   simp at hh
   rw[hh] at hy1
   have hm:=qv (P:=P) k z cap (if isSlice then .slice3Acap else .slice3Alen) z0 (by omega) w
   rcases opt hhi with⟨rfl,rfl⟩|⟨u,u',rfl,rfl,hu⟩
   ·simp at e4
   ·rcases yd e5 with⟨hh,_⟩|⟨k2,z2,hh2,z02,z12,rfl,hle2⟩
    ·simp at hh
    ·have hu1:=ze hR hu
     simp at hh2
     rw[hh2] at hu1
     have hm2:=qv (P:=P) k2 z2 z.toNat .slice3B z02 z12 w
     have l1:=low .slice3C
     cases lo with
     |none=>simp at l1;subst l1;simp[Instr.sliceBounds,hy1.inv_int,hu1.inv_int,hm,hm2]
     |some q=>simp at l1;simp[Instr.sliceBounds,hy1.inv_int,hu1.inv_int,hm,hm2,l1]
theorem yE {lo hi mx:Option Operand} {lo' hi' mx':Option Opd} (hR:Reps g w ρ a.tmps.toList) (hlo:compOpt lo=some lo') (hhi:compOpt hi=some hi') (hmx:compOpt mx=some mx') (isSlice:Bool) (len cap:Nat) (hcap:len≤cap)
  {l h mm:Nat} (e3:match mx' with|none=>mm=cap∧bound (hi'.map fun p=>p.ev ρ) len len=some h|some p=>bound (some (p.ev ρ)) len 0=some mm∧hi'.isSome∧bound (hi'.map fun p=>p.ev ρ) mm 0=some h)
  (e1:bound (lo'.map fun p=>p.ev ρ) h 0=some l):
  (Instr.sliceBounds isSlice len cap (lo.map a.eval) (hi.map a.eval) (mx.map a.eval)).run P w= .ok (l,h,mm) w:=
 z0e hR hlo hhi hmx isSlice len cap hcap len hcap e3 e1
theorem Rep.sub_list {s:Nat} {xs:List AV} {b oo cap:Nat} {f:Nat→Nat→Value} {tk:Tok} (hs: ∀(i:Nat) (x:AV),xs[i]? =some x→x.cells.length=s)
  (hc: ∀(i j:Nat) (x c:AV),xs[i]? =some x→x.cells[j]? =some c→w.cell? ⟨b,oo+(i*s+j),none⟩=some (f i j)∧g.own b (oo+(i*s+j))=none∧(f i j).oneCell'=true)
  (hr: ∀(i j:Nat) (x c:AV),xs[i]? =some x→x.cells[j]? =some c→Rep g w c (f i j)) (l h:Nat) (hlh:l≤h) (hh:h≤xs.length) (hcap:h-l≤cap)
  (htk:TokAt g tk b (oo+l*s+(h-l)*s) (oo+l*s+cap*s)):Rep g w (.list s tk ((xs.take h).drop l)) (.slice (some ⟨b,oo+l*s,none⟩) (h-l) cap):=by
 have hlen:((xs.take h).drop l).length=h-l:=by simp;omega
 have get: ∀(i:Nat) (x:AV),((xs.take h).drop l)[i]? =some x→xs[l+i]? =some x:=by
  intro i x hx
  rw[List.getElem?_drop,w3f] at hx
  grind
 have:=Rep.list (g:=g) (w:=w) s tk ((xs.take h).drop l) b (oo+l*s) cap (fun i j=>f (l+i) j) (fun i x hx=>hs _ x (get i x hx)) (by omega) (by rw[hlen];exact htk)
  (fun i j x c h1 h2=>by
   have:=hc _ j x c (get i x h1) h2
   rw[show oo+l*s+(i*s+j)=oo+((l+i)*s+j) by rw[w40];omega]
   exact this) (fun i j x c h1 h2=>hr _ j x c (get i x h1) h2)
 rw[hlen] at this
 exact this
theorem z2n (hR:Reps g w ρ a.tmps.toList) (I:Inv g w m) {t e:TypeId} {x:Operand} {x':Opd} {lo hi mx:Option Operand} {lo' hi' mx':Option Opd} {s:Nat} (hop:o.op= .slice t x lo hi mx) (hx:compOpd x=some x')
  (hlo:compOpt lo=some lo') (hhi:compOpt hi=some hi') (hmx:compOpt mx=some mx') (ht:P.underlying t=some (.slice e)) (hn:sizeOfT P e=some s) (h0:0<s) (hmh:mx'.isSome→hi'.isSome)
  (he:evSlice s (x'.ev ρ) (lo'.map fun p=>p.ev ρ) (hi'.map fun p=>p.ev ρ) (mx'.map fun p=>p.ev ρ)=some r):Yields P a o g w r m:=by
 have h1:=ze hR hx
 have run: ∀b len cap l h mm,a.eval x= .slice b len cap→(Instr.sliceBounds true len cap (lo.map a.eval) (hi.map a.eval) (mx.map a.eval)).run P w= .ok (l,h,mm) w→
   (execOp a.eval o).run P w= .ok (.value (.slice (if mm=l then b else b.map (·.add (l*s))) (h-l) (mm-l))) w:=by
  intro b len cap l h mm hv hb
  simp[execOp,hop,hv,Instr.sliceAt,Instr.slice,run_underlying ht,hb,tD hn w]
 unfold evSlice at he
 split at he
 ·rename_i e1
  rw[e1] at h1
  cases mx' with
  |none=>
   simp only[w0d,w05,w00] at he
   obtain⟨h,hb1,l,hb2,rfl⟩:=he
   have hb:=yE (P:=P) hR hlo hhi hmx true 0 0 (w08 _) (mm:=0) ⟨rfl,hb1⟩ hb2
   have hh0:h=0:=by rcases yd hb1 with⟨_,rfl⟩|⟨_,_,_,_,_,_,hle⟩<;>omega
   subst hh0
   have hl0:l=0:=by rcases yd hb2 with⟨_,rfl⟩|⟨_,_,_,_,_,_,hle⟩<;>omega
   subst hl0
   exact .pure I (run _ _ _ _ _ _ h1.inv_nils hb) (by simpa using Rep.nils)
  |some p=>
   simp only[w06,w05,w00] at he
   obtain⟨mm,hb0,h,hb1,l,hb2,rfl⟩:=he
   have hmm:mm=0:=by
    rcases yd hb0 with⟨hh,_⟩|⟨_,_,_,_,_,_,hle⟩
    ·simp at hh
    ·omega
   subst hmm
   have his:hi'.isSome:=hmh rfl
   have hh:h=0:=by
    rcases yd hb1 with⟨hh,_⟩|⟨_,_,_,_,_,_,hle⟩
    ·omega
    ·omega
   subst hh
   have hl0:l=0:=by rcases yd hb2 with⟨_,rfl⟩|⟨_,_,_,_,_,_,hle⟩<;>omega
   subst hl0
   have hb:=yE (P:=P) hR hlo hhi hmx true 0 0 (w08 _) (mm:=0) ⟨hb0,his,hb1⟩ hb2
   exact .pure I (run _ _ _ _ _ _ h1.inv_nils hb) (by simpa using Rep.nils)
 ·rename_i s' tk xs e1
  rw[e1] at h1
  split at he
  ·rename_i hs
   have hs':s'=s:=eq_of_beq hs
   subst hs'
   have main: ∀(l h mm:Nat) (tk':Tok) (bb:Option Addr) (cap:Nat),a.eval x= .slice bb xs.length cap→(Instr.sliceBounds true xs.length cap (lo.map a.eval) (hi.map a.eval) (mx.map a.eval)).run P w= .ok (l,h,mm) w→
     Rep g w (.list s' tk' ((xs.take h).drop l)) (.slice (if mm=l then bb else bb.map (·.add (l*s'))) (h-l) (mm-l))→Yields P a o g w (.list s' tk' ((xs.take h).drop l)) m:=
    fun l h mm tk' bb cap hv hb hrep=> .pure I (run _ _ _ _ _ _ hv hb) hrep
   cases mx' with
   |none=>
    simp only[w0d,w05,w00] at he
    obtain⟨h,hb1,l,hb2,rfl⟩:=he
    have hh:h≤xs.length:=by rcases yd hb1 with⟨_,rfl⟩|⟨_,_,_,_,_,_,hle⟩<;>omega
    have hl:l≤h:=by rcases yd hb2 with⟨_,rfl⟩|⟨_,_,_,_,_,_,hle⟩<;>omega
    rcases h1.inv_list with⟨b,oo,cap,hv,hsz,hcap,htk,f,hc,hr⟩|⟨rfl,b,cap,hv,htk⟩
    ·have hb:=yE (P:=P) hR hlo hhi hmx true xs.length cap hcap (mm:=cap) ⟨rfl,hb1⟩ hb2
     refine main l h cap _ _ cap hv hb ?_
     by_cases hcl:cap=l
     ·
      have hle:l=xs.length:=by omega
      have hhe:h=xs.length:=by omega
      rw[if_pos hcl,hcl,hhe,←hle]
      have hnil:(xs.take l).drop l=[]:=by simp
      rw[hnil,Nat.sub_self]
      by_cases hl0:l=0
      ·grind
      ·have:(if(xs.length==xs.length&&(l==0||decide (l<xs.length)))=true then tk else Tok.none)=Tok.none:=by
        grind
       rw[hhe] at*
       rw[←hle] at*
       simp only[this]
       exact .empty _ _ _ _ (.inl rfl)
     ·rw[if_neg hcl]
      simp only[w06,yF]
      refine Rep.sub_list hsz hc hr l h hl hh (by omega) ?_
      split
      ·rename_i hcond
       simp only[w09,beq_iff_eq] at hcond
       have hhe:=hcond.1
       have e1:oo+l*s'+(h-l)*s'=oo+xs.length*s':=by
        rw[w48,←w40,show l+(h-l)=xs.length by omega]
       have e2:oo+l*s'+(cap-l)*s'=oo+cap*s':=by
        rw[w48,←w40,show l+(cap-l)=cap by omega]
       rw[e1,e2]
       exact htk
      ·trivial
    ·have hb:=yE (P:=P) hR hlo hhi hmx true 0 cap (w0e _) (mm:=cap) ⟨rfl,hb1⟩ hb2
     have hh0:h=0:=by simpa using hh
     subst hh0
     have hl0:l=0:=by omega
     subst hl0
     refine main 0 0 cap _ _ cap hv hb ?_
     have hk:(if(0==([]:List AV).length&&((0:Nat)==0||decide (0<([]:List AV).length)))=true then tk else Tok.none)=tk:=by simp
     rw[hk]
     simpa using Rep.empty' (g:=g) (w:=w) s' tk (if cap=0 then some b else some (b.add 0)) cap htk (by split<;>rfl)
   |some p=>
    simp only[w06,w05,w00] at he
    obtain⟨mm,hb0,h,hb1,l,hb2,rfl⟩:=he
    have hmm:mm≤xs.length:=by rcases yd hb0 with⟨hh,_⟩|⟨_,_,_,_,_,_,hle⟩;·simp at hh
                              ·exact hle
    have his:hi'.isSome:=hmh rfl
    have hh:h≤mm:=by
     rcases yd hb1 with⟨hh,_⟩|⟨_,_,_,_,_,_,hle⟩
     ·simp at hh;rw[hh] at his;simp at his
     ·exact hle
    have hl:l≤h:=by rcases yd hb2 with⟨_,rfl⟩|⟨_,_,_,_,_,_,hle⟩<;>omega
    rcases h1.inv_list with⟨b,oo,cap,hv,hsz,hcap,htk,f,hc,hr⟩|⟨rfl,b,cap,hv,htk⟩
    ·have hb:=yE (P:=P) hR hlo hhi hmx true xs.length cap hcap (mm:=mm) ⟨hb0,his,hb1⟩ hb2
     refine main l h mm _ _ cap hv hb ?_
     by_cases hml:mm=l
     ·rw[if_pos hml]
      have hhl:h=l:=by omega
      have hnil:(xs.take h).drop l=[]:=by rw[hhl];simp
      rw[hnil,hhl,hml,Nat.sub_self,if_pos (by simp)]
      have:Rep g w (.list s' .full []) (.slice (some ⟨b,oo,none⟩) 0 0):=by
       simpa using (Rep.list (g:=g) (w:=w) s' .full [] b oo 0 f (fun i x hx=>by simp at hx) (by simp) (by simp[TokAt]) (fun i j x c h1=>by simp at h1) (fun i j x c h1=>by simp at h1))
      exact this
     ·rw[if_neg hml]
      simp only[w06,yF]
      refine Rep.sub_list hsz hc hr l h hl (by omega) (by omega) ?_
      split
      ·rename_i hcond
       have:h=mm:=by simpa using hcond
       rw[this];exact rfl
      ·trivial
    ·have hb:=yE (P:=P) hR hlo hhi hmx true 0 cap (w0e _) (mm:=mm) ⟨hb0,his,hb1⟩ hb2
     have hm0:mm=0:=by simpa using hmm
     subst hm0
     have hh0:h=0:=by omega
     subst hh0
     have hl0:l=0:=by omega
     subst hl0
     refine main 0 0 0 _ _ cap hv hb ?_
     simpa using Rep.empty (g:=g) (w:=w) s' .full b 0 (.inr ⟨rfl,rfl⟩)
  ·cases he
 ·rename_i l0 k0 st off len e1
  rw[e1] at h1
  cases mx' with
  |none=>
   simp only[w0d,w05,w00] at he
   obtain⟨h,hb1,l,hb2,rfl⟩:=he
   have hh:h≤len:=by rcases yd hb1 with⟨_,rfl⟩|⟨_,_,_,_,_,_,hle⟩<;>omega
   have hl:l≤h:=by rcases yd hb2 with⟨_,rfl⟩|⟨_,_,_,_,_,_,hle⟩<;>omega
   rcases h1.inv_arr with⟨b,oo,e',cap,hb',hv,hcap⟩|⟨rfl,b,cap,hv⟩
   ·have hb:=yE (P:=P) hR hlo hhi hmx true len cap hcap (mm:=cap) ⟨rfl,hb1⟩ hb2
    refine .pure I (run _ _ _ _ _ _ hv hb) ?_
    by_cases hcl:cap=l
    ·have:h-l=0:=by omega
     rw[this];exact .arr0' _ _ _ _ _ _ (by split<;>rfl)
    ·rw[if_neg hcl]
     simp only[w06,yF]
     rw[w48]
     exact .arr _ _ _ _ _ _ _ _ _ hb' (by omega)
   ·have hb:=yE (P:=P) hR hlo hhi hmx true 0 cap (w0e _) (mm:=cap) ⟨rfl,hb1⟩ hb2
    refine .pure I (run _ _ _ _ _ _ hv hb) ?_
    have:h-l=0:=by omega
    rw[this];exact .arr0' _ _ _ _ _ _ (by split<;>rfl)
  |some p=>
   simp only[w06,w05,w00] at he
   obtain⟨mm,hb0,h,hb1,l,hb2,rfl⟩:=he
   have hmm:mm≤len:=by
    rcases yd hb0 with⟨hh,_⟩|⟨_,_,_,_,_,_,hle⟩
    ·simp at hh
    ·exact hle
   have his:hi'.isSome:=hmh rfl
   have hh:h≤mm:=by
    rcases yd hb1 with⟨hh,_⟩|⟨_,_,_,_,_,_,hle⟩
    ·simp at hh;rw[hh] at his;simp at his
    ·exact hle
   have hl:l≤h:=by rcases yd hb2 with⟨_,rfl⟩|⟨_,_,_,_,_,_,hle⟩<;>omega
   rcases h1.inv_arr with⟨b,oo,e',cap,hb',hv,hcap⟩|⟨rfl,b,cap,hv⟩
   ·have hb:=yE (P:=P) hR hlo hhi hmx true len cap hcap (mm:=mm) ⟨hb0,his,hb1⟩ hb2
    refine .pure I (run _ _ _ _ _ _ hv hb) ?_
    by_cases hcl:mm=l
    ·have:h-l=0:=by omega
     rw[this];exact .arr0' _ _ _ _ _ _ (by split<;>rfl)
    ·rw[if_neg hcl]
     simp only[w06,yF]
     rw[w48]
     exact .arr _ _ _ _ _ _ _ _ _ hb' (by omega)
   ·have hb:=yE (P:=P) hR hlo hhi hmx true 0 cap (w0e _) (mm:=mm) ⟨hb0,his,hb1⟩ hb2
    refine .pure I (run _ _ _ _ _ _ hv hb) ?_
    have:h-l=0:=by omega
    rw[this];exact .arr0' _ _ _ _ _ _ (by split<;>rfl)
 ·rename_i s' l0 k0 st len e1
  rw[e1] at h1
  obtain⟨b,oo,e',cap,hb',hv,hcap,hce⟩:=h1.inv_grow
  cases mx' with
  |none=>
   simp only[w0d,w05,w00] at he
   obtain⟨h,hb1,l,hb2,rfl⟩:=he
   have hh:h≤len:=by rcases yd hb1 with⟨_,rfl⟩|⟨_,_,_,_,_,_,hle⟩<;>omega
   have hl:l≤h:=by rcases yd hb2 with⟨_,rfl⟩|⟨_,_,_,_,_,_,hle⟩<;>omega
   have hb:=yE (P:=P) hR hlo hhi hmx true len cap hcap (mm:=cap) ⟨rfl,hb1⟩ hb2
   refine .pure I (run _ _ _ _ _ _ hv hb) ?_
   by_cases hl0:l=0
   ·subst hl0
    simp only[beq_self_eq_true,if_true,Nat.zero_mul,Nat.sub_zero,w06,yF,Nat.add_zero,ite_self]
    exact .grow _ _ _ _ _ _ _ _ _ hb' (by omega) hce
   ·have hlb:(l==0)=false:=by simp[hl0]
    simp only[hlb,w25,if_false]
    by_cases hcl:cap=l
    ·have:h-l=0:=by omega
     rw[this];exact .arr0' _ _ _ _ _ _ (by split<;>rfl)
    ·rw[if_neg hcl]
     simp only[w06,yF]
     exact .arr _ _ _ _ _ _ _ _ _ hb' (by omega)
  |some p=>
   simp only[w06,w05,w00] at he
   obtain⟨mm,hb0,h,hb1,l,hb2,rfl⟩:=he
   have hmm:mm≤len:=by
    rcases yd hb0 with⟨hh,_⟩|⟨_,_,_,_,_,_,hle⟩
    ·simp at hh
    ·exact hle
   have his:hi'.isSome:=hmh rfl
   have hh:h≤mm:=by
    rcases yd hb1 with⟨hh,_⟩|⟨_,_,_,_,_,_,hle⟩
    ·simp at hh;rw[hh] at his;simp at his
    ·exact hle
   have hl:l≤h:=by rcases yd hb2 with⟨_,rfl⟩|⟨_,_,_,_,_,_,hle⟩<;>omega
   have hb:=yE (P:=P) hR hlo hhi hmx true len cap hcap (mm:=mm) ⟨hb0,his,hb1⟩ hb2
   refine .pure I (run _ _ _ _ _ _ hv hb) ?_
   by_cases hcl:mm=l
   ·have:h-l=0:=by omega
    rw[this];exact .arr0' _ _ _ _ _ _ (by split<;>rfl)
   ·rw[if_neg hcl]
    simp only[w06,yF]
    exact .arr _ _ _ _ _ _ _ _ _ hb' (by omega)
 ·cases he
end
section
variable {P : Program} {g : G} {w : World} {ρ : List AV} {a : Act} {m m' : Mem} {o : Oper} {r : AV}
theorem z1w (hR:Reps g w ρ a.tmps.toList) (I:Inv g w m) {t:TypeId} {x:Operand} {x':Opd} {lo hi:Option Operand} {lo' hi':Option Opd} (hop:o.op= .slice t x lo hi none) (hx:compOpd x=some x')
  (hlo:compOpt lo=some lo') (hhi:compOpt hi=some hi') (ht:P.underlying t=some .string) (he:evSliceS (x'.ev ρ) (lo'.map fun p=>p.ev ρ) (hi'.map fun p=>p.ev ρ)=some r):Yields P a o g w r m:=by
 have h1:=ze hR hx
 unfold evSliceS at he
 split at he
 ·rename_i l e1
  rw[e1] at h1
  obtain⟨s,hv,rfl⟩:=h1.inv_str
  have hs:s.data.toList.length=s.size:=by simp
  rw[hs] at he
  simp only[w05,w00] at he
  obtain⟨h,hb1,l,hb2,rfl⟩:=he
  have hb:=yE (P:=P) (mx:=none) (mx':=none) hR hlo hhi rfl false s.size s.size (w08 _) (mm:=s.size) ⟨rfl,hb1⟩ hb2
  have hh:h≤s.size:=by rcases yd hb1 with⟨_,rfl⟩|⟨_,_,_,_,_,_,hle⟩<;>omega
  refine .pure I (v:= .string (s.extract l h)) ?_ (.str _ _ ?_)
  ·simp only[w0d] at hb
   simp[execOp,hop,hv,Instr.sliceAt,Instr.slice,run_underlying ht,hb]
  ·simp[ByteArray.data_extract,List.extract_eq_take_drop,List.drop_take]
 ·cases he
theorem z1x (hR:Reps g w ρ a.tmps.toList) (I:Inv g w m) {t e:TypeId} {n s:Nat} {x:Operand} {x':Opd} {lo hi:Option Operand} {lo' hi':Option Opd} (hop:o.op= .slice t x lo hi none) (hx:compOpd x=some x')
  (hlo:compOpt lo=some lo') (hhi:compOpt hi=some hi') (ht:P.underlying t=some (.array n e)) (hn:sizeOfT P e=some s) (he:evSliceA n s (x'.ev ρ) (lo'.map fun p=>p.ev ρ) (hi'.map fun p=>p.ev ρ)=some r):Yields P a o g w r m:=by
 have h1:=ze hR hx
 unfold evSliceA at he
 split at he
 ·rename_i l0 k0 st off e1
  rw[e1] at h1
  obtain⟨b,oo,e',hbt,hv⟩:=h1.inv_ptr
  simp only[w05,w00] at he
  obtain⟨h,hb1,l,hb2,rfl⟩:=he
  have hh:h≤n:=by rcases yd hb1 with⟨_,rfl⟩|⟨_,_,_,_,_,_,hle⟩<;>omega
  have hl:l≤h:=by rcases yd hb2 with⟨_,rfl⟩|⟨_,_,_,_,_,_,hle⟩<;>omega
  have hb:=yE (P:=P) (mx:=none) (mx':=none) hR hlo hhi rfl false n n (w08 _) (mm:=n) ⟨rfl,hb1⟩ hb2
  simp only[w0d] at hb
  refine .pure I (v:= .slice (some (if n=l then⟨b,oo+off,none⟩ else(⟨b,oo+off,none⟩:Addr).add (l*s))) (h-l) (n-l)) ?_ ?_
  ·simp[execOp,hop,hv,Instr.sliceAt,Instr.sureAddr,run_underlying ht,hb,tD hn w]
  ·by_cases hnl:n=l
   ·have:h-l=0:=by omega
    rw[this];exact .arr0 _ _ _ _ _ _
   ·rw[if_neg hnl,yF,w48]
    exact .arr _ _ _ _ _ _ _ _ _ hbt (by omega)
 ·cases he
theorem tz {z:List AV} {us:List Value} (h:Reps g w z us): ∀n,Reps g w (flatRep z n) (List.replicate n us).flatten
 |0=>by simpa [flatRep] using Reps.nil g w
 |n+1=>by
  rw[w44,w3e]
  exact h.append (tz h n)
theorem Uu {s:Nat} (hs:0<s) (us:List Value) (hl:us.length=s): ∀(n j:Nat),j<n*s→(List.replicate n us).flatten[j]? =us[j%s]?
 |0,j,h=>by simp at h
 |n+1,j,h=>by
  rw[w44,w3e]
  by_cases hj:j<s
  ·rw[w1b (by omega),Nat.mod_eq_of_lt hj]
  ·rw[w39 (by omega),hl,Uu hs us hl n (j-s) (by rw[w40] at h;omega)]
   congr 1
   have:=Nat.sub_add_cancel (Nat.le_of_not_lt hj)
   conv=>rhs;rw[←this,Nat.add_mod_right]
theorem rangeZ {s:Nat} (hs:0<s) (z:Array Value) (hl:z.size=s) (n:Nat):((Array.range (n*s)).map (fun i=>z[i%z.size]!))=((List.replicate n z.toList).flatten).toArray:=by
 apply Array.ext'
 simp only[Array.toList_map,Array.toList_range,List.toList_toArray]
 apply w27
 intro j
 rw[w22]
 by_cases hj:j<n*s
 ·rw[List.getElem?_range hj,Uu hs z.toList (by simpa using hl) n j hj]
  simp only[w06,hl]
  have:j%s<z.size:=by rw[hl];exact Nat.mod_lt _ hs
  grind
 ·simp_all
theorem z4m (hR:Reps g w ρ a.tmps.toList) (I:Inv g w m) {t e:TypeId} {x y:Operand} {x' y':Opd} {ti:TypeInfo} {z:AV} (hop:o.op= .makeSlice t x y) (hx:compOpd x=some x') (hy:compOpd y=some y')
  (ht:P.underlying t=some (.slice e)) (hi:P.info? e=some ti) (hz:zeroT P e=some z) (h0:0<ti.size) (hzs:(ti.zero.map fun z=>z.cells.size)=some ti.size)
  (he:evMake m ti.size ti.bytes z.cells (x'.ev ρ) (y'.ev ρ)=some (r,m')):Yields P a o g w r m':=by
 have h1:=ze hR hx
 have h2:=ze hR hy
 unfold evMake at he
 split at he
 ·rename_i k n k' n' e1 e2
  split at he
  ·rename_i hc
   obtain⟨rfl,c1,c2,c3,c4⟩:=hc
   injection he with he
   injection he with he1 he2
   subst he1;subst he2
   rw[e1] at h1;rw[e2] at h2
   have hv1:=h1.inv_int
   have hv2:=h2.inv_int
   obtain⟨zv,hzv,hav⟩:=jb hz w
   have hzi:ti.zero=some zv:=by
    simp only[zeroT,hi,w36,w05] at hz
    obtain⟨v,h3,h4⟩:=hz
    have:(zeroValue e).run P w= .ok v w:=by simp[zeroValue,typeInfo,hi,h3]
    grind
   have hsz:zv.cells.size=ti.size:=by rw[hzi] at hzs;simpa using hzs
   have hzr:=(xB (g:=g) (w:=w) hav).cells (by omega)
   have hrun:=run_make (P:=P) w t e ti zv ht hi hzi k k' n n c1 (Int.le_refl _) c2 c3
   have hcells:madeCells zv.cells (n.toNat*ti.size)=((List.replicate n.toNat zv.cells.toList).flatten).toArray:=by
    unfold madeCells
    exact rangeZ h0 zv.cells hsz n.toNat
   rw[hcells] at hrun
   obtain⟨g',k1,k2,k3⟩:=I.alloc_blk (flatRep z.cells n.toNat) _ e (tz hzr n.toNat)
   refine⟨g',_,.slice (some ⟨w.heap.size,0,none⟩) n.toNat n.toNat,.inl ?_,k1,k2,?_⟩
   ·simp only[execOp,hop,hv1,hv2,Sem.run_bind,hrun,Result.andThen_ok]
    rfl
   ·exact .arr _ _ _ 0 _ _ 0 _ _ k3 (w08 _)
  ·cases he
 ·cases he
theorem Qs: ∀(l:List UInt8),Reps g w (ofBytes l) (l.map fun b=>Value.int .u8 b.toNat)
 | []=>Reps.nil g w
 |b::r=>Reps.cons (.int _ _) (Qs r)
theorem z06 (hR:Reps g w ρ a.tmps.toList) (I:Inv g w m) {s d e:TypeId} {x:Operand} {x':Opd} {l:List UInt8} (hop:o.op= .convert s d x) (hx:compOpd x=some x') (hs:P.underlying s=some .string) (hd:P.underlying d=some (.slice e))
  (hu:isU8 P e=true) (he:x'.ev ρ= .str l):Yields P a o g w (.list 1 (.id m.nx) (ofBytes l)) {m with nx:=m.nx+1,live:=addTok m.nx m.live}:=by
 have h1:=ze hR hx
 rw[he] at h1
 obtain⟨b,hv,rfl⟩:=h1.inv_str
 have hsz:b.data.toList.length=b.size:=by simp
 let cap:=grownCap w b.size 0 e
 have hcap:b.size≤cap:=grownCap_ge w b.size 0 e
 let us:List Value:=(b.data.toList.map fun c=>Value.int .u8 c.toNat)++List.replicate (cap-b.size) (.int .u8 0)
 have hul:us.length=cap:=by simp[us];omega
 have hne: ∀j,j<us.length→ ¬((cap,cap+1).1≤j∧j<(cap,cap+1).2):=fun j hj=>by simp only;omega
 obtain⟨g',k1,k2,k3,k4⟩:=I.drew.alloc_tok us b.size e (cap,cap+1) hne m.live (List.Sublist.refl _)
 have kx:=(Ext.drew g w).trans k1
 have hrun:(Conv.stringToBytes e b).run P w= .ok (.slice (some ⟨w.heap.size,0,none⟩) b.size cap) (w.drew.alloc (.cells us.toArray e (cap,cap+1))):=by
  have harr:(b.data.map (fun c=>Value.int .u8 c.toNat))++Array.replicate (cap-b.size) (Value.int .u8 0)=us.toArray:=by
   grind
  have hsize:us.length=cap:=hul
  simp only[Conv.stringToBytes,Sem.run_bind,run_choose,Question.forced,w25,if_false,Result.andThen_ok,newRow,run_newObj,Sem.run_pure,markStringish,run_shape]
  have hc:(Question.appendCap b.size 0 e).cut (w.tape w.drawn (.appendCap b.size 0 e))=cap:=rfl
  rw[hc,harr]
  have hsh:({w with drawn:=w.drawn+1,heap:=w.heap.push (Obj.cells us.toArray e)}:World).shape? w.heap.size=some (e,cap):=by
   simp[World.shape?,hsize]
  simp only[hsh,run_freeze,Sem.run_bind,Result.andThen_ok,Sem.run_pure]
  congr 1
  simp only[World.freeze,World.alloc,World.drew]
  simp
  grind
 refine⟨g',_,.slice (some ⟨w.heap.size,0,none⟩) b.size cap,.inl ?_,kx,k2,?_⟩
 ·simp[execOp,hop,hv,convert,run_underlying hs,run_underlying hd,run_underlying (z5G hu),hrun]
 ·have hlen:(ofBytes b.data.toList).length=b.size:=by simp[ofBytes]
  have get: ∀(i j:Nat) (x c:AV),(ofBytes b.data.toList)[i]? =some x→x.cells[j]? =some c→j=0∧i<b.size∧ ∃y:UInt8,b.data.toList[i]? =some y∧c= .int .u8 y.toNat∧x=c:=by
   intro i j x c h1 h2
   have hi:i<b.size:=by rw[←hlen];exact(w13.1 h1).1
   simp only[ofBytes,w22,w00] at h1
   obtain⟨y,h3,rfl⟩:=h1
   cases j with
   |zero=>simp[AV.cells] at h2;exact⟨rfl,hi,y,h3,h2.symm,h2⟩
   |succ j=>simp[AV.cells] at h2
  have:=Rep.list (g:=g') (w:=w.drew.alloc (.cells us.toArray e (cap,cap+1))) 1 (.id m.nx) (ofBytes b.data.toList) w.heap.size 0 cap (fun i _=>(us.getD i (.int .u8 0)))
   (fun i x hx=>by simp only[ofBytes,w22,w00] at hx;obtain⟨y,_,rfl⟩:=hx;rfl) (by omega) (by simp only[TokAt,hlen,w1f,w11];rw[k3,hul];rfl)
   (fun i j x c h1 h2=>by
    obtain⟨rfl,hi,y,h3,rfl,rfl⟩:=get i j x c h1 h2
    refine⟨?_,?_,?_⟩
    ·have:=VY w.drew us e (cap,cap+1) (0+(i*1+0))
     rw[show(w.drew).heap.size=w.heap.size from rfl] at this
     grind
    ·have:=k4 i hi
     simpa using this
    ·have:us.getD i (.int .u8 0)= .int .u8 y.toNat:=by
      grind
     rw[this];rfl)
   (fun i j x c h1 h2=>by
    obtain⟨rfl,hi,y,h3,rfl,rfl⟩:=get i j x c h1 h2
    have:us.getD i (.int .u8 0)= .int .u8 y.toNat:=by
     rw[w03]
     simp only[us]
     rw[w1b (by simp;omega),w22,h3];rfl
    rw[this];exact .int _ _)
  rw[hlen] at this
  exact this
end
section
variable {P : Program} {g : G} {w : World} {ρ : List AV} {a : Act} {m m' : Mem} {o : Oper} {r : AV}
theorem YP: ∀{xs:List AV} {l:List UInt8},bytesOf xs=some l→ ∃ns:List Int,xs=ns.map (fun n=>AV.int .u8 n)∧l=ns.map (fun n=>UInt8.ofNat n.toNat)
 | [],l,h=>by simp[bytesOf] at h;exact⟨[],rfl,h⟩
 |x::r,l,h=>by
  simp only[bytesOf] at h
  split at h
  ·rename_i b l' h1 h2
   injection h with h
   obtain⟨ns,h3,h4⟩:=YP h2
   unfold byteOf at h1
   split at h1
   ·rename_i n
    injection h1 with h1
    exact⟨n::ns,by simp[h3],by rw[←h,←h1,h4];rfl⟩
   ·cases h1
  ·cases h
theorem z0r (ns:List Int): ∀s:ByteArray,(ns.foldl (fun r n=>r.push (UInt8.ofNat n.toNat)) s).data.toList=s.data.toList++ns.map (fun n=>UInt8.ofNat n.toNat):=by
 induction ns with
 |nil=>intro s;simp
 |cons n ns ih=>intro s;rw[List.foldl_cons,ih];simp[ByteArray.push]
theorem z2k (hR:Reps g w ρ a.tmps.toList) (I:Inv g w m) {s d e:TypeId} {x:Operand} {x':Opd} (hop:o.op= .convert s d x) (hx:compOpd x=some x') (hs:P.underlying s=some (.slice e)) (hd:P.underlying d=some .string)
  (hu:isU8 P e=true) (he:evToStr m (x'.ev ρ)=some r):Yields P a o g w r m:=by
 have h1:=(ze hR hx).asArr
 have run: ∀b n c st,a.eval x= .slice b n c→(Conv.bytesToString (.slice b n c)).run P w= .ok (.string st) w→(execOp a.eval o).run P w= .ok (.value (.string st)) w:=by
  intro b n c st hv hr
  cases b<;>simp[execOp,hop,hv,convert,run_underlying hs,run_underlying hd,run_underlying (z5G hu),hr]
 unfold evToStr evToStr0 at he
 split at he
 ·rename_i e1
  injection he with he;subst he
  rw[e1] at h1
  exact .pure I (run _ _ _ .empty h1.inv_nils rfl) (.str _ _ rfl)
 ·rename_i tk xs e1
  simp only[w00] at he
  obtain⟨l,hl,rfl⟩:=he
  obtain⟨ns,rfl,rfl⟩:=YP hl
  rw[e1] at h1
  rcases h1.inv_list with⟨b,oo,cap,hv,hsz,hcap,htk,f,hc,hr⟩|⟨hnil,b,cap,hv,_⟩
  ·have hload:(loadCells ⟨b,oo,none⟩ (ns.map (fun n=>AV.int .u8 n)).length).run P w= .ok (ns.map (Value.int .u8)).toArray w:=by
    have:=run_loadCells_list (P:=P) w ⟨b,oo,none⟩ (ns.map (Value.int .u8)) (fun j v hj=>by
     rw[w22,w00] at hj
     obtain⟨n,hn,rfl⟩:=hj
     have hx0:(ns.map (fun n=>AV.int .u8 n))[j]? =some (.int .u8 n):=by rw[w22,hn];rfl
     have h2:=(hc j 0 _ _ hx0 rfl).1
     have h3:=(hr j 0 _ _ hx0 rfl).inv_int
     rw[yF]
     rw[h3] at h2
     simpa using h2)
    simpa using this
   have:=run_bytesToString (P:=P) w ⟨b,oo,none⟩ (ns.map (fun n=>AV.int .u8 n)).length cap ns hload
   refine .pure I (run _ _ _ _ hv this) (.str _ _ ?_)
   rw[z0r];rfl
  ·have:ns=[]:=by simpa using hnil
   subst this
   refine .pure I (run (some b) 0 cap .empty hv ?_) (.str _ _ rfl)
   exact run_bytesToString (P:=P) w b 0 cap [] rfl
 ·rename_i l k st off len e1
  split at he
  ·rename_i cs hblk
   split at he
   ·rename_i hle
    simp only[decide_eq_true_eq] at hle
    simp only[w00] at he
    obtain⟨bs,hl,rfl⟩:=he
    obtain⟨ns,hns,rfl⟩:=YP hl
    have hlen:ns.length=len:=by
     have:=congrArg List.length hns
     simp only[w20,w47,w58] at this
     omega
    rw[e1] at h1
    rcases U1 I h1 hblk with⟨rfl,b,cap,hv⟩|⟨b,oo,cap,us,hv,hcap,hreps,hcell⟩
    ·have:ns=[]:=w2a hlen
     subst this
     refine .pure I (run (some b) 0 cap .empty hv ?_) (.str _ _ rfl)
     exact run_bytesToString (P:=P) w b 0 cap [] rfl
    ·have hload:(loadCells ⟨b,oo,none⟩ len).run P w= .ok (ns.map (Value.int .u8)).toArray w:=by
      have:=run_loadCells_list (P:=P) w ⟨b,oo,none⟩ (ns.map (Value.int .u8)) (fun j v hj=>by
       rw[w22,w00] at hj
       obtain⟨n,hn,rfl⟩:=hj
       have hjl:j<len:=by rw[←hlen];exact(w13.1 hn).1
       have hx0:(cs.drop off)[j]? =some (.int .u8 n):=by
        have:((cs.drop off).take len)[j]? =some (.int .u8 n):=by rw[hns,w22,hn];rfl
        rw[w3f,if_pos hjl] at this
        exact this
       obtain⟨u,hu1,hu2⟩:=hreps.get hx0
       rw[yF,hcell j u hu1,hu2.inv_int])
      rw[w58,hlen] at this
      exact this
     have:=run_bytesToString (P:=P) w ⟨b,oo,none⟩ len cap ns hload
     refine .pure I (run _ _ _ _ hv this) (.str _ _ ?_)
     rw[z0r];rfl
   ·cases he
  ·cases he
 ·cases he
theorem z42 (cells:Array Value) (v:Array Value) (off:Nat) (h:off+v.size≤cells.size):
  (v.zipIdx.foldl (fun cs (x:Value×Nat)=>cs.setIfInBounds (off+x.2) x.1) cells).toList=cells.toList.take off++v.toList++cells.toList.drop (off+v.toList.length):=by
 rw[←Array.foldl_toList,Array.toList_zipIdx]
 obtain⟨h1,h2⟩:=Great.foldl_set off v.toList 0 cells
 apply w27
 grind
theorem Wh (hR:Reps g w ρ a.tmps.toList) {place:Nat→Option (Nat×Nat)}: ∀{l:List (Nat×Operand)} {ps:List (Nat×Nat×Opd)} {z:List AV} {zs:Array Value} {cs:List AV},
  compParts P place l=some ps→Reps g w z zs.toList→evBuild z ρ ps=some cs→ ∃vs:Array Value,Instr.fill place zs (l.map fun p=>(p.1,a.eval p.2))=some vs∧Reps g w cs vs.toList
 | [],ps,z,zs,cs,h1,h2,h3=>by
  simp[compParts] at h1;subst h1
  simp[evBuild] at h3;subst h3
  exact⟨zs,rfl,h2⟩
 |(i,x)::l,ps,z,zs,cs,h1,h2,h3=>by
  simp only[compParts] at h1
  split at h1
  ·rename_i off n y ps' e1 e2 e3
   split at h1
   ·rename_i hn
    injection h1 with h1;subst h1
    simp only[evBuild] at h3
    split at h3
    ·rename_i hc
     simp only[w09,beq_iff_eq,decide_eq_true_eq] at hc
     have hx:=(ze hR e2).cells (by omega)
     have hsz:(a.eval x).cells.size=n:=by have:=hx.1;simp at this;omega
     have hzl:zs.size=z.length:=by simpa using h2.1
     have hbase:=h2.splice (new:=(y.ev ρ).cells) hx (off:=off) (by omega)
     have hss:=z42 zs (a.eval x).cells off (by omega)
     obtain⟨vs,k1,k2⟩:=Wh hR (zs:=((a.eval x).cells.zipIdx.foldl (fun cs (x:Value×Nat)=>cs.setIfInBounds (off+x.2) x.1) zs)) e3 (by rw[hss];exact hbase) h3
     refine⟨vs,?_,k2⟩
     rw[←k1]
     simp only[w30,Instr.fill,e1,hsz]
     grind
    ·cases h3
   ·cases h1
  ·cases h1
theorem Y5 (P:Program) (w:World): ∀(l:List Field),l.all (fun f=>(P.info? f.type).isSome)=true→
  (l.mapM fun f=>(do pure (f.offset,←sizeOf f.type):Sem (Nat×Nat))).run P w= .ok (l.map fun f=>(f.offset,(sizeOfT P f.type).getD 0)) w
 | [],_=>rfl
 |f::l,h=>by
  simp only[List.all_cons,w09] at h
  obtain⟨ti,hi⟩:=Option.isSome_iff_exists.1 h.1
  have ih:=Y5 P w l h.2
  have hs:sizeOfT P f.type=some ti.size:=by simp[sizeOfT,hi]
  simp only[List.mapM_cons,Sem.run_bind,tD hs w,Result.andThen_ok,Sem.run_pure,ih,w30,hs,w32]
theorem Vd (hR:Reps g w ρ a.tmps.toList) (I:Inv g w m) {t:TypeId} {ps:Array (Nat×Operand)} {z:AV} {fs:Array Field} {l:List (Nat×Nat×Opd)} {cs:List AV} (hop:o.op= .build t ps) (hz:zeroT P t=some z) (ht:P.underlying t=some (.struct fs))
  (hall:fs.toList.all (fun f=>(P.info? f.type).isSome)=true) (hl:compParts P (fieldPlaceT P fs) ps.toList=some l) (he:evBuild z.cells ρ l=some cs):Yields P a o g w (.agg cs) m:=by
 obtain⟨zv,h1,h2⟩:=jb hz w
 have h3:Reps g w z.cells zv.cells.toList:=by
  by_cases h0:0<z.cells.length
  ·exact(xB h2).cells h0
  ·have hnil:z.cells=[]:=w2a (by omega)
   have hr:=xB (g:=g) (w:=w) h2
   cases z with
   |agg zs=>
    obtain⟨us,rfl,hu⟩:=Reps.of_agg hr
    trivial
   |undef=>simp[avOf] at h2;split at h2<;>first|(simp at h2;done)|(split at h2<;>simp at h2)|(simp[avCell] at h2;split at h2<;>simp at h2)
   |_=>simp[AV.cells] at hnil
 have hm:=Y5 P w fs.toList hall
 have hplace:(fun i=>(fs.map fun f=>(f.offset,(sizeOfT P f.type).getD 0))[i]?)=fieldPlaceT P fs:=by
  funext i
  unfold fieldPlaceT
  cases hf:fs[i]? with
  |none=>simp[hf]
  |some f=>
   have hmem:f∈fs.toList:=by simpa using Array.mem_of_getElem? hf
   have:=w37.1 hall f hmem
   obtain⟨ti,hi⟩:=Option.isSome_iff_exists.1 this
   simp[hf,hi,sizeOfT]
 obtain⟨vs,k1,k2⟩:=Wh (P:=P) hR hl h3 he
 refine .pure I (v:= .agg vs) ?_ (by simpa using k2.agg)
 have hm2:(fs.mapM fun f=>(do pure (f.offset,←sizeOf f.type):Sem (Nat×Nat))).run P w= .ok (fs.map fun f=>(f.offset,(sizeOfT P f.type).getD 0)) w:=by
  rw[Array.mapM_eq_mapM_toList]
  simp only[Functor.map,Sem.run_bind',hm,Result.andThen_ok]
  simp
  grind
 have hparts:(ps.map fun(i,x)=>(i,a.eval x)).toList=ps.toList.map fun p=>(p.1,a.eval p.2):=by simp
 simp only[execOp,hop,Instr.build,Sem.run_bind,h1,Result.andThen_ok,run_underlying ht,hm2,hparts,hplace,k1,Sem.run_pure]
theorem U0 (hR:Reps g w ρ a.tmps.toList) (I:Inv g w m) {t e:TypeId} {ps:Array (Nat×Operand)} {z:AV} {n len:Nat} {l:List (Nat×Nat×Opd)} {cs:List AV} (hop:o.op= .build t ps) (hz:zeroT P t=some z) (ht:P.underlying t=some (.array len e))
  (hn:sizeOfT P e=some n) (hl:compParts P (fun i=>some (i*n,n)) ps.toList=some l) (he:evBuild z.cells ρ l=some cs) (h0:0<z.cells.length):Yields P a o g w (.agg cs) m:=by
 obtain⟨zv,h1,h2⟩:=jb hz w
 have h3:=(xB (g:=g) (w:=w) h2).cells h0
 obtain⟨vs,k1,k2⟩:=Wh (P:=P) hR hl h3 he
 refine .pure I (v:= .agg vs) ?_ (by simpa using k2.agg)
 have hparts:(ps.map fun(i,x)=>(i,a.eval x)).toList=ps.toList.map fun p=>(p.1,a.eval p.2):=by simp
 simp only[execOp,hop,Instr.build,Sem.run_bind,h1,Result.andThen_ok,run_underlying ht,tD hn w,hparts,k1,Sem.run_pure]
theorem jB: ∀{n:Nat} {l:List (Nat×Operand)} {xs:List Operand},litParts n l=some xs→l.map (fun p=>(p.1,a.eval p.2))=(((xs.map a.eval).zipIdx n).map fun x=>(x.2,x.1))∧xs.length=l.length
 |n,[],xs,h=>by simp[litParts] at h;subst h;exact⟨rfl,rfl⟩
 |n,(i,x)::l,xs,h=>by
  simp only[litParts] at h
  split at h
  ·rename_i hi
   subst hi
   simp only[w00] at h
   obtain⟨ys,h1,rfl⟩:=h
   obtain⟨h2,h3⟩:=jB h1
   simp_all
  ·cases h
theorem Wo {s:Nat}: ∀{xs:List AV},allLen s xs=true→ ∀(i:Nat) (x:AV),xs[i]? =some x→x.cells.length=s
 | [],_,i,x,hx=>by simp at hx
 |y::r,h,i,x,hx=>by
  simp only[allLen,w09,beq_iff_eq] at h
  cases i with
  |zero=>simp at hx;rw[←hx];exact h.1.1
  |succ i=>exact Wo h.2 i x (by simpa using hx)
theorem Qy {s:Nat}: ∀{xs:List AV},allLen s xs=true→ ∀(i:Nat) (x:AV),xs[i]? =some x→allOne x.cells=true
 | [],_,i,x,hx=>by simp at hx
 |y::r,h,i,x,hx=>by
  simp only[allLen,w09,beq_iff_eq] at h
  cases i with
  |zero=>simp at hx;rw[←hx];exact h.1.2
  |succ i=>exact Qy h.2 i x (by simpa using hx)
theorem Wg {s:Nat} (hs:0<s): ∀(xs:List AV),(∀(i:Nat) (x:AV),xs[i]? =some x→x.cells.length=s)→ ∀k,(xs.flatMap AV.cells)[k]? =(xs[k/s]?).bind fun x=>x.cells[k%s]?
 | [],_,k=>by simp
 |x::xs,h,k=>by
  have hx:x.cells.length=s:=h 0 x rfl
  rw[w2d]
  by_cases hk:k<s
  ·rw[w1b (by omega),Nat.div_eq_of_lt hk,Nat.mod_eq_of_lt hk]
   simp
  ·have h1:k/s=(k-s)/s+1:=by
    have:=Nat.sub_add_cancel (Nat.le_of_not_lt hk)
    conv=>lhs;rw[←this]
    rw[Nat.add_div_right _ hs]
   have h2:k%s=(k-s)%s:=by
    have:=Nat.sub_add_cancel (Nat.le_of_not_lt hk)
    conv=>lhs;rw[←this]
    simp
   rw[w39 (by omega),hx,Wg hs xs (fun i y hy=>h (i+1) y (by simpa using hy)) (k-s),h1,h2,w4e]
theorem vR {s:Nat}: ∀(xs:List AV),(∀(i:Nat) (x:AV),xs[i]? =some x→x.cells.length=s)→(xs.flatMap AV.cells).length=xs.length*s
 | [],_=>by simp
 |x::xs,h=>by
  rw[w2d,w15,vR xs (fun i y hy=>h (i+1) y (by simpa using hy)),h 0 x rfl]
  grind
theorem TR {i j s:Nat} (hj:j<s):(i*s+j)/s=i∧(i*s+j)%s=j:=by
 have hs:0<s:=by omega
 exact⟨by rw[Nat.add_comm,Nat.add_mul_div_right _ _ hs,Nat.div_eq_of_lt hj];omega,by rw[Nat.add_comm,Nat.add_mul_mod_self_right,Nat.mod_eq_of_lt hj]⟩
theorem Rep.rowsC {s:Nat} (hs:0<s) {xs:List AV} {us:List Value} (hx: ∀(i:Nat) (x:AV),xs[i]? =some x→x.cells.length=s) (h:Reps g w (xs.flatMap AV.cells) us) (b oo cap:Nat) (tk:Tok) (hcap:xs.length≤cap)
  (htk:TokAt g tk b (oo+xs.length*s) (oo+cap*s)) (hcell: ∀(j:Nat) (u:Value),us[j]? =some u→w.cell? ⟨b,oo+j,none⟩=some u∧g.own b (oo+j)=none∧u.oneCell'=true):
  Rep g w (.list s tk xs) (.slice (some ⟨b,oo,none⟩) xs.length cap):=by
 have key: ∀(i j:Nat) (x c:AV),xs[i]? =some x→x.cells[j]? =some c→ ∃u,us[i*s+j]? =some u∧Rep g w c u:=by
  intro i j x c h1 h2
  have hj:j<s:=by rw[←hx i x h1];exact(w13.1 h2).1
  refine h.get ?_
  rw[Wg hs xs hx,(TR hj).1,(TR hj).2,h1]
  exact h2
 refine .list s tk xs b oo cap (fun i j=>(us[i*s+j]?).getD Go.undef) hx hcap htk (fun i j x c h1 h2=> ?_) (fun i j x c h1 h2=> ?_)
 ·grind
 ·grind
theorem qz {s:Nat} (hs:0<s) {xs:List AV} {b oo:Nat} {f:Nat→Nat→Value} (hsz: ∀(i:Nat) (x:AV),xs[i]? =some x→x.cells.length=s)
  (hc: ∀(i j:Nat) (x c:AV),xs[i]? =some x→x.cells[j]? =some c→w.cell? ⟨b,oo+(i*s+j),none⟩=some (f i j)∧g.own b (oo+(i*s+j))=none∧(f i j).oneCell'=true)
  (hr: ∀(i j:Nat) (x c:AV),xs[i]? =some x→x.cells[j]? =some c→Rep g w c (f i j)):
  ∃us:List Value,Reps g w (xs.flatMap AV.cells) us∧us.length=xs.length*s∧ ∀(j:Nat) (u:Value),us[j]? =some u→w.cell? ⟨b,oo+j,none⟩=some u∧g.own b (oo+j)=none∧u.oneCell'=true:=by
 have hlen:=vR xs hsz
 have get: ∀k c,(xs.flatMap AV.cells)[k]? =some c→ ∃x,xs[k/s]? =some x∧x.cells[k%s]? =some c∧k/s*s+k%s=k:=by
  intro k c h
  rw[Wg hs xs hsz,w05] at h
  obtain⟨x,h1,h2⟩:=h
  refine⟨x,h1,h2,?_⟩
  have:=Nat.div_add_mod k s
  grind
 refine⟨(List.range (xs.length*s)).map fun k=>f (k/s) (k%s),⟨by simp[hlen],fun k c v h1 h2=> ?_⟩,by simp,fun k u hu=> ?_⟩
 ·grind
 ·have hk:k<xs.length*s:=by have:=(w13.1 hu).1;simpa using this
  rw[w22,List.getElem?_range hk] at hu
  simp only[w06,Option.some.injEq] at hu
  obtain⟨x,h3,h4,h5⟩:=get k _ (w1d (by rw[hlen];exact hk))
  grind
theorem YI {s:Nat}: ∀(vs:List Value),(∀v∈vs,v.cells.size=s)→(vs.flatMap fun v=>v.cells.toList).length=vs.length*s
 | [],_=>by simp
 |v::vs,h=>by
  rw[w2d,w15,YI vs (fun u hu=>h u (w2c _ hu))]
  grind
theorem z5D (hR:Reps g w ρ a.tmps.toList) (I:Inv g w m) {t e:TypeId} {len:Nat} {ps:Array (Nat×Operand)} {ti:TypeInfo} {xs:List Operand} {l:List Opd} (hop:o.op= .buildSlice t len ps) (ht:P.underlying t=some (.slice e)) (hi:P.info? e=some ti)
  (h0:0<ti.size) (hlen:ps.size=len) (hcap:len*ti.size≤16777216) (hzs:(ti.zero.map fun z=>z.cells.size)=some ti.size) (hp:litParts 0 ps.toList=some xs) (hl:compOpds xs=some l) (hall:allLen ti.size (l.map fun p=>p.ev ρ)=true):
  ∃C:Array Value,(execOp a.eval o).run P w= .ok (.value (.slice (some ⟨w.heap.size,0,none⟩) len len)) (w.alloc (.cells C e))∧C.size=len*ti.size∧ ∀fz:Nat×Nat,
   Ext g w g (w.alloc (.cells C e fz))∧Inv g (w.alloc (.cells C e fz)) m∧Rep g (w.alloc (.cells C e fz)) (.list ti.size .full (l.map fun p=>p.ev ρ)) (.slice (some ⟨w.heap.size,0,none⟩) len len):=by
 have h1:=tH hR hl
 obtain⟨h2,h3⟩:=jB (a:=a) hp
 have hlx:xs.length=len:=by rw[h3,←hlen];simp
 have hxs:=Wo hall
 have size: ∀v∈xs.map a.eval,v.cells.size=ti.size:=by
  intro v hv
  obtain⟨i,hi'⟩:=List.getElem?_of_mem hv
  have hil:i<(l.map fun p=>p.ev ρ).length:=by rw[←h1.1];exact(w13.1 hi').1
  have hx0:=hxs i _ (w1d hil)
  have:=((h1.2 i _ v (w1d hil) hi').cells (by omega)).1
  grind
 cases hz:ti.zero with
 |none=>simp[hz] at hzs
 |some zv=>
  have hsz:zv.cells.size=ti.size:=by rw[hz] at hzs;simpa using hzs
  let flat:=(xs.map a.eval).flatMap fun v=>v.cells.toList
  have hflat:flat.length=len*ti.size:=by
   have:=YI (s:=ti.size) (xs.map a.eval) size
   grind
  have hparts:(ps.map fun(i,x)=>(i,a.eval x)).toList=((xs.map a.eval).zipIdx 0).map fun x=>(x.2,x.1):=by rw[←h2];simp
  refine⟨flat.toArray,?_,by simp[hflat],fun fz=>⟨(I.alloc_sealed (.cells flat.toArray e fz)).1,(I.alloc_sealed (.cells flat.toArray e fz)).2,?_⟩⟩
  ·have hzero: ∀zz:Array Value,(zz=if len*ti.size=0 then #[] else zv.cells)→Instr.fill (fun i=>some (i*ti.size,ti.size)) ((Array.range (len*ti.size)).map (fun i=>zz[i%zz.size]!)) (((xs.map a.eval).zipIdx 0).map fun x=>(x.2,x.1))=some flat.toArray:=
    fun zz _=>Great.fill_whole h0 (xs.map a.eval) _ size (by simp[hlx])
   have hbig: ¬(len*ti.size>2^24):=by omega
   have hz2:(zeroValue e).run P w= .ok zv w:=by simp[zeroValue,typeInfo,hi,hz]
   have hs2:(sizeOf e).run P w= .ok ti.size w:=by simp[sizeOf,typeInfo,hi]
   by_cases hz0:len*ti.size=0
   ·simp only[execOp,hop,Instr.buildSlice,Sem.run_bind,run_underlying ht,Result.andThen_ok,hs2,if_neg hbig,if_pos hz0,hparts,Sem.run_pure]
    rw[hzero #[] (by rw[if_pos hz0])]
    simp[newRow]
   ·simp only[execOp,hop,Instr.buildSlice,Sem.run_bind,run_underlying ht,Result.andThen_ok,hs2,if_neg hbig,if_neg hz0,hparts,Sem.run_pure,hz2]
    rw[hzero zv.cells (by rw[if_neg hz0])]
    simp[newRow]
  ·have hlen:=vR _ hxs
   have hrep:Reps g w ((l.map fun p=>p.ev ρ).flatMap AV.cells) flat:=by
    have: ∀(ys:List AV) (vs:List Value),Reps g w ys vs→(∀(i:Nat) (x:AV),ys[i]? =some x→x.cells.length=ti.size)→Reps g w (ys.flatMap AV.cells) (vs.flatMap fun v=>v.cells.toList):=by
     intro ys
     induction ys with
     |nil=>intro vs h _;have:vs=[]:=w2a h.1;subst this;exact Reps.nil g w
     |cons y ys ih=>
      intro vs h hh
      obtain⟨v,r,rfl,h4,h5⟩:=h.head
      rw[w2d,w2d]
      exact(h4.cells (by rw[hh 0 y rfl];exact h0)).append (ih r h5 (fun i x hx=>hh (i+1) x (by simpa using hx)))
    grind
   have hone: ∀u∈flat,u.oneCell'=true:=by
    refine hrep.one ?_
    have:=Qy hall
    generalize (l.map fun p=>p.ev ρ)=ys at this
    induction ys with
    |nil=>rfl
    |cons y ys ih=>
     rw[w2d]
     have h1:=this 0 y rfl
     have h2:=ih (fun i x hx=>this (i+1) x (by simpa using hx))
     have happ: ∀p q:List AV,allOne p=true→allOne q=true→allOne (p++q)=true:=by
      intro p q hp hq
      induction p with
      |nil=>exact hq
      |cons c p ihp=>simp only[allOne,w09,w26] at hp⊢;exact⟨hp.1,ihp hp.2⟩
     grind
   have hll:(l.map fun p=>p.ev ρ).length=len:=by rw[←h1.1];simp[hlx]
   have:=Rep.rowsC (g:=g) (w:=w.alloc (.cells flat.toArray e fz)) h0 hxs (hrep.mono (I.alloc_sealed (.cells flat.toArray e fz)).1) w.heap.size 0 len .full (by omega) (by simp only[TokAt];rw[hll]) (fun j u hj=>by
    rw[w1f]
    exact⟨by rw[VY];exact hj,z1H I j,hone u (w3a hj)⟩)
   grind
theorem z6y (hR:Reps g w ρ a.tmps.toList) (I:Inv g w m) {t e:TypeId} {len:Nat} {ps:Array (Nat×Operand)} {ti:TypeInfo} {xs:List Operand} {l:List Opd} (hop:o.op= .buildSlice t len ps) (ht:P.underlying t=some (.slice e)) (hi:P.info? e=some ti)
  (h0:0<ti.size) (hlen:ps.size=len) (hcap:len*ti.size≤16777216) (hzs:(ti.zero.map fun z=>z.cells.size)=some ti.size) (hp:litParts 0 ps.toList=some xs) (hl:compOpds xs=some l) (hall:allLen ti.size (l.map fun p=>p.ev ρ)=true):
  Yields P a o g w (.list ti.size .full (l.map fun p=>p.ev ρ)) m:=by
 obtain⟨C,h1,_,h2⟩:=z5D hR I hop ht hi h0 hlen hcap hzs hp hl hall
 obtain⟨e1,I1,r1⟩:=h2 (0,0)
 exact⟨g,_,_,.inl h1,e1,I1,r1⟩
theorem z2N (hR:Reps g w ρ a.tmps.toList) {t e:TypeId} {len:Nat} {ps:Array (Nat×Operand)} {ti:TypeInfo} {xs:List Operand} {l:List Opd} (hop:o.op= .buildSlice t len ps) (ht:P.underlying t=some (.slice e)) (hi:P.info? e=some ti)
  (h0:0<ti.size) (hlen:ps.size=len) (hcap:len*ti.size≤16777216) (hzs:(ti.zero.map fun z=>z.cells.size)=some ti.size) (hp:litParts 0 ps.toList=some xs) (hl:compOpds xs=some l) (hall:allLen ti.size (l.map fun p=>p.ev ρ)=true):
  ∃flat:List Value,flat.length=len*ti.size∧(l.map fun p=>p.ev ρ).length=len∧Reps g w ((l.map fun p=>p.ev ρ).flatMap AV.cells) flat∧(execOp a.eval o).run P w= .ok (.value (.slice (some ⟨w.heap.size,0,none⟩) len len)) (w.alloc (.cells flat.toArray e)):=by
 have h1:=tH hR hl
 obtain⟨h2,h3⟩:=jB (a:=a) hp
 have hlx:xs.length=len:=by rw[h3,←hlen];simp
 have hxs:=Wo hall
 have size: ∀v∈xs.map a.eval,v.cells.size=ti.size:=by
  intro v hv
  obtain⟨i,hi'⟩:=List.getElem?_of_mem hv
  have hil:i<(l.map fun p=>p.ev ρ).length:=by rw[←h1.1];exact(w13.1 hi').1
  have hx0:=hxs i _ (w1d hil)
  have:=((h1.2 i _ v (w1d hil) hi').cells (by omega)).1
  grind
 cases hz:ti.zero with
 |none=>simp[hz] at hzs
 |some zv=>
  have hsz:zv.cells.size=ti.size:=by rw[hz] at hzs;simpa using hzs
  let flat:=(xs.map a.eval).flatMap fun v=>v.cells.toList
  have hflat:flat.length=len*ti.size:=by
   have:=YI (s:=ti.size) (xs.map a.eval) size
   grind
  have hparts:(ps.map fun(i,x)=>(i,a.eval x)).toList=((xs.map a.eval).zipIdx 0).map fun x=>(x.2,x.1):=by rw[←h2];simp
  have hlen:=vR _ hxs
  have hrep:Reps g w ((l.map fun p=>p.ev ρ).flatMap AV.cells) flat:=by
   have: ∀(ys:List AV) (vs:List Value),Reps g w ys vs→(∀(i:Nat) (x:AV),ys[i]? =some x→x.cells.length=ti.size)→Reps g w (ys.flatMap AV.cells) (vs.flatMap fun v=>v.cells.toList):=by
    intro ys
    induction ys with
    |nil=>intro vs h _;have:vs=[]:=w2a h.1;subst this;exact Reps.nil g w
    |cons y ys ih=>
     intro vs h hh
     obtain⟨v,r,rfl,h4,h5⟩:=h.head
     rw[w2d,w2d]
     exact(h4.cells (by rw[hh 0 y rfl];exact h0)).append (ih r h5 (fun i x hx=>hh (i+1) x (by simpa using hx)))
   grind
  have hll:(l.map fun p=>p.ev ρ).length=len:=by rw[←h1.1];simp[hlx]
  refine⟨flat,hflat,hll,hrep,?_⟩
  ·have hzero: ∀zz:Array Value,(zz=if len*ti.size=0 then #[] else zv.cells)→Instr.fill (fun i=>some (i*ti.size,ti.size)) ((Array.range (len*ti.size)).map (fun i=>zz[i%zz.size]!)) (((xs.map a.eval).zipIdx 0).map fun x=>(x.2,x.1))=some flat.toArray:=
    fun zz _=>Great.fill_whole h0 (xs.map a.eval) _ size (by simp[hlx])
   have hbig: ¬(len*ti.size>2^24):=by omega
   have hz2:(zeroValue e).run P w= .ok zv w:=by simp[zeroValue,typeInfo,hi,hz]
   have hs2:(sizeOf e).run P w= .ok ti.size w:=by simp[sizeOf,typeInfo,hi]
   by_cases hz0:len*ti.size=0
   ·simp only[execOp,hop,Instr.buildSlice,Sem.run_bind,run_underlying ht,Result.andThen_ok,hs2,if_neg hbig,if_pos hz0,hparts,Sem.run_pure]
    rw[hzero #[] (by rw[if_pos hz0])]
    simp[newRow]
   ·simp only[execOp,hop,Instr.buildSlice,Sem.run_bind,run_underlying ht,Result.andThen_ok,hs2,if_neg hbig,if_neg hz0,hparts,Sem.run_pure,hz2]
    rw[hzero zv.cells (by rw[if_neg hz0])]
    simp[newRow]
theorem z4r (hR:Reps g w ρ a.tmps.toList) (I:Inv g w m) {t e:TypeId} {len:Nat} {ps:Array (Nat×Operand)} {ti:TypeInfo} {xs:List Operand} {l:List Opd} (hop:o.op= .buildSlice t len ps) (ht:P.underlying t=some (.slice e)) (hi:P.info? e=some ti)
  (h0:0<ti.size) (hlen:ps.size=len) (hcap:len*ti.size≤16777216) (hzs:(ti.zero.map fun z=>z.cells.size)=some ti.size) (hp:litParts 0 ps.toList=some xs) (hl:compOpds xs=some l) (he:evLitB m ti.size (l.map fun p=>p.ev ρ)=some (r,m')):Yields P a o g w r m':=by
 unfold evLitB at he
 split at he
 rotate_left
 ·cases he
 rename_i hall
 injection he with he
 injection he with he1 he2
 subst he1;subst he2
 obtain⟨flat,hflat,hll,hrep,hrun⟩:=z2N hR hop ht hi h0 hlen hcap hzs hp hl hall
 obtain⟨g',k1,k2,k3⟩:=I.alloc_blk _ flat e hrep
 exact⟨g',_,_,.inl hrun,k1,k2,by rw[hll];exact .grow _ _ _ _ _ _ _ _ _ k3 (w08 _) (by rw[hflat,w1f])⟩
end
section
variable {P : Program} {g : G} {w : World} {ρ : List AV} {a : Act} {m m' : Mem} {o : Oper} {r : AV}
theorem VE {c:AV} (h:c.one=true):c.cells=[c]:=by cases c<;>simp[AV.one] at h<;>rfl
theorem YR: ∀(n:Nat) (cs:List AV),allOne cs=true→allOne (cs.take n)=true∧allOne (cs.drop n)=true
 |0,cs,h=>⟨rfl,h⟩
 |n+1,[],_=>⟨rfl,rfl⟩
 |n+1,c::r,h=>by
  simp only[allOne,w09] at h
  obtain⟨h1,h2⟩:=YR n r h.2
  exact⟨by simp[allOne,h.1,h1],h2⟩
theorem ke {s:Nat} (h0:0<s): ∀(n:Nat) (cs:List AV),n*s≤cs.length→allOne (cs.take (n*s))=true→
  (chunk s n cs).length=n∧(∀(i:Nat) (x:AV),(chunk s n cs)[i]? =some x→x.cells.length=s)∧(chunk s n cs).flatMap AV.cells=cs.take (n*s)
 |0,cs,_,_=>by simp[chunk]
 |n+1,cs,hl,ho=>by
  rw[w40,Nat.one_mul] at hl ho
  have hd:(cs.take (n*s+s)).drop s=(cs.drop s).take (n*s):=by rw[List.drop_take];congr 1;omega
  have ho2:=(YR s _ ho).2
  rw[hd] at ho2
  obtain⟨h1,h2,h3⟩:=ke h0 n (cs.drop s) (by simp;omega) ho2
  have hc:(if(s==1)=true then cs.headD .undef else .agg (cs.take s)).cells=cs.take s:=by
   by_cases hs:s=1
   ·subst hs
    cases cs with
    |nil=>simp at hl
    |cons c r=>
     have:c.one=true:=by
      have:=(YR 1 _ ho).1
      rw[List.take_take,show min 1 (n*1+1)=1 by omega] at this
      simpa [allOne] using this
     simp[VE this]
   ·simp[hs,AV.cells]
  refine⟨by simp[chunk,h1],fun i x hx=> ?_,?_⟩
  ·cases i with
   |zero=>
    simp only[chunk,List.getElem?_cons_zero,Option.some.injEq] at hx
    grind
   |succ i=>exact h2 i x (by simpa [chunk] using hx)
  ·rw[chunk,w2d,hc,h3,w40,Nat.one_mul,Nat.add_comm (n*s) s,List.take_add]
theorem TD (I:Inv g w m) {s:Nat} (h0:0<s) {tx:TypeId} (hk:(∃e',P.underlying tx=some (.slice e'))∨P.underlying tx=some .string) {y:AV} (hng: ∀s l k st n,y≠ .grow s l k st n) {v:Value} {ys:List AV} (hy:m.elems s y=some ys) (h:Rep g w y v):
  ∃news,Src P s tx v ys.length news w∧Reps g w (ys.flatMap AV.cells) news∧(∀(i:Nat) (x:AV),ys[i]? =some x→x.cells.length=s):=by
 unfold Mem.elems at hy
 split at hy
 ·rename_i l k st off len
  split at hy
  ·rename_i cs hblk
   split at hy
   ·rename_i hcond
    simp only[w09,decide_eq_true_eq] at hcond
    injection hy with hy;subst hy
    obtain⟨q1,q2,q3⟩:=ke h0 len (cs.drop off) (by simp;omega) hcond.2
    rw[q1,q3]
    rcases U1 I h hblk with⟨rfl,b,cap,hv⟩|⟨b,oo,cap,us,hv,hcap,hreps,hcell⟩
    ·rw[hv]
     refine⟨[],⟨hk,fun _=>rfl,?_,?_,by simp,fun _ h=>by cases h⟩,by simpa using Reps.nil g w,q2⟩
     ·exact run_firstCells_some w s 0 b 0 cap [] (by simp) (fun j u hj=>by simp at hj)
     ·exact run_firstCells_some w.drew s 0 b 0 cap [] (by simp) (fun j u hj=>by simp at hj)
    ·rw[hv]
     have hul:us.length=cs.length-off:=by rw[hreps.1,w47]
     have hlen:(us.take (len*s)).length=len*s:=by rw[w20];omega
     have hget: ∀(j:Nat) (u:Value),(us.take (len*s))[j]? =some u→w.cell? ((⟨b,oo,none⟩:Addr).add j)=some u:=fun j u hj=>by
      rw[w3f] at hj
      split at hj
      ·rw[yF];exact hcell j u hj
      ·cases hj
     exact⟨us.take (len*s),⟨hk,fun _=>rfl,run_firstCells_some w s len _ _ _ _ hlen hget,run_firstCells_some w.drew s len _ _ _ _ hlen (fun j u hj=>by simpa using hget j u hj),hlen,
      (hreps.take (len*s)).one hcond.2⟩,hreps.take (len*s),q2⟩
   ·cases hy
  ·cases hy
 ·grind
 rename_i hna hna2
 clear hna hna2
 unfold elemsOf at hy
 split at hy
 ·injection hy with hy;subst hy
  rw[h.inv_nils]
  exact⟨[],⟨hk,fun _=>rfl,run_firstCells_none w s 0 0 0,run_firstCells_none w.drew s 0 0 0,by simp,fun _ h=>by cases h⟩,Reps.nil g w,fun i x hx=>by simp at hx⟩
 ·rename_i s' tk xs
  split at hy
  ·rename_i hs
   have hs':s'=s:=eq_of_beq hs
   subst hs'
   injection hy with hy;subst hy
   rcases h.inv_list with⟨b,oo,cap,hv,hsz,hcap,htk,f,hc,hr⟩|⟨rfl,b,cap,hv,_⟩
   ·obtain⟨us,k1,k2,k3⟩:=qz h0 hsz hc hr
    rw[hv]
    refine⟨us,⟨hk,fun _=>rfl,?_,?_,k2,fun u hu=> ?_⟩,k1,hsz⟩
    ·exact run_firstCells_some w s' xs.length _ _ _ us k2 (fun j u hj=>by rw[yF];exact(k3 j u hj).1)
    ·exact run_firstCells_some w.drew s' xs.length _ _ _ us k2 (fun j u hj=>by rw[yF];exact(k3 j u hj).1)
    ·obtain⟨j,hj⟩:=List.getElem?_of_mem hu
     grind
   ·rw[hv]
    refine⟨[],⟨hk,fun _=>rfl,?_,?_,by simp,fun _ h=>by cases h⟩,Reps.nil g w,fun i x hx=>by simp at hx⟩
    ·exact run_firstCells_some w s' 0 b 0 cap [] (by simp) (fun j u hj=>by simp at hj)
    ·exact run_firstCells_some w.drew s' 0 b 0 cap [] (by simp) (fun j u hj=>by simp at hj)
  ·cases hy
 ·rename_i l
  split at hy
  ·rename_i hs
   have hs':s=1:=eq_of_beq hs
   subst hs'
   injection hy with hy;subst hy
   obtain⟨b,hv,rfl⟩:=h.inv_str
   rw[hv]
   have hlen:(ofBytes b.data.toList).length=b.size:=by simp[ofBytes]
   have hcells:(ofBytes b.data.toList).flatMap AV.cells=ofBytes b.data.toList:=by
    unfold ofBytes
    rw[List.flatMap_map]
    simp[AV.cells,List.flatMap_singleton']
    induction b.data.toList with
    |nil=>rfl
    |cons c r ih=>simp[ih]
   refine⟨byteCells b,⟨hk,fun _=>by rw[hlen];rfl,by rw[hlen];exact firstCells_string b w,by rw[hlen];exact firstCells_string b w.drew,by rw[hlen,byteCells_length,w11],fun u hu=> ?_⟩,?_,fun i x hx=> ?_⟩
   ·obtain⟨_,_,rfl⟩:=w42.1 hu
    rfl
   ·rw[hcells]
    exact Qs _
   ·simp only[ofBytes,w22,w00] at hx
    obtain⟨y,_,rfl⟩:=hx;rfl
  ·cases hy
 ·cases hy
theorem Qh (m:Mem) (s s' l k st len:Nat):m.elems s (.grow s' l k st len)=m.elems s (.arr l k st 0 len):=rfl
theorem z0m (I:Inv g w m) {s:Nat} (h0:0<s) {tx:TypeId} (hk:(∃e',P.underlying tx=some (.slice e'))∨P.underlying tx=some .string) {y:AV} {v:Value} {ys:List AV} (hy:m.elems s y=some ys) (h:Rep g w y v):
  ∃news,Src P s tx v ys.length news w∧Reps g w (ys.flatMap AV.cells) news∧(∀(i:Nat) (x:AV),ys[i]? =some x→x.cells.length=s):=by
 by_cases hg: ∃s l k st n,y= .grow s l k st n
 ·obtain⟨s',l,k,st,n,rfl⟩:=hg
  rw[Qh] at hy
  exact TD I h0 hk (fun _ _ _ _ _ e=>by cases e) hy h.grow_arr
 ·exact TD I h0 hk (fun s l k st n e=>hg ⟨s,l,k,st,n,e⟩) hy h
theorem tE (t tx ty e:TypeId) (i:TypeInfo) (ht:P.underlying t=some (.slice e)) (hi:P.info? e=some i) (base:Option Addr) (sLen sCap:Nat) (x:Value) (hs:Src P i.size tx x 0 [] w) (hle:sLen≤sCap):
  (Builtin.append_ #[t,tx] ty #[.slice base sLen sCap,x]).run P w= .ok (.slice base sLen sCap) w:=by
 rcases hs.kind with⟨e',hk⟩|hk<;>cases base<;>simp[Builtin.append_,run_underlying ht,run_underlying hk,sizeOf,typeInfo,hi,hs.len,hle,hs.cells,storeCells]
theorem Reps.live_grow {g':G} (I:Inv g w m) (olds news:List Value) (z:Value) (e:TypeId) (s n cap:Nat) (hs:0<s) (hz:z.cells.size=s) (hn:(olds++news).length=n*s) (hcap:n≤cap) (live:List (List Nat)) (hl:live.flatten.Sublist m.live.flatten)
  (xs:List AV) (hx: ∀(i:Nat) (x:AV),xs[i]? =some x→x.cells.length=s) (hxl:xs.length=n) (hrep:Reps g w (xs.flatMap AV.cells) (olds++news)) (hone: ∀u∈olds++news,u.oneCell'=true) (hg:g'=g):
  ∃g1,Ext g w g1 (w.drew.alloc (.cells ((olds++news).toArray++Builtin.zeroCells z.cells (cap-n)) e))∧
   Inv g1 (w.drew.alloc (.cells ((olds++news).toArray++Builtin.zeroCells z.cells (cap-n)) e)) {m with nx:=m.nx+1,live:=addTok m.nx live}∧
   Rep g1 (w.drew.alloc (.cells ((olds++news).toArray++Builtin.zeroCells z.cells (cap-n)) e)) (.list s (.id m.nx) xs) (.slice (some ⟨w.heap.size,0,none⟩) n cap):=by
 have harr:(olds++news).toArray++Builtin.zeroCells z.cells (cap-n)=((olds++news)++(Builtin.zeroCells z.cells (cap-n)).toList).toArray:=by
  apply Array.ext';simp
 rw[harr]
 have hlen:((olds++news)++(Builtin.zeroCells z.cells (cap-n)).toList).length=cap*s:=by
  rw[w15,hn,Array.length_toList,size_zeroCells,hz,←w40,show n+(cap-n)=cap by omega]
 obtain⟨g1,k1,k2,k3,k4⟩:=I.drew.alloc_tok ((olds++news)++(Builtin.zeroCells z.cells (cap-n)).toList) (n*s) e (0,0) (fun j _=>by simp) live hl
 have kx:=(Ext.drew g w).trans k1
 refine⟨g1,kx,k2,?_⟩
 have:=Rep.rowsC (g:=g1) (w:=w.drew.alloc (.cells ((olds++news)++(Builtin.zeroCells z.cells (cap-n)).toList).toArray e)) hs hx (hrep.mono kx) w.heap.size 0 cap (.id m.nx) (by omega)
  (by simp only[TokAt,w1f,hxl];rw[←hlen];exact k3) (fun j u hj=>by
   have hjl:j<n*s:=by rw[←hn];exact(w13.1 hj).1
   refine⟨?_,?_,hone u (w3a hj)⟩
   ·have:=YN w.drew ((olds++news)++(Builtin.zeroCells z.cells (cap-n)).toList) e (0+j)
    rw[show(w.drew).heap.size=w.heap.size from rfl] at this
    rw[this,w1f,w1b (by rw[hn];exact hjl)]
    exact hj
   ·have:=k4 j hjl
    rw[w1f];exact this)
 rw[hxl] at this
 exact this
def AppRun (P:Program) (o:Oper) (t tx:TypeId) (x:Operand) (y':Opd):Prop:=
 ∀(g:G) (w:World) (ρ:List AV) (a:Act),Reps g w ρ a.tmps.toList→ ∃v2,Rep g w (y'.ev ρ) v2∧ ∀v w',(Builtin.append_ #[t,tx] o.type #[a.eval x,v2]).run P w= .ok v w'→(execOp a.eval o).run P w= .ok (.value v) w'
theorem z11 {c:Call} {t tx:TypeId} {x y:Operand} {y':Opd} (hop:o.op= .call c) (hc:c.callee= .builtin .append) (hA:c.argTypes.toList=[t,tx]) (ha:c.args.toList=[x,y]) (hy:compOpd y=some y'):AppRun P o t tx x y':=by
 intro g w ρ a hR
 have hargs:c.args= #[x,y]:=by apply Array.ext';simpa using ha
 have hargT:c.argTypes= #[t,tx]:=by apply Array.ext';simpa using hA
 refine⟨a.eval y,ze hR hy,fun v w' hv=> ?_⟩
 simp[execOp,hop,resolve,hc,hargs,hargT,invoke,builtin,hv]
theorem U9 (n:Nat):Builtin.zeroCells #[Value.int .u8 0] n=Array.replicate n (Value.int .u8 0):=by
 apply Array.ext
 ·simp[Builtin.zeroCells]
 ·intro i h1 h2
  simp[Builtin.zeroCells,Nat.mod_one]
theorem Qx (t tn ts ty e:TypeId) (ik:IntKind) (i:TypeInfo) (z:Value) (ht:P.underlying t=some (.slice e)) (hn:P.underlying tn=some (.int ik)) (hs:P.underlying ts=some .string) (hi:P.info? e=some i) (hz:i.zero=some z) (hzc:z.cells= #[.int .u8 0]) (h1:i.size=1) (hb:i.bytes=1)
  (k:IntKind) (n:Nat) (b:ByteArray) (hbz:b.data=Array.replicate n 0) (h0:0<n) (hn2:n≤1048576) (base:Option Addr) (sLen sCap:Nat) (v:Value) (w':World)
  (hok:(Builtin.append_ #[t,ts] ty #[.slice base sLen sCap,.string b]).run P w= .ok v w'):(Builtin.append_ #[t,tn] ty #[.slice base sLen sCap,.int k n]).run P w= .ok v w':=by
 have hw:IntKind.i64.wrap (n:Int)=n:=by
  unfold IntKind.wrap
  simp[IntKind.signed,IntKind.bits]
  omega
 have hbs:b.size=n:=by show b.data.size=n;rw[hbz];simp
 have hx:(Array.map (fun c:UInt8=>Value.int .u8 c.toNat) b.data).extract 0 n=Array.replicate n (Value.int .u8 0):=by rw[hbz];simp
 have hx2:List.take n (List.map (fun c:UInt8=>Value.int .u8 c.toNat) b.data.toList)=List.replicate n (Value.int .u8 0):=by rw[hbz];simp
 have g1: ¬((n:Int)<0):=by omega
 have g2: ¬((n:Int)*1>2^48):=by omega
 have g3: ¬((281474976710656:Int)<n):=by omega
 have g4: ¬(n=0):=by omega
 rw[←hok]
 by_cases hc:sLen+n≤sCap
 ·simp[Builtin.append_,run_underlying ht,run_underlying hn,run_underlying hs,sizeOf,typeInfo,hi,h1,hb,asInt,asIntOf,hw,g1,g2,g3,g4,Builtin.lenOf,hbs,hc,Builtin.firstCells,hx,hx2,zeroValue,hz,hzc,U9]
 ·by_cases hf:281474976710656<Builtin.nextslicecap (sLen+n) sCap
  ·exfalso
   simp[Builtin.append_,run_underlying ht,run_underlying hs,sizeOf,typeInfo,hi,h1,hb,Builtin.lenOf,hbs,hc,hf] at hok
   generalize (Builtin.mayShare 1 sLen n base (Value.string b)).run P w=rr at hok
   cases rr<;>simp[Result.andThen] at hok
  ·have g5: ¬((9223372036854775807:Int)<(sLen:Int)+n):=by
    have:=le_nextslicecap (need:=sLen+n) (old:=sCap) (by omega)
    omega
   simp[Builtin.append_,run_underlying ht,run_underlying hn,run_underlying hs,sizeOf,typeInfo,hi,h1,hb,asInt,asIntOf,hw,g1,g2,g3,g4,g5,hf,Builtin.lenOf,hbs,hc,Builtin.firstCells,hx,hx2,zeroValue,hz,hzc,U9]
theorem U2 (hR:Reps g w ρ a.tmps.toList) (I:Inv g w m) {t tx e:TypeId} {ti:TypeInfo} {x:Operand} {x' y':Opd} (hA:AppRun P o t tx x y') (hx:compOpd x=some x')
  (ht:P.underlying t=some (.slice e)) (hk:(∃e',P.underlying tx=some (.slice e'))∨P.underlying tx=some .string) (hi:P.info? e=some ti) (h0:0<ti.size) (hb0:0<ti.bytes) (hz:(ti.zero.map fun z=>z.cells.size)=some ti.size)
  (he:evApp m ti.size ti.bytes (x'.ev ρ) (y'.ev ρ)=some (r,m')):Yields P a o g w r m':=by
 have h1:=ze hR hx
 obtain⟨v2,h2,run⟩:=hA g w ρ a hR
 obtain⟨zv,hzv,hzs⟩: ∃z,ti.zero=some z∧z.cells.size=ti.size:=by
  simp_all
 unfold evApp at he
 split at he
 ·cases he
 ·
  rename_i hel
  obtain⟨news,hs,hn1,hn2⟩:=z0m I h0 hk hel h2
  have hnews:news=[]:=w2a (by have:=hs.newsLen;simpa using this)
  subst hnews
  split at he
  ·rename_i e1
   injection he with he
   injection he with e2 e3
   subst e2;subst e3
   rw[e1] at h1
   refine .pure I (v:= .slice none 0 0) (run _ _ ?_) .nils
   rw[h1.inv_nils]
   exact tE t tx o.type e ti ht hi none 0 0 _ hs (w08 _)
  ·rename_i s' tk xs e1
   split at he
   ·rename_i hss
    have hs':s'=ti.size:=eq_of_beq hss
    injection he with he
    injection he with e2 e3
    subst e2;subst e3
    rw[e1,hs'] at h1
    rcases h1.inv_list with⟨b,oo,cap,hv,hsz,hcap,htk,f,hcc,hr⟩|⟨rfl,b,cap,hv,htk⟩
    ·rw[hv] at h1
     refine .pure I (run _ _ ?_) h1
     rw[hv]
     exact tE t tx o.type e ti ht hi _ _ _ _ hs hcap
    ·rw[hv] at h1
     refine .pure I (run _ _ ?_) h1
     rw[hv]
     exact tE t tx o.type e ti ht hi _ _ _ _ hs (w0e _)
   ·cases he
  ·rename_i s' l k st len e1
   split at he
   ·rename_i hss
    have hs':s'=ti.size:=eq_of_beq hss
    injection he with he
    injection he with e2 e3
    subst e2;subst e3
    rw[e1,hs'] at h1
    obtain⟨b,oo,en,cap,hb,hv,hcap,_⟩:=h1.inv_grow
    refine .pure I (run _ _ ?_) h1
    rw[hv]
    exact tE t tx o.type e ti ht hi _ _ _ _ hs hcap
   ·cases he
  ·cases he
 ·rename_i y0 ys hel
  obtain⟨news,hs,hn1,hn2⟩:=z0m I h0 hk hel h2
  have hnl:=hs.newsLen
  have grow: ∀(xs:List AV) (base:Option Addr) (cap:Nat) (olds:List Value) (live:List (List Nat)),live.flatten.Sublist m.live.flatten→a.eval x= .slice base xs.length cap→(xs.length+(y0::ys).length)*ti.bytes≤140737488355328→
    cap<xs.length+(y0::ys).length→(Builtin.firstCells ti.size xs.length (.slice base xs.length cap)).run P w.drew= .ok olds.toArray w.drew→(∀(i:Nat) (x:AV),xs[i]? =some x→x.cells.length=ti.size)→
    Reps g w (xs.flatMap AV.cells) olds→(∀u∈olds,u.oneCell'=true)→Yields P a o g w (.list ti.size (.id m.nx) (xs++(y0::ys))) {m with nx:=m.nx+1,live:=addTok m.nx live}:=by
   intro xs base cap olds live hlive hv hbytes hlt hold hxs hrx hone
   have hfit:=growslice_fits (need:=xs.length+(y0::ys).length) (old:=cap) (bytes:=ti.bytes) hlt hbytes
   have h63:((xs.length+(y0::ys).length:Nat):Int)≤9223372036854775807:=by
    have:(xs.length+(y0::ys).length)*1≤(xs.length+(y0::ys).length)*ti.bytes:=Nat.mul_le_mul_left _ hb0
    omega
   have hrun:=run_append_grow_src (P:=P) w t tx o.type e ti zv ht hi hzv base xs.length cap olds hold v2 (y0::ys).length news hs hlt h63 hfit
   have hall: ∀(i:Nat) (x:AV),(xs++(y0::ys))[i]? =some x→x.cells.length=ti.size:=by
    intro i x hx
    by_cases hi:i<xs.length
    ·rw[w1b hi] at hx;exact hxs i x hx
    ·rw[w39 (by omega)] at hx;exact hn2 _ x hx
   have holdl:olds.length=xs.length*ti.size:=by rw[hrx.1,vR xs hxs]
   obtain⟨g1,q1,q2,q3⟩:=Reps.live_grow (g':=g) I olds news zv e ti.size (xs.length+(y0::ys).length) (grownCap w (xs.length+(y0::ys).length) cap e) h0 hzs
    (by rw[w15,holdl,hnl,w40]) (grownCap_ge _ _ _ _) live hlive (xs++(y0::ys)) hall (by simp) (by rw[List.flatMap_append];exact hrx.append hn1)
    (fun u hu=>by rcases w0b.1 hu with hu|hu;·exact hone u hu
                  ·exact hs.one u hu) rfl
   exact⟨g1,_,_,.inl (run _ _ (by rw[hv];exact hrun)),q1,q2,q3⟩
  split at he
  ·rename_i e1
   split at he
   ·rename_i hbytes
    injection he with he
    injection he with e2 e3
    subst e2;subst e3
    rw[e1] at h1
    exact grow [] none 0 [] m.live (List.Sublist.refl _) h1.inv_nils (by simpa using hbytes) (by simp) (run_firstCells_none w.drew _ _ _ _) (fun i x hx=>by simp at hx) (Reps.nil g w) (fun u hu=>by cases hu)
   ·cases he
  ·rename_i s' tk xs e1
   split at he
   ·rename_i hcond
    simp only[w09,beq_iff_eq,decide_eq_true_eq] at hcond
    obtain⟨hs',hbytes⟩:=hcond
    rw[e1,hs'] at h1
    have located: ∀live:List (List Nat),live.flatten.Sublist m.live.flatten→ ∀(b oo cap:Nat) (f:Nat→Nat→Value),a.eval x= .slice (some ⟨b,oo,none⟩) xs.length cap→(∀(i:Nat) (x:AV),xs[i]? =some x→x.cells.length=ti.size)→
      (∀(i j:Nat) (x c:AV),xs[i]? =some x→x.cells[j]? =some c→w.cell? ⟨b,oo+(i*ti.size+j),none⟩=some (f i j)∧g.own b (oo+(i*ti.size+j))=none∧(f i j).oneCell'=true)→
      (∀(i j:Nat) (x c:AV),xs[i]? =some x→x.cells[j]? =some c→Rep g w c (f i j))→cap<xs.length+(y0::ys).length→
      Yields P a o g w (.list ti.size (.id m.nx) (xs++(y0::ys))) {m with nx:=m.nx+1,live:=addTok m.nx live}:=by
     intro live hlive b oo cap f hv hsz hcc hr hlt
     obtain⟨us,k1,k2,k3⟩:=qz h0 hsz hcc hr
     exact grow xs _ cap us live hlive hv hbytes hlt (run_firstCells_some w.drew ti.size xs.length _ _ _ us k2 (fun j u hj=>by rw[yF];exact(k3 j u hj).1)) hsz k1
      (fun u hu=>by obtain⟨j,hj⟩:=List.getElem?_of_mem hu;exact(k3 j u hj).2.2)
    split at he
    ·cases he
    ·
     injection he with he
     injection he with e2 e3
     subst e2;subst e3
     rcases h1.inv_list with⟨b,oo,cap,hv,hsz,hcap,htk,f,hcc,hr⟩|⟨rfl,b,cap,hv,htk⟩
     ·have hcl:cap=xs.length:=by
       have:xs.length*ti.size=cap*ti.size:=by simp only[TokAt] at htk;omega
       exact(Nat.eq_of_mul_eq_mul_right h0 this).symm
      exact located m.live (List.Sublist.refl _) b oo cap f hv hsz hcc hr (by simp;omega)
     ·have hc0:cap=0:=by rcases htk with h|⟨_,h⟩;·cases h
                         ·exact h
      subst hc0
      refine grow [] b 0 [] m.live (List.Sublist.refl _) hv (by simpa using hbytes) (by simp) ?_ (fun i x hx=>by simp at hx) (Reps.nil g w) (fun u hu=>by cases hu)
      exact run_firstCells_some w.drew _ 0 b 0 0 [] (by simp) (fun j u hj=>by simp at hj)
    ·rename_i tid
     split at he
     ·rename_i hlive
      injection he with he
      injection he with e2 e3
      subst e2;subst e3
      have hmem:tid∈m.live.flatten:=Q2 hlive
      have hfilt:=qN tid m.live
      rcases h1.inv_list with⟨b,oo,cap,hv,hsz,hcap,htk,f,hcc,hr⟩|⟨rfl,b,cap,hv,htk⟩
      ·by_cases hroom:xs.length+(y0::ys).length≤cap
       ·
        simp only[TokAt] at htk
        obtain⟨us,k1,k2,k3⟩:=qz h0 hsz hcc hr
        have hnl':news.length=(y0::ys).length*ti.size:=hnl
        have hle:oo+xs.length*ti.size+news.length≤oo+cap*ti.size:=by
         have:=Nat.mul_le_mul_right ti.size hroom
         rw[w40] at this
         omega
        have hpos:0<news.length:=by rw[hnl'];exact Nat.mul_pos (by simp) h0
        obtain⟨g1,q0,q1,q2,q3,q4⟩:=I.fill (us:=news) hmem htk hle hpos
        have hrun:=run_append_room_src (P:=P) w t tx o.type e ti ht hi b oo xs.length cap v2 (y0::ys).length news hs hroom (fun j hj=>(q0 (oo+xs.length*ti.size+j) (by omega) (by omega)).2.2)
         (fun j hj=>(q0 (oo+xs.length*ti.size+j) (by omega) (by omega)).2.1)
        refine⟨g1,_,_,.inl (run _ _ (by rw[hv];exact hrun)),q1,q2,?_⟩
        have hall: ∀(i:Nat) (x:AV),(xs++(y0::ys))[i]? =some x→x.cells.length=ti.size:=by
         intro i x hx
         by_cases hi:i<xs.length
         ·rw[w1b hi] at hx;exact hsz i x hx
         ·rw[w39 (by omega)] at hx;exact hn2 _ x hx
        have hlen2:(xs++(y0::ys)).length=xs.length+(y0::ys).length:=by simp
        have:=Rep.rowsC (g:=g1) (w:=w.setCells b (oo+xs.length*ti.size) news) h0 hall (us:=us++news) (by rw[List.flatMap_append];exact(k1.mono q1).append (hn1.mono q1)) b oo cap (.id m.nx) (by omega)
         (by simp only[TokAt];rw[q3,hlen2,w40,hnl',w48]) (fun j u hj=>by
          by_cases hju:j<us.length
          ·rw[w1b hju] at hj
           obtain⟨c1,c2,c3⟩:=k3 j u hj
           obtain⟨d1,d2⟩:=q1.seal_ _ _ _ c1 c2
           exact⟨d1,d2,c3⟩
          ·rw[w39 (by omega)] at hj
           have hjn:j-us.length<news.length:=(w13.1 hj).1
           have hc1:=World.cell?_setCells_in b news (oo+xs.length*ti.size) w (fun i hi=>(q0 (oo+xs.length*ti.size+i) (by omega) (by omega)).2.2) (j-us.length) hjn
           rw[show oo+xs.length*ti.size+(j-us.length)=oo+j by omega] at hc1
           rw[w1d hjn] at hj
           refine⟨by rw[hc1];exact hj,q4 (oo+j) (by omega) (by omega),hs.one u (by rw[←Option.some.inj hj];exact w04 hjn)⟩)
        rw[hlen2] at this
        exact this
       ·exact located _ hfilt b oo cap f hv hsz hcc hr (by omega)
      ·rcases htk with h|⟨h,_⟩<;>cases h
     ·cases he
   ·cases he
  ·rename_i s' l k st len e1
   split at he
   ·rename_i cs hblk
    split at he
    ·rename_i hcond
     simp only[w09,beq_iff_eq,decide_eq_true_eq] at hcond
     obtain⟨⟨⟨hs',hbytes⟩,hlen⟩,_⟩:=hcond
     injection he with he
     injection he with e2 e3
     subst e2;subst e3
     rw[e1,hs'] at h1
     obtain⟨b,oo,en,cap,hbt,hv,hcap,hce⟩:=h1.inv_grow
     have hcells:((y0::ys).flatMap AV.cells).length=(y0::ys).length*ti.size:=vR _ hn2
     have hnl':news.length=(y0::ys).length*ti.size:=hnl
     have hpos:0<news.length:=by rw[hnl'];exact Nat.mul_pos (by simp) h0
     by_cases hroom:len+(y0::ys).length≤cap
     ·have hle:len*ti.size+news.length≤cap*ti.size:=by
       have:=Nat.mul_le_mul_right ti.size hroom
       rw[w40] at this
       omega
      obtain⟨g1,r1,r2,r3⟩:=I.restamp (n:=len*ti.size) (r:=news.length) hblk hbt hlen (by omega)
      have hb2:({m.put l k m.nx (cs.take (len*ti.size)++List.replicate news.length .undef) with nx:=m.nx+1}:Mem).blk l k m.nx=some (cs.take (len*ti.size)++List.replicate news.length .undef):=z9M hblk _ _ _
      obtain⟨b2,o2,en2,q1,q2,q3,q4⟩:=r2.store (off:=len*ti.size) (new:=(y0::ys).flatMap AV.cells) hb2 r3 (by simp only[w15,w20,List.length_replicate];omega) (by omega) (hn1.mono r1)
      rw[r3] at q1
      obtain⟨rfl,rfl,rfl⟩:b=b2∧oo=o2∧en=en2:=by simpa using q1
      have hrun:=run_append_room_src (P:=P) w t tx o.type e ti ht hi b oo len cap v2 (y0::ys).length news hs hroom (fun j hj=>(q2 (oo+len*ti.size+j) (by omega) (by omega)).2.2)
       (fun j hj=>(q2 (oo+len*ti.size+j) (by omega) (by omega)).2.1)
      refine⟨g1,_,_,.inl (run _ _ (by rw[hv];exact hrun)),r1.trans q3,?_,.grow _ _ _ _ _ _ _ _ _ (q3.bt _ _ r3) (by omega) hce⟩
      have hspl:splice (cs.take (len*ti.size)++List.replicate news.length .undef) (len*ti.size) ((y0::ys).flatMap AV.cells)=cs.take (len*ti.size)++(y0::ys).flatMap AV.cells:=by
       have ht:(cs.take (len*ti.size)).length=len*ti.size:=by rw[w20];omega
       unfold splice
       rw[List.take_append_of_le_length (by omega),w35 (Nat.le_of_eq ht),List.drop_eq_nil_of_le (by simp only[w15,List.length_replicate];omega),w21]
      rw[hspl,z9K] at q4
      exact q4
     ·obtain⟨b1,o1,en1,a1,a2,a3,vs,a4,a5⟩:=I.cells (y9 hblk) hbt
      simp only at a1 a2 a3 a4 a5
      rw[hbt] at a1
      obtain⟨rfl,rfl,rfl⟩:b=b1∧oo=o1∧en=en1:=by simpa using a1
      have holdl:(vs.take (len*ti.size)).length=len*ti.size:=by rw[w20,a4.1];omega
      have hold:=run_firstCells_some (P:=P) w.drew ti.size len ⟨b,oo,none⟩ len cap (vs.take (len*ti.size)) holdl (fun j u hj=>by
       rw[w3f] at hj
       split at hj
       ·rw[yF];exact a5 j u hj
       ·cases hj)
      have hlt:cap<len+(y0::ys).length:=by omega
      have hfit:=growslice_fits (need:=len+(y0::ys).length) (old:=cap) (bytes:=ti.bytes) hlt hbytes
      have h63:((len+(y0::ys).length:Nat):Int)≤9223372036854775807:=by
       have:(len+(y0::ys).length)*1≤(len+(y0::ys).length)*ti.bytes:=Nat.mul_le_mul_left _ hb0
       omega
      have hrun:=run_append_grow_src (P:=P) w t tx o.type e ti zv ht hi hzv (some ⟨b,oo,none⟩) len cap _ hold v2 (y0::ys).length news hs hlt h63 hfit
      have hge:=grownCap_ge w (len+(y0::ys).length) cap e
      have harr:(vs.take (len*ti.size)++news).toArray++Builtin.zeroCells zv.cells (grownCap w (len+(y0::ys).length) cap e-(len+(y0::ys).length))=((vs.take (len*ti.size)++news)++(Builtin.zeroCells zv.cells (grownCap w (len+(y0::ys).length) cap e-(len+(y0::ys).length))).toList).toArray:=by
       apply Array.ext';simp
      rw[harr] at hrun
      obtain⟨g1,r1,r2,r3⟩:=I.drew.moved hblk (cs.take (len*ti.size)++(y0::ys).flatMap AV.cells) (vs.take (len*ti.size)++news) (Builtin.zeroCells zv.cells (grownCap w (len+(y0::ys).length) cap e-(len+(y0::ys).length))).toList e
       (((a4.take _).append hn1).mono (Ext.drew g w))
      refine⟨g1,_,_,.inl (run _ _ (by rw[hv];exact hrun)),(Ext.drew g w).trans r1,r2,.grow _ _ _ _ _ _ _ _ _ r3 hge ?_⟩
      have hzl: ∀N,(Builtin.zeroCells zv.cells N).toList.length=N*ti.size:=fun N=>by rw[Array.length_toList (xs:=Builtin.zeroCells zv.cells N),size_zeroCells,hzs]
      rw[w15,w15,holdl,hnl',hzl,←w40,←w40,w1f]
      congr 1;omega
    ·cases he
   ·cases he
  ·cases he
end
theorem UD (l k:List (Nat×Nat)) (xs ys:List AV):eqAt (l++k) xs ys=match eqAt l xs ys with|some true=>eqAt k xs ys|r=>r:=by
 induction l with
 |nil=>simp[eqAt]
 |cons o r ih=>
  simp only[w26,eqAt]
  grind
theorem UC (l:List (Nat×Nat)) (off n:Nat) (xs ys:List AV) (h: ∀o∈l,o.1<n):eqAt (shiftL off l) xs ys=eqAt l ((xs.drop off).take n) ((ys.drop off).take n):=by
 induction l with
 |nil=>simp[eqAt,shiftL]
 |cons o r ih=>
  have ho:o.1<n:=h o w24
  have e: ∀zs:List AV,zs.getD (o.1+off) .undef=((zs.drop off).take n).getD o.1 .undef:=fun zs=>by
   grind
  have ih:=ih (fun q hq=>h q (w2c _ hq))
  simp only[shiftL] at ih
  simp only[shiftL,w30,eqAt,e,ih]
def eqElems (d:Nat) (e:TypeId) (n:Nat) (xs ys:Array Value):Nat→Nat→Sem Bool
 |_,0=>pure true
 |i,k+1=>do
  let a←part e xs (i*n)
  let b←part e ys (i*n)
  let r←Op.equalIn d e a b
  if(!r)=true then pure false else eqElems d e n xs ys (i+1) k
theorem WK {P:Program} (w:World) (d:Nat) (t:TypeId) (len:Nat) (e:TypeId) (n:Nat) (xs ys:Array Value) (ht:P.underlying t=some (.array len e)) (hn:sizeOfT P e=some n):
  (Op.equalIn (d+1) t (.agg xs) (.agg ys)).run P w=(eqElems d e n xs ys 0 len).run P w:=by
 simp only[Op.equalIn,Sem.run_bind,run_underlying ht,Result.andThen_ok,tD hn w,Std.Legacy.Range.forIn_eq_forIn_range',Std.Legacy.Range.size,Nat.sub_zero,Nat.add_one_sub_one,Nat.div_one]
 clear ht
 generalize 0=i
 induction len generalizing w i with
 |zero=>simp[eqElems]
 |succ k ih=>
  simp only[List.range'_succ,List.forIn_cons,eqElems,Sem.run_bind,Sem.run_ite]
  generalize (part e xs (i*n)).run P w=r1
  cases r1 with
  |ok a w1=>
   simp only[Result.andThen_ok]
   generalize (part e ys (i*n)).run P w1=r2
   cases r2 with
   |ok b w2=>
    simp only[Result.andThen_ok]
    generalize (Op.equalIn d e a b).run P w2=r3
    cases r3 with
    |ok r w3=>
     simp_all
    |halt x w3=>simp[Result.andThen]
   |halt x w2=>simp[Result.andThen]
  |halt x w1=>simp[Result.andThen]
section
variable {P : Program} {g : G} {w : World}
def RepT (P:Program) (g:G) (w:World) (t:TypeId) (xs:List AV) (u:Value):Prop:=
 match aggT P t with
 |some true=> ∃us:List Value,u= .agg us.toArray∧Reps g w xs us∧sizeOfT P t=some xs.length
 |_=>Rep g w (xs.getD 0 .undef) u
theorem z1G {cs:List AV} {us:List Value} (h:Reps g w cs us) {t:TypeId} {b:Bool} {n off:Nat} (hb:aggT P t=some b) (hn:sizeOfT P t=some n) (hlen:off+n≤cs.length) (h0:0<n) (h1:b=true∨n=1):
  ∃u,(part t us.toArray off).run P w= .ok u w∧RepT P g w t ((cs.drop off).take n) u:=by
 have hl:n≤(cs.drop off).length:=by simp;omega
 unfold RepT
 rw[hb]
 cases b with
 |true=>
  refine⟨.agg (us.toArray.extract off (off+n)),by simp[part,Ze hb w,tD hn w],(us.drop off).take n,?_,(h.drop off).take n,?_⟩
  ·simp
  ·grind
 |false=>
  have hn1:n=1:=by rcases h1 with h1|h1;(cases h1);exact h1
  subst hn1
  have hx:(cs.drop off)[0]? =some ((cs.drop off)[0]'(by omega)):=w1d _
  obtain⟨u,h3,h4⟩:=(h.drop off).get hx
  rw[List.getElem?_drop] at h3
  refine⟨u,?_,?_⟩
  ·simp only[part,Sem.run_bind,Ze hb w,Result.andThen_ok,w25,if_false]
   simp_all
  ·grind
theorem RepT.agg {t:TypeId} {xs:List AV} {u:Value} (h:RepT P g w t xs u) (ha:aggT P t=some true): ∃us:List Value,u= .agg us.toArray∧Reps g w xs us∧sizeOfT P t=some xs.length:=by
 unfold RepT at h;rw[ha] at h;exact h
theorem RepT.leaf {t:TypeId} {xs:List AV} {u:Value} (h:RepT P g w t xs u) (ha:aggT P t=some false):Rep g w (xs.getD 0 .undef) u:=by
 unfold RepT at h;rw[ha] at h;exact h
theorem z8M (q:Nat): ∀(d:Nat) (t:TypeId) (l:List (Nat×Nat)),eqLeaves P d t=some l→ ∀(xs ys:List AV) (u v:Value) (b:Bool),RepT P g w t xs u→RepT P g w t ys v→eqAt l xs ys=some b→(Op.equalIn (d+q) t u v).run P w= .ok b w:=by
 intro d
 induction d with
 |zero=>intro t l h;simp[eqLeaves] at h
 |succ d ih=>
  intro t l h xs ys u v b hu hv he
  unfold eqLeaves at h
  rw[show d+1+q=(d+q)+1 by omega]
  have one: ∀{k:Nat} {c:AV} {c':AV},eqAt [(0,k)] xs ys=some b→eqCell k (xs.getD 0 .undef) (ys.getD 0 .undef)=some b:=by
   intro k c c' h
   simp only[eqAt] at h
   grind
  split at h
  ·rename_i ht
   injection h with h;subst h
   have ha:aggT P t=some false:=by unfold aggT;rw[ht]
   have he:=one (c:= .undef) (c':= .undef) he
   have h1:=hu.leaf ha
   have h2:=hv.leaf ha
   generalize xs.getD 0 .undef=c1 at h1 he
   generalize ys.getD 0 .undef=c2 at h2 he
   cases c1<;>cases c2<;>simp only[eqCell,reduceCtorEq,Option.some.injEq] at he
   subst he
   rw[h1.inv_bool,h2.inv_bool]
   simp[Op.equalIn,run_underlying ht]
  ·rename_i kk ht
   injection h with h;subst h
   have ha:aggT P t=some false:=by unfold aggT;rw[ht]
   have he:=one (c:= .undef) (c':= .undef) he
   have h1:=hu.leaf ha
   have h2:=hv.leaf ha
   generalize xs.getD 0 .undef=c1 at h1 he
   generalize ys.getD 0 .undef=c2 at h2 he
   cases c1<;>cases c2<;>simp only[eqCell,reduceCtorEq] at he
   rename_i k p k' q
   split at he
   ·rename_i hk
    injection he with he;subst he
    have:k=k':=by cases k<;>cases k'<;>simp[sameKind] at hk<;>rfl
    subst this
    rw[h1.inv_int,h2.inv_int]
    simp[Op.equalIn,run_underlying ht]
   ·cases he
  ·rename_i ht
   injection h with h;subst h
   have ha:aggT P t=some false:=by unfold aggT;rw[ht]
   have he:=one (c:= .undef) (c':= .undef) he
   have h1:=hu.leaf ha
   have h2:=hv.leaf ha
   generalize xs.getD 0 .undef=c1 at h1 he
   generalize ys.getD 0 .undef=c2 at h2 he
   cases c1<;>cases c2<;>simp only[eqCell,reduceCtorEq,Option.some.injEq] at he
   subst he
   cases h1 with
   |str _ p hp=>cases h2 with
    |str _ q hq=>
     subst hp;subst hq
     have e: ∀z:ByteArray,z.toList=z.data.toList:=ByteArray.toList_eq
     rw[run_equalIn_string _ _ _ _ _ ht,e,e]
  ·rename_i fs ht
   split at h
   ·cases h
   ·rename_i hst
    simp only[w05] at h
    obtain⟨N,hN,h⟩:=h
    have ha:aggT P t=some true:=by unfold aggT;rw[ht]
    obtain⟨us,rfl,hus,hsu⟩:=hu.agg ha
    obtain⟨vs,rfl,hvs,hsv⟩:=hv.agg ha
    rw[hN] at hsu hsv
    injection hsu with hsu
    injection hsv with hsv
    have hf:P.fieldsOf t=fs:=by simp[Program.fieldsOf,ht]
    rw[run_equalIn_struct w (d+q) t us.toArray vs.toArray (by rw[hf];exact ht) (by simpa using hst),hf]
    generalize fs.toList=fl at h
    clear ht hf
    induction fl generalizing l with
    |nil=>
     simp only[eqFieldsP] at h
     injection h with h;subst h
     simp only[eqAt] at he
     injection he with he;subst he
     simp[Op.eqFields]
    |cons f r ihf=>
     simp only[eqFieldsP] at h
     split at h
     ·rename_i hname
      split at h
      ·rename_i lf n bb k e1 e2 e3 e4
       split at h
       ·rename_i hc
        obtain⟨c1,c2,c3,c4⟩:=hc
        injection h with h;subst h
        rw[UD,UC lf f.offset n xs ys c1] at he
        obtain⟨u1,p1,p2⟩:=z1G (P:=P) (off:=f.offset) hus e3 e2 (by omega) c3 c4
        obtain⟨v1,p3,p4⟩:=z1G (P:=P) (off:=f.offset) hvs e3 e2 (by omega) c3 c4
        simp only[Op.eqFields,if_pos hname,Sem.run_bind,p1,p3,Result.andThen_ok]
        split at he
        ·rename_i h1
         rw[ih f.type lf e1 _ _ _ _ _ p2 p4 h1]
         simp only[Result.andThen_ok,Bool.not_true,w25,if_false]
         exact ihf k he e4
        ·rename_i h1
         rw[ih f.type lf e1 _ _ _ _ _ p2 p4 he]
         cases b with
         |true=>exact absurd he h1
         |false=>simp
       ·cases h
      ·cases h
     ·rename_i hname
      simp only[Op.eqFields,if_neg hname]
      exact ihf l he h
  ·rename_i len e ht
   split at h
   ·rename_i lf n bb N e1 e2 e3 hN
    split at h
    ·rename_i hc
     obtain⟨c1,c2,c3,c4⟩:=hc
     injection h with h;subst h
     have ha:aggT P t=some true:=by unfold aggT;rw[ht]
     obtain⟨us,rfl,hus,hsu⟩:=hu.agg ha
     obtain⟨vs,rfl,hvs,hsv⟩:=hv.agg ha
     rw[hN] at hsu hsv
     injection hsu with hsu
     injection hsv with hsv
     rw[WK w (d+q) t len e n us.toArray vs.toArray ht e2]
     have key: ∀k i,(i+k)*n≤N→eqAt (arrLeaves lf n i k) xs ys=some b→(eqElems (d+q) e n us.toArray vs.toArray i k).run P w= .ok b w:=by
      intro k
      induction k with
      |zero=>
       intro i _ he
       simp only[arrLeaves,eqAt] at he
       injection he with he;subst he
       simp[eqElems]
      |succ k ihk=>
       intro i hi he
       have hle:i*n+n≤N:=by
        have:(i+1)*n≤(i+(k+1))*n:=Nat.mul_le_mul_right n (by omega)
        rw[w40,Nat.one_mul] at this
        omega
       simp only[arrLeaves] at he
       rw[UD,UC lf (i*n) n xs ys c1] at he
       obtain⟨u1,p1,p2⟩:=z1G (P:=P) (off:=i*n) hus e3 e2 (by omega) c3 c4
       obtain⟨v1,p3,p4⟩:=z1G (P:=P) (off:=i*n) hvs e3 e2 (by omega) c3 c4
       simp only[eqElems,Sem.run_bind,p1,p3,Result.andThen_ok]
       split at he
       ·rename_i h1
        rw[ih e lf e1 _ _ _ _ _ p2 p4 h1]
        simp only[Result.andThen_ok,Bool.not_true,w25,if_false]
        exact ihk (i+1) (by rw[show i+1+k=i+(k+1) by omega];exact hi) he
       ·rename_i h1
        rw[ih e lf e1 _ _ _ _ _ p2 p4 he]
        cases b with
        |true=>exact absurd he h1
        |false=>simp
     exact key len 0 (by rw[w1f];exact c2) he
    ·cases h
   ·cases h
  ·cases h
variable {ρ : List AV} {a : Act} {m : Mem} {o : Oper} {r : AV}
theorem z2E {op:BinOp} {neg:Bool} (h:negOf op=some neg):op=(if neg then .neq else .eql):=by
 cases op<;>simp[negOf] at h<;>subst h<;>rfl
theorem z0Q (hR:Reps g w ρ a.tmps.toList) (I:Inv g w m) {op:BinOp} {neg:Bool} {xt yt:TypeId} {x y:Operand} {x' y':Opd} {ls:List (Nat×Nat)} {xs ys:List AV} {b:Bool} (hop:o.op= .binOp op xt x y yt) (hn:negOf op=some neg)
  (ha:aggT P xt=some true) (hl:eqLeaves P 20 xt=some ls) (hx:compOpd x=some x') (hy:compOpd y=some y') (hg:P.eqGuardType P.depth xt=false) (e1:x'.ev ρ= .agg xs) (e2:y'.ev ρ= .agg ys)
  (hsx:sizeOfT P xt=some xs.length) (hsy:sizeOfT P xt=some ys.length) (he:eqAt ls xs ys=some b):Yields P a o g w (.bool (if neg then !b else b)) m:=by
 have h1:=ze hR hx
 have h2:=ze hR hy
 rw[e1] at h1;rw[e2] at h2
 obtain⟨us,i1,k1⟩:=Reps.of_agg h1
 obtain⟨vs,i2,k2⟩:=Reps.of_agg h2
 have heq:(Op.equal xt (.agg us.toArray) (.agg vs.toArray)).run P w= .ok b w:=by
  rw[Op.equal,show Op.maxDepth=20+9980 from rfl]
  refine z8M (g:=g) 9980 20 xt ls hl xs ys _ _ b ?_ ?_ he
  ·unfold RepT;rw[ha];exact⟨us,rfl,k1,hsx⟩
  ·unfold RepT;rw[ha];exact⟨vs,rfl,k2,hsy⟩
 have hgd:=run_eqGuard_agg (P:=P) w op xt x y us.toArray vs.toArray hg
 refine .pure I (v:= .bool (if neg then !b else b)) ?_ (.bool _)
 have:=z2E hn
 subst this
 cases neg<;>simp[execOp,hop,i1,i2,hgd,binOp,heq]<;>simp_all [execOp,binOp]
def NilV (kd:Nat) (v:Value) (b:Bool):Prop:=
 (kd=0∧ ∃ad n c,v= .slice ad n c∧b=ad.isNone)∨(kd=1∧ ∃ad,v= .pointer ad∧b=ad.isNone)∨(kd=2∧((v= .nilFunc∧b=true)∨(∃f p q,v= .func f p q∧b=false)))
theorem z2D {x:AV} {v:Value} {b:Bool} {kd:Nat} (h:Rep g w x v) (he:nilOf kd x=some b):NilV kd v b:=by
 unfold nilOf at he
 split at he<;>simp only[Option.some.injEq,reduceCtorEq] at he<;>subst he<;>cases h
 ·exact .inl ⟨rfl,_,_,_,rfl,rfl⟩
 ·exact .inl ⟨rfl,_,_,_,rfl,rfl⟩
 ·exact .inl ⟨rfl,_,_,_,rfl,rfl⟩
 ·exact .inl ⟨rfl,_,_,_,rfl,rfl⟩
 ·exact .inl ⟨rfl,_,_,_,rfl,rfl⟩
 ·exact .inl ⟨rfl,_,_,_,rfl,rfl⟩
 ·exact .inr (.inl ⟨rfl,_,rfl,rfl⟩)
 ·exact .inr (.inl ⟨rfl,_,rfl,rfl⟩)
 ·exact .inr (.inl ⟨rfl,_,rfl,rfl⟩)
 ·exact .inr (.inr ⟨rfl,.inl ⟨rfl,rfl⟩⟩)
 ·exact .inr (.inr ⟨rfl,.inr ⟨_,_,_,rfl,rfl⟩⟩)
theorem z3h (op:BinOp) (t:TypeId) (x y:Operand) (u v:Value) (h:(∃a n c,u= .slice a n c)∨(∃a,u= .pointer a)∨u= .nilFunc∨(∃f p q,u= .func f p q)) (w:World):(eqGuard op t x y u v).run P w= .ok () w:=by
 rcases h with⟨a,n,c,rfl⟩|⟨a,rfl⟩|rfl|⟨f,p,q,rfl⟩<;>(unfold eqGuard;cases op<;>simp)
theorem Uq (hR:Reps g w ρ a.tmps.toList) (I:Inv g w m) {op:BinOp} {neg:Bool} {xt yt:TypeId} {x y z:Operand} {z':Opd} {kd:Nat} {b:Bool} (hop:o.op= .binOp op xt x y yt) (hn:negOf op=some neg)
  (hz:(z=x∧nilKind P xt y=some kd)∨(z=y∧nilKind P xt x=some kd)) (hx:compOpd z=some z') (he:nilOf kd (z'.ev ρ)=some b):Yields P a o g w (.bool (if neg then !b else b)) m:=by
 have h1:=z2D (ze hR hx) he
 refine .pure I (v:= .bool (if neg then !b else b)) ?_ (.bool _)
 have hgd:((∃a' n c,a.eval x= .slice a' n c)∨(∃a',a.eval x= .pointer a')∨a.eval x= .nilFunc∨(∃f p q,a.eval x= .func f p q))∧(Op.equal xt (a.eval x) (a.eval y)).run P w= .ok b w:=by
  rw[Op.equal,show Op.maxDepth=9999+1 from rfl,Op.equalIn]
  rcases hz with⟨rfl,hk⟩|⟨rfl,hk⟩
  ·unfold nilKind at hk
   split at hk
   all_goals first|(cases hk;done)|skip
   all_goals (split at hk<;>first|(cases hk;done)|skip)
   all_goals (injection hk with hk;subst hk;rename_i ht)
   all_goals (rcases h1 with⟨e,ad,n,c,hv,rfl⟩|⟨e,ad,hv,rfl⟩|⟨e,⟨hv,rfl⟩|⟨f,p,q,hv,rfl⟩⟩<;>first|(cases e;done)|skip)
   all_goals (rw[hv];refine⟨by simp,?_⟩;simp[Act.eval,run_underlying ht])
   all_goals (cases ad<;>simp)
  ·unfold nilKind at hk
   split at hk
   all_goals first|(cases hk;done)|skip
   all_goals (split at hk<;>first|(cases hk;done)|skip)
   all_goals (injection hk with hk;subst hk;rename_i ht)
   all_goals (rcases h1 with⟨e,ad,n,c,hv,rfl⟩|⟨e,ad,hv,rfl⟩|⟨e,⟨hv,rfl⟩|⟨f,p,q,hv,rfl⟩⟩<;>first|(cases e;done)|skip)
   all_goals (rw[hv];refine⟨by simp[Act.eval],?_⟩;simp[Act.eval,run_underlying ht])
 obtain⟨hs,h3⟩:=hgd
 have hg:=z3h (P:=P) op xt x y (a.eval x) (a.eval y) hs w
 have:=z2E hn
 subst this
 have hb:(binOp (if neg then .neq else .eql) xt (a.eval x) (a.eval y)).run P w= .ok (.bool (if neg then !b else b)) w:=by
  rcases hs with⟨p,n,c,hs⟩|⟨p,hs⟩|hs|⟨f,p,q,hs⟩<;>rw[hs] at h3⊢ <;>cases neg<;>simp[binOp,h3]
 simp[execOp,hop,hg,hb]
theorem z1M (hR:Reps g w ρ a.tmps.toList) (I:Inv g w m) {x:Operand} {x':Opd} {v:AV} (hop:o.op= .nilCheck x) (hx:compOpd x=some x') (he:nilChkV (x'.ev ρ)=some v):Yields P a o g w v m:=by
 have h1:=ze hR hx
 revert he h1
 generalize x'.ev ρ=y
 generalize hu:a.eval x=u
 intro he h1
 have hy:y=v:=by
  unfold nilChkV at he
  grind
 subst hy
 refine .pure I (v:=u) ?_ h1
 cases h1<;>first|(cases he;done)|simp[execOp,hop,hu]
end
end Go.Vs
end
