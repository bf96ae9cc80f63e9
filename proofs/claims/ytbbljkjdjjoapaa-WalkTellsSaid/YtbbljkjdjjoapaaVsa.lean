/-
  Vsa: abstract values, abstract memory, and an evaluator of compiled code over them. No program in sight.
-/
import Derived.Calls
namespace Go.Vs

/-- What is known of the spare places behind a list: nothing; that there are none; that token t stands for them. -/
inductive Tok where
  | none
  | full
  | id (t : Nat)

/-- Abstract values. 'list': a slice whose cells are not written any more, told by its elements (s: cells of an element). 'arr': a slice over an abstract block. 'ro': an address of cells that are not written any more. 'undef': whatever value. -/
inductive AV where
  | bool (b : Bool)
  | int (k : IntKind) (n : Int)
  | str (s : List UInt8)
  | nils
  | list (s : Nat) (tk : Tok) (xs : List AV)
  | arr (l k st off len : Nat)
  | ptr (l k st off : Nat)
  | ro (cs : List AV)
  | nilptr
  | mapR (l k st : Nat)
  | fn (f : Fn) (first caps : List AV)
  | nilfn
  | agg (cs : List AV)
  | tup (vs : List AV)
  | undef

/-- The cells of a value. -/
def AV.cells : AV → List AV
  | .agg cs => cs
  | .undef => []
  | v => [v]

/-- May it lie in one cell that is stored to? -/
def AV.one : AV → Bool
  | .agg _ | .tup _ | .undef => false
  | _ => true

def allOne : List AV → Bool
  | [] => true
  | c :: r => c.one && allOne r

structure Blk where
  st : Nat
  cs : List AV

/-- 'stk': the blocks of the frames below, the lowest first; 'cur': those of the running frame; 'nx': the next stamp; 'live': tokens that stand, for each frame, that of the running frame first; 'floor': frames below it are not written. -/
structure Mem where
  stk : List (List Blk)
  cur : List Blk
  nx : Nat
  live : List (List Nat)
  floor : Nat

def hasTok (t : Nat) : List (List Nat) → Bool
  | [] => false
  | h :: r => h.contains t || hasTok t r
def dropTok (t : Nat) : List (List Nat) → List (List Nat)
  | [] => []
  | h :: r => if h.contains t then h.erase t :: r else h :: dropTok t r
def addTok (t : Nat) : List (List Nat) → List (List Nat)
  | [] => [[t]]
  | h :: r => (t :: h) :: r
def pushToks : List Nat → List (List Nat) → List (List Nat)
  | [], l => l
  | t :: ts, [] => [t :: ts]
  | t :: ts, h :: r => (t :: ts ++ h) :: r

/-- A token comes to the j-th list. -/
def addAt (t : Nat) : Nat → List (List Nat) → List (List Nat)
  | 0, l => addTok t l
  | _ + 1, [] => []
  | j + 1, h :: r => h :: addAt t j r
/-- A token of the running frame goes over to the frame j below it. -/
def sink1 (j t : Nat) : List (List Nat) → List (List Nat)
  | [] => []
  | h :: r => if h.contains t then h.erase t :: addAt t (j - 1) r else h :: r
def sink (j : Nat) : List Nat → List (List Nat) → List (List Nat)
  | [], l => l
  | t :: ts, l => sink j ts (sink1 j t l)

def Mem.row (m : Mem) (l : Nat) : List Blk := if l == m.stk.length then m.cur else m.stk.getD l []

def Mem.blk (m : Mem) (l k st : Nat) : Option (List AV) :=
  match (m.row l)[k]? with
  | some b => if b.st == st then some b.cs else none
  | none => none

def Mem.put (m : Mem) (l k st : Nat) (cs : List AV) : Mem :=
  if l == m.stk.length then { m with cur := m.cur.set k ⟨st, cs⟩ } else { m with stk := m.stk.modify l fun f => f.set k ⟨st, cs⟩ }

/-- Put by a store of a value with some tokens: they go over to the block's frame. -/
def Mem.putS (m : Mem) (l k st : Nat) (cs : List AV) (ts : List Nat) : Mem :=
  if l == m.stk.length then { m with cur := m.cur.set k ⟨st, cs⟩ } else { m with stk := m.stk.modify l fun f => f.set k ⟨st, cs⟩, live := sink (m.stk.length - l) ts m.live }

/-- A new block, and its address. -/
def Mem.new (m : Mem) (cs : List AV) : AV × Mem :=
  (.ptr m.stk.length m.cur.length m.nx 0, { m with cur := m.cur ++ [⟨m.nx, cs⟩], nx := m.nx + 1 })

inductive Opd where
  | t (i : Nat)
  | c (v : AV)

/-- Further operations. 'bad': whatever is not covered. -/
inductive XOp where
  | bad
  | eqA (neg : Bool) (n : Nat) (ls : List (Nat × Nat)) (x y : Opd)
  | isNil (neg : Bool) (kd : Nat) (x : Opd)
  | wload (agg : Bool) (n : Nat) (a : Opd)
  | nilChk (x : Opd)
  | mkmap
  | mget (kk : Bool) (z : AV) (x k : Opd)
  | mput (kk : Bool) (x k v : Opd)
  | copy (s : Nat) (d x : Opd)

inductive AOp where
  | ext (e : XOp)
  | mov (x : Opd)
  | pick (c a b : Opd)
  | alloc (z : List AV)
  | box (n : Nat) (x : Opd)
  | build (z : List AV) (ps : List (Nat × Nat × Opd))
  | lit (s : Nat) (ps : List Opd)
  | load (agg : Bool) (n : Nat) (a : Opd)
  | store (n : Nat) (a x : Opd)
  | bin (op : BinOp) (x y : Opd)
  | beq (neg : Bool) (x y : Opd)
  | un (op : UnOp) (x : Opd)
  | conv (k : IntKind) (x : Opd)
  | convS (x : Opd)
  | toStr (x : Opd)
  | toBytes (x : Opd)
  | mkfn (f : Fn) (first caps : List Opd)
  | faddr (off : Nat) (a : Opd)
  | field (agg : Bool) (n off : Nat) (x : Opd)
  | iaddr (s : Nat) (x i : Opd)
  | iaddrA (len s : Nat) (x i : Opd)
  | indexS (x i : Opd)
  | indexA (len s : Nat) (agg : Bool) (x i : Opd)
  | len (x : Opd)
  | lenS (x : Opd)
  | app (s bytes : Nat) (x y : Opd)
  | mx (x y : Opd)
  | mn (x y : Opd)
  | slice (s : Nat) (x : Opd) (lo hi mx : Option Opd)
  | sliceA (len s : Nat) (x : Opd) (lo hi : Option Opd)
  | sliceS (x : Opd) (lo hi : Option Opd)
  | make (s bytes : Nat) (z : List AV) (n c : Opd)
  | extract (x : Opd) (i : Nat)
  | call (f : Opd) (args : List Opd)

/-- 'flt': in a region that draws its order: it is looked at as of the region's start. -/
structure AOper where
  dst : Option Nat
  op : AOp
  guard : Option (Nat × Bool)
  flt : Bool

inductive ACode where
  | bad
  | skip
  | ret
  | exit (id : Nat)
  | ops (l : List AOper)
  | draw (l : List AOper)
  | seq (a b : ACode)
  | cond (c : Opd) (a b : ACode)
  | block (id : Nat) (a : ACode)
  | loop (live : List Nat) (a : ACode)

inductive ARes where
  | tmp (t : Nat)
  | cell (a : Nat) (agg : Bool) (n : Nat)

structure AFunc where
  ntmps : Nat
  res : List ARes
  body : ACode

def Opd.ev (ρ : List AV) : Opd → AV
  | .t i => ρ.getD i (.tup [])
  | .c v => v

def takeV (agg : Bool) (n : Nat) (cs : List AV) : Option AV :=
  if n ≤ cs.length then (match agg with | true => some (.agg (cs.take n)) | false => cs.head?) else none

/-- The cells from an address on. -/
def Mem.at (m : Mem) : AV → Option (List AV)
  | .ptr l k st off => (m.blk l k st).map fun cs => cs.drop off
  | .ro cs => some cs
  | _ => none

def splice (cs : List AV) (off : Nat) (new : List AV) : List AV := cs.take off ++ new ++ cs.drop (off + new.length)

mutual
/-- Tokens of a value's own lists. -/
def AV.toks : AV → List Nat
  | .list _ (.id t) _ => [t]
  | .agg cs => toksAll cs
  | .tup vs => toksAll vs
  | _ => []
def toksAll : List AV → List Nat
  | [] => []
  | c :: r => c.toks ++ toksAll r
end

def evStore (m : Mem) (n : Nat) (a x : AV) : Option (AV × Mem) :=
  match a with
  | .ptr l k st off =>
    match m.blk l k st with
    | some cs =>
      if x.cells.length == n && allOne x.cells && decide (off + n ≤ cs.length) && (decide (m.floor ≤ l) || l == m.stk.length) then some (.tup [], m.putS l k st (splice cs off x.cells) x.toks) else none
    | none => none
  | _ => none

def evBits (op : BinOp) (k : IntKind) (x y : Int) : Option AV :=
  let a := BitVec.ofInt k.bits x
  let b := BitVec.ofInt k.bits y
  match op with
  | .and => some (.int k (k.wrap (a &&& b).toNat))
  | .or => some (.int k (k.wrap (a ||| b).toNat))
  | .xor => some (.int k (k.wrap (a ^^^ b).toNat))
  | .andNot => some (.int k (k.wrap (a &&& ~~~b).toNat))
  | _ => none

def evInt (op : BinOp) (k : IntKind) (x y : Int) : Option AV :=
  match op with
  | .add => some (.int k (k.wrap (x + y)))
  | .sub => some (.int k (k.wrap (x - y)))
  | .mul => some (.int k (k.wrap (x * y)))
  | .quo => if y = 0 then none else some (.int k (k.wrap (x.tdiv y)))
  | .rem => if y = 0 then none else some (.int k (x.tmod y))
  | .and | .or | .xor | .andNot => evBits op k x y
  | .eql => some (.bool (x == y))
  | .neq => some (.bool (x != y))
  | .lss => some (.bool (decide (x < y)))
  | .leq => some (.bool (decide (x ≤ y)))
  | .gtr => some (.bool (decide (x > y)))
  | .geq => some (.bool (decide (x ≥ y)))
  | _ => none

def evShift (op : BinOp) (k : IntKind) (x y : Int) : Option AV :=
  if y < 0 then none else
  match op with
  | .shl => some (.int k (k.wrap (x * 2 ^ (min y.toNat k.bits))))
  | .shr => some (.int k (x.fdiv (2 ^ (min y.toNat k.bits))))
  | _ => none

def evStr (op : BinOp) (x y : List UInt8) : Option AV :=
  match op with
  | .add => if ((x.length + y.length : Nat) : Int) > 9223372036854775807 then none else some (.str (x ++ y))
  | .eql => some (.bool (x == y))
  | .neq => some (.bool (!(x == y)))
  | .lss => some (.bool (Op.bytesLess x y))
  | .leq => some (.bool (Op.bytesLess x y || x == y))
  | .gtr => some (.bool (!(Op.bytesLess x y || x == y)))
  | .geq => some (.bool (!Op.bytesLess x y))
  | _ => none

def sameKind : IntKind → IntKind → Bool
  | .i8, .i8 | .i16, .i16 | .i32, .i32 | .i64, .i64 | .u8, .u8 | .u16, .u16 | .u32, .u32 | .u64, .u64 => true
  | _, _ => false

def evBin (op : BinOp) (x y : AV) : Option AV :=
  match x, y with
  | .int k a, .int k' b =>
    match op with
    | .shl => evShift .shl k a b
    | .shr => evShift .shr k a b
    | _ => if sameKind k k' then evInt op k a b else none
  | .str a, .str b => evStr op a b
  | _, _ => none

def evUn (op : UnOp) (x : AV) : Option AV :=
  match op, x with
  | .neg, .int k n => some (.int k (k.wrap (0 - n)))
  | .xor, .int k n => evBits .xor k (if k.signed then -1 else k.max) n
  | .not, .bool b => some (.bool !b)
  | _, _ => none

def byteOf : AV → Option UInt8
  | .int .u8 n => some (UInt8.ofNat n.toNat)
  | _ => none

def bytesOf : List AV → Option (List UInt8)
  | [] => some []
  | x :: r => match byteOf x, bytesOf r with
    | some b, some l => some (b :: l)
    | _, _ => none

def ofBytes (l : List UInt8) : List AV := l.map fun b => .int .u8 b.toNat

/-- An index, if it is one of so many. -/
def idx (i : AV) (n : Nat) : Option Nat :=
  match i with
  | .int _ j => if 0 ≤ j ∧ j < n then some j.toNat else none
  | _ => none

def evIaddr (s : Nat) (x i : AV) : Option AV :=
  match x with
  | .list s' _ xs => if s' == s then (idx i xs.length).bind fun j => (xs[j]?).map fun e => .ro e.cells else none
  | .arr l k st off len => (idx i len).map fun j => .ptr l k st (off + j * s)
  | _ => none

def evIaddrA (len s : Nat) (x i : AV) : Option AV :=
  match x with
  | .ptr l k st off => (idx i len).map fun j => .ptr l k st (off + j * s)
  | .ro cs => (idx i len).map fun j => .ro (cs.drop (j * s))
  | _ => none

def Tok.drop : Tok → Tok
  | .full => .full
  | _ => .none

/-- A bound of a slice expression. -/
def bound (x : Option AV) (most dflt : Nat) : Option Nat :=
  match x with
  | none => some dflt
  | some (.int _ j) => if 0 ≤ j ∧ j ≤ most then some j.toNat else none
  | some _ => none

def evSlice (s : Nat) (x : AV) (lo hi mx : Option AV) : Option AV :=
  match x with
  | .nils => match mx with
    | none => (bound hi 0 0).bind fun h => (bound lo h 0).map fun _ => .nils
    | some _ => none
  | .list s' tk xs =>
    if s' == s then
      match mx with
      | none => (bound hi xs.length xs.length).bind fun h => (bound lo h 0).map fun l =>
          .list s (if h == xs.length && (l == 0 || decide (l < xs.length)) then tk else .none) ((xs.take h).drop l)
      | some m => (bound (some m) xs.length 0).bind fun m' => (bound hi m' 0).bind fun h => (bound lo h 0).map fun l =>
          .list s (if h == m' then .full else .none) ((xs.take h).drop l)
    else none
  | .arr l k st off len =>
    match mx with
    | none => (bound hi len len).bind fun h => (bound lo h 0).map fun i => .arr l k st (off + i * s) (h - i)
    | some m => (bound (some m) len 0).bind fun m' => (bound hi m' 0).bind fun h => (bound lo h 0).map fun i => .arr l k st (off + i * s) (h - i)
  | _ => none

def evSliceS (x : AV) (lo hi : Option AV) : Option AV :=
  match x with
  | .str b => (bound hi b.length b.length).bind fun h => (bound lo h 0).map fun l => .str ((b.take h).drop l)
  | _ => none

def evSliceA (n s : Nat) (x : AV) (lo hi : Option AV) : Option AV :=
  match x with
  | .ptr l k st off => (bound hi n n).bind fun h => (bound lo h 0).map fun i => .arr l k st (off + i * s) (h - i)
  | _ => none

/-- The elements that an append takes. -/
def elemsOf (s : Nat) : AV → Option (List AV)
  | .nils => some []
  | .list s' _ xs => if s' == s then some xs else none
  | .str b => if s == 1 then some (ofBytes b) else none
  | _ => none

/-- The first n elements of s cells. -/
def chunk (s : Nat) : Nat → List AV → List AV
  | 0, _ => []
  | n + 1, cs => (if s == 1 then cs.headD .undef else .agg (cs.take s)) :: chunk s n (cs.drop s)

/-- The same, of a slice over a block too. -/
def Mem.elems (m : Mem) (s : Nat) : AV → Option (List AV)
  | .arr l k st off len => match m.blk l k st with
    | some cs => if decide (off + len * s ≤ cs.length) && allOne ((cs.drop off).take (len * s)) then some (chunk s len (cs.drop off)) else none
    | none => none
  | y => elemsOf s y

def evApp (m : Mem) (s bytes : Nat) (x y : AV) : Option (AV × Mem) :=
  match m.elems s y with
  | none => none
  | some [] => match x with
    | .nils => some (.nils, m)
    | .list s' tk xs => if s' == s then some (.list s tk xs, m) else none
    | _ => none
  | some (e :: r) =>
    match x with
    | .nils =>
      if (e :: r).length * bytes ≤ 140737488355328 then some (.list s (.id m.nx) (e :: r), { m with nx := m.nx + 1, live := addTok m.nx m.live }) else none
    | .list s' tk xs =>
      if s' == s && decide ((xs.length + (e :: r).length) * bytes ≤ 140737488355328) then
        match tk with
        | .none => none
        | .full => some (.list s (.id m.nx) (xs ++ (e :: r)), { m with nx := m.nx + 1, live := addTok m.nx m.live })
        | .id t => if hasTok t m.live then some (.list s (.id m.nx) (xs ++ (e :: r)), { m with nx := m.nx + 1, live := addTok m.nx (dropTok t m.live) }) else none
      else none
    | _ => none

def evMax (x y : AV) : Option AV :=
  match x, y with
  | .int k a, .int _ b => some (.int k (if b > a then b else a))
  | _, _ => none
def evMin (x y : AV) : Option AV :=
  match x, y with
  | .int k a, .int _ b => some (.int k (if b < a then b else a))
  | _, _ => none

def flatRep (z : List AV) : Nat → List AV
  | 0 => []
  | n + 1 => z ++ flatRep z n

def evMake (m : Mem) (s bytes : Nat) (z : List AV) (n c : AV) : Option (AV × Mem) :=
  match n, c with
  | .int _ a, .int _ b =>
    if a = b ∧ 0 ≤ a ∧ bytes * a ≤ 281474976710656 ∧ a ≤ 9223372036854775807 ∧ z.length = s then
      some (.arr m.stk.length m.cur.length m.nx 0 a.toNat, { m with cur := m.cur ++ [⟨m.nx, flatRep z a.toNat⟩], nx := m.nx + 1 })
    else none
  | _, _ => none

def evBuild (z : List AV) (ρ : List AV) : List (Nat × Nat × Opd) → Option (List AV)
  | [] => some z
  | (off, n, x) :: r =>
    if (x.ev ρ).cells.length == n && decide (off + n ≤ z.length) then evBuild (splice z off (x.ev ρ).cells) ρ r else none

def evFaddr (off : Nat) : AV → Option AV
  | .ptr l k st o => some (.ptr l k st (o + off))
  | .ro cs => some (.ro (cs.drop off))
  | _ => none

def evToStr (m : Mem) : AV → Option AV
  | .nils => some (.str [])
  | .list 1 _ xs => (bytesOf xs).map fun b => .str b
  | .arr l k st off len => match m.blk l k st with
    | some cs => if decide (off + len ≤ cs.length) then (bytesOf ((cs.drop off).take len)).map fun b => .str b else none
    | none => none
  | _ => none

def evLen : AV → Option AV
  | .nils => some (.int .i64 0)
  | .list _ _ xs => some (.int .i64 xs.length)
  | .arr _ _ _ _ n => some (.int .i64 n)
  | _ => none

def allLen (s : Nat) : List AV → Bool
  | [] => true
  | x :: r => x.cells.length == s && allOne x.cells && allLen s r

abbrev Oracle := Nat → List AV → Mem → Option (AV × Mem)

def evCall (O : Oracle) (m : Mem) (f : AV) (args : List AV) : Option (AV × Mem) :=
  match f with
  | .fn (.func g) first caps => O g (first ++ args ++ caps) m
  | _ => none

/-- Cells of one plain kind: 0: bool; 1: int; 2: string. -/
def eqCell : Nat → AV → AV → Option Bool
  | 0, .bool a, .bool b => some (a == b)
  | 1, .int k a, .int k' b => if sameKind k k' then some (a == b) else none
  | 2, .str a, .str b => some (a == b)
  | _, _, _ => none

/-- The cells at these places, one after the other, until two differ. -/
def eqAt : List (Nat × Nat) → List AV → List AV → Option Bool
  | [], _, _ => some true
  | o :: r, xs, ys => match eqCell o.2 (xs.getD o.1 .undef) (ys.getD o.1 .undef) with
    | some true => eqAt r xs ys
    | some false => some false
    | none => none

/-- 0: a slice; 1: a pointer; 2: a function. -/
def nilOf : Nat → AV → Option Bool
  | 0, .nils => some true
  | 0, .list _ _ _ | 0, .arr _ _ _ _ _ => some false
  | 1, .nilptr => some true
  | 1, .ptr _ _ _ _ | 1, .ro _ => some false
  | 2, .nilfn => some true
  | 2, .fn _ _ _ => some false
  | _, _ => none

/-- A pointer that is none of nil. -/
def nilChkV : AV → Option AV
  | .ptr l k st off => some (.ptr l k st off)
  | .ro cs => some (.ro cs)
  | _ => none

/-- Are two keys alike? kk: strings; else integers. -/
def keyEq : Bool → AV → AV → Option Bool
  | true, .str a, .str b => some (a == b)
  | false, .int k a, .int k' b => if sameKind k k' then some (a == b) else none
  | _, _, _ => none

def isKey : Bool → AV → Bool
  | true, .str _ => true
  | false, .int _ _ => true
  | _, _ => false

def isPlain : AV → Bool
  | .bool _ | .int _ _ | .str _ => true
  | _ => false

/-- A map's block holds one cell: its entries, in the order in which they came in. -/
def mapGet (kk : Bool) (z k : AV) : List AV → Option AV
  | [] => some z
  | .tup [k', v] :: r => match keyEq kk k k' with
    | some true => some v
    | some false => mapGet kk z k r
    | none => none
  | _ => none

def mapPut (kk : Bool) (k v : AV) : List AV → Option (List AV)
  | [] => some [.tup [k, v]]
  | .tup [k', v'] :: r => match keyEq kk k k' with
    | some true => some (.tup [k, v] :: r)
    | some false => (mapPut kk k v r).map fun l => .tup [k', v'] :: l
    | none => none
  | _ => none

def Mem.ents (m : Mem) : AV → Option (List AV)
  | .mapR l k st => match m.blk l k st with
    | some [.tup ps] => some ps
    | _ => none
  | _ => none

def evMput (m : Mem) (kk : Bool) (x k v : AV) : Option (AV × Mem) :=
  match x with
  | .mapR l i st => match m.ents (.mapR l i st) with
    | some ps => if isKey kk k && isPlain v && (decide (m.floor ≤ l) || l == m.stk.length) then (mapPut kk k v ps).map fun ps' => (.tup [], m.put l i st [.tup ps']) else none
    | none => none
  | _ => none

def evCopy (m : Mem) (s : Nat) (d x : AV) : Option (AV × Mem) :=
  match d, x with
  | _, .str _ => none
  | .arr l k st off len, x =>
    match m.elems s x, m.blk l k st with
    | some ys, some cs =>
      if decide (off + len * s ≤ cs.length) && allOne ((ys.take len).flatMap AV.cells) && (decide (m.floor ≤ l) || l == m.stk.length) then
        if min ys.length len = 0 then some (.int .i64 0, m) else some (.int .i64 ((min ys.length len : Nat) : Int), m.put l k st (splice cs off ((ys.take len).flatMap AV.cells)))
      else none
    | _, _ => none
  | _, _ => none

def evX (ρ : List AV) (m : Mem) : XOp → Option (AV × Mem)
  | .bad => none
  | .eqA neg n ls x y => match x.ev ρ, y.ev ρ with
    | .agg xs, .agg ys => if xs.length == n && ys.length == n then (eqAt ls xs ys).map fun b => (.bool (if neg then !b else b), m) else none
    | _, _ => none
  | .isNil neg kd x => (nilOf kd (x.ev ρ)).map fun b => (.bool (if neg then !b else b), m)
  | .wload agg n a => (m.at (a.ev ρ)).bind fun cs => (takeV agg n cs).map fun v => (v, m)
  | .nilChk x => (nilChkV (x.ev ρ)).map fun v => (v, m)
  | .mkmap => some (.mapR m.stk.length m.cur.length m.nx, { m with cur := m.cur ++ [⟨m.nx, [.tup []]⟩], nx := m.nx + 1 })
  | .mget kk z x k => match m.ents (x.ev ρ) with
    | some ps => if isKey kk (k.ev ρ) then (mapGet kk z (k.ev ρ) ps).map fun v => (v, m) else none
    | none => none
  | .mput kk x k v => evMput m kk (x.ev ρ) (k.ev ρ) (v.ev ρ)
  | .copy s d x => evCopy m s (d.ev ρ) (x.ev ρ)

def evOp (O : Oracle) (ρ : List AV) (m : Mem) : AOp → Option (AV × Mem)
  | .ext e => evX ρ m e
  | .mov x => some (x.ev ρ, m)
  | .pick c a b => match c.ev ρ with | .bool t => some (if t then a.ev ρ else b.ev ρ, m) | _ => none
  | .alloc z => some (m.new z)
  | .box n x => if (x.ev ρ).cells.length == n then some (m.new (x.ev ρ).cells) else none
  | .build z ps => (evBuild z ρ ps).map fun cs => (.agg cs, m)
  | .lit s ps => if allLen s (ps.map fun p => p.ev ρ) then some (.list s .full (ps.map fun p => p.ev ρ), m) else none
  | .load agg n a => (m.at (a.ev ρ)).bind fun cs => (takeV agg n cs).map fun v => (v, m)
  | .store n a x => evStore m n (a.ev ρ) (x.ev ρ)
  | .bin op x y => (evBin op (x.ev ρ) (y.ev ρ)).map fun v => (v, m)
  | .beq neg x y => match x.ev ρ, y.ev ρ with | .bool a, .bool b => some (.bool (if neg then !(a == b) else (a == b)), m) | _, _ => none
  | .un op x => (evUn op (x.ev ρ)).map fun v => (v, m)
  | .conv k x => match x.ev ρ with | .int _ n => some (.int k (k.wrap n), m) | _ => none
  | .convS x => match x.ev ρ with | .str b => some (.str b, m) | _ => none
  | .toStr x => (evToStr m (x.ev ρ)).map fun v => (v, m)
  | .toBytes x => match x.ev ρ with
    | .str b => if b.length ≤ 140737488355328 then some (.list 1 (.id m.nx) (ofBytes b), { m with nx := m.nx + 1, live := addTok m.nx m.live }) else none
    | _ => none
  | .mkfn f first caps => some (.fn f (first.map fun p => p.ev ρ) (caps.map fun p => p.ev ρ), m)
  | .faddr off a => (evFaddr off (a.ev ρ)).map fun v => (v, m)
  | .field agg n off x => match x.ev ρ with | .agg cs => (takeV agg n (cs.drop off)).map fun v => (v, m) | _ => none
  | .iaddr s x i => (evIaddr s (x.ev ρ) (i.ev ρ)).map fun v => (v, m)
  | .iaddrA n s x i => (evIaddrA n s (x.ev ρ) (i.ev ρ)).map fun v => (v, m)
  | .indexS x i => match x.ev ρ with | .str b => (idx (i.ev ρ) b.length).bind fun j => (b[j]?).map fun c => (.int .u8 c.toNat, m) | _ => none
  | .indexA n s agg x i => match x.ev ρ with | .agg cs => (idx (i.ev ρ) n).bind fun j => (takeV agg s (cs.drop (j * s))).map fun v => (v, m) | _ => none
  | .len x => (evLen (x.ev ρ)).map fun v => (v, m)
  | .lenS x => match x.ev ρ with
    | .str b => some (.int .i64 b.length, m)
    | _ => none
  | .app s bytes x y => evApp m s bytes (x.ev ρ) (y.ev ρ)
  | .mx x y => (evMax (x.ev ρ) (y.ev ρ)).map fun v => (v, m)
  | .mn x y => (evMin (x.ev ρ) (y.ev ρ)).map fun v => (v, m)
  | .slice s x lo hi mx => (evSlice s (x.ev ρ) (lo.map fun p => p.ev ρ) (hi.map fun p => p.ev ρ) (mx.map fun p => p.ev ρ)).map fun v => (v, m)
  | .sliceA n s x lo hi => (evSliceA n s (x.ev ρ) (lo.map fun p => p.ev ρ) (hi.map fun p => p.ev ρ)).map fun v => (v, m)
  | .sliceS x lo hi => (evSliceS (x.ev ρ) (lo.map fun p => p.ev ρ) (hi.map fun p => p.ev ρ)).map fun v => (v, m)
  | .make s bytes z n c => evMake m s bytes z (n.ev ρ) (c.ev ρ)
  | .extract x i => match x.ev ρ with | .tup vs => (vs[i]?).map fun v => (v, m) | _ => none
  | .call f args => evCall O m (f.ev ρ) (args.map fun p => p.ev ρ)

structure St where
  ρ : List AV
  m : Mem

def setDst (ρ : List AV) : Option Nat → AV → List AV
  | some d, v => ρ.set d v
  | none, _ => ρ

/-- Is an operation carried out? -/
def wanted (ρ : List AV) : Option (Nat × Bool) → Option Bool
  | none => some true
  | some (g, want) => match ρ.getD g .undef with
    | .bool b => some (b == want)
    | .tup [] => some false
    | _ => none

def evOper (O : Oracle) (o : AOper) (σ : St) : Option St :=
  match wanted σ.ρ o.guard with
  | some true => (evOp O σ.ρ σ.m o.op).map fun r => ⟨setDst σ.ρ o.dst r.1, r.2⟩
  | some false => some ⟨setDst σ.ρ o.dst (.tup []), σ.m⟩
  | none => none

def evOps (O : Oracle) : List AOper → St → Option St
  | [], σ => some σ
  | o :: r, σ => (evOper O o σ).bind (evOps O r)

/-- What an operation looks at. -/
def XOp.reads : XOp → List Opd
  | .bad => []
  | .eqA _ _ _ x y => [x, y]
  | .isNil _ _ x => [x]
  | .wload _ _ x => [x]
  | .nilChk x => [x]
  | .mkmap => []
  | .mget _ _ x k => [x, k]
  | .mput _ x k v => [x, k, v]
  | .copy _ d x => [d, x]

def XOp.kind : XOp → Nat
  | .bad | .eqA _ _ _ _ _ | .isNil _ _ _ | .nilChk _ => 0
  | .wload _ _ _ => 1
  | .mkmap | .mget _ _ _ _ | .mput _ _ _ _ | .copy _ _ _ => 2

def XOp.isPut : XOp → Bool
  | .mput _ _ _ _ | .copy _ _ _ => true
  | _ => false

/-- What an operation looks at. -/
def AOp.reads : AOp → List Opd
  | .ext e => e.reads
  | .mov x | .un _ x | .conv _ x | .convS x | .toStr x | .toBytes x | .faddr _ x | .field _ _ _ x | .box _ x | .load _ _ x | .len x | .lenS x | .extract x _ => [x]
  | .pick c a b => [c, a, b]
  | .alloc _ => []
  | .build _ ps => ps.map fun p => p.2.2
  | .lit _ ps => ps
  | .store _ a x => [a, x]
  | .bin _ x y | .beq _ x y | .iaddr _ x y | .iaddrA _ _ x y | .indexS x y | .indexA _ _ _ x y | .app _ _ x y | .mx x y | .mn x y | .make _ _ _ x y => [x, y]
  | .mkfn _ first caps => first ++ caps
  | .slice _ x lo hi top => x :: (lo.toList ++ hi.toList ++ top.toList)
  | .sliceA _ _ x lo hi | .sliceS x lo hi => x :: (lo.toList ++ hi.toList)
  | .call f args => f :: args

def AOp.isStore : AOp → Bool
  | .store _ _ _ => true
  | .ext e => e.isPut
  | _ => false

/-- 0: it only reckons; 1: it reads memory; 2: it may change it. -/
def AOp.kind : AOp → Nat
  | .ext e => e.kind
  | .alloc _ | .box _ _ | .store _ _ _ | .toBytes _ | .app _ _ _ _ | .make _ _ _ _ _ | .call _ _ => 2
  | .load _ _ _ | .toStr _ => 1
  | _ => 0

/-- It makes a block, and that is all. -/
def kindA : AOp → Bool
  | .alloc _ | .box _ _ | .make _ _ _ _ _ => true
  | _ => false

/-- It may change what is there. -/
def mvB (op : AOp) : Bool := decide (op.kind = 2) && !kindA op

/-- Places that are looked at while others are stored to: frame, block, first cell, how many, what they hold. -/
abbrev Watch := List (Nat × Nat × Nat × Nat × List AV)

/-- The same cells. -/
noncomputable def same (a b : List AV) : Bool := @decide (a = b) (Classical.propDecidable _)
theorem same_self (a : List AV) : same a a = true := @decide_eq_true (a = a) (Classical.propDecidable _) rfl
theorem same_eq {a b : List AV} (h : same a b = true) : a = b := @of_decide_eq_true (a = b) (Classical.propDecidable _) h

def watch (ρ : List AV) (m0 : Mem) (op : AOp) (ws : Watch) : Watch :=
  match op with
  | .ext (.wload _ n a) => match a.ev ρ with
    | .ptr l k st off => (l, k, off, n, ((m0.at (.ptr l k st off)).getD []).take n) :: ws
    | _ => ws
  | _ => ws

noncomputable def clear (ρ : List AV) (op : AOp) (ws : Watch) : Bool :=
  match op with
  | .store n a x => match a.ev ρ with
    | .ptr l k _ off => ws.all fun w => w.1 != l || w.2.1 != k || decide (off + n ≤ w.2.2.1) || decide (w.2.2.1 + w.2.2.2.1 ≤ off) || (decide (off = w.2.2.1) && same (x.ev ρ).cells w.2.2.2.2)
    | _ => true
  | .ext (.mput _ _ _ _) | .ext (.copy _ _ _) => false
  | _ => true

def watchG (ρ : List AV) (m0 : Mem) (o : AOper) (ws : Watch) : Watch :=
  match wanted ρ o.guard with
  | some true => watch ρ m0 o.op ws
  | _ => ws

noncomputable def clearG (ρ : List AV) (o : AOper) (ws : Watch) : Bool :=
  match wanted ρ o.guard with
  | some true => clear ρ o.op ws
  | _ => true

/-- In a region that draws its order: what floats is looked at in the memory of the region's start; only its own stores write to what was there. -/
noncomputable def evDraw (O : Oracle) (m0 : Mem) : Watch → List AOper → St → Option St
  | _, [], σ => some σ
  | ws, o :: r, σ =>
    match o.flt with
    | true => match evOper O o ⟨σ.ρ, m0⟩ with
      | some σ' => evDraw O m0 (watchG σ.ρ m0 o ws) r ⟨σ'.ρ, σ.m⟩
      | none => none
    | false =>
      match o.op.isStore with
      | true =>
        match clearG σ.ρ o ws with
        | true => match evOper O o ⟨σ.ρ, { σ.m with floor := m0.floor }⟩ with
          | some σ' => evDraw O m0 ws r ⟨σ'.ρ, { σ'.m with floor := σ.m.floor }⟩
          | none => none
        | false => none
      | false => match evOper O o σ with
        | some σ' => evDraw O m0 ws r σ'
        | none => none

inductive Out where
  | normal
  | exit (id : Nat)
  | ret

def clean (live : List Nat) (ρ : List AV) : List AV := ρ.zipIdx.map fun p => if live.contains p.2 then p.1 else .undef

/-- The blocks made within a loop go at its head; all stay where 999999 is among what lives. -/
def cut (live : List Nat) (nb : Nat) (cur : List Blk) : List Blk := if live.contains 999999 then cur else cur.take nb
def heads (live : List Nat) (nb : Nat) (σ : St) : St := ⟨clean live σ.ρ, { σ.m with cur := cut live nb σ.m.cur }⟩

def iter (f : St → Option (Out × St)) (h : St → St) : Nat → St → Option (Out × St)
  | 0, _ => none
  | n + 1, σ => match f (h σ) with
    | some (.normal, σ') => iter f h n σ'
    | r => r

noncomputable def ev (O : Oracle) (n : Nat) : ACode → St → Option (Out × St)
  | .bad, _ => none
  | .skip, σ => some (.normal, σ)
  | .ret, σ => some (.ret, σ)
  | .exit id, σ => some (.exit id, σ)
  | .ops l, σ => (evOps O l σ).map fun σ' => (.normal, σ')
  | .draw l, σ => (evDraw O σ.m [] l ⟨σ.ρ, { σ.m with floor := max σ.m.floor (σ.m.stk.length + 1) }⟩).map fun σ' => (.normal, ⟨σ'.ρ, { σ'.m with floor := σ.m.floor }⟩)
  | .seq a b, σ => match ev O n a σ with
    | some (.normal, σ') => ev O n b σ'
    | r => r
  | .cond c a b, σ => match c.ev σ.ρ with
    | .bool t => if t then ev O n a σ else ev O n b σ
    | _ => none
  | .block id a, σ => match ev O n a σ with
    | some (.exit i, σ') => if i = id then some (.normal, σ') else some (.exit i, σ')
    | r => r
  | .loop live a, σ => iter (ev O n a) (heads live σ.m.cur.length) n σ

def evRes (σ : St) : ARes → Option AV
  | .tmp t => some (σ.ρ.getD t (.tup []))
  | .cell a agg n => (σ.m.at (σ.ρ.getD a (.tup []))).bind (takeV agg n)

def evRess (σ : St) : List ARes → Option (List AV)
  | [] => some []
  | r :: l => (evRes σ r).bind fun v => (evRess σ l).map fun vs => v :: vs

def packRes : List AV → AV
  | [v] => v
  | vs => .tup vs

mutual
/-- Does a value refer to a block of frame l? -/
def AV.refs (l : Nat) : AV → Bool
  | .arr l' _ _ _ _ => l' == l
  | .ptr l' _ _ _ => l' == l
  | .mapR l' _ _ => l' == l
  | .fn _ first caps => refsAny l first || refsAny l caps
  | .agg cs => refsAny l cs
  | .tup vs => refsAny l vs
  | _ => false
def refsAny (l : Nat) : List AV → Bool
  | [] => false
  | c :: r => c.refs l || refsAny l r
end

mutual
/-- The blocks of frame l are those of frame l' behind k others. -/
def AV.shift (l l' k : Nat) : AV → AV
  | .arr a i st off len => if a == l then .arr l' (i + k) st off len else .arr a i st off len
  | .ptr a i st off => if a == l then .ptr l' (i + k) st off else .ptr a i st off
  | .mapR a i st => if a == l then .mapR l' (i + k) st else .mapR a i st
  | .fn f first caps => .fn f (shiftAll l l' k first) (shiftAll l l' k caps)
  | .agg cs => .agg (shiftAll l l' k cs)
  | .tup vs => .tup (shiftAll l l' k vs)
  | v => v
def shiftAll (l l' k : Nat) : List AV → List AV
  | [] => []
  | c :: r => c.shift l l' k :: shiftAll l l' k r
end

/-- A call's end: the callee's frame goes; where the result refers to it, its blocks go over to the caller. 'm0': the memory before; 'm': behind the body (its frame is 'cur'; the caller's is the last of 'stk'). -/
def leave (m0 m : Mem) (r : AV) : Option (AV × Mem) :=
  match m.stk.getLast?, m.live with
  | none, _ | _, [] => none
  | some c, own :: rest =>
    let live := pushToks (own.filter fun t => r.toks.contains t) rest
    if r.refs m.stk.length then
      let l := m.stk.length
      some (r.shift l (l - 1) c.length, { stk := m.stk.dropLast, cur := c ++ m.cur.map (fun b => ⟨b.st, shiftAll l (l - 1) c.length b.cs⟩), nx := m.nx, live, floor := m0.floor })
    else some (r, { stk := m.stk.dropLast, cur := c, nx := m.nx, live, floor := m0.floor })

def enter (m : Mem) : Mem := { stk := m.stk ++ [m.cur], cur := [], nx := m.nx, live := [] :: m.live, floor := m.floor }

noncomputable def evFn (O : Oracle) (n : Nat) (fn : AFunc) (args : List AV) (m : Mem) : Option (AV × Mem) :=
  match ev O n fn.body ⟨args ++ List.replicate (fn.ntmps - args.length) (.tup []), enter m⟩ with
  | some (.exit _, _) => none
  | some (_, σ) => (evRess σ fn.res).bind fun vs => leave m σ.m (packRes vs)
  | none => none

noncomputable def callN (tab : Nat → Option AFunc) : Nat → Oracle
  | 0 => fun _ _ _ => none
  | n + 1 => fun f args m => match tab f with
    | some fn => evFn (callN tab n) n fn args m
    | none => none

end Go.Vs
