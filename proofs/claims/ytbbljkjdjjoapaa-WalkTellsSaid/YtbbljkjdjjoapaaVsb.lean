/-
  Vsb: the model's code compiled to Vsa's code. The soundness theorem speaks of what 'compFn' gives.
-/
import Derived.Test.YtbbljkjdjjoapaaVsa
import Derived.Orders
namespace Go.Vs

def avCell : Value → Option AV
  | .bool b => some (.bool b)
  | .int k n => some (.int k n)
  | .string s => some (.str s.data.toList)
  | .pointer none => some .nilptr
  | .slice none 0 0 => some .nils
  | .nilFunc => some .nilfn
  | _ => none

def avCells : List Value → Option (List AV)
  | [] => some []
  | v :: r => match avCell v, avCells r with
    | some a, some l => some (a :: l)
    | _, _ => none

def avOf : Value → Option AV
  | .agg cs => (avCells cs.toList).map .agg
  | .tuple vs => if vs.size = 0 then some (.tup []) else none
  | v => avCell v

def compOpd : Operand → Option Opd
  | .tmp t => some (.t t)
  | .const v => (avOf v).map .c
  | .func f => some (.c (.fn (.func f) [] []))
  | .global _ => none

def compOpds : List Operand → Option (List Opd)
  | [] => some []
  | x :: r => match compOpd x, compOpds r with
    | some a, some l => some (a :: l)
    | _, _ => none

def compOpt : Option Operand → Option (Option Opd)
  | none => some none
  | some x => (compOpd x).map some

def sizeOfT (P : Program) (t : TypeId) : Option Nat := (P.info? t).map (·.size)

def aggT (P : Program) (t : TypeId) : Option Bool :=
  match P.underlying t with
  | some (.struct _) | some (.array _ _) => some true
  | some _ => some false
  | none => none

def zeroT (P : Program) (t : TypeId) : Option AV := ((P.info? t).bind (·.zero)).bind avOf

/-- The parts of a struct: where they lie, and how many cells they have. -/
def compParts (P : Program) (place : Nat → Option (Nat × Nat)) : List (Nat × Operand) → Option (List (Nat × Nat × Opd))
  | [] => some []
  | (i, x) :: r => match place i, compOpd x, compParts P place r with
    | some (off, n), some a, some l => if 0 < n then some ((off, n, a) :: l) else none
    | _, _, _ => none

def fieldPlaceT (P : Program) (fs : Array Field) (i : Nat) : Option (Nat × Nat) :=
  match fs[i]? with
  | some f => match P.info? f.type with
    | some ti => some (f.offset, ti.size)
    | none => none
  | none => none

def allSome {α : Type} (f : α → Bool) : List α → Bool
  | [] => true
  | x :: r => f x && allSome f r

/-- The operands of a slice literal, if all of them are there, in order. -/
def litParts : Nat → List (Nat × Operand) → Option (List Operand)
  | _, [] => some []
  | n, (i, x) :: r => if i = n then (litParts (n + 1) r).map (x :: ·) else none

def isU8 (P : Program) (e : TypeId) : Bool := match P.underlying e with | some (.int .u8) => true | _ => false
def isIntT (P : Program) (e : TypeId) : Bool := match P.underlying e with | some (.int _) => true | _ => false
def isBoolT (P : Program) (e : TypeId) : Bool := match P.underlying e with | some .bool => true | _ => false
def isStrT (P : Program) (e : TypeId) : Bool := match P.underlying e with | some .string => true | _ => false

def compCall (P : Program) (c : Call) : Option AOp :=
  match c.callee with
  | .value f => match compOpd f, compOpds c.args.toList with
    | some g, some l => some (.call g l)
    | _, _ => none
  | .invoke _ _ => none
  | .builtin b =>
    match b, c.argTypes.toList, c.args.toList with
    | .len, [t], [x] => match P.underlying t with
      | some (.slice _) => (compOpd x).map .len
      | some .string => (compOpd x).map .lenS
      | some (.array n _) => some (.mov (.c (.int .i64 n)))
      | _ => none
    | .append, [s, t], [x, y] => match P.underlying s, P.underlying t with
      | some (.slice e), some (.slice e') =>
        if e = e' then match P.info? e, compOpd x, compOpd y with
          | some ti, some a, some b => if 0 < ti.size ∧ 0 < ti.bytes ∧ (ti.zero.map fun z => z.cells.size) = some ti.size then some (.app ti.size ti.bytes a b) else none
          | _, _, _ => none
        else none
      | some (.slice e), some .string => match P.info? e, compOpd x, compOpd y with
          | some ti, some a, some b => if 0 < ti.size ∧ 0 < ti.bytes ∧ (ti.zero.map fun z => z.cells.size) = some ti.size then some (.app ti.size ti.bytes a b) else none
          | _, _, _ => none
      | _, _ => none
    | .max, _, [x, y] => match compOpd x, compOpd y with | some a, some b => some (.mx a b) | _, _ => none
    | .min, _, [x, y] => match compOpd x, compOpd y with | some a, some b => some (.mn a b) | _, _ => none
    | _, _, _ => none

def isStore : Op → Bool
  | .store _ _ _ => true
  | _ => false
/-- The places of the cells that '==' looks at. -/
def shiftL (n : Nat) (l : List (Nat × Nat)) : List (Nat × Nat) := l.map fun o => (o.1 + n, o.2)
def eqFieldsP (P : Program) (L : TypeId → Option (List (Nat × Nat))) (N : Nat) : List Field → Option (List (Nat × Nat))
  | [] => some []
  | f :: r =>
    if f.name ≠ "_" then
      match L f.type, sizeOfT P f.type, aggT P f.type, eqFieldsP P L N r with
      | some l, some n, some b, some k => if (∀ o ∈ l, o.1 < n) ∧ f.offset + n ≤ N ∧ 0 < n ∧ (b = true ∨ n = 1) then some (shiftL f.offset l ++ k) else none
      | _, _, _, _ => none
    else eqFieldsP P L N r

def eqLeaves (P : Program) : Nat → TypeId → Option (List (Nat × Nat))
  | 0, _ => none
  | d + 1, t =>
    match P.underlying t with
    | some .bool => some [(0, 0)]
    | some (.int _) => some [(0, 1)]
    | some .string => some [(0, 2)]
    | some (.struct fs) => if P.stoodInHeld t then none else (sizeOfT P t).bind fun N => eqFieldsP P (eqLeaves P d) N fs.toList
    | _ => none

/-- The literal nil of a type, and what kind of type this is. -/
def nilKind (P : Program) (t : TypeId) : Operand → Option Nat
  | .const (.slice none 0 0) => match P.underlying t with | some (.slice _) => some 0 | _ => none
  | .const (.pointer none) => match P.underlying t with | some (.pointer _) => some 1 | _ => none
  | .const .nilFunc => match P.underlying t with | some (.func _ _ _) => some 2 | _ => none
  | _ => none

def negOf : BinOp → Option Bool
  | .eql => some false
  | .neq => some true
  | _ => none

def keyKindT (P : Program) (t : TypeId) : Option Bool :=
  match P.underlying t with
  | some .string => some true
  | some (.int _) => some false
  | _ => none

def plainZero (P : Program) (t : TypeId) : Option AV :=
  match zeroT P t with
  | some z => if isPlain z then some z else none
  | none => none

def compX (P : Program) (o : Oper) : Option XOp :=
  match o.op with
  | .binOp op xt x y _ =>
    match negOf op, P.underlying xt with
    | some neg, some (.struct _) => match eqLeaves P 20 xt, sizeOfT P xt, compOpd x, compOpd y with
      | some ls, some n, some a, some b => if P.eqGuardType P.depth xt = false then some (.eqA neg n ls a b) else none
      | _, _, _, _ => none
    | some neg, _ => match nilKind P xt y with
      | some kd => (compOpd x).map (.isNil neg kd)
      | none => match nilKind P xt x with
        | some kd => (compOpd y).map (.isNil neg kd)
        | none => none
    | _, _ => none
  | .nilCheck x => (compOpd x).map .nilChk
  | .call c => match c.callee, c.argTypes.toList, c.args.toList with
    | .builtin .copy, [t, _], [x, y] => match P.underlying t, compOpd x, compOpd y with
      | some (.slice e), some a, some b => match P.info? e with
        | some ti => if 0 < ti.size then some (.copy ti.size a b) else none
        | none => none
      | _, _, _ => none
    | _, _, _ => none
  | .makeMap t none => match P.underlying t with
    | some (.map _ _) => some .mkmap
    | _ => none
  | .lookup t x k false => match P.underlying t with
    | some (.map kt et) => match keyKindT P kt, plainZero P et, compOpd x, compOpd k with
      | some kk, some z, some a, some b => some (.mget kk z a b)
      | _, _, _, _ => none
    | _ => none
  | .mapUpdate t x k v => match P.underlying t with
    | some (.map kt _) => match keyKindT P kt, compOpd x, compOpd k, compOpd v with
      | some kk, some a, some b, some c => some (.mput kk a b c)
      | _, _, _, _ => none
    | _ => none
  | _ => none

def compOp0 (P : Program) (o : Oper) : Option AOp :=
  match o.op with
  | .move x | .assign x => (compOpd x).map .mov
  | .pick c a b => match compOpd c, compOpd a, compOpd b with | some c, some a, some b => some (.pick c a b) | _, _, _ => none
  | .alloc e => (zeroT P e).bind fun z => if 0 < z.cells.length then some (.alloc z.cells) else none
  | .box e x => match sizeOfT P e, compOpd x with | some n, some a => if 0 < n then some (.box n a) else none | _, _ => none
  | .build t ps => match zeroT P t, P.underlying t with
    | some z, some (.struct fs) => if fs.toList.all fun f => (P.info? f.type).isSome then (compParts P (fieldPlaceT P fs) ps.toList).map (.build z.cells) else none
    | some z, some (.array _ e) => match sizeOfT P e with
      | some n => if 0 < z.cells.length then (compParts P (fun i => some (i * n, n)) ps.toList).map (.build z.cells) else none
      | none => none
    | _, _ => none
  | .buildSlice t len ps => match P.underlying t with
    | some (.slice e) => match P.info? e with
      | some ti => if 0 < ti.size ∧ ps.size = len ∧ len * ti.size ≤ 16777216 ∧ (ti.zero.map fun z => z.cells.size) = some ti.size then
          ((litParts 0 ps.toList).bind compOpds).map (.lit ti.size) else none
      | none => none
    | _ => none
  | .load t a => match aggT P t, sizeOfT P t, compOpd a with
    | some g, some n, some x => if g || n == 1 then some (.load g n x) else none
    | _, _, _ => none
  | .store t a x => match sizeOfT P t, compOpd a, compOpd x with | some n, some a, some x => if 0 < n then some (.store n a x) else none | _, _, _ => none
  | .binOp op xt x y _ => match compOpd x, compOpd y with
    | some a, some b =>
      if isBoolT P xt then (match op with | .eql => some (.beq false a b) | .neq => some (.beq true a b) | _ => none) else some (.bin op a b)
    | _, _ => none
  | .unOp op _ x => (compOpd x).map (.un op)
  | .convert src dst x => match P.underlying src, P.underlying dst, compOpd x with
    | some (.int _), some (.int k), some a => some (.conv k a)
    | some .string, some .string, some a => some (.convS a)
    | some (.slice e), some .string, some a => if isU8 P e then some (.toStr a) else none
    | some .string, some (.slice e), some a => if isU8 P e && (sizeOfT P e == some 1) then some (.toBytes a) else none
    | _, _, _ => none
  | .makeFunc fn first caps => match compOpds first.toList, compOpds caps.toList with | some a, some b => some (.mkfn fn a b) | _, _ => none
  | .fieldAddr t x i => match P.underlying t, compOpd x with
    | some (.struct fs), some a => match fs[i]? with
      | some f => match P.info? f.type with
        | some ti => if ti.size = 0 then none else some (.faddr f.offset a)
        | none => none
      | none => none
    | _, _ => none
  | .field t x i => match P.underlying t, compOpd x with
    | some (.struct fs), some a => match fs[i]? with
      | some f => match aggT P f.type, sizeOfT P f.type with
        | some g, some n => if g || n == 1 then some (.field g n f.offset a) else none
        | _, _ => none
      | none => none
    | _, _ => none
  | .indexAddr t x i => match P.underlying t, compOpd x, compOpd i with
    | some (.slice e), some a, some j => (sizeOfT P e).map fun s => .iaddr s a j
    | some (.array n e), some a, some j => (sizeOfT P e).map fun s => .iaddrA n s a j
    | _, _, _ => none
  | .index t x i => match P.underlying t, compOpd x, compOpd i with
    | some .string, some a, some j => some (.indexS a j)
    | some (.array n e), some a, some j => match aggT P e, sizeOfT P e with
      | some g, some s => if g || s == 1 then some (.indexA n s g a j) else none
      | _, _ => none
    | _, _, _ => none
  | .slice t x lo hi mx => match P.underlying t, compOpd x, compOpt lo, compOpt hi, compOpt mx with
    | some .string, some a, some l, some h, some none => some (.sliceS a l h)
    | some (.slice e), some a, some l, some h, some m => (sizeOfT P e).bind fun s => if 0 < s && (m.isNone || h.isSome) then some (.slice s a l h m) else none
    | some (.array n e), some a, some l, some h, some none => (sizeOfT P e).map fun s => .sliceA n s a l h
    | _, _, _, _, _ => none
  | .makeSlice t n c => match P.underlying t with
    | some (.slice e) => match P.info? e, zeroT P e, compOpd n, compOpd c with
      | some ti, some z, some a, some b => if 0 < ti.size ∧ (ti.zero.map fun z => z.cells.size) = some ti.size then some (.make ti.size ti.bytes z.cells a b) else none
      | _, _, _, _ => none
    | _ => none
  | .extract x i => (compOpd x).map fun a => .extract a i
  | .call c => compCall P c
  | _ => none

def compOp (P : Program) (o : Oper) : Option AOp :=
  match compX P o with
  | some e => some (.ext e)
  | none => match compOp0 P o with
    | some a => some a
    | none => if isStore o.op then none else some (.ext .bad)

def compGuard (ops : Array Oper) : Option (Nat × Bool) → Option (Option (Nat × Bool))
  | none => some none
  | some (j, w) => match (ops[j]?).bind (·.dst) with
    | some d => some (some (d, w))
    | none => none

def compOper (P : Program) (ops : Array Oper) (o : Oper) : Option AOper :=
  match compOp P o, compGuard ops o.guard with
  | some op, some g => some { dst := o.dst, op := op, guard := g, flt := false }
  | _, _ => none

def compOpers (P : Program) (ops : Array Oper) : Nat → List Oper → Option (List AOper)
  | _, [] => some []
  | i, o :: r => match compOper P ops o, compOpers P ops (i + 1) r with
    | some a, some l => some (a :: l)
    | _, _ => none

def maskOf (acc : List Nat) (o : Oper) : Nat :=
  o.after.toList.foldl (fun s e => if Region.binds .any e then s ||| 2 ^ e.on ||| acc.getD e.on 0 else s) 0

/-- For each operation a number whose bits tell what must come before it. -/
def masks : List Oper → List Nat → List Nat
  | [], acc => acc
  | o :: r, acc => masks r (acc ++ [maskOf acc o])

def ordered (b : List Nat) (i j : Nat) : Bool := (b.getD (max i j) 0).testBit (min i j)

/-- The temporaries that an operation looks at. -/
def looksAt (ops : Array Oper) (o : Oper) : List Nat :=
  (o.op.operands.toList.filterMap fun | .tmp t => some t | _ => none) ++
  (match o.guard with
   | some (g, _) => ((ops[g]?).bind (·.dst)).toList
   | none => [])

def clash (ops : Array Oper) (x y : Oper) : Bool :=
  (match x.dst with | some d => (looksAt ops y).contains d || y.dst == some d | none => false) ||
  (match y.dst with | some d => (looksAt ops x).contains d | none => false)

def opAt (al : List AOper) (i : Nat) : AOp := match al[i]? with | some a => a.op | none => .ext .bad

/-- Does a load float: is it not ordered against something that changes memory? -/
def fltOf (al : List AOper) (n : Nat) (b : List Nat) (j : Nat) : Bool :=
  (match opAt al j with | .load _ _ _ => true | _ => false) && (List.range n).any fun i => i != j && mvB (opAt al i) && !ordered b i j

/-- Is there a store that is not ordered against it? -/
def wtOf (al : List AOper) (n : Nat) (b : List Nat) (j : Nat) : Bool :=
  (List.range n).any fun i => (opAt al i).isStore && !ordered b i j

/-- How one operation is marked. -/
def markOne (al : List AOper) (n : Nat) (b : List Nat) (j : Nat) (o : AOper) : AOper :=
  if fltOf al n b j then { o with flt := true, op := match o.op with | .load g k a => if wtOf al n b j then .ext (.wload g k a) else o.op | _ => o.op } else o

/-- With what floats marked. -/
def marked (al : List AOper) (n : Nat) (b : List Nat) : Nat → List AOper → List AOper
  | _, [] => []
  | j, o :: r => markOne al n b j o :: marked al n b (j + 1) r

/-- One pair of operations of a region that draws its order: what must be ordered is. -/
def pairOk (ops : Array Oper) (al : List AOper) (b : List Nat) (i j : Nat) : Bool :=
  match ops[i]?, ops[j]? with
  | some x, some y => i == j || ordered b i j || (!clash ops x y && !(mvB (opAt al i) && mvB (opAt al j)) && !(kindA (opAt al i) && mvB (opAt al j) && decide (j < i)) &&
      !(mvB (opAt al i) && decide ((opAt al j).kind = 1) && !((al[j]?).map (·.flt)).getD false))
  | _, _ => true

/-- A load that floats stands ahead of each store, and is ordered against it, or watched. -/
def fltOk (al : List AOper) (b : List Nat) (i j : Nat) : Bool :=
  !((opAt al i).isStore && ((al[j]?).map (·.flt)).getD false) || (decide (j < i) && (ordered b i j || (match opAt al j with | .ext (.wload _ _ _) => true | _ => false)))

def edgesOk (ops : Array Oper) (j : Nat) : Bool :=
  match ops[j]? with
  | some o => o.after.toList.all fun e => !Region.binds .any e || decide (e.on < j)
  | none => true

def drawOk (ops : Array Oper) (al : List AOper) (b : List Nat) : Bool :=
  (List.range ops.size).all fun i => edgesOk ops i && (List.range ops.size).all fun j => pairOk ops al b i j && fltOk al b i j

def readsIn (l : List Nat) : List Opd → Bool
  | [] => true
  | .t i :: r => l.contains i && readsIn l r
  | .c _ :: r => readsIn l r

/-- What an operation is compiled to looks at no more than it. -/
def readsOk (ops : Array Oper) : List Oper → List AOper → Bool
  | o :: r, a :: s => readsIn (looksAt ops o) a.op.reads && readsOk ops r s
  | _, _ => true

def compDraw (P : Program) (ops : Array Oper) : Option (List AOper) :=
  (compOpers P ops 0 ops.toList).bind fun al =>
    if drawOk ops (marked al ops.size (masks ops.toList []) 0 al) (masks ops.toList []) && readsOk ops ops.toList (marked al ops.size (masks ops.toList []) 0 al) then some (marked al ops.size (masks ops.toList []) 0 al) else none

/-- A variable that is made with nothing ahead of it. -/
def freeOp (o : Oper) : Bool :=
  (match o.op with | .alloc _ => true | _ => false) && o.guard.isNone && o.after.toList.all fun e => !Region.binds .any e

/-- The order in which a drawn region's operations are walked through: such variables first. -/
def ordOf (ops : Array Oper) : List Nat :=
  ((List.range ops.size).filter fun i => match ops[i]? with | some o => freeOp o | none => false) ++
  ((List.range ops.size).filter fun i => !(match ops[i]? with | some o => freeOp o | none => false))

/-- Where an operation stands then. -/
def posOf (ops : Array Oper) (i : Nat) : Nat := if i < ops.size then (ordOf ops).idxOf i else i

def movedTo (pos : Nat → Nat) (o : Oper) : Oper :=
  { o with after := o.after.map fun e => { e with on := pos e.on }, guard := o.guard.map fun g => (pos g.1, g.2) }

def permOps (ops : Array Oper) : Array Oper := ((ordOf ops).filterMap fun i => (ops[i]?).map (movedTo (posOf ops))).toArray

/-- What is not covered: it must not be reached. -/
def orBad (x : Option ACode) : ACode := x.getD .bad

def comp (P : Program) : Code → List (List Nat) → Option (ACode × List (List Nat))
  | .skip, a => some (.skip, a)
  | .ret, a => some (.ret, a)
  | .exit id, a => some (.exit id, a)
  | .region _ ops false, a => some (orBad ((compOpers P ops 0 ops.toList).map .ops), a)
  | .region _ ops true, a => some (orBad ((compDraw P (permOps ops)).map .draw), a)
  | .seq x y, a => (comp P x a).bind fun p => (comp P y p.2).map fun q => (.seq p.1 q.1, q.2)
  | .cond c x y, a => (compOpd c).bind fun d => (comp P x a).bind fun p => (comp P y p.2).map fun q => (.cond d p.1 q.1, q.2)
  | .block id x, a => (comp P x a).map fun p => (.block id p.1, p.2)
  | .loop x, a => match a with
    | [] => none
    | live :: a' => (comp P x a').map fun p => (.loop live p.1, p.2)
  | _, a => some (.bad, a)

def compRes (P : Program) : List ResultVar → Option (List ARes)
  | [] => some []
  | .tmp t :: r => (compRes P r).map (.tmp t :: ·)
  | .cell a t :: r => match aggT P t, sizeOfT P t, compRes P r with
    | some g, some n, some l => if g || n == 1 then some (.cell a g n :: l) else none
    | _, _, _ => none

def compFn (P : Program) (fn : Func) (ann : List (List Nat)) : Option AFunc :=
  match fn.body with
  | some c => match comp P c ann, compRes P fn.results.toList with
    | some (b, _), some r => if fn.name == "runtime.NumGoroutine" then none else some { ntmps := fn.ntmps, res := r, body := b }
    | _, _ => none
  | none => none

end Go.Vs
