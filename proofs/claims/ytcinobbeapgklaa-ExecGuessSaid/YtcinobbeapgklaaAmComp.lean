/- YtcinobbeapgklaaAmComp: the model's elaborated code as the abstract machine's. No statement of the seat is proved here. -/
import Derived.Test.YtcinobbeapgklaaAmCore
namespace Go.AM

def cvCell : Value → Option AV
  | .bool b => some (.bool b)
  | .int k n => some (.int k n)
  | .string s => some (.str s.data.toList)
  | .slice none 0 0 => some (.sl true [])
  | _ => none
def mapO {α β : Type} (f : α → Option β) : List α → Option (List β)
  | [] => some []
  | x :: l => match f x, mapO f l with
    | some y, some ys => some (y :: ys)
    | _, _ => none
def cv : Value → Option AV
  | .agg cs => (mapO cvCell cs.toList).map .agg
  | v => cvCell v
def compX (K : List Nat) : Operand → Option AX
  | .tmp t => some (if inA K t then .v t else .t t)
  | .const v => (cv v).map .c
  | .func f => some (.c (.fn f []))
  | .global _ => none

def partX (place : Nat → Option (Nat × Nat)) (K : List Nat) (q : Nat × Operand) : Option (Nat × Nat × AX) :=
  match place q.1, compX K q.2 with
  | some (off, n), some x => some (off, n, x)
  | _, _ => none

/-- Which operations stand ahead of one, as bits. -/
def mask (acc : List Nat) (o : Oper) : Nat := o.after.toList.foldl (fun s e => if Region.binds .any e then s ||| 2 ^ e.on ||| acc.getD e.on 0 else s) 0
def masksFrom : List Nat → List Oper → List Nat
  | acc, [] => acc
  | acc, o :: l => masksFrom (acc ++ [mask acc o]) l
def masks (ops : List Oper) : List Nat := masksFrom [] ops

section
variable (P : Program) (K : List Nat)

def zeroOf (t : TypeId) : Option (List AV) :=
  match P.info? t with
  | some i => match i.zero with
    | some z => mapO cvCell z.cells.toList
    | none => none
  | none => none
def sizeO (t : TypeId) : Option Nat := (P.info? t).map (·.size)
def isAggT (t : TypeId) : Option Bool :=
  match P.underlying t with
  | some (.struct _) | some (.array _ _) => some true
  | some _ => some false
  | none => none
def oX : Option Operand → Option (Option AX)
  | none => some none
  | some x => (compX K x).map some
def scalarT (t : TypeId) : Bool :=
  match P.underlying t with
  | some (.int _) | some .string => true
  | _ => false
def isBoolT (t : TypeId) : Bool :=
  match P.underlying t with
  | some .bool => true
  | _ => false
/-- Types that are compared cell by cell: whole numbers, bools, strings, and structs and arrays of these. -/
def plainEq : Nat → TypeId → Bool
  | 0, _ => false
  | d + 1, t => match P.underlying t with
    | some (.int _) | some .bool | some .string => true
    | some (.struct fs) => !P.stoodInHeld t && fs.toList.all fun f => f.name != "_" && plainEq d f.type
    | some (.array _ e) => plainEq d e
    | _ => false

/-- Where the parts of a struct, of an array lie. -/
def placesOf (t : TypeId) : Option (Nat → Option (Nat × Nat)) :=
  match P.underlying t with
  | some (.struct fs) => match mapO (fun f => (sizeO P f.type).map fun n => (f.offset, n)) fs.toList with
    | some places => some (fun i => places[i]?)
    | none => none
  | some (.array _ el) => match sizeO P el with
    | some n => some (fun i => some (i * n, n))
    | none => none
  | _ => none

def compOp : Op → Option AOp
  | .move x => (compX K x).map .move
  | .assign x => (compX K x).map .assign
  | .pick c a b => match compX K c, compX K a, compX K b with
    | some c, some a, some b => some (.pick c a b)
    | _, _, _ => none
  | .alloc t => (zeroOf P t).map .alloc
  | .box _ x => (compX K x).map .box
  | .load t x => match isAggT P t, sizeO P t, compX K x with
    | some true, some n, some x => some (.loadN n x)
    | some false, _, some x => some (.load1 x)
    | _, _, _ => none
  | .store t x v => match sizeO P t, compX K x, compX K v with
    | some n, some x, some v => some (.store n x v)
    | _, _, _ => none
  | .fieldAddr s x f => match P.underlying s, compX K x with
    | some (.struct fs), some x => match fs[f]? with
      | some f => match sizeO P f.type with
        | some (_ + 1) => some (.addOff x f.offset)
        | _ => none
      | none => none
    | _, _ => none
  | .indexAddr t x i => match P.underlying t, compX K x, compX K i with
    | some (.array len el), some x, some i => (sizeO P el).map fun z => .idxA len z x i
    | some (.slice el), some x, some i => (sizeO P el).map fun z => .idxS z x i
    | _, _, _ => none
  | .index t x i => match P.underlying t, compX K x, compX K i with
    | some .string, some x, some i => some (.idxStr x i)
    | _, _, _ => none
  | .field t x f => match P.underlying t, compX K x with
    | some (.struct fs), some x => match fs[f]? with
      | some f => match isAggT P f.type, sizeO P f.type with
        | some true, some n => some (.partN x f.offset n)
        | some false, _ => some (.part1 x f.offset)
        | _, _ => none
      | none => none
    | _, _ => none
  | .binOp o t x y _ => match compX K x, compX K y with
    | some x, some y =>
      if isBoolT P t then match o with
        | .eql => some (.eqB false x y)
        | .neq => some (.eqB true x y)
        | _ => none
      else if scalarT P t then some (.bin o x y)
      else none
    | _, _ => none
  | .unOp o _ x => (compX K x).map (.un o)
  | .convert s d x => match P.underlying s, P.underlying d, compX K x with
    | some (.int _), some (.int k), some x => some (.conv k x)
    | _, _, _ => none
  | .build t parts => match zeroOf P t, placesOf P t with
    | some z, some place => (mapO (partX place K) parts.toList).map (.build z)
    | _, _ => none
  | .extract x i => (compX K x).map fun x => .extract x i
  | .call c => match mapO (compX K) c.args.toList with
    | some args => match c.callee with
      | .value (.func f) => some (.call f args)
      | .value x => (compX K x).map fun x => .callv x args
      | .builtin .max => some (.mm true args)
      | .builtin .min => some (.mm false args)
      | .builtin .len => match c.argTypes[0]?, args with
        | some t, [x] => match P.underlying t with
          | some .string => some (.lenStr x)
          | some (.slice _) => some (.lenS x)
          | _ => none
        | _, _ => none
      | _ => none
    | none => none
  | _ => none

def dstOk (n : Nat) (o : Oper) : Bool :=
  (match o.dst with | some d => decide (d < n) | none => true) && (match o.op with | .store _ _ _ => o.dst.isNone | _ => true)
/-- One operation of a region: what is not known is 'bad': a run that comes to it ends nowhere. -/
def compOper (n : Nat) (ops : Array Oper) (solo : Bool) (o : Oper) : Option AOpr :=
  if dstOk n o = true then
    match o.guard with
    | none => some { dst := o.dst, op := (compOp P K o.op).getD .bad, guard := none, solo }
    | some (g, want) => match (ops[g]?).bind (·.dst) with
      | some t => some { dst := o.dst, op := (compOp P K o.op).getD .bad, guard := some (t, want), solo }
      | none => none
  else none
def allocDsts (ops : Array Oper) : List Nat := ops.toList.filterMap fun o => match o.op with | .alloc _ | .box _ _ => o.dst | _ => none
def soloAt (ms : List Nat) (n i : Nat) : Bool := (List.range n).all fun j => if j < i then (ms.getD i 0).testBit j else if i < j then (ms.getD j 0).testBit i else true
/-- The operations of a region that draws its order, each told whether it stands in order with all others. -/
def compDraw (n : Nat) (ops : Array Oper) : Option (List AOpr) :=
  mapO (fun (q : Oper × Nat) => compOper P K n ops (soloAt (masks ops.toList) ops.size q.2) q.1) ops.toList.zipIdx
def drawOk (ops : Array Oper) (al : List AOpr) : Bool :=
  let ms := masks ops.toList
  al.all (fun o => o.op.xs.all (okX K)) &&
  (ops.toList.zipIdx.all fun q => q.1.after.all fun e => !Region.binds .any e || decide (e.on < q.2)) &&
  (al.zipIdx.all fun q => (List.range q.2).all fun k => (ms.getD q.2 0).testBit k || match al[k]? with | some o => indep o q.1 | none => false)

def compCode (n : Nat) : Code → Option ACode
  | .skip => some .skip
  | .region _ ops false => (mapO (compOper P K n ops true) ops.toList).map (.region (allocDsts ops))
  | .region _ ops true => match compDraw P K n ops with
    | some al => if drawOk K ops al = true then some (.draw (allocDsts ops) al) else some .bad
    | none => some .bad
  | .seq a b => match compCode n a, compCode n b with
    | some a, some b => some (.seq a b)
    | _, _ => none
  | .cond c a b => match compX K c, compCode n a, compCode n b with
    | some c, some a, some b => some (.cond c a b)
    | _, _, _ => none
  | .block id a => (compCode n a).map (.block id)
  | .loop a => (compCode n a).map .loop
  | .exit id => some (.exit id)
  | .ret => some .ret
  | _ => some .bad
def compRes : ResultVar → Option ARes
  | .tmp t => some (.tmp t)
  | .cell a t => match isAggT P t, sizeO P t with
    | some true, some n => some (.cells a n)
    | some false, some _ => some (.cell a)
    | _, _ => none
/-- A function as the abstract machine has it. -/
def Compiled (f : Nat) (af : AFn) : Prop :=
  ∃ (fn : Func) (c : Code), P.funcs[f]? = some fn ∧ fn.body = some c ∧ (fn.name == "runtime.NumGoroutine") = false ∧ af.np ≤ fn.ntmps ∧
    compCode P af.keep fn.ntmps c = some af.body ∧ mapO (compRes P) fn.results.toList = some af.res
end
end Go.AM
