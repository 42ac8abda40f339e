/- YtcinobbeapgklaaAmCore: an abstract machine over pure values for the model's elaborated code: its values, its operations, its runs. No statement of the seat is proved here. -/
import Derived.KernelRfl
import Derived.Calls
namespace Go.AM

/-- Abstract values. 'sl': a slice that nobody writes (its rows, each an element's cells); 'own': a slice that the call owns; 'box': a variable in memory that the call owns; 'ref', 'ptr': to what a variable of the call owns; 'rptr': a pointer to cells that nobody writes. -/
inductive AV where
  | undef
  | bool (b : Bool)
  | int (k : IntKind) (n : Int)
  | str (s : List UInt8)
  | agg (cs : List AV)
  | tup (vs : List AV)
  | sl (full : Bool) (rows : List (List AV))
  | rptr (cs : List AV) (off : Nat)
  | fn (f : Nat) (caps : List AV)
  | own (esz : Nat) (rows : List (List AV))
  | box (cs : List AV)
  | ref (s : Nat) (c : Option Nat)
  | ptr (s : Nat) (c : Option Nat) (row off : Nat)
  deriving Inhabited

/-- An operand: a temporary, a variable, a constant. -/
inductive AX where
  | t (n : Nat)
  | v (n : Nat)
  | c (x : AV)
  deriving Inhabited

inductive AOp where
  | move (x : AX)
  | assign (x : AX)
  | pick (c a b : AX)
  | alloc (zero : List AV)
  | box (x : AX)
  | load1 (x : AX)
  | loadN (n : Nat) (x : AX)
  | store (n : Nat) (x v : AX)
  | addOff (x : AX) (k : Nat)
  | idxA (len esz : Nat) (x i : AX)
  | idxS (esz : Nat) (x i : AX)
  | idxStr (x i : AX)
  | part1 (x : AX) (off : Nat)
  | partN (x : AX) (off n : Nat)
  | bin (o : BinOp) (x y : AX)
  | eqAgg (neg : Bool) (x y : AX)
  | eqB (neg : Bool) (x y : AX)
  | un (o : UnOp) (x : AX)
  | conv (k : IntKind) (x : AX)
  | build (zero : List AV) (parts : List (Nat × Nat × AX))
  | buildSlice (esz : Nat) (zero : List AV) (len : Nat) (parts : List (Nat × AX))
  | extract (x : AX) (i : Nat)
  | call (f : Nat) (args : List AX)
  | callv (x : AX) (args : List AX)
  | mm (isMax : Bool) (args : List AX)
  | lenS (x : AX)
  | lenStr (x : AX)
  | append (esz bytes : Nat) (x y : AX)
  | makeSlice (esz bytes : Nat) (zero : List AV) (len cap : AX)
  | slice (esz : Nat) (x : AX) (lo hi mx : Option AX)
  | makeFunc (f : Nat) (caps : List AX)
  | bad
  deriving Inhabited

/-- An operation: where its value goes (a variable or not), the operation, its guard. -/
structure AOpr where
  dst : Option Nat
  op : AOp
  guard : Option (Nat × Bool)
  solo : Bool := true
  deriving Inhabited

inductive ACode where
  | skip
  | region (A : List Nat) (ops : List AOpr)
  | draw (A : List Nat) (ops : List AOpr)
  | seq (a b : ACode)
  | cond (c : AX) (a b : ACode)
  | block (id : Nat) (a : ACode)
  | loop (a : ACode)
  | exit (id : Nat)
  | ret
  | bad
  deriving Inhabited

inductive ARes where
  | tmp (s : Nat)
  | cell (s : Nat)
  | cells (s n : Nat)
  deriving Inhabited

/-- A function: how many parameters, its persistent slots, its code, its results; 'fresh': its results keep what they own. -/
structure AFn where
  np : Nat
  keep : List Nat
  body : ACode
  res : List ARes
  fresh : Bool
  deriving Inhabited

abbrev Env := Nat → AV

def upd (e : Env) (s : Nat) (v : AV) : Env := fun s' => if s' = s then v else e s'
def mkE : List (Nat × AV) → Env
  | [] => fun _ => .undef
  | (k, v) :: l => fun s => if s = k then v else mkE l s

def isOwn : AV → Bool
  | .own _ _ => true
  | _ => false
def isOwner : AV → Bool
  | .own _ _ => true
  | .box _ => true
  | _ => false
/-- May it be a cell of a struct: a value of one cell that holds nothing owned, no reference. -/
def isCell : AV → Bool
  | .bool _ | .int _ _ | .str _ | .sl _ _ | .rptr _ _ | .fn _ _ => true
  | _ => false
def isPure : AV → Bool
  | .agg cs => cs.all isCell
  | v => isCell v
/-- A cell of a struct that may own. -/
def isCellO (v : AV) : Bool := isCell v || isOwn v
def isVal : AV → Bool
  | .agg cs => cs.all isCellO
  | v => isCellO v
/-- The cells of a value. -/
def cellsOf : AV → List AV
  | .agg cs => cs
  | v => [v]
def freezeC : AV → AV
  | .own _ rows => .sl false rows
  | v => v
def freeze1 : AV → AV
  | .agg cs => .agg (cs.map freezeC)
  | v => freezeC v
def freezeT : AV → AV
  | .tup vs => .tup (vs.map freeze1)
  | v => freeze1 v
def flatC : AV → Bool
  | .bool _ | .int _ _ | .str _ => true
  | _ => false
def flat1 : AV → Bool
  | .agg cs => cs.all flatC
  | v => flatC v
/-- A value that leads to no memory. -/
def flatT : AV → Bool
  | .tup vs => vs.all flat1
  | v => flat1 v

def owns1 : AV → Bool
  | .agg cs => cs.any isOwn
  | .own _ _ => true
  | .box _ => true
  | _ => false
def owns : AV → Bool
  | .tup vs => vs.any owns1
  | v => owns1 v

/-- Forget what refers to slot d (to cell c of it). -/
def killR (d : Nat) : AV → AV
  | .ref s c => if s = d then .undef else .ref s c
  | .ptr s c r o => if s = d then .undef else .ptr s c r o
  | v => v
def kill (d : Nat) (e : Env) : Env := fun s => killR d (e s)
/-- A slot is emptied. -/
def drop (e : Env) (s : Nat) : Env := upd (kill s e) s .undef
def inA (A : List Nat) (s : Nat) : Bool := A.any (· == s)
def cleanR (A : List Nat) : AV → AV
  | .ref s c => if inA A s then .undef else .ref s c
  | .ptr s c r o => if inA A s then .undef else .ptr s c r o
  | v => v
/-- At a region's head: what its own 'alloc' and 'box' will lay anew is forgotten. -/
def clean (A : List Nat) (e : Env) : Env := fun s => if inA A s then .undef else cleanR A (e s)
def keepR (K : List Nat) : AV → AV
  | .ref s c => if inA K s then .ref s c else .undef
  | .ptr s c r o => if inA K s then .ptr s c r o else .undef
  | v => v
/-- Behind a region: its temporaries are forgotten. -/
def restrict (K : List Nat) (e : Env) : Env := mkE (K.map fun k => (k, keepR K (e k)))

/-- What a slot (or a cell of a variable in a slot) owns, row by row. -/
def content (e : Env) (s : Nat) : Option Nat → Option (List (List AV))
  | none => match e s with
    | .box cs => some [cs]
    | .own _ rows => some rows
    | _ => none
  | some k => match e s with
    | .box cs => match cs[k]? with
      | some (.own _ rows) => some rows
      | _ => none
    | _ => none

/-- An operand's value, to be looked at. -/
def rd (e : Env) : AX → AV
  | .c x => x
  | .t s => match e s with
    | .own _ _ => .undef
    | .box _ => .undef
    | v => v
  | .v s => match e s with
    | .own _ _ => .ref s none
    | .box _ => .ptr s none 0 0
    | v => v

/-- A slice's rows. -/
def rowsOf (e : Env) : AV → Option (List (List AV))
  | .sl _ rows => some rows
  | .own _ rows => some rows
  | .ref s c => content e s c
  | _ => none

/-- As an argument: nothing owned, nothing referred to. -/
def asArg (e : Env) (x : AV) : Option AV :=
  match x with
  | .ref s c => (content e s c).map (.sl false)
  | .ptr s none 0 off => match e s with
    | .box cs => if cs.all isCell then some (.rptr cs off) else none
    | _ => none
  | v => if isPure v then some v else none
def isRef : AV → Bool
  | .ref _ _ => true
  | .ptr _ _ _ _ => true
  | _ => false

def wrapI (k : IntKind) (n : Int) : AV := .int k (k.wrap n)
def bitsI (o : BinOp) (k : IntKind) (x y : Int) : Option AV :=
  let a := BitVec.ofInt k.bits x
  let b := BitVec.ofInt k.bits y
  match o with
  | .and => some (wrapI k (a &&& b).toNat)
  | .or => some (wrapI k (a ||| b).toNat)
  | .xor => some (wrapI k (a ^^^ b).toNat)
  | .andNot => some (wrapI k (a &&& ~~~b).toNat)
  | _ => none
def shiftI (o : BinOp) (k : IntKind) (x y : Int) : Option AV :=
  if y < 0 then none else
  match o with
  | .shl => some (wrapI k (x * 2 ^ (min y.toNat k.bits)))
  | .shr => some (.int k (x.fdiv (2 ^ (min y.toNat k.bits))))
  | _ => none
def cmpI (o : BinOp) (x y : Int) : Option AV :=
  match o with
  | .eql => some (.bool (x == y))
  | .neq => some (.bool (x != y))
  | .lss => some (.bool (x < y))
  | .leq => some (.bool (x ≤ y))
  | .gtr => some (.bool (x > y))
  | .geq => some (.bool (x ≥ y))
  | _ => none
def arithI (o : BinOp) (k : IntKind) (x y : Int) : Option AV :=
  match o with
  | .add => some (wrapI k (x + y))
  | .sub => some (wrapI k (x - y))
  | .mul => some (wrapI k (x * y))
  | .quo => if y = 0 then none else some (wrapI k (x.tdiv y))
  | .rem => if y = 0 then none else some (.int k (x.tmod y))
  | .and | .or | .xor | .andNot => bitsI o k x y
  | o => cmpI o x y
def strB (o : BinOp) (x y : List UInt8) : Option AV :=
  match o with
  | .eql => some (.bool (x == y))
  | .neq => some (.bool (!(x == y)))
  | _ => none
def binV (o : BinOp) (x y : AV) : Option AV :=
  match x, y with
  | .int k a, .int k' b =>
    match o with
    | .shl => shiftI .shl k a b
    | .shr => shiftI .shr k a b
    | o => if k = k' then arithI o k a b else none
  | .str a, .str b => strB o a b
  | _, _ => none
def unV (o : UnOp) (x : AV) : Option AV :=
  match o, x with
  | .neg, .int k n => some (wrapI k (0 - n))
  | .xor, .int k n => bitsI .xor k (if k.signed then -1 else k.max) n
  | .not, .bool b => some (.bool (!b))
  | _, _ => none
def mmI (isMax : Bool) : AV → List AV → Option AV
  | .int k x, [] => some (.int k x)
  | .int k x, .int k' y :: l => if k = k' then mmI isMax (.int k (if isMax then (if y > x then y else x) else (if y < x then y else x))) l else none
  | _, _ => none

/-- Cells laid over cells from a place on. -/
def lay (cs : List AV) (off : Nat) (new : List AV) : List AV := cs.take off ++ new ++ cs.drop (off + new.length)
def allSome : List (Option AV) → Option (List AV)
  | [] => some []
  | none :: _ => none
  | some x :: l => (allSome l).map (x :: ·)

def natI : AV → Option Nat
  | .int _ n => if 0 ≤ n then some n.toNat else none
  | _ => none
def oNat (e : Env) : Option AX → Option (Option Nat)
  | none => some none
  | some x => (natI (rd e x)).map some

def eqC : AV → AV → Option Bool
  | .int k a, .int k' b => if k = k' then some (a == b) else none
  | .bool a, .bool b => some (a == b)
  | .str a, .str b => some (a == b)
  | _, _ => none
def eqL : List AV → List AV → Option Bool
  | [], [] => some true
  | x :: xs, y :: ys => match eqC x y, eqL xs ys with
    | some a, some b => some (a && b)
    | _, _ => none
  | _, _ => none

/-- The value of an operation that only looks at what is there. -/
def val (e : Env) : AOp → Option AV
  | .move x | .assign x => some (rd e x)
  | .pick c a b => match rd e c with
    | .bool true => match rd e a with | .bool z => some (.bool z) | _ => none
    | .bool false => match rd e b with | .bool z => some (.bool z) | _ => none
    | _ => none
  | .load1 x => match rd e x with
    | .rptr cs off => match cs[off]? with
      | some v => if isCell v then some v else none
      | none => none
    | .ptr s c row off => match content e s c with
      | some rows => match rows[row]? with
        | some r => match r[off]? with
          | some (.own _ _) => match c with
            | none => some (.ref s (some off))
            | some _ => none
          | some v => if isCell v then some v else none
          | none => none
        | none => none
      | none => none
    | _ => none
  | .loadN n x => match rd e x with
    | .rptr cs off => if off + n ≤ cs.length ∧ ((cs.drop off).take n).all isCell = true then some (.agg ((cs.drop off).take n)) else none
    | .ptr s c row off => match content e s c with
      | some rows => match rows[row]? with
        | some r => if off + n ≤ r.length ∧ ((r.drop off).take n).all isCell = true then some (.agg ((r.drop off).take n)) else none
        | none => none
      | none => none
    | _ => none
  | .addOff x k => match rd e x with
    | .rptr cs off => some (.rptr cs (off + k))
    | .ptr s c row off => some (.ptr s c row (off + k))
    | _ => none
  | .idxA len esz x i => match rd e x, rd e i with
    | .rptr cs off, .int _ n => if 0 ≤ n ∧ n < len then some (.rptr cs (off + n.toNat * esz)) else none
    | .ptr s c row off, .int _ n => if 0 ≤ n ∧ n < len then some (.ptr s c row (off + n.toNat * esz)) else none
    | _, _ => none
  | .idxS esz x i => match rd e x, rd e i with
    | .sl _ rows, .int _ n => if 0 ≤ n ∧ n < rows.length then
        match rows[n.toNat]? with
        | some r => if r.length = esz then some (.rptr r 0) else none
        | none => none
      else none
    | .ref s c, .int _ n => match content e s c with
      | some rows => if 0 ≤ n ∧ n < rows.length then
          match rows[n.toNat]? with
          | some r => if r.length = esz then some (.ptr s c n.toNat 0) else none
          | none => none
        else none
      | none => none
    | _, _ => none
  | .idxStr x i => match rd e x, rd e i with
    | .str s, .int _ n => if 0 ≤ n then (s[n.toNat]?).map fun b => .int .u8 b.toNat else none
    | _, _ => none
  | .bin o x y => binV o (rd e x) (rd e y)
  | .eqAgg neg x y => match rd e x, rd e y with
    | .agg xs, .agg ys => (eqL xs ys).map fun b => .bool (if neg then !b else b)
    | _, _ => none
  | .eqB neg x y => match rd e x, rd e y with
    | .bool a, .bool b => some (.bool (if neg then !(a == b) else a == b))
    | _, _ => none
  | .un o x => unV o (rd e x)
  | .conv k x => match rd e x with
    | .int _ n => some (wrapI k n)
    | _ => none
  | .extract x i => match rd e x with
    | .tup vs => match vs[i]? with
      | some v => if isPure v then some v else none
      | none => none
    | _ => none
  | .mm isMax args => match args.map (rd e) with
    | x :: l => mmI isMax x l
    | [] => none
  | .lenS x => (rowsOf e (rd e x)).map fun rows => .int .i64 rows.length
  | .lenStr x => match rd e x with
    | .str s => some (.int .i64 s.length)
    | _ => none
  | .part1 x off => match rd e x with
    | .agg cs => match cs[off]? with
      | some v => if isCell v then some v else none
      | none => none
    | _ => none
  | .partN x off n => match rd e x with
    | .agg cs => if off + n ≤ cs.length ∧ ((cs.drop off).take n).all isCell = true then some (.agg ((cs.drop off).take n)) else none
    | _ => none
  | _ => none

def AOp.xs : AOp → List AX
  | .move x | .assign x | .box x | .load1 x | .loadN _ x | .addOff x _ | .part1 x _ | .partN x _ _ | .un _ x | .conv _ x | .extract x _ | .lenS x | .lenStr x => [x]
  | .pick a b c => [a, b, c]
  | .store _ x y | .idxA _ _ x y | .idxS _ x y | .idxStr x y | .bin _ x y | .eqAgg _ x y | .eqB _ x y | .append _ _ x y | .makeSlice _ _ _ x y => [x, y]
  | .build _ ps => ps.map (·.2.2)
  | .buildSlice _ _ _ ps => ps.map (·.2)
  | .call _ args | .mm _ args => args
  | .callv x args => x :: args
  | .slice _ x a b c => x :: (a.toList ++ b.toList ++ c.toList)
  | .makeFunc _ cs => cs
  | .alloc _ | .bad => []

/-- A temporary that owns is frozen where it is looked at. -/
def fzV (e : Env) : AX → Env
  | .v s => match e s with
    | .own _ _ => e
    | .box _ => e
    | _ => if owns (e s) then upd (kill s e) s (freezeT (e s)) else e
  | _ => e
def fzT (e : Env) : AX → Env
  | .t s => match e s with
    | .tup _ => e
    | .box _ => e
    | _ => if owns (e s) then upd (kill s e) s (freezeT (e s)) else e
  | x => fzV e x
def fzs (e : Env) (xs : List AX) : Env := xs.foldl fzT e

def put (solo : Bool) (e : Env) (d : Option Nat) (v : AV) : Option Env :=
  match d with
  | none => some e
  | some d => if isOwner (e d) then (if solo then some (upd (kill d e) d (killR d v)) else none) else some (upd e d v)

def resolveR (s : Nat) (rows : List (List AV)) : AV → AV
  | .ref s' none => if s' = s then .sl false rows else .ref s' none
  | .ref s' c => if s' = s then .undef else .ref s' c
  | .ptr s' c r o => if s' = s then .undef else .ptr s' c r o
  | v => v
/-- What slot s owns is frozen. -/
def freezeRoot (e : Env) (s : Nat) (rows : List (List AV)) : Env := upd (fun s' => resolveR s rows (e s')) s (.sl false rows)

/-- An operand's value, taken with what it owns. -/
def take (solo : Bool) (e0 : Env) (x : AX) : Option (AV × Env) :=
  let e := fzV e0 x
  match rd e x with
  | .ref s none => match e s with
    | .own _ rows => if solo then some (.sl false rows, freezeRoot e s rows) else none
    | _ => none
  | .ref _ _ => none
  | .ptr _ _ _ _ => none
  | v => match x with
    | .t s => if owns (e s) then some (e s, drop e s) else some (v, e)
    | _ => some (v, e)

def killC (d k : Nat) : AV → AV
  | .ref s (some c) => if s = d ∧ c = k then .undef else .ref s (some c)
  | .ptr s (some c) r o => if s = d ∧ c = k then .undef else .ptr s (some c) r o
  | v => v
def killCs (d off n : Nat) : AV → AV
  | .ref s (some c) => if s = d ∧ off ≤ c ∧ c < off + n then .undef else .ref s (some c)
  | .ptr s (some c) r o => if s = d ∧ off ≤ c ∧ c < off + n then .undef else .ptr s (some c) r o
  | v => v

def storeAt (solo : Bool) (e : Env) (p : AV) (n : Nat) (nv : AV) : Option Env :=
  let new := cellsOf nv
  if new.length = n then
    match p with
    | .ptr s none row off => match e s with
      | .box cs =>
        if row = 0 ∧ off + n ≤ cs.length ∧ new.all isCellO = true then
          if ((cs.drop off).take n).any isOwn = true then
            if solo then some (upd (fun s' => killCs s off n (e s')) s (.box (lay cs off new))) else none
          else some (upd e s (.box (lay cs off new)))
        else none
      | .own esz rows => match rows[row]? with
        | some r => if off + n ≤ r.length ∧ new.all isCell = true then some (upd e s (.own esz (rows.set row (lay r off new)))) else none
        | none => none
      | _ => none
    | .ptr s (some k) row off => match e s with
      | .box cs => match cs[k]? with
        | some (.own esz rows) => match rows[row]? with
          | some r => if off + n ≤ r.length ∧ new.all isCell = true then some (upd e s (.box (cs.set k (.own esz (rows.set row (lay r off new)))))) else none
          | none => none
        | _ => none
      | _ => none
    | _ => none
  else none

/-- What is appended: a slice's rows, or a string's bytes. -/
def newRows (e : Env) : AV → Option (List (List AV))
  | .str s => some (s.map fun b => [.int .u8 b.toNat])
  | v => rowsOf e v
def room : Nat := 140737488355328
def grow (esz bytes : Nat) (rows new : List (List AV)) : Option AV :=
  if 0 < esz ∧ (rows ++ new).all (fun r => r.length == esz) = true ∧ (rows.length + new.length) * bytes ≤ room then some (.own esz (rows ++ new)) else none
def appendTo (solo : Bool) (e : Env) (esz bytes : Nat) (x : AX) (new : List (List AV)) : Option (AV × Env) :=
  match x with
  | .t s => match e s with
    | .own z rows => if z = esz ∨ rows = [] then (grow esz bytes rows new).map fun v => (v, drop e s) else none
    | .sl true rows => if new = [] then some (.sl true rows, e) else (grow esz bytes rows new).map fun v => (v, e)
    | .ref r none => match e r with
      | .own z rows => if solo ∧ z = esz then (grow esz bytes rows new).map fun v => (v, drop e r) else none
      | _ => none
    | .ref r (some k) => match e r with
      | .box cs => match cs[k]? with
        | some (.own z rows) => if solo ∧ z = esz then (grow esz bytes rows new).map fun v => (v, upd (fun s' => killC r k (e s')) r (.box (cs.set k .undef))) else none
        | _ => none
      | _ => none
    | _ => none
  | .c (.sl true []) => if new = [] then some (.sl true [], e) else (grow esz bytes [] new).map fun v => (v, e)
  | _ => none

def setParts : List AV → List (Nat × Nat × List AV) → Option (List AV)
  | cs, [] => some cs
  | cs, (off, n, new) :: l => if new.length = n ∧ off + n ≤ cs.length ∧ new.all isCellO = true then setParts (lay cs off new) l else none
def takeAll (solo : Bool) (e : Env) : List AX → Option (List AV × Env)
  | [] => some ([], e)
  | x :: l => match take solo e x with
    | some (v, e1) => if isVal v then
        match takeAll solo e1 l with
        | some (vs, e2) => some (v :: vs, e2)
        | none => none
      else none
    | none => none
def setRows : List (List AV) → List (Nat × List AV) → Option (List (List AV))
  | rows, [] => some rows
  | rows, (i, r) :: l => if i < rows.length ∧ r.all isCell = true then setRows (rows.set i r) l else none

def isRes : AV → Bool
  | .tup vs => vs.all isVal
  | v => isVal v

/-- The first argument that refers to what a slot owns. -/
def oneRoot (e : Env) : List AX → Option Nat
  | [] => none
  | x :: l => match rd e x with
    | .ref s none => some s
    | _ => oneRoot e l
def argsOf (e : Env) (args : List AX) : Option (List AV) := allSome (args.map fun x => asArg e (rd e x))
/-- Behind a call: its result is put; where it may lead into what an argument referred to, that is frozen. -/
def afterCall (solo : Bool) (e : Env) (args : List AX) (d : Option Nat) (r : AV) : Option Env :=
  if isRes r then
    if flatT r || args.all (fun x => !isRef (rd e x)) then put solo e d r
    else match oneRoot e args with
      | some s => match e s with
        | .own _ rows => if (solo && args.all (fun x => match rd e x with | .ref s' none => s' == s | v => !isRef v)) = true then put solo (freezeRoot e s rows) d r else none
        | _ => none
      | none => none
  else none

def sliceV (e : Env) (esz : Nat) (v : AV) (lo hi mx : Option AX) : Option AV :=
  match oNat e lo, oNat e hi, oNat e mx with
  | some lo, some hi, some mx =>
    match v with
    | .str s => if mx.isNone ∧ lo.getD 0 ≤ hi.getD s.length ∧ hi.getD s.length ≤ s.length then some (.str ((s.take (hi.getD s.length)).drop (lo.getD 0))) else none
    | .sl full rows =>
      if lo.getD 0 ≤ hi.getD rows.length ∧ hi.getD rows.length ≤ rows.length ∧ rows.all (fun r => r.length == esz) = true then
        match mx with
        | none => some (.sl (full && hi.getD rows.length == rows.length) ((rows.take (hi.getD rows.length)).drop (lo.getD 0)))
        | some m => if hi.isSome ∧ hi.getD rows.length ≤ m ∧ m ≤ rows.length then some (.sl (m == hi.getD rows.length) ((rows.take (hi.getD rows.length)).drop (lo.getD 0))) else none
      else none
    | _ => none
  | _, _, _ => none

def isTaking : AOp → Bool
  | .move _ | .assign _ | .box _ | .store _ _ _ | .build _ _ | .buildSlice _ _ _ _ | .append _ _ _ _ | .extract _ _ => true
  | _ => false

/-- One operation. -/
def stepOp (C : Nat → List AV → Option AV) (solo : Bool) (e : Env) (d : Option Nat) : AOp → Option Env
  | .move x | .assign x => match x with
    | .t s => if owns (e s) then put solo (drop e s) d (e s) else put solo e d (rd e x)
    | x => put solo (fzV e x) d (rd (fzV e x) x)
  | .alloc zero => if zero.all isCell = true then put solo e d (.box zero) else none
  | .box x => match take solo e x with
    | some (v, e1) => if isVal v then put solo e1 d (.box (cellsOf v)) else none
    | none => none
  | .store n x v => match rd e x, take solo e v with
    | p, some (nv, e1) => if isVal nv then storeAt solo e1 p n nv else none
    | _, none => none
  | .build zero parts => match takeAll solo e (parts.map (·.2.2)) with
    | some (vs, e1) => match setParts zero ((parts.zip vs).map fun (q, v) => (q.1, q.2.1, cellsOf v)) with
      | some cs => if zero.all isCell = true then put solo e1 d (.agg cs) else none
      | none => none
    | none => none
  | .buildSlice esz zero len parts => match takeAll solo e (parts.map (·.2)) with
    | some (vs, e1) => match setRows (List.replicate len zero) ((parts.zip vs).map fun (q, v) => (q.1, (cellsOf v).map freezeC)) with
      | some rows => if rows.all (fun r => r.length == esz) = true ∧ zero.all isCell = true ∧ len * esz ≤ 16777216 then put solo e1 d (.own esz rows) else none
      | none => none
    | none => none
  | .extract x i => match x with
    | .t s => match e s with
      | .tup vs => match vs[i]? with
        | some v => if isPure v then put solo e d v else if isVal v ∧ solo then put solo (upd e s (.tup (vs.set i .undef))) d v else none
        | none => none
      | _ => none
    | _ => none
  | .call f args =>
    let e1 := fzs e args
    match argsOf e1 args with
    | some l => match C f l with
      | some r => afterCall solo e1 args d r
      | none => none
    | none => none
  | .callv x args =>
    let e1 := fzs e args
    match rd e1 x, argsOf e1 args with
    | .fn f caps, some l => match C f (l ++ caps) with
      | some r => afterCall solo e1 args d r
      | none => none
    | _, _ => none
  | .append esz bytes x y =>
    let e1 := fzs e [y]
    match newRows e1 (rd e1 y) with
    | some new => match appendTo solo e1 esz bytes x new with
      | some (v, e2) => put solo e2 d v
      | none => none
    | none => none
  | .makeSlice esz bytes zero l c => match natI (rd e l), natI (rd e c) with
    | some l, some c => if l ≤ c ∧ c * bytes ≤ room ∧ zero.length = esz ∧ zero.all isCell = true then put solo e d (.own esz (List.replicate l zero)) else none
    | _, _ => none
  | .slice esz x lo hi mx =>
    match take solo e x with
    | some (v, e1) => match sliceV e1 esz (freeze1 v) lo hi mx with
      | some r => put solo e1 d r
      | none => none
    | none => none
  | .makeFunc f caps =>
    match allSome (caps.map fun x => match rd e x with | .fn g l => some (.fn g l) | .rptr cs o => some (.rptr cs o) | _ => none) with
    | some l => put solo e d (.fn f l)
    | none => none
  | .bad => none
  | op =>
    let e1 := fzs e op.xs
    match val e1 op with
    | some v => put solo e1 d v
    | none => none

/-- F: sets its slot by what its operands read as; R: by that and by what memory holds; N: takes what its operands own, stores; X: all else. -/
inductive Kd where
  | F
  | R
  | N
  | X
def kindOf : AOp → Kd
  | .move _ | .assign _ | .pick _ _ _ | .alloc _ | .addOff _ _ | .idxA _ _ _ _ | .idxStr _ _ | .part1 _ _ | .partN _ _ _ | .bin _ _ _ | .eqAgg _ _ _ | .eqB _ _ _ | .un _ _ | .conv _ _ | .extract _ _ | .mm _ _ | .lenStr _
  | .makeSlice _ _ _ _ _ | .makeFunc _ _ => .F
  | .load1 _ | .loadN _ _ | .idxS _ _ _ | .lenS _ | .call _ _ | .callv _ _ => .R
  | .box _ | .store _ _ _ | .build _ _ => .N
  | _ => .X
def softX (e : Env) : AX → Bool
  | .t s => !owns (e s)
  | .v s => match e s with
    | .own _ _ => true
    | .box _ => true
    | v => !owns v
  | .c x => !owns x
def softN (e : Env) : AX → Bool
  | .t s => match e s with
    | .box _ => false
    | _ => true
  | x => softX e x
/-- What a region that draws its order lets an operation find that is not ordered against all others. -/
def allow (e : Env) (o : AOp) : Bool :=
  match kindOf o with
  | .N => o.xs.all (softN e)
  | .X => false
  | _ => o.xs.all (softX e)
def act (C : Nat → List AV → Option AV) (e : Env) (o : AOpr) : Option Env :=
  if (o.solo || allow e o.op) = true then stepOp C o.solo e o.dst o.op else none
def step (C : Nat → List AV → Option AV) (e : Env) (o : AOpr) : Option Env :=
  match o.guard with
  | none => act C e o
  | some (g, want) => match e g with
    | .bool b => if b = want then act C e o else put o.solo e o.dst .undef
    | _ => none

def runOps (C : Nat → List AV → Option AV) : List AOpr → Env → Option Env
  | [], e => some e
  | o :: l, e => match step C e o with
    | some e1 => runOps C l e1
    | none => none

inductive AExit where
  | normal
  | exit (id : Nat)
  | ret

def iter (f : Env → Option (AExit × Env)) : Nat → Env → Option (AExit × Env)
  | 0, _ => none
  | n + 1, e => match f e with
    | some (.normal, e1) => iter f n e1
    | r => r

def exec (C : Nat → List AV → Option AV) (K : List Nat) (N : Nat) : ACode → Env → Option (AExit × Env)
  | .skip, e => some (.normal, e)
  | .region A ops, e | .draw A ops, e => match runOps C ops (clean A e) with
    | some e1 => some (.normal, restrict K e1)
    | none => none
  | .seq a b, e => match exec C K N a e with
    | some (.normal, e1) => exec C K N b e1
    | r => r
  | .cond c a b, e => match rd e c with
    | .bool true => exec C K N a e
    | .bool false => exec C K N b e
    | _ => none
  | .block id a, e => match exec C K N a e with
    | some (.exit j, e1) => if j = id then some (.normal, e1) else some (.exit j, e1)
    | r => r
  | .loop a, e => iter (exec C K N a) N e
  | .exit id, e => some (.exit id, e)
  | .ret, e => some (.ret, e)
  | .bad, _ => none

def resOne (e : Env) : ARes → Option (AV × Env)
  | .tmp s => match e s with
    | .ref r none => match e r with
      | .own z rows => some (.own z rows, drop e r)
      | _ => none
    | .ref _ _ => none
    | .ptr _ _ _ _ => none
    | .box _ => none
    | .undef => none
    | .tup _ => none
    | v => some (v, drop e s)
  | .cell s => match e s with
    | .box [v] => if isCellO v then some (v, drop e s) else none
    | _ => none
  | .cells s n => match e s with
    | .box cs => if cs.all isCellO = true ∧ cs.length = n then some (.agg cs, drop e s) else none
    | _ => none
def resAll (e : Env) : List ARes → Option (List AV)
  | [] => some []
  | r :: l => match resOne e r with
    | some (v, e1) => (resAll e1 l).map (v :: ·)
    | none => none
def one : List AV → AV
  | [v] => v
  | vs => .tup vs
def results (e : Env) (af : AFn) : Option AV :=
  match resAll e af.res with
  | some vs => some (if af.fresh then one vs else freezeT (one vs))
  | none => none

def entry (args : List AV) : Env := mkE (args.zipIdx.map fun (v, i) => (i, v))
def runFn (C : Nat → List AV → Option AV) (N : Nat) (af : AFn) (args : List AV) : Option AV :=
  if args.length = af.np ∧ args.all isPure = true then
    match exec C af.keep N af.body (entry args) with
    | some (.normal, e) | some (.ret, e) => results e af
    | _ => none
  else none

/-- A program: the functions that are known. -/
abbrev AProg := Nat → Option AFn
def callN (A : AProg) : Nat → Nat → List AV → Option AV
  | 0, _, _ => none
  | n + 1, f, args => match A f with
    | some af => runFn (callN A n) n af args
    | none => none

def refRoot : AV → Option Nat
  | .ref s _ => some s
  | .ptr s _ _ _ => some s
  | _ => none
def okX (K : List Nat) : AX → Bool
  | .t s => !inA K s
  | .v s => inA K s
  | .c x => (refRoot x).isNone
def slotsX : AX → List Nat
  | .t s => [s]
  | .v s => [s]
  | .c _ => []
def slotsL (xs : List AX) : List Nat := xs.flatMap slotsX
def tempsX : AX → List Nat
  | .t s => [s]
  | _ => []
def tempsL (xs : List AX) : List Nat := xs.flatMap tempsX

def AOpr.ins (o : AOpr) : List Nat := slotsL o.op.xs ++ (match o.guard with | some (g, _) => [g] | none => [])
def AOpr.wr (o : AOpr) : List Nat := o.dst.toList ++ (match kindOf o.op with | .N => tempsL o.op.xs | _ => [])
def disj (a b : List Nat) : Bool := a.all fun x => !inA b x
def kinds : Kd → Kd → Bool
  | .F, .F | .F, .R | .R, .F | .R, .R | .F, .N | .N, .F => true
  | _, _ => false
def indep (k i : AOpr) : Bool := !k.solo && !i.solo && kinds (kindOf k.op) (kindOf i.op) && disj k.wr i.ins && disj i.wr k.ins && disj k.dst.toList i.dst.toList

end Go.AM
