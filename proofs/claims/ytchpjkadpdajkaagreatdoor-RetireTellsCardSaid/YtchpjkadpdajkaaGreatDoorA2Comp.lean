/- A2Comp: the model's elaborated code as the typed machine's. No statement of the seat is proved here. -/
import Derived.Test.YtchpjkadpdajkaaGreatDoorA2Run
set_option linter.unusedSimpArgs false
set_option linter.unusedVariables false
namespace Go.A2
structure Cx where
 X:Tab
 ty:TypeId→Option X.Ty
section
variable (P:Program) (Γ:Cx)
def sizeO (t:TypeId):Option Nat:=(P.info? t).map (·.size)
def bytesO (t:TypeId):Option Nat:=(P.info? t).map (·.bytes)
def isAggT (t:TypeId):Option Bool:=
 match P.underlying t with
 | some (.struct _) | some (.array _ _)=>some true
 | some _=>some false
 | none=>none
def aggB {ι:Type}:Ty ι→Bool
 | .named _=>true
 | .arr _ _=>true
 | _=>false
def tyC (t:TypeId):Option Γ.X.Ty:=
 match Γ.ty t,sizeO P t,isAggT P t with
 | some T,some n,some b=>if n=Γ.X.sz T∧b=aggB T then some T else none
 | _,_,_=>none
def tupOf (f:(T:Γ.X.Ty)→List Value→Option (Γ.X.den T×List Value)):(ts:List Γ.X.Ty)→List Value→Option (Γ.X.Tup ts×List Value)
 | [],l=>some ((),l)
 | t :: ts,l=>match f t l with
  | some (v,l1)=>match tupOf f ts l1 with
   | some (vs,l2)=>some ((v,vs),l2)
   | none=>none
  | none=>none
def arrOf {α:Type} (f:List Value→Option (α×List Value)):Nat→List Value→Option (List α×List Value)
 | 0,l=>some ([],l)
 | n+1,l=>match f l with
  | some (v,l1)=>match arrOf f n l1 with
   | some (vs,l2)=>some (v :: vs,l2)
   | none=>none
  | none=>none
theorem arrOf_length {α:Type} {f:List Value→Option (α×List Value)}:∀ {n:Nat} {l l':List Value} {vs:List α},arrOf f n l=some (vs,l')→vs.length=n
 | 0,l,l',vs,h=>by simp [arrOf] at h;obtain ⟨rfl,_⟩:=h;rfl
 | n+1,l,l',vs,h=>by
  simp only [arrOf] at h
  split at h
  ·split at h
   ·rename_i h2
    simp only [Option.some.injEq,Prod.mk.injEq] at h
    rw [←h.1,List.length_cons,arrOf_length h2]
   ·cases h
  ·cases h
def valC:Nat→(T:Γ.X.Ty)→List Value→Option (Γ.X.den T×List Value)
 | 0,_,_=>none
 | _+1,.int k,.int k' n :: l=>if k=k'∧k.wrap n=n then some (W.of k n,l) else none
 | _+1,.bool,.bool b :: l=>some (b,l)
 | _+1,.str,.string s :: l=>if h:s.data.toList.length≤room then some ((⟨s.data.toList,h⟩:Str),l) else none
 | _+1,.slice _ _,.slice none 0 0 :: l=>some (Sl.nil,l)
 | d+1,.named i,l=>match tupOf Γ (valC d) (Γ.X.fields i) l with
  | some (x,l1)=>some (Γ.X.of i x,l1)
  | none=>none
 | d+1,.arr n t,l=>match h:arrOf (valC d t) n l with
  | some (vs,l1)=>some ((⟨vs,arrOf_length h⟩:Arr n (Γ.X.den t)),l1)
  | none=>none
 | _,_,_=>none
def depthC:Nat:=12
def cvC (T:Option Γ.X.Ty) (v:Value):Option (AV Γ.X):=
 match v with
 | .bool b=>some (.val .bool b .no)
 | .int k n=>if k.wrap n=n then some (.val (.int k) (W.of k n) .no) else none
 | .string s=>if h:s.data.toList.length≤room then some (.val .str (⟨s.data.toList,h⟩:Str) .no) else none
 | .slice none 0 0=>match T with
  | some (.slice b t)=>some (.val (.slice b t) Sl.nil .full)
  | _=>none
 | .agg cs=>match T with
  | some T=>if aggB T=true then match valC Γ depthC T cs.toList with
    | some (x,[])=>some (.val T x .no)
    | _=>none
   else none
  | none=>none
 | _=>none
def isNf:Value→Bool
 | .nilFunc=>true
 | _=>false
def cvX (T:Option Γ.X.Ty) (v:Value):Option (AV Γ.X):=if isNf v then some .undef else cvC Γ T v
def glC (g:Nat):Option (AV Γ.X):=
 match Γ.X.gl.find? (fun q=>q.1==g) with
 | some (_,T,cs)=>match valC Γ depthC T cs with
  | some (v,[])=>some (.rptr T v)
  | _=>none
 | none=>none
def inK (K:List Nat) (s:Nat):Bool:=K.any (·==s)
def compX (K:List Nat) (T:Option Γ.X.Ty):Operand→Option (AX Γ.X)
 | .tmp t=>some (if inK K t then .v t else .t t)
 | .const v=>(cvX Γ T v).map .c
 | .func f=>some (.c (.fn f [] []))
 | .global g=>(glC Γ g).map .c
def zeroO (t:TypeId):Option (List Value):=
 match P.info? t with
 | some i=>i.zero.map fun z=>z.cells.toList
 | none=>none
def zc:Nat→Γ.X.Ty→Option (List Value)
 | 0,_=>none
 | _+1,.int k=>some [.int k 0]
 | _+1,.bool=>some [.bool false]
 | _+1,.str=>some [.string ⟨#[]⟩]
 | d+1,.named i=>(allO (zc d) (Γ.X.fields i)).map List.flatten
 | d+1,.arr n t=>(zc d t).map fun c=>(List.replicate n c).flatten
 | _+1,.slice _ _=>some [.slice none 0 0]
 | _+1,.map _ _=>some [.map none]
def eqZ:Value→Value→Bool
 | .int k n,.int k' m=>k==k'&&n==m
 | .bool a,.bool b=>a==b
 | .string s,.string t=>s.data.toList==t.data.toList
 | .slice none 0 0,.slice none 0 0=>true
 | .map none,.map none=>true
 | _,_=>false
def eqZs:List Value→List Value→Bool
 | [],[]=>true
 | x :: xs,y :: ys=>eqZ x y&&eqZs xs ys
 | _,_=>false
def zeroOk (t:TypeId) (T:Γ.X.Ty):Bool:=
 match zeroO P t,zc Γ depthC T with
 | some l,some l'=>eqZs l l'
 | _,_=>false
def fldOk (fs:Array Field) (i:Γ.X.ι) (j:Nat):Bool:=
 match fs[j]?,(Γ.X.fields i)[j]? with
 | some f,some T=>decide (f.offset=Γ.X.off i j)&&(match tyC P Γ f.type with | some T'=>decide (T'=T) | none=>false)&&decide (0 < Γ.X.sz T)
 | _,_=>false
def partsC (K:List Nat) (f:Nat→Option Γ.X.Ty):List (Nat×Operand)→Option (List (Nat×AX Γ.X))
 | []=>some []
 | (j,x) :: l=>match f j with
  | some T=>match compX Γ K (some T) x,partsC K f l with
   | some y,some ys=>some ((j,y) :: ys)
   | _,_=>none
  | none=>none
def argsC (K:List Nat):List TypeId→List Operand→Option (List (AX Γ.X))
 | _,[]=>some []
 | ts,x :: l=>match compX Γ K (ts.head?.bind Γ.ty) x,argsC K ts.tail l with
  | some y,some ys=>some (y :: ys)
  | _,_=>none
def oX (K:List Nat):Option Operand→Option (Option (AX Γ.X))
 | none=>some none
 | some x=>(compX Γ K none x).map some
def isStrT (t:TypeId):Bool:=match P.underlying t with | some .string=>true | _=>false
def isU8 (t:TypeId):Bool:=match P.underlying t with | some (.int .u8)=>true | _=>false
def isIntT (t:TypeId):Bool:=match P.underlying t with | some (.int _)=>true | _=>false
def eqFlds (fs:Array Field) (i:Γ.X.ι) (f:TypeId→Γ.X.Ty→Bool):List (Γ.X.Ty)→Nat→Bool
 | [],j=>decide (j=fs.size)
 | T :: l,j=>(match fs[j]? with | some q=>q.name != "_"&&f q.type T | none=>false)&&fldOk P Γ fs i j&&eqFlds fs i f l (j+1)
def eqFit:Nat→TypeId→Γ.X.Ty→Bool
 | 0,_,_=>false
 | d+1,t,T=>(match tyC P Γ t with | some T'=>decide (T'=T) | none=>false)&&match P.underlying t,T with
  | some (.int _),.int _=>true
  | some .bool,.bool=>true
  | some .string,.str=>true
  | some (.struct fs),.named i=>!P.stoodInHeld t&&Γ.X.flatD i&&eqFlds P Γ fs i (eqFit d) (Γ.X.fields i) 0
  | some (.array n el),.arr m T=>decide (n=m)&&eqFit d el T
  | _,_=>false
def keyC (t:TypeId) (T:Γ.X.Ty):Bool:=
 match P.underlying t,T with
 | some (.int _),.int _=>true
 | some .string,.str=>true
 | _,_=>false
def zShape (t:TypeId) (T:Γ.X.Ty):Bool:=
 match (P.info? t).bind (·.zero) with
 | some (.agg _)=>aggB T
 | some (.tuple _)=>false
 | some _=>!aggB T
 | none=>false
def mapC (t:TypeId):Option (Γ.X.Ty×Γ.X.Ty):=
 match P.underlying t,Γ.ty t with
 | some (.map kt et),some (.map k T)=>if keyC P Γ kt k&&zeroOk P Γ et T&&zShape P Γ et T then some (k,T) else none
 | _,_=>none
def funT (t:TypeId):Bool:=
 match sizeO P t,isAggT P t,zeroO P t with
 | some 1,some false,some [_]=>true
 | _,_,_=>false
def viewA (P:Program) (Γ:Cx) (n:Nat) (el:TypeId) (x:AX Γ.X) (lo hi:Option (AX Γ.X)):Option Γ.X.Ty→Option (AOp Γ.X)
 | some (.slice b T)=>if sizeO P el=some (Γ.X.sz T) then some (.arrS b n T x lo hi) else none
 | _=>none
def appZ (P:Program) (Γ:Cx) (el:TypeId) (b:Nat) (T:Γ.X.Ty) (x:AX Γ.X):AX Γ.X→Option (AOp Γ.X)
 | .c (.val (.int .i64) n .no)=>match Sl.mk? b (List.replicate (W.n (k:=.i64) n).toNat (Γ.X.zero T)) with
  | some l=>if tyC P Γ el=some T∧bytesO P el=some b∧0 < b∧zeroOk P Γ el T=true∧0 < W.n (k:=.i64) n then some (.append b T x (.c (.val (.slice b T) l .no))) else none
  | none=>none
 | _=>none
def compOp (K:List Nat) (ty:TypeId):Op→Option (AOp Γ.X)
 | .makeMap t none=>(mapC P Γ t).map fun q=>.makeMap q.1 q.2
 | .lookup t x i ok=>match mapC P Γ t with
  | some (k,T)=>match compX Γ K none x,compX Γ K (some k) i with
   | some x,some i=>some (.mlook k T ok x i)
   | _,_=>none
  | none=>none
 | .mapUpdate t x i v=>match mapC P Γ t with
  | some (k,T)=>match compX Γ K none x,compX Γ K (some k) i,compX Γ K (some T) v with
   | some x,some i,some v=>some (.mset k T x i v)
   | _,_,_=>none
  | none=>none
 | .move x=>(compX Γ K (Γ.ty ty) x).map .move
 | .assign x=>(compX Γ K (Γ.ty ty) x).map .move
 | .pick c a b=>match compX Γ K none c,compX Γ K none a,compX Γ K none b with
  | some c,some a,some b=>some (.pick c a b)
  | _,_,_=>none
 | .alloc t=>match tyC P Γ t with
  | some T=>if zeroOk P Γ t T then some (.alloc T) else none
  | none=>if funT P t then some .allocF else none
 | .box t x=>match tyC P Γ t with
  | some T=>(compX Γ K (some T) x).map (.box T)
  | none=>match P.underlying t with
   | some (.pointer _)=>some .junk
   | _=>none
 | .load t x=>match tyC P Γ t with
  | some T=>(compX Γ K none x).map (.load T)
  | none=>if funT P t then (compX Γ K none x).map .loadF else none
 | .store t x v=>match tyC P Γ t with
  | some T=>match compX Γ K none x,compX Γ K (some T) v with
   | some x,some v=>some (.store T x v)
   | _,_=>none
  | none=>if funT P t then match compX Γ K none x,compX Γ K none v with
    | some x,some v=>some (.storeF x v)
    | _,_=>none
   else none
 | .fieldAddr s x j=>match P.underlying s,Γ.ty s,compX Γ K none x with
  | some (.struct fs),some (.named i),some x=>if fldOk P Γ fs i j then some (.fld i j x) else none
  | _,_,_=>none
 | .indexAddr t x i=>match P.underlying t,Γ.ty t,compX Γ K none x,compX Γ K none i with
  | some (.array n el),some (.arr m T),some x,some i=>if n=m∧sizeO P el=some (Γ.X.sz T) then some (.idxA n T x i) else none
  | some (.slice el),some (.slice b T),some x,some i=>if sizeO P el=some (Γ.X.sz T) then some (.idxS b T x i) else none
  | _,_,_,_=>none
 | .index t x i=>match P.underlying t,compX Γ K (Γ.ty t) x,compX Γ K none i with
  | some .string,some x,some i=>some (.idxStr x i)
  | some (.array n el),some x,some i=>match Γ.ty t with
   | some (.arr m T)=>if n=m∧tyC P Γ el=some T then some (.idxV n T x i) else none
   | _=>none
  | _,_,_=>none
 | .field t x j=>match P.underlying t,Γ.ty t,compX Γ K (Γ.ty t) x with
  | some (.struct fs),some (.named i),some x=>if fldOk P Γ fs i j then some (.part i j x) else none
  | _,_,_=>none
 | .binOp o t x y _=>
  if isIntT P t then match compX Γ K none x,compX Γ K none y with
   | some x,some y=>some (.bin o x y)
   | _,_=>none
  else match o with
   | .eql | .neq=>match tyC P Γ t with
    | some T=>if eqFit P Γ depthC t T&&!P.eqGuardType P.depth t then match compX Γ K (some T) x,compX Γ K (some T) y with
      | some x,some y=>some (.eq T (match o with | .neq=>true | _=>false) x y)
      | _,_=>none
     else none
    | none=>none
   | .add=>if isStrT P t=true then match compX Γ K none x,compX Γ K none y with
     | some x,some y=>some (.cat x y)
     | _,_=>none
    else none
   | _=>none
 | .unOp o _ x=>(compX Γ K none x).map (.un o)
 | .convert s d x=>match P.underlying s,P.underlying d,compX Γ K none x with
  | some (.int _),some (.int k),some x=>some (.conv k x)
  | some (.slice el),some .string,some x=>if isU8 P el=true then some (.strB x) else none
  | _,_,_=>none
 | .build t parts=>match P.underlying t,tyC P Γ t with
  | some (.struct fs),some (.named i)=>if zeroOk P Γ t (.named i)&&parts.toList.all (fun q=>fldOk P Γ fs i q.1)&&(allO (fun f=>sizeO P f.type) fs.toList).isSome then
    (partsC Γ K (fun j=>(Γ.X.fields i)[j]?) parts.toList).map (.build i)
   else none
  | some (.array n el),some (.arr m T)=>if n=m∧zeroOk P Γ t (.arr m T)=true∧sizeO P el=some (Γ.X.sz T) then
    (partsC Γ K (fun j=>if j < n then some T else none) parts.toList).map (.buildA m T)
   else none
  | _,_=>none
 | .buildSlice t len parts=>match P.underlying t,Γ.ty t with
  | some (.slice el),some (.slice b T)=>if tyC P Γ el=some T∧bytesO P el=some b∧0 < b∧zeroOk P Γ el T=true then
    (partsC Γ K (fun j=>if j < len then some T else none) parts.toList).map (.buildSlice b T len)
   else none
  | _,_=>none
 | .extract x i=>(compX Γ K none x).map fun x=>.extract x i
 | .makeSlice t l c=>match P.underlying t,Γ.ty t,compX Γ K none l,compX Γ K none c with
  | some (.slice el),some (.slice b T),some l,some c=>if tyC P Γ el=some T∧bytesO P el=some b∧0 < b∧zeroOk P Γ el T=true then some (.makeSlice b T l c) else none
  | _,_,_,_=>none
 | .slice t x lo hi mx=>match P.underlying t,compX Γ K (Γ.ty t) x,oX Γ K lo,oX Γ K hi,oX Γ K mx with
  | some .string,some x,some lo,some hi,some mx=>some (.slice .str x lo hi mx)
  | some (.slice el),some x,some lo,some hi,some mx=>match Γ.ty t with
   | some (.slice b T)=>if sizeO P el=some (Γ.X.sz T) then some (.slice (.slice b T) x lo hi mx) else none
   | _=>none
  | some (.array n el),some x,some lo,some hi,some none=>viewA P Γ n el x lo hi (Γ.ty ty)
  | _,_,_,_,_=>none
 | .makeFunc (.func f) first caps=>match allO (compX Γ K none) first.toList,allO (compX Γ K none) caps.toList with
  | some a,some b=>some (.makeFunc f a b)
  | _,_=>none
 | .nilCheck x=>(compX Γ K none x).map .nilCheck
 | .call c=>match c.callee with
  | .value (.func f)=>(argsC Γ K (((P.funcs[f]?).map (·.params.toList)).getD []) c.args.toList).map (.call f)
  | .value x=>match compX Γ K none x,argsC Γ K [] c.args.toList with
   | some x,some args=>some (.callv x args)
   | _,_=>none
  | .builtin .max=>(argsC Γ K [] c.args.toList).map (.mm true)
  | .builtin .min=>(argsC Γ K [] c.args.toList).map (.mm false)
  | .builtin .len=>match c.argTypes[0]?,argsC Γ K c.argTypes.toList c.args.toList with
   | some t,some [x]=>match P.underlying t with
    | some .string=>some (.len true x)
    | some (.slice _)=>some (.len false x)
    | some (.map _ _)=>(mapC P Γ t).map fun q=>.mlen q.1 q.2 x
    | _=>none
   | _,_=>none
  | .builtin .delete=>match c.argTypes.toList,argsC Γ K c.argTypes.toList c.args.toList with
   | [t,_],some [x,y]=>(mapC P Γ t).map fun q=>.mdel q.1 q.2 x y
   | _,_=>none
  | .builtin .clear=>match c.argTypes.toList,argsC Γ K c.argTypes.toList c.args.toList with
   | [t],some [x]=>match P.underlying t,Γ.ty t with
    | some (.slice el),some (.slice b T)=>if sizeO P el=some (Γ.X.sz T)∧zeroOk P Γ el T=true then some (.clr b T x) else none
    | _,_=>none
   | _,_=>none
  | .builtin .append=>match c.argTypes.toList,argsC Γ K c.argTypes.toList c.args.toList with
   | [t,t'],some [x,y]=>match P.underlying t,P.underlying t',Γ.ty t with
    | some (.slice el),some (.slice _),some (.slice b T)=>if tyC P Γ el=some T∧bytesO P el=some b∧0 < b∧zeroOk P Γ el T=true then some (.append b T x y) else none
    | some (.slice el),some (.int _),some (.slice b T)=>appZ P Γ el b T x y
    | _,_,_=>none
   | _,_=>none
  | .builtin .copy=>match c.argTypes.toList,argsC Γ K c.argTypes.toList c.args.toList with
   | [t,t'],some [x,y]=>match P.underlying t,P.underlying t',Γ.ty t with
    | some (.slice el),some (.slice _),some (.slice b T)=>if sizeO P el=some (Γ.X.sz T) then some (.copy b T x y) else none
    | _,_,_=>none
   | _,_=>none
  | _=>none
 | _=>none
def dstOk (n:Nat) (lent:List Nat) (o:Oper):Bool:=
 (match o.dst with | some d=>decide (d < n)&&!inK lent d | none=>true)&&(match o.op with | .store _ _ _=>o.dst.isNone | _=>true)
def copied (ops:Array Oper) (o:Oper):Bool:=
 match o.dst with
 | some d=>ops.any fun o'=>match o'.op with
  | .call c=>match c.callee with
   | .builtin .copy=>match c.args.toList with
    | [Operand.tmp d',Operand.tmp d2]=>d==d' || d==d2
    | Operand.tmp d' :: _=>d==d'
    | [_,Operand.tmp d2]=>d==d2
    | _=>false
   | .builtin .clear=>match c.args.toList with
    | [Operand.tmp d']=>d==d'
    | _=>false
   | _=>false
  | _=>false
 | none=>false
def movedO (K:List Nat) (o:Oper):Bool:=match o.dst with
 | some d=>inK K (1000000+d)
 | none=>false
def viewIf (z m:Bool):AOp Γ.X→AOp Γ.X
 | .slice (.slice b T) x lo hi none=>if z then .view b T x lo hi else .slice (.slice b T) x lo hi none
 | .load T x=>if m then .loadM T x else .load T x
 | .move x=>if m then .moveT x else .move x
 | op=>op
def compOper (K:List Nat) (n:Nat) (lent:List Nat) (ops:Array Oper) (o:Oper):Option (AOpr Γ.X):=
 if dstOk n lent o=true then
  match o.guard with
  | none=>some { dst:=o.dst,op:=viewIf Γ (copied ops o) (movedO K o) ((compOp P Γ K o.type o.op).getD .bad),guard:=none }
  | some (g,want)=>match (ops[g]?).bind (·.dst) with
   | some t=>some { dst:=o.dst,op:=viewIf Γ (copied ops o) (movedO K o) ((compOp P Γ K o.type o.op).getD .bad),guard:=some (t,want) }
   | none=>none
 else none
def mask (acc:List Nat) (o:Oper):Nat:=o.after.toList.foldl (fun s e=>if Region.binds .any e then s ||| 2 ^ e.on ||| acc.getD e.on 0 else s) 0
def masksFrom:List Nat→List Oper→List Nat
 | acc,[]=>acc
 | acc,o :: l=>masksFrom (acc++[mask acc o]) l
def masks (ops:List Oper):List Nat:=masksFrom [] ops
def aheadOk (ops:Array Oper):Bool:=ops.toList.zipIdx.all fun q=>q.1.after.all fun e=>!Region.binds .any e || decide (e.on < q.2)
abbrev Marks:=Nat→Option (List (Nat×Sh))
def markIt (M:Marks) (i:Nat) (a:ACode Γ.X):ACode Γ.X:=
 match M i with
 | some D=>.mark i D a
 | none=>a
def trimIt (M:Marks) (i:Nat) (a:ACode Γ.X):ACode Γ.X:=
 match M i with
 | some D=>.trim D a
 | none=>a
def dfrL:List Oper→Option (List Oper×Nat)
 | []=>none
 | o :: l=>match l with
  | []=>match o.op,o.dst,o.guard with
   | .defer c,none,none=>match c.callee,c.args.toList with
    | .value (.tmp t),[]=>some ([],t)
    | _,_=>none
   | _,_,_=>none
  | _=>(dfrL l).map fun q=>(o :: q.1,q.2)
def dfrOf:Code→Option (Array Oper×List Oper×Nat)
 | .region _ ops false=>(dfrL ops.toList).map fun q=>(ops,q.1,q.2)
 | _=>none
def compCode (M:Marks) (K:List Nat) (n:Nat) (lent:List Nat):Nat→Code→Option (ACode Γ.X×Nat)
 | i,.skip=>some (.skip,i)
 | i,.region _ ops false=>match allO (compOper P Γ K n lent ops) ops.toList with
  | some l=>some (.region l,i)
  | none=>none
 | i,.region _ ops true=>match allO (compOper P Γ K n lent ops) ops.toList with
  | some l=>if aheadOk ops then some (.draw l (masks ops.toList),i) else none
  | none=>none
 | i,.seq a b=>match dfrOf a with
  | some (ops,l,t)=>match allO (compOper P Γ K n lent ops) l,compCode M K n (t :: lent) (i+2) b with
   | some al,some (b,k)=>if t < n then some (.seq (.region al) (.dfr t (markIt Γ M i (trimIt Γ M (i+1) b))),k) else none
   | _,_=>none
  | none=>match compCode M K n lent i a with
   | some (a,j)=>match compCode M K n lent (j+2) b with
    | some (b,k)=>some (.seq a (markIt Γ M j (trimIt Γ M (j+1) b)),k)
    | none=>none
   | none=>none
 | i,.cond c a b=>match compX Γ K none c,compCode M K n lent i a with
  | some c,some (a,j)=>match compCode M K n lent j b with
   | some (b,k)=>some (.cond c a b,k)
   | none=>none
  | _,_=>none
 | i,.block id a=>match compCode M K n lent i a with
  | some (a,j)=>some (.block id a,j)
  | none=>none
 | i,.loop a=>match compCode M K n lent (i+3) a with
  | some (a,j)=>some (markIt Γ M i (trimIt Γ M (i+1) (.loop (markIt Γ M (i+2) a))),j)
  | none=>none
 | i,.exit id=>some (.exit id,i)
 | i,.ret=>some (.ret,i)
 | i,_=>some (.bad,i)
def compRes:ResultVar×Bool→Option (ARes Γ.X×Bool)
 | (.tmp t,z)=>some (.tmp t,z)
 | (.cell a t,z)=>(tyC P Γ t).map fun T=>(.cell a T,z)
def hasDfr:ACode Γ.X→Bool
 | .seq a b=>hasDfr a || hasDfr b
 | .cond _ a b=>hasDfr a || hasDfr b
 | .block _ a=>hasDfr a
 | .loop a=>hasDfr a
 | .mark _ _ a=>hasDfr a
 | .trim _ a=>hasDfr a
 | .dfr _ _=>true
 | _=>false
structure FnX where
 keep:List Nat
 lent:List Nat
 res:List Bool
 marks:List (Nat×List (Nat×Sh))
def FnX.mk' (x:FnX):Marks:=fun i=>(x.marks.find? (·.1==i)).map (·.2)
def compBody (x:FnX) (fn:Func):Option (AFn Γ.X):=
 match fn.body with
 | some c=>match compCode P Γ x.mk' x.keep fn.ntmps x.lent 1 c,allO (compRes P Γ) (fn.results.toList.zip x.res) with
  | some (body,_),some res=>if fn.params.size+fn.nfree≤fn.ntmps∧res.length=fn.results.size then some { np:=fn.params.size+fn.nfree,keep:=x.keep,lent:=x.lent,body:=trimIt Γ x.mk' 0 body,res } else none
  | _,_=>none
 | none=>none
def compFn (x:FnX) (f:Nat):Option (AFn Γ.X):=
 match P.funcs[f]? with
 | some fn=>compBody P Γ x fn
 | none=>none
end
end Go.A2
