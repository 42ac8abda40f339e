/- YtedhidchlfhegaaGreatDoorTypes: the program's structs as structures, and their table. No statement of the seat is proved here. -/
import Derived.Test.YtedhidchlfhegaaGreatDoorA2D
set_option linter.unusedSimpArgs false
set_option linter.unusedVariables false
namespace Go.Proofs.YtedhidchlfhegaaGreatDoor
open Go Go.A2
structure TArch where
 PC:W .u32
 R:Arr 16 (W .u32)
 C:Arr 12 (W .u32)
 Halt:Bool
 deriving DecidableEq
instance : Inhabited TArch := ⟨default, default, default, default⟩
structure TMach where
 A:TArch
 Mem:Sl 1 (W .u8)
 Shadow:Sl 1 (W .u8)
 Out:Sl 4 (W .u32)
instance : Inhabited TMach := ⟨default, default, default, default⟩
structure TEvent where
 PC:W .u32
 Word:W .u32
 Rd:W .i64
 Val:W .u32
 Rd2:W .i64
 Val2:W .u32
 Size:W .i64
 Addr:W .u32
 Data:W .u32
 Cause:W .i64
 Tval:W .u32
 Next:W .u32
 deriving DecidableEq
instance : Inhabited TEvent := ⟨default, default, default, default, default, default, default, default, default, default, default, default⟩
structure TIrq where
 At:W .i64
 Lines:W .u32
 deriving DecidableEq
instance : Inhabited TIrq := ⟨default, default⟩
structure TInst where
 Op:W .i64
 Rd:W .i64
 Ra:W .i64
 Rb:W .i64
 Imm:W .i64
 deriving DecidableEq
instance : Inhabited TInst := ⟨default, default, default, default, default⟩
structure TWork where
 m:TMach
 ev:TEvent
 next_:W .u32
 cause:W .i64
 val:W .u32
instance : Inhabited TWork := ⟨default, default, default, default, default⟩
structure TSource where
 line:W .u32
 cause:W .i64
 deriving DecidableEq
instance : Inhabited TSource := ⟨default, default⟩
structure TPte where
 Bits:W .u32
 Page:W .i64
 deriving DecidableEq
instance : Inhabited TPte := ⟨default, default⟩
structure TS141 where
 bit:W .i64
 n_:W .i64
 most:W .i64
 deriving DecidableEq
instance : Inhabited TS141 := ⟨default, default, default⟩
structure TMul where
 A:W .u32
 B:W .u32
 Hi:W .u32
 Lo:W .u32
 Left:W .i64
 deriving DecidableEq
instance : Inhabited TMul := ⟨default, default, default, default, default⟩
structure TDiv where
 N:W .u32
 D:W .u32
 Q:W .u32
 R:W .u32
 Left:W .i64
 deriving DecidableEq
instance : Inhabited TDiv := ⟨default, default, default, default, default⟩
structure TWalker where
 shadow:Sl 1 (W .u8)
 read:Sl 4 (W .u32)
instance : Inhabited TWalker := ⟨default, default⟩
inductive SI where
 | TArch
 | TMach
 | TEvent
 | TIrq
 | TInst
 | TWork
 | TSource
 | TPte
 | TS141
 | TMul
 | TDiv
 | TWalker
 deriving DecidableEq
def D:SI→Type
 | .TArch=>_root_.Go.Proofs.YtedhidchlfhegaaGreatDoor.TArch
 | .TMach=>_root_.Go.Proofs.YtedhidchlfhegaaGreatDoor.TMach
 | .TEvent=>_root_.Go.Proofs.YtedhidchlfhegaaGreatDoor.TEvent
 | .TIrq=>_root_.Go.Proofs.YtedhidchlfhegaaGreatDoor.TIrq
 | .TInst=>_root_.Go.Proofs.YtedhidchlfhegaaGreatDoor.TInst
 | .TWork=>_root_.Go.Proofs.YtedhidchlfhegaaGreatDoor.TWork
 | .TSource=>_root_.Go.Proofs.YtedhidchlfhegaaGreatDoor.TSource
 | .TPte=>_root_.Go.Proofs.YtedhidchlfhegaaGreatDoor.TPte
 | .TS141=>_root_.Go.Proofs.YtedhidchlfhegaaGreatDoor.TS141
 | .TMul=>_root_.Go.Proofs.YtedhidchlfhegaaGreatDoor.TMul
 | .TDiv=>_root_.Go.Proofs.YtedhidchlfhegaaGreatDoor.TDiv
 | .TWalker=>_root_.Go.Proofs.YtedhidchlfhegaaGreatDoor.TWalker
def fieldsD:SI→List (Ty SI)
 | .TArch=>[.int .u32,.arr 16 (.int .u32),.arr 12 (.int .u32),.bool]
 | .TMach=>[.named .TArch,.slice 1 (.int .u8),.slice 1 (.int .u8),.slice 4 (.int .u32)]
 | .TEvent=>[.int .u32,.int .u32,.int .i64,.int .u32,.int .i64,.int .u32,.int .i64,.int .u32,.int .u32,.int .i64,.int .u32,.int .u32]
 | .TIrq=>[.int .i64,.int .u32]
 | .TInst=>[.int .i64,.int .i64,.int .i64,.int .i64,.int .i64]
 | .TWork=>[.named .TMach,.named .TEvent,.int .u32,.int .i64,.int .u32]
 | .TSource=>[.int .u32,.int .i64]
 | .TPte=>[.int .u32,.int .i64]
 | .TS141=>[.int .i64,.int .i64,.int .i64]
 | .TMul=>[.int .u32,.int .u32,.int .u32,.int .u32,.int .i64]
 | .TDiv=>[.int .u32,.int .u32,.int .u32,.int .u32,.int .i64]
 | .TWalker=>[.slice 1 (.int .u8),.slice 4 (.int .u32)]
def toD:(i:SI)→D i→Tup D (fieldsD i)
 | .TArch,x=>(TArch.PC x,TArch.R x,TArch.C x,TArch.Halt x,())
 | .TMach,x=>(TMach.A x,TMach.Mem x,TMach.Shadow x,TMach.Out x,())
 | .TEvent,x=>(TEvent.PC x,TEvent.Word x,TEvent.Rd x,TEvent.Val x,TEvent.Rd2 x,TEvent.Val2 x,TEvent.Size x,TEvent.Addr x,TEvent.Data x,TEvent.Cause x,TEvent.Tval x,TEvent.Next x,())
 | .TIrq,x=>(TIrq.At x,TIrq.Lines x,())
 | .TInst,x=>(TInst.Op x,TInst.Rd x,TInst.Ra x,TInst.Rb x,TInst.Imm x,())
 | .TWork,x=>(TWork.m x,TWork.ev x,TWork.next_ x,TWork.cause x,TWork.val x,())
 | .TSource,x=>(TSource.line x,TSource.cause x,())
 | .TPte,x=>(TPte.Bits x,TPte.Page x,())
 | .TS141,x=>(TS141.bit x,TS141.n_ x,TS141.most x,())
 | .TMul,x=>(TMul.A x,TMul.B x,TMul.Hi x,TMul.Lo x,TMul.Left x,())
 | .TDiv,x=>(TDiv.N x,TDiv.D x,TDiv.Q x,TDiv.R x,TDiv.Left x,())
 | .TWalker,x=>(TWalker.shadow x,TWalker.read x,())
def ofD:(i:SI)→Tup D (fieldsD i)→D i
 | .TArch,x=>TArch.mk x.1 x.2.1 x.2.2.1 x.2.2.2.1
 | .TMach,x=>TMach.mk x.1 x.2.1 x.2.2.1 x.2.2.2.1
 | .TEvent,x=>TEvent.mk x.1 x.2.1 x.2.2.1 x.2.2.2.1 x.2.2.2.2.1 x.2.2.2.2.2.1 x.2.2.2.2.2.2.1 x.2.2.2.2.2.2.2.1 x.2.2.2.2.2.2.2.2.1 x.2.2.2.2.2.2.2.2.2.1 x.2.2.2.2.2.2.2.2.2.2.1 x.2.2.2.2.2.2.2.2.2.2.2.1
 | .TIrq,x=>TIrq.mk x.1 x.2.1
 | .TInst,x=>TInst.mk x.1 x.2.1 x.2.2.1 x.2.2.2.1 x.2.2.2.2.1
 | .TWork,x=>TWork.mk x.1 x.2.1 x.2.2.1 x.2.2.2.1 x.2.2.2.2.1
 | .TSource,x=>TSource.mk x.1 x.2.1
 | .TPte,x=>TPte.mk x.1 x.2.1
 | .TS141,x=>TS141.mk x.1 x.2.1 x.2.2.1
 | .TMul,x=>TMul.mk x.1 x.2.1 x.2.2.1 x.2.2.2.1 x.2.2.2.2.1
 | .TDiv,x=>TDiv.mk x.1 x.2.1 x.2.2.1 x.2.2.2.1 x.2.2.2.2.1
 | .TWalker,x=>TWalker.mk x.1 x.2.1
def zeroD:(i:SI)→D i
 | .TArch=>(default:_root_.Go.Proofs.YtedhidchlfhegaaGreatDoor.TArch)
 | .TMach=>(default:_root_.Go.Proofs.YtedhidchlfhegaaGreatDoor.TMach)
 | .TEvent=>(default:_root_.Go.Proofs.YtedhidchlfhegaaGreatDoor.TEvent)
 | .TIrq=>(default:_root_.Go.Proofs.YtedhidchlfhegaaGreatDoor.TIrq)
 | .TInst=>(default:_root_.Go.Proofs.YtedhidchlfhegaaGreatDoor.TInst)
 | .TWork=>(default:_root_.Go.Proofs.YtedhidchlfhegaaGreatDoor.TWork)
 | .TSource=>(default:_root_.Go.Proofs.YtedhidchlfhegaaGreatDoor.TSource)
 | .TPte=>(default:_root_.Go.Proofs.YtedhidchlfhegaaGreatDoor.TPte)
 | .TS141=>(default:_root_.Go.Proofs.YtedhidchlfhegaaGreatDoor.TS141)
 | .TMul=>(default:_root_.Go.Proofs.YtedhidchlfhegaaGreatDoor.TMul)
 | .TDiv=>(default:_root_.Go.Proofs.YtedhidchlfhegaaGreatDoor.TDiv)
 | .TWalker=>(default:_root_.Go.Proofs.YtedhidchlfhegaaGreatDoor.TWalker)
def eqD:(i:SI)→D i→D i→Bool
 | .TArch,x,y=>eqT (α:=_root_.Go.Proofs.YtedhidchlfhegaaGreatDoor.TArch) x y
 | .TMach,_,_=>false
 | .TEvent,x,y=>eqT (α:=_root_.Go.Proofs.YtedhidchlfhegaaGreatDoor.TEvent) x y
 | .TIrq,x,y=>eqT (α:=_root_.Go.Proofs.YtedhidchlfhegaaGreatDoor.TIrq) x y
 | .TInst,x,y=>eqT (α:=_root_.Go.Proofs.YtedhidchlfhegaaGreatDoor.TInst) x y
 | .TWork,_,_=>false
 | .TSource,x,y=>eqT (α:=_root_.Go.Proofs.YtedhidchlfhegaaGreatDoor.TSource) x y
 | .TPte,x,y=>eqT (α:=_root_.Go.Proofs.YtedhidchlfhegaaGreatDoor.TPte) x y
 | .TS141,x,y=>eqT (α:=_root_.Go.Proofs.YtedhidchlfhegaaGreatDoor.TS141) x y
 | .TMul,x,y=>eqT (α:=_root_.Go.Proofs.YtedhidchlfhegaaGreatDoor.TMul) x y
 | .TDiv,x,y=>eqT (α:=_root_.Go.Proofs.YtedhidchlfhegaaGreatDoor.TDiv) x y
 | .TWalker,_,_=>false
def szD:SI→Nat
 | .TArch=>30
 | .TMach=>33
 | .TEvent=>12
 | .TIrq=>2
 | .TInst=>5
 | .TWork=>48
 | .TSource=>2
 | .TPte=>2
 | .TS141=>3
 | .TMul=>5
 | .TDiv=>5
 | .TWalker=>2
def flatD:SI→Bool
 | .TArch=>true
 | .TMach=>false
 | .TEvent=>true
 | .TIrq=>true
 | .TInst=>true
 | .TWork=>false
 | .TSource=>true
 | .TPte=>true
 | .TS141=>true
 | .TMul=>true
 | .TDiv=>true
 | .TWalker=>false
def tab:Tab:={ ι:=SI,deq:=inferInstance,D:=D,fields:=fieldsD,to:=toD,of:=ofD,zeroD:=zeroD,eqD:=eqD,szD:=szD,flatD:=flatD,gl:=[(0,.arr 12 (.int .i64),[.int .i64 0,.int .i64 7,.int .i64 11,.int .i64 14,.int .i64 14,.int .i64 9,.int .i64 7,.int .i64 9,.int .i64 10,.int .i64 2,.int .i64 0,.int .i64 3])],lf:=[35] }
def tyD:TypeId→Option (Ty SI)
 | 2=>some (.int .i64)
 | 3=>some (.int .i64)
 | 4=>some (.bool)
 | 5=>some (.int .u8)
 | 6=>some (.int .u8)
 | 9=>some (.str)
 | 10=>some (.str)
 | 11=>some (.str)
 | 12=>some (.int .u64)
 | 21=>some (.int .i32)
 | 22=>some (.int .u32)
 | 23=>some (.arr 16 (.int .u32))
 | 24=>some (.arr 12 (.int .u32))
 | 25=>some (.named .TArch)
 | 26=>some (.named .TArch)
 | 27=>some (.slice 1 (.int .u8))
 | 28=>some (.slice 4 (.int .u32))
 | 29=>some (.named .TMach)
 | 30=>some (.named .TMach)
 | 31=>some (.slice 16 (.named .TIrq))
 | 35=>some (.slice 72 (.named .TEvent))
 | 41=>some (.named .TEvent)
 | 42=>some (.named .TEvent)
 | 48=>some (.arr 2 (.int .u8))
 | 49=>some (.named .TIrq)
 | 50=>some (.named .TIrq)
 | 69=>some (.named .TInst)
 | 70=>some (.named .TInst)
 | 71=>some (.int .i64)
 | 76=>some (.named .TWork)
 | 77=>some (.named .TWork)
 | 85=>some (.arr 8 (.int .u8))
 | 86=>some (.int .u64)
 | 87=>some (.arr 20 (.int .u8))
 | 88=>some (.int .u64)
 | 89=>some (.arr 11 (.str))
 | 91=>some (.slice 16 (.str))
 | 92=>some (.named .TSource)
 | 93=>some (.named .TSource)
 | 94=>some (.arr 3 (.named .TSource))
 | 118=>some (.arr 12 (.int .i64))
 | 134=>some (.named .TPte)
 | 135=>some (.named .TPte)
 | 141=>some (.named .TS141)
 | 142=>some (.arr 3 (.named .TS141))
 | 147=>some (.named .TMul)
 | 148=>some (.named .TMul)
 | 152=>some (.named .TDiv)
 | 153=>some (.named .TDiv)
 | 161=>some (.named .TWalker)
 | 162=>some (.named .TWalker)
 | 173=>some (.arr 32 (.int .u32))
 | 182=>some (.int .u8)
 | 183=>some (.int .u8)
 | 186=>some (.int .i32)
 | 187=>some (.int .i32)
 | _=>none
def cx:Cx:={ X:=tab,ty:=tyD }
theorem tabOk:TabOk tab where
 to_of:=by intro i x;cases i<;>rfl
 of_to:=by intro i v;cases i<;>rfl
 sz:=by intro i;cases i<;>rfl
 eq:=by
  intro i h a b
  cases i<;>first | exact eqT_iff | cases h
 flat:=by
  intro i h t ht
  cases i<;>first | (cases h;done) | (revert t;exact List.all_eq_true.1 (by rfl))
 zero:=by
  intro i j t x h
  have hz:tab.to i (tab.zeroD i)=zerosT tab (tab.fields i):=by cases i<;>rfl
  rw [hz] at h
  exact getT_zeros h
end Go.Proofs.YtedhidchlfhegaaGreatDoor
