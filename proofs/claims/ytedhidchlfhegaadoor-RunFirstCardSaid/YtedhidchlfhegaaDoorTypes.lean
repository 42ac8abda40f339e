/- YtedhidchlfhegaaDoorTypes: the program's structs as structures, and their table. No statement of the seat is proved here. -/
import Derived.Test.YtedhidchlfhegaaDoorA2D
set_option linter.unusedSimpArgs false
set_option linter.unusedVariables false
namespace Go.Proofs.YtedhidchlfhegaaDoor
open Go Go.A2
structure TArch where
 PC:W .u32
 R:Arr 16 (W .u32)
 C:Arr 12 (W .u32)
 Halt:Bool
 deriving DecidableEq
instance : Inhabited TArch := ⟨default, default, default, default⟩
structure TMach where
 A:TArch
 Mem:Sl 1 (W .u8)
 Shadow:Sl 1 (W .u8)
 Out:Sl 4 (W .u32)
instance : Inhabited TMach := ⟨default, default, default, default⟩
structure TEvent where
 PC:W .u32
 Word:W .u32
 Rd:W .i64
 Val:W .u32
 Rd2:W .i64
 Val2:W .u32
 Size:W .i64
 Addr:W .u32
 Data:W .u32
 Cause:W .i64
 Tval:W .u32
 Next:W .u32
 deriving DecidableEq
instance : Inhabited TEvent := ⟨default, default, default, default, default, default, default, default, default, default, default, default⟩
structure TIrq where
 At:W .i64
 Lines:W .u32
 deriving DecidableEq
instance : Inhabited TIrq := ⟨default, default⟩
structure TInst where
 Op:W .i64
 Rd:W .i64
 Ra:W .i64
 Rb:W .i64
 Imm:W .i64
 deriving DecidableEq
instance : Inhabited TInst := ⟨default, default, default, default, default⟩
structure TWork where
 m:TMach
 ev:TEvent
 next_:W .u32
 cause:W .i64
 val:W .u32
instance : Inhabited TWork := ⟨default, default, default, default, default⟩
structure TSource where
 line:W .u32
 cause:W .i64
 deriving DecidableEq
instance : Inhabited TSource := ⟨default, default⟩
structure TPte where
 Bits:W .u32
 Page:W .i64
 deriving DecidableEq
instance : Inhabited TPte := ⟨default, default⟩
structure TS116 where
 bit:W .i64
 n_:W .i64
 most:W .i64
 deriving DecidableEq
instance : Inhabited TS116 := ⟨default, default, default⟩
structure TMul where
 A:W .u32
 B:W .u32
 Hi:W .u32
 Lo:W .u32
 Left:W .i64
 deriving DecidableEq
instance : Inhabited TMul := ⟨default, default, default, default, default⟩
structure TDiv where
 N:W .u32
 D:W .u32
 Q:W .u32
 R:W .u32
 Left:W .i64
 deriving DecidableEq
instance : Inhabited TDiv := ⟨default, default, default, default, default⟩
structure TWalker where
 shadow:Sl 1 (W .u8)
 read:Sl 4 (W .u32)
instance : Inhabited TWalker := ⟨default, default⟩
inductive SI where
 | TArch
 | TMach
 | TEvent
 | TIrq
 | TInst
 | TWork
 | TSource
 | TPte
 | TS116
 | TMul
 | TDiv
 | TWalker
 deriving DecidableEq
def D:SI→Type
 | .TArch=>_root_.Go.Proofs.YtedhidchlfhegaaDoor.TArch
 | .TMach=>_root_.Go.Proofs.YtedhidchlfhegaaDoor.TMach
 | .TEvent=>_root_.Go.Proofs.YtedhidchlfhegaaDoor.TEvent
 | .TIrq=>_root_.Go.Proofs.YtedhidchlfhegaaDoor.TIrq
 | .TInst=>_root_.Go.Proofs.YtedhidchlfhegaaDoor.TInst
 | .TWork=>_root_.Go.Proofs.YtedhidchlfhegaaDoor.TWork
 | .TSource=>_root_.Go.Proofs.YtedhidchlfhegaaDoor.TSource
 | .TPte=>_root_.Go.Proofs.YtedhidchlfhegaaDoor.TPte
 | .TS116=>_root_.Go.Proofs.YtedhidchlfhegaaDoor.TS116
 | .TMul=>_root_.Go.Proofs.YtedhidchlfhegaaDoor.TMul
 | .TDiv=>_root_.Go.Proofs.YtedhidchlfhegaaDoor.TDiv
 | .TWalker=>_root_.Go.Proofs.YtedhidchlfhegaaDoor.TWalker
def fieldsD:SI→List (Ty SI)
 | .TArch=>[.int .u32,.arr 16 (.int .u32),.arr 12 (.int .u32),.bool]
 | .TMach=>[.named .TArch,.slice 1 (.int .u8),.slice 1 (.int .u8),.slice 4 (.int .u32)]
 | .TEvent=>[.int .u32,.int .u32,.int .i64,.int .u32,.int .i64,.int .u32,.int .i64,.int .u32,.int .u32,.int .i64,.int .u32,.int .u32]
 | .TIrq=>[.int .i64,.int .u32]
 | .TInst=>[.int .i64,.int .i64,.int .i64,.int .i64,.int .i64]
 | .TWork=>[.named .TMach,.named .TEvent,.int .u32,.int .i64,.int .u32]
 | .TSource=>[.int .u32,.int .i64]
 | .TPte=>[.int .u32,.int .i64]
 | .TS116=>[.int .i64,.int .i64,.int .i64]
 | .TMul=>[.int .u32,.int .u32,.int .u32,.int .u32,.int .i64]
 | .TDiv=>[.int .u32,.int .u32,.int .u32,.int .u32,.int .i64]
 | .TWalker=>[.slice 1 (.int .u8),.slice 4 (.int .u32)]
def toD:(i:SI)→D i→Tup D (fieldsD i)
 | .TArch,x=>(TArch.PC x,TArch.R x,TArch.C x,TArch.Halt x,())
 | .TMach,x=>(TMach.A x,TMach.Mem x,TMach.Shadow x,TMach.Out x,())
 | .TEvent,x=>(TEvent.PC x,TEvent.Word x,TEvent.Rd x,TEvent.Val x,TEvent.Rd2 x,TEvent.Val2 x,TEvent.Size x,TEvent.Addr x,TEvent.Data x,TEvent.Cause x,TEvent.Tval x,TEvent.Next x,())
 | .TIrq,x=>(TIrq.At x,TIrq.Lines x,())
 | .TInst,x=>(TInst.Op x,TInst.Rd x,TInst.Ra x,TInst.Rb x,TInst.Imm x,())
 | .TWork,x=>(TWork.m x,TWork.ev x,TWork.next_ x,TWork.cause x,TWork.val x,())
 | .TSource,x=>(TSource.line x,TSource.cause x,())
 | .TPte,x=>(TPte.Bits x,TPte.Page x,())
 | .TS116,x=>(TS116.bit x,TS116.n_ x,TS116.most x,())
 | .TMul,x=>(TMul.A x,TMul.B x,TMul.Hi x,TMul.Lo x,TMul.Left x,())
 | .TDiv,x=>(TDiv.N x,TDiv.D x,TDiv.Q x,TDiv.R x,TDiv.Left x,())
 | .TWalker,x=>(TWalker.shadow x,TWalker.read x,())
def ofD:(i:SI)→Tup D (fieldsD i)→D i
 | .TArch,x=>TArch.mk x.1 x.2.1 x.2.2.1 x.2.2.2.1
 | .TMach,x=>TMach.mk x.1 x.2.1 x.2.2.1 x.2.2.2.1
 | .TEvent,x=>TEvent.mk x.1 x.2.1 x.2.2.1 x.2.2.2.1 x.2.2.2.2.1 x.2.2.2.2.2.1 x.2.2.2.2.2.2.1 x.2.2.2.2.2.2.2.1 x.2.2.2.2.2.2.2.2.1 x.2.2.2.2.2.2.2.2.2.1 x.2.2.2.2.2.2.2.2.2.2.1 x.2.2.2.2.2.2.2.2.2.2.2.1
 | .TIrq,x=>TIrq.mk x.1 x.2.1
 | .TInst,x=>TInst.mk x.1 x.2.1 x.2.2.1 x.2.2.2.1 x.2.2.2.2.1
 | .TWork,x=>TWork.mk x.1 x.2.1 x.2.2.1 x.2.2.2.1 x.2.2.2.2.1
 | .TSource,x=>TSource.mk x.1 x.2.1
 | .TPte,x=>TPte.mk x.1 x.2.1
 | .TS116,x=>TS116.mk x.1 x.2.1 x.2.2.1
 | .TMul,x=>TMul.mk x.1 x.2.1 x.2.2.1 x.2.2.2.1 x.2.2.2.2.1
 | .TDiv,x=>TDiv.mk x.1 x.2.1 x.2.2.1 x.2.2.2.1 x.2.2.2.2.1
 | .TWalker,x=>TWalker.mk x.1 x.2.1
def zeroD:(i:SI)→D i
 | .TArch=>(default:_root_.Go.Proofs.YtedhidchlfhegaaDoor.TArch)
 | .TMach=>(default:_root_.Go.Proofs.YtedhidchlfhegaaDoor.TMach)
 | .TEvent=>(default:_root_.Go.Proofs.YtedhidchlfhegaaDoor.TEvent)
 | .TIrq=>(default:_root_.Go.Proofs.YtedhidchlfhegaaDoor.TIrq)
 | .TInst=>(default:_root_.Go.Proofs.YtedhidchlfhegaaDoor.TInst)
 | .TWork=>(default:_root_.Go.Proofs.YtedhidchlfhegaaDoor.TWork)
 | .TSource=>(default:_root_.Go.Proofs.YtedhidchlfhegaaDoor.TSource)
 | .TPte=>(default:_root_.Go.Proofs.YtedhidchlfhegaaDoor.TPte)
 | .TS116=>(default:_root_.Go.Proofs.YtedhidchlfhegaaDoor.TS116)
 | .TMul=>(default:_root_.Go.Proofs.YtedhidchlfhegaaDoor.TMul)
 | .TDiv=>(default:_root_.Go.Proofs.YtedhidchlfhegaaDoor.TDiv)
 | .TWalker=>(default:_root_.Go.Proofs.YtedhidchlfhegaaDoor.TWalker)
def eqD:(i:SI)→D i→D i→Bool
 | .TArch,x,y=>eqT (α:=_root_.Go.Proofs.YtedhidchlfhegaaDoor.TArch) x y
 | .TMach,_,_=>false
 | .TEvent,x,y=>eqT (α:=_root_.Go.Proofs.YtedhidchlfhegaaDoor.TEvent) x y
 | .TIrq,x,y=>eqT (α:=_root_.Go.Proofs.YtedhidchlfhegaaDoor.TIrq) x y
 | .TInst,x,y=>eqT (α:=_root_.Go.Proofs.YtedhidchlfhegaaDoor.TInst) x y
 | .TWork,_,_=>false
 | .TSource,x,y=>eqT (α:=_root_.Go.Proofs.YtedhidchlfhegaaDoor.TSource) x y
 | .TPte,x,y=>eqT (α:=_root_.Go.Proofs.YtedhidchlfhegaaDoor.TPte) x y
 | .TS116,x,y=>eqT (α:=_root_.Go.Proofs.YtedhidchlfhegaaDoor.TS116) x y
 | .TMul,x,y=>eqT (α:=_root_.Go.Proofs.YtedhidchlfhegaaDoor.TMul) x y
 | .TDiv,x,y=>eqT (α:=_root_.Go.Proofs.YtedhidchlfhegaaDoor.TDiv) x y
 | .TWalker,_,_=>false
def szD:SI→Nat
 | .TArch=>30
 | .TMach=>33
 | .TEvent=>12
 | .TIrq=>2
 | .TInst=>5
 | .TWork=>48
 | .TSource=>2
 | .TPte=>2
 | .TS116=>3
 | .TMul=>5
 | .TDiv=>5
 | .TWalker=>2
def flatD:SI→Bool
 | .TArch=>true
 | .TMach=>false
 | .TEvent=>true
 | .TIrq=>true
 | .TInst=>true
 | .TWork=>false
 | .TSource=>true
 | .TPte=>true
 | .TS116=>true
 | .TMul=>true
 | .TDiv=>true
 | .TWalker=>false
def tab:Tab:={ ι:=SI,deq:=inferInstance,D:=D,fields:=fieldsD,to:=toD,of:=ofD,zeroD:=zeroD,eqD:=eqD,szD:=szD,flatD:=flatD,gl:=[(0,.arr 12 (.int .i64),[.int .i64 0,.int .i64 7,.int .i64 11,.int .i64 14,.int .i64 14,.int .i64 9,.int .i64 7,.int .i64 9,.int .i64 10,.int .i64 2,.int .i64 0,.int .i64 3])],lf:=[12] }
def tyD:TypeId→Option (Ty SI)
 | 2=>some (.int .i64)
 | 3=>some (.int .i64)
 | 4=>some (.bool)
 | 5=>some (.int .u8)
 | 6=>some (.int .u8)
 | 9=>some (.str)
 | 10=>some (.str)
 | 11=>some (.str)
 | 12=>some (.int .u64)
 | 21=>some (.int .i32)
 | 22=>some (.slice 72 (.named .TEvent))
 | 23=>some (.int .u32)
 | 24=>some (.arr 16 (.int .u32))
 | 25=>some (.arr 12 (.int .u32))
 | 26=>some (.named .TArch)
 | 27=>some (.named .TArch)
 | 32=>some (.slice 1 (.int .u8))
 | 33=>some (.slice 4 (.int .u32))
 | 34=>some (.named .TMach)
 | 35=>some (.named .TMach)
 | 38=>some (.named .TEvent)
 | 39=>some (.named .TEvent)
 | 43=>some (.slice 16 (.named .TIrq))
 | 44=>some (.named .TIrq)
 | 45=>some (.named .TIrq)
 | 58=>some (.named .TInst)
 | 59=>some (.named .TInst)
 | 60=>some (.int .i64)
 | 65=>some (.named .TWork)
 | 66=>some (.named .TWork)
 | 70=>some (.arr 8 (.int .u8))
 | 71=>some (.int .u64)
 | 72=>some (.arr 20 (.int .u8))
 | 73=>some (.int .u64)
 | 74=>some (.arr 11 (.str))
 | 75=>some (.named .TSource)
 | 76=>some (.named .TSource)
 | 77=>some (.arr 3 (.named .TSource))
 | 95=>some (.arr 12 (.int .i64))
 | 109=>some (.named .TPte)
 | 110=>some (.named .TPte)
 | 116=>some (.named .TS116)
 | 117=>some (.arr 3 (.named .TS116))
 | 122=>some (.named .TMul)
 | 123=>some (.named .TMul)
 | 127=>some (.named .TDiv)
 | 128=>some (.named .TDiv)
 | 135=>some (.named .TWalker)
 | 136=>some (.named .TWalker)
 | 155=>some (.int .u8)
 | 156=>some (.int .u8)
 | 159=>some (.int .i32)
 | 160=>some (.int .i32)
 | _=>none
def cx:Cx:={ X:=tab,ty:=tyD }
theorem tabOk:TabOk tab where
 to_of:=by intro i x;cases i<;>rfl
 of_to:=by intro i v;cases i<;>rfl
 sz:=by intro i;cases i<;>rfl
 eq:=by
  intro i h a b
  cases i<;>first | exact eqT_iff | cases h
 flat:=by
  intro i h t ht
  cases i<;>first | (cases h;done) | (revert t;exact List.all_eq_true.1 (by rfl))
 zero:=by
  intro i j t x h
  have hz:tab.to i (tab.zeroD i)=zerosT tab (tab.fields i):=by cases i<;>rfl
  rw [hz] at h
  exact getT_zeros h
end Go.Proofs.YtedhidchlfhegaaDoor
