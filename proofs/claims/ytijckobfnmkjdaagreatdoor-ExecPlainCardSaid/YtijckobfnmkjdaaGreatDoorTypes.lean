/- YtijckobfnmkjdaaGreatDoorTypes: the program's structs as structures, and their table. No statement of the seat is proved here. -/
import Derived.Test.YtijckobfnmkjdaaGreatDoorA2D
set_option linter.unusedSimpArgs false
set_option linter.unusedVariables false
namespace Go.Proofs.YtijckobfnmkjdaaGreatDoor
open Go Go.A2
structure TInst where
 Op:W .i64
 Rd:W .i64
 Ra:W .i64
 Rb:W .i64
 Imm:W .i64
 deriving DecidableEq
instance : Inhabited TInst := ⟨default, default, default, default, default⟩
structure TArch where
 PC:W .u32
 R:Arr 16 (W .u32)
 C:Arr 12 (W .u32)
 Halt:Bool
 deriving DecidableEq
instance : Inhabited TArch := ⟨default, default, default, default⟩
structure TMach where
 A:TArch
 Mem:Sl 1 (W .u8)
 Shadow:Sl 1 (W .u8)
 Out:Sl 4 (W .u32)
instance : Inhabited TMach := ⟨default, default, default, default⟩
structure TSeg where
 At:W .u32
 Data:Sl 1 (W .u8)
instance : Inhabited TSeg := ⟨default, default⟩
structure TImage where
 Start:W .u32
 Segs:Sl 32 (TSeg)
instance : Inhabited TImage := ⟨default, default⟩
structure TSave where
 Hist:W .u32
 Top:W .i64
 Val:W .u32
 deriving DecidableEq
instance : Inhabited TSave := ⟨default, default, default⟩
structure TGuess where
 Taken:Bool
 Target:W .u32
 Save:TSave
 deriving DecidableEq
instance : Inhabited TGuess := ⟨default, default, default⟩
structure TSlot where
 PC:W .u32
 Word:W .u32
 Cause:W .i64
 Tval:W .u32
 Guess:TGuess
 deriving DecidableEq
instance : Inhabited TSlot := ⟨default, default, default, default, default⟩
structure TUop where
 Inst:TInst
 Slot:TSlot
 Unit:W .i64
 Part:W .i64
 Last:Bool
 Src:Arr 3 (W .i64)
 Dst:W .i64
 Cause:W .i64
 Tval:W .u32
 deriving DecidableEq
instance : Inhabited TUop := ⟨default, default, default, default, default, default, default, default, default⟩
structure TEvent where
 PC:W .u32
 Word:W .u32
 Rd:W .i64
 Val:W .u32
 Rd2:W .i64
 Val2:W .u32
 Size:W .i64
 Addr:W .u32
 Data:W .u32
 Cause:W .i64
 Tval:W .u32
 Next:W .u32
 deriving DecidableEq
instance : Inhabited TEvent := ⟨default, default, default, default, default, default, default, default, default, default, default, default⟩
structure TWork where
 m:TMach
 ev:TEvent
 next_:W .u32
 cause:W .i64
 val:W .u32
instance : Inhabited TWork := ⟨default, default, default, default, default⟩
structure TS94 where
 bit:W .i64
 n_:W .i64
 most:W .i64
 deriving DecidableEq
instance : Inhabited TS94 := ⟨default, default, default⟩
structure TSource where
 line:W .u32
 cause:W .i64
 deriving DecidableEq
instance : Inhabited TSource := ⟨default, default⟩
structure TMul where
 A:W .u32
 B:W .u32
 Hi:W .u32
 Lo:W .u32
 Left:W .i64
 deriving DecidableEq
instance : Inhabited TMul := ⟨default, default, default, default, default⟩
structure TDiv where
 N:W .u32
 D:W .u32
 Q:W .u32
 R:W .u32
 Left:W .i64
 deriving DecidableEq
instance : Inhabited TDiv := ⟨default, default, default, default, default⟩
structure TPte where
 Bits:W .u32
 Page:W .i64
 deriving DecidableEq
instance : Inhabited TPte := ⟨default, default⟩
structure TWalker where
 shadow:Sl 1 (W .u8)
 read:Sl 4 (W .u32)
instance : Inhabited TWalker := ⟨default, default⟩
inductive SI where
 | TInst
 | TArch
 | TMach
 | TSeg
 | TImage
 | TSave
 | TGuess
 | TSlot
 | TUop
 | TEvent
 | TWork
 | TS94
 | TSource
 | TMul
 | TDiv
 | TPte
 | TWalker
 deriving DecidableEq
def D:SI→Type
 | .TInst=>_root_.Go.Proofs.YtijckobfnmkjdaaGreatDoor.TInst
 | .TArch=>_root_.Go.Proofs.YtijckobfnmkjdaaGreatDoor.TArch
 | .TMach=>_root_.Go.Proofs.YtijckobfnmkjdaaGreatDoor.TMach
 | .TSeg=>_root_.Go.Proofs.YtijckobfnmkjdaaGreatDoor.TSeg
 | .TImage=>_root_.Go.Proofs.YtijckobfnmkjdaaGreatDoor.TImage
 | .TSave=>_root_.Go.Proofs.YtijckobfnmkjdaaGreatDoor.TSave
 | .TGuess=>_root_.Go.Proofs.YtijckobfnmkjdaaGreatDoor.TGuess
 | .TSlot=>_root_.Go.Proofs.YtijckobfnmkjdaaGreatDoor.TSlot
 | .TUop=>_root_.Go.Proofs.YtijckobfnmkjdaaGreatDoor.TUop
 | .TEvent=>_root_.Go.Proofs.YtijckobfnmkjdaaGreatDoor.TEvent
 | .TWork=>_root_.Go.Proofs.YtijckobfnmkjdaaGreatDoor.TWork
 | .TS94=>_root_.Go.Proofs.YtijckobfnmkjdaaGreatDoor.TS94
 | .TSource=>_root_.Go.Proofs.YtijckobfnmkjdaaGreatDoor.TSource
 | .TMul=>_root_.Go.Proofs.YtijckobfnmkjdaaGreatDoor.TMul
 | .TDiv=>_root_.Go.Proofs.YtijckobfnmkjdaaGreatDoor.TDiv
 | .TPte=>_root_.Go.Proofs.YtijckobfnmkjdaaGreatDoor.TPte
 | .TWalker=>_root_.Go.Proofs.YtijckobfnmkjdaaGreatDoor.TWalker
def fieldsD:SI→List (Ty SI)
 | .TInst=>[.int .i64,.int .i64,.int .i64,.int .i64,.int .i64]
 | .TArch=>[.int .u32,.arr 16 (.int .u32),.arr 12 (.int .u32),.bool]
 | .TMach=>[.named .TArch,.slice 1 (.int .u8),.slice 1 (.int .u8),.slice 4 (.int .u32)]
 | .TSeg=>[.int .u32,.slice 1 (.int .u8)]
 | .TImage=>[.int .u32,.slice 32 (.named .TSeg)]
 | .TSave=>[.int .u32,.int .i64,.int .u32]
 | .TGuess=>[.bool,.int .u32,.named .TSave]
 | .TSlot=>[.int .u32,.int .u32,.int .i64,.int .u32,.named .TGuess]
 | .TUop=>[.named .TInst,.named .TSlot,.int .i64,.int .i64,.bool,.arr 3 (.int .i64),.int .i64,.int .i64,.int .u32]
 | .TEvent=>[.int .u32,.int .u32,.int .i64,.int .u32,.int .i64,.int .u32,.int .i64,.int .u32,.int .u32,.int .i64,.int .u32,.int .u32]
 | .TWork=>[.named .TMach,.named .TEvent,.int .u32,.int .i64,.int .u32]
 | .TS94=>[.int .i64,.int .i64,.int .i64]
 | .TSource=>[.int .u32,.int .i64]
 | .TMul=>[.int .u32,.int .u32,.int .u32,.int .u32,.int .i64]
 | .TDiv=>[.int .u32,.int .u32,.int .u32,.int .u32,.int .i64]
 | .TPte=>[.int .u32,.int .i64]
 | .TWalker=>[.slice 1 (.int .u8),.slice 4 (.int .u32)]
def toD:(i:SI)→D i→Tup D (fieldsD i)
 | .TInst,x=>(TInst.Op x,TInst.Rd x,TInst.Ra x,TInst.Rb x,TInst.Imm x,())
 | .TArch,x=>(TArch.PC x,TArch.R x,TArch.C x,TArch.Halt x,())
 | .TMach,x=>(TMach.A x,TMach.Mem x,TMach.Shadow x,TMach.Out x,())
 | .TSeg,x=>(TSeg.At x,TSeg.Data x,())
 | .TImage,x=>(TImage.Start x,TImage.Segs x,())
 | .TSave,x=>(TSave.Hist x,TSave.Top x,TSave.Val x,())
 | .TGuess,x=>(TGuess.Taken x,TGuess.Target x,TGuess.Save x,())
 | .TSlot,x=>(TSlot.PC x,TSlot.Word x,TSlot.Cause x,TSlot.Tval x,TSlot.Guess x,())
 | .TUop,x=>(TUop.Inst x,TUop.Slot x,TUop.Unit x,TUop.Part x,TUop.Last x,TUop.Src x,TUop.Dst x,TUop.Cause x,TUop.Tval x,())
 | .TEvent,x=>(TEvent.PC x,TEvent.Word x,TEvent.Rd x,TEvent.Val x,TEvent.Rd2 x,TEvent.Val2 x,TEvent.Size x,TEvent.Addr x,TEvent.Data x,TEvent.Cause x,TEvent.Tval x,TEvent.Next x,())
 | .TWork,x=>(TWork.m x,TWork.ev x,TWork.next_ x,TWork.cause x,TWork.val x,())
 | .TS94,x=>(TS94.bit x,TS94.n_ x,TS94.most x,())
 | .TSource,x=>(TSource.line x,TSource.cause x,())
 | .TMul,x=>(TMul.A x,TMul.B x,TMul.Hi x,TMul.Lo x,TMul.Left x,())
 | .TDiv,x=>(TDiv.N x,TDiv.D x,TDiv.Q x,TDiv.R x,TDiv.Left x,())
 | .TPte,x=>(TPte.Bits x,TPte.Page x,())
 | .TWalker,x=>(TWalker.shadow x,TWalker.read x,())
def ofD:(i:SI)→Tup D (fieldsD i)→D i
 | .TInst,x=>TInst.mk x.1 x.2.1 x.2.2.1 x.2.2.2.1 x.2.2.2.2.1
 | .TArch,x=>TArch.mk x.1 x.2.1 x.2.2.1 x.2.2.2.1
 | .TMach,x=>TMach.mk x.1 x.2.1 x.2.2.1 x.2.2.2.1
 | .TSeg,x=>TSeg.mk x.1 x.2.1
 | .TImage,x=>TImage.mk x.1 x.2.1
 | .TSave,x=>TSave.mk x.1 x.2.1 x.2.2.1
 | .TGuess,x=>TGuess.mk x.1 x.2.1 x.2.2.1
 | .TSlot,x=>TSlot.mk x.1 x.2.1 x.2.2.1 x.2.2.2.1 x.2.2.2.2.1
 | .TUop,x=>TUop.mk x.1 x.2.1 x.2.2.1 x.2.2.2.1 x.2.2.2.2.1 x.2.2.2.2.2.1 x.2.2.2.2.2.2.1 x.2.2.2.2.2.2.2.1 x.2.2.2.2.2.2.2.2.1
 | .TEvent,x=>TEvent.mk x.1 x.2.1 x.2.2.1 x.2.2.2.1 x.2.2.2.2.1 x.2.2.2.2.2.1 x.2.2.2.2.2.2.1 x.2.2.2.2.2.2.2.1 x.2.2.2.2.2.2.2.2.1 x.2.2.2.2.2.2.2.2.2.1 x.2.2.2.2.2.2.2.2.2.2.1 x.2.2.2.2.2.2.2.2.2.2.2.1
 | .TWork,x=>TWork.mk x.1 x.2.1 x.2.2.1 x.2.2.2.1 x.2.2.2.2.1
 | .TS94,x=>TS94.mk x.1 x.2.1 x.2.2.1
 | .TSource,x=>TSource.mk x.1 x.2.1
 | .TMul,x=>TMul.mk x.1 x.2.1 x.2.2.1 x.2.2.2.1 x.2.2.2.2.1
 | .TDiv,x=>TDiv.mk x.1 x.2.1 x.2.2.1 x.2.2.2.1 x.2.2.2.2.1
 | .TPte,x=>TPte.mk x.1 x.2.1
 | .TWalker,x=>TWalker.mk x.1 x.2.1
def zeroD:(i:SI)→D i
 | .TInst=>(default:_root_.Go.Proofs.YtijckobfnmkjdaaGreatDoor.TInst)
 | .TArch=>(default:_root_.Go.Proofs.YtijckobfnmkjdaaGreatDoor.TArch)
 | .TMach=>(default:_root_.Go.Proofs.YtijckobfnmkjdaaGreatDoor.TMach)
 | .TSeg=>(default:_root_.Go.Proofs.YtijckobfnmkjdaaGreatDoor.TSeg)
 | .TImage=>(default:_root_.Go.Proofs.YtijckobfnmkjdaaGreatDoor.TImage)
 | .TSave=>(default:_root_.Go.Proofs.YtijckobfnmkjdaaGreatDoor.TSave)
 | .TGuess=>(default:_root_.Go.Proofs.YtijckobfnmkjdaaGreatDoor.TGuess)
 | .TSlot=>(default:_root_.Go.Proofs.YtijckobfnmkjdaaGreatDoor.TSlot)
 | .TUop=>(default:_root_.Go.Proofs.YtijckobfnmkjdaaGreatDoor.TUop)
 | .TEvent=>(default:_root_.Go.Proofs.YtijckobfnmkjdaaGreatDoor.TEvent)
 | .TWork=>(default:_root_.Go.Proofs.YtijckobfnmkjdaaGreatDoor.TWork)
 | .TS94=>(default:_root_.Go.Proofs.YtijckobfnmkjdaaGreatDoor.TS94)
 | .TSource=>(default:_root_.Go.Proofs.YtijckobfnmkjdaaGreatDoor.TSource)
 | .TMul=>(default:_root_.Go.Proofs.YtijckobfnmkjdaaGreatDoor.TMul)
 | .TDiv=>(default:_root_.Go.Proofs.YtijckobfnmkjdaaGreatDoor.TDiv)
 | .TPte=>(default:_root_.Go.Proofs.YtijckobfnmkjdaaGreatDoor.TPte)
 | .TWalker=>(default:_root_.Go.Proofs.YtijckobfnmkjdaaGreatDoor.TWalker)
def eqD:(i:SI)→D i→D i→Bool
 | .TInst,x,y=>eqT (α:=_root_.Go.Proofs.YtijckobfnmkjdaaGreatDoor.TInst) x y
 | .TArch,x,y=>eqT (α:=_root_.Go.Proofs.YtijckobfnmkjdaaGreatDoor.TArch) x y
 | .TMach,_,_=>false
 | .TSeg,_,_=>false
 | .TImage,_,_=>false
 | .TSave,x,y=>eqT (α:=_root_.Go.Proofs.YtijckobfnmkjdaaGreatDoor.TSave) x y
 | .TGuess,x,y=>eqT (α:=_root_.Go.Proofs.YtijckobfnmkjdaaGreatDoor.TGuess) x y
 | .TSlot,x,y=>eqT (α:=_root_.Go.Proofs.YtijckobfnmkjdaaGreatDoor.TSlot) x y
 | .TUop,x,y=>eqT (α:=_root_.Go.Proofs.YtijckobfnmkjdaaGreatDoor.TUop) x y
 | .TEvent,x,y=>eqT (α:=_root_.Go.Proofs.YtijckobfnmkjdaaGreatDoor.TEvent) x y
 | .TWork,_,_=>false
 | .TS94,x,y=>eqT (α:=_root_.Go.Proofs.YtijckobfnmkjdaaGreatDoor.TS94) x y
 | .TSource,x,y=>eqT (α:=_root_.Go.Proofs.YtijckobfnmkjdaaGreatDoor.TSource) x y
 | .TMul,x,y=>eqT (α:=_root_.Go.Proofs.YtijckobfnmkjdaaGreatDoor.TMul) x y
 | .TDiv,x,y=>eqT (α:=_root_.Go.Proofs.YtijckobfnmkjdaaGreatDoor.TDiv) x y
 | .TPte,x,y=>eqT (α:=_root_.Go.Proofs.YtijckobfnmkjdaaGreatDoor.TPte) x y
 | .TWalker,_,_=>false
def szD:SI→Nat
 | .TInst=>5
 | .TArch=>30
 | .TMach=>33
 | .TSeg=>2
 | .TImage=>2
 | .TSave=>3
 | .TGuess=>5
 | .TSlot=>9
 | .TUop=>23
 | .TEvent=>12
 | .TWork=>48
 | .TS94=>3
 | .TSource=>2
 | .TMul=>5
 | .TDiv=>5
 | .TPte=>2
 | .TWalker=>2
def flatD:SI→Bool
 | .TInst=>true
 | .TArch=>true
 | .TMach=>false
 | .TSeg=>false
 | .TImage=>false
 | .TSave=>true
 | .TGuess=>true
 | .TSlot=>true
 | .TUop=>true
 | .TEvent=>true
 | .TWork=>false
 | .TS94=>true
 | .TSource=>true
 | .TMul=>true
 | .TDiv=>true
 | .TPte=>true
 | .TWalker=>false
def tab:Tab:={ ι:=SI,deq:=inferInstance,D:=D,fields:=fieldsD,to:=toD,of:=ofD,zeroD:=zeroD,eqD:=eqD,szD:=szD,flatD:=flatD,gl:=[(0,.arr 12 (.int .i64),[.int .i64 0,.int .i64 7,.int .i64 11,.int .i64 14,.int .i64 14,.int .i64 9,.int .i64 7,.int .i64 9,.int .i64 10,.int .i64 2,.int .i64 0,.int .i64 3])] }
def tyD:TypeId→Option (Ty SI)
 | 2=>some (.int .i64)
 | 3=>some (.int .i64)
 | 4=>some (.bool)
 | 5=>some (.int .u8)
 | 6=>some (.int .u8)
 | 9=>some (.str)
 | 10=>some (.str)
 | 11=>some (.str)
 | 12=>some (.int .u64)
 | 21=>some (.int .i32)
 | 22=>some (.named .TInst)
 | 23=>some (.named .TInst)
 | 24=>some (.int .u32)
 | 25=>some (.arr 16 (.int .u32))
 | 26=>some (.int .i64)
 | 31=>some (.arr 12 (.int .u32))
 | 32=>some (.named .TArch)
 | 33=>some (.named .TArch)
 | 34=>some (.slice 1 (.int .u8))
 | 35=>some (.slice 4 (.int .u32))
 | 36=>some (.named .TMach)
 | 37=>some (.named .TMach)
 | 41=>some (.named .TSeg)
 | 42=>some (.named .TSeg)
 | 43=>some (.slice 32 (.named .TSeg))
 | 44=>some (.named .TImage)
 | 45=>some (.named .TImage)
 | 46=>some (.slice 168 (.named .TUop))
 | 48=>some (.named .TSave)
 | 49=>some (.named .TSave)
 | 50=>some (.named .TGuess)
 | 51=>some (.named .TGuess)
 | 52=>some (.named .TSlot)
 | 53=>some (.named .TSlot)
 | 54=>some (.arr 3 (.int .u32))
 | 55=>some (.arr 3 (.int .i64))
 | 56=>some (.named .TUop)
 | 57=>some (.named .TUop)
 | 60=>some (.named .TEvent)
 | 61=>some (.named .TEvent)
 | 73=>some (.int .u64)
 | 89=>some (.named .TWork)
 | 90=>some (.named .TWork)
 | 94=>some (.named .TS94)
 | 95=>some (.arr 3 (.named .TS94))
 | 97=>some (.arr 12 (.int .i64))
 | 108=>some (.named .TSource)
 | 109=>some (.named .TSource)
 | 110=>some (.arr 3 (.named .TSource))
 | 120=>some (.named .TMul)
 | 121=>some (.named .TMul)
 | 125=>some (.named .TDiv)
 | 126=>some (.named .TDiv)
 | 142=>some (.int .u64)
 | 146=>some (.named .TPte)
 | 147=>some (.named .TPte)
 | 156=>some (.named .TWalker)
 | 157=>some (.named .TWalker)
 | 173=>some (.int .u8)
 | 174=>some (.int .u8)
 | 177=>some (.int .i32)
 | 178=>some (.int .i32)
 | _=>none
def cx:Cx:={ X:=tab,ty:=tyD }
theorem tabOk:TabOk tab where
 to_of:=by intro i x;cases i<;>rfl
 of_to:=by intro i v;cases i<;>rfl
 sz:=by intro i;cases i<;>rfl
 eq:=by
  intro i h a b
  cases i<;>first | exact eqT_iff | cases h
 flat:=by
  intro i h t ht
  cases i<;>first | (cases h;done) | (revert t;exact List.all_eq_true.1 (by rfl))
 zero:=by
  intro i j t x h
  have hz:tab.to i (tab.zeroD i)=zerosT tab (tab.fields i):=by cases i<;>rfl
  rw [hz] at h
  exact getT_zeros h
end Go.Proofs.YtijckobfnmkjdaaGreatDoor
