/- YtkddkpmijhionaaGreatDoorTypes: the program's structs as structures, and their table. No statement of the seat is proved here. -/
import Derived.Test.YtkddkpmijhionaaGreatDoorA2D
set_option linter.unusedSimpArgs false
set_option linter.unusedVariables false
namespace Go.Proofs.YtkddkpmijhionaaGreatDoor
open Go Go.A2
structure TConf where
 Fetch:W .i64
 Wide:W .i64
 Issue:W .i64
 Retire:W .i64
 Queue:W .i64
 Rob:W .i64
 Iq:W .i64
 Lq:W .i64
 Sq:W .i64
 Sb:W .i64
 Phys:W .i64
 Hist:W .i64
 Btb:W .i64
 Ras:W .i64
 Dep:W .i64
 Tlb:W .i64
 MulLat:W .i64
 DivLat:W .i64
 MemLat:W .i64
 Sets:W .i64
 Ways:W .i64
 Eager:Bool
 deriving DecidableEq
instance : Inhabited TConf := ⟨default, default, default, default, default, default, default, default, default, default, default, default, default, default, default, default, default, default, default, default, default, default⟩
structure TArch where
 PC:W .u32
 R:Arr 16 (W .u32)
 C:Arr 12 (W .u32)
 Halt:Bool
 deriving DecidableEq
instance : Inhabited TArch := ⟨default, default, default, default⟩
structure TBtb where
 PC:W .u32
 Target:W .u32
 Kind:W .i64
 deriving DecidableEq
instance : Inhabited TBtb := ⟨default, default, default⟩
structure TPred where
 Hist:W .u32
 Table:Sl 1 (W .u8)
 Btb:Sl 16 (TBtb)
 Next:W .i64
 Ras:Sl 4 (W .u32)
 Top:W .i64
instance : Inhabited TPred := ⟨default, default, default, default, default, default⟩
structure TFree where
 Ring:Sl 8 (W .i64)
 Head:W .i64
 N:W .i64
instance : Inhabited TFree := ⟨default, default, default⟩
structure TNames where
 Map:Arr 16 (W .i64)
 Done:Arr 16 (W .i64)
 Free:TFree
 Seq:W .u64
instance : Inhabited TNames := ⟨default, default, default, default⟩
structure TPhys where
 Val:Sl 4 (W .u32)
 Ready:Sl 1 (Bool)
instance : Inhabited TPhys := ⟨default, default⟩
structure TPte where
 Bits:W .u32
 Page:W .i64
 deriving DecidableEq
instance : Inhabited TPte := ⟨default, default⟩
structure TTlb where
 Valid:Bool
 Virt:W .u32
 Pte:TPte
 deriving DecidableEq
instance : Inhabited TTlb := ⟨default, default, default⟩
structure TSave where
 Hist:W .u32
 Top:W .i64
 Val:W .u32
 deriving DecidableEq
instance : Inhabited TSave := ⟨default, default, default⟩
structure TGuess where
 Taken:Bool
 Target:W .u32
 Save:TSave
 deriving DecidableEq
instance : Inhabited TGuess := ⟨default, default, default⟩
structure TSlot where
 PC:W .u32
 Word:W .u32
 Cause:W .i64
 Tval:W .u32
 Guess:TGuess
 deriving DecidableEq
instance : Inhabited TSlot := ⟨default, default, default, default, default⟩
structure TInst where
 Op:W .i64
 Rd:W .i64
 Ra:W .i64
 Rb:W .i64
 Imm:W .i64
 deriving DecidableEq
instance : Inhabited TInst := ⟨default, default, default, default, default⟩
structure TUop where
 Inst:TInst
 Slot:TSlot
 Unit:W .i64
 Part:W .i64
 Last:Bool
 Src:Arr 3 (W .i64)
 Dst:W .i64
 Cause:W .i64
 Tval:W .u32
 deriving DecidableEq
instance : Inhabited TUop := ⟨default, default, default, default, default, default, default, default, default⟩
structure TRen where
 Uop:TUop
 Seq:W .u64
 In:Arr 3 (W .i64)
 Out:W .i64
 Old:W .i64
 deriving DecidableEq
instance : Inhabited TRen := ⟨default, default, default, default, default⟩
structure TRob where
 Ren:TRen
 Done:Bool
 Val:W .u32
 Next:W .u32
 Cause:W .i64
 Tval:W .u32
 Stale:Bool
 deriving DecidableEq
instance : Inhabited TRob := ⟨default, default, default, default, default, default, default⟩
structure TIq where
 Ren:TRen
 Ready:Arr 3 (Bool)
 deriving DecidableEq
instance : Inhabited TIq := ⟨default, default⟩
structure TLq where
 Seq:W .u64
 PC:W .u32
 Addr:W .u32
 Size:W .i64
 Known:Bool
 Done:Bool
 From:W .u64
 Stale:Bool
 deriving DecidableEq
instance : Inhabited TLq := ⟨default, default, default, default, default, default, default, default⟩
structure TSq where
 Seq:W .u64
 Addr:W .u32
 Data:W .u32
 Size:W .i64
 Known:Bool
 deriving DecidableEq
instance : Inhabited TSq := ⟨default, default, default, default, default⟩
structure TSb where
 Addr:W .u32
 Data:W .u32
 Size:W .i64
 deriving DecidableEq
instance : Inhabited TSb := ⟨default, default, default⟩
structure TFlight where
 Ren:TRen
 Unit:W .i64
 Left:W .i64
 Val:W .u32
 Next:W .u32
 Cause:W .i64
 Tval:W .u32
 deriving DecidableEq
instance : Inhabited TFlight := ⟨default, default, default, default, default, default, default⟩
structure TCore where
 Conf:TConf
 A:TArch
 Shadow:Sl 1 (W .u8)
 Out:Sl 4 (W .u32)
 PC:W .u32
 Hold:Bool
 Pred:TPred
 Tlb:Sl 24 (TTlb)
 TlbNext:W .i64
 Queue:Sl 56 (TSlot)
 Names:TNames
 Phys:TPhys
 Rob:Sl 248 (TRob)
 Iq:Sl 224 (TIq)
 Lq:Sl 48 (TLq)
 Sq:Sl 32 (TSq)
 Sb:Sl 16 (TSb)
 Units:Sl 256 (TFlight)
 Dep:Sl 1 (W .u8)
 Wait:W .i64
 Cycle:W .i64
instance : Inhabited TCore := ⟨default, default, default, default, default, default, default, default, default, default, default, default, default, default, default, default, default, default, default, default, default⟩
structure TTick where
 Lines:W .u32
 Stall:W .u32
 Pick:W .i64
 Drain:Bool
 Grant:W .i64
 deriving DecidableEq
instance : Inhabited TTick := ⟨default, default, default, default, default⟩
structure TMach where
 A:TArch
 Mem:Sl 1 (W .u8)
 Shadow:Sl 1 (W .u8)
 Out:Sl 4 (W .u32)
instance : Inhabited TMach := ⟨default, default, default, default⟩
structure TSeg where
 At:W .u32
 Data:Sl 1 (W .u8)
instance : Inhabited TSeg := ⟨default, default⟩
structure TImage where
 Start:W .u32
 Segs:Sl 32 (TSeg)
instance : Inhabited TImage := ⟨default, default⟩
structure TNote where
 Cycle:W .i64
 Kind:W .i64
 Seq:W .u64
 PC:W .u32
 deriving DecidableEq
instance : Inhabited TNote := ⟨default, default, default, default⟩
structure TS214 where
 bit:W .i64
 n_:W .i64
 most:W .i64
 deriving DecidableEq
instance : Inhabited TS214 := ⟨default, default, default⟩
structure TBound where
 n_:W .i64
 least:W .i64
 most:W .i64
 deriving DecidableEq
instance : Inhabited TBound := ⟨default, default, default⟩
inductive SI where
 | TConf
 | TArch
 | TBtb
 | TPred
 | TFree
 | TNames
 | TPhys
 | TPte
 | TTlb
 | TSave
 | TGuess
 | TSlot
 | TInst
 | TUop
 | TRen
 | TRob
 | TIq
 | TLq
 | TSq
 | TSb
 | TFlight
 | TCore
 | TTick
 | TMach
 | TSeg
 | TImage
 | TNote
 | TS214
 | TBound
 deriving DecidableEq
def D:SI→Type
 | .TConf=>_root_.Go.Proofs.YtkddkpmijhionaaGreatDoor.TConf
 | .TArch=>_root_.Go.Proofs.YtkddkpmijhionaaGreatDoor.TArch
 | .TBtb=>_root_.Go.Proofs.YtkddkpmijhionaaGreatDoor.TBtb
 | .TPred=>_root_.Go.Proofs.YtkddkpmijhionaaGreatDoor.TPred
 | .TFree=>_root_.Go.Proofs.YtkddkpmijhionaaGreatDoor.TFree
 | .TNames=>_root_.Go.Proofs.YtkddkpmijhionaaGreatDoor.TNames
 | .TPhys=>_root_.Go.Proofs.YtkddkpmijhionaaGreatDoor.TPhys
 | .TPte=>_root_.Go.Proofs.YtkddkpmijhionaaGreatDoor.TPte
 | .TTlb=>_root_.Go.Proofs.YtkddkpmijhionaaGreatDoor.TTlb
 | .TSave=>_root_.Go.Proofs.YtkddkpmijhionaaGreatDoor.TSave
 | .TGuess=>_root_.Go.Proofs.YtkddkpmijhionaaGreatDoor.TGuess
 | .TSlot=>_root_.Go.Proofs.YtkddkpmijhionaaGreatDoor.TSlot
 | .TInst=>_root_.Go.Proofs.YtkddkpmijhionaaGreatDoor.TInst
 | .TUop=>_root_.Go.Proofs.YtkddkpmijhionaaGreatDoor.TUop
 | .TRen=>_root_.Go.Proofs.YtkddkpmijhionaaGreatDoor.TRen
 | .TRob=>_root_.Go.Proofs.YtkddkpmijhionaaGreatDoor.TRob
 | .TIq=>_root_.Go.Proofs.YtkddkpmijhionaaGreatDoor.TIq
 | .TLq=>_root_.Go.Proofs.YtkddkpmijhionaaGreatDoor.TLq
 | .TSq=>_root_.Go.Proofs.YtkddkpmijhionaaGreatDoor.TSq
 | .TSb=>_root_.Go.Proofs.YtkddkpmijhionaaGreatDoor.TSb
 | .TFlight=>_root_.Go.Proofs.YtkddkpmijhionaaGreatDoor.TFlight
 | .TCore=>_root_.Go.Proofs.YtkddkpmijhionaaGreatDoor.TCore
 | .TTick=>_root_.Go.Proofs.YtkddkpmijhionaaGreatDoor.TTick
 | .TMach=>_root_.Go.Proofs.YtkddkpmijhionaaGreatDoor.TMach
 | .TSeg=>_root_.Go.Proofs.YtkddkpmijhionaaGreatDoor.TSeg
 | .TImage=>_root_.Go.Proofs.YtkddkpmijhionaaGreatDoor.TImage
 | .TNote=>_root_.Go.Proofs.YtkddkpmijhionaaGreatDoor.TNote
 | .TS214=>_root_.Go.Proofs.YtkddkpmijhionaaGreatDoor.TS214
 | .TBound=>_root_.Go.Proofs.YtkddkpmijhionaaGreatDoor.TBound
def fieldsD:SI→List (Ty SI)
 | .TConf=>[.int .i64,.int .i64,.int .i64,.int .i64,.int .i64,.int .i64,.int .i64,.int .i64,.int .i64,.int .i64,.int .i64,.int .i64,.int .i64,.int .i64,.int .i64,.int .i64,.int .i64,.int .i64,.int .i64,.int .i64,.int .i64,.bool]
 | .TArch=>[.int .u32,.arr 16 (.int .u32),.arr 12 (.int .u32),.bool]
 | .TBtb=>[.int .u32,.int .u32,.int .i64]
 | .TPred=>[.int .u32,.slice 1 (.int .u8),.slice 16 (.named .TBtb),.int .i64,.slice 4 (.int .u32),.int .i64]
 | .TFree=>[.slice 8 (.int .i64),.int .i64,.int .i64]
 | .TNames=>[.arr 16 (.int .i64),.arr 16 (.int .i64),.named .TFree,.int .u64]
 | .TPhys=>[.slice 4 (.int .u32),.slice 1 (.bool)]
 | .TPte=>[.int .u32,.int .i64]
 | .TTlb=>[.bool,.int .u32,.named .TPte]
 | .TSave=>[.int .u32,.int .i64,.int .u32]
 | .TGuess=>[.bool,.int .u32,.named .TSave]
 | .TSlot=>[.int .u32,.int .u32,.int .i64,.int .u32,.named .TGuess]
 | .TInst=>[.int .i64,.int .i64,.int .i64,.int .i64,.int .i64]
 | .TUop=>[.named .TInst,.named .TSlot,.int .i64,.int .i64,.bool,.arr 3 (.int .i64),.int .i64,.int .i64,.int .u32]
 | .TRen=>[.named .TUop,.int .u64,.arr 3 (.int .i64),.int .i64,.int .i64]
 | .TRob=>[.named .TRen,.bool,.int .u32,.int .u32,.int .i64,.int .u32,.bool]
 | .TIq=>[.named .TRen,.arr 3 (.bool)]
 | .TLq=>[.int .u64,.int .u32,.int .u32,.int .i64,.bool,.bool,.int .u64,.bool]
 | .TSq=>[.int .u64,.int .u32,.int .u32,.int .i64,.bool]
 | .TSb=>[.int .u32,.int .u32,.int .i64]
 | .TFlight=>[.named .TRen,.int .i64,.int .i64,.int .u32,.int .u32,.int .i64,.int .u32]
 | .TCore=>[.named .TConf,.named .TArch,.slice 1 (.int .u8),.slice 4 (.int .u32),.int .u32,.bool,.named .TPred,.slice 24 (.named .TTlb),.int .i64,.slice 56 (.named .TSlot),.named .TNames,.named .TPhys,.slice 248 (.named .TRob),.slice 224 (.named .TIq),.slice 48 (.named .TLq),.slice 32 (.named .TSq),.slice 16 (.named .TSb),.slice 256 (.named .TFlight),.slice 1 (.int .u8),.int .i64,.int .i64]
 | .TTick=>[.int .u32,.int .u32,.int .i64,.bool,.int .i64]
 | .TMach=>[.named .TArch,.slice 1 (.int .u8),.slice 1 (.int .u8),.slice 4 (.int .u32)]
 | .TSeg=>[.int .u32,.slice 1 (.int .u8)]
 | .TImage=>[.int .u32,.slice 32 (.named .TSeg)]
 | .TNote=>[.int .i64,.int .i64,.int .u64,.int .u32]
 | .TS214=>[.int .i64,.int .i64,.int .i64]
 | .TBound=>[.int .i64,.int .i64,.int .i64]
def toD:(i:SI)→D i→Tup D (fieldsD i)
 | .TConf,x=>(TConf.Fetch x,TConf.Wide x,TConf.Issue x,TConf.Retire x,TConf.Queue x,TConf.Rob x,TConf.Iq x,TConf.Lq x,TConf.Sq x,TConf.Sb x,TConf.Phys x,TConf.Hist x,TConf.Btb x,TConf.Ras x,TConf.Dep x,TConf.Tlb x,TConf.MulLat x,TConf.DivLat x,TConf.MemLat x,TConf.Sets x,TConf.Ways x,TConf.Eager x,())
 | .TArch,x=>(TArch.PC x,TArch.R x,TArch.C x,TArch.Halt x,())
 | .TBtb,x=>(TBtb.PC x,TBtb.Target x,TBtb.Kind x,())
 | .TPred,x=>(TPred.Hist x,TPred.Table x,TPred.Btb x,TPred.Next x,TPred.Ras x,TPred.Top x,())
 | .TFree,x=>(TFree.Ring x,TFree.Head x,TFree.N x,())
 | .TNames,x=>(TNames.Map x,TNames.Done x,TNames.Free x,TNames.Seq x,())
 | .TPhys,x=>(TPhys.Val x,TPhys.Ready x,())
 | .TPte,x=>(TPte.Bits x,TPte.Page x,())
 | .TTlb,x=>(TTlb.Valid x,TTlb.Virt x,TTlb.Pte x,())
 | .TSave,x=>(TSave.Hist x,TSave.Top x,TSave.Val x,())
 | .TGuess,x=>(TGuess.Taken x,TGuess.Target x,TGuess.Save x,())
 | .TSlot,x=>(TSlot.PC x,TSlot.Word x,TSlot.Cause x,TSlot.Tval x,TSlot.Guess x,())
 | .TInst,x=>(TInst.Op x,TInst.Rd x,TInst.Ra x,TInst.Rb x,TInst.Imm x,())
 | .TUop,x=>(TUop.Inst x,TUop.Slot x,TUop.Unit x,TUop.Part x,TUop.Last x,TUop.Src x,TUop.Dst x,TUop.Cause x,TUop.Tval x,())
 | .TRen,x=>(TRen.Uop x,TRen.Seq x,TRen.In x,TRen.Out x,TRen.Old x,())
 | .TRob,x=>(TRob.Ren x,TRob.Done x,TRob.Val x,TRob.Next x,TRob.Cause x,TRob.Tval x,TRob.Stale x,())
 | .TIq,x=>(TIq.Ren x,TIq.Ready x,())
 | .TLq,x=>(TLq.Seq x,TLq.PC x,TLq.Addr x,TLq.Size x,TLq.Known x,TLq.Done x,TLq.From x,TLq.Stale x,())
 | .TSq,x=>(TSq.Seq x,TSq.Addr x,TSq.Data x,TSq.Size x,TSq.Known x,())
 | .TSb,x=>(TSb.Addr x,TSb.Data x,TSb.Size x,())
 | .TFlight,x=>(TFlight.Ren x,TFlight.Unit x,TFlight.Left x,TFlight.Val x,TFlight.Next x,TFlight.Cause x,TFlight.Tval x,())
 | .TCore,x=>(TCore.Conf x,TCore.A x,TCore.Shadow x,TCore.Out x,TCore.PC x,TCore.Hold x,TCore.Pred x,TCore.Tlb x,TCore.TlbNext x,TCore.Queue x,TCore.Names x,TCore.Phys x,TCore.Rob x,TCore.Iq x,TCore.Lq x,TCore.Sq x,TCore.Sb x,TCore.Units x,TCore.Dep x,TCore.Wait x,TCore.Cycle x,())
 | .TTick,x=>(TTick.Lines x,TTick.Stall x,TTick.Pick x,TTick.Drain x,TTick.Grant x,())
 | .TMach,x=>(TMach.A x,TMach.Mem x,TMach.Shadow x,TMach.Out x,())
 | .TSeg,x=>(TSeg.At x,TSeg.Data x,())
 | .TImage,x=>(TImage.Start x,TImage.Segs x,())
 | .TNote,x=>(TNote.Cycle x,TNote.Kind x,TNote.Seq x,TNote.PC x,())
 | .TS214,x=>(TS214.bit x,TS214.n_ x,TS214.most x,())
 | .TBound,x=>(TBound.n_ x,TBound.least x,TBound.most x,())
def ofD:(i:SI)→Tup D (fieldsD i)→D i
 | .TConf,x=>TConf.mk x.1 x.2.1 x.2.2.1 x.2.2.2.1 x.2.2.2.2.1 x.2.2.2.2.2.1 x.2.2.2.2.2.2.1 x.2.2.2.2.2.2.2.1 x.2.2.2.2.2.2.2.2.1 x.2.2.2.2.2.2.2.2.2.1 x.2.2.2.2.2.2.2.2.2.2.1 x.2.2.2.2.2.2.2.2.2.2.2.1 x.2.2.2.2.2.2.2.2.2.2.2.2.1 x.2.2.2.2.2.2.2.2.2.2.2.2.2.1 x.2.2.2.2.2.2.2.2.2.2.2.2.2.2.1 x.2.2.2.2.2.2.2.2.2.2.2.2.2.2.2.1 x.2.2.2.2.2.2.2.2.2.2.2.2.2.2.2.2.1 x.2.2.2.2.2.2.2.2.2.2.2.2.2.2.2.2.2.1 x.2.2.2.2.2.2.2.2.2.2.2.2.2.2.2.2.2.2.1 x.2.2.2.2.2.2.2.2.2.2.2.2.2.2.2.2.2.2.2.1 x.2.2.2.2.2.2.2.2.2.2.2.2.2.2.2.2.2.2.2.2.1 x.2.2.2.2.2.2.2.2.2.2.2.2.2.2.2.2.2.2.2.2.2.1
 | .TArch,x=>TArch.mk x.1 x.2.1 x.2.2.1 x.2.2.2.1
 | .TBtb,x=>TBtb.mk x.1 x.2.1 x.2.2.1
 | .TPred,x=>TPred.mk x.1 x.2.1 x.2.2.1 x.2.2.2.1 x.2.2.2.2.1 x.2.2.2.2.2.1
 | .TFree,x=>TFree.mk x.1 x.2.1 x.2.2.1
 | .TNames,x=>TNames.mk x.1 x.2.1 x.2.2.1 x.2.2.2.1
 | .TPhys,x=>TPhys.mk x.1 x.2.1
 | .TPte,x=>TPte.mk x.1 x.2.1
 | .TTlb,x=>TTlb.mk x.1 x.2.1 x.2.2.1
 | .TSave,x=>TSave.mk x.1 x.2.1 x.2.2.1
 | .TGuess,x=>TGuess.mk x.1 x.2.1 x.2.2.1
 | .TSlot,x=>TSlot.mk x.1 x.2.1 x.2.2.1 x.2.2.2.1 x.2.2.2.2.1
 | .TInst,x=>TInst.mk x.1 x.2.1 x.2.2.1 x.2.2.2.1 x.2.2.2.2.1
 | .TUop,x=>TUop.mk x.1 x.2.1 x.2.2.1 x.2.2.2.1 x.2.2.2.2.1 x.2.2.2.2.2.1 x.2.2.2.2.2.2.1 x.2.2.2.2.2.2.2.1 x.2.2.2.2.2.2.2.2.1
 | .TRen,x=>TRen.mk x.1 x.2.1 x.2.2.1 x.2.2.2.1 x.2.2.2.2.1
 | .TRob,x=>TRob.mk x.1 x.2.1 x.2.2.1 x.2.2.2.1 x.2.2.2.2.1 x.2.2.2.2.2.1 x.2.2.2.2.2.2.1
 | .TIq,x=>TIq.mk x.1 x.2.1
 | .TLq,x=>TLq.mk x.1 x.2.1 x.2.2.1 x.2.2.2.1 x.2.2.2.2.1 x.2.2.2.2.2.1 x.2.2.2.2.2.2.1 x.2.2.2.2.2.2.2.1
 | .TSq,x=>TSq.mk x.1 x.2.1 x.2.2.1 x.2.2.2.1 x.2.2.2.2.1
 | .TSb,x=>TSb.mk x.1 x.2.1 x.2.2.1
 | .TFlight,x=>TFlight.mk x.1 x.2.1 x.2.2.1 x.2.2.2.1 x.2.2.2.2.1 x.2.2.2.2.2.1 x.2.2.2.2.2.2.1
 | .TCore,x=>TCore.mk x.1 x.2.1 x.2.2.1 x.2.2.2.1 x.2.2.2.2.1 x.2.2.2.2.2.1 x.2.2.2.2.2.2.1 x.2.2.2.2.2.2.2.1 x.2.2.2.2.2.2.2.2.1 x.2.2.2.2.2.2.2.2.2.1 x.2.2.2.2.2.2.2.2.2.2.1 x.2.2.2.2.2.2.2.2.2.2.2.1 x.2.2.2.2.2.2.2.2.2.2.2.2.1 x.2.2.2.2.2.2.2.2.2.2.2.2.2.1 x.2.2.2.2.2.2.2.2.2.2.2.2.2.2.1 x.2.2.2.2.2.2.2.2.2.2.2.2.2.2.2.1 x.2.2.2.2.2.2.2.2.2.2.2.2.2.2.2.2.1 x.2.2.2.2.2.2.2.2.2.2.2.2.2.2.2.2.2.1 x.2.2.2.2.2.2.2.2.2.2.2.2.2.2.2.2.2.2.1 x.2.2.2.2.2.2.2.2.2.2.2.2.2.2.2.2.2.2.2.1 x.2.2.2.2.2.2.2.2.2.2.2.2.2.2.2.2.2.2.2.2.1
 | .TTick,x=>TTick.mk x.1 x.2.1 x.2.2.1 x.2.2.2.1 x.2.2.2.2.1
 | .TMach,x=>TMach.mk x.1 x.2.1 x.2.2.1 x.2.2.2.1
 | .TSeg,x=>TSeg.mk x.1 x.2.1
 | .TImage,x=>TImage.mk x.1 x.2.1
 | .TNote,x=>TNote.mk x.1 x.2.1 x.2.2.1 x.2.2.2.1
 | .TS214,x=>TS214.mk x.1 x.2.1 x.2.2.1
 | .TBound,x=>TBound.mk x.1 x.2.1 x.2.2.1
def zeroD:(i:SI)→D i
 | .TConf=>(default:_root_.Go.Proofs.YtkddkpmijhionaaGreatDoor.TConf)
 | .TArch=>(default:_root_.Go.Proofs.YtkddkpmijhionaaGreatDoor.TArch)
 | .TBtb=>(default:_root_.Go.Proofs.YtkddkpmijhionaaGreatDoor.TBtb)
 | .TPred=>(default:_root_.Go.Proofs.YtkddkpmijhionaaGreatDoor.TPred)
 | .TFree=>(default:_root_.Go.Proofs.YtkddkpmijhionaaGreatDoor.TFree)
 | .TNames=>(default:_root_.Go.Proofs.YtkddkpmijhionaaGreatDoor.TNames)
 | .TPhys=>(default:_root_.Go.Proofs.YtkddkpmijhionaaGreatDoor.TPhys)
 | .TPte=>(default:_root_.Go.Proofs.YtkddkpmijhionaaGreatDoor.TPte)
 | .TTlb=>(default:_root_.Go.Proofs.YtkddkpmijhionaaGreatDoor.TTlb)
 | .TSave=>(default:_root_.Go.Proofs.YtkddkpmijhionaaGreatDoor.TSave)
 | .TGuess=>(default:_root_.Go.Proofs.YtkddkpmijhionaaGreatDoor.TGuess)
 | .TSlot=>(default:_root_.Go.Proofs.YtkddkpmijhionaaGreatDoor.TSlot)
 | .TInst=>(default:_root_.Go.Proofs.YtkddkpmijhionaaGreatDoor.TInst)
 | .TUop=>(default:_root_.Go.Proofs.YtkddkpmijhionaaGreatDoor.TUop)
 | .TRen=>(default:_root_.Go.Proofs.YtkddkpmijhionaaGreatDoor.TRen)
 | .TRob=>(default:_root_.Go.Proofs.YtkddkpmijhionaaGreatDoor.TRob)
 | .TIq=>(default:_root_.Go.Proofs.YtkddkpmijhionaaGreatDoor.TIq)
 | .TLq=>(default:_root_.Go.Proofs.YtkddkpmijhionaaGreatDoor.TLq)
 | .TSq=>(default:_root_.Go.Proofs.YtkddkpmijhionaaGreatDoor.TSq)
 | .TSb=>(default:_root_.Go.Proofs.YtkddkpmijhionaaGreatDoor.TSb)
 | .TFlight=>(default:_root_.Go.Proofs.YtkddkpmijhionaaGreatDoor.TFlight)
 | .TCore=>(default:_root_.Go.Proofs.YtkddkpmijhionaaGreatDoor.TCore)
 | .TTick=>(default:_root_.Go.Proofs.YtkddkpmijhionaaGreatDoor.TTick)
 | .TMach=>(default:_root_.Go.Proofs.YtkddkpmijhionaaGreatDoor.TMach)
 | .TSeg=>(default:_root_.Go.Proofs.YtkddkpmijhionaaGreatDoor.TSeg)
 | .TImage=>(default:_root_.Go.Proofs.YtkddkpmijhionaaGreatDoor.TImage)
 | .TNote=>(default:_root_.Go.Proofs.YtkddkpmijhionaaGreatDoor.TNote)
 | .TS214=>(default:_root_.Go.Proofs.YtkddkpmijhionaaGreatDoor.TS214)
 | .TBound=>(default:_root_.Go.Proofs.YtkddkpmijhionaaGreatDoor.TBound)
def eqD:(i:SI)→D i→D i→Bool
 | .TConf,x,y=>eqT (α:=_root_.Go.Proofs.YtkddkpmijhionaaGreatDoor.TConf) x y
 | .TArch,x,y=>eqT (α:=_root_.Go.Proofs.YtkddkpmijhionaaGreatDoor.TArch) x y
 | .TBtb,x,y=>eqT (α:=_root_.Go.Proofs.YtkddkpmijhionaaGreatDoor.TBtb) x y
 | .TPred,_,_=>false
 | .TFree,_,_=>false
 | .TNames,_,_=>false
 | .TPhys,_,_=>false
 | .TPte,x,y=>eqT (α:=_root_.Go.Proofs.YtkddkpmijhionaaGreatDoor.TPte) x y
 | .TTlb,x,y=>eqT (α:=_root_.Go.Proofs.YtkddkpmijhionaaGreatDoor.TTlb) x y
 | .TSave,x,y=>eqT (α:=_root_.Go.Proofs.YtkddkpmijhionaaGreatDoor.TSave) x y
 | .TGuess,x,y=>eqT (α:=_root_.Go.Proofs.YtkddkpmijhionaaGreatDoor.TGuess) x y
 | .TSlot,x,y=>eqT (α:=_root_.Go.Proofs.YtkddkpmijhionaaGreatDoor.TSlot) x y
 | .TInst,x,y=>eqT (α:=_root_.Go.Proofs.YtkddkpmijhionaaGreatDoor.TInst) x y
 | .TUop,x,y=>eqT (α:=_root_.Go.Proofs.YtkddkpmijhionaaGreatDoor.TUop) x y
 | .TRen,x,y=>eqT (α:=_root_.Go.Proofs.YtkddkpmijhionaaGreatDoor.TRen) x y
 | .TRob,x,y=>eqT (α:=_root_.Go.Proofs.YtkddkpmijhionaaGreatDoor.TRob) x y
 | .TIq,x,y=>eqT (α:=_root_.Go.Proofs.YtkddkpmijhionaaGreatDoor.TIq) x y
 | .TLq,x,y=>eqT (α:=_root_.Go.Proofs.YtkddkpmijhionaaGreatDoor.TLq) x y
 | .TSq,x,y=>eqT (α:=_root_.Go.Proofs.YtkddkpmijhionaaGreatDoor.TSq) x y
 | .TSb,x,y=>eqT (α:=_root_.Go.Proofs.YtkddkpmijhionaaGreatDoor.TSb) x y
 | .TFlight,x,y=>eqT (α:=_root_.Go.Proofs.YtkddkpmijhionaaGreatDoor.TFlight) x y
 | .TCore,_,_=>false
 | .TTick,x,y=>eqT (α:=_root_.Go.Proofs.YtkddkpmijhionaaGreatDoor.TTick) x y
 | .TMach,_,_=>false
 | .TSeg,_,_=>false
 | .TImage,_,_=>false
 | .TNote,x,y=>eqT (α:=_root_.Go.Proofs.YtkddkpmijhionaaGreatDoor.TNote) x y
 | .TS214,x,y=>eqT (α:=_root_.Go.Proofs.YtkddkpmijhionaaGreatDoor.TS214) x y
 | .TBound,x,y=>eqT (α:=_root_.Go.Proofs.YtkddkpmijhionaaGreatDoor.TBound) x y
def szD:SI→Nat
 | .TConf=>22
 | .TArch=>30
 | .TBtb=>3
 | .TPred=>6
 | .TFree=>3
 | .TNames=>36
 | .TPhys=>2
 | .TPte=>2
 | .TTlb=>4
 | .TSave=>3
 | .TGuess=>5
 | .TSlot=>9
 | .TInst=>5
 | .TUop=>23
 | .TRen=>29
 | .TRob=>35
 | .TIq=>32
 | .TLq=>8
 | .TSq=>5
 | .TSb=>3
 | .TFlight=>35
 | .TCore=>112
 | .TTick=>5
 | .TMach=>33
 | .TSeg=>2
 | .TImage=>2
 | .TNote=>4
 | .TS214=>3
 | .TBound=>3
def flatD:SI→Bool
 | .TConf=>true
 | .TArch=>true
 | .TBtb=>true
 | .TPred=>false
 | .TFree=>false
 | .TNames=>false
 | .TPhys=>false
 | .TPte=>true
 | .TTlb=>true
 | .TSave=>true
 | .TGuess=>true
 | .TSlot=>true
 | .TInst=>true
 | .TUop=>true
 | .TRen=>true
 | .TRob=>true
 | .TIq=>true
 | .TLq=>true
 | .TSq=>true
 | .TSb=>true
 | .TFlight=>true
 | .TCore=>false
 | .TTick=>true
 | .TMach=>false
 | .TSeg=>false
 | .TImage=>false
 | .TNote=>true
 | .TS214=>true
 | .TBound=>true
def tab:Tab:={ ι:=SI,deq:=inferInstance,D:=D,fields:=fieldsD,to:=toD,of:=ofD,zeroD:=zeroD,eqD:=eqD,szD:=szD,flatD:=flatD,gl:=[(0,.arr 12 (.int .i64),[.int .i64 0,.int .i64 7,.int .i64 11,.int .i64 14,.int .i64 14,.int .i64 9,.int .i64 7,.int .i64 9,.int .i64 10,.int .i64 2,.int .i64 0,.int .i64 3])],lf:=[99,100],df:=[100] }
def tyD:TypeId→Option (Ty SI)
 | 2=>some (.int .i64)
 | 3=>some (.int .i64)
 | 4=>some (.bool)
 | 5=>some (.int .u8)
 | 6=>some (.int .u8)
 | 9=>some (.str)
 | 10=>some (.str)
 | 11=>some (.str)
 | 12=>some (.int .u64)
 | 21=>some (.int .i32)
 | 22=>some (.named .TConf)
 | 23=>some (.named .TConf)
 | 24=>some (.int .u32)
 | 25=>some (.arr 16 (.int .u32))
 | 26=>some (.arr 12 (.int .u32))
 | 27=>some (.named .TArch)
 | 28=>some (.named .TArch)
 | 29=>some (.slice 1 (.int .u8))
 | 30=>some (.slice 4 (.int .u32))
 | 31=>some (.slice 16 (.named .TBtb))
 | 32=>some (.named .TPred)
 | 33=>some (.named .TPred)
 | 34=>some (.slice 24 (.named .TTlb))
 | 35=>some (.slice 56 (.named .TSlot))
 | 36=>some (.arr 16 (.int .i64))
 | 37=>some (.arr 16 (.int .i64))
 | 38=>some (.slice 8 (.int .i64))
 | 39=>some (.named .TFree)
 | 40=>some (.named .TFree)
 | 41=>some (.int .u64)
 | 42=>some (.named .TNames)
 | 43=>some (.named .TNames)
 | 44=>some (.slice 1 (.bool))
 | 45=>some (.named .TPhys)
 | 46=>some (.named .TPhys)
 | 47=>some (.slice 248 (.named .TRob))
 | 48=>some (.slice 224 (.named .TIq))
 | 49=>some (.slice 48 (.named .TLq))
 | 50=>some (.slice 32 (.named .TSq))
 | 51=>some (.slice 16 (.named .TSb))
 | 52=>some (.slice 256 (.named .TFlight))
 | 53=>some (.named .TCore)
 | 54=>some (.named .TCore)
 | 55=>some (.named .TTick)
 | 56=>some (.named .TTick)
 | 59=>some (.slice 32 (.named .TNote))
 | 66=>some (.named .TSave)
 | 67=>some (.named .TSave)
 | 68=>some (.named .TGuess)
 | 69=>some (.named .TGuess)
 | 70=>some (.named .TSlot)
 | 71=>some (.named .TSlot)
 | 72=>some (.named .TInst)
 | 73=>some (.named .TInst)
 | 74=>some (.arr 3 (.int .i64))
 | 75=>some (.named .TUop)
 | 76=>some (.named .TUop)
 | 77=>some (.named .TRen)
 | 78=>some (.named .TRen)
 | 79=>some (.named .TRob)
 | 80=>some (.named .TRob)
 | 81=>some (.slice 168 (.named .TUop))
 | 88=>some (.int .i64)
 | 91=>some (.named .TMach)
 | 92=>some (.named .TMach)
 | 95=>some (.slice 32 (.named .TSeg))
 | 96=>some (.named .TImage)
 | 97=>some (.named .TImage)
 | 101=>some (.named .TNote)
 | 102=>some (.named .TNote)
 | 114=>some (.slice 216 (.named .TRen))
 | 131=>some (.named .TSb)
 | 132=>some (.named .TSb)
 | 133=>some (.named .TFlight)
 | 134=>some (.named .TFlight)
 | 156=>some (.arr 3 (.bool))
 | 162=>some (.named .TIq)
 | 163=>some (.named .TIq)
 | 168=>some (.named .TLq)
 | 169=>some (.named .TLq)
 | 173=>some (.named .TSq)
 | 174=>some (.named .TSq)
 | 181=>some (.named .TPte)
 | 182=>some (.named .TPte)
 | 183=>some (.named .TTlb)
 | 184=>some (.named .TTlb)
 | 190=>some (.arr 96 (.int .i64))
 | 193=>some (.map (.int .u64) (.int .i64))
 | 198=>some (.slice 8 (.int .u64))
 | 211=>some (.named .TFree)
 | 212=>some (.named .TBtb)
 | 213=>some (.named .TBtb)
 | 214=>some (.named .TS214)
 | 215=>some (.arr 3 (.named .TS214))
 | 218=>some (.arr 12 (.int .i64))
 | 220=>some (.named .TSeg)
 | 221=>some (.named .TSeg)
 | 224=>some (.slice 24 (.named .TBound))
 | 225=>some (.named .TBound)
 | 226=>some (.named .TBound)
 | 250=>some (.arr 96 (.bool))
 | 257=>some (.int .u64)
 | 273=>some (.int .u8)
 | 274=>some (.int .u8)
 | 277=>some (.int .i32)
 | 278=>some (.int .i32)
 | _=>none
def cx:Cx:={ X:=tab,ty:=tyD }
theorem tabOk:TabOk tab where
 to_of:=by intro i x;cases i<;>rfl
 of_to:=by intro i v;cases i<;>rfl
 sz:=by intro i;cases i<;>rfl
 eq:=by
  intro i h a b
  cases i<;>first | exact eqT_iff | cases h
 flat:=by
  intro i h t ht
  cases i<;>first | (cases h;done) | (revert t;exact List.all_eq_true.1 (by rfl))
 zero:=by
  intro i j t x h
  have hz:tab.to i (tab.zeroD i)=zerosT tab (tab.fields i):=by cases i<;>rfl
  rw [hz] at h
  exact getT_zeros h
end Go.Proofs.YtkddkpmijhionaaGreatDoor
