/- YtchpjkadpdajkaaGreatDoorTypes: the program's structs as structures, and their table. No statement of the seat is proved here. -/
import Derived.Test.YtchpjkadpdajkaaGreatDoorA2D
set_option linter.unusedSimpArgs false
set_option linter.unusedVariables false
namespace Go.Proofs.YtchpjkadpdajkaaGreatDoor
open Go Go.A2
structure TConf where
 Fetch:W .i64
 Wide:W .i64
 Issue:W .i64
 Retire:W .i64
 Queue:W .i64
 Rob:W .i64
 Iq:W .i64
 Lq:W .i64
 Sq:W .i64
 Sb:W .i64
 Phys:W .i64
 Hist:W .i64
 Btb:W .i64
 Ras:W .i64
 Dep:W .i64
 Tlb:W .i64
 MulLat:W .i64
 DivLat:W .i64
 MemLat:W .i64
 Sets:W .i64
 Ways:W .i64
 Eager:Bool
 deriving DecidableEq
instance : Inhabited TConf := ⟨default, default, default, default, default, default, default, default, default, default, default, default, default, default, default, default, default, default, default, default, default, default⟩
structure TArch where
 PC:W .u32
 R:Arr 16 (W .u32)
 C:Arr 12 (W .u32)
 Halt:Bool
 deriving DecidableEq
instance : Inhabited TArch := ⟨default, default, default, default⟩
structure TBtb where
 PC:W .u32
 Target:W .u32
 Kind:W .i64
 deriving DecidableEq
instance : Inhabited TBtb := ⟨default, default, default⟩
structure TPred where
 Hist:W .u32
 Table:Sl 1 (W .u8)
 Btb:Sl 16 (TBtb)
 Next:W .i64
 Ras:Sl 4 (W .u32)
 Top:W .i64
instance : Inhabited TPred := ⟨default, default, default, default, default, default⟩
structure TFree where
 Ring:Sl 8 (W .i64)
 Head:W .i64
 N:W .i64
instance : Inhabited TFree := ⟨default, default, default⟩
structure TNames where
 Map:Arr 16 (W .i64)
 Done:Arr 16 (W .i64)
 Free:TFree
 Seq:W .u64
instance : Inhabited TNames := ⟨default, default, default, default⟩
structure TPhys where
 Val:Sl 4 (W .u32)
 Ready:Sl 1 (Bool)
instance : Inhabited TPhys := ⟨default, default⟩
structure TPte where
 Bits:W .u32
 Page:W .i64
 deriving DecidableEq
instance : Inhabited TPte := ⟨default, default⟩
structure TTlb where
 Valid:Bool
 Virt:W .u32
 Pte:TPte
 deriving DecidableEq
instance : Inhabited TTlb := ⟨default, default, default⟩
structure TSave where
 Hist:W .u32
 Top:W .i64
 Val:W .u32
 deriving DecidableEq
instance : Inhabited TSave := ⟨default, default, default⟩
structure TGuess where
 Taken:Bool
 Target:W .u32
 Save:TSave
 deriving DecidableEq
instance : Inhabited TGuess := ⟨default, default, default⟩
structure TSlot where
 PC:W .u32
 Word:W .u32
 Cause:W .i64
 Tval:W .u32
 Guess:TGuess
 deriving DecidableEq
instance : Inhabited TSlot := ⟨default, default, default, default, default⟩
structure TInst where
 Op:W .i64
 Rd:W .i64
 Ra:W .i64
 Rb:W .i64
 Imm:W .i64
 deriving DecidableEq
instance : Inhabited TInst := ⟨default, default, default, default, default⟩
structure TUop where
 Inst:TInst
 Slot:TSlot
 Unit:W .i64
 Part:W .i64
 Last:Bool
 Src:Arr 3 (W .i64)
 Dst:W .i64
 Cause:W .i64
 Tval:W .u32
 deriving DecidableEq
instance : Inhabited TUop := ⟨default, default, default, default, default, default, default, default, default⟩
structure TRen where
 Uop:TUop
 Seq:W .u64
 In:Arr 3 (W .i64)
 Out:W .i64
 Old:W .i64
 deriving DecidableEq
instance : Inhabited TRen := ⟨default, default, default, default, default⟩
structure TRob where
 Ren:TRen
 Done:Bool
 Val:W .u32
 Next:W .u32
 Cause:W .i64
 Tval:W .u32
 Stale:Bool
 deriving DecidableEq
instance : Inhabited TRob := ⟨default, default, default, default, default, default, default⟩
structure TIq where
 Ren:TRen
 Ready:Arr 3 (Bool)
 deriving DecidableEq
instance : Inhabited TIq := ⟨default, default⟩
structure TLq where
 Seq:W .u64
 PC:W .u32
 Addr:W .u32
 Size:W .i64
 Known:Bool
 Done:Bool
 From:W .u64
 Stale:Bool
 deriving DecidableEq
instance : Inhabited TLq := ⟨default, default, default, default, default, default, default, default⟩
structure TSq where
 Seq:W .u64
 Addr:W .u32
 Data:W .u32
 Size:W .i64
 Known:Bool
 deriving DecidableEq
instance : Inhabited TSq := ⟨default, default, default, default, default⟩
structure TSb where
 Addr:W .u32
 Data:W .u32
 Size:W .i64
 deriving DecidableEq
instance : Inhabited TSb := ⟨default, default, default⟩
structure TFlight where
 Ren:TRen
 Unit:W .i64
 Left:W .i64
 Val:W .u32
 Next:W .u32
 Cause:W .i64
 Tval:W .u32
 deriving DecidableEq
instance : Inhabited TFlight := ⟨default, default, default, default, default, default, default⟩
structure TCore where
 Conf:TConf
 A:TArch
 Shadow:Sl 1 (W .u8)
 Out:Sl 4 (W .u32)
 PC:W .u32
 Hold:Bool
 Pred:TPred
 Tlb:Sl 24 (TTlb)
 TlbNext:W .i64
 Queue:Sl 56 (TSlot)
 Names:TNames
 Phys:TPhys
 Rob:Sl 248 (TRob)
 Iq:Sl 224 (TIq)
 Lq:Sl 48 (TLq)
 Sq:Sl 32 (TSq)
 Sb:Sl 16 (TSb)
 Units:Sl 256 (TFlight)
 Dep:Sl 1 (W .u8)
 Wait:W .i64
 Cycle:W .i64
instance : Inhabited TCore := ⟨default, default, default, default, default, default, default, default, default, default, default, default, default, default, default, default, default, default, default, default, default⟩
structure TWay where
 State:W .i64
 Tag:W .u32
 Data:Arr 16 (W .u8)
 Age:W .i64
 deriving DecidableEq
instance : Inhabited TWay := ⟨default, default, default, default⟩
structure TCache where
 Sets:Sl 24 (Sl 40 (TWay))
instance : Inhabited TCache := ⟨⟨default⟩⟩
structure TCoh where
 Mem:Sl 1 (W .u8)
 Caches:Sl 24 (TCache)
instance : Inhabited TCoh := ⟨default, default⟩
structure TTick where
 Lines:W .u32
 Stall:W .u32
 Pick:W .i64
 Drain:Bool
 Grant:W .i64
 deriving DecidableEq
instance : Inhabited TTick := ⟨default, default, default, default, default⟩
structure TAsk where
 Who:W .i64
 Tick:TTick
 deriving DecidableEq
instance : Inhabited TAsk := ⟨default, default⟩
structure TEvent where
 PC:W .u32
 Word:W .u32
 Rd:W .i64
 Val:W .u32
 Rd2:W .i64
 Val2:W .u32
 Size:W .i64
 Addr:W .u32
 Data:W .u32
 Cause:W .i64
 Tval:W .u32
 Next:W .u32
 deriving DecidableEq
instance : Inhabited TEvent := ⟨default, default, default, default, default, default, default, default, default, default, default, default⟩
structure TAlone where
 Who:W .i64
 E:TRob
 deriving DecidableEq
instance : Inhabited TAlone := ⟨default, default⟩
structure TMach where
 A:TArch
 Mem:Sl 1 (W .u8)
 Shadow:Sl 1 (W .u8)
 Out:Sl 4 (W .u32)
instance : Inhabited TMach := ⟨default, default, default, default⟩
structure TSeg where
 At:W .u32
 Data:Sl 1 (W .u8)
instance : Inhabited TSeg := ⟨default, default⟩
structure TImage where
 Start:W .u32
 Segs:Sl 32 (TSeg)
instance : Inhabited TImage := ⟨default, default⟩
structure TNote where
 Cycle:W .i64
 Kind:W .i64
 Seq:W .u64
 PC:W .u32
 deriving DecidableEq
instance : Inhabited TNote := ⟨default, default, default, default⟩
structure TStage where
 c:TCore
 m:TCoh
 who:W .i64
 retired:W .i64
 events:Sl 72 (TEvent)
 notes:Sl 32 (TNote)
instance : Inhabited TStage := ⟨default, default, default, default, default, default⟩
structure TState where
 C:TCore
 M:TCoh
 Events:Sl 72 (TEvent)
 Notes:Sl 32 (TNote)
 End:Bool
instance : Inhabited TState := ⟨default, default, default, default, default⟩
structure TSerial where
 c:TCore
 m:TCoh
 who:W .i64
 i:TInst
 word:W .u32
 ahead:TArch
 v:TEvent
 val:W .u32
 write:Bool
instance : Inhabited TSerial := ⟨default, default, default, default, default, default, default, default, default⟩
structure TDone where
 c:TCore
 m:TCoh
 ev:TEvent
 cause:W .i64
 val:W .u32
 rd:Bool
 v:W .u32
instance : Inhabited TDone := ⟨default, default, default, default, default, default, default⟩
structure TS275 where
 bit:W .i64
 n_:W .i64
 most:W .i64
 deriving DecidableEq
instance : Inhabited TS275 := ⟨default, default, default⟩
structure TBound where
 n_:W .i64
 least:W .i64
 most:W .i64
 deriving DecidableEq
instance : Inhabited TBound := ⟨default, default, default⟩
structure TSource where
 line:W .u32
 cause:W .i64
 deriving DecidableEq
instance : Inhabited TSource := ⟨default, default⟩
structure TS305 where
 r:W .i64
 v:W .u32
 deriving DecidableEq
instance : Inhabited TS305 := ⟨default, default⟩
structure TReq where
 Kind:W .i64
 Line:W .u32
 deriving DecidableEq
instance : Inhabited TReq := ⟨default, default⟩
structure TWalker where
 shadow:Sl 1 (W .u8)
 read:Sl 4 (W .u32)
instance : Inhabited TWalker := ⟨default, default⟩
structure TLines where
 m:TCoh
 line:W .u32
instance : Inhabited TLines := ⟨default, default⟩
inductive SI where
 | TConf
 | TArch
 | TBtb
 | TPred
 | TFree
 | TNames
 | TPhys
 | TPte
 | TTlb
 | TSave
 | TGuess
 | TSlot
 | TInst
 | TUop
 | TRen
 | TRob
 | TIq
 | TLq
 | TSq
 | TSb
 | TFlight
 | TCore
 | TWay
 | TCache
 | TCoh
 | TTick
 | TAsk
 | TEvent
 | TAlone
 | TMach
 | TSeg
 | TImage
 | TNote
 | TStage
 | TState
 | TSerial
 | TDone
 | TS275
 | TBound
 | TSource
 | TS305
 | TReq
 | TWalker
 | TLines
 deriving DecidableEq
def D:SI→Type
 | .TConf=>_root_.Go.Proofs.YtchpjkadpdajkaaGreatDoor.TConf
 | .TArch=>_root_.Go.Proofs.YtchpjkadpdajkaaGreatDoor.TArch
 | .TBtb=>_root_.Go.Proofs.YtchpjkadpdajkaaGreatDoor.TBtb
 | .TPred=>_root_.Go.Proofs.YtchpjkadpdajkaaGreatDoor.TPred
 | .TFree=>_root_.Go.Proofs.YtchpjkadpdajkaaGreatDoor.TFree
 | .TNames=>_root_.Go.Proofs.YtchpjkadpdajkaaGreatDoor.TNames
 | .TPhys=>_root_.Go.Proofs.YtchpjkadpdajkaaGreatDoor.TPhys
 | .TPte=>_root_.Go.Proofs.YtchpjkadpdajkaaGreatDoor.TPte
 | .TTlb=>_root_.Go.Proofs.YtchpjkadpdajkaaGreatDoor.TTlb
 | .TSave=>_root_.Go.Proofs.YtchpjkadpdajkaaGreatDoor.TSave
 | .TGuess=>_root_.Go.Proofs.YtchpjkadpdajkaaGreatDoor.TGuess
 | .TSlot=>_root_.Go.Proofs.YtchpjkadpdajkaaGreatDoor.TSlot
 | .TInst=>_root_.Go.Proofs.YtchpjkadpdajkaaGreatDoor.TInst
 | .TUop=>_root_.Go.Proofs.YtchpjkadpdajkaaGreatDoor.TUop
 | .TRen=>_root_.Go.Proofs.YtchpjkadpdajkaaGreatDoor.TRen
 | .TRob=>_root_.Go.Proofs.YtchpjkadpdajkaaGreatDoor.TRob
 | .TIq=>_root_.Go.Proofs.YtchpjkadpdajkaaGreatDoor.TIq
 | .TLq=>_root_.Go.Proofs.YtchpjkadpdajkaaGreatDoor.TLq
 | .TSq=>_root_.Go.Proofs.YtchpjkadpdajkaaGreatDoor.TSq
 | .TSb=>_root_.Go.Proofs.YtchpjkadpdajkaaGreatDoor.TSb
 | .TFlight=>_root_.Go.Proofs.YtchpjkadpdajkaaGreatDoor.TFlight
 | .TCore=>_root_.Go.Proofs.YtchpjkadpdajkaaGreatDoor.TCore
 | .TWay=>_root_.Go.Proofs.YtchpjkadpdajkaaGreatDoor.TWay
 | .TCache=>_root_.Go.Proofs.YtchpjkadpdajkaaGreatDoor.TCache
 | .TCoh=>_root_.Go.Proofs.YtchpjkadpdajkaaGreatDoor.TCoh
 | .TTick=>_root_.Go.Proofs.YtchpjkadpdajkaaGreatDoor.TTick
 | .TAsk=>_root_.Go.Proofs.YtchpjkadpdajkaaGreatDoor.TAsk
 | .TEvent=>_root_.Go.Proofs.YtchpjkadpdajkaaGreatDoor.TEvent
 | .TAlone=>_root_.Go.Proofs.YtchpjkadpdajkaaGreatDoor.TAlone
 | .TMach=>_root_.Go.Proofs.YtchpjkadpdajkaaGreatDoor.TMach
 | .TSeg=>_root_.Go.Proofs.YtchpjkadpdajkaaGreatDoor.TSeg
 | .TImage=>_root_.Go.Proofs.YtchpjkadpdajkaaGreatDoor.TImage
 | .TNote=>_root_.Go.Proofs.YtchpjkadpdajkaaGreatDoor.TNote
 | .TStage=>_root_.Go.Proofs.YtchpjkadpdajkaaGreatDoor.TStage
 | .TState=>_root_.Go.Proofs.YtchpjkadpdajkaaGreatDoor.TState
 | .TSerial=>_root_.Go.Proofs.YtchpjkadpdajkaaGreatDoor.TSerial
 | .TDone=>_root_.Go.Proofs.YtchpjkadpdajkaaGreatDoor.TDone
 | .TS275=>_root_.Go.Proofs.YtchpjkadpdajkaaGreatDoor.TS275
 | .TBound=>_root_.Go.Proofs.YtchpjkadpdajkaaGreatDoor.TBound
 | .TSource=>_root_.Go.Proofs.YtchpjkadpdajkaaGreatDoor.TSource
 | .TS305=>_root_.Go.Proofs.YtchpjkadpdajkaaGreatDoor.TS305
 | .TReq=>_root_.Go.Proofs.YtchpjkadpdajkaaGreatDoor.TReq
 | .TWalker=>_root_.Go.Proofs.YtchpjkadpdajkaaGreatDoor.TWalker
 | .TLines=>_root_.Go.Proofs.YtchpjkadpdajkaaGreatDoor.TLines
def fieldsD:SI→List (Ty SI)
 | .TConf=>[.int .i64,.int .i64,.int .i64,.int .i64,.int .i64,.int .i64,.int .i64,.int .i64,.int .i64,.int .i64,.int .i64,.int .i64,.int .i64,.int .i64,.int .i64,.int .i64,.int .i64,.int .i64,.int .i64,.int .i64,.int .i64,.bool]
 | .TArch=>[.int .u32,.arr 16 (.int .u32),.arr 12 (.int .u32),.bool]
 | .TBtb=>[.int .u32,.int .u32,.int .i64]
 | .TPred=>[.int .u32,.slice 1 (.int .u8),.slice 16 (.named .TBtb),.int .i64,.slice 4 (.int .u32),.int .i64]
 | .TFree=>[.slice 8 (.int .i64),.int .i64,.int .i64]
 | .TNames=>[.arr 16 (.int .i64),.arr 16 (.int .i64),.named .TFree,.int .u64]
 | .TPhys=>[.slice 4 (.int .u32),.slice 1 (.bool)]
 | .TPte=>[.int .u32,.int .i64]
 | .TTlb=>[.bool,.int .u32,.named .TPte]
 | .TSave=>[.int .u32,.int .i64,.int .u32]
 | .TGuess=>[.bool,.int .u32,.named .TSave]
 | .TSlot=>[.int .u32,.int .u32,.int .i64,.int .u32,.named .TGuess]
 | .TInst=>[.int .i64,.int .i64,.int .i64,.int .i64,.int .i64]
 | .TUop=>[.named .TInst,.named .TSlot,.int .i64,.int .i64,.bool,.arr 3 (.int .i64),.int .i64,.int .i64,.int .u32]
 | .TRen=>[.named .TUop,.int .u64,.arr 3 (.int .i64),.int .i64,.int .i64]
 | .TRob=>[.named .TRen,.bool,.int .u32,.int .u32,.int .i64,.int .u32,.bool]
 | .TIq=>[.named .TRen,.arr 3 (.bool)]
 | .TLq=>[.int .u64,.int .u32,.int .u32,.int .i64,.bool,.bool,.int .u64,.bool]
 | .TSq=>[.int .u64,.int .u32,.int .u32,.int .i64,.bool]
 | .TSb=>[.int .u32,.int .u32,.int .i64]
 | .TFlight=>[.named .TRen,.int .i64,.int .i64,.int .u32,.int .u32,.int .i64,.int .u32]
 | .TCore=>[.named .TConf,.named .TArch,.slice 1 (.int .u8),.slice 4 (.int .u32),.int .u32,.bool,.named .TPred,.slice 24 (.named .TTlb),.int .i64,.slice 56 (.named .TSlot),.named .TNames,.named .TPhys,.slice 248 (.named .TRob),.slice 224 (.named .TIq),.slice 48 (.named .TLq),.slice 32 (.named .TSq),.slice 16 (.named .TSb),.slice 256 (.named .TFlight),.slice 1 (.int .u8),.int .i64,.int .i64]
 | .TWay=>[.int .i64,.int .u32,.arr 16 (.int .u8),.int .i64]
 | .TCache=>[.slice 24 (.slice 40 (.named .TWay))]
 | .TCoh=>[.slice 1 (.int .u8),.slice 24 (.named .TCache)]
 | .TTick=>[.int .u32,.int .u32,.int .i64,.bool,.int .i64]
 | .TAsk=>[.int .i64,.named .TTick]
 | .TEvent=>[.int .u32,.int .u32,.int .i64,.int .u32,.int .i64,.int .u32,.int .i64,.int .u32,.int .u32,.int .i64,.int .u32,.int .u32]
 | .TAlone=>[.int .i64,.named .TRob]
 | .TMach=>[.named .TArch,.slice 1 (.int .u8),.slice 1 (.int .u8),.slice 4 (.int .u32)]
 | .TSeg=>[.int .u32,.slice 1 (.int .u8)]
 | .TImage=>[.int .u32,.slice 32 (.named .TSeg)]
 | .TNote=>[.int .i64,.int .i64,.int .u64,.int .u32]
 | .TStage=>[.named .TCore,.named .TCoh,.int .i64,.int .i64,.slice 72 (.named .TEvent),.slice 32 (.named .TNote)]
 | .TState=>[.named .TCore,.named .TCoh,.slice 72 (.named .TEvent),.slice 32 (.named .TNote),.bool]
 | .TSerial=>[.named .TCore,.named .TCoh,.int .i64,.named .TInst,.int .u32,.named .TArch,.named .TEvent,.int .u32,.bool]
 | .TDone=>[.named .TCore,.named .TCoh,.named .TEvent,.int .i64,.int .u32,.bool,.int .u32]
 | .TS275=>[.int .i64,.int .i64,.int .i64]
 | .TBound=>[.int .i64,.int .i64,.int .i64]
 | .TSource=>[.int .u32,.int .i64]
 | .TS305=>[.int .i64,.int .u32]
 | .TReq=>[.int .i64,.int .u32]
 | .TWalker=>[.slice 1 (.int .u8),.slice 4 (.int .u32)]
 | .TLines=>[.named .TCoh,.int .u32]
def toD:(i:SI)→D i→Tup D (fieldsD i)
 | .TConf,x=>(TConf.Fetch x,TConf.Wide x,TConf.Issue x,TConf.Retire x,TConf.Queue x,TConf.Rob x,TConf.Iq x,TConf.Lq x,TConf.Sq x,TConf.Sb x,TConf.Phys x,TConf.Hist x,TConf.Btb x,TConf.Ras x,TConf.Dep x,TConf.Tlb x,TConf.MulLat x,TConf.DivLat x,TConf.MemLat x,TConf.Sets x,TConf.Ways x,TConf.Eager x,())
 | .TArch,x=>(TArch.PC x,TArch.R x,TArch.C x,TArch.Halt x,())
 | .TBtb,x=>(TBtb.PC x,TBtb.Target x,TBtb.Kind x,())
 | .TPred,x=>(TPred.Hist x,TPred.Table x,TPred.Btb x,TPred.Next x,TPred.Ras x,TPred.Top x,())
 | .TFree,x=>(TFree.Ring x,TFree.Head x,TFree.N x,())
 | .TNames,x=>(TNames.Map x,TNames.Done x,TNames.Free x,TNames.Seq x,())
 | .TPhys,x=>(TPhys.Val x,TPhys.Ready x,())
 | .TPte,x=>(TPte.Bits x,TPte.Page x,())
 | .TTlb,x=>(TTlb.Valid x,TTlb.Virt x,TTlb.Pte x,())
 | .TSave,x=>(TSave.Hist x,TSave.Top x,TSave.Val x,())
 | .TGuess,x=>(TGuess.Taken x,TGuess.Target x,TGuess.Save x,())
 | .TSlot,x=>(TSlot.PC x,TSlot.Word x,TSlot.Cause x,TSlot.Tval x,TSlot.Guess x,())
 | .TInst,x=>(TInst.Op x,TInst.Rd x,TInst.Ra x,TInst.Rb x,TInst.Imm x,())
 | .TUop,x=>(TUop.Inst x,TUop.Slot x,TUop.Unit x,TUop.Part x,TUop.Last x,TUop.Src x,TUop.Dst x,TUop.Cause x,TUop.Tval x,())
 | .TRen,x=>(TRen.Uop x,TRen.Seq x,TRen.In x,TRen.Out x,TRen.Old x,())
 | .TRob,x=>(TRob.Ren x,TRob.Done x,TRob.Val x,TRob.Next x,TRob.Cause x,TRob.Tval x,TRob.Stale x,())
 | .TIq,x=>(TIq.Ren x,TIq.Ready x,())
 | .TLq,x=>(TLq.Seq x,TLq.PC x,TLq.Addr x,TLq.Size x,TLq.Known x,TLq.Done x,TLq.From x,TLq.Stale x,())
 | .TSq,x=>(TSq.Seq x,TSq.Addr x,TSq.Data x,TSq.Size x,TSq.Known x,())
 | .TSb,x=>(TSb.Addr x,TSb.Data x,TSb.Size x,())
 | .TFlight,x=>(TFlight.Ren x,TFlight.Unit x,TFlight.Left x,TFlight.Val x,TFlight.Next x,TFlight.Cause x,TFlight.Tval x,())
 | .TCore,x=>(TCore.Conf x,TCore.A x,TCore.Shadow x,TCore.Out x,TCore.PC x,TCore.Hold x,TCore.Pred x,TCore.Tlb x,TCore.TlbNext x,TCore.Queue x,TCore.Names x,TCore.Phys x,TCore.Rob x,TCore.Iq x,TCore.Lq x,TCore.Sq x,TCore.Sb x,TCore.Units x,TCore.Dep x,TCore.Wait x,TCore.Cycle x,())
 | .TWay,x=>(TWay.State x,TWay.Tag x,TWay.Data x,TWay.Age x,())
 | .TCache,x=>(TCache.Sets x,())
 | .TCoh,x=>(TCoh.Mem x,TCoh.Caches x,())
 | .TTick,x=>(TTick.Lines x,TTick.Stall x,TTick.Pick x,TTick.Drain x,TTick.Grant x,())
 | .TAsk,x=>(TAsk.Who x,TAsk.Tick x,())
 | .TEvent,x=>(TEvent.PC x,TEvent.Word x,TEvent.Rd x,TEvent.Val x,TEvent.Rd2 x,TEvent.Val2 x,TEvent.Size x,TEvent.Addr x,TEvent.Data x,TEvent.Cause x,TEvent.Tval x,TEvent.Next x,())
 | .TAlone,x=>(TAlone.Who x,TAlone.E x,())
 | .TMach,x=>(TMach.A x,TMach.Mem x,TMach.Shadow x,TMach.Out x,())
 | .TSeg,x=>(TSeg.At x,TSeg.Data x,())
 | .TImage,x=>(TImage.Start x,TImage.Segs x,())
 | .TNote,x=>(TNote.Cycle x,TNote.Kind x,TNote.Seq x,TNote.PC x,())
 | .TStage,x=>(TStage.c x,TStage.m x,TStage.who x,TStage.retired x,TStage.events x,TStage.notes x,())
 | .TState,x=>(TState.C x,TState.M x,TState.Events x,TState.Notes x,TState.End x,())
 | .TSerial,x=>(TSerial.c x,TSerial.m x,TSerial.who x,TSerial.i x,TSerial.word x,TSerial.ahead x,TSerial.v x,TSerial.val x,TSerial.write x,())
 | .TDone,x=>(TDone.c x,TDone.m x,TDone.ev x,TDone.cause x,TDone.val x,TDone.rd x,TDone.v x,())
 | .TS275,x=>(TS275.bit x,TS275.n_ x,TS275.most x,())
 | .TBound,x=>(TBound.n_ x,TBound.least x,TBound.most x,())
 | .TSource,x=>(TSource.line x,TSource.cause x,())
 | .TS305,x=>(TS305.r x,TS305.v x,())
 | .TReq,x=>(TReq.Kind x,TReq.Line x,())
 | .TWalker,x=>(TWalker.shadow x,TWalker.read x,())
 | .TLines,x=>(TLines.m x,TLines.line x,())
def ofD:(i:SI)→Tup D (fieldsD i)→D i
 | .TConf,x=>TConf.mk x.1 x.2.1 x.2.2.1 x.2.2.2.1 x.2.2.2.2.1 x.2.2.2.2.2.1 x.2.2.2.2.2.2.1 x.2.2.2.2.2.2.2.1 x.2.2.2.2.2.2.2.2.1 x.2.2.2.2.2.2.2.2.2.1 x.2.2.2.2.2.2.2.2.2.2.1 x.2.2.2.2.2.2.2.2.2.2.2.1 x.2.2.2.2.2.2.2.2.2.2.2.2.1 x.2.2.2.2.2.2.2.2.2.2.2.2.2.1 x.2.2.2.2.2.2.2.2.2.2.2.2.2.2.1 x.2.2.2.2.2.2.2.2.2.2.2.2.2.2.2.1 x.2.2.2.2.2.2.2.2.2.2.2.2.2.2.2.2.1 x.2.2.2.2.2.2.2.2.2.2.2.2.2.2.2.2.2.1 x.2.2.2.2.2.2.2.2.2.2.2.2.2.2.2.2.2.2.1 x.2.2.2.2.2.2.2.2.2.2.2.2.2.2.2.2.2.2.2.1 x.2.2.2.2.2.2.2.2.2.2.2.2.2.2.2.2.2.2.2.2.1 x.2.2.2.2.2.2.2.2.2.2.2.2.2.2.2.2.2.2.2.2.2.1
 | .TArch,x=>TArch.mk x.1 x.2.1 x.2.2.1 x.2.2.2.1
 | .TBtb,x=>TBtb.mk x.1 x.2.1 x.2.2.1
 | .TPred,x=>TPred.mk x.1 x.2.1 x.2.2.1 x.2.2.2.1 x.2.2.2.2.1 x.2.2.2.2.2.1
 | .TFree,x=>TFree.mk x.1 x.2.1 x.2.2.1
 | .TNames,x=>TNames.mk x.1 x.2.1 x.2.2.1 x.2.2.2.1
 | .TPhys,x=>TPhys.mk x.1 x.2.1
 | .TPte,x=>TPte.mk x.1 x.2.1
 | .TTlb,x=>TTlb.mk x.1 x.2.1 x.2.2.1
 | .TSave,x=>TSave.mk x.1 x.2.1 x.2.2.1
 | .TGuess,x=>TGuess.mk x.1 x.2.1 x.2.2.1
 | .TSlot,x=>TSlot.mk x.1 x.2.1 x.2.2.1 x.2.2.2.1 x.2.2.2.2.1
 | .TInst,x=>TInst.mk x.1 x.2.1 x.2.2.1 x.2.2.2.1 x.2.2.2.2.1
 | .TUop,x=>TUop.mk x.1 x.2.1 x.2.2.1 x.2.2.2.1 x.2.2.2.2.1 x.2.2.2.2.2.1 x.2.2.2.2.2.2.1 x.2.2.2.2.2.2.2.1 x.2.2.2.2.2.2.2.2.1
 | .TRen,x=>TRen.mk x.1 x.2.1 x.2.2.1 x.2.2.2.1 x.2.2.2.2.1
 | .TRob,x=>TRob.mk x.1 x.2.1 x.2.2.1 x.2.2.2.1 x.2.2.2.2.1 x.2.2.2.2.2.1 x.2.2.2.2.2.2.1
 | .TIq,x=>TIq.mk x.1 x.2.1
 | .TLq,x=>TLq.mk x.1 x.2.1 x.2.2.1 x.2.2.2.1 x.2.2.2.2.1 x.2.2.2.2.2.1 x.2.2.2.2.2.2.1 x.2.2.2.2.2.2.2.1
 | .TSq,x=>TSq.mk x.1 x.2.1 x.2.2.1 x.2.2.2.1 x.2.2.2.2.1
 | .TSb,x=>TSb.mk x.1 x.2.1 x.2.2.1
 | .TFlight,x=>TFlight.mk x.1 x.2.1 x.2.2.1 x.2.2.2.1 x.2.2.2.2.1 x.2.2.2.2.2.1 x.2.2.2.2.2.2.1
 | .TCore,x=>TCore.mk x.1 x.2.1 x.2.2.1 x.2.2.2.1 x.2.2.2.2.1 x.2.2.2.2.2.1 x.2.2.2.2.2.2.1 x.2.2.2.2.2.2.2.1 x.2.2.2.2.2.2.2.2.1 x.2.2.2.2.2.2.2.2.2.1 x.2.2.2.2.2.2.2.2.2.2.1 x.2.2.2.2.2.2.2.2.2.2.2.1 x.2.2.2.2.2.2.2.2.2.2.2.2.1 x.2.2.2.2.2.2.2.2.2.2.2.2.2.1 x.2.2.2.2.2.2.2.2.2.2.2.2.2.2.1 x.2.2.2.2.2.2.2.2.2.2.2.2.2.2.2.1 x.2.2.2.2.2.2.2.2.2.2.2.2.2.2.2.2.1 x.2.2.2.2.2.2.2.2.2.2.2.2.2.2.2.2.2.1 x.2.2.2.2.2.2.2.2.2.2.2.2.2.2.2.2.2.2.1 x.2.2.2.2.2.2.2.2.2.2.2.2.2.2.2.2.2.2.2.1 x.2.2.2.2.2.2.2.2.2.2.2.2.2.2.2.2.2.2.2.2.1
 | .TWay,x=>TWay.mk x.1 x.2.1 x.2.2.1 x.2.2.2.1
 | .TCache,x=>TCache.mk x.1
 | .TCoh,x=>TCoh.mk x.1 x.2.1
 | .TTick,x=>TTick.mk x.1 x.2.1 x.2.2.1 x.2.2.2.1 x.2.2.2.2.1
 | .TAsk,x=>TAsk.mk x.1 x.2.1
 | .TEvent,x=>TEvent.mk x.1 x.2.1 x.2.2.1 x.2.2.2.1 x.2.2.2.2.1 x.2.2.2.2.2.1 x.2.2.2.2.2.2.1 x.2.2.2.2.2.2.2.1 x.2.2.2.2.2.2.2.2.1 x.2.2.2.2.2.2.2.2.2.1 x.2.2.2.2.2.2.2.2.2.2.1 x.2.2.2.2.2.2.2.2.2.2.2.1
 | .TAlone,x=>TAlone.mk x.1 x.2.1
 | .TMach,x=>TMach.mk x.1 x.2.1 x.2.2.1 x.2.2.2.1
 | .TSeg,x=>TSeg.mk x.1 x.2.1
 | .TImage,x=>TImage.mk x.1 x.2.1
 | .TNote,x=>TNote.mk x.1 x.2.1 x.2.2.1 x.2.2.2.1
 | .TStage,x=>TStage.mk x.1 x.2.1 x.2.2.1 x.2.2.2.1 x.2.2.2.2.1 x.2.2.2.2.2.1
 | .TState,x=>TState.mk x.1 x.2.1 x.2.2.1 x.2.2.2.1 x.2.2.2.2.1
 | .TSerial,x=>TSerial.mk x.1 x.2.1 x.2.2.1 x.2.2.2.1 x.2.2.2.2.1 x.2.2.2.2.2.1 x.2.2.2.2.2.2.1 x.2.2.2.2.2.2.2.1 x.2.2.2.2.2.2.2.2.1
 | .TDone,x=>TDone.mk x.1 x.2.1 x.2.2.1 x.2.2.2.1 x.2.2.2.2.1 x.2.2.2.2.2.1 x.2.2.2.2.2.2.1
 | .TS275,x=>TS275.mk x.1 x.2.1 x.2.2.1
 | .TBound,x=>TBound.mk x.1 x.2.1 x.2.2.1
 | .TSource,x=>TSource.mk x.1 x.2.1
 | .TS305,x=>TS305.mk x.1 x.2.1
 | .TReq,x=>TReq.mk x.1 x.2.1
 | .TWalker,x=>TWalker.mk x.1 x.2.1
 | .TLines,x=>TLines.mk x.1 x.2.1
def zeroD:(i:SI)→D i
 | .TConf=>(default:_root_.Go.Proofs.YtchpjkadpdajkaaGreatDoor.TConf)
 | .TArch=>(default:_root_.Go.Proofs.YtchpjkadpdajkaaGreatDoor.TArch)
 | .TBtb=>(default:_root_.Go.Proofs.YtchpjkadpdajkaaGreatDoor.TBtb)
 | .TPred=>(default:_root_.Go.Proofs.YtchpjkadpdajkaaGreatDoor.TPred)
 | .TFree=>(default:_root_.Go.Proofs.YtchpjkadpdajkaaGreatDoor.TFree)
 | .TNames=>(default:_root_.Go.Proofs.YtchpjkadpdajkaaGreatDoor.TNames)
 | .TPhys=>(default:_root_.Go.Proofs.YtchpjkadpdajkaaGreatDoor.TPhys)
 | .TPte=>(default:_root_.Go.Proofs.YtchpjkadpdajkaaGreatDoor.TPte)
 | .TTlb=>(default:_root_.Go.Proofs.YtchpjkadpdajkaaGreatDoor.TTlb)
 | .TSave=>(default:_root_.Go.Proofs.YtchpjkadpdajkaaGreatDoor.TSave)
 | .TGuess=>(default:_root_.Go.Proofs.YtchpjkadpdajkaaGreatDoor.TGuess)
 | .TSlot=>(default:_root_.Go.Proofs.YtchpjkadpdajkaaGreatDoor.TSlot)
 | .TInst=>(default:_root_.Go.Proofs.YtchpjkadpdajkaaGreatDoor.TInst)
 | .TUop=>(default:_root_.Go.Proofs.YtchpjkadpdajkaaGreatDoor.TUop)
 | .TRen=>(default:_root_.Go.Proofs.YtchpjkadpdajkaaGreatDoor.TRen)
 | .TRob=>(default:_root_.Go.Proofs.YtchpjkadpdajkaaGreatDoor.TRob)
 | .TIq=>(default:_root_.Go.Proofs.YtchpjkadpdajkaaGreatDoor.TIq)
 | .TLq=>(default:_root_.Go.Proofs.YtchpjkadpdajkaaGreatDoor.TLq)
 | .TSq=>(default:_root_.Go.Proofs.YtchpjkadpdajkaaGreatDoor.TSq)
 | .TSb=>(default:_root_.Go.Proofs.YtchpjkadpdajkaaGreatDoor.TSb)
 | .TFlight=>(default:_root_.Go.Proofs.YtchpjkadpdajkaaGreatDoor.TFlight)
 | .TCore=>(default:_root_.Go.Proofs.YtchpjkadpdajkaaGreatDoor.TCore)
 | .TWay=>(default:_root_.Go.Proofs.YtchpjkadpdajkaaGreatDoor.TWay)
 | .TCache=>(default:_root_.Go.Proofs.YtchpjkadpdajkaaGreatDoor.TCache)
 | .TCoh=>(default:_root_.Go.Proofs.YtchpjkadpdajkaaGreatDoor.TCoh)
 | .TTick=>(default:_root_.Go.Proofs.YtchpjkadpdajkaaGreatDoor.TTick)
 | .TAsk=>(default:_root_.Go.Proofs.YtchpjkadpdajkaaGreatDoor.TAsk)
 | .TEvent=>(default:_root_.Go.Proofs.YtchpjkadpdajkaaGreatDoor.TEvent)
 | .TAlone=>(default:_root_.Go.Proofs.YtchpjkadpdajkaaGreatDoor.TAlone)
 | .TMach=>(default:_root_.Go.Proofs.YtchpjkadpdajkaaGreatDoor.TMach)
 | .TSeg=>(default:_root_.Go.Proofs.YtchpjkadpdajkaaGreatDoor.TSeg)
 | .TImage=>(default:_root_.Go.Proofs.YtchpjkadpdajkaaGreatDoor.TImage)
 | .TNote=>(default:_root_.Go.Proofs.YtchpjkadpdajkaaGreatDoor.TNote)
 | .TStage=>(default:_root_.Go.Proofs.YtchpjkadpdajkaaGreatDoor.TStage)
 | .TState=>(default:_root_.Go.Proofs.YtchpjkadpdajkaaGreatDoor.TState)
 | .TSerial=>(default:_root_.Go.Proofs.YtchpjkadpdajkaaGreatDoor.TSerial)
 | .TDone=>(default:_root_.Go.Proofs.YtchpjkadpdajkaaGreatDoor.TDone)
 | .TS275=>(default:_root_.Go.Proofs.YtchpjkadpdajkaaGreatDoor.TS275)
 | .TBound=>(default:_root_.Go.Proofs.YtchpjkadpdajkaaGreatDoor.TBound)
 | .TSource=>(default:_root_.Go.Proofs.YtchpjkadpdajkaaGreatDoor.TSource)
 | .TS305=>(default:_root_.Go.Proofs.YtchpjkadpdajkaaGreatDoor.TS305)
 | .TReq=>(default:_root_.Go.Proofs.YtchpjkadpdajkaaGreatDoor.TReq)
 | .TWalker=>(default:_root_.Go.Proofs.YtchpjkadpdajkaaGreatDoor.TWalker)
 | .TLines=>(default:_root_.Go.Proofs.YtchpjkadpdajkaaGreatDoor.TLines)
def eqD:(i:SI)→D i→D i→Bool
 | .TConf,x,y=>eqT (α:=_root_.Go.Proofs.YtchpjkadpdajkaaGreatDoor.TConf) x y
 | .TArch,x,y=>eqT (α:=_root_.Go.Proofs.YtchpjkadpdajkaaGreatDoor.TArch) x y
 | .TBtb,x,y=>eqT (α:=_root_.Go.Proofs.YtchpjkadpdajkaaGreatDoor.TBtb) x y
 | .TPred,_,_=>false
 | .TFree,_,_=>false
 | .TNames,_,_=>false
 | .TPhys,_,_=>false
 | .TPte,x,y=>eqT (α:=_root_.Go.Proofs.YtchpjkadpdajkaaGreatDoor.TPte) x y
 | .TTlb,x,y=>eqT (α:=_root_.Go.Proofs.YtchpjkadpdajkaaGreatDoor.TTlb) x y
 | .TSave,x,y=>eqT (α:=_root_.Go.Proofs.YtchpjkadpdajkaaGreatDoor.TSave) x y
 | .TGuess,x,y=>eqT (α:=_root_.Go.Proofs.YtchpjkadpdajkaaGreatDoor.TGuess) x y
 | .TSlot,x,y=>eqT (α:=_root_.Go.Proofs.YtchpjkadpdajkaaGreatDoor.TSlot) x y
 | .TInst,x,y=>eqT (α:=_root_.Go.Proofs.YtchpjkadpdajkaaGreatDoor.TInst) x y
 | .TUop,x,y=>eqT (α:=_root_.Go.Proofs.YtchpjkadpdajkaaGreatDoor.TUop) x y
 | .TRen,x,y=>eqT (α:=_root_.Go.Proofs.YtchpjkadpdajkaaGreatDoor.TRen) x y
 | .TRob,x,y=>eqT (α:=_root_.Go.Proofs.YtchpjkadpdajkaaGreatDoor.TRob) x y
 | .TIq,x,y=>eqT (α:=_root_.Go.Proofs.YtchpjkadpdajkaaGreatDoor.TIq) x y
 | .TLq,x,y=>eqT (α:=_root_.Go.Proofs.YtchpjkadpdajkaaGreatDoor.TLq) x y
 | .TSq,x,y=>eqT (α:=_root_.Go.Proofs.YtchpjkadpdajkaaGreatDoor.TSq) x y
 | .TSb,x,y=>eqT (α:=_root_.Go.Proofs.YtchpjkadpdajkaaGreatDoor.TSb) x y
 | .TFlight,x,y=>eqT (α:=_root_.Go.Proofs.YtchpjkadpdajkaaGreatDoor.TFlight) x y
 | .TCore,_,_=>false
 | .TWay,x,y=>eqT (α:=_root_.Go.Proofs.YtchpjkadpdajkaaGreatDoor.TWay) x y
 | .TCache,_,_=>false
 | .TCoh,_,_=>false
 | .TTick,x,y=>eqT (α:=_root_.Go.Proofs.YtchpjkadpdajkaaGreatDoor.TTick) x y
 | .TAsk,x,y=>eqT (α:=_root_.Go.Proofs.YtchpjkadpdajkaaGreatDoor.TAsk) x y
 | .TEvent,x,y=>eqT (α:=_root_.Go.Proofs.YtchpjkadpdajkaaGreatDoor.TEvent) x y
 | .TAlone,x,y=>eqT (α:=_root_.Go.Proofs.YtchpjkadpdajkaaGreatDoor.TAlone) x y
 | .TMach,_,_=>false
 | .TSeg,_,_=>false
 | .TImage,_,_=>false
 | .TNote,x,y=>eqT (α:=_root_.Go.Proofs.YtchpjkadpdajkaaGreatDoor.TNote) x y
 | .TStage,_,_=>false
 | .TState,_,_=>false
 | .TSerial,_,_=>false
 | .TDone,_,_=>false
 | .TS275,x,y=>eqT (α:=_root_.Go.Proofs.YtchpjkadpdajkaaGreatDoor.TS275) x y
 | .TBound,x,y=>eqT (α:=_root_.Go.Proofs.YtchpjkadpdajkaaGreatDoor.TBound) x y
 | .TSource,x,y=>eqT (α:=_root_.Go.Proofs.YtchpjkadpdajkaaGreatDoor.TSource) x y
 | .TS305,x,y=>eqT (α:=_root_.Go.Proofs.YtchpjkadpdajkaaGreatDoor.TS305) x y
 | .TReq,x,y=>eqT (α:=_root_.Go.Proofs.YtchpjkadpdajkaaGreatDoor.TReq) x y
 | .TWalker,_,_=>false
 | .TLines,_,_=>false
def szD:SI→Nat
 | .TConf=>22
 | .TArch=>30
 | .TBtb=>3
 | .TPred=>6
 | .TFree=>3
 | .TNames=>36
 | .TPhys=>2
 | .TPte=>2
 | .TTlb=>4
 | .TSave=>3
 | .TGuess=>5
 | .TSlot=>9
 | .TInst=>5
 | .TUop=>23
 | .TRen=>29
 | .TRob=>35
 | .TIq=>32
 | .TLq=>8
 | .TSq=>5
 | .TSb=>3
 | .TFlight=>35
 | .TCore=>112
 | .TWay=>19
 | .TCache=>1
 | .TCoh=>2
 | .TTick=>5
 | .TAsk=>6
 | .TEvent=>12
 | .TAlone=>36
 | .TMach=>33
 | .TSeg=>2
 | .TImage=>2
 | .TNote=>4
 | .TStage=>118
 | .TState=>117
 | .TSerial=>165
 | .TDone=>130
 | .TS275=>3
 | .TBound=>3
 | .TSource=>2
 | .TS305=>2
 | .TReq=>2
 | .TWalker=>2
 | .TLines=>3
def flatD:SI→Bool
 | .TConf=>true
 | .TArch=>true
 | .TBtb=>true
 | .TPred=>false
 | .TFree=>false
 | .TNames=>false
 | .TPhys=>false
 | .TPte=>true
 | .TTlb=>true
 | .TSave=>true
 | .TGuess=>true
 | .TSlot=>true
 | .TInst=>true
 | .TUop=>true
 | .TRen=>true
 | .TRob=>true
 | .TIq=>true
 | .TLq=>true
 | .TSq=>true
 | .TSb=>true
 | .TFlight=>true
 | .TCore=>false
 | .TWay=>true
 | .TCache=>false
 | .TCoh=>false
 | .TTick=>true
 | .TAsk=>true
 | .TEvent=>true
 | .TAlone=>true
 | .TMach=>false
 | .TSeg=>false
 | .TImage=>false
 | .TNote=>true
 | .TStage=>false
 | .TState=>false
 | .TSerial=>false
 | .TDone=>false
 | .TS275=>true
 | .TBound=>true
 | .TSource=>true
 | .TS305=>true
 | .TReq=>true
 | .TWalker=>false
 | .TLines=>false
def tab:Tab:={ ι:=SI,deq:=inferInstance,D:=D,fields:=fieldsD,to:=toD,of:=ofD,zeroD:=zeroD,eqD:=eqD,szD:=szD,flatD:=flatD,gl:=[(0,.arr 12 (.int .i64),[.int .i64 0,.int .i64 7,.int .i64 11,.int .i64 14,.int .i64 14,.int .i64 9,.int .i64 7,.int .i64 9,.int .i64 10,.int .i64 2,.int .i64 0,.int .i64 3])],lf:=[88,168,169,230],df:=[169],ls:=[350,352,355,357] }
def tyD:TypeId→Option (Ty SI)
 | 2=>some (.int .i64)
 | 3=>some (.int .i64)
 | 4=>some (.bool)
 | 5=>some (.int .u8)
 | 6=>some (.int .u8)
 | 9=>some (.str)
 | 10=>some (.str)
 | 11=>some (.str)
 | 12=>some (.int .u64)
 | 21=>some (.int .i32)
 | 22=>some (.named .TConf)
 | 23=>some (.named .TConf)
 | 24=>some (.int .u32)
 | 25=>some (.arr 16 (.int .u32))
 | 26=>some (.arr 12 (.int .u32))
 | 27=>some (.named .TArch)
 | 28=>some (.named .TArch)
 | 29=>some (.slice 1 (.int .u8))
 | 30=>some (.slice 4 (.int .u32))
 | 31=>some (.slice 16 (.named .TBtb))
 | 32=>some (.named .TPred)
 | 33=>some (.named .TPred)
 | 34=>some (.slice 24 (.named .TTlb))
 | 35=>some (.slice 56 (.named .TSlot))
 | 36=>some (.arr 16 (.int .i64))
 | 37=>some (.arr 16 (.int .i64))
 | 38=>some (.slice 8 (.int .i64))
 | 39=>some (.named .TFree)
 | 40=>some (.named .TFree)
 | 41=>some (.int .u64)
 | 42=>some (.named .TNames)
 | 43=>some (.named .TNames)
 | 44=>some (.slice 1 (.bool))
 | 45=>some (.named .TPhys)
 | 46=>some (.named .TPhys)
 | 47=>some (.slice 248 (.named .TRob))
 | 48=>some (.slice 224 (.named .TIq))
 | 49=>some (.slice 48 (.named .TLq))
 | 50=>some (.slice 32 (.named .TSq))
 | 51=>some (.slice 16 (.named .TSb))
 | 52=>some (.slice 256 (.named .TFlight))
 | 53=>some (.named .TCore)
 | 54=>some (.named .TCore)
 | 55=>some (.slice 24 (.named .TCache))
 | 56=>some (.named .TCoh)
 | 57=>some (.named .TCoh)
 | 58=>some (.named .TTick)
 | 59=>some (.named .TTick)
 | 60=>some (.named .TAsk)
 | 61=>some (.named .TAsk)
 | 64=>some (.slice 72 (.named .TEvent))
 | 65=>some (.slice 32 (.named .TNote))
 | 73=>some (.named .TEvent)
 | 74=>some (.named .TEvent)
 | 77=>some (.named .TInst)
 | 78=>some (.named .TInst)
 | 79=>some (.named .TSave)
 | 80=>some (.named .TSave)
 | 81=>some (.named .TGuess)
 | 82=>some (.named .TGuess)
 | 83=>some (.named .TSlot)
 | 84=>some (.named .TSlot)
 | 85=>some (.arr 3 (.int .i64))
 | 86=>some (.named .TUop)
 | 87=>some (.named .TUop)
 | 88=>some (.named .TRen)
 | 89=>some (.named .TRen)
 | 90=>some (.named .TRob)
 | 91=>some (.named .TRob)
 | 92=>some (.named .TAlone)
 | 93=>some (.named .TAlone)
 | 101=>some (.int .i64)
 | 104=>some (.named .TMach)
 | 105=>some (.named .TMach)
 | 108=>some (.slice 32 (.named .TSeg))
 | 109=>some (.named .TImage)
 | 110=>some (.named .TImage)
 | 115=>some (.named .TStage)
 | 116=>some (.named .TStage)
 | 118=>some (.named .TState)
 | 119=>some (.named .TState)
 | 136=>some (.slice 24 (.slice 40 (.named .TWay)))
 | 137=>some (.named .TCache)
 | 138=>some (.named .TCache)
 | 139=>some (.named .TNote)
 | 140=>some (.named .TNote)
 | 146=>some (.arr 3 (.int .u32))
 | 152=>some (.named .TSerial)
 | 153=>some (.named .TSerial)
 | 158=>some (.named .TDone)
 | 159=>some (.named .TDone)
 | 172=>some (.slice 216 (.named .TRen))
 | 181=>some (.slice 40 (.named .TWay))
 | 211=>some (.named .TPte)
 | 212=>some (.named .TPte)
 | 213=>some (.named .TTlb)
 | 214=>some (.named .TTlb)
 | 217=>some (.arr 3 (.bool))
 | 218=>some (.named .TIq)
 | 219=>some (.named .TIq)
 | 220=>some (.named .TLq)
 | 221=>some (.named .TLq)
 | 222=>some (.named .TSq)
 | 223=>some (.named .TSq)
 | 224=>some (.named .TSb)
 | 225=>some (.named .TSb)
 | 226=>some (.named .TFlight)
 | 227=>some (.named .TFlight)
 | 228=>some (.arr 16 (.int .u8))
 | 229=>some (.named .TWay)
 | 230=>some (.named .TWay)
 | 258=>some (.arr 96 (.int .i64))
 | 262=>some (.map (.int .u64) (.int .i64))
 | 267=>some (.slice 8 (.int .u64))
 | 275=>some (.named .TS275)
 | 276=>some (.arr 3 (.named .TS275))
 | 278=>some (.arr 12 (.int .i64))
 | 280=>some (.named .TSeg)
 | 281=>some (.named .TSeg)
 | 284=>some (.slice 24 (.named .TBound))
 | 285=>some (.named .TBound)
 | 286=>some (.named .TBound)
 | 295=>some (.named .TSource)
 | 296=>some (.named .TSource)
 | 297=>some (.arr 3 (.named .TSource))
 | 305=>some (.named .TS305)
 | 306=>some (.arr 2 (.named .TS305))
 | 312=>some (.named .TBtb)
 | 313=>some (.named .TBtb)
 | 335=>some (.named .TFree)
 | 336=>some (.arr 96 (.bool))
 | 341=>some (.int .u64)
 | 361=>some (.named .TReq)
 | 362=>some (.named .TReq)
 | 387=>some (.named .TWalker)
 | 388=>some (.named .TWalker)
 | 421=>some (.named .TLines)
 | 422=>some (.named .TLines)
 | 439=>some (.int .u8)
 | 440=>some (.int .u8)
 | 443=>some (.int .i32)
 | 444=>some (.int .i32)
 | _=>none
def cx:Cx:={ X:=tab,ty:=tyD }
theorem tabOk:TabOk tab where
 to_of:=by intro i x;cases i<;>rfl
 of_to:=by intro i v;cases i<;>rfl
 sz:=by intro i;cases i<;>rfl
 eq:=by
  intro i h a b
  cases i<;>first | exact eqT_iff | cases h
 flat:=by
  intro i h t ht
  cases i<;>first | (cases h;done) | (revert t;exact List.all_eq_true.1 (by rfl))
 zero:=by
  intro i j t x h
  have hz:tab.to i (tab.zeroD i)=zerosT tab (tab.fields i):=by cases i<;>rfl
  rw [hz] at h
  exact getT_zeros h
end Go.Proofs.YtchpjkadpdajkaaGreatDoor
