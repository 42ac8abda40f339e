/- YtnpgljilkkipkaaGreatTypes: the program's structs as structures, and their table. No statement of the seat is proved here. -/
import Derived.Test.YtnpgljilkkipkaaGreatA2D
set_option linter.unusedSimpArgs false
set_option linter.unusedVariables false
namespace Go.Proofs.YtnpgljilkkipkaaGreat
open Go Go.A2
structure TConf where
 Fetch:W .i64
 Wide:W .i64
 Issue:W .i64
 Retire:W .i64
 Queue:W .i64
 Rob:W .i64
 Iq:W .i64
 Lq:W .i64
 Sq:W .i64
 Sb:W .i64
 Phys:W .i64
 Hist:W .i64
 Btb:W .i64
 Ras:W .i64
 Dep:W .i64
 Tlb:W .i64
 MulLat:W .i64
 DivLat:W .i64
 MemLat:W .i64
 Sets:W .i64
 Ways:W .i64
 Eager:Bool
 deriving DecidableEq
instance : Inhabited TConf := ⟨default, default, default, default, default, default, default, default, default, default, default, default, default, default, default, default, default, default, default, default, default, default⟩
structure TArch where
 PC:W .u32
 R:Arr 16 (W .u32)
 C:Arr 12 (W .u32)
 Halt:Bool
 deriving DecidableEq
instance : Inhabited TArch := ⟨default, default, default, default⟩
structure TBtb where
 PC:W .u32
 Target:W .u32
 Kind:W .i64
 deriving DecidableEq
instance : Inhabited TBtb := ⟨default, default, default⟩
structure TPred where
 Hist:W .u32
 Table:Sl 1 (W .u8)
 Btb:Sl 16 (TBtb)
 Next:W .i64
 Ras:Sl 4 (W .u32)
 Top:W .i64
instance : Inhabited TPred := ⟨default, default, default, default, default, default⟩
structure TFree where
 Ring:Sl 8 (W .i64)
 Head:W .i64
 N:W .i64
instance : Inhabited TFree := ⟨default, default, default⟩
structure TNames where
 Map:Arr 16 (W .i64)
 Done:Arr 16 (W .i64)
 Free:TFree
 Seq:W .u64
instance : Inhabited TNames := ⟨default, default, default, default⟩
structure TPhys where
 Val:Sl 4 (W .u32)
 Ready:Sl 1 (Bool)
instance : Inhabited TPhys := ⟨default, default⟩
structure TPte where
 Bits:W .u32
 Page:W .i64
 deriving DecidableEq
instance : Inhabited TPte := ⟨default, default⟩
structure TTlb where
 Valid:Bool
 Virt:W .u32
 Pte:TPte
 deriving DecidableEq
instance : Inhabited TTlb := ⟨default, default, default⟩
structure TSave where
 Hist:W .u32
 Top:W .i64
 Val:W .u32
 deriving DecidableEq
instance : Inhabited TSave := ⟨default, default, default⟩
structure TGuess where
 Taken:Bool
 Target:W .u32
 Save:TSave
 deriving DecidableEq
instance : Inhabited TGuess := ⟨default, default, default⟩
structure TSlot where
 PC:W .u32
 Word:W .u32
 Cause:W .i64
 Tval:W .u32
 Guess:TGuess
 deriving DecidableEq
instance : Inhabited TSlot := ⟨default, default, default, default, default⟩
structure TInst where
 Op:W .i64
 Rd:W .i64
 Ra:W .i64
 Rb:W .i64
 Imm:W .i64
 deriving DecidableEq
instance : Inhabited TInst := ⟨default, default, default, default, default⟩
structure TUop where
 Inst:TInst
 Slot:TSlot
 Unit:W .i64
 Part:W .i64
 Last:Bool
 Src:Arr 3 (W .i64)
 Dst:W .i64
 Cause:W .i64
 Tval:W .u32
 deriving DecidableEq
instance : Inhabited TUop := ⟨default, default, default, default, default, default, default, default, default⟩
structure TRen where
 Uop:TUop
 Seq:W .u64
 In:Arr 3 (W .i64)
 Out:W .i64
 Old:W .i64
 deriving DecidableEq
instance : Inhabited TRen := ⟨default, default, default, default, default⟩
structure TRob where
 Ren:TRen
 Done:Bool
 Val:W .u32
 Next:W .u32
 Cause:W .i64
 Tval:W .u32
 Stale:Bool
 deriving DecidableEq
instance : Inhabited TRob := ⟨default, default, default, default, default, default, default⟩
structure TIq where
 Ren:TRen
 Ready:Arr 3 (Bool)
 deriving DecidableEq
instance : Inhabited TIq := ⟨default, default⟩
structure TLq where
 Seq:W .u64
 PC:W .u32
 Addr:W .u32
 Size:W .i64
 Known:Bool
 Done:Bool
 From:W .u64
 Stale:Bool
 deriving DecidableEq
instance : Inhabited TLq := ⟨default, default, default, default, default, default, default, default⟩
structure TSq where
 Seq:W .u64
 Addr:W .u32
 Data:W .u32
 Size:W .i64
 Known:Bool
 deriving DecidableEq
instance : Inhabited TSq := ⟨default, default, default, default, default⟩
structure TSb where
 Addr:W .u32
 Data:W .u32
 Size:W .i64
 deriving DecidableEq
instance : Inhabited TSb := ⟨default, default, default⟩
structure TFlight where
 Ren:TRen
 Unit:W .i64
 Left:W .i64
 Val:W .u32
 Next:W .u32
 Cause:W .i64
 Tval:W .u32
 deriving DecidableEq
instance : Inhabited TFlight := ⟨default, default, default, default, default, default, default⟩
structure TCore where
 Conf:TConf
 A:TArch
 Shadow:Sl 1 (W .u8)
 Out:Sl 4 (W .u32)
 PC:W .u32
 Hold:Bool
 Pred:TPred
 Tlb:Sl 24 (TTlb)
 TlbNext:W .i64
 Queue:Sl 56 (TSlot)
 Names:TNames
 Phys:TPhys
 Rob:Sl 248 (TRob)
 Iq:Sl 224 (TIq)
 Lq:Sl 48 (TLq)
 Sq:Sl 32 (TSq)
 Sb:Sl 16 (TSb)
 Units:Sl 256 (TFlight)
 Dep:Sl 1 (W .u8)
 Wait:W .i64
 Cycle:W .i64
instance : Inhabited TCore := ⟨default, default, default, default, default, default, default, default, default, default, default, default, default, default, default, default, default, default, default, default, default⟩
structure TWay where
 State:W .i64
 Tag:W .u32
 Data:Arr 16 (W .u8)
 Age:W .i64
 deriving DecidableEq
instance : Inhabited TWay := ⟨default, default, default, default⟩
structure TCache where
 Sets:Sl 24 (Sl 40 (TWay))
instance : Inhabited TCache := ⟨⟨default⟩⟩
structure TCoh where
 Mem:Sl 1 (W .u8)
 Caches:Sl 24 (TCache)
instance : Inhabited TCoh := ⟨default, default⟩
structure TDuo where
 Cores:Sl 1040 (TCore)
 Mem:TCoh
instance : Inhabited TDuo := ⟨default, default⟩
structure TMach where
 A:TArch
 Mem:Sl 1 (W .u8)
 Shadow:Sl 1 (W .u8)
 Out:Sl 4 (W .u32)
instance : Inhabited TMach := ⟨default, default, default, default⟩
structure TBound where
 n_:W .i64
 least:W .i64
 most:W .i64
 deriving DecidableEq
instance : Inhabited TBound := ⟨default, default, default⟩
inductive SI where
 | TConf
 | TArch
 | TBtb
 | TPred
 | TFree
 | TNames
 | TPhys
 | TPte
 | TTlb
 | TSave
 | TGuess
 | TSlot
 | TInst
 | TUop
 | TRen
 | TRob
 | TIq
 | TLq
 | TSq
 | TSb
 | TFlight
 | TCore
 | TWay
 | TCache
 | TCoh
 | TDuo
 | TMach
 | TBound
 deriving DecidableEq
def D:SI→Type
 | .TConf=>_root_.Go.Proofs.YtnpgljilkkipkaaGreat.TConf
 | .TArch=>_root_.Go.Proofs.YtnpgljilkkipkaaGreat.TArch
 | .TBtb=>_root_.Go.Proofs.YtnpgljilkkipkaaGreat.TBtb
 | .TPred=>_root_.Go.Proofs.YtnpgljilkkipkaaGreat.TPred
 | .TFree=>_root_.Go.Proofs.YtnpgljilkkipkaaGreat.TFree
 | .TNames=>_root_.Go.Proofs.YtnpgljilkkipkaaGreat.TNames
 | .TPhys=>_root_.Go.Proofs.YtnpgljilkkipkaaGreat.TPhys
 | .TPte=>_root_.Go.Proofs.YtnpgljilkkipkaaGreat.TPte
 | .TTlb=>_root_.Go.Proofs.YtnpgljilkkipkaaGreat.TTlb
 | .TSave=>_root_.Go.Proofs.YtnpgljilkkipkaaGreat.TSave
 | .TGuess=>_root_.Go.Proofs.YtnpgljilkkipkaaGreat.TGuess
 | .TSlot=>_root_.Go.Proofs.YtnpgljilkkipkaaGreat.TSlot
 | .TInst=>_root_.Go.Proofs.YtnpgljilkkipkaaGreat.TInst
 | .TUop=>_root_.Go.Proofs.YtnpgljilkkipkaaGreat.TUop
 | .TRen=>_root_.Go.Proofs.YtnpgljilkkipkaaGreat.TRen
 | .TRob=>_root_.Go.Proofs.YtnpgljilkkipkaaGreat.TRob
 | .TIq=>_root_.Go.Proofs.YtnpgljilkkipkaaGreat.TIq
 | .TLq=>_root_.Go.Proofs.YtnpgljilkkipkaaGreat.TLq
 | .TSq=>_root_.Go.Proofs.YtnpgljilkkipkaaGreat.TSq
 | .TSb=>_root_.Go.Proofs.YtnpgljilkkipkaaGreat.TSb
 | .TFlight=>_root_.Go.Proofs.YtnpgljilkkipkaaGreat.TFlight
 | .TCore=>_root_.Go.Proofs.YtnpgljilkkipkaaGreat.TCore
 | .TWay=>_root_.Go.Proofs.YtnpgljilkkipkaaGreat.TWay
 | .TCache=>_root_.Go.Proofs.YtnpgljilkkipkaaGreat.TCache
 | .TCoh=>_root_.Go.Proofs.YtnpgljilkkipkaaGreat.TCoh
 | .TDuo=>_root_.Go.Proofs.YtnpgljilkkipkaaGreat.TDuo
 | .TMach=>_root_.Go.Proofs.YtnpgljilkkipkaaGreat.TMach
 | .TBound=>_root_.Go.Proofs.YtnpgljilkkipkaaGreat.TBound
def GG:SI→List (Ty SI)
 | .TConf=>[.int .i64,.int .i64,.int .i64,.int .i64,.int .i64,.int .i64,.int .i64,.int .i64,.int .i64,.int .i64,.int .i64,.int .i64,.int .i64,.int .i64,.int .i64,.int .i64,.int .i64,.int .i64,.int .i64,.int .i64,.int .i64,.bool]
 | .TArch=>[.int .u32,.arr 16 (.int .u32),.arr 12 (.int .u32),.bool]
 | .TBtb=>[.int .u32,.int .u32,.int .i64]
 | .TPred=>[.int .u32,.slice 1 (.int .u8),.slice 16 (.named .TBtb),.int .i64,.slice 4 (.int .u32),.int .i64]
 | .TFree=>[.slice 8 (.int .i64),.int .i64,.int .i64]
 | .TNames=>[.arr 16 (.int .i64),.arr 16 (.int .i64),.named .TFree,.int .u64]
 | .TPhys=>[.slice 4 (.int .u32),.slice 1 (.bool)]
 | .TPte=>[.int .u32,.int .i64]
 | .TTlb=>[.bool,.int .u32,.named .TPte]
 | .TSave=>[.int .u32,.int .i64,.int .u32]
 | .TGuess=>[.bool,.int .u32,.named .TSave]
 | .TSlot=>[.int .u32,.int .u32,.int .i64,.int .u32,.named .TGuess]
 | .TInst=>[.int .i64,.int .i64,.int .i64,.int .i64,.int .i64]
 | .TUop=>[.named .TInst,.named .TSlot,.int .i64,.int .i64,.bool,.arr 3 (.int .i64),.int .i64,.int .i64,.int .u32]
 | .TRen=>[.named .TUop,.int .u64,.arr 3 (.int .i64),.int .i64,.int .i64]
 | .TRob=>[.named .TRen,.bool,.int .u32,.int .u32,.int .i64,.int .u32,.bool]
 | .TIq=>[.named .TRen,.arr 3 (.bool)]
 | .TLq=>[.int .u64,.int .u32,.int .u32,.int .i64,.bool,.bool,.int .u64,.bool]
 | .TSq=>[.int .u64,.int .u32,.int .u32,.int .i64,.bool]
 | .TSb=>[.int .u32,.int .u32,.int .i64]
 | .TFlight=>[.named .TRen,.int .i64,.int .i64,.int .u32,.int .u32,.int .i64,.int .u32]
 | .TCore=>[.named .TConf,.named .TArch,.slice 1 (.int .u8),.slice 4 (.int .u32),.int .u32,.bool,.named .TPred,.slice 24 (.named .TTlb),.int .i64,.slice 56 (.named .TSlot),.named .TNames,.named .TPhys,.slice 248 (.named .TRob),.slice 224 (.named .TIq),.slice 48 (.named .TLq),.slice 32 (.named .TSq),.slice 16 (.named .TSb),.slice 256 (.named .TFlight),.slice 1 (.int .u8),.int .i64,.int .i64]
 | .TWay=>[.int .i64,.int .u32,.arr 16 (.int .u8),.int .i64]
 | .TCache=>[.slice 24 (.slice 40 (.named .TWay))]
 | .TCoh=>[.slice 1 (.int .u8),.slice 24 (.named .TCache)]
 | .TDuo=>[.slice 1040 (.named .TCore),.named .TCoh]
 | .TMach=>[.named .TArch,.slice 1 (.int .u8),.slice 1 (.int .u8),.slice 4 (.int .u32)]
 | .TBound=>[.int .i64,.int .i64,.int .i64]
def toD:(i:SI)→D i→Tup D (GG i)
 | .TConf,x=>(TConf.Fetch x,TConf.Wide x,TConf.Issue x,TConf.Retire x,TConf.Queue x,TConf.Rob x,TConf.Iq x,TConf.Lq x,TConf.Sq x,TConf.Sb x,TConf.Phys x,TConf.Hist x,TConf.Btb x,TConf.Ras x,TConf.Dep x,TConf.Tlb x,TConf.MulLat x,TConf.DivLat x,TConf.MemLat x,TConf.Sets x,TConf.Ways x,TConf.Eager x,())
 | .TArch,x=>(TArch.PC x,TArch.R x,TArch.C x,TArch.Halt x,())
 | .TBtb,x=>(TBtb.PC x,TBtb.Target x,TBtb.Kind x,())
 | .TPred,x=>(TPred.Hist x,TPred.Table x,TPred.Btb x,TPred.Next x,TPred.Ras x,TPred.Top x,())
 | .TFree,x=>(TFree.Ring x,TFree.Head x,TFree.N x,())
 | .TNames,x=>(TNames.Map x,TNames.Done x,TNames.Free x,TNames.Seq x,())
 | .TPhys,x=>(TPhys.Val x,TPhys.Ready x,())
 | .TPte,x=>(TPte.Bits x,TPte.Page x,())
 | .TTlb,x=>(TTlb.Valid x,TTlb.Virt x,TTlb.Pte x,())
 | .TSave,x=>(TSave.Hist x,TSave.Top x,TSave.Val x,())
 | .TGuess,x=>(TGuess.Taken x,TGuess.Target x,TGuess.Save x,())
 | .TSlot,x=>(TSlot.PC x,TSlot.Word x,TSlot.Cause x,TSlot.Tval x,TSlot.Guess x,())
 | .TInst,x=>(TInst.Op x,TInst.Rd x,TInst.Ra x,TInst.Rb x,TInst.Imm x,())
 | .TUop,x=>(TUop.Inst x,TUop.Slot x,TUop.Unit x,TUop.Part x,TUop.Last x,TUop.Src x,TUop.Dst x,TUop.Cause x,TUop.Tval x,())
 | .TRen,x=>(TRen.Uop x,TRen.Seq x,TRen.In x,TRen.Out x,TRen.Old x,())
 | .TRob,x=>(TRob.Ren x,TRob.Done x,TRob.Val x,TRob.Next x,TRob.Cause x,TRob.Tval x,TRob.Stale x,())
 | .TIq,x=>(TIq.Ren x,TIq.Ready x,())
 | .TLq,x=>(TLq.Seq x,TLq.PC x,TLq.Addr x,TLq.Size x,TLq.Known x,TLq.Done x,TLq.From x,TLq.Stale x,())
 | .TSq,x=>(TSq.Seq x,TSq.Addr x,TSq.Data x,TSq.Size x,TSq.Known x,())
 | .TSb,x=>(TSb.Addr x,TSb.Data x,TSb.Size x,())
 | .TFlight,x=>(TFlight.Ren x,TFlight.Unit x,TFlight.Left x,TFlight.Val x,TFlight.Next x,TFlight.Cause x,TFlight.Tval x,())
 | .TCore,x=>(TCore.Conf x,TCore.A x,TCore.Shadow x,TCore.Out x,TCore.PC x,TCore.Hold x,TCore.Pred x,TCore.Tlb x,TCore.TlbNext x,TCore.Queue x,TCore.Names x,TCore.Phys x,TCore.Rob x,TCore.Iq x,TCore.Lq x,TCore.Sq x,TCore.Sb x,TCore.Units x,TCore.Dep x,TCore.Wait x,TCore.Cycle x,())
 | .TWay,x=>(TWay.State x,TWay.Tag x,TWay.Data x,TWay.Age x,())
 | .TCache,x=>(TCache.Sets x,())
 | .TCoh,x=>(TCoh.Mem x,TCoh.Caches x,())
 | .TDuo,x=>(TDuo.Cores x,TDuo.Mem x,())
 | .TMach,x=>(TMach.A x,TMach.Mem x,TMach.Shadow x,TMach.Out x,())
 | .TBound,x=>(TBound.n_ x,TBound.least x,TBound.most x,())
def ofD:(i:SI)→Tup D (GG i)→D i
 | .TConf,x=>TConf.mk x.1 x.2.1 x.2.2.1 x.2.2.2.1 x.2.2.2.2.1 x.2.2.2.2.2.1 x.2.2.2.2.2.2.1 x.2.2.2.2.2.2.2.1 x.2.2.2.2.2.2.2.2.1 x.2.2.2.2.2.2.2.2.2.1 x.2.2.2.2.2.2.2.2.2.2.1 x.2.2.2.2.2.2.2.2.2.2.2.1 x.2.2.2.2.2.2.2.2.2.2.2.2.1 x.2.2.2.2.2.2.2.2.2.2.2.2.2.1 x.2.2.2.2.2.2.2.2.2.2.2.2.2.2.1 x.2.2.2.2.2.2.2.2.2.2.2.2.2.2.2.1 x.2.2.2.2.2.2.2.2.2.2.2.2.2.2.2.2.1 x.2.2.2.2.2.2.2.2.2.2.2.2.2.2.2.2.2.1 x.2.2.2.2.2.2.2.2.2.2.2.2.2.2.2.2.2.2.1 x.2.2.2.2.2.2.2.2.2.2.2.2.2.2.2.2.2.2.2.1 x.2.2.2.2.2.2.2.2.2.2.2.2.2.2.2.2.2.2.2.2.1 x.2.2.2.2.2.2.2.2.2.2.2.2.2.2.2.2.2.2.2.2.2.1
 | .TArch,x=>TArch.mk x.1 x.2.1 x.2.2.1 x.2.2.2.1
 | .TBtb,x=>TBtb.mk x.1 x.2.1 x.2.2.1
 | .TPred,x=>TPred.mk x.1 x.2.1 x.2.2.1 x.2.2.2.1 x.2.2.2.2.1 x.2.2.2.2.2.1
 | .TFree,x=>TFree.mk x.1 x.2.1 x.2.2.1
 | .TNames,x=>TNames.mk x.1 x.2.1 x.2.2.1 x.2.2.2.1
 | .TPhys,x=>TPhys.mk x.1 x.2.1
 | .TPte,x=>TPte.mk x.1 x.2.1
 | .TTlb,x=>TTlb.mk x.1 x.2.1 x.2.2.1
 | .TSave,x=>TSave.mk x.1 x.2.1 x.2.2.1
 | .TGuess,x=>TGuess.mk x.1 x.2.1 x.2.2.1
 | .TSlot,x=>TSlot.mk x.1 x.2.1 x.2.2.1 x.2.2.2.1 x.2.2.2.2.1
 | .TInst,x=>TInst.mk x.1 x.2.1 x.2.2.1 x.2.2.2.1 x.2.2.2.2.1
 | .TUop,x=>TUop.mk x.1 x.2.1 x.2.2.1 x.2.2.2.1 x.2.2.2.2.1 x.2.2.2.2.2.1 x.2.2.2.2.2.2.1 x.2.2.2.2.2.2.2.1 x.2.2.2.2.2.2.2.2.1
 | .TRen,x=>TRen.mk x.1 x.2.1 x.2.2.1 x.2.2.2.1 x.2.2.2.2.1
 | .TRob,x=>TRob.mk x.1 x.2.1 x.2.2.1 x.2.2.2.1 x.2.2.2.2.1 x.2.2.2.2.2.1 x.2.2.2.2.2.2.1
 | .TIq,x=>TIq.mk x.1 x.2.1
 | .TLq,x=>TLq.mk x.1 x.2.1 x.2.2.1 x.2.2.2.1 x.2.2.2.2.1 x.2.2.2.2.2.1 x.2.2.2.2.2.2.1 x.2.2.2.2.2.2.2.1
 | .TSq,x=>TSq.mk x.1 x.2.1 x.2.2.1 x.2.2.2.1 x.2.2.2.2.1
 | .TSb,x=>TSb.mk x.1 x.2.1 x.2.2.1
 | .TFlight,x=>TFlight.mk x.1 x.2.1 x.2.2.1 x.2.2.2.1 x.2.2.2.2.1 x.2.2.2.2.2.1 x.2.2.2.2.2.2.1
 | .TCore,x=>TCore.mk x.1 x.2.1 x.2.2.1 x.2.2.2.1 x.2.2.2.2.1 x.2.2.2.2.2.1 x.2.2.2.2.2.2.1 x.2.2.2.2.2.2.2.1 x.2.2.2.2.2.2.2.2.1 x.2.2.2.2.2.2.2.2.2.1 x.2.2.2.2.2.2.2.2.2.2.1 x.2.2.2.2.2.2.2.2.2.2.2.1 x.2.2.2.2.2.2.2.2.2.2.2.2.1 x.2.2.2.2.2.2.2.2.2.2.2.2.2.1 x.2.2.2.2.2.2.2.2.2.2.2.2.2.2.1 x.2.2.2.2.2.2.2.2.2.2.2.2.2.2.2.1 x.2.2.2.2.2.2.2.2.2.2.2.2.2.2.2.2.1 x.2.2.2.2.2.2.2.2.2.2.2.2.2.2.2.2.2.1 x.2.2.2.2.2.2.2.2.2.2.2.2.2.2.2.2.2.2.1 x.2.2.2.2.2.2.2.2.2.2.2.2.2.2.2.2.2.2.2.1 x.2.2.2.2.2.2.2.2.2.2.2.2.2.2.2.2.2.2.2.2.1
 | .TWay,x=>TWay.mk x.1 x.2.1 x.2.2.1 x.2.2.2.1
 | .TCache,x=>TCache.mk x.1
 | .TCoh,x=>TCoh.mk x.1 x.2.1
 | .TDuo,x=>TDuo.mk x.1 x.2.1
 | .TMach,x=>TMach.mk x.1 x.2.1 x.2.2.1 x.2.2.2.1
 | .TBound,x=>TBound.mk x.1 x.2.1 x.2.2.1
def zeroD:(i:SI)→D i
 | .TConf=>(default:_root_.Go.Proofs.YtnpgljilkkipkaaGreat.TConf)
 | .TArch=>(default:_root_.Go.Proofs.YtnpgljilkkipkaaGreat.TArch)
 | .TBtb=>(default:_root_.Go.Proofs.YtnpgljilkkipkaaGreat.TBtb)
 | .TPred=>(default:_root_.Go.Proofs.YtnpgljilkkipkaaGreat.TPred)
 | .TFree=>(default:_root_.Go.Proofs.YtnpgljilkkipkaaGreat.TFree)
 | .TNames=>(default:_root_.Go.Proofs.YtnpgljilkkipkaaGreat.TNames)
 | .TPhys=>(default:_root_.Go.Proofs.YtnpgljilkkipkaaGreat.TPhys)
 | .TPte=>(default:_root_.Go.Proofs.YtnpgljilkkipkaaGreat.TPte)
 | .TTlb=>(default:_root_.Go.Proofs.YtnpgljilkkipkaaGreat.TTlb)
 | .TSave=>(default:_root_.Go.Proofs.YtnpgljilkkipkaaGreat.TSave)
 | .TGuess=>(default:_root_.Go.Proofs.YtnpgljilkkipkaaGreat.TGuess)
 | .TSlot=>(default:_root_.Go.Proofs.YtnpgljilkkipkaaGreat.TSlot)
 | .TInst=>(default:_root_.Go.Proofs.YtnpgljilkkipkaaGreat.TInst)
 | .TUop=>(default:_root_.Go.Proofs.YtnpgljilkkipkaaGreat.TUop)
 | .TRen=>(default:_root_.Go.Proofs.YtnpgljilkkipkaaGreat.TRen)
 | .TRob=>(default:_root_.Go.Proofs.YtnpgljilkkipkaaGreat.TRob)
 | .TIq=>(default:_root_.Go.Proofs.YtnpgljilkkipkaaGreat.TIq)
 | .TLq=>(default:_root_.Go.Proofs.YtnpgljilkkipkaaGreat.TLq)
 | .TSq=>(default:_root_.Go.Proofs.YtnpgljilkkipkaaGreat.TSq)
 | .TSb=>(default:_root_.Go.Proofs.YtnpgljilkkipkaaGreat.TSb)
 | .TFlight=>(default:_root_.Go.Proofs.YtnpgljilkkipkaaGreat.TFlight)
 | .TCore=>(default:_root_.Go.Proofs.YtnpgljilkkipkaaGreat.TCore)
 | .TWay=>(default:_root_.Go.Proofs.YtnpgljilkkipkaaGreat.TWay)
 | .TCache=>(default:_root_.Go.Proofs.YtnpgljilkkipkaaGreat.TCache)
 | .TCoh=>(default:_root_.Go.Proofs.YtnpgljilkkipkaaGreat.TCoh)
 | .TDuo=>(default:_root_.Go.Proofs.YtnpgljilkkipkaaGreat.TDuo)
 | .TMach=>(default:_root_.Go.Proofs.YtnpgljilkkipkaaGreat.TMach)
 | .TBound=>(default:_root_.Go.Proofs.YtnpgljilkkipkaaGreat.TBound)
def eqD:(i:SI)→D i→D i→Bool
 | .TConf,x,y=>eqT (α:=_root_.Go.Proofs.YtnpgljilkkipkaaGreat.TConf) x y
 | .TArch,x,y=>eqT (α:=_root_.Go.Proofs.YtnpgljilkkipkaaGreat.TArch) x y
 | .TBtb,x,y=>eqT (α:=_root_.Go.Proofs.YtnpgljilkkipkaaGreat.TBtb) x y
 | .TPred,_,_=>false
 | .TFree,_,_=>false
 | .TNames,_,_=>false
 | .TPhys,_,_=>false
 | .TPte,x,y=>eqT (α:=_root_.Go.Proofs.YtnpgljilkkipkaaGreat.TPte) x y
 | .TTlb,x,y=>eqT (α:=_root_.Go.Proofs.YtnpgljilkkipkaaGreat.TTlb) x y
 | .TSave,x,y=>eqT (α:=_root_.Go.Proofs.YtnpgljilkkipkaaGreat.TSave) x y
 | .TGuess,x,y=>eqT (α:=_root_.Go.Proofs.YtnpgljilkkipkaaGreat.TGuess) x y
 | .TSlot,x,y=>eqT (α:=_root_.Go.Proofs.YtnpgljilkkipkaaGreat.TSlot) x y
 | .TInst,x,y=>eqT (α:=_root_.Go.Proofs.YtnpgljilkkipkaaGreat.TInst) x y
 | .TUop,x,y=>eqT (α:=_root_.Go.Proofs.YtnpgljilkkipkaaGreat.TUop) x y
 | .TRen,x,y=>eqT (α:=_root_.Go.Proofs.YtnpgljilkkipkaaGreat.TRen) x y
 | .TRob,x,y=>eqT (α:=_root_.Go.Proofs.YtnpgljilkkipkaaGreat.TRob) x y
 | .TIq,x,y=>eqT (α:=_root_.Go.Proofs.YtnpgljilkkipkaaGreat.TIq) x y
 | .TLq,x,y=>eqT (α:=_root_.Go.Proofs.YtnpgljilkkipkaaGreat.TLq) x y
 | .TSq,x,y=>eqT (α:=_root_.Go.Proofs.YtnpgljilkkipkaaGreat.TSq) x y
 | .TSb,x,y=>eqT (α:=_root_.Go.Proofs.YtnpgljilkkipkaaGreat.TSb) x y
 | .TFlight,x,y=>eqT (α:=_root_.Go.Proofs.YtnpgljilkkipkaaGreat.TFlight) x y
 | .TCore,_,_=>false
 | .TWay,x,y=>eqT (α:=_root_.Go.Proofs.YtnpgljilkkipkaaGreat.TWay) x y
 | .TCache,_,_=>false
 | .TCoh,_,_=>false
 | .TDuo,_,_=>false
 | .TMach,_,_=>false
 | .TBound,x,y=>eqT (α:=_root_.Go.Proofs.YtnpgljilkkipkaaGreat.TBound) x y
def szD:SI→Nat
 | .TConf=>22
 | .TArch=>30
 | .TBtb=>3
 | .TPred=>6
 | .TFree=>3
 | .TNames=>36
 | .TPhys=>2
 | .TPte=>2
 | .TTlb=>4
 | .TSave=>3
 | .TGuess=>5
 | .TSlot=>9
 | .TInst=>5
 | .TUop=>23
 | .TRen=>29
 | .TRob=>35
 | .TIq=>32
 | .TLq=>8
 | .TSq=>5
 | .TSb=>3
 | .TFlight=>35
 | .TCore=>112
 | .TWay=>19
 | .TCache=>1
 | .TCoh=>2
 | .TDuo=>3
 | .TMach=>33
 | .TBound=>3
def flatD:SI→Bool
 | .TConf=>true
 | .TArch=>true
 | .TBtb=>true
 | .TPred=>false
 | .TFree=>false
 | .TNames=>false
 | .TPhys=>false
 | .TPte=>true
 | .TTlb=>true
 | .TSave=>true
 | .TGuess=>true
 | .TSlot=>true
 | .TInst=>true
 | .TUop=>true
 | .TRen=>true
 | .TRob=>true
 | .TIq=>true
 | .TLq=>true
 | .TSq=>true
 | .TSb=>true
 | .TFlight=>true
 | .TCore=>false
 | .TWay=>true
 | .TCache=>false
 | .TCoh=>false
 | .TDuo=>false
 | .TMach=>false
 | .TBound=>true
def ab:Tab:={ ι:=SI,deq:=inferInstance,D:=D,fields:=GG,to:=toD,of:=ofD,zeroD:=zeroD,eqD:=eqD,szD:=szD,flatD:=flatD,lf:=[60,96,97],df:=[97] }
def tyD:TypeId→Option (Ty SI)
 | 2=>some (.int .i64)
 | 3=>some (.int .i64)
 | 4=>some (.bool)
 | 5=>some (.int .u8)
 | 6=>some (.int .u8)
 | 9=>some (.str)
 | 10=>some (.str)
 | 11=>some (.str)
 | 12=>some (.int .u64)
 | 21=>some (.int .i32)
 | 22=>some (.named .TConf)
 | 23=>some (.named .TConf)
 | 24=>some (.int .u32)
 | 25=>some (.arr 16 (.int .u32))
 | 26=>some (.arr 12 (.int .u32))
 | 27=>some (.named .TArch)
 | 28=>some (.named .TArch)
 | 29=>some (.slice 1 (.int .u8))
 | 30=>some (.slice 4 (.int .u32))
 | 31=>some (.slice 16 (.named .TBtb))
 | 32=>some (.named .TPred)
 | 33=>some (.named .TPred)
 | 34=>some (.slice 24 (.named .TTlb))
 | 35=>some (.slice 56 (.named .TSlot))
 | 36=>some (.arr 16 (.int .i64))
 | 37=>some (.arr 16 (.int .i64))
 | 38=>some (.slice 8 (.int .i64))
 | 39=>some (.named .TFree)
 | 40=>some (.named .TFree)
 | 41=>some (.int .u64)
 | 42=>some (.named .TNames)
 | 43=>some (.named .TNames)
 | 44=>some (.slice 1 (.bool))
 | 45=>some (.named .TPhys)
 | 46=>some (.named .TPhys)
 | 47=>some (.slice 248 (.named .TRob))
 | 48=>some (.slice 224 (.named .TIq))
 | 49=>some (.slice 48 (.named .TLq))
 | 50=>some (.slice 32 (.named .TSq))
 | 51=>some (.slice 16 (.named .TSb))
 | 52=>some (.slice 256 (.named .TFlight))
 | 53=>some (.named .TCore)
 | 54=>some (.named .TCore)
 | 55=>some (.slice 24 (.named .TCache))
 | 56=>some (.named .TCoh)
 | 57=>some (.named .TCoh)
 | 62=>some (.slice 1040 (.named .TCore))
 | 63=>some (.named .TDuo)
 | 64=>some (.named .TDuo)
 | 68=>some (.slice 24 (.slice 40 (.named .TWay)))
 | 69=>some (.named .TCache)
 | 70=>some (.named .TCache)
 | 71=>some (.slice 40 (.named .TWay))
 | 72=>some (.named .TMach)
 | 73=>some (.named .TMach)
 | 95=>some (.slice 216 (.named .TRen))
 | 108=>some (.arr 16 (.int .u8))
 | 109=>some (.named .TWay)
 | 110=>some (.named .TWay)
 | 113=>some (.named .TSb)
 | 114=>some (.named .TSb)
 | 121=>some (.named .TLq)
 | 122=>some (.named .TLq)
 | 123=>some (.named .TSq)
 | 124=>some (.named .TSq)
 | 125=>some (.named .TInst)
 | 126=>some (.named .TInst)
 | 127=>some (.named .TSave)
 | 128=>some (.named .TSave)
 | 129=>some (.named .TGuess)
 | 130=>some (.named .TGuess)
 | 131=>some (.named .TSlot)
 | 132=>some (.named .TSlot)
 | 133=>some (.arr 3 (.int .i64))
 | 134=>some (.named .TUop)
 | 135=>some (.named .TUop)
 | 136=>some (.named .TRen)
 | 137=>some (.named .TRen)
 | 138=>some (.named .TRob)
 | 139=>some (.named .TRob)
 | 149=>some (.int .i64)
 | 151=>some (.arr 3 (.bool))
 | 152=>some (.named .TIq)
 | 153=>some (.named .TIq)
 | 154=>some (.named .TFlight)
 | 155=>some (.named .TFlight)
 | 158=>some (.arr 96 (.int .i64))
 | 162=>some (.map (.int .u64) (.int .i64))
 | 167=>some (.slice 8 (.int .u64))
 | 189=>some (.slice 24 (.named .TBound))
 | 190=>some (.named .TBound)
 | 191=>some (.named .TBound)
 | 194=>some (.named .TFree)
 | 195=>some (.arr 96 (.bool))
 | 213=>some (.int .u64)
 | 227=>some (.int .u8)
 | 228=>some (.int .u8)
 | 231=>some (.int .i32)
 | 232=>some (.int .i32)
 | 235=>some (.named .TBtb)
 | 236=>some (.named .TBtb)
 | 237=>some (.named .TPte)
 | 238=>some (.named .TPte)
 | 239=>some (.named .TTlb)
 | 240=>some (.named .TTlb)
 | _=>none
def cx:Cx:={ X:=ab,ty:=tyD }
theorem jO:TabOk ab where
 to_of:=by intro i x;cases i<;>rfl
 of_to:=by intro i v;cases i<;>rfl
 sz:=by intro i;cases i<;>rfl
 eq:=by
  intro i h a b
  cases i<;>first | exact WC | cases h
 flat:=by
  intro i h t ht
  cases i<;>first | (cases h;done) | (revert t;exact List.all_eq_true.1 (by rfl))
 zero:=by
  intro i j t x h
  have hz:ab.to i (ab.zeroD i)=I7 ab (ab.fields i):=by cases i<;>rfl
  rw [hz] at h
  exact Px h
end Go.Proofs.YtnpgljilkkipkaaGreat
