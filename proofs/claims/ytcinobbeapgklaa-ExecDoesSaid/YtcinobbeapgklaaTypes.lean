/- YtcinobbeapgklaaTypes: the program's structs as structures, and their table. No statement of the seat is proved here. -/
import Derived.Test.YtcinobbeapgklaaA2D
namespace Go.Proofs.Ytcinobbeapgklaa
open Go Go.A2
structure TInst where
  Op : W .i64
  Rd : W .i64
  Ra : W .i64
  Rb : W .i64
  Imm : W .i64
  deriving DecidableEq
instance : Inhabited TInst := ⟨default, default, default, default, default⟩
structure TSave where
  Hist : W .u32
  Top : W .i64
  Val : W .u32
  deriving DecidableEq
instance : Inhabited TSave := ⟨default, default, default⟩
structure TGuess where
  Taken : Bool
  Target : W .u32
  Save : TSave
  deriving DecidableEq
instance : Inhabited TGuess := ⟨default, default, default⟩
structure TSlot where
  PC : W .u32
  Word : W .u32
  Cause : W .i64
  Tval : W .u32
  Guess : TGuess
  deriving DecidableEq
instance : Inhabited TSlot := ⟨default, default, default, default, default⟩
structure TUop where
  Inst : TInst
  Slot : TSlot
  Unit : W .i64
  Part : W .i64
  Last : Bool
  Src : Arr 3 (W .i64)
  Dst : W .i64
  Cause : W .i64
  Tval : W .u32
  deriving DecidableEq
instance : Inhabited TUop := ⟨default, default, default, default, default, default, default, default, default⟩
structure TMul where
  A : W .u32
  B : W .u32
  Hi : W .u32
  Lo : W .u32
  Left : W .i64
  deriving DecidableEq
instance : Inhabited TMul := ⟨default, default, default, default, default⟩
structure TDiv where
  N : W .u32
  D : W .u32
  Q : W .u32
  R : W .u32
  Left : W .i64
  deriving DecidableEq
instance : Inhabited TDiv := ⟨default, default, default, default, default⟩
inductive SI where
  | TInst
  | TSave
  | TGuess
  | TSlot
  | TUop
  | TMul
  | TDiv
  deriving DecidableEq
def D : SI → Type
  | .TInst => _root_.Go.Proofs.Ytcinobbeapgklaa.TInst
  | .TSave => _root_.Go.Proofs.Ytcinobbeapgklaa.TSave
  | .TGuess => _root_.Go.Proofs.Ytcinobbeapgklaa.TGuess
  | .TSlot => _root_.Go.Proofs.Ytcinobbeapgklaa.TSlot
  | .TUop => _root_.Go.Proofs.Ytcinobbeapgklaa.TUop
  | .TMul => _root_.Go.Proofs.Ytcinobbeapgklaa.TMul
  | .TDiv => _root_.Go.Proofs.Ytcinobbeapgklaa.TDiv
def fieldsD : SI → List (Ty SI)
  | .TInst => [.int .i64, .int .i64, .int .i64, .int .i64, .int .i64]
  | .TSave => [.int .u32, .int .i64, .int .u32]
  | .TGuess => [.bool, .int .u32, .named .TSave]
  | .TSlot => [.int .u32, .int .u32, .int .i64, .int .u32, .named .TGuess]
  | .TUop => [.named .TInst, .named .TSlot, .int .i64, .int .i64, .bool, .arr 3 (.int .i64), .int .i64, .int .i64, .int .u32]
  | .TMul => [.int .u32, .int .u32, .int .u32, .int .u32, .int .i64]
  | .TDiv => [.int .u32, .int .u32, .int .u32, .int .u32, .int .i64]
def toD : (i : SI) → D i → Tup D (fieldsD i)
  | .TInst, x => (TInst.Op x, TInst.Rd x, TInst.Ra x, TInst.Rb x, TInst.Imm x, ())
  | .TSave, x => (TSave.Hist x, TSave.Top x, TSave.Val x, ())
  | .TGuess, x => (TGuess.Taken x, TGuess.Target x, TGuess.Save x, ())
  | .TSlot, x => (TSlot.PC x, TSlot.Word x, TSlot.Cause x, TSlot.Tval x, TSlot.Guess x, ())
  | .TUop, x => (TUop.Inst x, TUop.Slot x, TUop.Unit x, TUop.Part x, TUop.Last x, TUop.Src x, TUop.Dst x, TUop.Cause x, TUop.Tval x, ())
  | .TMul, x => (TMul.A x, TMul.B x, TMul.Hi x, TMul.Lo x, TMul.Left x, ())
  | .TDiv, x => (TDiv.N x, TDiv.D x, TDiv.Q x, TDiv.R x, TDiv.Left x, ())
def ofD : (i : SI) → Tup D (fieldsD i) → D i
  | .TInst, x => TInst.mk x.1 x.2.1 x.2.2.1 x.2.2.2.1 x.2.2.2.2.1
  | .TSave, x => TSave.mk x.1 x.2.1 x.2.2.1
  | .TGuess, x => TGuess.mk x.1 x.2.1 x.2.2.1
  | .TSlot, x => TSlot.mk x.1 x.2.1 x.2.2.1 x.2.2.2.1 x.2.2.2.2.1
  | .TUop, x => TUop.mk x.1 x.2.1 x.2.2.1 x.2.2.2.1 x.2.2.2.2.1 x.2.2.2.2.2.1 x.2.2.2.2.2.2.1 x.2.2.2.2.2.2.2.1 x.2.2.2.2.2.2.2.2.1
  | .TMul, x => TMul.mk x.1 x.2.1 x.2.2.1 x.2.2.2.1 x.2.2.2.2.1
  | .TDiv, x => TDiv.mk x.1 x.2.1 x.2.2.1 x.2.2.2.1 x.2.2.2.2.1
def zeroD : (i : SI) → D i
  | .TInst => (default : _root_.Go.Proofs.Ytcinobbeapgklaa.TInst)
  | .TSave => (default : _root_.Go.Proofs.Ytcinobbeapgklaa.TSave)
  | .TGuess => (default : _root_.Go.Proofs.Ytcinobbeapgklaa.TGuess)
  | .TSlot => (default : _root_.Go.Proofs.Ytcinobbeapgklaa.TSlot)
  | .TUop => (default : _root_.Go.Proofs.Ytcinobbeapgklaa.TUop)
  | .TMul => (default : _root_.Go.Proofs.Ytcinobbeapgklaa.TMul)
  | .TDiv => (default : _root_.Go.Proofs.Ytcinobbeapgklaa.TDiv)
def eqD : (i : SI) → D i → D i → Bool
  | .TInst, x, y => eqT (α := _root_.Go.Proofs.Ytcinobbeapgklaa.TInst) x y
  | .TSave, x, y => eqT (α := _root_.Go.Proofs.Ytcinobbeapgklaa.TSave) x y
  | .TGuess, x, y => eqT (α := _root_.Go.Proofs.Ytcinobbeapgklaa.TGuess) x y
  | .TSlot, x, y => eqT (α := _root_.Go.Proofs.Ytcinobbeapgklaa.TSlot) x y
  | .TUop, x, y => eqT (α := _root_.Go.Proofs.Ytcinobbeapgklaa.TUop) x y
  | .TMul, x, y => eqT (α := _root_.Go.Proofs.Ytcinobbeapgklaa.TMul) x y
  | .TDiv, x, y => eqT (α := _root_.Go.Proofs.Ytcinobbeapgklaa.TDiv) x y
def szD : SI → Nat
  | .TInst => 5
  | .TSave => 3
  | .TGuess => 5
  | .TSlot => 9
  | .TUop => 23
  | .TMul => 5
  | .TDiv => 5
def flatD : SI → Bool
  | .TInst => true
  | .TSave => true
  | .TGuess => true
  | .TSlot => true
  | .TUop => true
  | .TMul => true
  | .TDiv => true
def tab : Tab := { ι := SI, deq := inferInstance, D := D, fields := fieldsD, to := toD, of := ofD, zeroD := zeroD, eqD := eqD, szD := szD, flatD := flatD }
def tyD : TypeId → Option (Ty SI)
  | 2 => some (.int .i64)
  | 3 => some (.int .i64)
  | 4 => some (.bool)
  | 5 => some (.int .u8)
  | 6 => some (.int .u8)
  | 9 => some (.str)
  | 10 => some (.str)
  | 11 => some (.str)
  | 12 => some (.int .u64)
  | 21 => some (.int .i32)
  | 22 => some (.named .TInst)
  | 23 => some (.named .TInst)
  | 24 => some (.int .u32)
  | 25 => some (.named .TSave)
  | 26 => some (.named .TSave)
  | 27 => some (.named .TGuess)
  | 28 => some (.named .TGuess)
  | 29 => some (.named .TSlot)
  | 30 => some (.named .TSlot)
  | 31 => some (.arr 3 (.int .i64))
  | 32 => some (.named .TUop)
  | 33 => some (.named .TUop)
  | 34 => some (.arr 3 (.int .u32))
  | 46 => some (.int .u64)
  | 47 => some (.int .u64)
  | 63 => some (.named .TMul)
  | 64 => some (.named .TMul)
  | 68 => some (.named .TDiv)
  | 69 => some (.named .TDiv)
  | 79 => some (.arr 32 (.int .u32))
  | 88 => some (.int .u8)
  | 89 => some (.int .u8)
  | 92 => some (.int .i32)
  | 93 => some (.int .i32)
  | _ => none
def cx : Cx := { X := tab, ty := tyD }
theorem tabOk : TabOk tab where
  to_of := by intro i x; cases i <;> rfl
  of_to := by intro i v; cases i <;> rfl
  sz := by intro i; cases i <;> rfl
  eq := by
    intro i h a b
    cases i <;> first | exact eqT_iff | cases h
  flat := by
    intro i h t ht
    cases i <;> first | (cases h; done) | (revert t; exact List.all_eq_true.1 (by rfl))
  zero := by
    intro i j t x h
    have hz : tab.to i (tab.zeroD i) = zerosT tab (tab.fields i) := by cases i <;> rfl
    rw [hz] at h
    exact getT_zeros h
end Go.Proofs.Ytcinobbeapgklaa
