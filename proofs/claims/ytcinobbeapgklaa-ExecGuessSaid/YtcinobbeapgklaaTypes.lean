/- YtcinobbeapgklaaTypes: the program's structs as structures. No statement of the seat is proved here. -/
import Derived.Test.YtcinobbeapgklaaAmLift
namespace Go.Proofs.Ytcinobbeapgklaa
open Go Go.AM
structure A3 (α : Type) where
  a0 : α
  a1 : α
  a2 : α
structure Inst where
  Op : Int
  Rd : Int
  Ra : Int
  Rb : Int
  Imm : Int
def Inst.cells (x : Inst) : List AV := [.int .i64 x.Op, .int .i64 x.Rd, .int .i64 x.Ra, .int .i64 x.Rb, .int .i64 x.Imm]
def Inst.of : List AV → Option (Inst)
  | [.int .i64 v0, .int .i64 v1, .int .i64 v2, .int .i64 v3, .int .i64 v4] => some ⟨v0, v1, v2, v3, v4⟩
  | _ => none
theorem Inst.of_eq {l : List AV} {x : Inst} (h : Inst.of l = some x) : l = Inst.cells x := by
  unfold Inst.of at h
  split at h
  · cases h; rfl
  · cases h
theorem Inst.of_cells (x : Inst) : Inst.of (Inst.cells x) = some x := by kernel_rfl
def Inst.wf (x : Inst) : Prop := IntKind.has .i64 x.Op ∧ IntKind.has .i64 x.Rd ∧ IntKind.has .i64 x.Ra ∧ IntKind.has .i64 x.Rb ∧ IntKind.has .i64 x.Imm
def Inst.kinds : List CK := [.int .i64, .int .i64, .int .i64, .int .i64, .int .i64]
theorem Inst.fit {l : List AV} (h0 : fits Inst.kinds l) : ∃ x : Inst, Inst.wf x ∧ l = Inst.cells x := by
  unfold Inst.kinds at h0
  obtain ⟨_, _, rfl, ⟨v0, rfl, w0⟩, h1⟩ := fits_cons h0
  obtain ⟨_, _, rfl, ⟨v1, rfl, w1⟩, h2⟩ := fits_cons h1
  obtain ⟨_, _, rfl, ⟨v2, rfl, w2⟩, h3⟩ := fits_cons h2
  obtain ⟨_, _, rfl, ⟨v3, rfl, w3⟩, h4⟩ := fits_cons h3
  obtain ⟨_, _, rfl, ⟨v4, rfl, w4⟩, h5⟩ := fits_cons h4
  obtain rfl := fits_nil h5
  exact ⟨⟨v0, v1, v2, v3, v4⟩, ⟨w0, w1, w2, w3, w4⟩, rfl⟩
structure Save where
  Hist : Int
  Top : Int
  Val : Int
def Save.cells (x : Save) : List AV := [.int .u32 x.Hist, .int .i64 x.Top, .int .u32 x.Val]
def Save.of : List AV → Option (Save)
  | [.int .u32 v0, .int .i64 v1, .int .u32 v2] => some ⟨v0, v1, v2⟩
  | _ => none
theorem Save.of_eq {l : List AV} {x : Save} (h : Save.of l = some x) : l = Save.cells x := by
  unfold Save.of at h
  split at h
  · cases h; rfl
  · cases h
theorem Save.of_cells (x : Save) : Save.of (Save.cells x) = some x := by kernel_rfl
def Save.wf (x : Save) : Prop := IntKind.has .u32 x.Hist ∧ IntKind.has .i64 x.Top ∧ IntKind.has .u32 x.Val
def Save.kinds : List CK := [.int .u32, .int .i64, .int .u32]
theorem Save.fit {l : List AV} (h0 : fits Save.kinds l) : ∃ x : Save, Save.wf x ∧ l = Save.cells x := by
  unfold Save.kinds at h0
  obtain ⟨_, _, rfl, ⟨v0, rfl, w0⟩, h1⟩ := fits_cons h0
  obtain ⟨_, _, rfl, ⟨v1, rfl, w1⟩, h2⟩ := fits_cons h1
  obtain ⟨_, _, rfl, ⟨v2, rfl, w2⟩, h3⟩ := fits_cons h2
  obtain rfl := fits_nil h3
  exact ⟨⟨v0, v1, v2⟩, ⟨w0, w1, w2⟩, rfl⟩
structure Guess where
  Taken : Bool
  Target : Int
  Save : Save
def Guess.cells (x : Guess) : List AV := [.bool x.Taken, .int .u32 x.Target, .int .u32 x.Save.Hist, .int .i64 x.Save.Top, .int .u32 x.Save.Val]
def Guess.of : List AV → Option (Guess)
  | [.bool v0, .int .u32 v1, .int .u32 v2, .int .i64 v3, .int .u32 v4] => some ⟨v0, v1, ⟨v2, v3, v4⟩⟩
  | _ => none
theorem Guess.of_eq {l : List AV} {x : Guess} (h : Guess.of l = some x) : l = Guess.cells x := by
  unfold Guess.of at h
  split at h
  · cases h; rfl
  · cases h
theorem Guess.of_cells (x : Guess) : Guess.of (Guess.cells x) = some x := by kernel_rfl
def Guess.wf (x : Guess) : Prop := IntKind.has .u32 x.Target ∧ IntKind.has .u32 x.Save.Hist ∧ IntKind.has .i64 x.Save.Top ∧ IntKind.has .u32 x.Save.Val
def Guess.kinds : List CK := [.bool, .int .u32, .int .u32, .int .i64, .int .u32]
theorem Guess.fit {l : List AV} (h0 : fits Guess.kinds l) : ∃ x : Guess, Guess.wf x ∧ l = Guess.cells x := by
  unfold Guess.kinds at h0
  obtain ⟨_, _, rfl, ⟨v0, rfl⟩, h1⟩ := fits_cons h0
  obtain ⟨_, _, rfl, ⟨v1, rfl, w1⟩, h2⟩ := fits_cons h1
  obtain ⟨_, _, rfl, ⟨v2, rfl, w2⟩, h3⟩ := fits_cons h2
  obtain ⟨_, _, rfl, ⟨v3, rfl, w3⟩, h4⟩ := fits_cons h3
  obtain ⟨_, _, rfl, ⟨v4, rfl, w4⟩, h5⟩ := fits_cons h4
  obtain rfl := fits_nil h5
  exact ⟨⟨v0, v1, ⟨v2, v3, v4⟩⟩, ⟨w1, w2, w3, w4⟩, rfl⟩
structure Slot where
  PC : Int
  Word : Int
  Cause : Int
  Tval : Int
  Guess : Guess
def Slot.cells (x : Slot) : List AV := [.int .u32 x.PC, .int .u32 x.Word, .int .i64 x.Cause, .int .u32 x.Tval, .bool x.Guess.Taken, .int .u32 x.Guess.Target, .int .u32 x.Guess.Save.Hist, .int .i64 x.Guess.Save.Top, .int .u32 x.Guess.Save.Val]
def Slot.of : List AV → Option (Slot)
  | [.int .u32 v0, .int .u32 v1, .int .i64 v2, .int .u32 v3, .bool v4, .int .u32 v5, .int .u32 v6, .int .i64 v7, .int .u32 v8] => some ⟨v0, v1, v2, v3, ⟨v4, v5, ⟨v6, v7, v8⟩⟩⟩
  | _ => none
theorem Slot.of_eq {l : List AV} {x : Slot} (h : Slot.of l = some x) : l = Slot.cells x := by
  unfold Slot.of at h
  split at h
  · cases h; rfl
  · cases h
theorem Slot.of_cells (x : Slot) : Slot.of (Slot.cells x) = some x := by kernel_rfl
def Slot.wf (x : Slot) : Prop := IntKind.has .u32 x.PC ∧ IntKind.has .u32 x.Word ∧ IntKind.has .i64 x.Cause ∧ IntKind.has .u32 x.Tval ∧ IntKind.has .u32 x.Guess.Target ∧ IntKind.has .u32 x.Guess.Save.Hist ∧ IntKind.has .i64 x.Guess.Save.Top ∧ IntKind.has .u32 x.Guess.Save.Val
def Slot.kinds : List CK := [.int .u32, .int .u32, .int .i64, .int .u32, .bool, .int .u32, .int .u32, .int .i64, .int .u32]
theorem Slot.fit {l : List AV} (h0 : fits Slot.kinds l) : ∃ x : Slot, Slot.wf x ∧ l = Slot.cells x := by
  unfold Slot.kinds at h0
  obtain ⟨_, _, rfl, ⟨v0, rfl, w0⟩, h1⟩ := fits_cons h0
  obtain ⟨_, _, rfl, ⟨v1, rfl, w1⟩, h2⟩ := fits_cons h1
  obtain ⟨_, _, rfl, ⟨v2, rfl, w2⟩, h3⟩ := fits_cons h2
  obtain ⟨_, _, rfl, ⟨v3, rfl, w3⟩, h4⟩ := fits_cons h3
  obtain ⟨_, _, rfl, ⟨v4, rfl⟩, h5⟩ := fits_cons h4
  obtain ⟨_, _, rfl, ⟨v5, rfl, w5⟩, h6⟩ := fits_cons h5
  obtain ⟨_, _, rfl, ⟨v6, rfl, w6⟩, h7⟩ := fits_cons h6
  obtain ⟨_, _, rfl, ⟨v7, rfl, w7⟩, h8⟩ := fits_cons h7
  obtain ⟨_, _, rfl, ⟨v8, rfl, w8⟩, h9⟩ := fits_cons h8
  obtain rfl := fits_nil h9
  exact ⟨⟨v0, v1, v2, v3, ⟨v4, v5, ⟨v6, v7, v8⟩⟩⟩, ⟨w0, w1, w2, w3, w5, w6, w7, w8⟩, rfl⟩
structure Uop where
  Inst : Inst
  Slot : Slot
  Unit : Int
  Part : Int
  Last : Bool
  Src : (A3 Int)
  Dst : Int
  Cause : Int
  Tval : Int
def Uop.cells (x : Uop) : List AV := [.int .i64 x.Inst.Op, .int .i64 x.Inst.Rd, .int .i64 x.Inst.Ra, .int .i64 x.Inst.Rb, .int .i64 x.Inst.Imm, .int .u32 x.Slot.PC, .int .u32 x.Slot.Word, .int .i64 x.Slot.Cause, .int .u32 x.Slot.Tval, .bool x.Slot.Guess.Taken, .int .u32 x.Slot.Guess.Target, .int .u32 x.Slot.Guess.Save.Hist, .int .i64 x.Slot.Guess.Save.Top, .int .u32 x.Slot.Guess.Save.Val, .int .i64 x.Unit, .int .i64 x.Part, .bool x.Last, .int .i64 x.Src.a0, .int .i64 x.Src.a1, .int .i64 x.Src.a2, .int .i64 x.Dst, .int .i64 x.Cause, .int .u32 x.Tval]
def Uop.of : List AV → Option (Uop)
  | [.int .i64 v0, .int .i64 v1, .int .i64 v2, .int .i64 v3, .int .i64 v4, .int .u32 v5, .int .u32 v6, .int .i64 v7, .int .u32 v8, .bool v9, .int .u32 v10, .int .u32 v11, .int .i64 v12, .int .u32 v13, .int .i64 v14, .int .i64 v15, .bool v16, .int .i64 v17, .int .i64 v18, .int .i64 v19, .int .i64 v20, .int .i64 v21, .int .u32 v22] => some ⟨⟨v0, v1, v2, v3, v4⟩, ⟨v5, v6, v7, v8, ⟨v9, v10, ⟨v11, v12, v13⟩⟩⟩, v14, v15, v16, ⟨v17, v18, v19⟩, v20, v21, v22⟩
  | _ => none
theorem Uop.of_eq {l : List AV} {x : Uop} (h : Uop.of l = some x) : l = Uop.cells x := by
  unfold Uop.of at h
  split at h
  · cases h; rfl
  · cases h
theorem Uop.of_cells (x : Uop) : Uop.of (Uop.cells x) = some x := by kernel_rfl
def Uop.wf (x : Uop) : Prop := IntKind.has .i64 x.Inst.Op ∧ IntKind.has .i64 x.Inst.Rd ∧ IntKind.has .i64 x.Inst.Ra ∧ IntKind.has .i64 x.Inst.Rb ∧ IntKind.has .i64 x.Inst.Imm ∧ IntKind.has .u32 x.Slot.PC ∧ IntKind.has .u32 x.Slot.Word ∧ IntKind.has .i64 x.Slot.Cause ∧ IntKind.has .u32 x.Slot.Tval ∧ IntKind.has .u32 x.Slot.Guess.Target ∧ IntKind.has .u32 x.Slot.Guess.Save.Hist ∧ IntKind.has .i64 x.Slot.Guess.Save.Top ∧ IntKind.has .u32 x.Slot.Guess.Save.Val ∧ IntKind.has .i64 x.Unit ∧ IntKind.has .i64 x.Part ∧ IntKind.has .i64 x.Src.a0 ∧ IntKind.has .i64 x.Src.a1 ∧ IntKind.has .i64 x.Src.a2 ∧ IntKind.has .i64 x.Dst ∧ IntKind.has .i64 x.Cause ∧ IntKind.has .u32 x.Tval
def Uop.kinds : List CK := [.int .i64, .int .i64, .int .i64, .int .i64, .int .i64, .int .u32, .int .u32, .int .i64, .int .u32, .bool, .int .u32, .int .u32, .int .i64, .int .u32, .int .i64, .int .i64, .bool, .int .i64, .int .i64, .int .i64, .int .i64, .int .i64, .int .u32]
theorem Uop.fit {l : List AV} (h0 : fits Uop.kinds l) : ∃ x : Uop, Uop.wf x ∧ l = Uop.cells x := by
  unfold Uop.kinds at h0
  obtain ⟨_, _, rfl, ⟨v0, rfl, w0⟩, h1⟩ := fits_cons h0
  obtain ⟨_, _, rfl, ⟨v1, rfl, w1⟩, h2⟩ := fits_cons h1
  obtain ⟨_, _, rfl, ⟨v2, rfl, w2⟩, h3⟩ := fits_cons h2
  obtain ⟨_, _, rfl, ⟨v3, rfl, w3⟩, h4⟩ := fits_cons h3
  obtain ⟨_, _, rfl, ⟨v4, rfl, w4⟩, h5⟩ := fits_cons h4
  obtain ⟨_, _, rfl, ⟨v5, rfl, w5⟩, h6⟩ := fits_cons h5
  obtain ⟨_, _, rfl, ⟨v6, rfl, w6⟩, h7⟩ := fits_cons h6
  obtain ⟨_, _, rfl, ⟨v7, rfl, w7⟩, h8⟩ := fits_cons h7
  obtain ⟨_, _, rfl, ⟨v8, rfl, w8⟩, h9⟩ := fits_cons h8
  obtain ⟨_, _, rfl, ⟨v9, rfl⟩, h10⟩ := fits_cons h9
  obtain ⟨_, _, rfl, ⟨v10, rfl, w10⟩, h11⟩ := fits_cons h10
  obtain ⟨_, _, rfl, ⟨v11, rfl, w11⟩, h12⟩ := fits_cons h11
  obtain ⟨_, _, rfl, ⟨v12, rfl, w12⟩, h13⟩ := fits_cons h12
  obtain ⟨_, _, rfl, ⟨v13, rfl, w13⟩, h14⟩ := fits_cons h13
  obtain ⟨_, _, rfl, ⟨v14, rfl, w14⟩, h15⟩ := fits_cons h14
  obtain ⟨_, _, rfl, ⟨v15, rfl, w15⟩, h16⟩ := fits_cons h15
  obtain ⟨_, _, rfl, ⟨v16, rfl⟩, h17⟩ := fits_cons h16
  obtain ⟨_, _, rfl, ⟨v17, rfl, w17⟩, h18⟩ := fits_cons h17
  obtain ⟨_, _, rfl, ⟨v18, rfl, w18⟩, h19⟩ := fits_cons h18
  obtain ⟨_, _, rfl, ⟨v19, rfl, w19⟩, h20⟩ := fits_cons h19
  obtain ⟨_, _, rfl, ⟨v20, rfl, w20⟩, h21⟩ := fits_cons h20
  obtain ⟨_, _, rfl, ⟨v21, rfl, w21⟩, h22⟩ := fits_cons h21
  obtain ⟨_, _, rfl, ⟨v22, rfl, w22⟩, h23⟩ := fits_cons h22
  obtain rfl := fits_nil h23
  exact ⟨⟨⟨v0, v1, v2, v3, v4⟩, ⟨v5, v6, v7, v8, ⟨v9, v10, ⟨v11, v12, v13⟩⟩⟩, v14, v15, v16, ⟨v17, v18, v19⟩, v20, v21, v22⟩, ⟨w0, w1, w2, w3, w4, w5, w6, w7, w8, w10, w11, w12, w13, w14, w15, w17, w18, w19, w20, w21, w22⟩, rfl⟩
def A3i64.cells (x : A3 Int) : List AV := [.int .i64 x.a0, .int .i64 x.a1, .int .i64 x.a2]
def A3i64.of : List AV → Option (A3 Int)
  | [.int .i64 v0, .int .i64 v1, .int .i64 v2] => some ⟨v0, v1, v2⟩
  | _ => none
theorem A3i64.of_eq {l : List AV} {x : A3 Int} (h : A3i64.of l = some x) : l = A3i64.cells x := by
  unfold A3i64.of at h
  split at h
  · cases h; rfl
  · cases h
theorem A3i64.of_cells (x : A3 Int) : A3i64.of (A3i64.cells x) = some x := by kernel_rfl
def A3i64.wf (x : A3 Int) : Prop := IntKind.has .i64 x.a0 ∧ IntKind.has .i64 x.a1 ∧ IntKind.has .i64 x.a2
def A3i64.kinds : List CK := [.int .i64, .int .i64, .int .i64]
theorem A3i64.fit {l : List AV} (h0 : fits A3i64.kinds l) : ∃ x : A3 Int, A3i64.wf x ∧ l = A3i64.cells x := by
  unfold A3i64.kinds at h0
  obtain ⟨_, _, rfl, ⟨v0, rfl, w0⟩, h1⟩ := fits_cons h0
  obtain ⟨_, _, rfl, ⟨v1, rfl, w1⟩, h2⟩ := fits_cons h1
  obtain ⟨_, _, rfl, ⟨v2, rfl, w2⟩, h3⟩ := fits_cons h2
  obtain rfl := fits_nil h3
  exact ⟨⟨v0, v1, v2⟩, ⟨w0, w1, w2⟩, rfl⟩
def A3u32.cells (x : A3 Int) : List AV := [.int .u32 x.a0, .int .u32 x.a1, .int .u32 x.a2]
def A3u32.of : List AV → Option (A3 Int)
  | [.int .u32 v0, .int .u32 v1, .int .u32 v2] => some ⟨v0, v1, v2⟩
  | _ => none
theorem A3u32.of_eq {l : List AV} {x : A3 Int} (h : A3u32.of l = some x) : l = A3u32.cells x := by
  unfold A3u32.of at h
  split at h
  · cases h; rfl
  · cases h
theorem A3u32.of_cells (x : A3 Int) : A3u32.of (A3u32.cells x) = some x := by kernel_rfl
def A3u32.wf (x : A3 Int) : Prop := IntKind.has .u32 x.a0 ∧ IntKind.has .u32 x.a1 ∧ IntKind.has .u32 x.a2
def A3u32.kinds : List CK := [.int .u32, .int .u32, .int .u32]
theorem A3u32.fit {l : List AV} (h0 : fits A3u32.kinds l) : ∃ x : A3 Int, A3u32.wf x ∧ l = A3u32.cells x := by
  unfold A3u32.kinds at h0
  obtain ⟨_, _, rfl, ⟨v0, rfl, w0⟩, h1⟩ := fits_cons h0
  obtain ⟨_, _, rfl, ⟨v1, rfl, w1⟩, h2⟩ := fits_cons h1
  obtain ⟨_, _, rfl, ⟨v2, rfl, w2⟩, h3⟩ := fits_cons h2
  obtain rfl := fits_nil h3
  exact ⟨⟨v0, v1, v2⟩, ⟨w0, w1, w2⟩, rfl⟩
end Go.Proofs.Ytcinobbeapgklaa
