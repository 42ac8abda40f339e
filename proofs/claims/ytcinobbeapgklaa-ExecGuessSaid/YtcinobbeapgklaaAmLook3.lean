/- YtcinobbeapgklaaAmLook3: arithmetic, comparison, lengths, parts. No statement of the seat is proved here. -/
import Derived.Test.YtcinobbeapgklaaAmLook2
import Derived.Laws.Strings
namespace Go.AM
open Go.RowKit (Below)

section
variable {P : Program} {K : List Nat} {F0 : Nat → Prop} {B n : Nat} {w0 : World} {F : Nat → Prop} {S : Nat → List Nat} {e : Env} {a : Act} {w : World}

/-- Bools, whole numbers and strings, as the model has them. -/
def sv : AV → Value
  | .bool b => .bool b
  | .int k n => .int k n
  | .str s => .string ⟨s.toArray⟩
  | _ => Go.undef

theorem sv_rep {z : AV} (hz : flatC z = true) : SRep K e a w F z (sv z) [] := by
  cases z <;> first | (simp [flatC] at hz; done) | exact .val (.val (.cell (.pure (by first | exact .bool _ | exact .int _ _ | exact .str _) rfl)))

theorem PRep.sv {x : AV} {v : Value} (h : PRep w F x v) (hx : flatC x = true) : v = AM.sv x := by
  cases h <;> first | rfl | simp [flatC] at hx

theorem run_bitsI {o : BinOp} {k : IntKind} {x y : Int} {z : AV} (h : bitsI o k x y = some z) : (Op.intBits o k x y).run P w = .ok (sv z) w ∧ flatC z = true := by
  unfold bitsI at h
  split at h <;> first | (cases h; done) | (simp only [Option.some.injEq] at h; subst h; exact ⟨rfl, rfl⟩)
theorem run_shiftI {o : BinOp} {k k' : IntKind} {x y : Int} {z : AV} (h : shiftI o k x y = some z) : (Op.shift o k x k' y).run P w = .ok (sv z) w ∧ flatC z = true := by
  unfold shiftI at h
  split at h
  · cases h
  · rename_i hy
    unfold Op.shift
    rw [if_neg hy]
    split at h <;> first | (cases h; done) | (simp only [Option.some.injEq] at h; subst h; exact ⟨rfl, rfl⟩)
theorem run_cmpI {o : BinOp} {x y : Int} {z : AV} (h : cmpI o x y = some z) : (Op.intCmp o x y).run P w = .ok (sv z) w ∧ flatC z = true := by
  unfold cmpI at h
  split at h <;> first | (cases h; done) | (simp only [Option.some.injEq] at h; subst h; exact ⟨rfl, rfl⟩)

theorem run_binV {o : BinOp} {t : TypeId} {x y z : AV} (h : binV o x y = some z) (hx : flatC x = true) (hy : flatC y = true) :
    (binOp o t (sv x) (sv y)).run P w = .ok (sv z) w ∧ flatC z = true := by
  unfold binV at h
  split at h
  · rename_i k a' k' b'
    split at h
    · obtain ⟨h1, h2⟩ := run_shiftI (P := P) (w := w) (k' := k') h
      exact ⟨by simp only [sv, binOp]; exact h1, h2⟩
    · obtain ⟨h1, h2⟩ := run_shiftI (P := P) (w := w) (k' := k') h
      exact ⟨by simp only [sv, binOp]; exact h1, h2⟩
    · rename_i hs1 hs2
      split at h
      · rename_i hk
        subst hk
        unfold arithI at h
        split at h
        · simp only [Option.some.injEq] at h; subst h; exact ⟨by simp only [sv, binOp, ne_eq, not_true_eq_false, if_false]; rfl, rfl⟩
        · simp only [Option.some.injEq] at h; subst h; exact ⟨by simp only [sv, binOp, ne_eq, not_true_eq_false, if_false]; rfl, rfl⟩
        · simp only [Option.some.injEq] at h; subst h; exact ⟨by simp only [sv, binOp, ne_eq, not_true_eq_false, if_false]; rfl, rfl⟩
        · split at h
          · cases h
          · rename_i hb
            simp at h; subst h
            refine ⟨?_, rfl⟩
            simp only [sv, binOp, Op.intDiv, ne_eq, not_true_eq_false, if_false, if_neg hb]
            rfl
        · split at h
          · cases h
          · rename_i hb
            simp at h; subst h
            refine ⟨?_, rfl⟩
            simp only [sv, binOp, Op.intDiv, ne_eq, not_true_eq_false, if_false, if_neg hb]
            rfl
        · obtain ⟨h1, h2⟩ := run_bitsI (P := P) (w := w) h
          exact ⟨by simp only [sv, binOp, ne_eq, not_true_eq_false, if_false]; exact h1, h2⟩
        · obtain ⟨h1, h2⟩ := run_bitsI (P := P) (w := w) h
          exact ⟨by simp only [sv, binOp, ne_eq, not_true_eq_false, if_false]; exact h1, h2⟩
        · obtain ⟨h1, h2⟩ := run_bitsI (P := P) (w := w) h
          exact ⟨by simp only [sv, binOp, ne_eq, not_true_eq_false, if_false]; exact h1, h2⟩
        · obtain ⟨h1, h2⟩ := run_bitsI (P := P) (w := w) h
          exact ⟨by simp only [sv, binOp, ne_eq, not_true_eq_false, if_false]; exact h1, h2⟩
        · obtain ⟨h1, h2⟩ := run_cmpI (P := P) (w := w) h
          refine ⟨?_, h2⟩
          cases o <;> first | (simp [cmpI] at h; done) | (simp only [sv, binOp, ne_eq, not_true_eq_false, if_false]; exact h1)
      · cases h
  · rename_i a' b'
    unfold strB at h
    have hl : ∀ l : List UInt8, (⟨l.toArray⟩ : ByteArray).toList = l := fun l => by
      rw [ByteArray.toList_eq]
    split at h
    · simp only [Option.some.injEq] at h; subst h
      refine ⟨?_, rfl⟩
      simp only [sv, binOp, Op.stringOp, hl]
      rfl
    · simp only [Option.some.injEq] at h; subst h
      refine ⟨?_, rfl⟩
      simp only [sv, binOp, Op.stringOp, hl]
      rfl
    · cases h
  · cases h


theorem EnvRel.rdFlat (h : EnvRel K F0 B n w0 F S e a w) {X : Operand} {x : AX} (hx : compX K X = some x) {y : AV} (hy : Go.AM.rd e x = y) (hc : flatC y = true) : a.eval X = sv y := by
  have := h.rdCell hx hy (by cases y <;> first | rfl | simp [flatC] at hc)
  exact this.sv hc

theorem scalar_pass {o : BinOp} {t : TypeId} {x y : Operand} {u v : AV} (hu : flatC u = true) (hv : flatC v = true) : (eqGuard o t x y (sv u) (sv v)).run P w = .ok () w := by
  unfold eqGuard
  cases u <;> first | (simp [flatC] at hu; done) | (cases v <;> first | (simp [flatC] at hv; done) | (cases o <;> rfl))

theorem binV_flat {o : BinOp} {x y z : AV} (h : binV o x y = some z) : flatC x = true ∧ flatC y = true := by
  unfold binV at h
  split at h <;> first | exact ⟨rfl, rfl⟩ | cases h

theorem EnvRel.look_bin (h : EnvRel K F0 B n w0 F S e a w) {o : Oper} {q : BinOp} {t u : TypeId} {X Y : Operand} {x y : AX} (ho : o.op = .binOp q t X Y u)
    (hx : compX K X = some x) (hy : compX K Y = some y) {z : AV} (hz : val e (.bin q x y) = some z) : Looks K P e a w F o z := by
  simp only [val] at hz
  obtain ⟨fx, fy⟩ := binV_flat hz
  obtain ⟨h1, h2⟩ := run_binV (P := P) (w := w) (t := t) hz fx fy
  refine ⟨sv z, ?_, sv_rep h2⟩
  simp only [execOp, ho, h.rdFlat hx rfl fx, h.rdFlat hy rfl fy]
  simp [scalar_pass fx fy, h1]

theorem EnvRel.look_eqB (h : EnvRel K F0 B n w0 F S e a w) {o : Oper} {neg : Bool} {t u : TypeId} {X Y : Operand} {x y : AX} (ho : o.op = .binOp (if neg then .neq else .eql) t X Y u) (ht : isBoolT P t = true)
    (hx : compX K X = some x) (hy : compX K Y = some y) {z : AV} (hz : val e (.eqB neg x y) = some z) : Looks K P e a w F o z := by
  simp only [val] at hz
  have hu : P.underlying t = some .bool := by
    unfold isBoolT at ht
    split at ht
    · assumption
    · cases ht
  split at hz
  · rename_i b1 b2 h1 h2
    simp only [Option.some.injEq] at hz; subst hz
    refine ⟨.bool (if neg then !(b1 == b2) else b1 == b2), ?_, .val (.val (.cell (.pure (.bool _) rfl)))⟩
    have hs := scalar_pass (P := P) (w := w) (o := (if neg then .neq else .eql)) (t := t) (x := X) (y := Y) (u := .bool b1) (v := .bool b2) rfl rfl
    simp only [execOp, ho, h.rdBool hx h1, h.rdBool hy h2]
    simp only [sv] at hs
    cases neg <;> simp_all [binOp, run_equal_bool]
  · cases hz

theorem EnvRel.look_un (h : EnvRel K F0 B n w0 F S e a w) {o : Oper} {q : UnOp} {t : TypeId} {X : Operand} {x : AX} (ho : o.op = .unOp q t X)
    (hx : compX K X = some x) {z : AV} (hz : val e (.un q x) = some z) : Looks K P e a w F o z := by
  simp only [val] at hz
  unfold unV at hz
  split at hz
  · rename_i k m h1
    simp only [Option.some.injEq] at hz; subst hz
    refine ⟨_, ?_, sv_rep (z := wrapI k (0 - m)) rfl⟩
    simp only [execOp, ho, h.rdInt hx h1]
    rfl
  · rename_i k m h1
    obtain ⟨h2, h3⟩ := run_bitsI (P := P) (w := w) hz
    refine ⟨sv z, ?_, sv_rep h3⟩
    simp only [execOp, ho, h.rdInt hx h1, Op.unary]
    simp [h2]
  · rename_i b h1
    simp only [Option.some.injEq] at hz; subst hz
    refine ⟨_, ?_, sv_rep (z := .bool (!b)) rfl⟩
    simp only [execOp, ho, h.rdBool hx h1]
    rfl
  · cases hz

theorem EnvRel.look_conv (h : EnvRel K F0 B n w0 F S e a w) {o : Oper} {s d : TypeId} {k k0 : IntKind} {X : Operand} {x : AX} (ho : o.op = .convert s d X) (hs : P.underlying s = some (.int k0)) (hd : P.underlying d = some (.int k))
    (hx : compX K X = some x) {z : AV} (hz : val e (.conv k x) = some z) : Looks K P e a w F o z := by
  simp only [val] at hz
  split at hz
  · rename_i k' m h1
    simp only [Option.some.injEq] at hz; subst hz
    refine ⟨_, ?_, sv_rep (z := wrapI k m) rfl⟩
    simp only [execOp, ho, h.rdInt hx h1, convert]
    simp [run_underlying' hs, run_underlying' hd, Conv.intToInt, sv, wrapI]
  · cases hz

end
end Go.AM
