/- YtcinobbeapgklaaA2Op: operations that only look, and those that take. No statement of the seat is proved here. -/
import Derived.Test.YtcinobbeapgklaaA2Take
import Derived.Laws.Entries
import Derived.Laws.Small
import Derived.Laws.StructEq
import Derived.Laws.Strings
import Derived.Laws.Tables
namespace Go.A2
section
variable {P : Program} {Γ : Cx}

section runs
variable {w : World}
theorem run_underlying' {t : TypeId} {d : TypeDesc} (h : P.underlying t = some d) : (underlying t).run P w = .ok d w := by
  simp [underlying, h]
theorem run_typeInfo' {t : TypeId} {i : TypeInfo} (h : P.info? t = some i) : (typeInfo t).run P w = .ok i w := by
  simp [typeInfo, h]
theorem run_sizeO {t : TypeId} {n : Nat} (h : sizeO P t = some n) : (sizeOf t).run P w = .ok n w := by
  unfold sizeO at h
  cases hi : P.info? t with
  | none => simp [hi] at h
  | some i => simp [hi] at h; simp [sizeOf, run_typeInfo' hi, h]
theorem run_isAggT {t : TypeId} {b : Bool} (h : isAggT P t = some b) : (isAgg t).run P w = .ok b w := by
  unfold isAggT at h
  split at h
  · rename_i fs hu; simp at h; subst h; simp [isAgg, run_underlying' hu]
  · rename_i n e hu; simp at h; subst h; simp [isAgg, run_underlying' hu]
  · rename_i d h1 h2 hu
    simp at h; subst h
    simp only [isAgg, Sem.run_bind, run_underlying' hu, Result.andThen_ok]
    rfl
  · cases h
theorem tyC_some {t : TypeId} {T : Γ.X.Ty} (h : tyC P Γ t = some T) : Γ.ty t = some T ∧ sizeO P t = some (Γ.X.sz T) ∧ isAggT P t = some (aggB T) := by
  unfold tyC at h
  split at h
  · rename_i T' n b h1 h2 h3
    split at h
    · rename_i hc
      simp only [Option.some.injEq] at h; subst h
      exact ⟨h1, by rw [h2, hc.1], by rw [h3, hc.2]⟩
    · cases h
  · cases h
theorem run_loadCells' {b o m : Nat} {vs : List Value} (hl : vs.length = m) (h : ∀ (j : Nat) v, vs[j]? = some v → w.cell? ⟨b, o + j, none⟩ = some v) : (loadCells ⟨b, o, none⟩ m).run P w = .ok vs.toArray w := by
  subst hl
  have hadd : ∀ j, (⟨b, o, none⟩ : Addr).add j = ⟨b, o + j, none⟩ := fun j => by unfold Addr.add; split <;> simp_all
  rw [run_loadCells_list (P := P) w ⟨b, o, none⟩ vs fun j v hj => by rw [hadd]; exact h j v hj]
theorem addr_add (b o k : Nat) : (⟨b, o, none⟩ : Addr).add k = ⟨b, o + k, none⟩ := by unfold Addr.add; split <;> simp_all
/-- A value of a type, loaded. -/
theorem run_loadVar' {t : TypeId} {T : Γ.X.Ty} (ht : tyC P Γ t = some T) {b o : Nat} {cs : List Value} (hl : cs.length = Γ.X.sz T) (h : ∀ (j : Nat) v, cs[j]? = some v → w.cell? ⟨b, o + j, none⟩ = some v) :
    ∃ u, (loadVar t ⟨b, o, none⟩).run P w = .ok u w ∧ valOk T cs u := by
  obtain ⟨_, h2, h3⟩ := tyC_some ht
  unfold loadVar
  cases hb : aggB T with
  | true =>
    rw [hb] at h3
    refine ⟨.agg cs.toArray, ?_, by unfold valOk; rw [if_pos hb]⟩
    simp [run_isAggT h3, run_sizeO h2, run_loadCells' (P := P) hl h]
  | false =>
    rw [hb] at h3
    have hs1 : Γ.X.sz T = 1 := by cases T <;> first | rfl | simp [aggB] at hb
    rw [hs1] at hl
    cases cs with
    | nil => cases hl
    | cons c cs =>
      cases cs with
      | cons => simp at hl
      | nil =>
        refine ⟨c, ?_, by unfold valOk; rw [if_neg (by simp [hb])]⟩
        have := h 0 c rfl
        simp [run_isAggT h3, run_load, show w.cell? ⟨b, o, none⟩ = some c from this]
end runs

section
variable {K : List Nat} {N : Slots} {F0 B U : Nat → Prop} {w0 : World} {F : Nat → Prop} {S : Nat → List Nat} {e : Env Γ.X} {a : Act} {w : World}

def Sim (N : Slots) (F0 B U : Nat → Prop) (w0 : World) (e : Env Γ.X) (a : Act) (w : World) : Prop := ∃ F S, EnvRel N F0 B U w0 F S e a w
def withG (U : Nat → Prop) (g : Nat) : Nat → Prop := fun x => U x ∨ x = g

/-- What is put into its slot. -/
theorem EnvRel.out (h : EnvRel N F0 B U w0 F S e a w) {d : Option Nat} (hd : ∀ k, d = some k → N.ok k) {g : Nat} (hg : ¬ U g) {x : AV Γ.X} {u : Value} {T : List Nat} (hh : Hand B U F S e a w x u T) (hx : OwnsG (· = g) x) :
    Sim N F0 B (withG U g) w0 (applyU e (outU d x)) (a.put d u) w := by
  cases d with
  | none => exact ⟨F, S, h.weakU fun _ h => .inl h⟩
  | some d => exact ⟨F, _, h.set (hd d rfl) hg hh hx⟩
theorem OwnsG_pure {g : Nat} {T : Γ.X.Ty} {v : Γ.X.den T} {o : Own} (h : o.pure = true) : OwnsG (· = g) (.val T v o : AV Γ.X) := OGen_pure h
/-- A value that nobody writes is put into its slot. -/
theorem EnvRel.outV (h : EnvRel N F0 B U w0 F S e a w) {d : Option Nat} (hd : ∀ k, d = some k → N.ok k) {g : Nat} (hg : ¬ U g) {T : Γ.X.Ty} {v : Γ.X.den T} {o : Own} {u : Value} {cs : List Value} (ho : o.pure = true) (hv : VRep w F T v o cs []) (hu : valOk T cs u) :
    Sim N F0 B (withG U g) w0 (applyU e (outU d (.val T v o))) (a.put d u) w :=
  h.out hd hg (Hand.ofPure (.u (.val T v o u cs [] hv hu)) trivial) (OwnsG_pure ho)

/-- What an operation that looks says. -/
def Looks (N : Slots) (F0 B U : Nat → Prop) (w0 : World) (P : Program) (e : Env Γ.X) (a : Act) (w : World) (g : Nat) (o : Oper) (u : Ups Γ.X) : Prop :=
  ∃ v, (execOp a.eval o).run P w = .ok (.value v) w ∧ Sim N F0 B (withG U g) w0 (applyU e u) (a.put o.dst v) w
theorem Looks.wp {g : Nat} {o : Oper} {u : Ups Γ.X} (h : Looks N F0 B U w0 P e a w g o u) {next : Act → World → Prop} {Q : Exit → Act → World → Prop} (hnext : ∀ a' w', Sim N F0 B (withG U g) w0 (applyU e u) a' w' → next a' w') : o.wp P a w next Q := by
  obtain ⟨v, h1, h2⟩ := h
  unfold Oper.wp
  rw [h1]
  exact hnext _ _ h2

theorem EnvRel.rdBool (hX : TabOk Γ.X) (h : EnvRel N F0 B U w0 F S e a w) {T0 : Option Γ.X.Ty} {Y : Operand} {x : AX Γ.X} (hx : compX Γ K T0 Y = some x) {b : Bool} {o : Own} (hr : Go.A2.rd e x = .val .bool b o) : a.eval Y = .bool b := by
  obtain ⟨cs, R, h1, h2⟩ := h.rdVal hX hx hr
  unfold valOk at h2
  rw [if_neg (by simp [aggB])] at h2
  subst h2
  have := h1.boolInv
  simpa using this
theorem EnvRel.rdInt (hX : TabOk Γ.X) (h : EnvRel N F0 B U w0 F S e a w) {T0 : Option Γ.X.Ty} {Y : Operand} {x : AX Γ.X} (hx : compX Γ K T0 Y = some x) {k : IntKind} {n : W k} {o : Own} (hr : Go.A2.rd e x = .val (.int k) n o) : a.eval Y = .int k n.n := by
  obtain ⟨cs, R, h1, h2⟩ := h.rdVal hX hx hr
  unfold valOk at h2
  rw [if_neg (by simp [aggB])] at h2
  subst h2
  have := h1.intInv
  simpa using this
theorem EnvRel.rdStr (hX : TabOk Γ.X) (h : EnvRel N F0 B U w0 F S e a w) {T0 : Option Γ.X.Ty} {Y : Operand} {x : AX Γ.X} (hx : compX Γ K T0 Y = some x) {s : Str} {o : Own} (hr : Go.A2.rd e x = .val .str s o) : a.eval Y = .string ⟨s.l.toArray⟩ := by
  obtain ⟨cs, R, h1, h2⟩ := h.rdVal hX hx hr
  unfold valOk at h2
  rw [if_neg (by simp [aggB])] at h2
  subst h2
  have := h1.strInv
  simpa using this
theorem EnvRel.outInt (h : EnvRel N F0 B U w0 F S e a w) {d : Option Nat} (hd : ∀ k, d = some k → N.ok k) {g : Nat} (hg : ¬ U g) (k : IntKind) (n : W k) : Sim N F0 B (withG U g) w0 (applyU e (outU d (.val (.int k) n .no))) (a.put d (.int k n.n)) w :=
  h.outV hd hg rfl (.pure (.int k n)) rfl
theorem EnvRel.outBool (h : EnvRel N F0 B U w0 F S e a w) {d : Option Nat} (hd : ∀ k, d = some k → N.ok k) {g : Nat} (hg : ¬ U g) (b : Bool) : Sim N F0 B (withG U g) w0 (applyU e (outU d (.val .bool b .no))) (a.put d (.bool b)) w :=
  h.outV hd hg rfl (.pure (.bool b)) rfl

theorem tyB_tyQ : ∀ {q : List PS} {T T' : Γ.X.Ty}, (tyQ q T).isSome = true → tyB q T = some T' → tyQ q T = some T'
  | [], T, T', _, h => h
  | .fld j :: q, T, T', h, h' => by
    cases T with
    | named i =>
      simp only [tyQ, tyB] at h h' ⊢
      cases hf : (Γ.X.fields i)[j]? with
      | none => simp [hf] at h
      | some t => simp only [hf] at h h' ⊢; exact tyB_tyQ h h'
    | _ => simp [tyQ] at h
  | .idx k :: q, T, T', h, h' => by
    cases T with
    | arr n t =>
      simp only [tyQ, tyB] at h h' ⊢
      split at h
      · rename_i hk; rw [if_pos hk]; exact tyB_tyQ h h'
      · simp at h
    | _ => simp [tyQ] at h
theorem tyQ_append : ∀ {q r : List PS} {T T' : Γ.X.Ty}, tyQ q T = some T' → tyQ (q ++ r) T = tyQ r T' ∧ offQ (q ++ r) T = offQ q T + offQ r T'
  | [], r, T, T', h => by simp only [tyQ, Option.some.injEq] at h; subst h; simp [offQ]
  | .fld j :: q, r, T, T', h => by
    cases T with
    | named i =>
      simp only [tyQ] at h
      cases hf : (Γ.X.fields i)[j]? with
      | none => simp [hf] at h
      | some t =>
        simp only [hf] at h
        obtain ⟨h1, h2⟩ := tyQ_append (r := r) h
        simp only [List.cons_append, tyQ, offQ, hf, h1, h2, true_and]
        exact (Nat.add_assoc _ _ _).symm
    | _ => simp [tyQ] at h
  | .idx k :: q, r, T, T', h => by
    cases T with
    | arr n t =>
      simp only [tyQ] at h
      split at h
      · rename_i hk
        obtain ⟨h1, h2⟩ := tyQ_append (r := r) h
        simp only [List.cons_append, tyQ, offQ, if_pos hk, h1, h2, true_and]
        omega
      · cases h
    | _ => simp [tyQ] at h
theorem ptr_nil {b : Base} {q : List PS} {u : Value} {R : List Nat} (h : SRep e a w F (.ptr b q) u R) : R = [] := by
  cases h with
  | u h => cases h
  | ptrB => rfl
  | ptrE => rfl
theorem ptr_some {b : Base} {q : List PS} {u : Value} {R : List Nat} (h : SRep e a w F (.ptr b q) u R) (hok : (ptrTy e b q).isSome = true) : ∃ ad, u = .pointer (some ad) := by
  cases h with
  | u h => cases h
  | ptrB s g q u h =>
    simp only [ptrTy] at hok
    cases hes : e s with
    | box g' T v o =>
      simp only [hes] at hok
      split at hok
      · rename_i hg; subst hg
        obtain ⟨b, _, hu, _⟩ := h T v o hes
        exact ⟨_, hu⟩
      · simp at hok
    | _ => simp [hes] at hok
  | ptrE s p g i q u hp h =>
    simp only [ptrTy] at hok
    cases hc : cont e s p g with
    | none => simp [hc] at hok
    | some x =>
      obtain ⟨b, t, l⟩ := x
      obtain ⟨_, _, blk, n, c, _, hu⟩ := h b t l hc
      exact ⟨_, hu⟩
/-- A pointer, one step further. -/
theorem ptr_step {b : Base} {q : List PS} {u : Value} {R : List Nat} {p : PS} {T T' : Γ.X.Ty} (h : SRep e a w F (.ptr b q) u R) (hok : ptrTy e b q = some T) (ht : tyQ [p] T = some T') :
    ∃ b' o', u = .pointer (some ⟨b', o', none⟩) ∧ SRep e a w F (.ptr b (q ++ [p])) (.pointer (some ⟨b', o' + offQ [p] T, none⟩)) [] := by
  cases h with
  | u h => cases h
  | ptrB s g q u h =>
    simp only [ptrTy] at hok
    cases hes : e s with
    | box g' T1 v o =>
      simp only [hes] at hok
      split at hok
      · rename_i hg; subst hg
        obtain ⟨b, h1, hu, h3⟩ := h T1 v o hes
        have h4 := tyB_tyQ h3 hok
        obtain ⟨h5, h6⟩ := tyQ_append (r := [p]) h4
        refine ⟨b, _, hu, .ptrB s g _ _ fun T2 v2 o2 he2 => ?_⟩
        rw [hes] at he2; cases he2
        exact ⟨b, h1, by rw [h6], by rw [h5, ht]; rfl⟩
      · cases hok
    | _ => simp [hes] at hok
  | ptrE s p' g i q u hp h =>
    simp only [ptrTy] at hok
    cases hc : cont e s p' g with
    | none => simp [hc] at hok
    | some x =>
      obtain ⟨b, t, l⟩ := x
      simp only [hc] at hok
      obtain ⟨h1, h2, blk, n, c, h3, hu⟩ := h b t l hc
      have h4 := tyB_tyQ h2 hok
      obtain ⟨h5, h6⟩ := tyQ_append (r := [p]) h4
      refine ⟨blk, _, hu, .ptrE s p' g i _ _ hp fun b2 t2 l2 hc2 => ?_⟩
      rw [hc] at hc2; cases hc2
      exact ⟨h1, by rw [h5, ht]; rfl, blk, n, c, h3, by rw [h6, Nat.add_assoc]⟩
theorem fldOk_some {fs : Array Field} {i : Γ.X.ι} {j : Nat} (h : fldOk P Γ fs i j = true) : ∃ f T, fs[j]? = some f ∧ (Γ.X.fields i)[j]? = some T ∧ f.offset = Γ.X.off i j ∧ tyC P Γ f.type = some T ∧ 0 < Γ.X.sz T := by
  unfold fldOk at h
  split at h
  · rename_i f T h1 h2
    simp only [Bool.and_eq_true, decide_eq_true_eq] at h
    obtain ⟨⟨h3, h4⟩, h5⟩ := h
    split at h4
    · rename_i T' hT
      simp only [decide_eq_true_eq] at h4; subst h4
      exact ⟨f, _, h1, h2, h3, hT, h5⟩
    · cases h4
  · cases h

section looks
variable {T0 T1 T2 : Option Γ.X.Ty} {g : Nat} {o : Oper} {us : Ups Γ.X} {ans : Ret Γ.X} (hX : TabOk Γ.X) (h : EnvRel N F0 B U w0 F S e a w) (hg : ¬ U g) (hd : ∀ k, o.dst = some k → N.ok k)
include hX h hg hd

theorem look_pick {c x y : Operand} {c' x' y' : AX Γ.X} (ho : o.op = .pick c x y) (hc : compX Γ K T0 c = some c') (hx : compX Γ K T1 x = some x') (hy : compX Γ K T2 y = some y') (hs : eff ans g e o.dst (.pick c' x' y') = some us) :
    Looks N F0 B U w0 P e a w g o us := by
  simp only [eff] at hs
  have bo : ∀ {z : AV Γ.X} {b : Bool}, boolOf z = some b → ∃ o, z = .val .bool b o := fun {z b} hz => by
    unfold boolOf at hz
    split at hz
    · cases hz; exact ⟨_, rfl⟩
    · cases hz
  split at hs
  · rename_i hcb
    obtain ⟨oc, hcb⟩ := bo hcb
    obtain ⟨z, hb, hs⟩ := Option.bind_eq_some_iff.1 hs
    cases hs
    obtain ⟨ox, hb⟩ := bo hb
    refine ⟨.bool z, ?_, h.outBool hd hg z⟩
    simp only [execOp, ho, h.rdBool hX hc hcb, h.rdBool hX hx hb]
    rfl
  · rename_i hcb
    obtain ⟨oc, hcb⟩ := bo hcb
    obtain ⟨z, hb, hs⟩ := Option.bind_eq_some_iff.1 hs
    cases hs
    obtain ⟨ox, hb⟩ := bo hb
    refine ⟨.bool z, ?_, h.outBool hd hg z⟩
    simp only [execOp, ho, h.rdBool hX hc hcb, h.rdBool hX hy hb]
    rfl
  · cases hs

theorem look_idxStr {t : TypeId} {Y I : Operand} {x i : AX Γ.X} (ho : o.op = .index t Y I) (ht : P.underlying t = some .string) (hx : compX Γ K T0 Y = some x) (hi : compX Γ K T1 I = some i) (hs : eff ans g e o.dst (.idxStr x i) = some us) :
    Looks N F0 B U w0 P e a w g o us := by
  simp only [eff] at hs
  split at hs
  · rename_i s os k j oi hy hj
    obtain ⟨z, hb, hs⟩ := Option.bind_eq_some_iff.1 hs
    cases hs
    unfold Str.get? at hb
    split at hb
    · rename_i hj0
      obtain ⟨b, hs', hb⟩ := Option.map_eq_some_iff.1 hb
      subst hb
      · skip
        refine ⟨.int .u8 (W.of .u8 b.toNat).n, ?_, h.outInt hd hg _ _⟩
        have hlt := (List.getElem?_eq_some_iff.1 hs').1
        have hgb : (⟨s.l.toArray⟩ : ByteArray)[j.n.toNat]? = some b := by
          have hsz : j.n.toNat < (⟨s.l.toArray⟩ : ByteArray).size := by simpa [ByteArray.size] using hlt
          rw [getElem?_pos (⟨s.l.toArray⟩ : ByteArray) j.n.toNat hsz]
          rw [List.getElem?_eq_getElem hlt] at hs'
          simpa [ByteArray.getElem_eq_getElem_data] using hs'
        have hw : (W.of .u8 b.toNat).n = b.toNat := by
          have := b.toNat_lt
          simp only [W.of, IntKind.wrap, IntKind.bits, IntKind.signed]
          simp
          omega
        rw [hw]
        simp only [execOp, ho, Instr.index, h.rdStr hX hx hy, h.rdInt hX hi hj]
        simp [asIntOf, run_underlying' ht, hj0, hgb]
    · cases hb
  · cases hs

theorem look_un {q : UnOp} {t : TypeId} {Y : Operand} {x : AX Γ.X} (ho : o.op = .unOp q t Y) (hx : compX Γ K T0 Y = some x) (hs : eff ans g e o.dst (.un q x) = some us) : Looks N F0 B U w0 P e a w g o us := by
  simp only [eff] at hs
  obtain ⟨z, hv, hs⟩ := Option.bind_eq_some_iff.1 hs
  cases hs
  unfold unV at hv
  split at hv
  · rename_i k n ox hr
    simp only [Option.some.injEq] at hv; subst hv
    refine ⟨_, ?_, h.outInt hd hg _ _⟩
    simp only [execOp, ho, h.rdInt hX hx hr]
    rfl
  · rename_i k n ox hr
    simp only [Option.some.injEq] at hv; subst hv
    refine ⟨_, ?_, h.outInt hd hg _ _⟩
    simp only [execOp, ho, h.rdInt hX hx hr]
    rfl
  · rename_i b ox hr
    simp only [Option.some.injEq] at hv; subst hv
    refine ⟨_, ?_, h.outBool hd hg _⟩
    simp only [execOp, ho, h.rdBool hX hx hr]
    rfl
  · cases hv

theorem look_conv {s d : TypeId} {k k0 : IntKind} {Y : Operand} {x : AX Γ.X} (ho : o.op = .convert s d Y) (hs0 : P.underlying s = some (.int k0)) (hd0 : P.underlying d = some (.int k)) (hx : compX Γ K T0 Y = some x) (hs : eff ans g e o.dst (.conv k x) = some us) :
    Looks N F0 B U w0 P e a w g o us := by
  simp only [eff] at hs
  split at hs
  · rename_i k' n ox hr
    simp only [Option.some.injEq] at hs; subst hs
    refine ⟨_, ?_, h.outInt hd hg _ _⟩
    simp only [execOp, ho, h.rdInt hX hx hr, convert]
    simp [run_underlying' hs0, run_underlying' hd0, Conv.intToInt, W.conv, W.of]
  · cases hs

theorem look_bin {q : BinOp} {t u : TypeId} {Y Z : Operand} {x y : AX Γ.X} (ho : o.op = .binOp q t Y Z u) (hx : compX Γ K T0 Y = some x) (hy : compX Γ K T1 Z = some y) (hs : eff ans g e o.dst (.bin q x y) = some us) : Looks N F0 B U w0 P e a w g o us := by
  simp only [eff] at hs
  obtain ⟨z, hv, hs⟩ := Option.bind_eq_some_iff.1 hs
  cases hs
  unfold binV at hv
  split at hv
  · rename_i k n ox k' m oy hr hr'
    have e1 := h.rdInt hX hx hr
    have e2 := h.rdInt hX hy hr'
    have guard : (eqGuard q t Y Z (.int k n.n) (.int k' m.n)).run P w = .ok () w := by unfold eqGuard; cases q <;> rfl
    have run : ∀ v, (binOp q t (.int k n.n) (.int k' m.n)).run P w = .ok v w → (execOp a.eval o).run P w = .ok (.value v) w := fun v hv => by
      simp only [execOp, ho, e1, e2]
      simp [guard, hv]
    split at hv
    · rename_i hsh
      unfold shiftV at hv
      split at hv
      · split at hv
        · unfold W.shl? at hv
          split at hv
          · cases hv
          · rename_i hm
            cases hv
            refine ⟨_, run _ ?_, h.outInt hd hg _ _⟩
            simp only [binOp, Op.shift, if_neg hm]; rfl
        · rename_i hsg
          simp only [Option.some.injEq] at hv; subst hv
          have hm : ¬ m.n < 0 := by
            have := m.h.1
            simp only [IntKind.min] at this
            rw [if_neg hsg] at this
            omega
          refine ⟨_, run _ ?_, h.outInt hd hg _ _⟩
          simp only [binOp, Op.shift, if_neg hm]; rfl
      · have shr_has : ∀ j : Nat, k.wrap (n.n.fdiv (2 ^ j)) = n.n.fdiv (2 ^ j) := fun j => by
          have hh := n.h
          have hp : (0 : Int) < 2 ^ j := Int.pow_pos (by omega)
          have h1 : n.n.fdiv (2 ^ j) = n.n / (2 ^ j) := Int.fdiv_eq_ediv_of_nonneg _ (Int.le_of_lt hp)
          rw [h1]
          have hpos : 0 ≤ n.n → 0 ≤ n.n / 2 ^ j ∧ n.n / 2 ^ j ≤ n.n := fun h0 => ⟨Int.ediv_nonneg h0 (Int.le_of_lt hp), Int.ediv_le_self _ h0⟩
          have hneg : n.n < 0 → n.n ≤ n.n / 2 ^ j ∧ n.n / 2 ^ j < 0 := fun h0 => by
            refine ⟨?_, Int.ediv_neg_of_neg_of_pos h0 hp⟩
            have h2 := Int.mul_ediv_self_le (x := n.n) (k := (2 ^ j : Int)) (by omega)
            have h3 : (2 ^ j : Int) ≥ 1 := hp
            have h4 := Int.ediv_neg_of_neg_of_pos h0 hp
            rw [Int.le_ediv_iff_mul_le hp]
            have : n.n * (2 ^ j : Int) ≤ n.n * 1 := Int.mul_le_mul_of_nonpos_left (by omega) h3
            omega
          have hrange : k.min ≤ n.n / 2 ^ j ∧ n.n / 2 ^ j ≤ k.max := by
            have h1 := hh.1
            have h2 := hh.2
            have hmin : k.min ≤ 0 := by cases k <;> decide
            have hmax : 0 ≤ k.max := by cases k <;> decide
            rcases Int.lt_or_le n.n 0 with h0 | h0
            · obtain ⟨a1, a2⟩ := hneg h0; omega
            · obtain ⟨a1, a2⟩ := hpos h0; omega
          generalize n.n / 2 ^ j = z at hrange
          cases k <;> simp only [IntKind.min, IntKind.max, IntKind.wrap, IntKind.signed, IntKind.bits, if_true, Bool.true_and, Bool.false_and, Bool.false_eq_true, if_false, decide_eq_true_eq, ge_iff_le] at hrange ⊢ <;> first | omega | (split <;> omega)
        split at hv
        · unfold W.shr? at hv
          split at hv
          · cases hv
          · rename_i hm
            cases hv
            refine ⟨_, run _ ?_, h.outInt hd hg _ _⟩
            simp only [binOp, Op.shift, if_neg hm, W.shr, W.of, shr_has]; rfl
        · rename_i hsg
          simp only [Option.some.injEq] at hv; subst hv
          have hm : ¬ m.n < 0 := by
            have := m.h.1
            simp only [IntKind.min] at this
            rw [if_neg hsg] at this
            omega
          refine ⟨_, run _ ?_, h.outInt hd hg _ _⟩
          simp only [binOp, Op.shift, if_neg hm, W.shr, W.of, shr_has]; rfl
      · cases hv
    · rename_i hsh
      split at hv
      · rename_i m' hm'
        obtain ⟨hk, hmm⟩ := castT_some hm'
        cases hk
        simp only at hmm
        subst hmm
        unfold W.bin at hv
        have rem_has : ∀ x y : W k, y.n ≠ 0 → k.wrap (x.n.tmod y.n) = x.n.tmod y.n := fun x y hy => by
          have hh := x.h
          have hb : (x.n.tmod y.n).natAbs ≤ x.n.natAbs := by
            rw [Int.natAbs_tmod]; exact Nat.mod_le _ _
          have hsgn : (0 ≤ x.n → 0 ≤ x.n.tmod y.n) ∧ (x.n ≤ 0 → x.n.tmod y.n ≤ 0) := ⟨fun h => Int.tmod_nonneg _ h, fun h => by
            have := Int.tmod_nonneg (a := -x.n) y.n (by omega)
            rw [Int.neg_tmod] at this
            omega⟩
          generalize x.n.tmod y.n = z at hb hsgn
          have hrange : k.min ≤ z ∧ z ≤ k.max := by
            have h1 := hh.1
            have h2 := hh.2
            have hmin : k.min ≤ 0 := by cases k <;> decide
            have hmax : 0 ≤ k.max := by cases k <;> decide
            omega
          cases k <;> simp only [IntKind.min, IntKind.max, IntKind.wrap, IntKind.signed, IntKind.bits, if_true, Bool.true_and, Bool.false_and, Bool.false_eq_true, if_false, decide_eq_true_eq, ge_iff_le] at hrange ⊢ <;> first | omega | (split <;> omega)
        split at hv
        · simp only [Option.some.injEq] at hv; subst hv
          exact ⟨_, run _ (by simp only [binOp, ne_eq, not_true_eq_false, if_false]; rfl), h.outInt hd hg _ _⟩
        · simp only [Option.some.injEq] at hv; subst hv
          exact ⟨_, run _ (by simp only [binOp, ne_eq, not_true_eq_false, if_false]; rfl), h.outInt hd hg _ _⟩
        · simp only [Option.some.injEq] at hv; subst hv
          exact ⟨_, run _ (by simp only [binOp, ne_eq, not_true_eq_false, if_false]; rfl), h.outInt hd hg _ _⟩
        · unfold W.quo? at hv
          split at hv
          · cases hv
          · rename_i hm0
            cases hv
            exact ⟨_, run _ (by simp only [binOp, Op.intDiv, ne_eq, not_true_eq_false, if_false, if_neg hm0]; rfl), h.outInt hd hg _ _⟩
        · unfold W.rem? at hv
          split at hv
          · cases hv
          · rename_i hm0
            cases hv
            refine ⟨_, run _ ?_, h.outInt hd hg _ _⟩
            simp only [binOp, Op.intDiv, ne_eq, not_true_eq_false, if_false, if_neg hm0, W.rem, W.of, rem_has n m hm0]; rfl
        · simp only [Option.some.injEq] at hv; subst hv
          exact ⟨_, run _ (by simp only [binOp, ne_eq, not_true_eq_false, if_false]; rfl), h.outInt hd hg _ _⟩
        · simp only [Option.some.injEq] at hv; subst hv
          exact ⟨_, run _ (by simp only [binOp, ne_eq, not_true_eq_false, if_false]; rfl), h.outInt hd hg _ _⟩
        · simp only [Option.some.injEq] at hv; subst hv
          exact ⟨_, run _ (by simp only [binOp, ne_eq, not_true_eq_false, if_false]; rfl), h.outInt hd hg _ _⟩
        · simp only [Option.some.injEq] at hv; subst hv
          exact ⟨_, run _ (by simp only [binOp, ne_eq, not_true_eq_false, if_false]; rfl), h.outInt hd hg _ _⟩
        · simp only [Option.some.injEq] at hv; subst hv
          exact ⟨_, run _ (by simp only [binOp, ne_eq, not_true_eq_false, if_false]; rfl), h.outBool hd hg _⟩
        · simp only [Option.some.injEq] at hv; subst hv
          exact ⟨_, run _ (by simp only [binOp, ne_eq, not_true_eq_false, if_false]; rfl), h.outBool hd hg _⟩
        · simp only [Option.some.injEq] at hv; subst hv
          exact ⟨_, run _ (by simp only [binOp, ne_eq, not_true_eq_false, if_false]; rfl), h.outBool hd hg _⟩
        · simp only [Option.some.injEq] at hv; subst hv
          exact ⟨_, run _ (by simp only [binOp, ne_eq, not_true_eq_false, if_false]; rfl), h.outBool hd hg _⟩
        · simp only [Option.some.injEq] at hv; subst hv
          exact ⟨_, run _ (by simp only [binOp, ne_eq, not_true_eq_false, if_false]; rfl), h.outBool hd hg _⟩
        · simp only [Option.some.injEq] at hv; subst hv
          exact ⟨_, run _ (by simp only [binOp, ne_eq, not_true_eq_false, if_false]; rfl), h.outBool hd hg _⟩
        · cases hv
      · cases hv
  · cases hv

theorem look_nilCheck {Y : Operand} {x : AX Γ.X} (ho : o.op = .nilCheck Y) (hx : compX Γ K T0 Y = some x) (hs : eff ans g e o.dst (.nilCheck x) = some us) : Looks N F0 B U w0 P e a w g o us := by
  obtain ⟨R, h1, h2, _⟩ := h.rd hX hx
  have run : ∀ ad, a.eval Y = .pointer (some ad) → (execOp a.eval o).run P w = .ok (.value (.pointer (some ad))) w := fun ad hu => by
    simp only [execOp, ho, hu]; rfl
  simp only [eff] at hs
  split at hs
  · rename_i b q hr
    split at hs
    · rename_i hok
      cases hs
      rw [hr] at h1 h2
      obtain ⟨ad, hu⟩ := ptr_some h1 hok
      have hR := ptr_nil h1
      subst hR
      rw [hu] at h1
      exact ⟨_, run ad hu, h.out hd hg (Hand.ofPure h1 h2) (by cases b <;> trivial)⟩
    · cases hs
  · rename_i T v hr
    cases hs
    rw [hr] at h1 h2
    cases h1 with
    | u h1 =>
      generalize hu : a.eval Y = u at h1
      cases h1 with
      | rptr _ _ b o' cs hb hc hp => exact ⟨_, run _ hu, h.out hd hg (Hand.ofPure (.u (.rptr T v b o' cs hb hc hp)) trivial) trivial⟩
  · cases hs

theorem look_fld {t : TypeId} {Y : Operand} {x : AX Γ.X} {i : Γ.X.ι} {j : Nat} {fs : Array Field} (ho : o.op = .fieldAddr t Y j) (ht : P.underlying t = some (.struct fs)) (hf : fldOk P Γ fs i j = true) (hx : compX Γ K T0 Y = some x)
    (hs : eff ans g e o.dst (.fld i j x) = some us) : Looks N F0 B U w0 P e a w g o us := by
  obtain ⟨f, T, k1, k2, k3, k4, k5⟩ := fldOk_some hf
  obtain ⟨_, k6, _⟩ := tyC_some k4
  obtain ⟨R, h1, h2, _⟩ := h.rd hX hx
  have run : ∀ b o', a.eval Y = .pointer (some ⟨b, o', none⟩) → (execOp a.eval o).run P w = .ok (.value (.pointer (some ⟨b, o' + Γ.X.off i j, none⟩))) w := fun b o' hu => by
    have h0 : Γ.X.sz T ≠ 0 := by omega
    simp only [execOp, ho, Instr.fieldAt, hu]
    simp [run_underlying' ht, k1, Instr.sureAddr, fieldPlace, run_sizeO k6, addr_add, k3, h0]
  simp only [eff] at hs
  split at hs
  · rename_i b q hr
    split at hs
    · rename_i hok
      cases hs
      rw [hr] at h1 h2
      obtain ⟨b', o', hu, hnew⟩ := ptr_step (p := .fld j) (T' := T) h1 hok.1 (by simp only [tyQ, k2]) 
      refine ⟨_, run b' o' hu, h.out hd hg (Hand.ofPure ?_ (by cases b <;> exact h2)) (by cases b <;> trivial)⟩
      have : offQ [.fld j] (.named i : Γ.X.Ty) = Γ.X.off i j := by simp [offQ, k2]
      rw [this] at hnew
      exact hnew
    · cases hs
  · rename_i T1 v hr
    split at hs
    · rename_i v1 hv1
      obtain ⟨rfl, hv1⟩ := castT_some hv1
      simp only at hv1; subst hv1
      split at hs
      · rename_i T' y hy
        cases hs
        rw [hr] at h1
        have hT' := getT_type hy
        rw [k2] at hT'; cases hT'
        cases h1 with
        | u h1 =>
          generalize hu : a.eval Y = u at h1
          cases h1 with
          | rptr _ _ b o' cs hb hc hp =>
            obtain ⟨c1, cx, c2, S1, Sx, S2, e1, e2, e3, e4, _⟩ := (VRep.pure hp).lens hX (q := [.fld j]) (T' := T) (x := y) (by simp [tyQ, k2]) (by simp only [getQ]; rw [hy])
            have hcx : PRep w F T y cx := (e4.toPure rfl).1
            have ho2 : offQ [.fld j] (.named i : Γ.X.Ty) = Γ.X.off i j := by simp [offQ, k2]
            refine ⟨_, run b o' hu, h.out hd hg (Hand.ofPure (.u (.rptr T y b (o' + Γ.X.off i j) cx hb (fun m u' hm => ?_) hcx)) trivial) trivial⟩
            have := hc (Γ.X.off i j + m) u' (by rw [e1, ← ho2, ← e2, List.append_assoc, List.getElem?_append_right (by omega)]; simp [List.getElem?_append_left (List.getElem?_eq_some_iff.1 hm).1, hm])
            rw [Nat.add_assoc]; exact this
      · cases hs
    · cases hs
  · cases hs

theorem look_idxA {t el : TypeId} {Y I : Operand} {x i : AX Γ.X} {n : Nat} {T : Γ.X.Ty} (ho : o.op = .indexAddr t Y I) (ht : P.underlying t = some (.array n el)) (hsz : sizeO P el = some (Γ.X.sz T)) (hx : compX Γ K T0 Y = some x) (hi : compX Γ K T1 I = some i)
    (hs : eff ans g e o.dst (.idxA n T x i) = some us) : Looks N F0 B U w0 P e a w g o us := by
  obtain ⟨R, h1, h2, _⟩ := h.rd hX hx
  have run : ∀ b o' (k : IntKind) (j : Int), a.eval Y = .pointer (some ⟨b, o', none⟩) → a.eval I = .int k j → 0 ≤ j ∧ j < n → (execOp a.eval o).run P w = .ok (.value (.pointer (some ⟨b, o' + j.toNat * Γ.X.sz T, none⟩))) w := fun b o' k j hu hI hj => by
    simp only [execOp, ho, Instr.indexAt, hu, hI]
    simp [asIntOf, run_underlying' ht, Instr.sureAddr, run_sizeO hsz, addr_add, hj.1, hj.2]
  have idx : ∀ {k : IntKind} {z : W k} {m : Nat}, idx? n z = some m → (0 ≤ z.n ∧ z.n < n) ∧ m = z.n.toNat ∧ m < n := fun {k z m} hz => by
    unfold idx? at hz
    split at hz
    · rename_i hc
      cases hz
      exact ⟨hc, rfl, by omega⟩
    · cases hz
  simp only [eff] at hs
  split at hs
  · rename_i b q k z oz hr hrz
    split at hs
    · rename_i hok
      obtain ⟨m, hm, hs⟩ := Option.bind_eq_some_iff.1 hs
      cases hs
      obtain ⟨m1, rfl, m3⟩ := idx hm
      rw [hr] at h1 h2
      obtain ⟨b', o', hu, hnew⟩ := ptr_step (p := .idx z.n.toNat) (T' := T) h1 hok (by simp only [tyQ, m3, if_true])
      refine ⟨_, run b' o' _ _ hu (h.rdInt hX hi hrz) m1, h.out hd hg (Hand.ofPure ?_ (by cases b <;> exact h2)) (by cases b <;> trivial)⟩
      have : offQ [.idx z.n.toNat] (.arr n T : Γ.X.Ty) = z.n.toNat * Γ.X.sz T := by simp [offQ]
      rw [this] at hnew
      exact hnew
    · cases hs
  · rename_i T1 v k z oz hr hrz
    split at hs
    · rename_i v1 hv1
      obtain ⟨rfl, hv1⟩ := castT_some hv1
      simp only at hv1; subst hv1
      obtain ⟨m, hm, hs⟩ := Option.bind_eq_some_iff.1 hs
      cases hs
      obtain ⟨m1, rfl, m3⟩ := idx hm
      rw [hr] at h1
      cases h1 with
      | u h1 =>
        generalize hu : a.eval Y = u at h1
        cases h1 with
        | rptr _ _ b o' cs hb hc hp =>
          obtain ⟨c1, cx, c2, S1, Sx, S2, e1, e2, e3, e4, _⟩ := (VRep.pure hp).lens hX (q := [.idx z.n.toNat]) (T' := T) (x := v.l.getD z.n.toNat (Γ.X.zero T)) (by simp [tyQ, m3]) rfl
          have hcx : PRep w F T _ cx := (e4.toPure rfl).1
          have ho2 : offQ [.idx z.n.toNat] (.arr n T : Γ.X.Ty) = z.n.toNat * Γ.X.sz T := by simp [offQ]
          refine ⟨_, run b o' _ _ hu (h.rdInt hX hi hrz) m1, h.out hd hg (Hand.ofPure (.u (.rptr T _ b (o' + z.n.toNat * Γ.X.sz T) cx hb (fun m u' hm => ?_) hcx)) trivial) trivial⟩
          have := hc (z.n.toNat * Γ.X.sz T + m) u' (by rw [e1, ← ho2, ← e2, List.append_assoc, List.getElem?_append_right (by omega)]; simp [List.getElem?_append_left (List.getElem?_eq_some_iff.1 hm).1, hm])
          rw [Nat.add_assoc]; exact this
    · cases hs
  · cases hs
end looks
end
end
end Go.A2
