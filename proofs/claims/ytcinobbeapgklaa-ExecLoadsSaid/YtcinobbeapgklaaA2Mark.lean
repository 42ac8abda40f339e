/- YtcinobbeapgklaaA2Mark: runs with marks stand for runs with the marks' code in place; loops; tables of what is known of functions. No statement of the seat is proved here. -/
import Derived.Test.YtcinobbeapgklaaA2Draw2
namespace Go.A2
section
variable {X : Tab} {C : CK X} {r : Ret X}

theorem optK_mono {α R : Type} {r : R} {o : Option α} {k k' : α → Option R} (h : optK o k = some r) (hk : ∀ x, k x = some r → k' x = some r) : optK o k' = some r := by
  cases o with
  | none => cases h
  | some x => exact hk x h
theorem cond_mono {R : Type} {r : R} {b : Bool} {x y x' y' : Option R} (h : cond b x y = some r) (h1 : b = true → x = some r → x' = some r) (h2 : b = false → y = some r → y' = some r) : cond b x' y' = some r := by
  cases b
  · exact h2 rfl h
  · exact h1 rfl h
/-- A callee's answer goes on in whatever comes behind it. -/
def CMono (C : CK X) : Prop := ∀ f args k k' r, C f args k = some r → (∀ x, k x = some r → k' x = some r) → C f args k' = some r

theorem binK_mono {o : BinOp} {x y : AV X} {k k' : AV X → Option (Ret X)} (h : binK o x y k = some r) (hk : ∀ x, k x = some r → k' x = some r) : binK o x y k' = some r := by
  have key : ∀ {ka kb : IntKind} (a : W ka) (b : W kb) (oa ob : Own), binK o (.val (.int ka) a oa) (.val (.int kb) b ob) k = some r → binK o (.val (.int ka) a oa) (.val (.int kb) b ob) k' = some r := fun {ka kb} a b oa ob h => by
    have fin : ∀ (F : (AV X → Option (Ret X)) → W ka → Option (Ret X)), (∀ z, F k z = some r → F k' z = some r) → (match castT (X := X) (T := .int kb) b (.int ka) with | some b => F k b | none => none) = some r →
        (match castT (X := X) (T := .int kb) b (.int ka) with | some b => F k' b | none => none) = some r := fun F hF h => by
      generalize castT (X := X) (T := .int kb) b (.int ka) = c at h ⊢
      cases c with
      | none => cases h
      | some b' => exact hF _ h
    have sh : ∀ (c : Bool) (x x' y y' : Option (Ret X)), (x = some r → x' = some r) → (y = some r → y' = some r) → (if c then x else y) = some r → (if c then x' else y') = some r := fun c x x' y y' hx hy h => by
      cases c
      · exact hy h
      · exact hx h
    have none_ : (none : Option (Ret X)) = some r → binK o (.val (.int ka) a oa) (.val (.int kb) b ob) k' = some r := fun h => by cases h
    cases o
    case shl => exact sh kb.signed _ _ _ _ (fun h => optK_mono h fun _ => hk _) (fun h => hk _ h) h
    case shr => exact sh kb.signed _ _ _ _ (fun h => optK_mono h fun _ => hk _) (fun h => hk _ h) h
    case quo => exact fin (fun k z => optK (W.quo? a z) fun z => k (.val (.int ka) z .no)) (fun z h => optK_mono h fun _ => hk _) h
    case rem => exact fin (fun k z => optK (W.rem? a z) fun z => k (.val (.int ka) z .no)) (fun z h => optK_mono h fun _ => hk _) h
    all_goals exact fin (fun k z => optK (W.bin (X := X) _ a z) k) (fun z h => optK_mono h hk) h
  cases x with
  | val T a oa => cases T with
    | int ka => cases y with
      | val T' b ob => cases T' with
        | int kb => exact key a b oa ob h
        | _ => cases h
      | _ => cases h
    | _ => cases h
  | _ => cases h

theorem oNatK_mono {e : Env X} {x : Option (AX X)} {k k' : Option Nat → Option (Ret X)} (h : oNatK e x k = some r) (hk : ∀ n, k n = some r → k' n = some r) : oNatK e x k' = some r := by
  cases x with
  | none => exact hk _ h
  | some x =>
    have h : natK (Go.A2.rd e x) k = some r := h
    show natK (Go.A2.rd e x) k' = some r
    generalize Go.A2.rd e x = y at h ⊢
    cases y with
    | val T v o => cases T with
      | int kk => exact optK_mono (o := nat? v) h fun _ => hk _
      | _ => cases h
    | _ => cases h
theorem subK_mono {T : X.Ty} {v : X.den T} {o : Own} {lo hi mx : Option Nat} {k k' : AV X → Option (Ret X)} (h : subK T v o lo hi mx k = some r) (hk : ∀ n, k n = some r → k' n = some r) : subK T v o lo hi mx k' = some r := by
  cases T with
  | str =>
    cases mx with
    | none => exact optK_mono (o := Str.sub? v (lo.getD 0) (hi.getD (Str.l v).length)) h fun _ => hk _
    | some _ => cases h
  | slice b t =>
    cases mx with
    | none => exact optK_mono (o := Sl.sub? (b := b) (α := A2.den X.D t) v (lo.getD 0) (hi.getD (Sl.l (b := b) (α := A2.den X.D t) v).length)) h fun _ => hk _
    | some m =>
      cases hi with
      | none => cases h
      | some hh => exact optK_mono (o := Sl.sub3? (b := b) (α := A2.den X.D t) v (lo.getD 0) hh m) h fun _ => hk _
  | _ => cases h

theorem effK_mono (hC : CMono C) {g : Nat} {e : Env X} {d : Option Nat} {op : AOp X} {k k' : Env X → Option (Ret X)} (h : effK C g e d op k = some r) (hk : ∀ e1, k e1 = some r → k' e1 = some r) : effK C g e d op k' = some r := by
  cases op with
  | pick c a b =>
    simp only [effK] at h
    split at h
    · rename_i z o hc
      simp only [effK, hc]
      refine cond_mono h (fun _ h => ?_) (fun _ h => ?_)
      · split at h
        · rename_i ha; exact hk _ h
        · cases h
      · split at h
        · rename_i ha; exact hk _ h
        · cases h
    · cases h
  | idxA n t x i =>
    simp only [effK] at h
    split at h
    · rename_i h1 h2
      split at h
      · rename_i hc; simp only [effK, h1, h2, if_pos hc]; exact optK_mono h fun _ => hk _
      · cases h
    · rename_i h1 h2
      split at h
      · rename_i hc; simp only [effK, h1, h2, hc]; exact optK_mono h fun _ => hk _
      · cases h
    · cases h
  | idxS b t x i =>
    simp only [effK] at h
    split at h
    · rename_i h1 h2
      split at h
      · rename_i hc
        split at h
        · rename_i hq; simp only [effK, h1, h2, hc, if_pos hq]; exact optK_mono h fun _ => hk _
        · cases h
      · cases h
    · rename_i h1 h2
      split at h
      · rename_i ho
        split at h
        · rename_i hc; simp only [effK, h1, h2, if_pos ho, hc]; exact optK_mono h fun _ => hk _
        · cases h
      · cases h
    · cases h
  | idxStr x i =>
    simp only [effK] at h
    split at h
    · rename_i h1 h2
      simp only [effK, h1, h2]
      exact optK_mono h fun _ => hk _
    · cases h
  | idxV n t x i =>
    simp only [effK] at h
    split at h
    · rename_i h1 h2
      split at h
      · rename_i ho
        split at h
        · rename_i hc; simp only [effK, h1, h2, if_pos ho, hc]; exact optK_mono h fun _ => hk _
        · cases h
      · cases h
    · cases h
  | bin o x y =>
    simp only [effK] at h ⊢
    exact binK_mono h fun _ => hk _
  | append b t x y =>
    simp only [effK] at h
    split at h
    · rename_i b1 t1 l1 u z h1
      split at h
      · rename_i h2 h3
        split at h
        · rename_i h4
          simp only [effK, h1, h2, h3, h4]
          cases z with
          | false => exact optK_mono h fun _ => hk _
          | true => exact cond_mono h (fun _ h => optK_mono h fun _ => hk _) fun _ => hk _
        · cases h
      · cases h
    · cases h
  | makeSlice b t l c =>
    simp only [effK] at h
    split at h
    · rename_i h1 h2
      simp only [effK, h1, h2]
      exact optK_mono h fun _ => hk _
    · cases h
  | slice T x lo hi mx =>
    simp only [effK] at h
    split at h
    · rename_i h1
      split at h
      · rename_i h5
        split at h
        · rename_i h6; simp only [effK, h1, h5, if_pos h6]; exact oNatK_mono h fun _ h => oNatK_mono h fun _ h => oNatK_mono h fun _ h => subK_mono h fun _ => hk _
        · cases h
      · cases h
    · cases h
  | call f args =>
    simp only [effK] at h
    split at h
    · rename_i h1
      simp only [effK, h1]
      exact hC _ _ _ _ _ h fun _ hx => optK_mono hx fun _ => hk _
    · cases h
  | callv x args =>
    simp only [effK] at h
    split at h
    · rename_i h1
      simp only [effK, h1]
      exact hC _ _ _ _ _ h fun _ hx => optK_mono hx fun _ => hk _
    · cases h
  | _ => simp only [effK] at h ⊢; exact optK_mono h fun _ => hk _

theorem stepK_mono (hC : CMono C) {g : Nat} {e : Env X} {o : AOpr X} {k k' : Env X → Option (Ret X)} (h : stepK C g e o k = some r) (hk : ∀ e1, k e1 = some r → k' e1 = some r) : stepK C g e o k' = some r := by
  obtain ⟨dst, op, guard⟩ := o
  have key : ∀ (x : AV X) (A A' B B' D D' : Option (Ret X)), (A = some r → A' = some r) → (B = some r → B' = some r) → (D = some r → D' = some r) → (match x with | .val .bool b _ => cond b A B | .tup [] => D | _ => none) = some r → (match x with | .val .bool b _ => cond b A' B' | .tup [] => D' | _ => none) = some r := fun x A A' B B' D D' hA hB hD h => by
    cases x with
    | val T v ov => cases T with
      | bool => exact cond_mono h (fun _ => hA) fun _ => hB
      | _ => cases h
    | tup l => cases l with
      | nil => exact hD h
      | cons _ _ => cases h
    | _ => cases h
  cases guard with
  | none => exact effK_mono hC h hk
  | some q =>
    obtain ⟨s, want⟩ := q
    cases want with
    | true => exact key (e s) _ _ _ _ _ _ (fun h => effK_mono hC h hk) (hk _) (hk _) h
    | false => exact key (e s) _ _ _ _ _ _ (hk _) (fun h => effK_mono hC h hk) (hk _) h
theorem runK_mono (hC : CMono C) : ∀ {l : List (AOpr X)} {g : Nat} {e : Env X} {k k' : Env X → Option (Ret X)}, runK C g l e k = some r → (∀ e1, k e1 = some r → k' e1 = some r) → runK C g l e k' = some r
  | [], g, e, k, k', h, hk => hk _ h
  | o :: l, g, e, k, k', h, hk => by
    simp only [runK] at h ⊢
    exact stepK_mono hC h fun e1 h1 => runK_mono hC h1 hk
theorem drawK_mono (hC : CMono C) : ∀ {l : List (AOpr X)} {g : Nat} {ms : List Nat} {fs : List Foot} {e : Env X} {k k' : Env X → Option (Ret X)}, drawK C g l ms fs e k = some r → (∀ e1, k e1 = some r → k' e1 = some r) → drawK C g l ms fs e k' = some r
  | [], g, ms, fs, e, k, k', h, hk => hk _ h
  | o :: l, g, ms, fs, e, k, k', h, hk => by
    simp only [drawK] at h ⊢
    split at h
    · rename_i ha
      rw [if_pos ha]
      exact stepK_mono hC h fun e1 h1 => drawK_mono hC h1 hk
    · cases h
theorem iterK_mono {f f' : Env X → Kon X → Option (Ret X)} (hf : ∀ e k k', f e k = some r → (∀ x e1, k x e1 = some r → k' x e1 = some r) → f' e k' = some r) : ∀ {n : Nat} {e : Env X} {k k' : Kon X}, iterK f n e k = some r → (∀ x e1, k x e1 = some r → k' x e1 = some r) → iterK f' n e k' = some r
  | 0, e, k, k', h, hk => by simp [iterK] at h
  | n + 1, e, k, k', h, hk => by
    simp only [iterK] at h ⊢
    refine hf _ _ _ h fun x e1 hx => ?_
    cases x with
    | normal => exact iterK_mono hf hx hk
    | exit id => exact hk _ _ hx
    | ret => exact hk _ _ hx

/-- What is known at the marks is right. -/
def MarksOk (C : CK X) (L : LK X) (K : List Nat) (N : Nat) : ACode X → Prop
  | .mark i D a => ∀ e k k' r, L i (marked D e) k = some r → (∀ x e1, k x e1 = some r → k' x e1 = some r) → execT C K N a (marked D e) k' = some r
  | .seq a b => MarksOk C L K N a ∧ MarksOk C L K N b
  | .cond _ a b => MarksOk C L K N a ∧ MarksOk C L K N b
  | .block _ a => MarksOk C L K N a
  | .loop a => MarksOk C L K N a
  | .trim _ a => MarksOk C L K N a
  | _ => True

theorem execK_T (hC : CMono C) {L : LK X} {K : List Nat} {N : Nat} : ∀ {a : ACode X} {e : Env X} {k k' : Kon X}, MarksOk C L K N a → execK C L K N a e k = some r → (∀ x e1, k x e1 = some r → k' x e1 = some r) → execT C K N a e k' = some r := by
  intro a
  induction a with
  | skip => intro e k k' _ h hk; exact hk _ _ h
  | region ops => intro e k k' _ h hk; exact runK_mono hC h fun _ => hk _ _
  | draw ops ms => intro e k k' _ h hk; exact drawK_mono hC h fun _ => hk _ _
  | seq a b iha ihb =>
    intro e k k' hm h hk
    refine iha hm.1 h fun x e1 hx => ?_
    cases x with
    | normal => exact ihb hm.2 hx hk
    | exit id => exact hk _ _ hx
    | ret => exact hk _ _ hx
  | cond c a b iha ihb =>
    intro e k k' hm h hk
    simp only [execK, execT] at h ⊢
    split at h
    · rename_i hb; simp only [hb]; exact cond_mono h (fun _ h => iha hm.1 h hk) fun _ h => ihb hm.2 h hk
    · cases h
  | block id a ih =>
    intro e k k' hm h hk
    refine ih hm h fun x e1 hx => ?_
    cases x with
    | normal => exact hk _ _ hx
    | exit j =>
      simp only [] at hx ⊢
      split at hx
      · rename_i hj; rw [if_pos hj]; exact hk _ _ hx
      · rename_i hj; rw [if_neg hj]; exact hk _ _ hx
    | ret => exact hk _ _ hx
  | loop a ih =>
    intro e k k' hm h hk
    exact iterK_mono (f := execK C L K N a) (f' := execT C K N a) (fun e k k' h hk => ih hm h hk) h hk
  | exit id => intro e k k' _ h hk; exact hk _ _ h
  | ret => intro e k k' _ h hk; exact hk _ _ h
  | mark i D a _ => intro e k k' hm h hk; exact hm e k k' r h hk
  | trim D a ih => intro e k k' hm h hk; exact ih hm h fun x e1 hx => hk _ _ hx
  | bad => intro e k k' _ h hk; cases h

theorem runFnK_T (hC : CMono C) {L : LK X} {N : Nat} {af : AFn X} {args : List (AV X)} {k : Ret X → Option (Ret X)} (hm : MarksOk C L af.keep N af.body) (h : runFnK C L N af args k = some r) : runFnT C N af args k = some r := by
  unfold runFnK at h
  unfold runFnT
  split at h
  · rename_i hl
    rw [if_pos hl]
    exact execK_T hC hm h fun _ _ h => h
  · cases h

/-- What is known of a call: an answer, and how it is handed back. -/
structure Ans (X : Tab) : Type 1 where
  R : Type
  o : Option R
  enc : R → Ret X
def callC (t : Nat → List (AV X) → Option (Ans X)) : CK X := fun f args k => match t f args with
  | some A => optK A.o fun x => k (A.enc x)
  | none => none
theorem callC_mono (t : Nat → List (AV X) → Option (Ans X)) : CMono (callC t) := by
  intro f args k k' r h hk
  unfold callC at h ⊢
  split at h
  · exact optK_mono h fun _ => hk _
  · cases h
def TabOkC (P : Program) (t : Nat → List (AV X) → Option (Ans X)) : Prop := ∀ f args A x, t f args = some A → A.o = some x → Spec P f args (A.enc x)
theorem callC_sound {P : Program} {t : Nat → List (AV X) → Option (Ans X)} (ht : TabOkC P t) : CSound P (callC t) := by
  intro f args k r h
  unfold callC at h
  split at h
  · rename_i A hA
    obtain ⟨x, h1, h2⟩ := optK_some h
    exact ⟨_, ht f args A x hA h1, h2⟩
  · cases h

/-- Rounds. -/
inductive Rnd (α β : Type) where
  | next (a : α)
  | out (b : β)
def iter {α β : Type} (f : α → Option (Rnd α β)) (n : Nat) : α → Option β :=
  Nat.rec (fun _ => none) (fun _ ih a => match f a with
    | some (.next a') => ih a'
    | some (.out b) => some b
    | none => none) n
theorem iter_zero {α β : Type} (f : α → Option (Rnd α β)) (a : α) : iter f 0 a = none := rfl
theorem iter_succ {α β : Type} (f : α → Option (Rnd α β)) (n : Nat) (a : α) : iter f (n + 1) a = match f a with
    | some (.next a') => iter f n a'
    | some (.out b) => some b
    | none => none := rfl
/-- A loop's code, where one round is known. -/
theorem iter_ok (hC : CMono C) {L : LK X} {K : List Nat} {N : Nat} {i : Nat} {D D' : List (Nat × Sh)} {b : ACode X} (hm : MarksOk C L K N b) {α β : Type} {enc : α → Env X} {out : β → AExit × Env X} {f : α → Option (Rnd α β)}
    (hstep : ∀ a (kn : Env X → Option (Ret X)) (kx : AExit → Env X → Option (Ret X)), execK C L K N b (enc a) (fun x e1 => match x with | .normal => kn (marked D e1) | x => kx x (marked D' e1)) =
      optK (f a) fun q => match q with | .next a' => kn (enc a') | .out o => kx (out o).1 (out o).2) :
    ∀ {n : Nat} {e : Env X} {a : α} {k k' : Kon X} {o : β}, marked D e = enc a → iter f n a = some o → k (out o).1 (out o).2 = some r → (∀ x e1, k x e1 = some r → k' x e1 = some r) →
      iterK (execT C K N (.mark i D b)) n e (fun x e1 => k' x (marked D' e1)) = some r
  | 0, e, a, k, k', o, he, h, hk, hkk => by rw [iter_zero] at h; cases h
  | n + 1, e, a, k, k', o, he, h, hk, hkk => by
    rw [iter_succ] at h
    simp only [iterK, execT]
    rw [he]
    split at h
    · rename_i a' hf
      classical
      have := hstep a (fun e1 => if e1 = enc a' then some r else none) (fun _ _ => none)
      rw [hf] at this
      simp only [optK, if_true] at this
      refine execK_T hC hm this fun x e1 hx => ?_
      cases x with
      | normal =>
        simp only [] at hx ⊢
        split at hx
        · rename_i hq
          exact iter_ok (i := i) hC hm hstep hq h hk hkk
        · cases hx
      | exit id => cases hx
      | ret => cases hx
    · rename_i o' hf
      simp only [Option.some.injEq] at h; subst h
      have := hstep a (fun _ => none) k
      rw [hf] at this
      simp only [optK] at this
      rw [hk] at this
      refine execK_T hC hm this fun x e1 hx => ?_
      cases x with
      | normal => cases hx
      | exit id => exact hkk _ _ hx
      | ret => exact hkk _ _ hx
    · cases h
/-- A mark's code, where its run is known. -/
theorem join_ok (hC : CMono C) {L : LK X} {K : List Nat} {N : Nat} {D : List (Nat × Sh)} {b : ACode X} (hm : MarksOk C L K N b) {α β : Type} {enc : α → Env X} {out : β → AExit × Env X} {f : α → Option β}
    (hstep : ∀ a (kx : AExit → Env X → Option (Ret X)), execK C L K N b (enc a) kx = optK (f a) fun o => kx (out o).1 (out o).2)
    {e : Env X} {a : α} {k k' : Kon X} (he : marked D e = enc a) (h : optK (f a) (fun o => k (out o).1 (out o).2) = some r) (hkk : ∀ x e1, k x e1 = some r → k' x e1 = some r) :
      execT C K N b (marked D e) k' = some r := by
  rw [he]
  exact execK_T hC hm ((hstep a k).trans h) hkk
end
end Go.A2
