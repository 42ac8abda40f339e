/- YtcinobbeapgklaaA2Tab: what is known at marks and of functions, as tables. No statement of the seat is proved here. -/
import Derived.Test.YtcinobbeapgklaaA2Mark
namespace Go.A2
mutual
def Own.eqb : Own → Own → Bool
  | .no, .no => true
  | .full, .full => true
  | .yes g, .yes g' => g == g'
  | .dead, .dead => true
  | .st l, .st l' => Own.eqbL l l'
  | _, _ => false
def Own.eqbL : List Own → List Own → Bool
  | [], [] => true
  | x :: l, y :: l' => x.eqb y && Own.eqbL l l'
  | _, _ => false
end
mutual
theorem Own.eqb_eq : ∀ {x y : Own}, x.eqb y = true → x = y
  | .no, y, h => by cases y <;> first | rfl | cases h
  | .full, y, h => by cases y <;> first | rfl | cases h
  | .yes g, y, h => by cases y <;> first | (simp [Own.eqb] at h; rw [h]) | cases h
  | .dead, y, h => by cases y <;> first | rfl | cases h
  | .st l, y, h => by
    cases y with
    | st l' => simp only [Own.eqb] at h; rw [Own.eqbL_eq h]
    | _ => cases h
theorem Own.eqbL_eq : ∀ {x y : List Own}, Own.eqbL x y = true → x = y
  | [], y, h => by cases y <;> first | rfl | cases h
  | x :: l, y, h => by
    cases y with
    | nil => cases h
    | cons y l' =>
      simp only [Own.eqbL, Bool.and_eq_true] at h
      rw [Own.eqb_eq h.1, Own.eqbL_eq h.2]
end
def eqPS : List PS → List PS → Bool
  | [], [] => true
  | .fld j :: q, .fld k :: r => j == k && eqPS q r
  | _, _ => false
theorem eqPS_eq : ∀ {q r : List PS}, eqPS q r = true → q = r
  | [], [], _ => rfl
  | .fld j :: q, .fld k :: r, h => by
    simp only [eqPS, Bool.and_eq_true, beq_iff_eq] at h
    rw [h.1, eqPS_eq h.2]
  | [], .fld _ :: _, h => by cases h
  | [], .idx _ :: _, h => by cases h
  | .fld _ :: _, [], h => by cases h
  | .idx _ :: _, [], h => by cases h
  | .fld _ :: _, .idx _ :: _, h => by cases h
  | .idx _ :: _, .fld _ :: _, h => by cases h
  | .idx _ :: _, .idx _ :: _, h => by cases h
section
variable {X : Tab}
/-- What a slot holds, without its data. -/
inductive Sk (X : Tab) where
  | undef
  | val (T : X.Ty) (o : Own)
  | box (T : X.Ty) (o : Own)
  | rptr (T : X.Ty)
  | ref (s : Nat) (q : List PS)
  | ptr (s : Nat) (q : List PS)
  | fn (f : Nat) (a b : List (Sk X))
mutual
def Sk.D : Sk X → Type
  | .val T _ => X.den T
  | .box T _ => X.den T
  | .rptr T => X.den T
  | .fn _ a b => SkA a × SkA b
  | _ => Unit
def SkA : List (Sk X) → Type
  | [] => Unit
  | k :: l => k.D × SkA l
end
mutual
def Sk.put : (k : Sk X) → k.D → AV X
  | .val T o, v => .val T v o
  | .box T o, v => .box 0 T v o
  | .rptr T, v => .rptr T v
  | .ref s q, _ => .ref s q 0
  | .ptr s q, _ => .ptr (.box s 0) q
  | .fn f a b, v => .fn f (SkA.put a v.1) (SkA.put b v.2)
  | .undef, _ => .undef
def SkA.put : (l : List (Sk X)) → SkA l → List (AV X)
  | [], _ => []
  | k :: l, v => k.put v.1 :: SkA.put l v.2
end
def asVal (T : X.Ty) (o : Own) : AV X → Option (X.den T)
  | .val _ v o' => if o.eqb o' then castT v T else none
  | _ => none
def asBox (T : X.Ty) (o : Own) : AV X → Option (X.den T)
  | .box g _ v o' => if g == 0 && o.eqb o' then castT v T else none
  | _ => none
def asRptr (T : X.Ty) : AV X → Option (X.den T)
  | .rptr _ v => castT v T
  | _ => none
def asRef (s : Nat) (q : List PS) : AV X → Option Unit
  | .ref s' q' g => if g == 0 && s == s' && eqPS q q' then some () else none
  | _ => none
def asPtr (s : Nat) (q : List PS) : AV X → Option Unit
  | .ptr (.box s' g) q' => if g == 0 && s == s' && eqPS q q' then some () else none
  | _ => none
def asFn (f : Nat) : AV X → Option (List (AV X) × List (AV X))
  | .fn f' a b => if f == f' then some (a, b) else none
  | _ => none
def asUndef : AV X → Option Unit
  | .undef => some ()
  | _ => none
def both {α β : Type} (x : Option α) (y : Option β) : Option (α × β) :=
  match x, y with
  | some a, some b => some (a, b)
  | _, _ => none
theorem both_some {α β : Type} {x : Option α} {y : Option β} {d : α × β} (h : both x y = some d) : x = some d.1 ∧ y = some d.2 := by
  cases x with
  | none => cases h
  | some a => cases y with
    | none => cases h
    | some b => cases h; exact ⟨rfl, rfl⟩
mutual
def Sk.get : (k : Sk X) → AV X → Option k.D
  | .val T o, x => asVal T o x
  | .box T o, x => asBox T o x
  | .rptr T, x => asRptr T x
  | .ref s q, x => asRef s q x
  | .ptr s q, x => asPtr s q x
  | .fn f a b, x => match asFn f x with
    | some y => both (SkA.get a y.1) (SkA.get b y.2)
    | none => none
  | .undef, x => asUndef x
def SkA.get : (l : List (Sk X)) → List (AV X) → Option (SkA l)
  | [], xs => match xs with
    | [] => some ()
    | _ :: _ => none
  | k :: l, xs => match xs with
    | [] => none
    | x :: xs => both (k.get x) (SkA.get l xs)
end
theorem asVal_some {T : X.Ty} {o : Own} {x : AV X} {d : X.den T} (h : asVal T o x = some d) : x = .val T d o := by
  cases x with
  | val T' v o' =>
    unfold asVal at h
    simp only [] at h
    split at h
    · rename_i ho
      obtain ⟨rfl, h2⟩ := castT_some h
      simp only at h2; subst h2
      rw [Own.eqb_eq ho]
    · cases h
  | _ => cases h
theorem asBox_some {T : X.Ty} {o : Own} {x : AV X} {d : X.den T} (h : asBox T o x = some d) : x = .box 0 T d o := by
  cases x with
  | box g T' v o' =>
    unfold asBox at h
    simp only [] at h
    split at h
    · rename_i ho
      simp only [Bool.and_eq_true, beq_iff_eq] at ho
      obtain ⟨rfl, h2⟩ := castT_some h
      simp only at h2; subst h2
      rw [ho.1, Own.eqb_eq ho.2]
    · cases h
  | _ => cases h
theorem asRptr_some {T : X.Ty} {x : AV X} {d : X.den T} (h : asRptr T x = some d) : x = .rptr T d := by
  cases x with
  | rptr T' v =>
    obtain ⟨rfl, h2⟩ := castT_some (show castT v T = some d from h)
    simp only at h2; subst h2; rfl
  | _ => cases h
theorem asRef_some {s : Nat} {q : List PS} {x : AV X} {d : Unit} (h : asRef s q x = some d) : x = .ref s q 0 := by
  cases x with
  | ref s' q' g =>
    unfold asRef at h
    simp only [] at h
    split at h
    · rename_i hc
      simp only [Bool.and_eq_true, beq_iff_eq] at hc
      rw [hc.1.1, hc.1.2, eqPS_eq hc.2]
    · cases h
  | _ => cases h
theorem asPtr_some {s : Nat} {q : List PS} {x : AV X} {d : Unit} (h : asPtr s q x = some d) : x = .ptr (.box s 0) q := by
  cases x with
  | ptr b q' =>
    cases b with
    | box s' g =>
      unfold asPtr at h
      simp only [] at h
      split at h
      · rename_i hc
        simp only [Bool.and_eq_true, beq_iff_eq] at hc
        rw [hc.1.1, hc.1.2, eqPS_eq hc.2]
      · cases h
    | elem => cases h
  | _ => cases h
theorem asFn_some {f : Nat} {x : AV X} {d : List (AV X) × List (AV X)} (h : asFn f x = some d) : x = .fn f d.1 d.2 := by
  cases x with
  | fn f' a b =>
    unfold asFn at h
    simp only [] at h
    split at h
    · rename_i hc
      simp only [beq_iff_eq] at hc
      cases h; rw [hc]
    · cases h
  | _ => cases h
theorem asUndef_some {x : AV X} {d : Unit} (h : asUndef x = some d) : x = .undef := by
  cases x with
  | undef => rfl
  | _ => cases h
mutual
theorem Sk.get_put : ∀ {k : Sk X} {x : AV X} {d : k.D}, k.get x = some d → x = k.put d
  | .val T o, x, d, h => asVal_some h
  | .box T o, x, d, h => asBox_some h
  | .rptr T, x, d, h => asRptr_some h
  | .ref s q, x, d, h => asRef_some h
  | .ptr s q, x, d, h => asPtr_some h
  | .fn f a b, x, d, h => by
    have h : (match asFn f x with
      | some y => both (SkA.get a y.1) (SkA.get b y.2)
      | none => none) = some d := h
    split at h
    · rename_i y hy
      obtain ⟨h1, h2⟩ := both_some h
      rw [asFn_some hy, SkA.get_put h1, SkA.get_put h2]; rfl
    · cases h
  | .undef, x, d, h => asUndef_some h
theorem SkA.get_put : ∀ {l : List (Sk X)} {xs : List (AV X)} {d : SkA l}, SkA.get l xs = some d → xs = SkA.put l d
  | [], xs, d, h => by
    cases xs with
    | nil => rfl
    | cons x xs => cases h
  | k :: l, xs, d, h => by
    cases xs with
    | nil => cases h
    | cons x xs =>
      obtain ⟨h1, h2⟩ := both_some (show both (k.get x) (SkA.get l xs) = some d from h)
      rw [Sk.get_put h1, SkA.get_put h2]; rfl
end

/-- Slots and what they hold. -/
abbrev SkL (X : Tab) := List (Nat × Sk X)
def SkL.ks (l : SkL X) : List (Sk X) := l.map Prod.snd
def SkL.D (l : SkL X) : Type := SkA l.ks
def SkL.env (l : SkL X) (d : l.D) : Env X := mkE ((l.map Prod.fst).zip (SkA.put l.ks d))
def SkL.get (l : SkL X) (e : Env X) : Option l.D := SkA.get l.ks (l.map fun q => e q.1)
theorem SkL.get_env {l : SkL X} {e e0 : Env X} (he : e = mkE (l.map fun q => (q.1, norm e0 (e0 q.1)))) {d : l.D} (hn : nodupB (l.map (·.1)) = true) (h : l.get e = some d) : e = l.env d := by
  have h1 := SkA.get_put (l := l.ks) (xs := l.map fun q : Nat × Sk X => e q.1) (d := d) h
  unfold SkL.env
  rw [← h1]
  clear h1
  have gen : ∀ (l : SkL X) (f : Nat → AV X), nodupB (l.map (·.1)) = true → ∀ (q : Nat × Sk X), q ∈ l → mkE (l.map fun q => (q.1, f q.1)) q.1 = f q.1 := fun l f => by
    induction l with
    | nil => intro _ q hq; cases hq
    | cons x l ih =>
      intro hn q hq
      simp only [List.map_cons, nodupB, Bool.and_eq_true] at hn
      simp only [List.map_cons, mkE]
      by_cases hx : q.1 = x.1
      · rw [if_pos hx, hx]
      · rw [if_neg hx]
        rcases List.mem_cons.1 hq with rfl | hq
        · exact absurd rfl hx
        · exact ih hn.2 q hq
  have hat : ∀ q ∈ l, e q.1 = norm e0 (e0 q.1) := fun q hq => by
    have := gen l (fun s => norm e0 (e0 s)) hn q hq
    rw [← he] at this; exact this
  have hz : ((l.map Prod.fst).zip (l.map fun q => e q.1)) = l.map fun q => (q.1, norm e0 (e0 q.1)) := by
    clear h gen hn he d
    induction l with
    | nil => rfl
    | cons x l ih =>
      simp only [List.map_cons, List.zip_cons_cons]
      rw [ih (fun q hq => hat q (List.mem_cons_of_mem _ hq)), hat x (List.mem_cons_self ..)]
  rw [hz]; exact he

/-- The ways out of a mark's code: how, and what the slots hold then. -/
abbrev Outs (X : Tab) := List (AExit × SkL X)
def OutT : Outs X → Type
  | [] => Empty
  | [x] => x.2.D
  | x :: y :: l => x.2.D ⊕ OutT (y :: l)
def outK {S : Type} : (l : Outs X) → OutT l → (AExit → Env X → Option S) → Option S
  | [x], p, k => k x.1 (x.2.env p)
  | x :: y :: l, o, k => sumK o (fun p => k x.1 (x.2.env p)) (fun o' => outK (y :: l) o' k)
def outE : (l : Outs X) → OutT l → AExit × Env X
  | [x], p => (x.1, x.2.env p)
  | x :: _ :: _, .inl p => (x.1, x.2.env p)
  | _ :: y :: l, .inr o => outE (y :: l) o
theorem outK_eq {S : Type} : ∀ (l : Outs X) (o : OutT l) (k : AExit → Env X → Option S), outK l o k = k (outE l o).1 (outE l o).2
  | [], o, k => nomatch (show Empty from o)
  | [x], p, k => rfl
  | x :: y :: l, .inl p, k => rfl
  | x :: y :: l, .inr o, k => outK_eq (y :: l) o k

structure MarkK (X : Tab) where
  sk : SkL X
  outs : Outs X
  f : sk.D → Option (OutT outs)
def markL (t : Nat → Option (MarkK X)) : LK X := fun i e k => match t i with
  | some m => optK (m.sk.get e) fun st => optK (m.f st) fun o => outK m.outs o k
  | none => none

/-- The marks of a piece of code, but those within marks. -/
def marksOf : ACode X → List (Nat × List (Nat × Sh) × ACode X)
  | .mark i D a => [(i, D, a)]
  | .seq a b => marksOf a ++ marksOf b
  | .cond _ a b => marksOf a ++ marksOf b
  | .block _ a => marksOf a
  | .loop a => marksOf a
  | .trim _ a => marksOf a
  | _ => []
def MarkOk (C : CK X) (L : LK X) (K : List Nat) (N : Nat) (i : Nat) (D : List (Nat × Sh)) (a : ACode X) : Prop := MarksOk C L K N (.mark i D a)
theorem marksOk_of {C : CK X} {L : LK X} {K : List Nat} {N : Nat} : ∀ {a : ACode X}, (∀ m ∈ marksOf a, MarkOk C L K N m.1 m.2.1 m.2.2) → MarksOk C L K N a := by
  intro a
  induction a with
  | mark i D a _ => intro h; exact h _ (List.mem_singleton.2 rfl)
  | seq a b iha ihb => intro h; exact ⟨iha fun m hm => h m (List.mem_append_left _ hm), ihb fun m hm => h m (List.mem_append_right _ hm)⟩
  | cond c a b iha ihb => intro h; exact ⟨iha fun m hm => h m (List.mem_append_left _ hm), ihb fun m hm => h m (List.mem_append_right _ hm)⟩
  | block id a ih => intro h; exact ih h
  | loop a ih => intro h; exact ih h
  | trim D a ih => intro h; exact ih h
  | _ => intro _; trivial

theorem restrict_map (D : List (Nat × Sh)) (e : Env X) {l : SkL X} (hl : l.map (·.1) = D.map (·.1)) : marked D e = mkE (l.map fun q => (q.1, norm (shaped D (frozen e D)) (shaped D (frozen e D) q.1))) := by
  unfold marked restrict
  rw [← hl, List.map_map]; rfl

/-- A mark around code that is run once. -/
theorem join_mark {C : CK X} (hC : CMono C) {t : Nat → Option (MarkK X)} {K : List Nat} {N i : Nat} {D : List (Nat × Sh)} {b : ACode X} {m : MarkK X} (ht : t i = some m) (hD : m.sk.map (·.1) = D.map (·.1)) (hn : nodupB (D.map (·.1)) = true)
    (hb : ∀ m ∈ marksOf b, MarkOk C (markL t) K N m.1 m.2.1 m.2.2) {B : m.sk.D → Tree (OutT m.outs)} (hf : ∀ a, m.f a = (B a).eval)
    (hstep : ∀ a (kx : AExit → Env X → Option (Ret X)), execK C (markL t) K N b (m.sk.env a) kx = (B a).run fun o => kx (outE m.outs o).1 (outE m.outs o).2) : MarkOk C (markL t) K N i D b := by
  intro e k k' r h hk
  unfold markL at h
  rw [ht] at h
  obtain ⟨st, h1, h2⟩ := optK_some h
  obtain ⟨o, h3, h4⟩ := optK_some h2
  have he : marked D e = m.sk.env st := SkL.get_env (restrict_map D e hD) (by rw [hD]; exact hn) h1
  rw [he]
  refine execK_T hC (marksOk_of hb) ((hstep st k).trans ?_) hk
  rw [Tree.run_eq, ← hf, h3]
  rw [outK_eq] at h4
  exact h4
/-- A mark around a loop. -/
theorem loop_mark {C : CK X} (hC : CMono C) {t : Nat → Option (MarkK X)} {K : List Nat} {N i i2 : Nat} {D D' : List (Nat × Sh)} {b : ACode X} {m : MarkK X} (ht : t i = some m) (hD : m.sk.map (·.1) = D.map (·.1)) (hn : nodupB (D.map (·.1)) = true)
    (hid : ∀ a, marked D (m.sk.env a) = m.sk.env a) (hb : ∀ m ∈ marksOf b, MarkOk C (markL t) K N m.1 m.2.1 m.2.2) {B : m.sk.D → Tree (Rnd m.sk.D (OutT m.outs))} (hf : ∀ a, m.f a = iter (fun a => (B a).eval) N a)
    (hstep : ∀ a (kn : Env X → Option (Ret X)) (kx : AExit → Env X → Option (Ret X)), execK C (markL t) K N b (m.sk.env a) (fun x e1 => match x with | .normal => kn (marked D e1) | x => kx x (marked D' e1)) =
      (B a).run fun q => match q with | .next a' => kn (m.sk.env a') | .out o => kx (outE m.outs o).1 (outE m.outs o).2) : MarkOk C (markL t) K N i D (.trim D' (.loop (.mark i2 D b))) := by
  intro e k k' r h hk
  unfold markL at h
  rw [ht] at h
  obtain ⟨st, h1, h2⟩ := optK_some h
  obtain ⟨o, h3, h4⟩ := optK_some h2
  have he : marked D e = m.sk.env st := SkL.get_env (restrict_map D e hD) (by rw [hD]; exact hn) h1
  rw [hf] at h3
  rw [outK_eq] at h4
  show iterK (execT C K N (.mark i2 D b)) N (marked D e) (fun x e1 => k' x (marked D' e1)) = some r
  rw [he]
  refine iter_ok hC (marksOk_of hb) (enc := m.sk.env) (out := outE m.outs) (f := fun a => (B a).eval) (fun a kn kx => ?_) (hid st) h3 h4 hk
  refine (hstep a kn kx).trans ?_
  rw [Tree.run_eq]
  show ((B a).eval.bind _) = optK (B a).eval _
  generalize (B a).eval = z
  cases z with
  | none => rfl
  | some z => cases z <;> rfl
end
end Go.A2
