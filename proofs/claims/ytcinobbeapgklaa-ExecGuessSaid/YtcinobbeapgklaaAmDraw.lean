/- YtcinobbeapgklaaAmDraw: in a region whose order Go leaves open, operations that are not ordered against each other may change places. No statement of the seat is proved here. -/
import Derived.Test.YtcinobbeapgklaaAmCode
namespace Go.AM

section
variable {K : List Nat} {e e' : Env} {C : Nat → List AV → Option AV}

/-- References lead to variables that own. -/
def Rt (K : List Nat) (e : Env) : Prop := ∀ s r, refRoot (e s) = some r → isOwner (e r) = true ∧ inA K r = true
/-- One looks like the other, from outside. -/
def Like (a b : AV) : Prop := a = b ∨ (∃ x y, a = .box x ∧ b = .box y) ∨ (∃ z r z' r', a = .own z r ∧ b = .own z' r')
theorem Like.refl (a : AV) : Like a a := .inl rfl
theorem rd_like {x : AX} (h : ∀ s ∈ slotsX x, Like (e s) (e' s)) : rd e' x = rd e x := by
  cases x with
  | c y => rfl
  | t s =>
    rcases h s (by simp [slotsX]) with h1 | ⟨x, y, h1, h2⟩ | ⟨z, r, z', r', h1, h2⟩
    · simp only [rd, h1]
    · simp only [rd, h1, h2]
    · simp only [rd, h1, h2]
  | v s =>
    rcases h s (by simp [slotsX]) with h1 | ⟨x, y, h1, h2⟩ | ⟨z, r, z', r', h1, h2⟩
    · simp only [rd, h1]
    · simp only [rd, h1, h2]
    · simp only [rd, h1, h2]
theorem softX_like {x : AX} (h : ∀ s ∈ slotsX x, Like (e s) (e' s)) : softX e' x = softX e x := by
  cases x with
  | c y => rfl
  | t s =>
    rcases h s (by simp [slotsX]) with h1 | ⟨x, y, h1, h2⟩ | ⟨z, r, z', r', h1, h2⟩
    · simp only [softX, h1]
    · simp only [softX, h1, h2, owns, owns1]
    · simp only [softX, h1, h2, owns, owns1]
  | v s =>
    rcases h s (by simp [slotsX]) with h1 | ⟨x, y, h1, h2⟩ | ⟨z, r, z', r', h1, h2⟩
    · simp only [softX, h1]
    · simp only [softX, h1, h2]
    · simp only [softX, h1, h2]

/-- The value that an operation sets. -/
def sval (C : Nat → List AV → Option AV) (e : Env) : AOp → Option AV
  | .move x | .assign x => some (rd e x)
  | .alloc zero => if zero.all isCell = true then some (.box zero) else none
  | .extract x i => match x with
    | .t s => match e s with
      | .tup vs => match vs[i]? with
        | some v => if isPure v then some v else none
        | none => none
      | _ => none
    | _ => none
  | .makeSlice esz bytes zero l c => match natI (rd e l), natI (rd e c) with
    | some l, some c => if l ≤ c ∧ c * bytes ≤ room ∧ zero.length = esz ∧ zero.all isCell = true then some (.own esz (List.replicate l zero)) else none
    | _, _ => none
  | .makeFunc f caps =>
    match allSome (caps.map fun x => match rd e x with | .fn g l => some (.fn g l) | .rptr cs o => some (.rptr cs o) | _ => none) with
    | some l => some (.fn f l)
    | none => none
  | .call f args => match argsOf e args with
    | some l => match C f l with
      | some r => if isRes r = true ∧ (flatT r || args.all (fun x => !isRef (rd e x))) = true then some r else none
      | none => none
    | none => none
  | .callv x args => match rd e x, argsOf e args with
    | .fn f caps, some l => match C f (l ++ caps) with
      | some r => if isRes r = true ∧ (flatT r || args.all (fun x => !isRef (rd e x))) = true then some r else none
      | none => none
    | _, _ => none
  | op => val e op

theorem fzT_soft {x : AX} (h : softX e x = true) : fzT e x = e := by
  cases x with
  | c y => rfl
  | t s =>
    simp only [softX] at h
    unfold fzT
    simp only []
    split
    · rfl
    · rfl
    · rw [if_neg (by simpa using h)]
  | v s =>
    unfold fzT
    simp only [fzV]
    cases hes : e s with
    | own z r => rfl
    | box cs => rfl
    | _ =>
      simp only [softX, hes] at h
      simp only []
      rw [if_neg (by simpa using h)]
theorem fzs_soft : ∀ {xs : List AX}, xs.all (softX e) = true → fzs e xs = e
  | [], _ => rfl
  | x :: xs, h => by
    simp only [List.all_cons, Bool.and_eq_true] at h
    show fzs (fzT e x) xs = e
    rw [fzT_soft h.1]
    exact fzs_soft h.2
theorem fzV_soft {x : AX} (h : softX e x = true) : fzV e x = e := by
  cases x with
  | v s => exact fzT_soft (x := .v s) h
  | _ => rfl

theorem afterCall_false {args : List AX} {d : Option Nat} {r : AV} : afterCall false e args d r = (if isRes r = true ∧ (flatT r || args.all (fun x => !isRef (rd e x))) = true then some r else none).bind (put false e d) := by
  unfold afterCall
  by_cases h1 : isRes r = true
  · rw [if_pos h1]
    by_cases h2 : (flatT r || args.all (fun x => !isRef (rd e x))) = true
    · rw [if_pos h2, if_pos ⟨h1, h2⟩]; rfl
    · rw [if_neg h2, if_neg (fun h => h2 h.2)]
      split
      · split
        · simp
        · rfl
      · rfl
  · rw [if_neg h1, if_neg (fun h => h1 h.1)]; rfl

def isSet (op : AOp) : Bool := match kindOf op with | .F => true | .R => true | _ => false
/-- An operation that sets its slot. -/
theorem setter_eq {op : AOp} {d : Option Nat} (hk : isSet op = true) (hs : op.xs.all (softX e) = true) : stepOp C false e d op = (sval C e op).bind (put false e d) := by
  have mv : ∀ x, softX e x = true → (match x with | .t s => if owns (e s) then put false (drop e s) d (e s) else put false e d (rd e x) | x => put false (fzV e x) d (rd (fzV e x) x)) = (some (rd e x)).bind (put false e d) := fun x hx => by
    cases x with
    | t s =>
      simp only [softX] at hx
      simp only []
      rw [if_neg (by simpa using hx)]; rfl
    | v s => simp only []; rw [fzV_soft hx]; rfl
    | c y => rfl
  cases op with
  | move x => simp only [AOp.xs, List.all_cons, List.all_nil, Bool.and_true] at hs; exact mv x hs
  | assign x => simp only [AOp.xs, List.all_cons, List.all_nil, Bool.and_true] at hs; exact mv x hs
  | alloc z => simp only [stepOp, sval]; split <;> rfl
  | extract x i =>
    cases x with
    | t s =>
      simp only [stepOp, sval]
      cases hes : e s with
      | tup vs =>
        simp only []
        cases hv : vs[i]? with
        | none => rfl
        | some v =>
          simp only []
          by_cases hp : isPure v = true
          · rw [if_pos hp, if_pos hp]; rfl
          · rw [if_neg hp, if_neg hp]; simp
      | _ => rfl
    | v s => rfl
    | c y => rfl
  | makeSlice esz bytes zero l c =>
    simp only [stepOp, sval]
    cases natI (rd e l) with
    | none => rfl
    | some l =>
      cases natI (rd e c) with
      | none => rfl
      | some c => simp only []; split <;> rfl
  | makeFunc f caps =>
    simp only [stepOp, sval]
    generalize allSome _ = q
    cases q <;> rfl
  | call f args =>
    simp only [AOp.xs] at hs
    simp only [stepOp, sval, fzs_soft hs]
    cases argsOf e args with
    | none => rfl
    | some l =>
      simp only []
      cases C f l with
      | none => rfl
      | some r => exact afterCall_false
  | callv x args =>
    simp only [AOp.xs, List.all_cons, Bool.and_eq_true] at hs
    simp only [stepOp, sval, fzs_soft hs.2]
    cases rd e x with
    | fn f caps =>
      cases argsOf e args with
      | none => rfl
      | some l =>
        simp only []
        cases C f (l ++ caps) with
        | none => rfl
        | some r => exact afterCall_false
    | _ => rfl
  | box | store | build | buildSlice | append | slice | bad => simp [isSet, kindOf] at hk
  | _ =>
    simp only [stepOp, sval]
    rw [fzs_soft hs]
    generalize val e _ = q
    cases q <;> rfl

/-- What of memory an operation that sets its slot looks at. -/
def SeesAs (e e' : Env) (xs : List AX) : Prop := ∀ x ∈ xs, rd e' x = rd e x ∧ softX e' x = softX e x ∧ (∀ r, refRoot (rd e x) = some r → e' r = e r) ∧ (∀ s, x = .t s → Like (e s) (e' s))

theorem val_F {op : AOp} (hk : kindOf op = .F) (h : ∀ x ∈ op.xs, rd e' x = rd e x) : val e' op = val e op := by
  have hm : ∀ xs : List AX, (∀ x ∈ xs, rd e' x = rd e x) → xs.map (rd e') = xs.map (rd e) := fun xs hx => List.map_congr_left hx
  cases op with
  | mm b args => simp only [val]; rw [hm args h]
  | load1 | loadN | idxS | lenS | call | callv | box | store | build | buildSlice | append | slice | bad => simp [kindOf] at hk
  | move x | assign x | addOff x k | part1 x o | partN x o m | un q x | conv q x | extract x i | lenStr x => simp only [val]; rw [h x (by simp [AOp.xs])]
  | idxA len esz x i | idxStr x i | bin q x i | eqAgg q x i | eqB q x i => simp only [val]; rw [h x (by simp [AOp.xs]), h i (by simp [AOp.xs])]
  | pick c x y => simp only [val]; rw [h c (by simp [AOp.xs]), h x (by simp [AOp.xs]), h y (by simp [AOp.xs])]
  | alloc | makeSlice | makeFunc => rfl

theorem asArg_congr {q : AV} (h : ∀ r, refRoot q = some r → e' r = e r) : asArg e' q = asArg e q := by
  cases q with
  | ref s c => simp only [asArg]; rw [content_congr (h s rfl)]
  | ptr s c row off =>
    cases c with
    | some k => rfl
    | none => cases row with
      | zero => simp only [asArg]; rw [h s rfl]
      | succ i => rfl
  | _ => rfl
theorem argsOf_congr {xs : List AX} (h : ∀ x ∈ xs, rd e' x = rd e x ∧ ∀ r, refRoot (rd e x) = some r → e' r = e r) : argsOf e' xs = argsOf e xs := by
  unfold argsOf
  congr 1
  refine List.map_congr_left fun x hx => ?_
  obtain ⟨h1, h2⟩ := h x hx
  rw [h1, asArg_congr h2]
theorem all_congr {xs : List AX} (h : ∀ x ∈ xs, rd e' x = rd e x) : xs.all (fun x => !isRef (rd e' x)) = xs.all (fun x => !isRef (rd e x)) := by
  induction xs with
  | nil => rfl
  | cons x xs ih => simp only [List.all_cons]; rw [h x (by simp), ih fun y hy => h y (by simp [hy])]

theorem sval_congr {op : AOp} (hk : isSet op = true) (h : SeesAs e e' op.xs) : sval C e' op = sval C e op := by
  have h1 : ∀ x ∈ op.xs, rd e' x = rd e x := fun x hx => (h x hx).1
  have hc : ∀ x ∈ op.xs, ∀ s c, (rd e x = .ref s c ∨ ∃ r o, rd e x = .ptr s c r o) → content e' s c = content e s c := fun x hx s c hr =>
    content_congr ((h x hx).2.2.1 s (by rcases hr with hr | ⟨r, o, hr⟩ <;> rw [hr] <;> rfl)) c
  cases op with
  | move x => simp only [sval]; rw [h1 x (by simp [AOp.xs])]
  | assign x => simp only [sval]; rw [h1 x (by simp [AOp.xs])]
  | alloc z => rfl
  | extract x i =>
    cases x with
    | t s =>
      simp only [sval]
      rcases (h (.t s) (by simp [AOp.xs])).2.2.2 s rfl with hl | ⟨x, y, h2, h3⟩ | ⟨z, r, z', r', h2, h3⟩
      · rw [hl]
      · rw [h2, h3]
      · rw [h2, h3]
    | _ => rfl
  | makeSlice esz bytes zero l c => simp only [sval]; rw [h1 l (by simp [AOp.xs]), h1 c (by simp [AOp.xs])]
  | makeFunc f caps =>
    simp only [sval]
    have : (caps.map fun x => match rd e' x with | .fn g l => some (AV.fn g l) | .rptr cs o => some (.rptr cs o) | _ => none) = (caps.map fun x => match rd e x with | .fn g l => some (AV.fn g l) | .rptr cs o => some (.rptr cs o) | _ => none) :=
      List.map_congr_left fun x hx => by rw [h1 x hx]
    rw [this]
  | call f args =>
    simp only [AOp.xs] at h h1
    simp only [sval]
    rw [argsOf_congr fun x hx => ⟨h1 x hx, (h x hx).2.2.1⟩, all_congr h1]
  | callv x args =>
    simp only [AOp.xs] at h h1
    simp only [sval]
    rw [h1 x (by simp), argsOf_congr fun y hy => ⟨h1 y (by simp [hy]), (h y (by simp [hy])).2.2.1⟩, all_congr fun y hy => h1 y (by simp [hy])]
  | load1 x =>
    have hx := h1 x (by simp [AOp.xs])
    have hcx := hc x (by simp [AOp.xs])
    simp only [sval, val, hx]
    cases hr : rd e x <;> simp only []
    rw [hcx _ _ (.inr ⟨_, _, hr⟩)]
  | loadN m x =>
    have hx := h1 x (by simp [AOp.xs])
    have hcx := hc x (by simp [AOp.xs])
    simp only [sval, val, hx]
    cases hr : rd e x <;> simp only []
    rw [hcx _ _ (.inr ⟨_, _, hr⟩)]
  | idxS esz x i =>
    have hx := h1 x (by simp [AOp.xs])
    have hi := h1 i (by simp [AOp.xs])
    have hcx := hc x (by simp [AOp.xs])
    simp only [sval, val, hx, hi]
    cases hr : rd e x with
    | ref s c => have hcc := hcx s c (.inl hr); cases rd e i <;> first | rfl | simp only [hcc]
    | _ => cases rd e i <;> rfl
  | lenS x =>
    have hx := h1 x (by simp [AOp.xs])
    have hcx := hc x (by simp [AOp.xs])
    simp only [sval, val, hx]
    cases hr : rd e x with
    | ref s c => simp only [rowsOf]; rw [hcx s c (.inl hr)]
    | _ => rfl
  | box | store | build | buildSlice | append | slice | bad => simp [isSet, kindOf] at hk
  | _ => simp only [sval]; exact val_F rfl h1

theorem sval_F {op : AOp} (hk : kindOf op = .F) (h : ∀ x ∈ op.xs, ∀ s ∈ slotsX x, Like (e s) (e' s)) : sval C e' op = sval C e op := by
  have h1 : ∀ x ∈ op.xs, rd e' x = rd e x := fun x hx => rd_like (h x hx)
  cases op with
  | move x => simp only [sval]; rw [h1 x (by simp [AOp.xs])]
  | assign x => simp only [sval]; rw [h1 x (by simp [AOp.xs])]
  | alloc z => rfl
  | extract x i =>
    cases x with
    | t s =>
      simp only [sval]
      rcases h (.t s) (by simp [AOp.xs]) s (by simp [slotsX]) with hl | ⟨x, y, h2, h3⟩ | ⟨z, r, z', r', h2, h3⟩
      · rw [hl]
      · rw [h2, h3]
      · rw [h2, h3]
    | _ => rfl
  | makeSlice esz bytes zero l c => simp only [sval]; rw [h1 l (by simp [AOp.xs]), h1 c (by simp [AOp.xs])]
  | makeFunc f caps =>
    simp only [sval]
    have : (caps.map fun x => match rd e' x with | .fn g l => some (AV.fn g l) | .rptr cs o => some (.rptr cs o) | _ => none) = (caps.map fun x => match rd e x with | .fn g l => some (AV.fn g l) | .rptr cs o => some (.rptr cs o) | _ => none) :=
      List.map_congr_left fun x hx => by rw [h1 x hx]
    rw [this]
  | load1 | loadN | idxS | lenS | call | callv | box | store | build | buildSlice | append | slice | bad => simp [kindOf] at hk
  | _ => simp only [sval]; exact val_F rfl h1

end
end Go.AM
