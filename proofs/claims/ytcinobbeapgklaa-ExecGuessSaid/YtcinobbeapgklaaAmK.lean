/- YtcinobbeapgklaaAmK: the abstract machine's runs with what comes behind them in hand: a condition that is not known splits the run. No statement of the seat is proved here. -/
import Derived.Test.YtcinobbeapgklaaAmCore
namespace Go.AM

/-- A condition's slot, where the condition is known. -/
def setB (e : Env) (c : AX) (b : Bool) : Env :=
  match c with
  | .t s => match e s with | .bool _ => upd e s (.bool b) | _ => e
  | .v s => match e s with | .bool _ => upd e s (.bool b) | _ => e
  | .c _ => e
theorem setB_same {e : Env} {c : AX} {b : Bool} (h : rd e c = .bool b) : setB e c b = e := by
  have upd_self : ∀ s, e s = .bool b → upd e s (.bool b) = e := fun s hs => by
    funext s'; unfold upd; split
    · rename_i h1; rw [h1, hs]
    · rfl
  unfold setB
  cases c with
  | c x => rfl
  | t s =>
    simp only [rd] at h
    cases hs : e s <;> simp [hs] at h ⊢
    subst h; exact upd_self s hs
  | v s =>
    simp only [rd] at h
    cases hs : e s <;> simp [hs] at h ⊢
    subst h; exact upd_self s hs

def thenK {α : Type} (x : Option α) (k : α → Option AV) : Option AV :=
  match x with
  | some y => k y
  | none => none
@[simp] theorem thenK_some {α : Type} (y : α) (k : α → Option AV) : thenK (some y) k = k y := rfl
@[simp] theorem thenK_none {α : Type} (k : α → Option AV) : thenK none k = none := rfl

def binK (o : BinOp) (x y : AV) (k : AV → Option AV) : Option AV :=
  match o, x, y with
  | .quo, .int k1 a, .int k2 b => if k1 = k2 then (if b = 0 then none else k (wrapI k1 (a.tdiv b))) else none
  | .rem, .int k1 a, .int k2 b => if k1 = k2 then (if b = 0 then none else k (.int k1 (a.tmod b))) else none
  | .shl, .int k1 a, .int _ b => if b < 0 then none else k (wrapI k1 (a * 2 ^ (min b.toNat k1.bits)))
  | .shr, .int k1 a, .int _ b => if b < 0 then none else k (.int k1 (a.fdiv (2 ^ (min b.toNat k1.bits))))
  | o, x, y => thenK (binV o x y) k
theorem binK_eq (o : BinOp) (x y : AV) (k : AV → Option AV) : binK o x y k = thenK (binV o x y) k := by
  unfold binK
  split
  · simp only [binV, arithI]; split
    · split <;> rfl
    · rfl
  · simp only [binV, arithI]; split
    · split <;> rfl
    · rfl
  · simp only [binV, shiftI]; split <;> rfl
  · simp only [binV, shiftI]; split <;> rfl
  · rfl

def pickK (e : Env) (c a b : AX) (k : Env → AV → Option AV) : Option AV :=
  match rd e c with
  | .bool v => cond v (match rd e a with | .bool z => k (setB e c true) (.bool z) | _ => none) (match rd e b with | .bool z => k (setB e c false) (.bool z) | _ => none)
  | _ => none

def stepOpK (C : Nat → List AV → Option AV) (solo : Bool) (e : Env) (d : Option Nat) (op : AOp) (k : Env → Option AV) : Option AV :=
  match op with
  | .bin o x y => binK o (rd (fzs e [x, y]) x) (rd (fzs e [x, y]) y) fun v => thenK (put solo (fzs e [x, y]) d v) k
  | .pick c a b => pickK (fzs e [c, a, b]) c a b fun e1 v => thenK (put solo e1 d v) k
  | op => thenK (stepOp C solo e d op) k
theorem stepOpK_eq (C : Nat → List AV → Option AV) (solo : Bool) (e : Env) (d : Option Nat) (op : AOp) (k : Env → Option AV) :
    stepOpK C solo e d op k = thenK (stepOp C solo e d op) k := by
  unfold stepOpK
  split
  · rename_i o x y
    rw [binK_eq]
    show _ = thenK (match val (fzs e [x, y]) (.bin o x y) with | some v => put solo (fzs e [x, y]) d v | none => none) k
    simp only [val]
    cases binV o (rd (fzs e [x, y]) x) (rd (fzs e [x, y]) y) <;> rfl
  · rename_i c a b
    show _ = thenK (match val (fzs e [c, a, b]) (.pick c a b) with | some v => put solo (fzs e [c, a, b]) d v | none => none) k
    simp only [val]
    unfold pickK
    generalize fzs e [c, a, b] = e1
    cases hc : rd e1 c with
    | bool v =>
      cases v with
      | true => simp only [cond_true]; rw [setB_same hc]; cases rd e1 a <;> rfl
      | false => simp only [cond_false]; rw [setB_same hc]; cases rd e1 b <;> rfl
    | _ => rfl
  · rfl

def actK (C : Nat → List AV → Option AV) (e : Env) (o : AOpr) (k : Env → Option AV) : Option AV :=
  if (o.solo || allow e o.op) = true then stepOpK C o.solo e o.dst o.op k else none
theorem actK_eq (C : Nat → List AV → Option AV) (e : Env) (o : AOpr) (k : Env → Option AV) : actK C e o k = thenK (act C e o) k := by
  unfold actK act
  split
  · rw [stepOpK_eq]
  · rfl

def stepK (C : Nat → List AV → Option AV) (e : Env) (o : AOpr) (k : Env → Option AV) : Option AV :=
  match o.guard with
  | none => actK C e o k
  | some (g, true) => match e g with
    | .bool b => cond b (actK C (setB e (.t g) true) o k) (thenK (put o.solo (setB e (.t g) false) o.dst .undef) k)
    | _ => none
  | some (g, false) => match e g with
    | .bool b => cond b (thenK (put o.solo (setB e (.t g) true) o.dst .undef) k) (actK C (setB e (.t g) false) o k)
    | _ => none
theorem stepK_eq (C : Nat → List AV → Option AV) (e : Env) (o : AOpr) (k : Env → Option AV) : stepK C e o k = thenK (step C e o) k := by
  unfold stepK step
  split
  · rename_i hg; rw [hg]; exact actK_eq ..
  · rename_i g hg
    rw [hg]
    simp only []
    cases he : e g with
    | bool b =>
      have hrd : rd e (.t g) = .bool b := by simp [rd, he]
      cases b with
      | true => simp only [cond_true, if_true]; rw [setB_same hrd, actK_eq]
      | false => simp only [cond_false]; rw [setB_same hrd]; simp
    | _ => rfl
  · rename_i g hg
    rw [hg]
    simp only []
    cases he : e g with
    | bool b =>
      have hrd : rd e (.t g) = .bool b := by simp [rd, he]
      cases b with
      | true => simp only [cond_true]; rw [setB_same hrd]; simp
      | false => simp only [cond_false, if_true]; rw [setB_same hrd, actK_eq]
    | _ => rfl

def runOpsK (C : Nat → List AV → Option AV) : List AOpr → Env → (Env → Option AV) → Option AV
  | [], e, k => k e
  | o :: l, e, k => stepK C e o fun e1 => runOpsK C l e1 k
theorem runOpsK_eq (C : Nat → List AV → Option AV) : ∀ (l : List AOpr) (e : Env) (k : Env → Option AV), runOpsK C l e k = thenK (runOps C l e) k
  | [], e, k => rfl
  | o :: l, e, k => by
    simp only [runOpsK, runOps, stepK_eq]
    cases step C e o with
    | none => rfl
    | some e1 => exact runOpsK_eq C l e1 k

def iterK (f : Env → (AExit → Env → Option AV) → Option AV) : Nat → Env → (AExit → Env → Option AV) → Option AV
  | 0, _, _ => none
  | n + 1, e, k => f e fun x e1 => match x with
    | .normal => iterK f n e1 k
    | x => k x e1

def execK (C : Nat → List AV → Option AV) (K : List Nat) (N : Nat) : ACode → Env → (AExit → Env → Option AV) → Option AV
  | .skip, e, k => k .normal e
  | .region A ops, e, k => runOpsK C ops (clean A e) fun e1 => k .normal (restrict K e1)
  | .draw A ops, e, k => runOpsK C ops (clean A e) fun e1 => k .normal (restrict K e1)
  | .seq a b, e, k => execK C K N a e fun x e1 => match x with
    | .normal => execK C K N b e1 k
    | x => k x e1
  | .cond c a b, e, k => match rd e c with
    | .bool v => cond v (execK C K N a (setB e c true) k) (execK C K N b (setB e c false) k)
    | _ => none
  | .block id a, e, k => execK C K N a e fun x e1 => match x with
    | .exit j => if j = id then k .normal e1 else k (.exit j) e1
    | x => k x e1
  | .loop a, e, k => iterK (execK C K N a) N e k
  | .exit id, e, k => k (.exit id) e
  | .ret, e, k => k .ret e
  | .bad, _, _ => none

def thenE (x : Option (AExit × Env)) (k : AExit → Env → Option AV) : Option AV :=
  match x with
  | some (x, e) => k x e
  | none => none

theorem execK_eq (C : Nat → List AV → Option AV) (K : List Nat) (N : Nat) : ∀ (c : ACode) (e : Env) (k : AExit → Env → Option AV), execK C K N c e k = thenE (exec C K N c e) k := by
  intro c
  induction c with
  | skip => intro e k; rfl
  | region A ops =>
    intro e k
    simp only [execK, exec, runOpsK_eq]
    cases runOps C ops (clean A e) <;> rfl
  | draw A ops =>
    intro e k
    simp only [execK, exec, runOpsK_eq]
    cases runOps C ops (clean A e) <;> rfl
  | seq a b iha ihb =>
    intro e k
    simp only [execK, exec, iha]
    cases exec C K N a e with
    | none => rfl
    | some p =>
      obtain ⟨x, e1⟩ := p
      cases x with
      | normal => exact ihb e1 k
      | exit j => rfl
      | ret => rfl
  | cond c a b iha ihb =>
    intro e k
    simp only [execK, exec]
    cases hc : rd e c with
    | bool v =>
      cases v with
      | true => simp only [cond_true]; rw [setB_same hc, iha]
      | false => simp only [cond_false]; rw [setB_same hc, ihb]
    | _ => rfl
  | block id a ih =>
    intro e k
    simp only [execK, exec, ih]
    cases exec C K N a e with
    | none => rfl
    | some p =>
      obtain ⟨x, e1⟩ := p
      cases x with
      | normal => rfl
      | exit j => simp only [thenE]; split <;> rfl
      | ret => rfl
  | loop a ih =>
    intro e k
    simp only [execK, exec]
    have key : ∀ (n : Nat) (e : Env), iterK (execK C K N a) n e k = thenE (iter (exec C K N a) n e) k := by
      intro n
      induction n with
      | zero => intro e; rfl
      | succ n ihn =>
        intro e
        simp only [iterK, iter, ih]
        cases exec C K N a e with
        | none => rfl
        | some p =>
          obtain ⟨x, e1⟩ := p
          cases x with
          | normal => exact ihn e1
          | exit j => rfl
          | ret => rfl
    exact key N e
  | exit id => intro e k; rfl
  | ret => intro e k; rfl
  | bad => intro e k; rfl

def endK (af : AFn) : AExit → Env → Option AV
  | .normal, e => results e af
  | .ret, e => results e af
  | .exit _, _ => none
def runFnK (C : Nat → List AV → Option AV) (N : Nat) (af : AFn) (args : List AV) : Option AV :=
  if args.length = af.np ∧ args.all isPure = true then execK C af.keep N af.body (entry args) (endK af) else none
theorem runFnK_eq (C : Nat → List AV → Option AV) (N : Nat) (af : AFn) (args : List AV) : runFnK C N af args = runFn C N af args := by
  unfold runFnK runFn
  split
  · rw [execK_eq]
    cases exec C af.keep N af.body (entry args) with
    | none => rfl
    | some p => obtain ⟨x, e⟩ := p; cases x <;> rfl
  · rfl

/-- One oracle ahead of another. -/
def orC (C D : Nat → List AV → Option AV) : Nat → List AV → Option AV := fun f l =>
  match C f l with
  | some r => some r
  | none => D f l
end Go.AM
