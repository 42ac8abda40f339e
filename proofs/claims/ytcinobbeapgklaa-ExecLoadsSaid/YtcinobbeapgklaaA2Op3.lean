/- YtcinobbeapgklaaA2Op3: zeros, new variables, moves. No statement of the seat is proved here. -/
import Derived.Test.YtcinobbeapgklaaA2Op2
namespace Go.A2
section
variable {P : Program} {Γ : Cx}

theorem allO_spec {α β : Type} {f : α → Option β} : ∀ {l : List α} {r : List β}, allO f l = some r → r.length = l.length ∧ (∀ (i : Nat) x, l[i]? = some x → ∃ y, r[i]? = some y ∧ f x = some y)
  | [], r, h => by simp [allO] at h; subst h; simp
  | x :: l, r, h => by
    simp only [allO] at h
    split at h
    · rename_i y ys h1 h2
      simp only [Option.some.injEq] at h; subst h
      obtain ⟨h3, h4⟩ := allO_spec h2
      refine ⟨by simp [h3], fun i z hz => ?_⟩
      cases i with
      | zero => simp at hz; subst hz; exact ⟨y, rfl, h1⟩
      | succ i => simpa using h4 i z (by simpa using hz)
    · cases h
theorem allO_get' {α β : Type} {f : α → Option β} {l : List α} {r : List β} (h : allO f l = some r) {i : Nat} {y : β} (hy : r[i]? = some y) : ∃ x, l[i]? = some x ∧ f x = some y := by
  obtain ⟨h1, h2⟩ := allO_spec h
  have hi : i < l.length := by rw [← h1]; exact (List.getElem?_eq_some_iff.1 hy).1
  obtain ⟨z, hz, hf⟩ := h2 i l[i] (List.getElem?_eq_getElem hi)
  rw [hy] at hz; cases hz
  exact ⟨_, List.getElem?_eq_getElem hi, hf⟩
theorem cat_flatten {α : Type} (ls : List (List α)) : cat (fun j => ls.getD j []) ls.length = ls.flatten := by
  induction ls with
  | nil => rfl
  | cons x ls ih =>
    have gen : ∀ n, cat (fun j => (x :: ls).getD j []) (n + 1) = x ++ cat (fun j => ls.getD j []) n := fun n => by
      induction n with
      | zero => simp [cat]
      | succ n ih => rw [cat_succ, ih, cat_succ, List.append_assoc]; rfl
    rw [List.length_cons, gen, ih]; rfl

theorem zc_sound (hX : TabOk Γ.X) (w : World) (F : Nat → Prop) : ∀ (d : Nat) (T : Γ.X.Ty) (cs : List Value), zc Γ d T = some cs → PRep w F T (Γ.X.zero T) cs
  | 0, T, cs, h => by simp [zc] at h
  | d + 1, T, cs, h => by
    cases T with
    | int k =>
      simp only [zc] at h; cases h
      have := PRep.int (X := Γ.X) (w := w) (F := F) k (W.of k 0)
      have e : (W.of k 0).n = 0 := by cases k <;> rfl
      rw [e] at this
      exact this
    | bool => simp only [zc] at h; cases h; exact .bool false
    | str => simp only [zc] at h; cases h; exact .str ⟨[], Nat.zero_le _⟩
    | named i =>
      simp only [zc] at h
      obtain ⟨ls, h1, h2⟩ := Option.map_eq_some_iff.1 h
      subst h2
      obtain ⟨h3, h4⟩ := allO_spec h1
      rw [← cat_flatten, h3]
      refine .named i (Γ.X.zeroD i) _ fun j t x hj => ?_
      have := hX.zero i j t x hj
      subst this
      obtain ⟨c, hc, hz⟩ := h4 j t (getT_type hj)
      have : ls.getD j [] = c := by simp [List.getD_eq_getElem?_getD, hc]
      rw [this]
      exact zc_sound hX w F d t c hz
    | arr n t =>
      simp only [zc] at h
      obtain ⟨c, h1, h2⟩ := Option.map_eq_some_iff.1 h
      subst h2
      have : (List.replicate n c).flatten = cat (fun _ => c) n := by
        clear h
        induction n with
        | zero => rfl
        | succ n ih => rw [cat_succ, ← ih, List.replicate_succ']; simp
      rw [this]
      refine .arr n t _ _ fun j x hj => ?_
      have hx : x = Γ.X.zero t := by
        have : (List.replicate n (Γ.X.zero t))[j]? = some x := hj
        rw [List.getElem?_replicate] at this
        split at this
        · simpa using this.symm
        · cases this
      rw [hx]
      exact zc_sound hX w F d t c h1
    | slice b t =>
      simp only [zc] at h; cases h
      exact .slice b t Sl.nil none 0 (fun _ => []) (Nat.le_refl _) (fun h => absurd rfl h) fun i x hi => by simp [Sl.nil] at hi
theorem eqZ_eq {x y : Value} (h : eqZ x y = true) : x = y := by
  unfold eqZ at h
  split at h
  · simp at h; obtain ⟨rfl, rfl⟩ := h; rfl
  · simp at h; subst h; rfl
  · rename_i s t
    simp at h
    cases s; cases t; simp at h; rw [h]
  · rfl
  · cases h
theorem eqZs_eq : ∀ {l l' : List Value}, eqZs l l' = true → l = l'
  | [], [], _ => rfl
  | x :: l, y :: l', h => by
    simp only [eqZs, Bool.and_eq_true] at h
    rw [eqZ_eq h.1, eqZs_eq h.2]
  | [], _ :: _, h => by simp [eqZs] at h
  | _ :: _, [], h => by simp [eqZs] at h
/-- The model's zero of a type. -/
theorem zeroOk_some (hX : TabOk Γ.X) {t : TypeId} {T : Γ.X.Ty} (h : zeroOk P Γ t T = true) (w : World) (F : Nat → Prop) : ∃ i z, P.info? t = some i ∧ i.zero = some z ∧ PRep w F T (Γ.X.zero T) z.cells.toList := by
  unfold zeroOk at h
  split at h
  · rename_i l l' h1 h2
    have := eqZs_eq h
    subst this
    unfold zeroO at h1
    cases hi : P.info? t with
    | none => simp [hi] at h1
    | some i =>
      simp [hi] at h1
      obtain ⟨z, hz, rfl⟩ := h1
      exact ⟨i, z, rfl, hz, zc_sound hX w F _ _ _ h2⟩
  · cases h

section
variable {K : List Nat} {N : Slots} {F0 B U : Nat → Prop} {w0 : World} {F : Nat → Prop} {S : Nat → List Nat} {e : Env Γ.X} {a : Act} {w : World}

theorem heap_alloc_lt {w : World} {o : Obj} {b : Nat} (h : b < w.heap.size) : (w.alloc o).heap[b]? = w.heap[b]? := heap_alloc_old w o b h
theorem belowP_alloc {B : Nat → Prop} (w : World) (o : Obj) : BelowP B w (w.alloc o) :=
  ⟨rfl, rfl, rfl, by simp, fun k hk _ => heap_alloc_old w o k hk⟩

/-- A new variable in hand. -/
theorem EnvRel.newBox (h : EnvRel N F0 B U w0 F S e a w) {T : Γ.X.Ty} {v : Γ.X.den T} {o : Own} {cells : Array Value} {R : List Nat} (ty : TypeId) (g : Nat) (hv : VRep w F T v o cells.toList R) (hnd : R.Nodup)
    (hR : ∀ b ∈ R, B b ∧ b < w.heap.size ∧ ¬ F b) (hap : ∀ b ∈ R, ∀ s, b ∉ S s) :
    EnvRel N F0 B U w0 F S e a (w.alloc (.cells cells ty)) ∧ Hand B U F S e a (w.alloc (.cells cells ty)) (.box g T v (o.gen g)) (.pointer (some ⟨w.heap.size, 0, none⟩)) (w.heap.size :: R) := by
  have h1 := h.world (w' := w.alloc (.cells cells ty)) (F' := F) (fun _ h => h) (fun b hb => heap_alloc_old w _ b (h.free b hb)) (fun t b hb => heap_alloc_old w _ b (h.own t b hb).2.1) (belowP_alloc w _) fun b hb => .inl hb
  refine ⟨h1, ?_, trivial, ?_, ?_, ?_⟩
  · exact .box g T v _ w.heap.size cells ty R (heap_alloc_new w _) ((hv.gen g).mono (fun _ h => h) (fun b hb => heap_alloc_old w _ b (h.free b hb)) fun b hb => heap_alloc_old w _ b (hR b hb).2.1)
  · exact List.nodup_cons.2 ⟨fun hb => by have := (hR _ hb).2.1; omega, hnd⟩
  · intro b hb
    rcases List.mem_cons.1 hb with rfl | hb
    · exact ⟨h.base _ (Nat.le_refl _), by simp, fun hf => by have := h.free _ hf; omega⟩
    · obtain ⟨h2, h3, h4⟩ := hR b hb
      exact ⟨h2, by simp; omega, h4⟩
  · intro b hb s hs
    rcases List.mem_cons.1 hb with rfl | hb
    · have := (h.own s _ hs).2.1; omega
    · exact hap b hb s hs

theorem valOk_cells' {T : Γ.X.Ty} {cs : List Value} {u : Value} (h : valOk T cs u) (h1 : ∀ c ∈ cs, c.oneCell' = true) : u.cells = cs.toArray := by
  rw [← Array.toList_inj, valOk_cells h h1]

theorem genVL_length (g : Nat) : ∀ l : List (AV Γ.X), (genVL g l).length = l.length
  | [] => rfl
  | x :: l => by simp only [genVL, List.length_cons, genVL_length g l]
theorem genVL_get (g : Nat) : ∀ (l : List (AV Γ.X)) (i : Nat) (y : AV Γ.X), (genVL g l)[i]? = some y → ∃ x, l[i]? = some x ∧ y = genV g x
  | [], i, y, h => by simp [genVL] at h
  | x :: l, 0, y, h => by simp [genVL] at h; exact ⟨x, rfl, h.symm⟩
  | x :: l, i + 1, y, h => by simpa using genVL_get g l i y (by simpa [genVL] using h)
theorem SRep.gen {x : AV Γ.X} {u : Value} {R : List Nat} (h : SRep e a w F x u R) (g : Nat) : SRep e a w F (genV g x) u R := by
  induction h with
  | u h => cases h with
    | undef => exact .u (.undef _)
    | val T v o _ cs _ h hu => exact .u (.val T v _ _ cs _ (h.gen g) hu)
    | rptr T v b o cs hb hc h => exact .u (.rptr T v b o cs hb hc h)
  | tup l us Ss hl _ ih =>
    have := SRep.tup (e := e) (a := a) (w := w) (F := F) (genVL g l) us Ss (by rw [genVL_length]; exact hl) fun i y u hy hu => by
      obtain ⟨x, hx, rfl⟩ := genVL_get g l i y hy
      exact ih i x u hx hu
    rw [genVL_length] at this
    exact this
  | fn f as bs us vs hl hl' h h' => exact .fn f as bs us vs hl hl' h h'
  | box g' T v o b cells ty S hg h => exact .box g T v _ b cells ty S hg (h.gen g)
  | ref s q g u hq h => exact .ref s q g u hq h
  | ptrB s g q u h => exact .ptrB s g q u h
  | ptrE s p g i q u hp h => exact .ptrE s p g i q u hp h
mutual
theorem OwnsG_gen (g : Nat) : ∀ x : AV Γ.X, OwnsG (· = g) (genV g x)
  | .val _ _ o => OGen_gen g o
  | .box _ _ _ o => ⟨rfl, OGen_gen g o⟩
  | .tup l => OwnsGL_gen g l
  | .undef => trivial
  | .ref _ _ _ => trivial
  | .ptr _ _ => trivial
  | .rptr _ _ => trivial
  | .fn _ _ _ => trivial
theorem OwnsGL_gen (g : Nat) : ∀ l : List (AV Γ.X), OwnsGL (· = g) (genVL g l)
  | [] => trivial
  | x :: l => ⟨OwnsG_gen g x, OwnsGL_gen g l⟩
end
mutual
theorem RefG_gen {Q : Nat → Prop} (g : Nat) : ∀ {x : AV Γ.X}, RefG Q x → RefG Q (genV g x)
  | .val _ _ _, _ => trivial
  | .box _ _ _ _, _ => trivial
  | .tup _, h => RefGL_gen g h
  | .undef, h => h
  | .ref _ _ _, h => h
  | .ptr _ _, h => h
  | .rptr _ _, h => h
  | .fn _ _ _, h => h
theorem RefGL_gen {Q : Nat → Prop} (g : Nat) : ∀ {l : List (AV Γ.X)}, RefGL Q l → RefGL Q (genVL g l)
  | [], _ => trivial
  | _ :: _, h => ⟨RefG_gen g h.1, RefGL_gen g h.2⟩
end

section steps
variable {T0 T1 T2 : Option Γ.X.Ty} {g : Nat} {o : Oper} {us : Ups Γ.X} {ans : Ret Γ.X} (hX : TabOk Γ.X) (h : EnvRel N F0 B U w0 F S e a w) (hg : ¬ U g) (hd : ∀ k, o.dst = some k → N.ok k)
  {next : Act → World → Prop} {Q : Exit → Act → World → Prop} (hnext : ∀ a' w', Sim N F0 B (withG U g) w0 (applyU e us) a' w' → next a' w')
include hX h hg hd hnext

theorem step_alloc {t : TypeId} {T : Γ.X.Ty} (ho : o.op = .alloc t) (hz : zeroOk P Γ t T = true) (hs : eff ans g e o.dst (.alloc T) = some us) : o.wp P a w next Q := by
  obtain ⟨i, z, h1, h2, h3⟩ := zeroOk_some hX hz w F
  have hrun : (execOp a.eval o).run P w = .ok (.value (.pointer (some ⟨w.heap.size, 0, none⟩))) (w.alloc (.cells z.cells t)) := by
    simp only [execOp, ho, Instr.alloc]
    simp [zeroValue, run_typeInfo' h1, h2, newVar, newRow]
  unfold Oper.wp
  rw [hrun]
  simp only [eff] at hs
  cases hs
  obtain ⟨k1, k2⟩ := h.newBox t g (.pure h3) List.nodup_nil (by simp) (by simp)
  exact hnext _ _ (k1.out hd hg k2 ⟨rfl, trivial⟩)

theorem step_box {t : TypeId} {T : Γ.X.Ty} {Y : Operand} {x : AX Γ.X} (ho : o.op = .box t Y) (hx : compX Γ K T0 Y = some x) (hs : eff ans g e o.dst (.box T x) = some us) : o.wp P a w next Q := by
  have hrun : (execOp a.eval o).run P w = .ok (.value (.pointer (some ⟨w.heap.size, 0, none⟩))) (w.alloc (.cells (a.eval Y).cells t)) := by
    simp only [execOp, ho, Instr.box]
    simp [newVar, newRow]
  unfold Oper.wp
  rw [hrun]
  simp only [eff] at hs
  split at hs
  · rename_i T1 v m u ht
    split at hs
    · rename_i v1 hv1
      obtain ⟨rfl, hv1⟩ := castT_some hv1
      simp only at hv1; subst hv1
      cases hs
      obtain ⟨F1, S1, cs, R, k1, k2, k3, k4, k5, k6, k7, _⟩ := h.take hX hx ht
      rw [valOk_cells' k4 k3.one]
      obtain ⟨q1, q2⟩ := k1.newBox t g (cells := cs.toArray) k3 k5 k6 k7
      refine hnext _ _ ?_
      have := q1.out hd hg q2 ⟨rfl, OGen_gen g m⟩
      rw [applyU_append]
      exact this
    · cases hs
  · cases hs

theorem step_move {Y : Operand} {x : AX Γ.X} (ho : o.op = .move Y ∨ o.op = .assign Y) (hx : compX Γ K T0 Y = some x) (hs : eff ans g e o.dst (.move x) = some us) : o.wp P a w next Q := by
  have hrun : (execOp a.eval o).run P w = .ok (.value (a.eval Y)) w := by
    rcases ho with ho | ho <;> (simp only [execOp, ho]; rfl)
  unfold Oper.wp
  rw [hrun]
  show next (a.put o.dst (a.eval Y)) w
  simp only [eff] at hs
  obtain ⟨R, h1, h2, _⟩ := h.rd hX hx
  -- what owns nothing
  have soft : (∀ l, Go.A2.rd e x ≠ .tup l) → (∀ T v o, Go.A2.rd e x = .val T v o → o.pure = true) → (∀ g T v o, Go.A2.rd e x ≠ .box g T v o) → some (outU o.dst (Go.A2.rd e x)) = some us → next (a.put o.dst (a.eval Y)) w := fun htup hval hnb hout => by
    cases hout
    have hR : R = [] ∧ OwnsG (· = g) (Go.A2.rd e x) := by
      generalize Go.A2.rd e x = y at h1 htup hval hnb
      generalize a.eval Y = u at h1
      cases h1 with
      | u h1 => cases h1 with
        | undef => exact ⟨rfl, trivial⟩
        | val T v o' u' cs S' hv hu =>
          have hp := hval T v o' rfl
          exact ⟨(hv.toPure hp).2, OGen_pure hp⟩
        | rptr => exact ⟨rfl, trivial⟩
      | tup l => exact absurd rfl (htup l)
      | fn => exact ⟨rfl, trivial⟩
      | box g' T v o' => exact absurd rfl (hnb g' T v o')
      | ref => exact ⟨rfl, trivial⟩
      | ptrB => exact ⟨rfl, trivial⟩
      | ptrE => exact ⟨rfl, trivial⟩
    rw [hR.1] at h1
    exact hnext _ _ (h.out hd hg (Hand.ofPure h1 h2) hR.2)
  have hand : ∀ {s : Nat}, Y = .tmp s → some ([(s, .undef)] ++ outU o.dst (genV g (e s))) = some us → next (a.put o.dst (a.eval Y)) w := fun {s} hY hout => by
    subst hY
    cases hout
    have hh := h.handOf s
    have hh' : Hand B U F (updS S s []) (upd e s .undef) a w (genV g (e s)) (a.tmps.getD s Go.undef) (S s) := ⟨hh.rep.gen g, RefG_gen g hh.refs, hh.nodup, hh.own, hh.apart⟩
    have := (h.drop s).out hd hg hh' (OwnsG_gen g _)
    refine hnext _ _ ?_
    rw [applyU_append]
    exact this
  cases x with
  | c y =>
    obtain ⟨T', v', o', hy⟩ | ⟨f, hy⟩ : (∃ T v o, y = .val T v o ∧ o.pure = true) ∨ ∃ f, y = .fn f [] [] := by
      cases Y with
      | tmp s => simp only [compX, Option.some.injEq] at hx; split at hx <;> cases hx
      | const cv =>
        simp only [compX] at hx
        cases hc : cvC Γ T0 cv with
        | none => simp [hc] at hx
        | some q =>
          simp [hc] at hx; subst hx
          obtain ⟨T', y', o', cs, he, hp, _⟩ := cvC_sound hX hc w F
          exact .inl ⟨T', y', o', he, hp⟩
      | func f => simp [compX] at hx; subst hx; exact .inr ⟨f, rfl⟩
      | global gg => simp [compX] at hx
    · obtain ⟨hy, hp⟩ := hy
      exact soft (by simp [Go.A2.rd, hy]) (fun T v o' he => by simp only [Go.A2.rd] at he; rw [hy] at he; cases he; exact hp) (by simp [Go.A2.rd, hy]) hs
    · exact soft (by simp [Go.A2.rd, hy]) (by simp [Go.A2.rd, hy]) (by simp [Go.A2.rd, hy]) hs
  | t s =>
    have hY := compX_slot (.inl hx)
    simp only [] at hs
    cases hes : e s with
    | val T v ov =>
      simp only [hes] at hs
      split at hs
      · rename_i hp
        have hrd : Go.A2.rd e (.t s) = .val T v ov := by
          simp only [Go.A2.rd, hes]
          cases T <;> cases ov <;> first | rfl | cases hp
        exact soft (by simp [hrd]) (fun T' v' o' he => by rw [hrd] at he; cases he; exact hp) (by simp [hrd]) (by rw [hrd]; exact hs)
      · exact hand hY (by rw [hes]; exact hs)
    | tup l => simp only [hes] at hs; exact hand hY (by rw [hes]; exact hs)
    | _ =>
      simp only [hes] at hs
      exact soft (by simp [Go.A2.rd, hes]) (by simp [Go.A2.rd, hes]) (by simp [Go.A2.rd, hes]) hs
  | v s =>
    have hY := compX_slot (.inr hx)
    simp only [] at hs
    cases hes : e s with
    | val T v ov =>
      have other : (if ov.pure = true then some (outU o.dst (.val T v ov)) else if ov.alive = true then some ([(s, .val T v .no)] ++ outU o.dst (.val T v .no)) else none) = some us → (ov.pure = true → Go.A2.rd e (.v s) = .val T v ov) → next (a.put o.dst (a.eval Y)) w := fun hs hrd => by
        split at hs
        · rename_i hp
          have hrd := hrd hp
          exact soft (by simp [hrd]) (fun T' v' o' he => by rw [hrd] at he; cases he; exact hp) (by simp [hrd]) (by rw [hrd]; exact hs)
        · split at hs
          · rename_i hal
            cases hs
            subst hY
            obtain ⟨F1, S1, cx, g1, g2, g3, g4, _⟩ := h.freezeAt hX (s := s) (q := []) (by rw [hes]; rfl) rfl rfl rfl hal
            rw [hes] at g1
            obtain ⟨cs, k1, k2⟩ := g1.valAt (s := s) (by rw [upd_same]; rfl)
            obtain ⟨k3, _⟩ := k1.toPure rfl
            refine hnext _ _ ?_
            rw [applyU_append]
            exact g1.outV hd hg rfl (.pure k3) k2
          · cases hs
      have hpr : ov.pure = true → Go.A2.rd e (.v s) = .val T v ov := fun hp => by
        simp only [Go.A2.rd, hes]
        cases T <;> cases ov <;> first | rfl | cases hp
      simp only [hes] at hs
      cases T with
      | slice b t =>
        cases ov with
        | yes g' =>
          simp only [] at hs
          have hrd : Go.A2.rd e (.v s) = .ref s [] g' := by simp only [Go.A2.rd, hes]
          exact soft (by simp [hrd]) (by simp [hrd]) (by simp [hrd]) (by rw [hrd]; exact hs)
        | _ => exact other hs hpr
      | _ => exact other hs hpr
    | tup l => simp only [hes] at hs; cases hs
    | _ =>
      simp only [hes] at hs
      exact soft (by simp [Go.A2.rd, hes]) (by simp [Go.A2.rd, hes]) (by simp [Go.A2.rd, hes]) hs
end steps
end
end
end Go.A2
