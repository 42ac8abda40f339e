/- YtcinobbeapgklaaA2Op5: stores. No statement of the seat is proved here. -/
import Derived.Test.YtcinobbeapgklaaA2Op4
namespace Go.A2
section
variable {P : Program} {Γ : Cx}

theorem tyQ_of_setQ : ∀ {q : List PS} {T0 T T' : Γ.X.Ty} {v0 v1 : Γ.X.den T0} {v : Γ.X.den T}, setQ q T0 v0 T v = some v1 → tyQ q T0 = some T' → T' = T
  | [], T0, T, T', v0, v1, v, h, ht => by
    simp only [tyQ, Option.some.injEq] at ht; subst ht
    simp only [setQ] at h
    obtain ⟨rfl, _⟩ := castT_some h
    rfl
  | .fld j :: q, .named i, T, T', v0, v1, v, h, ht => by
    simp only [tyQ] at ht
    simp only [setQ] at h
    split at h
    · rename_i t x hg
      rw [getT_type hg] at ht
      split at h
      · rename_i y hy
        exact tyQ_of_setQ hy ht
      · cases h
    · cases h
  | .idx k :: q, .arr n t, T, T', v0, v1, v, h, ht => by
    simp only [tyQ] at ht
    simp only [setQ] at h
    split at ht
    · cases hy : setQ q t (v0.l.getD k (Γ.X.zero t)) T v with
      | none => rw [hy] at h; cases h
      | some y => exact tyQ_of_setQ hy ht
    · cases ht
  | .fld _ :: _, .int _, _, _, _, _, _, h, _ | .fld _ :: _, .bool, _, _, _, _, _, h, _ | .fld _ :: _, .str, _, _, _, _, _, h, _ | .fld _ :: _, .arr _ _, _, _, _, _, _, h, _ | .fld _ :: _, .slice _ _, _, _, _, _, _, h, _ => by simp [setQ] at h
  | .idx _ :: _, .int _, _, _, _, _, _, h, _ | .idx _ :: _, .bool, _, _, _, _, _, h, _ | .idx _ :: _, .str, _, _, _, _, _, h, _ | .idx _ :: _, .named _, _, _, _, _, _, h, _ | .idx _ :: _, .slice _ _, _, _, _, _, _, h, _ => by simp [setQ] at h

theorem putL_self : ∀ {l : List Own} {j : Nat} {g : Nat}, l.getD j .no = .yes g ∨ (∃ m, l.getD j .no = .st m) → putL l j (l.getD j .no) = l
  | [], j, g, h => by simp at h
  | o :: l, 0, g, h => rfl
  | o :: l, j + 1, g, h => by
    simp only [putL, List.getD_cons_succ] at h ⊢
    rw [putL_self (g := g) h]
theorem setO_self : ∀ {q : List PS} {o : Own} {g : Nat}, onlyFld q = true → ownAt o q = .yes g → setO o q (.yes g) = some o
  | [], o, g, _, h => by simp only [ownAt] at h; subst h; rfl
  | .idx _ :: _, _, _, h, _ => by simp [onlyFld] at h
  | .fld j :: q, o, g, hf, h => by
    simp only [ownAt] at h
    have hf : onlyFld q = true := by simpa [onlyFld] using hf
    have ih := setO_self hf h
    cases o with
    | st l =>
      simp only [setO, Own.fldD] at ih ⊢
      rw [ih]
      have hcase : l.getD j .no = .yes g ∨ ∃ m, l.getD j .no = .st m := by
        simp only [Own.fldD] at h
        generalize l.getD j .no = x at h
        cases x with
        | st m => exact .inr ⟨m, rfl⟩
        | yes g' =>
          cases q with
          | nil => simp only [ownAt] at h; exact .inl h
          | cons p q => cases p with
            | fld k => exact (ownAt_gen (P := fun _ => False) (o := .no) trivial h).elim
            | idx k => simp [onlyFld] at hf
        | full =>
          cases q with
          | nil => cases h
          | cons p q => cases p with
            | fld k => exact (ownAt_gen (P := fun _ => False) (o := .no) trivial h).elim
            | idx k => simp [onlyFld] at hf
        | no => exact (ownAt_gen (P := fun _ => False) (o := .no) trivial h).elim
        | dead => exact (ownAt_gen (P := fun _ => False) (o := .dead) trivial h).elim
      have hn : (l.getD j .no).isNo = false := by rcases hcase with h | ⟨m, h⟩ <;> rw [h] <;> rfl
      simp only [hn, Bool.false_and, Bool.false_eq_true, if_false, Own.list, putL_self hcase]
      split
      · rename_i hall
        have := all_isNo hall j
        rw [this] at hn; cases hn
      · rfl
    | dead => exact (ownAt_gen (P := fun _ => False) (o := .dead) trivial h).elim
    | _ => exact (ownAt_gen (P := fun _ => False) (o := .no) trivial h).elim
theorem setO_no : ∀ {q : List PS}, setO .no q .no = some .no
  | [] => rfl
  | .fld j :: q => by simp only [setO, Own.fldD]; rw [setO_no (q := q)]; rfl
  | .idx j :: q => rfl

section
variable {K : List Nat} {N : Slots} {F0 B U : Nat → Prop} {w0 : World} {F : Nat → Prop} {S : Nat → List Nat} {e : Env Γ.X} {a : Act} {w : World}

theorem run_storeVar2 {t : TypeId} {T : Γ.X.Ty} {b o : Nat} {v : Value} {cs : List Value} {cells : Array Value} {ty : TypeId} (ht : tyC P Γ t = some T) (hv : valOk T cs v) (hlen : cs.length = Γ.X.sz T) (h1 : ∀ u ∈ cs, u.oneCell' = true) (hg : w.heap[b]? = some (.cells cells ty (0, 0)))
    (hfit : o + cs.length ≤ cells.size) :
    (storeVar t ⟨b, o, none⟩ v).run P w = .ok () (w.setRow b (cells.toList.take o ++ cs ++ cells.toList.drop (o + cs.length)).toArray) := by
  have hc : v.cells = cs.toArray := valOk_cells' hv h1
  have hm : v.cells.size = Γ.X.sz T := by rw [hc]; simpa using hlen
  unfold storeVar
  simp only [Sem.run_bind, run_sizeO (tyC_some ht).2.1, Result.andThen_ok, hm, ne_eq, not_true_eq_false, if_false]
  have := run_storeCells_at (P := P) b o ty v.cells.toList 0 cells w hg (by rw [hc]; simpa using hfit) (by rw [hc]; simpa using h1)
  rw [hc] at this ⊢
  simpa using this

theorem row_other {w : World} {b : Nat} {cs : Array Value} {k : Nat} (h : k ≠ b) : (w.setRow b cs).heap[k]? = w.heap[k]? := setRow_other w b k cs h
theorem belowP_setRow {B : Nat → Prop} {b : Nat} (h : B b) (w : World) (cs : Array Value) : BelowP B w (w.setRow b cs) :=
  ⟨rfl, rfl, rfl, by simp, fun k _ hk => setRow_other w b k cs fun hkb => hk (hkb ▸ h)⟩

/-- A variable's place is written. -/
theorem EnvRel.writeBox (hX : TabOk Γ.X) (h : EnvRel N F0 B U w0 F S e a w) {s g g0 : Nat} (hg0 : ¬ U g0) {T0 T : Γ.X.Ty} {v0 v1 : Γ.X.den T0} {o0 o1 : Own} {q : List PS} {v : Γ.X.den T} {o' : Own} {cs : List Value} {R : List Nat}
    (hes : e s = .box g T0 v0 o0) (ht : tyQ q T0 = some T) (hset : setQ q T0 v0 T v = some v1) (hO : setO o0 q o' = some o1) (hgen : OGen (· = g0) o') (hv : VRep w F T v o' cs R) (hnd : R.Nodup)
    (hR : ∀ b ∈ R, B b ∧ b < w.heap.size ∧ ¬ F b) (hap : ∀ b ∈ R, ∀ s, b ∉ S s) :
    ∃ b cells ty S', a.tmps.getD s Go.undef = .pointer (some ⟨b, 0, none⟩) ∧ w.heap[b]? = some (.cells cells ty (0, 0)) ∧ offQ q T0 + cs.length ≤ cells.size ∧
      EnvRel N F0 B (withG U g0) w0 F S' (upd e s (.box g T0 v1 o1)) a (w.setRow b (cells.toList.take (offQ q T0) ++ cs ++ cells.toList.drop (offQ q T0 + cs.length)).toArray) := by
  obtain ⟨b, cells, ty, S', k1, k2, k3, k4⟩ := h.boxAt hes
  obtain ⟨x, hx⟩ := getQ_of_tyQ v0 ht
  obtain ⟨c1, cx, c2, S1, Sx, S2, e1, e2, e3, e4, e5⟩ := k3.lens hX ht hx
  have hlx := e4.length hX
  have hlv := hv.length hX
  have hall := k3.length hX
  have hfit : offQ q T0 + cs.length ≤ cells.size := by
    rw [← Array.length_toList, e1, ← e2, hlv, ← hlx]
    simp
  refine ⟨b, cells, ty, updS S s (b :: (S1 ++ R ++ S2)), k1, k2, hfit, ?_⟩
  have hcs : cells.toList.take (offQ q T0) ++ cs ++ cells.toList.drop (offQ q T0 + cs.length) = c1 ++ cs ++ c2 := by
    rw [e1, ← e2, hlv, ← hlx]
    simp
  rw [hcs]
  have hbS : b ∈ S s := by rw [k4]; simp
  obtain ⟨hBb, hbw, hbF⟩ := h.own s b hbS
  have hnS := h.nodup s
  rw [k4] at hnS
  obtain ⟨hbS', hnS'⟩ := List.nodup_cons.1 hnS
  have hbR : b ∉ R := fun hb => hap b hb s hbS
  have hF' : ∀ b', F b' → (w.setRow b (c1 ++ cs ++ c2).toArray).heap[b']? = w.heap[b']? := fun b' hb' => row_other fun he => hbF (he ▸ hb')
  have hoth : ∀ t, t ≠ s → ∀ b' ∈ S t, (w.setRow b (c1 ++ cs ++ c2).toArray).heap[b']? = w.heap[b']? := fun t hts b' hb' => row_other fun he => h.apart t s b' hts hb' (he ▸ hbS)
  have hnew : (w.setRow b (c1 ++ cs ++ c2).toArray).heap[b]? = some (.cells (c1 ++ cs ++ c2).toArray ty (0, 0)) := setRow_heap w b cells _ ty (0, 0) k2
  have hne : ∀ g', U g' → OGen (· ≠ g') o' := fun g' hg => hgen.imp (Q := fun x => x ≠ g') fun x (hx : x = g0) (hxg : x = g') => hg0 (by rw [show g0 = g' from hx.symm.trans hxg]; exact hg)
  have hk : Kept U e a w (upd e s (.box g T0 v1 o1)) a (w.setRow b (c1 ++ cs ++ c2).toArray) := by
    refine h.keptSlot (v' := v1) (o' := o1) (.inr ⟨g, hes, rfl⟩) hoth (fun q' g' bb t l' hf hg ho hgq => ?_) (fun q' g' hf hg ho hgq => ?_)
    · obtain ⟨_, h2, h3⟩ := turned hX ht hset hO hf hgq ho (hne g' hg)
      exact ⟨l', h2, h3, rfl⟩
    · obtain ⟨bb, t, l, hy⟩ := hgq
      obtain ⟨hd, h2, h3⟩ := turned hX ht hset hO hf hy ho (hne g' hg)
      have hoff := off_div hX hd ht (tyQ_of_getQ hf h3)
      simp only [Tab.sz] at hoff
      unfold hdr
      rw [upd_same, hes, k1]
      simp only []
      rw [cell_of hnew, cell_of k2]
      simp only [List.getElem?_toArray]
      rw [← Array.getElem?_toList, e1]
      rcases hoff with hoff | hoff
      · rw [List.append_assoc, List.append_assoc, List.getElem?_append_left (by omega), List.getElem?_append_left (by omega)]
      · rw [List.getElem?_append_right (by simp; omega), List.getElem?_append_right (by simp; omega)]
        simp [hlv, hlx]
  have hSp : ∀ b', b' ∈ S1 ++ R ++ S2 → b' ∈ S' ∨ b' ∈ R := fun b' hb' => by
    rw [e3]
    simp only [List.mem_append] at hb' ⊢
    rcases hb' with (hb' | hb') | hb'
    · exact .inl (.inl (.inl hb'))
    · exact .inr hb'
    · exact .inl (.inr hb')
  have hSs : ∀ b', b' ∈ S' → b' ∈ S s := fun b' hb' => by rw [k4]; simp [hb']
  refine h.turn (F' := F) rfl rfl (fun _ _ => rfl) (fun _ _ => rfl) hk (fun g hg => .inl hg) (fun _ h => h) hF' hoth (belowP_setRow hBb w _) (fun b' hb' => .inl hb') ?_ ?_ trivial ?_ ?_ ?_
  · rw [k1]
    refine .box g T0 v1 o1 b _ ty _ hnew ?_
    simp only
    refine e5 _ F v o' o1 cs R v1 (fun _ h => h) hF' (fun b' hb' _ => row_other fun he => hbS' (he ▸ hb')) hnS' (hv.mono (fun _ h => h) hF' fun b' hb' => row_other fun he => hbR (he ▸ hb')) hset hO
  · have := h.owns s
    rw [hes] at this
    exact ⟨.inl this.1, OGen_setO hO (this.2.imp fun _ h => .inl h) (hgen.imp fun _ h => .inr h)⟩
  · refine List.nodup_cons.2 ⟨fun hb => ?_, ?_⟩
    · rcases hSp b hb with hb | hb
      · exact hbS' hb
      · exact hbR hb
    · rw [e3] at hnS'
      obtain ⟨n1, n2, n3⟩ := nodup_parts hnS'
      obtain ⟨m1, m2, m3⟩ := List.nodup_append.1 n1
      have hRS : ∀ x ∈ R, x ∉ S' := fun x hx hxs => hap x hx s (hSs x hxs)
      refine List.nodup_append.2 ⟨List.nodup_append.2 ⟨m1, hnd, fun x hx y hy hxy => ?_⟩, m2, fun x hx y hy hxy => ?_⟩
      · subst hxy; exact hRS x hy (by rw [e3]; simp [hx])
      · subst hxy
        rcases List.mem_append.1 hx with hx | hx
        · exact m3 x hx x hy rfl
        · exact hRS x hx (by rw [e3]; simp [hy])
  · intro b' hb'
    rcases List.mem_cons.1 hb' with rfl | hb'
    · exact ⟨hBb, by simpa using hbw, hbF⟩
    · rcases hSp b' hb' with hb' | hb'
      · obtain ⟨q1, q2, q3⟩ := h.own s b' (hSs b' hb'); exact ⟨q1, by simpa using q2, q3⟩
      · obtain ⟨q1, q2, q3⟩ := hR b' hb'; exact ⟨q1, by simpa using q2, q3⟩
  · intro b' hb' t hts
    rcases List.mem_cons.1 hb' with rfl | hb'
    · exact h.apart s t _ (Ne.symm hts) hbS
    · rcases hSp b' hb' with hb' | hb'
      · exact h.apart s t b' (Ne.symm hts) (hSs b' hb')
      · exact hap b' hb' t

/-- An owned slice with an element: its block. -/
theorem own_inv {w : World} {F : Nat → Prop} {b g : Nat} {t : Γ.X.Ty} {l : Sl b (Γ.X.den t)} {u : Value} {Sx : List Nat} (h : VRep w F (.slice b t) l (.yes g) [u] Sx) (hne : l.l ≠ []) :
    ∃ (blk cap : Nat) (cells : Array Value) (ty : TypeId) (css : Nat → List Value), u = .slice (some ⟨blk, 0, none⟩) l.l.length cap ∧ Sx = [blk] ∧ w.heap[blk]? = some (.cells cells ty (0, 0)) ∧ cells.size = cap * Γ.X.sz t ∧ l.l.length ≤ cap ∧ cap ≤ maxLen ∧
      (∀ (i j : Nat) u, i < l.l.length → (css i)[j]? = some u → cells[i * Γ.X.sz t + j]? = some u) ∧ ∀ (i : Nat) x, l.l[i]? = some x → PRep w F t x (css i) := by
  have key : ∀ {T : Γ.X.Ty} {v : Γ.X.den T} {o : Own} {cs : List Value} {S : List Nat}, VRep w F T v o cs S → T = .slice b t → HEq v l → o = .yes g → cs = [u] → S = Sx →
      ∃ (blk cap : Nat) (cells : Array Value) (ty : TypeId) (css : Nat → List Value), u = .slice (some ⟨blk, 0, none⟩) l.l.length cap ∧ Sx = [blk] ∧ w.heap[blk]? = some (.cells cells ty (0, 0)) ∧ cells.size = cap * Γ.X.sz t ∧ l.l.length ≤ cap ∧ cap ≤ maxLen ∧
        (∀ (i j : Nat) u, i < l.l.length → (css i)[j]? = some u → cells[i * Γ.X.sz t + j]? = some u) ∧ ∀ (i : Nat) x, l.l[i]? = some x → PRep w F t x (css i) := fun hv hT hvl ho hcs hS => by
    cases hv with
    | ownNil b' t' v g' ad hv =>
      cases hT; cases hvl
      exact absurd hv hne
    | own b' t' v g' blk cap cells ty css hg hsz hcap hmx hcc hp =>
      cases hT; cases hvl
      simp only [List.cons.injEq, and_true] at hcs
      exact ⟨blk, cap, cells, ty, css, hcs.symm, hS.symm, hg, hsz, hcap, hmx, hcc, hp⟩
    | pure => cases ho
    | full => cases ho
    | st => cases ho
    | dead => cases ho
  exact key h rfl HEq.rfl rfl rfl rfl

def withV (x : AV Γ.X) (T : Γ.X.Ty) (v : Γ.X.den T) (o : Own) : AV Γ.X :=
  match x with
  | .box g _ _ _ => .box g T v o
  | _ => .val T v o

/-- An element of an owned slice is written. -/
theorem EnvRel.writeElem (hX : TabOk Γ.X) (h : EnvRel N F0 B U w0 F S e a w) {s g g0 : Nat} {p q : List PS} {b i : Nat} {t T0 T : Γ.X.Ty} {v0 v1 : Γ.X.den T0} {o0 : Own} {l : Sl b (Γ.X.den t)} {v : Γ.X.den T} {y : Γ.X.den t} {cs : List Value}
    (hp : onlyFld p = true) (hc : cont e s p g = some ⟨b, t, l⟩) (hes : slotC (e s) = some ⟨T0, v0, o0⟩) (hi : i < l.l.length) (ht : tyQ q t = some T) (hset : setQ q t (l.l.getD i (Γ.X.zero t)) T v = some y)
    (hset' : setQ p T0 v0 (.slice b t) (l.set i y) = some v1) (hv : PRep w F T v cs) :
    ∃ blk n c cells ty S', hdr e a w s p = some (.slice (some ⟨blk, 0, none⟩) n c) ∧ w.heap[blk]? = some (.cells cells ty (0, 0)) ∧ (i * Γ.X.sz t + offQ q t) + cs.length ≤ cells.size ∧
      EnvRel N F0 B (withG U g0) w0 F S' (upd e s (withV (e s) T0 v1 o0)) a (w.setRow blk (cells.toList.take (i * Γ.X.sz t + offQ q t) ++ cs ++ cells.toList.drop (i * Γ.X.sz t + offQ q t + cs.length)).toArray) := by
  obtain ⟨T', v', o', h1, h2, h3⟩ := cont_some hc
  rw [hes] at h1; cases h1
  have htp := tyQ_of_getQ hp h2
  obtain ⟨u, Sx, k1, k2, k3⟩ := h.ownSl hX hc hp
  obtain ⟨blk, cap, cells, ty, css, e1, e2, e3, e4, e5, e6, e7, e8⟩ := own_inv k1 (by intro hn; rw [hn] at hi; simp at hi)
  subst e1 e2
  have hblk : blk ∈ S s := k3 blk (by simp)
  obtain ⟨hBb, hbw, hbF⟩ := h.own s blk hblk
  -- the element
  obtain ⟨x, hx⟩ := getQ_of_tyQ (l.l.getD i (Γ.X.zero t)) ht
  obtain ⟨c1, cx, c2, S1, Sx, S2, q1, q2, q3, q4, q5⟩ := (VRep.pure (e8 i _ (getD_dflt _ hi))).lens hX ht hx
  have hlx := q4.length hX
  have hlv := hv.length hX
  have hli := (e8 i _ (getD_dflt (Γ.X.zero t) hi)).length hX
  rw [q1] at hli
  simp only [List.length_append, q2, hlx] at hli
  have hrow : (i + 1) * Γ.X.sz t ≤ cap * Γ.X.sz t := Nat.mul_le_mul_right _ (by omega)
  rw [Nat.succ_mul] at hrow
  have hfit : (i * Γ.X.sz t + offQ q t) + cs.length ≤ cells.size := by rw [e4, hlv]; omega
  generalize hnc : cells.toList.take (i * Γ.X.sz t + offQ q t) ++ cs ++ cells.toList.drop (i * Γ.X.sz t + offQ q t + cs.length) = nc
  have hncl : nc.length = cells.size := by rw [← hnc]; simp; omega
  have hnin : ∀ (j : Nat) u, cs[j]? = some u → nc[i * Γ.X.sz t + offQ q t + j]? = some u := fun j u hj => by
    have hjl : j < cs.length := (List.getElem?_eq_some_iff.1 hj).1
    rw [← hnc, List.append_assoc, List.getElem?_append_right (by simp; omega), List.getElem?_append_left (by simp; omega)]
    rw [← hj]; congr 1; simp; omega
  have hnout : ∀ m, m < i * Γ.X.sz t + offQ q t ∨ i * Γ.X.sz t + offQ q t + cs.length ≤ m → nc[m]? = cells[m]? := fun m hm => by
    rw [← hnc]
    rcases hm with hm | hm
    · rw [List.append_assoc, List.getElem?_append_left (by simp; omega), List.getElem?_take_of_lt hm, Array.getElem?_toList]
    · rw [List.getElem?_append_right (by simp; omega), List.getElem?_drop, ← Array.getElem?_toList]
      congr 1; simp; omega
  have hnew : (w.setRow blk nc.toArray).heap[blk]? = some (.cells nc.toArray ty (0, 0)) := setRow_heap w blk cells _ ty (0, 0) e3
  have hF' : ∀ b', F b' → (w.setRow blk nc.toArray).heap[b']? = w.heap[b']? := fun b' hb' => row_other fun he => hbF (he ▸ hb')
  have hoth : ∀ t, t ≠ s → ∀ b' ∈ S t, (w.setRow blk nc.toArray).heap[b']? = w.heap[b']? := fun t hts b' hb' => row_other fun he => h.apart t s b' hts hb' (he ▸ hblk)
  -- the new slice
  have hy : PRep (w.setRow blk nc.toArray) F t y (c1 ++ cs ++ c2) := by
    have := q5 (w.setRow blk nc.toArray) F v .no .no cs [] y (fun _ h => h) hF' (by simp) List.nodup_nil (.pure (hv.mono (fun _ h => h) hF')) hset setO_no
    exact (this.toPure rfl).1
  have hsl : VRep (w.setRow blk nc.toArray) F (.slice b t) (l.set i y) (.yes g) [.slice (some ⟨blk, 0, none⟩) l.l.length cap] [blk] := by
    have hll : (l.set i y).l.length = l.l.length := List.length_set
    have := VRep.own (w := w.setRow blk nc.toArray) (F := F) b t (l.set i y) g blk cap nc.toArray ty (fun k => if k = i then c1 ++ cs ++ c2 else css k) hnew (by simpa [hncl] using e4) (by rw [hll]; exact e5) e6
      (fun k j u hk hj => by
        rw [hll] at hk
        simp only [List.getElem?_toArray]
        by_cases hki : k = i
        · subst hki
          simp only [if_true] at hj
          have old : ∀ u', (c1 ++ cx ++ c2)[j]? = some u' → cells[k * Γ.X.sz t + j]? = some u' := fun u' hu' => e7 k j u' hk (by rw [q1]; exact hu')
          by_cases hj1 : j < c1.length
          · rw [List.append_assoc, List.getElem?_append_left hj1] at hj
            rw [hnout _ (.inl (by omega))]
            exact old u (by rw [List.append_assoc, List.getElem?_append_left hj1]; exact hj)
          · by_cases hj2 : j < c1.length + cs.length
            · rw [List.append_assoc, List.getElem?_append_right (by omega), List.getElem?_append_left (by omega)] at hj
              have := hnin _ _ hj
              rw [← this]; congr 1; omega
            · rw [List.getElem?_append_right (by simp; omega)] at hj
              rw [hnout _ (.inr (by omega))]
              refine old u ?_
              rw [List.getElem?_append_right (by simp; omega), ← hj]
              congr 1; simp; omega
        · simp only [hki, if_false] at hj
          have hkl : (css k).length = Γ.X.sz t := (e8 k _ (getD_dflt (Γ.X.zero t) hk)).length hX
          have hjl : j < (css k).length := (List.getElem?_eq_some_iff.1 hj).1
          rw [hnout _ ?_]
          · exact e7 k j u hk hj
          · rcases Nat.lt_or_gt_of_ne hki with hlt | hgt
            · have : (k + 1) * Γ.X.sz t ≤ i * Γ.X.sz t := Nat.mul_le_mul_right _ hlt
              rw [Nat.succ_mul] at this
              exact .inl (by omega)
            · have : (i + 1) * Γ.X.sz t ≤ k * Γ.X.sz t := Nat.mul_le_mul_right _ hgt
              rw [Nat.succ_mul] at this
              exact .inr (by omega))
      (fun k x hk => by
        by_cases hki : k = i
        · subst hki
          rw [show (l.set k y).l = l.l.set k y from rfl, List.getElem?_set_self hi] at hk
          cases hk
          simp only [if_true]
          exact hy
        · rw [show (l.set i y).l = l.l.set i y from rfl, List.getElem?_set_ne (Ne.symm hki)] at hk
          simp only [hki, if_false]
          exact (e8 k x hk).mono (fun _ h => h) hF')
    rw [hll] at this
    exact this
  have hms : setO o0 p (.yes g) = some o0 := setO_self hp h3
  -- what references say
  have hsl2 : ∀ q' g' b' t' l', onlyFld q' = true → ownAt o0 q' = .yes g' → getQ q' T0 v1 = some ⟨.slice b' t', l'⟩ → ∃ l0 : Sl b' (Γ.X.den t'), getQ q' T0 v0 = some ⟨.slice b' t', l0⟩ ∧ l0.l.length = l'.l.length := fun q' g' b' t' l' hf ho hgq => by
    rcases path_cases htp hf (tyQ_of_getQ hf hgq) with ⟨r, rfl, hr⟩ | hd
    · have hap : ∀ {p : List PS} {T0 T1 : Γ.X.Ty} {v0 v1 : Γ.X.den T0} {x : Γ.X.den T1}, onlyFld p = true → setQ p T0 v0 T1 x = some v1 → getQ p T0 v1 = some ⟨T1, x⟩ := fun {p} => by
        induction p with
        | nil => intro T0 T1 v0 v1 x _ h; simp only [setQ] at h; obtain ⟨rfl, h⟩ := castT_some h; simp only at h; subst h; rfl
        | cons c p ih =>
          intro T0 T1 v0 v1 x hf h
          cases c with
          | idx => simp [onlyFld] at hf
          | fld j =>
            cases T0 with
            | named i =>
              obtain ⟨t, x', z, _, z2, z3, _⟩ := setQ_fld hX h
              simp only [getQ]; rw [z3]
              exact ih (by simpa [onlyFld] using hf) z2
            | _ => simp [setQ] at h
      have hgp := hap hp hset'
      have happ : ∀ {p r : List PS} {T0 T1 : Γ.X.Ty} {v0 : Γ.X.den T0} {x : Γ.X.den T1}, getQ p T0 v0 = some ⟨T1, x⟩ → getQ (p ++ r) T0 v0 = getQ r T1 x := fun {p r} => by
        induction p with
        | nil => intro T0 T1 v0 x h; simp only [getQ, Option.some.injEq, Sigma.mk.injEq] at h; obtain ⟨rfl, h⟩ := h; cases h; rfl
        | cons c p ih =>
          intro T0 T1 v0 x h
          cases c with
          | fld j => cases T0 with
            | named i =>
              simp only [List.cons_append, getQ] at h ⊢
              split at h
              · rename_i t z hz
                exact ih h
              · cases h
            | _ => simp [getQ] at h
          | idx k => cases T0 with
            | arr n t' => simp only [List.cons_append, getQ] at h ⊢; exact ih h
            | _ => simp [getQ] at h
      rw [happ hgp] at hgq
      cases r with
      | nil =>
        simp only [getQ] at hgq
        cases hgq
        exact ⟨l, by rw [List.append_nil]; exact h2, by simp [Sl.set]⟩
      | cons c r => cases c <;> simp [getQ] at hgq
    · exact ⟨l', (getQ_div hX hd hset').symm.trans hgq, rfl⟩
  have hSsub : ∀ b', b' ∈ S s → b' ≠ blk → (w.setRow blk nc.toArray).heap[b']? = w.heap[b']? := fun b' _ hne => row_other hne
  have own' : ∀ b' ∈ S s, B b' ∧ b' < (w.setRow blk nc.toArray).heap.size ∧ ¬ F b' := fun b' hb' => by
    obtain ⟨z1, z2, z3⟩ := h.own s b' hb'; exact ⟨z1, by simpa using z2, z3⟩
  refine ⟨blk, l.l.length, cap, cells, ty, S, k2, e3, hfit, ?_⟩
  rw [hnc]
  have hS' : updS S s (S s) = S := by funext z; unfold updS; split <;> simp_all
  rw [← hS']
  rcases slotC_some hes with hv0 | ⟨gb, hv0⟩
  · -- in a slot
    have hwv : withV (e s) T0 v1 o0 = .val T0 v1 o0 := by rw [hv0]; rfl
    rw [hwv]
    have hk : Kept U e a w (upd e s (.val T0 v1 o0)) a (w.setRow blk nc.toArray) := by
      refine h.keptSlot (v' := v1) (o' := o0) (.inl ⟨hv0, rfl⟩) hoth (fun q' g' bb t' l' hf hg ho hgq => ?_) (fun q' g' hf hg ho hgq => ?_)
      · obtain ⟨l0, z1, z2⟩ := hsl2 q' g' bb t' l' hf ho hgq
        exact ⟨l0, ho, z1, z2⟩
      · unfold hdr; rw [upd_same, hv0]
    obtain ⟨cs0, z1, z2⟩ := h.valAt hv0
    obtain ⟨d1, dx, d2, D1, Dx, D2, y1, y2, y3, y4, y5⟩ := z1.lens hX htp h2
    have hdx : dx = [.slice (some ⟨blk, 0, none⟩) l.l.length cap] := by
      have hl := y4.length hX
      simp only [Tab.sz] at hl
      cases dx with
      | nil => simp at hl
      | cons c dx => cases dx with
        | cons => simp at hl
        | nil =>
          have hcs : (a.tmps.getD s Go.undef).cells.toList = cs0 := valOk_cells z2 z1.one
          unfold hdr at k2
          rw [hv0] at k2
          simp only [] at k2
          rw [← Array.getElem?_toList, hcs, y1, ← y2] at k2
          simp at k2
          rw [k2]
    have hDx : Dx = [blk] := by
      rw [h3, hdx] at y4
      obtain ⟨blk', _, _, _, _, w1, w2, _⟩ := own_inv y4 (by intro hn; rw [hn] at hi; simp at hi)
      cases w1; exact w2
    have hnd := h.nodup s
    refine h.turn (F' := F) rfl rfl (fun _ _ => rfl) (fun _ _ => rfl) hk (fun g hg => .inl hg) (fun _ h => h) hF' hoth (belowP_setRow hBb w _) (fun b' hb' => .inl hb') ?_ ?_ trivial hnd own' (fun b' hb' t hts => h.apart s t b' (Ne.symm hts) hb')
    · have := y5 (w.setRow blk nc.toArray) F (l.set i y) (.yes g) o0 [.slice (some ⟨blk, 0, none⟩) l.l.length cap] [blk] v1 (fun _ h => h) hF' (fun b' hb' hn => row_other fun he => hn (by rw [hDx, he]; simp)) hnd hsl hset' hms
      rw [← hdx, ← y1] at this
      rw [← hDx, ← y3] at this
      exact .u (.val T0 v1 o0 _ cs0 _ this z2)
    · have := h.owns s
      rw [hv0] at this
      exact this.imp fun _ h => .inl h
  · -- in a variable
    have hwv : withV (e s) T0 v1 o0 = .box gb T0 v1 o0 := by rw [hv0]; rfl
    rw [hwv]
    obtain ⟨bb, bc, bty, S', z1, z2, z3, z4⟩ := h.boxAt hv0
    have hnd := h.nodup s
    have hnd0 := hnd
    rw [z4] at hnd0
    obtain ⟨hbn, hnd1⟩ := List.nodup_cons.1 hnd0
    obtain ⟨d1, dx, d2, D1, Dx, D2, y1, y2, y3, y4, y5⟩ := z3.lens hX htp h2
    have hdx : dx = [.slice (some ⟨blk, 0, none⟩) l.l.length cap] := by
      have hl := y4.length hX
      simp only [Tab.sz] at hl
      cases dx with
      | nil => simp at hl
      | cons c dx => cases dx with
        | cons => simp at hl
        | nil =>
          unfold hdr at k2
          rw [hv0] at k2
          simp only [z1] at k2
          rw [cell_of z2, ← Array.getElem?_toList, y1, ← y2] at k2
          simp at k2
          rw [k2]
    have hDx : Dx = [blk] := by
      rw [h3, hdx] at y4
      obtain ⟨blk', _, _, _, _, w1, w2, _⟩ := own_inv y4 (by intro hn; rw [hn] at hi; simp at hi)
      cases w1; exact w2
    have hbb : bb ≠ blk := fun he => hbn (by rw [he, y3, hDx]; simp)
    have hkeep : (w.setRow blk nc.toArray).heap[bb]? = w.heap[bb]? := row_other hbb
    have hk : Kept U e a w (upd e s (.box gb T0 v1 o0)) a (w.setRow blk nc.toArray) := by
      refine h.keptSlot (v' := v1) (o' := o0) (.inr ⟨gb, hv0, rfl⟩) hoth (fun q' g' bb t' l' hf hg ho hgq => ?_) (fun q' g' hf hg ho hgq => ?_)
      · obtain ⟨l0, z1, z2⟩ := hsl2 q' g' bb t' l' hf ho hgq
        exact ⟨l0, ho, z1, z2⟩
      · unfold hdr; rw [upd_same, hv0]
        simp only [z1]
        exact World.cell?_of_block (w := w) hkeep
    refine h.turn (F' := F) rfl rfl (fun _ _ => rfl) (fun _ _ => rfl) hk (fun g hg => .inl hg) (fun _ h => h) hF' hoth (belowP_setRow hBb w _) (fun b' hb' => .inl hb') ?_ ?_ trivial hnd own' (fun b' hb' t hts => h.apart s t b' (Ne.symm hts) hb')
    · have := y5 (w.setRow blk nc.toArray) F (l.set i y) (.yes g) o0 [.slice (some ⟨blk, 0, none⟩) l.l.length cap] [blk] v1 (fun _ h => h) hF' (fun b' hb' hn => row_other fun he => hn (by rw [hDx, he]; simp)) hnd1 hsl hset' hms
      rw [← hdx, ← y1] at this
      rw [← hDx, ← y3] at this
      rw [z1, z4]
      exact .box gb T0 v1 o0 bb bc bty S' (hkeep.trans z2) this
    · have := h.owns s
      rw [hv0] at this
      exact ⟨.inl this.1, this.2.imp fun _ h => .inl h⟩
end
end
end Go.A2
