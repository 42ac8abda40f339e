/- YtcinobbeapgklaaA2Op6: the store operation; new slices. No statement of the seat is proved here. -/
import Derived.Test.YtcinobbeapgklaaA2Op5
namespace Go.A2
section
variable {P : Program} {Γ : Cx}
section
variable {K : List Nat} {N : Slots} {F0 B U : Nat → Prop} {w0 : World} {F : Nat → Prop} {S : Nat → List Nat} {e : Env Γ.X} {a : Act} {w : World}
section steps
variable {T0 T1 T2 : Option Γ.X.Ty} {g : Nat} {o : Oper} {us : Ups Γ.X} {ans : Ret Γ.X} (hX : TabOk Γ.X) (h : EnvRel N F0 B U w0 F S e a w) (hg : ¬ U g) (hd : ∀ k, o.dst = some k → N.ok k)
variable {next : Act → World → Prop} {Q : Exit → Act → World → Prop} (hnext : ∀ a' w', Sim N F0 B (withG U g) w0 (applyU e us) a' w' → next a' w')
include hX h hg hd hnext

omit hd in
theorem step_store {t : TypeId} {T : Γ.X.Ty} {Y V : Operand} {x v : AX Γ.X} (ho : o.op = .store t Y V) (ht : tyC P Γ t = some T) (hx : compX Γ K T0 Y = some x) (hv : compX Γ K T1 V = some v) (hdn : o.dst = none)
    (hs : eff ans g e o.dst (.store T x v) = some us) : o.wp P a w next Q := by
  simp only [eff] at hs
  split at hs
  · rename_i T' v' m u hta
    split at hs
    · rename_i v1 hv1
      obtain ⟨rfl, hv1⟩ := castT_some hv1
      simp only at hv1; subst hv1
      cases hst : storeV (applyU e u) g T' (Go.A2.rd (applyU e u) x) v' m with
      | none => simp [hst] at hs
      | some us' =>
        simp only [hst, Option.map_some, Option.some.injEq] at hs
        obtain ⟨F1, S1, cs, R, k1, k2, k3, k4, k5, k6, k7, _⟩ := h.take hX hv hta
        generalize he1 : applyU e u = e1 at hst k1
        have hlen := k3.length hX
        have hone := k3.one
        have run : ∀ b off' cells ty, a.eval Y = .pointer (some ⟨b, off', none⟩) → w.heap[b]? = some (.cells cells ty (0, 0)) → off' + cs.length ≤ cells.size →
            (execOp a.eval o).run P w = .ok .skip (w.setRow b (cells.toList.take off' ++ cs ++ cells.toList.drop (off' + cs.length)).toArray) := fun b off' cells ty h2 h4 h5 => by
          have := run_storeVar2 (P := P) (o := off') ht k4 hlen hone h4 h5
          simp only [execOp, ho, Instr.storeAt, Instr.sureAddr, h2]
          simp [this]
        have fin : ∀ {b off' : Nat} {cells : Array Value} {ty : TypeId} {S2 : Nat → List Nat}, a.eval Y = .pointer (some ⟨b, off', none⟩) → w.heap[b]? = some (.cells cells ty (0, 0)) → off' + cs.length ≤ cells.size →
            EnvRel N F0 B (withG U g) w0 F1 S2 (applyU e1 us') a (w.setRow b (cells.toList.take off' ++ cs ++ cells.toList.drop (off' + cs.length)).toArray) → o.wp P a w next Q := fun {_ _ _ _ S2} h2 h4 h5 h6 => by
          unfold Oper.wp
          rw [run _ _ _ _ h2 h4 h5]
          show next (a.put o.dst Go.undef) _
          rw [hdn]
          refine hnext a _ (show Sim N F0 B (withG U g) w0 (applyU e us) a _ from ⟨F1, S2, ?_⟩)
          rw [← hs, applyU_append, he1]
          exact h6
        obtain ⟨Rp, p1, p2, _⟩ := k1.rd hX hx
        generalize hp : Go.A2.rd e1 x = pv at hst p1
        unfold storeV at hst
        split at hst
        · rename_i s g' q
          split at hst
          · rename_i g2 T0 v0 o0 hes
            split at hst
            · rename_i hgg
              subst hgg
              split at hst
              · rename_i v1 o1 hset hO
                cases hst
                generalize hu : a.eval Y = uu at p1
                cases p1 with
                | u h => cases h
                | ptrB _ _ _ _ hh =>
                  obtain ⟨b, q1, q2, q3⟩ := hh _ _ _ hes
                  obtain ⟨Tq, hTq⟩ := Option.isSome_iff_exists.1 q3
                  have := tyQ_of_setQ hset hTq
                  subst this
                  obtain ⟨b', cells, ty, S2, r1, r2, r3, r4⟩ := k1.writeBox hX hg hes hTq hset hO (OGen_gen g m) (k3.gen g) k5 k6 k7
                  rw [q1] at r1; cases r1
                  exact fin (hu.trans q2) r2 r3 r4
              · cases hst
            · cases hst
          · cases hst
        · rename_i s p g' i q
          split at hst
          · rename_i hpo
            obtain ⟨hvp, rfl⟩ := k3.toPure hpo
            split at hst
            · rename_i b t' l hc
              generalize hu : a.eval Y = uu at p1
              cases p1 with
              | u h => cases h
              | ptrE _ _ _ _ _ _ hpf hh =>
                obtain ⟨q1, q2, blk, n, c, q3, q4⟩ := hh _ _ _ hc
                obtain ⟨Tq, hTq⟩ := Option.isSome_iff_exists.1 q2
                have key : ∀ {T0 : Γ.X.Ty} {v0 v1 : Γ.X.den T0} {o0 : Own} {y : Γ.X.den t'}, slotC (e1 s) = some ⟨T0, v0, o0⟩ → setQ q t' (l.l.getD i (Γ.X.zero t')) T' v' = some y → setQ p T0 v0 (.slice b t') (l.set i y) = some v1 →
                    applyU e1 us' = upd e1 s (withV (e1 s) T0 v1 o0) → o.wp P a w next Q := fun {T0 v0 v1 o0 y} hes hset hset' hus => by
                  obtain rfl := tyQ_of_setQ hset hTq
                  obtain ⟨blk', n', c', cells, ty, S2, r1, r2, r3, r4⟩ := k1.writeElem hX (g0 := g) hpf hc hes q1 hTq hset hset' hvp
                  rw [q3] at r1; cases r1
                  exact fin (S2 := S2) (hu.trans q4) r2 r3 (by rw [hus]; exact r4)
                split at hst
                · rename_i y T0 v0 o0 hset hes
                  cases hset' : setQ p T0 v0 (.slice b t') (l.set i y) with
                  | none => rw [hset'] at hst; simp at hst
                  | some v1 =>
                    rw [hset'] at hst; cases hst
                    exact key (by rw [hes]; rfl) hset hset' (by rw [hes, applyU_one]; rfl)
                · rename_i y g3 T0 v0 o0 hset hes
                  cases hset' : setQ p T0 v0 (.slice b t') (l.set i y) with
                  | none => rw [hset'] at hst; simp at hst
                  | some v1 =>
                    rw [hset'] at hst; cases hst
                    exact key (by rw [hes]; rfl) hset hset' (by rw [hes, applyU_one]; rfl)
                · cases hst
            · cases hst
          · cases hst
        · cases hst
    · cases hs
  · cases hs
end steps
end
end
end Go.A2
