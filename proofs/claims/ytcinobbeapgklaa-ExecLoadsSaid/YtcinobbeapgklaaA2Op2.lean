/- YtcinobbeapgklaaA2Op2: more operations: elements, parts, loads, moves, new variables. No statement of the seat is proved here. -/
import Derived.Test.YtcinobbeapgklaaA2Op
namespace Go.A2
section
variable {P : Program} {Γ : Cx}
section
variable {K : List Nat} {N : Slots} {F0 B U : Nat → Prop} {w0 : World} {F : Nat → Prop} {S : Nat → List Nat} {e : Env Γ.X} {a : Act} {w : World}

theorem cell_of {b i : Nat} {cells : Array Value} {ty : TypeId} {fr : Nat × Nat} (hg : w.heap[b]? = some (.cells cells ty fr)) : w.cell? ⟨b, i, none⟩ = cells[i]? := by
  simp [World.cell?, hg]

/-- A place of a slot. -/
theorem EnvRel.place (hX : TabOk Γ.X) (h : EnvRel N F0 B U w0 F S e a w) {s : Nat} {T T' : Γ.X.Ty} {v : Γ.X.den T} {o : Own} {q : List PS} {x : Γ.X.den T'} (hs : slotC (e s) = some ⟨T, v, o⟩) (ht : tyQ q T = some T') (hx : getQ q T v = some ⟨T', x⟩) :
    ∃ cx Sx, VRep w F T' x (ownAt o q) cx Sx ∧ (∀ b ∈ Sx, b ∈ S s) ∧ (∀ u, cx = [u] → hdr e a w s q = some u) := by
  rcases slotC_some hs with hes | ⟨g, hes⟩
  · obtain ⟨cs, k1, k2⟩ := h.valAt hes
    obtain ⟨c1, cx, c2, S1, Sx, S2, e1, e2, e3, e4, _⟩ := k1.lens hX ht hx
    refine ⟨cx, Sx, e4, fun b hb => by rw [e3]; simp [hb], fun u hu => ?_⟩
    unfold hdr
    rw [hes]
    have : (a.tmps.getD s Go.undef).cells.toList = cs := valOk_cells k2 k1.one
    show (a.tmps.getD s Go.undef).cells[offQ q T]? = some u
    rw [← Array.getElem?_toList, this, e1, hu, ← e2]
    simp
  · obtain ⟨b0, cells, ty, S', k1, k2, k3, k4⟩ := h.boxAt hes
    obtain ⟨c1, cx, c2, S1, Sx, S2, e1, e2, e3, e4, _⟩ := k3.lens hX ht hx
    refine ⟨cx, Sx, e4, fun b hb => by rw [k4, e3]; simp [hb], fun u hu => ?_⟩
    unfold hdr
    rw [hes]
    simp only [k1]
    show w.cell? ⟨b0, offQ q T, none⟩ = some u
    simp only [World.cell?, k2]
    show cells[offQ q T]? = some u
    rw [← Array.getElem?_toList, e1, hu, ← e2]
    simp
/-- An owned slice: its header, its elements. -/
theorem EnvRel.ownSl (hX : TabOk Γ.X) (h : EnvRel N F0 B U w0 F S e a w) {s : Nat} {q : List PS} {g b : Nat} {t : Γ.X.Ty} {l : Sl b (Γ.X.den t)} (hc : cont e s q g = some ⟨b, t, l⟩) (hq : onlyFld q = true) :
    ∃ u Sx, VRep w F (.slice b t) l (.yes g) [u] Sx ∧ hdr e a w s q = some u ∧ ∀ b ∈ Sx, b ∈ S s := by
  obtain ⟨T, v, o, h1, h2, h3⟩ := cont_some hc
  obtain ⟨cx, Sx, k1, k2, k3⟩ := h.place hX h1 (tyQ_of_getQ hq h2) h2
  rw [h3] at k1
  have hl := k1.length hX
  simp only [Tab.sz] at hl
  cases cx with
  | nil => simp at hl
  | cons c cx =>
    cases cx with
    | cons => simp at hl
    | nil => exact ⟨c, Sx, k1, k3 c rfl, k2⟩
/-- Its element. -/
theorem EnvRel.ownElem (hX : TabOk Γ.X) (h : EnvRel N F0 B U w0 F S e a w) {s : Nat} {q : List PS} {g b : Nat} {t : Γ.X.Ty} {l : Sl b (Γ.X.den t)} (hc : cont e s q g = some ⟨b, t, l⟩) (hq : onlyFld q = true) {i : Nat} (hi : i < l.l.length) :
    ∃ blk cap cells ty cs, hdr e a w s q = some (.slice (some ⟨blk, 0, none⟩) l.l.length cap) ∧ w.heap[blk]? = some (.cells cells ty (0, 0)) ∧ blk ∈ S s ∧ PRep w F t (l.l.getD i (Γ.X.zero t)) cs ∧ ∀ (j : Nat) u, cs[j]? = some u → w.cell? ⟨blk, i * Γ.X.sz t + j, none⟩ = some u := by
  obtain ⟨u, Sx, k1, k2, k3⟩ := h.ownSl hX hc hq
  have key : ∀ {T : Γ.X.Ty} {v : Γ.X.den T} {o : Own} {cs : List Value} {S : List Nat}, VRep w F T v o cs S → T = .slice b t → HEq v l → o = .yes g → cs = [u] → S = Sx →
      ∃ blk cap cells ty cs, u = .slice (some ⟨blk, 0, none⟩) l.l.length cap ∧ w.heap[blk]? = some (.cells cells ty (0, 0)) ∧ blk ∈ Sx ∧ PRep w F t (l.l.getD i (Γ.X.zero t)) cs ∧ ∀ (j : Nat) u, cs[j]? = some u → w.cell? ⟨blk, i * Γ.X.sz t + j, none⟩ = some u := fun hv hT hvl ho hcs hS => by
    cases hv with
    | ownNil b' t' v g' ad hv =>
      cases hT; cases hvl
      rw [hv] at hi; simp at hi
    | own b' t' v g' blk cap cells ty css hg hsz hcap hmx hcc hp =>
      cases hT; cases hvl
      simp only [List.cons.injEq, and_true] at hcs
      refine ⟨blk, cap, cells, ty, css i, hcs.symm, hg, by rw [← hS]; simp, hp i _ (getD_dflt _ hi), fun j u hj => ?_⟩
      rw [cell_of hg]
      exact hcc i j u hi hj
    | pure => cases ho
    | full => cases ho
    | st => cases ho
    | dead => cases ho
  obtain ⟨blk, cap, cells, ty, cs, g1, g2, g3, g4, g5⟩ := key k1 rfl HEq.rfl rfl rfl rfl
  exact ⟨blk, cap, cells, ty, cs, by rw [k2, g1], g2, k3 blk g3, g4, g5⟩

/-- A slice's header leads to its elements. -/
def ReadsSl (w : World) (F : Nat → Prop) {b : Nat} (t : Γ.X.Ty) (l : Sl b (Γ.X.den t)) (u : Value) : Prop :=
  ∃ (ad : Option Addr) (cap : Nat) (css : Nat → List Value), u = .slice ad l.l.length cap ∧ l.l.length ≤ cap ∧
    (l.l ≠ [] → ∃ blk o, ad = some ⟨blk, o, none⟩ ∧ blk < w.heap.size ∧ ∀ (i j : Nat) u, i < l.l.length → (css i)[j]? = some u → w.cell? ⟨blk, o + i * Γ.X.sz t + j, none⟩ = some u) ∧
    ∀ (i : Nat) x, l.l[i]? = some x → PRep w F t x (css i)
/-- A slice to be read: its header, its elements. -/
theorem EnvRel.rdSl (hX : TabOk Γ.X) (h : EnvRel N F0 B U w0 F S e a w) {T0 : Option Γ.X.Ty} {Y : Operand} {x : AX Γ.X} (hx : compX Γ K T0 Y = some x) {b : Nat} {t : Γ.X.Ty} {l : Sl b (Γ.X.den t)} (hs : slOf e (Go.A2.rd e x) = some ⟨b, t, l⟩) :
    ReadsSl w F t l (a.eval Y) := by
  obtain ⟨R, h1, h2, h3⟩ := h.rd hX hx
  have pure : ∀ {o : Own}, o.pure = true → Go.A2.rd e x = .val (.slice b t) l o → ReadsSl w F t l (a.eval Y) := fun {o} ho hr => by
    rw [hr] at h1
    obtain ⟨cs, k1, k2⟩ := SRep.valInv h1
    obtain ⟨k3, _⟩ := k1.toPure ho
    unfold valOk at k2
    rw [if_neg (by simp [aggB])] at k2
    subst k2
    generalize hu : a.eval Y = u at k3
    cases k3 with
    | slice _ _ _ ad cap css hcap ha hp =>
      refine ⟨ad, cap, css, rfl, hcap, fun hne => ?_, hp⟩
      obtain ⟨blk, o', q1, q2, q3⟩ := ha hne
      exact ⟨blk, o', q1, h.free blk q2, q3⟩
  unfold slOf at hs
  split at hs
  · rename_i hr; cases hs; exact pure rfl hr
  · rename_i hr; cases hs; exact pure rfl hr
  · rename_i s q g hr
    rw [hr] at h1
    obtain ⟨hq, hh⟩ := h.refAt hs h1
    obtain ⟨u, Sx, k1, k2, k3⟩ := h.ownSl hX hs hq
    rw [hh] at k2; cases k2
    generalize a.eval Y = u at k1
    have key : ∀ {T : Γ.X.Ty} {v : Γ.X.den T} {o : Own} {cs : List Value} {S' : List Nat}, VRep w F T v o cs S' → T = .slice b t → HEq v l → o = .yes g → cs = [u] → S' = Sx →
        ReadsSl w F t l u := fun hv hT hvl ho hcs hS => by
      cases hv with
      | ownNil b' t' v g' ad hv =>
        cases hT; cases hvl
        simp only [List.cons.injEq, and_true] at hcs
        exact ⟨ad, 0, fun _ => [], by rw [← hcs, hv]; rfl, by rw [hv]; simp, fun hne => absurd hv hne, fun i x hi => by rw [hv] at hi; simp at hi⟩
      | own b' t' v g' blk cap cells ty css hg hsz hcap hmx hcc hp =>
        cases hT; cases hvl
        simp only [List.cons.injEq, and_true] at hcs
        refine ⟨_, cap, css, hcs.symm, hcap, fun _ => ⟨blk, 0, rfl, (h.own s blk (k3 blk (by rw [← hS]; simp))).2.1, fun i j u hi hj => ?_⟩, hp⟩
        rw [cell_of hg, Nat.zero_add]
        exact hcc i j u hi hj
      | pure => cases ho
      | full => cases ho
      | st => cases ho
      | dead => cases ho
    exact key k1 rfl HEq.rfl rfl rfl rfl
  · cases hs

section looks
variable {T0 T1 T2 : Option Γ.X.Ty} {g : Nat} {o : Oper} {us : Ups Γ.X} {ans : Ret Γ.X} (hX : TabOk Γ.X) (h : EnvRel N F0 B U w0 F S e a w) (hg : ¬ U g) (hd : ∀ k, o.dst = some k → N.ok k)
include hX h hg hd

theorem look_idxS {t el : TypeId} {Y I : Operand} {x i : AX Γ.X} {b : Nat} {T : Γ.X.Ty} (ho : o.op = .indexAddr t Y I) (ht : P.underlying t = some (.slice el)) (hsz : sizeO P el = some (Γ.X.sz T)) (hx : compX Γ K T0 Y = some x) (hi : compX Γ K T1 I = some i)
    (hs : eff ans g e o.dst (.idxS b T x i) = some us) : Looks N F0 B U w0 P e a w g o us := by
  have run : ∀ blk o' len cap (k : IntKind) (j : Int), a.eval Y = .slice (some ⟨blk, o', none⟩) len cap → a.eval I = .int k j → 0 ≤ j ∧ j < len →
      (execOp a.eval o).run P w = .ok (.value (.pointer (some ⟨blk, o' + j.toNat * Γ.X.sz T, none⟩))) w := fun blk o' len cap k j h1 h2 h3 => by
    simp only [execOp, ho, Instr.indexAt, h1, h2]
    simp [asIntOf, run_underlying' ht, run_sizeO hsz, addr_add, h3.1, h3.2]
  simp only [eff] at hs
  split at hs
  · rename_i s q g' k z oz hr hrz
    split at hs
    · rename_i b' t' l hc
      split at hs
      · rename_i hbt
        obtain ⟨rfl, rfl⟩ := hbt
        obtain ⟨m, hm, hs⟩ := Option.bind_eq_some_iff.1 hs
        cases hs
        unfold idx? at hm
        split at hm
        · rename_i hc1
          cases hm
          obtain ⟨R, h1, h2, _⟩ := h.rd hX hx
          rw [hr] at h1 h2
          obtain ⟨hq, hh⟩ := h.refAt hc h1
          have hlt : z.n.toNat < l.l.length := by omega
          obtain ⟨blk, cap, cells, ty, cs, g1, g2, g3, g4, g5⟩ := h.ownElem hX hc hq hlt
          rw [hh] at g1
          simp only [Option.some.injEq] at g1
          refine ⟨_, run blk 0 _ cap k z.n g1 (h.rdInt hX hi hrz) hc1, h.out hd hg (Hand.ofPure ?_ h2) trivial⟩
          refine .ptrE s q g' _ [] _ hq fun b2 t2 l2 hc2 => ?_
          rw [hc] at hc2; cases hc2
          exact ⟨hlt, rfl, blk, _, cap, by rw [hh, g1], by simp [offQ]⟩
        · cases hm
      · cases hs
    · cases hs
  · rename_i T1' l ol k z oz hr hrz
    split at hs
    · rename_i hpo
      split at hs
      · rename_i l1 hl1
        obtain ⟨rfl, hl1⟩ := castT_some hl1
        simp only at hl1; subst hl1
        obtain ⟨y, hy, hs⟩ := Option.bind_eq_some_iff.1 hs
        cases hs
        unfold Sl.get? at hy
        split at hy
        · rename_i hz0
          obtain ⟨cs, R, k1, k2⟩ := h.rdVal hX hx hr
          obtain ⟨k3, _⟩ := k1.toPure hpo
          unfold valOk at k2
          rw [if_neg (by simp [aggB])] at k2
          subst k2
          generalize hu : a.eval Y = u at k3
          have hlt := (List.getElem?_eq_some_iff.1 hy).1
          cases k3 with
          | slice _ _ _ ad cap css hcap ha hp =>
            obtain ⟨blk, o', q1, q2, q3⟩ := ha (by intro hne; rw [hne] at hlt; simp at hlt)
            subst q1
            refine ⟨_, run blk o' _ cap k z.n hu (h.rdInt hX hi hrz) ⟨hz0, by omega⟩, h.out hd hg (Hand.ofPure (.u (.rptr T y blk _ (css z.n.toNat) q2 (fun j u hj => q3 _ j u hlt hj) (hp _ y hy))) trivial) trivial⟩
        · cases hy
      · cases hs
    · cases hs
  · cases hs

theorem look_part {t : TypeId} {Y : Operand} {x : AX Γ.X} {i : Γ.X.ι} {j : Nat} {fs : Array Field} (ho : o.op = .field t Y j) (ht : P.underlying t = some (.struct fs)) (hf : fldOk P Γ fs i j = true) (hx : compX Γ K T0 Y = some x)
    (hs : eff ans g e o.dst (.part i j x) = some us) : Looks N F0 B U w0 P e a w g o us := by
  obtain ⟨f, T, k1, k2, k3, k4, k5⟩ := fldOk_some hf
  obtain ⟨_, k6, k7⟩ := tyC_some k4
  simp only [eff] at hs
  split at hs
  · rename_i T1 v ov hr
    split at hs
    · rename_i hpo
      split at hs
      · rename_i v1 hv1
        obtain ⟨rfl, hv1⟩ := castT_some hv1
        simp only at hv1; subst hv1
        split at hs
        · rename_i T' y hy
          cases hs
          have hT' := getT_type hy
          rw [k2] at hT'; cases hT'
          obtain ⟨cs, R, q1, q2⟩ := h.rdVal hX hx hr
          obtain ⟨q3, _⟩ := q1.toPure hpo
          unfold valOk at q2
          rw [if_pos (by simp [aggB])] at q2
          obtain ⟨c1, cx, c2, S1, Sx, S2, e1, e2, e3, e4, _⟩ := (VRep.pure q3).lens hX (q := [.fld j]) (T' := T) (x := y) (by simp [tyQ, k2]) (by simp only [getQ]; rw [hy])
          have hcx : PRep w F T y cx := (e4.toPure rfl).1
          have ho2 : offQ [.fld j] (.named i : Γ.X.Ty) = Γ.X.off i j := by simp [offQ, k2]
          have hl := hcx.length hX
          cases hb : aggB T with
          | true =>
            refine ⟨.agg cx.toArray, ?_, h.outV hd hg rfl (.pure hcx) (by unfold valOk; rw [if_pos hb])⟩
            rw [hb] at k7
            simp only [execOp, ho, Instr.field, q2]
            simp only [run_underlying' ht, k1, asAgg, part, Sem.run_bind, Result.andThen_ok, Sem.run_pure]
            simp only [run_isAggT k7, run_sizeO k6, Result.andThen_ok, if_true, Sem.run_bind, Sem.run_pure]
            have : cs.toArray.extract f.offset (f.offset + Γ.X.sz T) = cx.toArray := by
              rw [k3, ← ho2, ← e2, ← hl, e1]
              simp
            rw [this]
          | false =>
            have hs1 : Γ.X.sz T = 1 := by cases T <;> first | rfl | simp [aggB] at hb
            rw [hs1] at hl
            cases cx with
            | nil => cases hl
            | cons c cx =>
              cases cx with
              | cons => simp at hl
              | nil =>
                refine ⟨c, ?_, h.outV hd hg rfl (.pure hcx) (by unfold valOk; rw [if_neg (by simp [hb])])⟩
                rw [hb] at k7
                have hat : cs[f.offset]? = some c := by rw [k3, ← ho2, ← e2, e1]; simp
                simp only [execOp, ho, Instr.field, q2]
                simp [run_underlying' ht, k1, asAgg, part, run_isAggT k7, hat]
        · cases hs
      · cases hs
    · cases hs
  · cases hs

theorem look_idxV {t el : TypeId} {Y I : Operand} {x i : AX Γ.X} {n : Nat} {T : Γ.X.Ty} (ho : o.op = .index t Y I) (ht : P.underlying t = some (.array n el)) (hel : tyC P Γ el = some T) (hx : compX Γ K T0 Y = some x) (hi : compX Γ K T1 I = some i)
    (hs : eff ans g e o.dst (.idxV n T x i) = some us) : Looks N F0 B U w0 P e a w g o us := by
  obtain ⟨_, k6, k7⟩ := tyC_some hel
  simp only [eff] at hs
  split at hs
  · rename_i T1' v ov k z oz hr hrz
    split at hs
    · rename_i hpo
      split at hs
      · rename_i v1 hv1
        obtain ⟨rfl, hv1⟩ := castT_some hv1
        simp only at hv1; subst hv1
        obtain ⟨m, hm, hs⟩ := Option.bind_eq_some_iff.1 hs
        cases hs
        unfold idx? at hm
        split at hm
        · rename_i hc1
          cases hm
          have hmn : z.n.toNat < n := by omega
          obtain ⟨cs, R, q1, q2⟩ := h.rdVal hX hx hr
          obtain ⟨q3, _⟩ := q1.toPure hpo
          unfold valOk at q2
          rw [if_pos (by simp [aggB])] at q2
          obtain ⟨c1, cx, c2, S1, Sx, S2, e1, e2, e3, e4, _⟩ := (VRep.pure q3).lens hX (q := [.idx z.n.toNat]) (T' := T) (x := v.l.getD z.n.toNat (Γ.X.zero T)) (by simp [tyQ, hmn]) rfl
          have hcx : PRep w F T _ cx := (e4.toPure rfl).1
          have ho2 : offQ [.idx z.n.toNat] (.arr n T : Γ.X.Ty) = z.n.toNat * Γ.X.sz T := by simp [offQ]
          have hl := hcx.length hX
          have eI := h.rdInt hX hi hrz
          cases hb : aggB T with
          | true =>
            refine ⟨.agg cx.toArray, ?_, h.outV hd hg rfl (.pure hcx) (by unfold valOk; rw [if_pos hb])⟩
            rw [hb] at k7
            simp only [execOp, ho, Instr.index, q2, eI]
            simp only [asIntOf, run_underlying' ht, part, Sem.run_bind, Result.andThen_ok, Sem.run_pure, hc1, and_self, if_true]
            simp only [run_isAggT k7, run_sizeO k6, Result.andThen_ok, if_true, Sem.run_bind, Sem.run_pure]
            have : cs.toArray.extract (z.n.toNat * Γ.X.sz T) (z.n.toNat * Γ.X.sz T + Γ.X.sz T) = cx.toArray := by
              rw [← ho2, ← e2, ← hl, e1]
              simp
            rw [this]
          | false =>
            have hs1 : Γ.X.sz T = 1 := by cases T <;> first | rfl | simp [aggB] at hb
            rw [hs1] at hl
            cases cx with
            | nil => cases hl
            | cons c cx =>
              cases cx with
              | cons => simp at hl
              | nil =>
                refine ⟨c, ?_, h.outV hd hg rfl (.pure hcx) (by unfold valOk; rw [if_neg (by simp [hb])])⟩
                rw [hb] at k7
                have hat : cs[z.n.toNat * Γ.X.sz T]? = some c := by rw [← ho2, ← e2, e1]; simp
                simp only [execOp, ho, Instr.index, q2, eI]
                simp [asIntOf, run_underlying' ht, part, run_isAggT k7, run_sizeO k6, hat, hc1.1, hc1.2]
        · cases hm
      · cases hs
    · cases hs
  · cases hs

theorem look_load {t : TypeId} {Y : Operand} {x : AX Γ.X} {T : Γ.X.Ty} (ho : o.op = .load t Y) (ht : tyC P Γ t = some T) (hx : compX Γ K T0 Y = some x) (hs : eff ans g e o.dst (.load T x) = some us) : Looks N F0 B U w0 P e a w g o us := by
  obtain ⟨R, h1, h2, _⟩ := h.rd hX hx
  have run : ∀ {b o' : Nat} {cs : List Value}, a.eval Y = .pointer (some ⟨b, o', none⟩) → cs.length = Γ.X.sz T → (∀ (j : Nat) v, cs[j]? = some v → w.cell? ⟨b, o' + j, none⟩ = some v) →
      ∃ u, (execOp a.eval o).run P w = .ok (.value u) w ∧ valOk T cs u := fun {b o' cs} hu hl hc => by
    obtain ⟨u, h1, h2⟩ := run_loadVar' (P := P) ht hl hc
    refine ⟨u, ?_, h2⟩
    simp only [execOp, ho, Instr.loadAt, Instr.sureAddr, hu]
    simp [h1]
  simp only [eff] at hs
  unfold loadV at hs
  split at hs
  · rename_i T1 v hr
    obtain ⟨v1, hv1, hs⟩ := Option.map_eq_some_iff.1 hs
    subst hs
    obtain ⟨rfl, hv1⟩ := castT_some hv1
    simp only at hv1; subst hv1
    rw [hr] at h1
    cases h1 with
    | u h1 =>
      generalize hu : a.eval Y = u at h1
      cases h1 with
      | rptr _ _ b o' cs hb hc hp =>
        obtain ⟨u, q1, q2⟩ := run hu (hp.length hX) hc
        exact ⟨u, q1, h.outV hd hg rfl (.pure hp) q2⟩
  · rename_i s g' q hr
    rw [hr] at h1 h2
    split at hs
    · rename_i gb Tb v0 o0 hes
      split at hs
      · rename_i hgg
        subst hgg
        split at hs
        · rename_i T1 v hv
          split at hs
          · rename_i v1 hv1
            obtain ⟨rfl, hv1⟩ := castT_some hv1
            simp only at hv1; subst hv1
            obtain ⟨b, cells, ty, S', k1, k2, k3, k4⟩ := h.boxAt hes
            have hptr : ∃ b', a.tmps.getD s Go.undef = .pointer (some ⟨b', 0, none⟩) ∧ a.eval Y = .pointer (some ⟨b', offQ q Tb, none⟩) ∧ (tyQ q Tb).isSome = true := by
              generalize a.eval Y = u at h1
              cases h1 with
              | u h => cases h
              | ptrB _ _ _ _ hh => exact hh Tb v0 o0 hes
            obtain ⟨b', p1, p2, p3⟩ := hptr
            rw [k1] at p1; cases p1
            have htq : tyQ q Tb = some T1 := by
              cases hq : tyQ q Tb with
              | none => rw [hq] at p3; cases p3
              | some T2 =>
                obtain ⟨y, hy⟩ := getQ_of_tyQ v0 hq
                rw [hv] at hy; cases hy; rfl
            obtain ⟨c1, cx, c2, S1, Sx, S2, e1, e2, e3, e4, _⟩ := k3.lens hX htq hv
            have hcell : ∀ (j : Nat) u, cx[j]? = some u → w.cell? ⟨b, offQ q Tb + j, none⟩ = some u := fun j u hj => by
              rw [cell_of k2, ← Array.getElem?_toList, e1, ← e2, List.append_assoc, List.getElem?_append_right (by omega)]
              simp [List.getElem?_append_left (List.getElem?_eq_some_iff.1 hj).1, hj]
            obtain ⟨u, q1, q2⟩ := run p2 (e4.length hX) hcell
            split at hs
            · rename_i hown
              cases hs
              rw [hown] at e4
              exact ⟨u, q1, h.outV hd hg rfl (.pure (e4.toPure rfl).1) q2⟩
            · rename_i hown
              cases hs
              rw [hown] at e4
              obtain ⟨_, hSx⟩ := e4.toPure rfl
              subst hSx
              exact ⟨u, q1, h.outV hd hg rfl e4 q2⟩
            · rename_i g1 hown
              split at hs
              · rename_i hfl
                cases hs
                refine ⟨u, q1, h.out hd hg (Hand.ofPure (.ref s q g1 u hfl fun _ => ?_) ?_) trivial⟩
                · obtain ⟨cx', Sx', m1, m2, m3⟩ := h.place hX (s := s) (by rw [hes]; rfl) htq hv
                  have hsl : ∃ b t, T1 = .slice b t := by
                    rw [hown] at e4
                    cases e4 with
                    | ownNil b t => exact ⟨b, t, rfl⟩
                    | own b t => exact ⟨b, t, rfl⟩
                  obtain ⟨b2, t2, rfl⟩ := hsl
                  have hu : cx = [u] := by unfold valOk at q2; rw [if_neg (by simp [aggB])] at q2; exact q2
                  unfold hdr
                  rw [hes]
                  simp only [k1]
                  have := hcell 0 u (by rw [hu]; rfl)
                  simpa using this
                · have := h.owns s
                  rw [hes] at this
                  exact ownAt_gen this.2 hown
              · cases hs
            · cases hs
            · rename_i l hown
              split at hs
              · rename_i hpl
                cases hs
                rw [hown] at e4
                exact ⟨u, q1, h.outV hd hg rfl (.pure (e4.toPure hpl).1) q2⟩
              · split at hs
                · rename_i hal
                  obtain ⟨m, hm, hs⟩ := Option.map_eq_some_iff.1 hs
                  subst hs
                  obtain ⟨F1, S1', cx', m1, m2, m3, m4, m5⟩ := h.freezeAt hX (s := s) (by rw [hes]; rfl) htq hv hm (by rw [hown]; exact hal)
                  rw [hes] at m1
                  have hcx : cx' = cx := by
                    have l1 := m3.length hX
                    have l2 := e4.length hX
                    refine List.ext_getElem? fun j => ?_
                    rcases Nat.lt_or_ge j cx.length with hj | hj
                    · have a1 := hcell j cx[j] (List.getElem?_eq_getElem hj)
                      have a2 := m5 g' b hes k1 j cx'[j] (List.getElem?_eq_getElem (by omega))
                      rw [a1] at a2
                      rw [List.getElem?_eq_getElem hj, List.getElem?_eq_getElem (by omega)]
                      simpa using a2.symm
                    · rw [List.getElem?_eq_none hj, List.getElem?_eq_none (by omega)]
                  rw [hcx] at m3
                  exact ⟨u, q1, m1.outV hd hg rfl (.pure m3) q2⟩
                · cases hs
          · cases hs
        · cases hs
      · cases hs
    · cases hs
  · rename_i s p g' i q hr
    rw [hr] at h1 h2
    split at hs
    · rename_i b t2 l hc
      split at hs
      · rename_i T1 v hv
        obtain ⟨v1, hv1, hs⟩ := Option.map_eq_some_iff.1 hs
        subst hs
        obtain ⟨rfl, hv1⟩ := castT_some hv1
        simp only at hv1; subst hv1
        generalize hu : a.eval Y = u at h1
        cases h1 with
        | u h => cases h
        | ptrE _ _ _ _ _ _ hp hh =>
          obtain ⟨hi, hty, blk, n, c, p1, p2⟩ := hh b t2 l hc
          obtain ⟨blk', cap, cells, ty, cs, g1, g2, g3, g4, g5⟩ := h.ownElem hX hc hp hi
          rw [p1] at g1; cases g1
          have htq : tyQ q t2 = some T1 := by
            cases hq : tyQ q t2 with
            | none => rw [hq] at hty; cases hty
            | some T2 =>
              obtain ⟨y, hy⟩ := getQ_of_tyQ (l.l.getD i (Γ.X.zero t2)) hq
              rw [hv] at hy; cases hy; rfl
          obtain ⟨c1, cx, c2, S1, Sx, S2, e1, e2, e3, e4, _⟩ := (VRep.pure g4).lens hX htq hv
          have hno : ∀ q, ownAt .no q = .no := fun q => by
            induction q with
            | nil => rfl
            | cons p q ih => cases p <;> simp only [ownAt, Own.fldD]; exact ih
          rw [hno] at e4
          have hcell : ∀ (j : Nat) u, cx[j]? = some u → w.cell? ⟨blk, i * Γ.X.sz t2 + offQ q t2 + j, none⟩ = some u := fun j u hj => by
            have := g5 (offQ q t2 + j) u (by rw [e1, ← e2, List.append_assoc, List.getElem?_append_right (by omega)]; simp [List.getElem?_append_left (List.getElem?_eq_some_iff.1 hj).1, hj])
            rw [Nat.add_assoc]; exact this
          obtain ⟨u', q1, q2⟩ := run (hu.trans p2) (e4.length hX) hcell
          exact ⟨u', q1, h.outV hd hg rfl (.pure (e4.toPure rfl).1) q2⟩
      · cases hs
    · cases hs
  · cases hs
end looks
end
end
end Go.A2
