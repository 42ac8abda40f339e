/- YtcinobbeapgklaaA2Op9: makeSlice; parts taken; structs, arrays and slices built. No statement of the seat is proved here. -/
import Derived.Test.YtcinobbeapgklaaA2Op8
namespace Go.A2
section
variable {P : Program} {Γ : Cx}

theorem foldl_lay (off : Nat) : ∀ (l : List Value) (k : Nat) (cells : Array Value), off + k + l.length ≤ cells.size →
    ((l.zipIdx k).foldl (fun cs (q : Value × Nat) => cs.setIfInBounds (off + q.2) q.1) cells).toList = cells.toList.take (off + k) ++ l ++ cells.toList.drop (off + k + l.length)
  | [], k, cells, _ => by simp
  | v :: l, k, cells, h => by
    simp only [List.zipIdx_cons, List.foldl_cons]
    simp only [List.length_cons] at h
    rw [foldl_lay off l (k + 1) _ (by simp; omega)]
    have := list_seg_step cells.toList (off + k) v l (by simp; omega)
    simpa [Array.toList_setIfInBounds, Nat.add_assoc] using this

/-- A part in hand. -/
def PartOk (w : World) (F : Nat → Prop) (p : Nat × (T : Γ.X.Ty) × Γ.X.den T × Own) (q : Nat × Value) (R : List Nat) : Prop :=
  q.1 = p.1 ∧ ∃ cs, VRep w F p.2.1 p.2.2.1 p.2.2.2 cs R ∧ valOk p.2.1 cs q.2
inductive PartsOk (w : World) (F : Nat → Prop) : List (Nat × (T : Γ.X.Ty) × Γ.X.den T × Own) → List (Nat × Value) → List (List Nat) → Prop where
  | nil : PartsOk w F [] [] []
  | cons {p q R ps qs Rs} (h : PartOk w F p q R) (hs : PartsOk w F ps qs Rs) : PartsOk w F (p :: ps) (q :: qs) (R :: Rs)

/-- Parts laid one by one. -/
theorem fill_gen {w : World} {F : Nat → Prop} {α : Type} (Rep : α → List Value → List Nat → Prop) (place : Nat → Option (Nat × Nat)) (step : α → (Nat × (T : Γ.X.Ty) × Γ.X.den T × Own) → Option α)
    (hstep : ∀ x y p q R R0 cells, Rep x cells R0 → step x p = some y → PartOk w F p q R → R0.Nodup → R.Nodup → (∀ b ∈ R0, b ∉ R) →
      ∃ off cs, place p.1 = some (off, cs.length) ∧ q.2.cells = cs.toArray ∧ off + cs.length ≤ cells.length ∧ ∃ R1, Rep y (cells.take off ++ cs ++ cells.drop (off + cs.length)) R1 ∧ R1.Nodup ∧ ∀ b ∈ R1, b ∈ R0 ∨ b ∈ R) :
    ∀ {ps qs Rs} (_ : PartsOk (Γ := Γ) w F ps qs Rs) (x z : α) (cells : Array Value) (R0 : List Nat), Rep x cells.toList R0 → ps.foldlM step x = some z → R0.Nodup → Rs.flatten.Nodup → (∀ b ∈ R0, b ∉ Rs.flatten) →
      ∃ cells' R', Instr.fill place cells qs = some cells' ∧ Rep z cells'.toList R' ∧ R'.Nodup ∧ cells'.size = cells.size ∧ ∀ b ∈ R', b ∈ R0 ∨ b ∈ Rs.flatten
  | _, _, _, .nil, x, z, cells, R0, hr, hf, hn, _, _ => by
    simp at hf; subst hf
    exact ⟨cells, R0, rfl, hr, hn, rfl, fun b hb => .inl hb⟩
  | _, _, _, .cons (p := p) (q := q) (R := R) (ps := ps) (qs := qs) (Rs := Rs) hp hps, x, z, cells, R0, hr, hf, hn, hnR, hap => by
    simp only [List.foldlM_cons] at hf
    obtain ⟨y, hy, hf⟩ := Option.bind_eq_some_iff.1 hf
    rw [List.flatten_cons] at hnR
    obtain ⟨n1, n2, n3⟩ := List.nodup_append.1 hnR
    obtain ⟨off, cs, h1, h2, h3, R1, h4, h5, h6⟩ := hstep x y p q R R0 cells.toList hr hy hp hn n1 fun b hb hbR => hap b hb (by simp [hbR])
    have hfold : (q.2.cells.zipIdx.foldl (fun cs (q : Value × Nat) => cs.setIfInBounds (off + q.2) q.1) cells).toList = cells.toList.take off ++ cs ++ cells.toList.drop (off + cs.length) := by
      have := foldl_lay off q.2.cells.toList 0 cells (by rw [h2]; simpa using h3)
      rw [← Array.foldl_toList, Array.toList_zipIdx, this, h2]
      simp
    rw [← hfold] at h4
    obtain ⟨cells', R', g1, g2, g3, g4, g5⟩ := fill_gen Rep place step hstep hps y z _ R1 h4 hf h5 n2 fun b hb hb2 => by
      rcases h6 b hb with hb' | hb'
      · exact hap b hb' (by simp [hb2])
      · exact n3 b hb' b hb2 rfl
    refine ⟨cells', R', ?_, g2, g3, ?_, fun b hb => ?_⟩
    · unfold Instr.fill
      obtain ⟨q1, q2⟩ := q
      obtain ⟨hq, _⟩ := hp
      simp only at hq h2 g1 ⊢
      subst hq
      have hsz : q2.cells.size = cs.length := by rw [h2]; simp
      rw [h1]
      simp only [hsz, ne_eq, not_true_eq_false]
      rw [if_neg (by simp at h3 ⊢; omega)]
      exact g1
    · rw [g4, ← Array.length_toList, hfold]
      simp at h3 ⊢; omega
    · rcases g5 b hb with hb | hb
      · rcases h6 b hb with hb | hb
        · exact .inl hb
        · exact .inr (by simp [hb])
      · exact .inr (by simp [hb])

/-- Elements, one behind the other. -/
def ERep (w : World) (F : Nat → Prop) (t : Γ.X.Ty) (n : Nat) (l : List (Γ.X.den t)) (cells : List Value) (R : List Nat) : Prop :=
  l.length = n ∧ R = [] ∧ ∃ css, cells = cat css n ∧ ∀ (j : Nat) x, l[j]? = some x → PRep w F t x (css j)
def eStep (t : Γ.X.Ty) (l : List (Γ.X.den t)) (p : Nat × (T : Γ.X.Ty) × Γ.X.den T × Own) : Option (List (Γ.X.den t)) :=
  match castT p.2.2.1 t with
  | some y => if p.1 < l.length ∧ p.2.2.2.pure = true then some (l.set p.1 y) else none
  | none => none
theorem eStep_fold {t : Γ.X.Ty} : ∀ {vs : List (Nat × (T : Γ.X.Ty) × Γ.X.den T × Own)} {l l' : List (Γ.X.den t)}, setElems l (partsV vs) = some l' → partsPure vs = true → vs.foldlM (eStep t) l = some l'
  | [], l, l', h, _ => by simp [partsV, setElems] at h; subst h; rfl
  | (j, ⟨T, v, o⟩) :: vs, l, l', h, hp => by
    simp only [partsV, List.map_cons, setElems] at h
    simp only [partsPure, List.all_cons, Bool.and_eq_true] at hp
    split at h
    · rename_i y hy
      split at h
      · rename_i hj
        simp only [List.foldlM_cons]
        have : eStep t l (j, ⟨T, v, o⟩) = some (l.set j y) := by
          simp only [eStep, hy]
          rw [if_pos ⟨hj, hp.1⟩]
        rw [this]
        exact eStep_fold h hp.2
      · cases h
    · cases h
theorem fill_elems (hX : TabOk Γ.X) {w : World} {F : Nat → Prop} {t : Γ.X.Ty} {n : Nat} {ps qs Rs} (hp : PartsOk (Γ := Γ) w F ps qs Rs) {l l' : List (Γ.X.den t)} (hs : setElems l (partsV ps) = some l') (hpu : partsPure ps = true) {cells : Array Value}
    (hr : ERep w F t n l cells.toList []) (hn : Rs.flatten.Nodup) : ∃ cells', Instr.fill (fun i => some (i * Γ.X.sz t, Γ.X.sz t)) cells qs = some cells' ∧ ERep w F t n l' cells'.toList [] ∧ cells'.size = cells.size := by
  obtain ⟨cells', R', g1, g2, g3, g4, g5⟩ := fill_gen (Γ := Γ) (w := w) (F := F) (ERep w F t n) (fun i => some (i * Γ.X.sz t, Γ.X.sz t)) (eStep t)
    (fun x y p q R R0 cells hrep hst hpo _ _ _ => by
      obtain ⟨j, T, v, o⟩ := p
      obtain ⟨hl, rfl, css, hc, hpr⟩ := hrep
      obtain ⟨_, cs, hv, hu⟩ := hpo
      simp only [eStep] at hst hv hu
      split at hst
      · rename_i y' hy
        obtain ⟨rfl, hy⟩ := castT_some hy
        simp only at hy; subst hy
        split at hst
        · rename_i hc2
          obtain ⟨hj, hpure⟩ := hc2
          cases hst
          obtain ⟨hvp, rfl⟩ := hv.toPure hpure
          have hlv := hvp.length hX
          have hjn : j < n := by omega
          obtain ⟨r, r1, r2⟩ := cat_split css hjn
          have hcl : ∀ k, k < n → (css k).length = Γ.X.sz T := fun k hk => (hpr k _ (List.getElem?_eq_getElem (by omega))).length hX
          have hcj : (cat css j).length = j * Γ.X.sz T := cat_length fun k hk => hcl k (by omega)
          refine ⟨j * Γ.X.sz T, cs, by simp [hlv], valOk_cells' hu hvp.one, ?_, [], ⟨by simpa using hl, rfl, fun k => if k = j then cs else css k, ?_, fun k xx hk => ?_⟩, List.nodup_nil, by simp⟩
          · rw [hc, r1, ← hcj]; simp [hlv, hcl j hjn]
          · rw [r2 (fun k => if k = j then cs else css k) (fun k hk => by simp [show k ≠ j by omega]), hc, r1, ← hcj, hlv]
            rw [cat_congr (f := fun k => if k = j then cs else css k) (g := css) (fun k hk => by simp [show k ≠ j by omega]), ← hcl j hjn]
            simp
          · by_cases hkj : k = j
            · subst hkj
              rw [List.getElem?_set_self hj] at hk
              cases hk
              simpa using hvp
            · rw [List.getElem?_set_ne (Ne.symm hkj)] at hk
              simpa [hkj] using hpr k xx hk
        · cases hst
      · cases hst)
    hp l l' cells [] hr (eStep_fold hs hpu) List.nodup_nil hn (by simp)
  obtain ⟨q1, rfl, q2⟩ := g2
  exact ⟨cells', g1, ⟨q1, rfl, q2⟩, g4⟩
theorem cat_const {cs : List Value} {sz : Nat} (hs : cs.length = sz) (n : Nat) : (madeCells cs.toArray (n * sz)).toList = cat (fun _ => cs) n := by
  subst hs
  apply List.ext_getElem?
  intro j
  rw [Array.getElem?_toList]
  by_cases hj : j < n * cs.length
  · have hpos : 0 < cs.length := by rcases Nat.eq_zero_or_pos cs.length with h | h; · rw [h] at hj; omega
                                    · exact h
    have h1 : j / cs.length < n := Nat.div_lt_of_lt_mul (by rw [Nat.mul_comm]; exact hj)
    have h2 : j % cs.length < cs.length := Nat.mod_lt _ hpos
    have h3 : j = j / cs.length * cs.length + j % cs.length := by rw [Nat.mul_comm]; exact (Nat.div_add_mod j cs.length).symm
    have e1 := made_get (z := cs.toArray) (n := n) (i := j / cs.length) (j := j % cs.length) h1 (by simpa using h2)
    have e2 := cat_get (f := fun _ => cs) (n := n) (m := cs.length) (fun _ _ => rfl) h1 h2
    simp only [List.size_toArray] at e1
    rw [← h3] at e1 e2
    rw [e1, e2, List.getElem?_toArray]
  · rw [Array.getElem?_eq_none (by rw [size_madeCells]; omega), List.getElem?_eq_none (by rw [cat_length (m := cs.length) fun _ _ => rfl]; omega)]

section
variable {K : List Nat} {N : Slots} {F0 B U : Nat → Prop} {w0 : World} {F : Nat → Prop} {S : Nat → List Nat} {e : Env Γ.X} {a : Act} {w : World}

theorem PartsOk.mono {F' : Nat → Prop} (hF : ∀ b, F b → F' b) {ps qs Rs} (h : PartsOk (Γ := Γ) w F ps qs Rs) : PartsOk (Γ := Γ) w F' ps qs Rs := by
  induction h with
  | nil => exact .nil
  | cons h _ ih =>
    obtain ⟨h1, cs, h2, h3⟩ := h
    exact .cons ⟨h1, cs, h2.mono hF (fun _ _ => rfl) fun _ _ => rfl, h3⟩ ih

/-- Parts are taken, one behind the other. -/
theorem EnvRel.takeAll (hX : TabOk Γ.X) {f : Nat → Option Γ.X.Ty} : ∀ {Ys : List (Nat × Operand)} {xs : List (Nat × AX Γ.X)} {F : Nat → Prop} {S : Nat → List Nat} {e : Env Γ.X} (_ : EnvRel N F0 B U w0 F S e a w) (_ : partsC Γ K f Ys = some xs)
    {vs : List (Nat × (T : Γ.X.Ty) × Γ.X.den T × Own)} {us : Ups Γ.X} (_ : Go.A2.takeAll e xs = some (vs, us)),
    ∃ F1 S1 Rs, EnvRel N F0 B U w0 F1 S1 (applyU e us) a w ∧ Less F S F1 S1 ∧ PartsOk w F1 vs (Ys.map fun q => (q.1, a.eval q.2)) Rs ∧ Rs.flatten.Nodup ∧ (∀ b ∈ Rs.flatten, B b ∧ b < w.heap.size ∧ ¬ F1 b) ∧ (∀ b ∈ Rs.flatten, ∀ s, b ∉ S1 s) ∧ ∀ b ∈ Rs.flatten, ∃ s, b ∈ S s
  | [], xs, F, S, e, h, hp, vs, us, ht => by
    simp [partsC] at hp; subst hp
    simp [Go.A2.takeAll] at ht
    obtain ⟨rfl, rfl⟩ := ht
    exact ⟨F, S, [], h, .refl _ _, .nil, by simp, by simp, by simp, by simp⟩
  | (j, Y) :: Ys, xs, F, S, e, h, hp, vs, us, ht => by
    simp only [partsC] at hp
    split at hp
    · rename_i T hT
      split at hp
      · rename_i x xs' hx hxs
        simp only [Option.some.injEq] at hp; subst hp
        simp only [Go.A2.takeAll] at ht
        split at ht
        · rename_i T1 v o u ht1
          split at ht
          · rename_i vs' us' ht2
            simp only [Option.some.injEq, Prod.mk.injEq] at ht
            obtain ⟨rfl, rfl⟩ := ht
            obtain ⟨F1, S1, cs, R, k1, k2, k3, k4, k5, k6, k7, k8⟩ := h.take hX hx ht1
            obtain ⟨F2, S2, Rs, g1, g2, g3, g4, g5, g6, g7⟩ := EnvRel.takeAll hX k1 hxs ht2
            have hRF : ∀ b ∈ R, ¬ F2 b := fun b hb hf => by
              rcases g2.from_ b hf with hf | ⟨s, hs⟩
              · exact (k6 b hb).2.2 hf
              · exact k7 b hb s hs
            refine ⟨F2, S2, R :: Rs, by rw [applyU_append]; exact g1, k2.trans g2, .cons ⟨rfl, cs, k3.mono g2.keeps (fun _ _ => rfl) fun _ _ => rfl, k4⟩ g3, ?_, ?_, ?_, ?_⟩
            · rw [List.flatten_cons]
              refine List.nodup_append.2 ⟨k5, g4, fun b hb c hc hbc => ?_⟩
              subst hbc
              obtain ⟨s, hs⟩ := g7 b hc
              exact k7 b hb s hs
            · intro b hb
              rw [List.flatten_cons] at hb
              rcases List.mem_append.1 hb with hb | hb
              · exact ⟨(k6 b hb).1, (k6 b hb).2.1, hRF b hb⟩
              · exact g5 b hb
            · intro b hb s hs
              rw [List.flatten_cons] at hb
              rcases List.mem_append.1 hb with hb | hb
              · exact k7 b hb s (g2.owned s b hs)
              · exact g6 b hb s hs
            · intro b hb
              rw [List.flatten_cons] at hb
              rcases List.mem_append.1 hb with hb | hb
              · exact k8 b hb
              · obtain ⟨s, hs⟩ := g7 b hb
                exact ⟨s, k2.owned s b hs⟩
          · cases ht
        · cases ht
      · cases hp
    · cases hp

section steps
variable {T0 T1 T2 : Option Γ.X.Ty} {g : Nat} {o : Oper} {us : Ups Γ.X} {ans : Ret Γ.X} (hX : TabOk Γ.X) (h : EnvRel N F0 B U w0 F S e a w) (hg : ¬ U g) (hd : ∀ k, o.dst = some k → N.ok k)
variable {next : Act → World → Prop} {Q : Exit → Act → World → Prop} (hnext : ∀ a' w', Sim N F0 B (withG U g) w0 (applyU e us) a' w' → next a' w')
include hX h hg hd hnext

theorem step_makeSlice {t el : TypeId} {b : Nat} {T : Γ.X.Ty} {Y Z : Operand} {x y : AX Γ.X} (ho : o.op = .makeSlice t Y Z) (hx : compX Γ K T0 Y = some x) (hy : compX Γ K T1 Z = some y)
    (ht : P.underlying t = some (.slice el)) (hel : tyC P Γ el = some T) (hby : bytesO P el = some b) (hz : zeroOk P Γ el T = true) (hs : eff ans g e o.dst (.makeSlice b T x y) = some us) : o.wp P a w next Q := by
  obtain ⟨i, z, hi, hzz, hzp⟩ := zeroOk_some hX hz w F
  have hsize : i.size = Γ.X.sz T := by
    have := (tyC_some hel).2.1
    unfold sizeO at this
    rw [hi] at this
    simpa using this
  have hbytes : i.bytes = b := by
    unfold bytesO at hby
    rw [hi] at hby
    simpa using hby
  have hzl : z.cells.size = Γ.X.sz T := by simpa using hzp.length hX
  simp only [eff] at hs
  split at hs
  · rename_i k n on k' m om hn hm
    obtain ⟨l, hl, hs⟩ := Option.bind_eq_some_iff.1 hs
    cases hs
    have e1 := h.rdInt hX hx hn
    have e2 := h.rdInt hX hy hm
    unfold Sl.make? at hl
    split at hl
    · rename_i hc
      obtain ⟨c1, c2, c3, c4⟩ := hc
      unfold Sl.mk? at hl
      split at hl
      · cases hl
        have hb48 : (i.bytes : Int) * m.n ≤ 281474976710656 := by
          rw [hbytes, Int.mul_comm]
          have : (room : Int) = 140737488355328 := by unfold room; rfl
          omega
        have h63 : m.n ≤ 9223372036854775807 := by have : (room : Int) = 140737488355328 := by unfold room; rfl
                                                   omega
        have hr := run_make (P := P) w t el i z ht hi hzz k k' n.n m.n c1 c2 hb48 h63
        have hmx : m.n.toNat ≤ maxLen := by unfold maxLen; omega
        obtain ⟨g1, g2⟩ := h.newRow' (w1 := w) (b := b) (t := T) (l := ⟨List.replicate n.n.toNat (Γ.X.zero T), by assumption⟩) (cells := madeCells z.cells (m.n.toNat * i.size)) (ty := el) (cap := m.n.toNat) (css := fun _ => z.cells.toList) g ⟨rfl, rfl, rfl, rfl⟩
          (by rw [size_madeCells, hsize]) (by simp; omega) hmx
          (fun k j u hk hj => by
            simp only [List.length_replicate] at hk
            have hjl : j < z.cells.size := by simpa using (List.getElem?_eq_some_iff.1 hj).1
            rw [hsize, ← hzl, made_get (by omega) hjl, ← Array.getElem?_toList]
            exact hj)
          (fun k xx hk => by
            have := List.mem_of_getElem? hk
            simp only [List.mem_replicate] at this
            rw [this.2]; exact hzp)
        unfold Oper.wp
        have hrun : (execOp a.eval o).run P w = .ok (.value (.slice (some ⟨w.heap.size, 0, none⟩) n.n.toNat m.n.toNat)) (w.alloc (.cells (madeCells z.cells (m.n.toNat * i.size)) el)) := by
          simp only [execOp, ho, e1, e2]
          simp [hr]
        rw [hrun]
        refine hnext _ _ ?_
        simp only [List.length_replicate] at g2
        exact g1.out hd hg g2 rfl
      · cases hl
    · cases hl
  · cases hs

theorem step_build {t : TypeId} {fs : Array Field} {i : Γ.X.ι} {qs : Array (Nat × Operand)} {parts : List (Nat × AX Γ.X)} (ho : o.op = .build t qs) (ht : P.underlying t = some (.struct fs)) (hz : zeroOk P Γ t (.named i) = true)
    (hfs : qs.toList.all (fun q => fldOk P Γ fs i q.1) = true) (hsz : (allO (fun f => sizeO P f.type) fs.toList).isSome = true) (hp : partsC Γ K (fun j => (Γ.X.fields i)[j]?) qs.toList = some parts)
    (hs : eff ans g e o.dst (.build i parts) = some us) : o.wp P a w next Q := by
  simp only [eff] at hs
  split at hs
  · rename_i vs u hta
    split at hs
    · rename_i x m hx hm
      cases hs
      obtain ⟨F1, S1, Rs, k1, k2, k3, k4, k5, k6, _⟩ := h.takeAll hX hp hta
      obtain ⟨it, z, hi, hzz, hzp⟩ := zeroOk_some hX hz w F1
      -- the places
      have hpl : ∃ places, fs.toList.mapM (fun f => (P.info? f.type).map fun i => (f.offset, i.size)) = some places ∧ ∀ (j : Nat) f T, fs[j]? = some f → tyC P Γ f.type = some T → places[j]? = some (f.offset, Γ.X.sz T) := by
        have gen : ∀ (l : List Field), (allO (fun f => sizeO P f.type) l).isSome = true → ∃ places, l.mapM (fun f => (P.info? f.type).map fun i => (f.offset, i.size)) = some places ∧ ∀ (j : Nat) f T, l[j]? = some f → tyC P Γ f.type = some T → places[j]? = some (f.offset, Γ.X.sz T) := fun l => by
          induction l with
          | nil => intro _; exact ⟨[], rfl, by simp⟩
          | cons f l ih =>
            intro hsome
            simp only [allO] at hsome
            split at hsome
            · rename_i n ns hn hns
              obtain ⟨places, p1, p2⟩ := ih (by rw [hns]; rfl)
              have hn' : (P.info? f.type).map (fun i => (f.offset, i.size)) = some (f.offset, n) := by
                unfold sizeO at hn
                cases hif : P.info? f.type with
                | none => simp [hif] at hn
                | some y => simp [hif] at hn; simp [hn]
              refine ⟨(f.offset, n) :: places, by simp [List.mapM_cons, hn', p1], fun j f' T hj hT => ?_⟩
              cases j with
              | zero =>
                simp at hj; subst hj
                have := (tyC_some hT).2.1
                rw [hn] at this; cases this
                rfl
              | succ j => simpa using p2 j f' T (by simpa using hj) hT
            · simp at hsome
        obtain ⟨places, p1, p2⟩ := gen fs.toList hsz
        exact ⟨places, p1, fun j f T hj hT => p2 j f T (by simpa using hj) hT⟩
      obtain ⟨places, hpl1, hpl2⟩ := hpl
      let step : (Γ.X.Tup (Γ.X.fields i) × Own) → (Nat × (T : Γ.X.Ty) × Γ.X.den T × Own) → Option (Γ.X.Tup (Γ.X.fields i) × Own) := fun xm p =>
        if fldOk P Γ fs i p.1 then match setT (Γ.X.fields i) xm.1 p.1 p.2.1 p.2.2.1, setO xm.2 [.fld p.1] (if p.2.2.2.pure then .no else p.2.2.2.gen g) with
          | some y, some m' => some (y, m')
          | _, _ => none
        else none
      have hfold : ∀ (vs : List (Nat × (T : Γ.X.Ty) × Γ.X.den T × Own)) (x0 x : Γ.X.Tup (Γ.X.fields i)) (m0 m : Own), (∀ p ∈ vs, fldOk P Γ fs i p.1 = true) → setParts i x0 (partsV vs) = some x → partsO g vs m0 = some m → vs.foldlM step (x0, m0) = some (x, m) := fun vs => by
        induction vs with
        | nil => intro x0 x m0 m _ h1 h2; simp [partsV, setParts] at h1; simp [partsO] at h2; subst h1 h2; rfl
        | cons p vs ih =>
          intro x0 x m0 m hall h1 h2
          obtain ⟨j, T, v, mo⟩ := p
          simp only [partsV, List.map_cons, setParts] at h1
          simp only [partsO] at h2
          split at h1
          · rename_i y hy
            split at h2
            · rename_i m1 hm1
              simp only [List.foldlM_cons]
              have : step (x0, m0) (j, ⟨T, v, mo⟩) = some (y, m1) := by
                simp only [step]
                rw [if_pos (hall (j, ⟨T, v, mo⟩) (by simp))]
                simp only [hy, hm1]
              rw [this]
              exact ih y x m1 m (fun p hp => hall p (by simp [hp])) h1 h2
            · cases h2
          · cases h1
      have hall : ∀ p ∈ vs, fldOk P Γ fs i p.1 = true := by
        have gen : ∀ {ps qs' Rs}, PartsOk (Γ := Γ) w F1 ps qs' Rs → (∀ q ∈ qs', fldOk P Γ fs i q.1 = true) → ∀ p ∈ ps, fldOk P Γ fs i p.1 = true := fun {ps qs' Rs} hpo => by
          induction hpo with
          | nil => intro _ p hp; cases hp
          | cons h _ ih =>
            intro hq p hp
            rcases List.mem_cons.1 hp with rfl | hp
            · rw [← h.1]; exact hq _ (by simp)
            · exact ih (fun q hqq => hq q (by simp [hqq])) p hp
        refine gen k3 fun q hq => ?_
        simp only [List.mem_map] at hq
        obtain ⟨q', hq', rfl⟩ := hq
        exact List.all_eq_true.1 hfs q' hq'
      have hz0 : VRep w F1 (.named i) (Γ.X.of i (Γ.X.to i (Γ.X.zeroD i))) .no z.cells.toList [] := by rw [hX.of_to]; exact .pure hzp
      obtain ⟨cells', R', g1, g2, g3, _, g5⟩ := fill_gen (Γ := Γ) (w := w) (F := F1) (fun (xm : Γ.X.Tup (Γ.X.fields i) × Own) cs R => VRep w F1 (.named i) (Γ.X.of i xm.1) xm.2 cs R) (places.toArray[·]?) step
        (fun xm ym p q R R0 cells hrep hst hpo hn0 hnR hdis => by
          obtain ⟨x0, m0⟩ := xm
          obtain ⟨y0, m1⟩ := ym
          obtain ⟨j, T, v, mo⟩ := p
          simp only [step] at hst
          split at hst
          · rename_i hfo
            split at hst
            · rename_i y' m' hy hm1
              cases hst
              obtain ⟨_, cs, hv, hu⟩ := hpo
              simp only at hv hu hfo hy hm1 hrep
              obtain ⟨gt1, _⟩ := getT_set hy
              have hjT := getT_type gt1
              obtain ⟨f, T', f1, f2, f3, f4, _⟩ := fldOk_some hfo
              rw [f2] at hjT; cases hjT
              obtain ⟨x1, hx1⟩ := getT_some x0 f2
              have hq : tyQ [.fld j] (.named i : Γ.X.Ty) = some T := by simp [tyQ, f2]
              have hgq : getQ [.fld j] (.named i : Γ.X.Ty) (Γ.X.of i x0) = some ⟨T, x1⟩ := by
                simp only [getQ]; rw [hX.to_of, hx1]
              obtain ⟨c1, cx, c2, S1', Sx, S2, e1, e2, e3, e4, e5⟩ := hrep.lens hX hq hgq
              have hsq : setQ [.fld j] (.named i : Γ.X.Ty) (Γ.X.of i x0) T v = some (Γ.X.of i y0) := by
                simp only [setQ]; rw [hX.to_of, hx1]
                simp only [castT_self]
                rw [hy]; rfl
              have hlx := e4.length hX
              have hlv := hv.length hX
              have hoff : offQ [.fld j] (.named i : Γ.X.Ty) = f.offset := by simp [offQ, f2, f3]
              have hv' : VRep w F1 T v (if mo.pure then .no else mo.gen g) cs R := by
                split
                · rename_i hpu
                  obtain ⟨q1, q2⟩ := hv.toPure hpu
                  rw [q2]; exact .pure q1
                · exact hv.gen g
              have hres := e5 w F1 v _ m1 cs R (Γ.X.of i y0) (fun _ h => h) (fun _ _ => rfl) (fun _ _ _ => rfl) hn0 hv' hsq hm1
              refine ⟨f.offset, cs, ?_, valOk_cells' hu hv.one, ?_, S1' ++ R ++ S2, ?_, ?_, ?_⟩
              · rw [List.getElem?_toArray, hlv]; exact hpl2 j f T f1 f4
              · rw [e1, ← hoff, ← e2, hlv, ← hlx]; simp
              · have : cells.take f.offset ++ cs ++ cells.drop (f.offset + cs.length) = c1 ++ cs ++ c2 := by
                  rw [e1, ← hoff, ← e2, hlv, ← hlx]; simp
                rw [this]; exact hres
              · rw [e3] at hn0 hdis
                obtain ⟨n1, n2, n3⟩ := nodup_parts hn0
                obtain ⟨m1', m2', m3'⟩ := List.nodup_append.1 n1
                refine List.nodup_append.2 ⟨List.nodup_append.2 ⟨m1', hnR, fun b hb c hc hbc => ?_⟩, m2', fun b hb c hc hbc => ?_⟩
                · subst hbc; exact hdis b (by simp [hb]) hc
                · subst hbc
                  rcases List.mem_append.1 hb with hb | hb
                  · exact m3' b hb b hc rfl
                  · exact hdis b (by simp [hc]) hb
              · intro b hb
                rw [e3]
                simp only [List.mem_append] at hb ⊢
                rcases hb with (hb | hb) | hb
                · exact .inl (.inl (.inl hb))
                · exact .inr hb
                · exact .inl (.inr hb)
            · cases hst
          · cases hst)
        k3 (Γ.X.to i (Γ.X.zeroD i), .no) (x, m) z.cells [] hz0 (hfold vs _ x .no m hall hx hm) List.nodup_nil k4 (by simp)
      have hrun : (execOp a.eval o).run P w = .ok (.value (.agg cells')) w := by
        have hb : P.built t (qs.toList.map fun q => (q.1, a.eval q.2)) = some cells' := by
          unfold Program.built
          simp only [hi, ht, hzz, hpl1]
          exact g1
        simp only [execOp, ho]
        have := run_build (P := P) w t (qs.map fun q => (q.1, a.eval q.2)) cells' (by simpa using hb)
        simp [this]
      unfold Oper.wp
      rw [hrun]
      have hgen : OGen (· = g) m := by
        have gen : ∀ (vs : List (Nat × (T : Γ.X.Ty) × Γ.X.den T × Own)) (m0 m : Own), OGen (· = g) m0 → partsO g vs m0 = some m → OGen (· = g) m := fun vs => by
          induction vs with
          | nil => intro m0 m h0 h1; simp [partsO] at h1; subst h1; exact h0
          | cons p vs ih =>
            intro m0 m h0 h1
            obtain ⟨j, T, v, mo⟩ := p
            simp only [partsO] at h1
            split at h1
            · rename_i m1 hm1
              refine ih m1 m (OGen_setO hm1 h0 ?_) h1
              split
              · exact trivial
              · exact OGen_gen g mo
            · cases h1
        exact gen vs .no m trivial hm
      have hh : Hand B U F1 S1 (applyU e u) a w (.val (.named i) (Γ.X.of i x) m) (.agg cells') R' := by
        refine ⟨.u (.val (.named i) _ m _ cells'.toList R' g2 (by unfold valOk; rw [if_pos (by simp [aggB])])), trivial, g3, fun b hb => ?_, fun b hb => ?_⟩
        · rcases g5 b hb with hb | hb
          · cases hb
          · exact k5 b hb
        · rcases g5 b hb with hb | hb
          · cases hb
          · exact k6 b hb
      refine hnext _ _ ?_
      have := k1.out hd hg hh hgen
      rw [applyU_append]
      exact this
    · cases hs
  · cases hs

theorem step_buildA {t el : TypeId} {n : Nat} {T : Γ.X.Ty} {f : Nat → Option Γ.X.Ty} {qs : Array (Nat × Operand)} {parts : List (Nat × AX Γ.X)} (ho : o.op = .build t qs) (ht : P.underlying t = some (.array n el)) (hz : zeroOk P Γ t (.arr n T) = true)
    (hsz : sizeO P el = some (Γ.X.sz T)) (hp : partsC Γ K f qs.toList = some parts) (hs : eff ans g e o.dst (.buildA n T parts) = some us) : o.wp P a w next Q := by
  simp only [eff] at hs
  split at hs
  · rename_i vs u hta
    split at hs
    · rename_i hpu
      split at hs
      · rename_i x hx
        cases hs
        obtain ⟨F1, S1, Rs, k1, k2, k3, k4, k5, k6, _⟩ := h.takeAll hX hp hta
        obtain ⟨it, z, hi, hzz, hzp⟩ := zeroOk_some hX hz w F1
        have hz0 : ERep w F1 T n (List.replicate n (Γ.X.zero T)) z.cells.toList [] := by
          generalize hcc : z.cells.toList = cc at hzp
          cases hzp with
          | arr _ _ _ css hcp => exact ⟨by simp, rfl, css, rfl, fun j xx hj => hcp j xx hj⟩
        obtain ⟨cells', g1, g2, g3⟩ := fill_elems hX k3 hx hpu hz0 k4
        have hrun : (execOp a.eval o).run P w = .ok (.value (.agg cells')) w := by
          have hb : P.built t (qs.toList.map fun q => (q.1, a.eval q.2)) = some cells' := by
            unfold Program.built
            unfold sizeO at hsz
            cases hie : P.info? el with
            | none => simp [hie] at hsz
            | some ie =>
              simp [hie] at hsz
              simp only [hi, ht, hzz, hie, hsz]
              exact g1
          simp only [execOp, ho]
          have := run_build (P := P) w t (qs.map fun q => (q.1, a.eval q.2)) cells' (by simpa using hb)
          simp [this]
        unfold Oper.wp
        rw [hrun]
        obtain ⟨q1, _, css, q2, q3⟩ := g2
        refine hnext _ _ ?_
        rw [applyU_append]
        refine k1.outV hd hg rfl (cs := cells'.toList) (.pure ?_) (by unfold valOk; rw [if_pos (by simp [aggB])])
        rw [q2]
        exact .arr n T _ css fun j xx hj => q3 j xx hj
      · cases hs
    · cases hs
  · cases hs

theorem step_buildSlice {t el : TypeId} {b len : Nat} {T : Γ.X.Ty} {f : Nat → Option Γ.X.Ty} {qs : Array (Nat × Operand)} {parts : List (Nat × AX Γ.X)} (ho : o.op = .buildSlice t len qs) (ht : P.underlying t = some (.slice el)) (hel : tyC P Γ el = some T) (hz : zeroOk P Γ el T = true)
    (hp : partsC Γ K f qs.toList = some parts) (hs : eff ans g e o.dst (.buildSlice b T len parts) = some us) : o.wp P a w next Q := by
  simp only [eff] at hs
  split at hs
  · rename_i vs u hta
    split at hs
    · rename_i hcond
      rw [Bool.and_eq_true, decide_eq_true_eq] at hcond
      obtain ⟨hpu, hlim⟩ := hcond
      split at hs
      · rename_i x hx
        obtain ⟨l, hl, hs⟩ := Option.bind_eq_some_iff.1 hs
        cases hs
        obtain ⟨F1, S1, Rs, k1, k2, k3, k4, k5, k6, _⟩ := h.takeAll hX hp hta
        obtain ⟨it, z, hi, hzz, hzp⟩ := zeroOk_some hX hz w F1
        have hzl := hzp.length hX
        have hsize : it.size = Γ.X.sz T := by
          have := (tyC_some hel).2.1
          unfold sizeO at this
          rw [hi] at this
          simpa using this
        have hmade := cat_const hzl len
        have hz0 : ERep w F1 T len (List.replicate len (Γ.X.zero T)) (madeCells z.cells (len * Γ.X.sz T)).toList [] := by
          refine ⟨by simp, rfl, fun _ => z.cells.toList, ?_, fun j xx hj => ?_⟩
          · rw [← hmade]
          · have := List.mem_of_getElem? hj
            simp only [List.mem_replicate] at this
            rw [this.2]; exact hzp
        obtain ⟨cells', g1, g2, g3⟩ := fill_elems hX k3 hx hpu hz0 k4
        have hmk : ∃ hh, l = ⟨x, hh⟩ := by
          unfold Sl.mk? at hl
          split at hl
          · cases hl; exact ⟨_, rfl⟩
          · cases hl
        obtain ⟨hh, rfl⟩ := hmk
        have hrun : (execOp a.eval o).run P w = .ok (.value (.slice (some ⟨w.heap.size, 0, none⟩) len len)) (w.alloc (.cells cells' el)) := by
          have hlim' : ¬ (16777216 < len * it.size) := by rw [hsize]; omega
          by_cases h0 : len * it.size = 0
          · have hm : madeCells z.cells (len * Γ.X.sz T) = #[] := by rw [← hsize, h0]; simp [madeCells]
            rw [hm, ← hsize] at g1
            have hr0 : (Array.map (fun _ => (default : Value)) (Array.range 0)) = #[] := by simp
            simp only [execOp, ho]
            simp [Instr.buildSlice, run_underlying' ht, sizeOf, run_typeInfo' hi, h0, newRow, hr0, Array.range_zero', g1]
          · have hm : madeCells z.cells (len * Γ.X.sz T) = (Array.range (len * it.size)).map (z.cells[· % z.cells.size]!) := by rw [← hsize]; rfl
            rw [hm, ← hsize] at g1
            simp only [execOp, ho]
            simp [Instr.buildSlice, run_underlying' ht, sizeOf, run_typeInfo' hi, h0, g1, newRow, hlim', zeroValue, hzz]
        unfold Oper.wp
        rw [hrun]
        obtain ⟨q1, _, css, q2, q3⟩ := g2
        have hcl : ∀ k, k < len → (css k).length = Γ.X.sz T := fun k hk => (q3 k _ (List.getElem?_eq_getElem (by omega))).length hX
        obtain ⟨r1, r2⟩ := k1.newRow' (w1 := w) (b := b) (t := T) (l := ⟨x, hh⟩) (cells := cells') (ty := el) (cap := len) (css := css) g ⟨rfl, rfl, rfl, rfl⟩
          (by rw [g3, size_madeCells]) (by simp only [q1]; exact Nat.le_refl _) (by have := hh.2; rw [q1] at this; exact maxLen_room this)
          (fun k j u hk hj => by
            simp only [q1] at hk
            have hjl : j < Γ.X.sz T := by rw [← hcl k hk]; exact (List.getElem?_eq_some_iff.1 hj).1
            rw [← Array.getElem?_toList, q2, cat_get hcl hk hjl]
            exact hj)
          (fun k xx hk => q3 k xx hk)
        simp only [q1] at r2
        refine hnext _ _ ?_
        rw [applyU_append]
        exact r1.out hd hg r2 rfl
      · cases hs
    · cases hs
  · cases hs
end steps
end
end
end Go.A2
