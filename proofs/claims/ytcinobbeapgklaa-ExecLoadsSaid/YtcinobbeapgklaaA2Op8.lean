/- YtcinobbeapgklaaA2Op8: new slices; appending. No statement of the seat is proved here. -/
import Derived.Test.YtcinobbeapgklaaA2Op7
import Derived.Laws.MakeOwn
namespace Go.A2
section
variable {P : Program} {Γ : Cx}

theorem cat_get {α : Type} {f : Nat → List α} {n m i j : Nat} (h : ∀ i, i < n → (f i).length = m) (hi : i < n) (hj : j < m) : (cat f n)[i * m + j]? = (f i)[j]? := by
  obtain ⟨r, h1, _⟩ := cat_split f hi
  have hl : (cat f i).length = i * m := cat_length fun k hk => h k (by omega)
  have hfi := h i hi
  rw [h1, List.append_assoc, List.getElem?_append_right (by omega), List.getElem?_append_left (by omega)]
  congr 1; omega
theorem cat_at {α : Type} {f : Nat → List α} {m : Nat} : ∀ {n j : Nat} {v : α}, (∀ i, i < n → (f i).length = m) → (cat f n)[j]? = some v → ∃ i r, i < n ∧ j = i * m + r ∧ (f i)[r]? = some v
  | 0, j, v, _, hv => by simp [cat] at hv
  | n + 1, j, v, h, hv => by
    have hl : (cat f n).length = n * m := cat_length fun k hk => h k (by omega)
    rw [cat_succ] at hv
    by_cases hj : j < n * m
    · rw [List.getElem?_append_left (by omega)] at hv
      obtain ⟨i, r, h1, h2, h3⟩ := cat_at (fun i hi => h i (by omega)) hv
      exact ⟨i, r, by omega, h2, h3⟩
    · rw [List.getElem?_append_right (by omega), hl] at hv
      exact ⟨n, j - n * m, by omega, by omega, hv⟩
theorem cat_mem {α : Type} {f : Nat → List α} {n : Nat} {p : α → Prop} (h : ∀ i, i < n → ∀ x ∈ f i, p x) : ∀ x ∈ cat f n, p x := fun x hx => by
  obtain ⟨i, hi, hx⟩ := mem_cat.1 hx
  exact h i hi x hx

theorem firstCells' {w : World} {size m c : Nat} {ad : Option Addr} {news : List Value} (hl : news.length = m * size) (h : news ≠ [] → ∃ blk o, ad = some ⟨blk, o, none⟩ ∧ ∀ (j : Nat) u, news[j]? = some u → w.cell? ⟨blk, o + j, none⟩ = some u) :
    (Builtin.firstCells size m (.slice ad m c)).run P w = .ok news.toArray w := by
  cases ad with
  | none =>
    cases news with
    | nil => exact run_firstCells_none w size m m c
    | cons => obtain ⟨_, _, h, _⟩ := h (by simp); cases h
  | some a =>
    refine run_firstCells_some w size m a m c news hl fun j v hj => ?_
    obtain ⟨blk, o, h1, h2⟩ := h (by intro hn; rw [hn] at hj; simp at hj)
    cases h1
    rw [addr_add]
    exact h2 j v hj

theorem run_append_room' {w : World} {t t2 ty el el2 : TypeId} {i : TypeInfo} (ht : P.underlying t = some (.slice el)) (ht2 : P.underlying t2 = some (.slice el2)) (hi : P.info? el = some i) {base : Option Addr} {sLen sCap : Nat} {ad : Option Addr} {m c : Nat} {news : List Value} (hl : news.length = m * i.size)
    (hn : news ≠ [] → ∃ blk o, ad = some ⟨blk, o, none⟩ ∧ ∀ (j : Nat) u, news[j]? = some u → w.cell? ⟨blk, o + j, none⟩ = some u) (hroom : sLen + m ≤ sCap) {w' : World}
    (hst : ∀ a, base = some a → (storeCells (a.add (sLen * i.size)) news).run P w = .ok () w') (hb : base = none → w' = w) :
    (Builtin.append_ #[t, t2] ty #[.slice base sLen sCap, .slice ad m c]).run P w = .ok (.slice base (sLen + m) sCap) w' := by
  have hf := firstCells' (P := P) (w := w) (size := i.size) (m := m) (c := c) hl hn
  cases base with
  | none => rw [hb rfl]; simp [Builtin.append_, run_underlying ht, run_underlying ht2, sizeOf, typeInfo, hi, Builtin.lenOf, hroom, hf]
  | some a => simp [Builtin.append_, run_underlying ht, run_underlying ht2, sizeOf, typeInfo, hi, Builtin.lenOf, hroom, hf, hst a rfl]

theorem run_append_grow' {w : World} {t t2 ty el el2 : TypeId} {i : TypeInfo} {z : Value} (ht : P.underlying t = some (.slice el)) (ht2 : P.underlying t2 = some (.slice el2)) (hi : P.info? el = some i) (hz : i.zero = some z) {base : Option Addr} {sLen sCap : Nat} {ad : Option Addr} {m c : Nat} {olds news : List Value}
    (hlo : olds.length = sLen * i.size) (ho : olds ≠ [] → ∃ blk o, base = some ⟨blk, o, none⟩ ∧ ∀ (j : Nat) u, olds[j]? = some u → w.cell? ⟨blk, o + j, none⟩ = some u)
    (hl : news.length = m * i.size) (hn : news ≠ [] → ∃ blk o, ad = some ⟨blk, o, none⟩ ∧ ∀ (j : Nat) u, news[j]? = some u → w.cell? ⟨blk, o + j, none⟩ = some u)
    (hg : sCap < sLen + m) (h63 : ((sLen + m : Nat) : Int) ≤ 9223372036854775807) (hfit : Builtin.nextslicecap (sLen + m) sCap * i.bytes ≤ 281474976710656) :
    (Builtin.append_ #[t, t2] ty #[.slice base sLen sCap, .slice ad m c]).run P w =
      .ok (.slice (some ⟨w.heap.size, 0, none⟩) (sLen + m) (grownCap w (sLen + m) sCap el))
        (w.drew.alloc (.cells (olds.toArray ++ news.toArray ++ Builtin.zeroCells z.cells (grownCap w (sLen + m) sCap el - (sLen + m))) el)) := by
  have hnn : ¬ (sLen + m ≤ sCap) := by omega
  have h63' : ¬ (9223372036854775807 < ((sLen : Int) + (m : Int))) := by omega
  have h48' : ¬ (281474976710656 < Builtin.nextslicecap (sLen + m) sCap * i.bytes) := by omega
  have hf := firstCells' (P := P) (w := w.drew) (size := i.size) (m := m) (c := c) hl (by simpa using hn)
  have hfo := firstCells' (P := P) (w := w.drew) (size := i.size) (m := sLen) (c := sCap) hlo (by simpa using ho)
  simp [Builtin.append_, run_underlying ht, run_underlying ht2, sizeOf, typeInfo, zeroValue, hi, hz, Builtin.lenOf, hnn, h63', h48', Question.forced, hf, hfo, newRow, grownCap]
  congr 2
  apply Array.ext'
  simp [List.append_assoc]

theorem made_get {z : Array Value} {n i j : Nat} (hi : i < n) (hj : j < z.size) : (madeCells z (n * z.size))[i * z.size + j]? = z[j]? := by
  have h1 : (i + 1) * z.size ≤ n * z.size := Nat.mul_le_mul_right _ hi
  rw [Nat.succ_mul] at h1
  unfold madeCells
  rw [Array.getElem?_map, Array.getElem?_range, if_pos (by omega)]
  simp only [Option.map_some]
  have : (i * z.size + j) % z.size = j := by rw [Nat.mul_comm, Nat.mul_add_mod]; exact Nat.mod_eq_of_lt hj
  rw [this, Array.getElem?_eq_getElem hj]
  simp [hj]

section
variable {K : List Nat} {N : Slots} {F0 B U : Nat → Prop} {w0 : World} {F : Nat → Prop} {S : Nat → List Nat} {e : Env Γ.X} {a : Act} {w : World}

/-- A new block in hand. -/
theorem EnvRel.newRow' (h : EnvRel N F0 B U w0 F S e a w) {b : Nat} {t : Γ.X.Ty} {l : Sl b (Γ.X.den t)} {w1 : World} {cells : Array Value} {ty : TypeId} {cap : Nat} {css : Nat → List Value} (g : Nat) (hw1 : w1.heap = w.heap ∧ w1.os = w.os ∧ w1.tape = w.tape ∧ w1.output = w.output)
    (hsz : cells.size = cap * Γ.X.sz t) (hcap : l.l.length ≤ cap) (hmx : cap ≤ maxLen) (hc : ∀ (i j : Nat) u, i < l.l.length → (css i)[j]? = some u → cells[i * Γ.X.sz t + j]? = some u) (hp : ∀ (i : Nat) x, l.l[i]? = some x → PRep w F t x (css i)) :
    EnvRel N F0 B U w0 F S e a (w1.alloc (.cells cells ty)) ∧ Hand B U F S e a (w1.alloc (.cells cells ty)) (.val (.slice b t) l (.yes g)) (.slice (some ⟨w.heap.size, 0, none⟩) l.l.length cap) [w.heap.size] := by
  obtain ⟨e1, e2, e3, e4⟩ := hw1
  have hold : ∀ b', b' < w.heap.size → (w1.alloc (.cells cells ty)).heap[b']? = w.heap[b']? := fun b' hb' => by rw [heap_alloc_old w1 _ b' (by rw [e1]; exact hb'), e1]
  have h1 := h.world (w' := w1.alloc (.cells cells ty)) (F' := F) (fun _ h => h) (fun b hb => hold b (h.free b hb)) (fun t b hb => hold b (h.own t b hb).2.1)
    ⟨e2, e3, e4, by simp [e1], fun k hk _ => hold k hk⟩ fun b hb => .inl hb
  refine ⟨h1, ?_, trivial, by simp, ?_, ?_⟩
  · refine .u (.val (.slice b t) l (.yes g) _ _ [w.heap.size] (.own b t l g w.heap.size cap cells ty css ?_ hsz hcap hmx hc fun i x hi => (hp i x hi).mono (fun _ h => h) fun b' hb' => hold b' (h.free b' hb')) (by unfold valOk; rw [if_neg (by simp [aggB])]))
    rw [← e1]; exact heap_alloc_new w1 _
  · intro b' hb'
    simp at hb'; subst hb'
    exact ⟨h.base _ (Nat.le_refl _), by simp [e1], fun hf => by have := h.free _ hf; omega⟩
  · intro b' hb' s hs
    simp at hb'; subst hb'
    have := (h.own s _ hs).2.1; omega

theorem maxLen_room {n : Nat} (h : n ≤ room) : n ≤ maxLen := by unfold room at h; unfold maxLen; omega

/-- What is grabbed: a slice in hand that this place owns, or that is full. -/
theorem EnvRel.grab (hX : TabOk Γ.X) (h : EnvRel N F0 B U w0 F S e a w) {T0 : Option Γ.X.Ty} {Y : Operand} {x : AX Γ.X} (hx : compX Γ K T0 Y = some x) {b : Nat} {t : Γ.X.Ty} {l : Sl b (Γ.X.den t)} {us : Ups Γ.X} {z : Bool} (hgr : Go.A2.grab e x = some ⟨b, t, l, us, z⟩) :
    ∃ S1 m R, EnvRel N F0 B U w0 F S1 (applyU e us) a w ∧ VRep w F (.slice b t) l m [a.eval Y] R ∧ (m = .full ∧ (z = true ∨ l.l = []) ∨ ∃ g, m = .yes g) ∧ (∀ b ∈ R, B b ∧ b < w.heap.size ∧ ¬ F b) ∧ (∀ b ∈ R, ∀ s, b ∉ S1 s) ∧ (∀ b ∈ R, ∃ s, b ∈ S s) ∧ ∀ s b, b ∈ S1 s → b ∈ S s := by
  have dropSub : ∀ s t b, b ∈ updS S s [] t → b ∈ S t := fun s t b hb => by
    by_cases ht : t = s
    · subst ht; rw [updS_same] at hb; cases hb
    · rwa [updS_ne S _ ht] at hb
  have slot : ∀ {s : Nat}, Y = .tmp s → Go.A2.grab e (.v s) = some ⟨b, t, l, us, z⟩ →
      ∃ S1 m R, EnvRel N F0 B U w0 F S1 (applyU e us) a w ∧ VRep w F (.slice b t) l m [a.eval Y] R ∧ (m = .full ∧ (z = true ∨ l.l = []) ∨ ∃ g, m = .yes g) ∧ (∀ b ∈ R, B b ∧ b < w.heap.size ∧ ¬ F b) ∧ (∀ b ∈ R, ∀ s, b ∉ S1 s) ∧ (∀ b ∈ R, ∃ s, b ∈ S s) ∧ ∀ s b, b ∈ S1 s → b ∈ S s := fun {s} hY hgr => by
    subst hY
    simp only [Go.A2.grab] at hgr
    split at hgr
    · rename_i b' t' l' hes
      cases hgr
      obtain ⟨cs, k1, k2⟩ := h.valAt hes
      obtain ⟨_, hS⟩ := k1.toPure rfl
      rw [hS] at k1
      unfold valOk at k2; rw [if_neg (by simp [aggB])] at k2
      subst k2
      exact ⟨S, .full, [], h, k1, .inl ⟨rfl, .inl rfl⟩, by simp, by simp, by simp, fun _ _ h => h⟩
    · rename_i b' t' l' g' hes
      cases hgr
      have hh := h.handOf s
      rw [hes] at hh
      obtain ⟨cs, k1, k2⟩ := SRep.valInv hh.rep
      unfold valOk at k2; rw [if_neg (by simp [aggB])] at k2
      subst k2
      exact ⟨_, _, S s, h.drop s, k1, .inr ⟨_, rfl⟩, hh.own, hh.apart, fun b hb => ⟨s, hb⟩, dropSub s⟩
    · rename_i r q g' hes
      split at hgr
      · rename_i b' t' l' u hc hm
        cases hgr
        have hr := h.rep s
        rw [hes] at hr
        obtain ⟨hq, hh⟩ := h.refAt hc hr
        obtain ⟨T, v, o, c1, c2, c3⟩ := cont_some hc
        split at hm
        · rename_i hqe
          cases hm
          have : q = [] := by cases q <;> first | rfl | cases hqe
          subst this
          simp only [getQ, Option.some.injEq] at c2
          cases c2
          simp only [ownAt] at c3; subst c3
          obtain ⟨cx, Sx, p1, p2, p3⟩ := h.place hX (q := []) c1 rfl rfl
          have hl := p1.length hX
          simp only [Tab.sz] at hl
          cases cx with
          | nil => simp at hl
          | cons c cx => cases cx with
            | cons => simp at hl
            | nil =>
              have := p3 c rfl
              rw [hh] at this; cases this
              refine ⟨_, _, Sx, h.drop r, p1, .inr ⟨_, rfl⟩, fun b hb => h.own r b (p2 b hb), fun b hb t => ?_, fun b hb => ⟨r, p2 b hb⟩, dropSub r⟩
              by_cases ht : t = r
              · subst ht; rw [updS_same]; simp
              · rw [updS_ne S _ ht]; exact h.apart r t b (Ne.symm ht) (p2 b hb)
        · obtain ⟨T', v', o', m, k1, k2, rfl⟩ := setMask_some hm
          rw [c1] at k1; cases k1
          obtain ⟨cx, Sx, p1, p2, _, p3, _, p5⟩ := h.remask hX c1 (tyQ_of_getQ hq c2) c2 k2 (o' := .dead) trivial
          rw [c3] at p1
          have hl := p1.length hX
          simp only [Tab.sz] at hl
          cases cx with
          | nil => simp at hl
          | cons c cx => cases cx with
            | cons => simp at hl
            | nil =>
              have := p3 c rfl
              rw [hh] at this; cases this
              obtain ⟨S', g1, g2, g3⟩ := p5 F (fun _ h => h) (fun b hb => .inl hb) (.dead b t l _ (p1.one _ (by simp)))
              refine ⟨S', _, Sx, g1, p1, .inr ⟨_, rfl⟩, fun b hb => h.own r b (p2 b hb), fun b hb t => ?_, fun b hb => ⟨r, p2 b hb⟩, fun t b hb => ?_⟩
              · by_cases ht : t = r
                · subst ht; exact fun hb' => (g3 b hb').2 hb
                · rw [g2 t ht]; exact h.apart r t b (Ne.symm ht) (p2 b hb)
              · by_cases ht : t = r
                · subst ht; exact (g3 b hb).1
                · rwa [g2 t ht] at hb
      · cases hgr
    · cases hgr
  cases x with
  | c y =>
    cases y with
    | val T v o =>
      cases T with
      | slice b' t' =>
        cases o with
        | full =>
          simp only [Go.A2.grab] at hgr
          split at hgr
          · rename_i hnil
            cases hgr
            obtain ⟨R, h1, _, _⟩ := h.rd hX hx
            obtain ⟨cs, k1, k2⟩ := SRep.valInv h1
            obtain ⟨_, hR⟩ := k1.toPure rfl
            subst hR
            unfold valOk at k2; rw [if_neg (by simp [aggB])] at k2
            subst k2
            exact ⟨S, .full, [], h, k1, .inl ⟨rfl, .inr hnil⟩, by simp, by simp, by simp, fun _ _ h => h⟩
          · cases hgr
        | _ => simp [Go.A2.grab] at hgr
      | _ => simp [Go.A2.grab] at hgr
    | _ => simp [Go.A2.grab] at hgr
  | t s => exact slot (compX_slot (.inl hx)) hgr
  | v s => exact slot (compX_slot (.inr hx)) hgr

/-- The slice at hand, as appending finds it. -/
theorem grabbed {b : Nat} {t : Γ.X.Ty} {l : Sl b (Γ.X.den t)} {m : Own} {u : Value} {R : List Nat} (h : VRep w F (.slice b t) l m [u] R) (hm : m = .full ∨ ∃ g, m = .yes g) :
    ∃ (base : Option Addr) (cap : Nat) (css : Nat → List Value), u = .slice base l.l.length cap ∧ l.l.length ≤ cap ∧ (∀ (i : Nat) x, l.l[i]? = some x → PRep w F t x (css i)) ∧
      ((cap = l.l.length ∧ R = [] ∧ (l.l ≠ [] → m = .full ∧ ∃ blk o, base = some ⟨blk, o, none⟩ ∧ F blk ∧ ∀ (i j : Nat) u, i < l.l.length → (css i)[j]? = some u → w.cell? ⟨blk, o + i * Γ.X.sz t + j, none⟩ = some u)) ∨
       ∃ blk cells ty, base = some ⟨blk, 0, none⟩ ∧ R = [blk] ∧ w.heap[blk]? = some (.cells cells ty (0, 0)) ∧ cells.size = cap * Γ.X.sz t ∧ cap ≤ maxLen ∧ ∀ (i j : Nat) u, i < l.l.length → (css i)[j]? = some u → cells[i * Γ.X.sz t + j]? = some u) := by
  have key : ∀ {T : Γ.X.Ty} {v : Γ.X.den T} {o : Own} {cs : List Value} {S : List Nat}, VRep w F T v o cs S → T = .slice b t → HEq v l → o = m → cs = [u] → S = R →
      ∃ (base : Option Addr) (cap : Nat) (css : Nat → List Value), u = .slice base l.l.length cap ∧ l.l.length ≤ cap ∧ (∀ (i : Nat) x, l.l[i]? = some x → PRep w F t x (css i)) ∧
      ((cap = l.l.length ∧ R = [] ∧ (l.l ≠ [] → m = .full ∧ ∃ blk o, base = some ⟨blk, o, none⟩ ∧ F blk ∧ ∀ (i j : Nat) u, i < l.l.length → (css i)[j]? = some u → w.cell? ⟨blk, o + i * Γ.X.sz t + j, none⟩ = some u)) ∨
       ∃ blk cells ty, base = some ⟨blk, 0, none⟩ ∧ R = [blk] ∧ w.heap[blk]? = some (.cells cells ty (0, 0)) ∧ cells.size = cap * Γ.X.sz t ∧ cap ≤ maxLen ∧ ∀ (i j : Nat) u, i < l.l.length → (css i)[j]? = some u → cells[i * Γ.X.sz t + j]? = some u) := fun hv hT hvl ho hcs hS => by
    cases hv with
    | full b' t' v ad hp =>
      cases hT; cases hvl
      simp only [List.cons.injEq, and_true] at hcs
      subst hcs
      generalize hcc : [Value.slice ad l.l.length l.l.length] = cc at hp
      cases hp with
      | slice _ _ _ ad' cap' css hcap ha hp =>
        simp only [List.cons.injEq, Value.slice.injEq, and_true] at hcc
        obtain ⟨rfl, _, rfl⟩ := hcc
        refine ⟨ad, l.l.length, css, rfl, Nat.le_refl _, hp, .inl ⟨rfl, hS.symm, fun hne => ⟨ho.symm, ?_⟩⟩⟩
        obtain ⟨blk, o, q1, q2, q3⟩ := ha hne
        exact ⟨blk, o, q1, q2, q3⟩
    | ownNil b' t' v g' ad hv =>
      cases hT; cases hvl
      simp only [List.cons.injEq, and_true] at hcs
      exact ⟨ad, 0, fun _ => [], by rw [← hcs, hv]; rfl, by rw [hv]; simp, fun i x hi => by rw [hv] at hi; simp at hi, .inl ⟨by rw [hv]; rfl, hS.symm, fun hne => absurd hv hne⟩⟩
    | own b' t' v g' blk cap cells ty css hg hsz hcap hmx hcc hp =>
      cases hT; cases hvl
      simp only [List.cons.injEq, and_true] at hcs
      exact ⟨_, cap, css, hcs.symm, hcap, hp, .inr ⟨blk, cells, ty, rfl, hS.symm, hg, hsz, hmx, hcc⟩⟩
    | pure => rcases hm with rfl | ⟨g, rfl⟩ <;> cases ho
    | st => rcases hm with rfl | ⟨g, rfl⟩ <;> cases ho
    | dead => rcases hm with rfl | ⟨g, rfl⟩ <;> cases ho
  exact key h rfl HEq.rfl rfl rfl rfl

theorem app_l {b : Nat} {α : Type} {x y z : Sl b α} (h : Sl.app? x y = some z) : z.l = x.l ++ y.l := by
  unfold Sl.app? at h
  split at h
  · rename_i hx
    cases h; rw [hx]; rfl
  · unfold Sl.mk? at h
    split at h
    · cases h; rfl
    · cases h

theorem full_inv {b : Nat} {T : Γ.X.Ty} {l : Sl b (Γ.X.den T)} {cs : List Value} {R : List Nat} (h : VRep w F (.slice b T) l .full cs R) : ∃ ad, cs = [.slice ad l.l.length l.l.length] := by
  have key : ∀ {T' : Γ.X.Ty} {v : Γ.X.den T'} {o : Own} {cs : List Value} {S : List Nat}, VRep w F T' v o cs S → T' = .slice b T → HEq v l → o = .full → ∃ ad, cs = [.slice ad l.l.length l.l.length] := fun hv hT hvl ho => by
    cases hv with
    | full b' t' v ad hp =>
      cases hT; cases hvl
      exact ⟨ad, rfl⟩
    | _ => cases ho
  exact key h rfl HEq.rfl rfl

theorem grab_true {x : AX Γ.X} {b : Nat} {t : Γ.X.Ty} {l : Sl b (Γ.X.den t)} {u : Ups Γ.X} (h : Go.A2.grab e x = some ⟨b, t, l, u, true⟩) : u = [] ∧ ∃ s, (x = .t s ∨ x = .v s) ∧ e s = .val (.slice b t) l .full := by
  cases x with
  | t s =>
    unfold Go.A2.grab at h
    simp only [] at h
    split at h
    · rename_i hes; cases h; exact ⟨rfl, s, .inl rfl, hes⟩
    · cases h
    · split at h <;> cases h
    · cases h
  | v s =>
    unfold Go.A2.grab at h
    simp only [] at h
    split at h
    · rename_i hes; cases h; exact ⟨rfl, s, .inr rfl, hes⟩
    · cases h
    · split at h <;> cases h
    · cases h
  | c y =>
    unfold Go.A2.grab at h
    split at h
    · split at h <;> cases h
    · cases h
    · rename_i h'; cases h'
    · rename_i h'; cases h'

section steps
variable {T0 T1 T2 : Option Γ.X.Ty} {g : Nat} {o : Oper} {us : Ups Γ.X} {ans : Ret Γ.X} (hX : TabOk Γ.X) (h : EnvRel N F0 B U w0 F S e a w) (hg : ¬ U g) (hd : ∀ k, o.dst = some k → N.ok k)
variable {next : Act → World → Prop} {Q : Exit → Act → World → Prop} (hnext : ∀ a' w', Sim N F0 B (withG U g) w0 (applyU e us) a' w' → next a' w')
include hX h hg hd hnext

theorem step_append {c : Call} {t t2 el el2 : TypeId} {b : Nat} {T : Γ.X.Ty} {ts : List TypeId} {x y : AX Γ.X} (ho : o.op = .call c) (hc : c.callee = .builtin .append) (hty : c.argTypes.toList = [t, t2]) (hx : argsC Γ K ts c.args.toList = some [x, y])
    (ht : P.underlying t = some (.slice el)) (ht2 : P.underlying t2 = some (.slice el2)) (hel : tyC P Γ el = some T) (hby : bytesO P el = some b) (hz : zeroOk P Γ el T = true) (hs : eff ans g e o.dst (.append b T x y) = some us) : o.wp P a w next Q := by
  obtain ⟨l1, h2⟩ := argsC_spec hx
  obtain ⟨TY, Y, hY, hcY⟩ := h2 0 x rfl
  obtain ⟨TZ, Z, hZ, hcZ⟩ := h2 1 y rfl
  have hargs : c.args = #[Y, Z] := by
    rw [← Array.toList_inj]
    generalize c.args.toList = L at l1 hY hZ
    match L, l1, hY, hZ with
    | [_, _], _, hY, hZ => simp at hY hZ; rw [hY, hZ]
  have hat : c.argTypes = #[t, t2] := by rw [← Array.toList_inj, hty]
  obtain ⟨i, z, hi, hzz, hzp⟩ := zeroOk_some hX hz w F
  have hsize : i.size = Γ.X.sz T := by
    have := (tyC_some hel).2.1
    unfold sizeO at this
    rw [hi] at this
    simpa using this
  have hbytes : i.bytes = b := by
    unfold bytesO at hby
    rw [hi] at hby
    simpa using hby
  have hzl : z.cells.size = Γ.X.sz T := by simpa using hzp.length hX
  simp only [eff] at hs
  split at hs
  · rename_i b1 t1 v1 u zf hgr
    split at hs
    · rename_i v1' b2 t2' v2 hv1 hsl
      split at hs
      · rename_i v2' hv2
        split at hs
        · rename_i hone
          obtain ⟨lr, hlr, hs⟩ := Option.bind_eq_some_iff.1 hs
          cases hs
          obtain ⟨he1, hv1⟩ := castT_some hv1
          cases he1
          simp only at hv1; subst hv1
          obtain ⟨he2, hv2⟩ := castT_some hv2
          cases he2
          simp only at hv2; subst hv2
          obtain ⟨S1, m, R, k1, k2, k3, k4, k5, _⟩ := h.grab hX hcY hgr
          obtain ⟨ad2, cap2, css2, u2, c2, a2, p2⟩ := h.rdSl hX hcZ hsl
          obtain ⟨base, cap, css1, u1, c1, p1, alt⟩ := grabbed k2 (by rcases k3 with ⟨h, _⟩ | h; exact .inl h; exact .inr h)
          have hll := app_l hlr
          have hlen : lr.l.length = v1.l.length + v2.l.length := by rw [hll, List.length_append]
          have hroom := lr.h
          rw [hlen] at hroom
          have cl1 : ∀ i, i < v1.l.length → (css1 i).length = Γ.X.sz T := fun i hi => (p1 i _ (List.getElem?_eq_getElem hi)).length hX
          have cl2 : ∀ i, i < v2.l.length → (css2 i).length = Γ.X.sz T := fun i hi => (p2 i _ (List.getElem?_eq_getElem hi)).length hX
          have hnl : (cat css2 v2.l.length).length = v2.l.length * i.size := by rw [hsize]; exact cat_length cl2
          have hol : (cat css1 v1.l.length).length = v1.l.length * i.size := by rw [hsize]; exact cat_length cl1
          have hnews : cat css2 v2.l.length ≠ [] → ∃ blk o, ad2 = some ⟨blk, o, none⟩ ∧ ∀ (j : Nat) u, (cat css2 v2.l.length)[j]? = some u → w.cell? ⟨blk, o + j, none⟩ = some u := fun hne => by
            have hv2ne : v2.l ≠ [] := fun hn => hne (by rw [hn]; rfl)
            obtain ⟨blk, o', q1, _, q3⟩ := a2 hv2ne
            refine ⟨blk, o', q1, fun j u hj => ?_⟩
            obtain ⟨i', r, r1, r2, r3⟩ := cat_at cl2 hj
            rw [r2, ← Nat.add_assoc]
            exact q3 i' r u r1 r3
          have holds : cat css1 v1.l.length ≠ [] → ∃ blk o, base = some ⟨blk, o, none⟩ ∧ ∀ (j : Nat) u, (cat css1 v1.l.length)[j]? = some u → w.cell? ⟨blk, o + j, none⟩ = some u := fun hne => by
            have hv1ne : v1.l ≠ [] := fun hn => hne (by rw [hn]; rfl)
            rcases alt with ⟨_, _, q⟩ | ⟨blk, cells, ty, q1, _, q2, _, _, q3⟩
            · obtain ⟨_, blk, o', q1, _, q3⟩ := q hv1ne
              refine ⟨blk, o', q1, fun j u hj => ?_⟩
              obtain ⟨i', r, r1, r2, r3⟩ := cat_at cl1 hj
              rw [r2, ← Nat.add_assoc]
              exact q3 i' r u r1 r3
            · refine ⟨blk, 0, q1, fun j u hj => ?_⟩
              obtain ⟨i', r, r1, r2, r3⟩ := cat_at cl1 hj
              rw [Nat.zero_add, cell_of q2, r2]
              exact q3 i' r u r1 r3
          have hp : ∀ (k : Nat) xx, lr.l[k]? = some xx → PRep w F T xx (if k < v1.l.length then css1 k else css2 (k - v1.l.length)) := fun k xx hk => by
            rw [hll] at hk
            by_cases hkl : k < v1.l.length
            · rw [List.getElem?_append_left hkl] at hk
              rw [if_pos hkl]; exact p1 k xx hk
            · rw [List.getElem?_append_right (by omega)] at hk
              rw [if_neg hkl]; exact p2 _ xx hk
          have run : ∀ v' w', (Builtin.append_ #[t, t2] o.type #[a.eval Y, a.eval Z]).run P w = .ok v' w' → (execOp a.eval o).run P w = .ok (.value v') w' := fun v' w' hr => by
            simp only [execOp, ho, resolve, hc, hargs, hat]
            simp [invoke, builtin, hr]
          have fin : ∀ {S2 : Nat → List Nat} {v' : Value} {w' : World} {R' : List Nat}, (Builtin.append_ #[t, t2] o.type #[a.eval Y, a.eval Z]).run P w = .ok v' w' → EnvRel N F0 B U w0 F S2 (applyU e u) a w' →
              Hand B U F S2 (applyU e u) a w' (.val (.slice b T) lr (.yes g)) v' R' → o.wp P a w next Q := fun {S2 v' w' R'} hr q1 q2 => by
            unfold Oper.wp
            rw [run _ _ hr]
            refine hnext _ _ ?_
            have := q1.out hd hg q2 rfl
            rw [applyU_append]
            exact this
          by_cases hfit : v1.l.length + v2.l.length ≤ cap
          · rcases alt with ⟨q1, rfl, q2⟩ | ⟨blk, cells, ty, rfl, rfl, q3, q4, q5, q6⟩
            · -- nothing to append, and nothing there
              have hv2n : v2.l = [] := List.eq_nil_of_length_eq_zero (by omega)
              have hv1n : v1.l = [] := by
                rcases k3 with ⟨_, hz1 | hz1⟩ | ⟨g', rfl⟩
                · rw [hz1, hv2n] at hone; simp [hasOne] at hone
                · exact hz1
                · by_cases hne : v1.l = []
                  · exact hne
                  · have := (q2 hne).1; cases this
              have hr := run_append_room' (P := P) (w := w) (ty := o.type) (base := base) (sLen := v1.l.length) (sCap := cap) (ad := ad2) (c := cap2) ht ht2 hi hnl hnews hfit (w' := w) (fun a' _ => by rw [hv2n]; simp [cat, storeCells]) (fun _ => rfl)
              rw [← u1, ← u2] at hr
              refine fin hr k1 ⟨.u (.val (.slice b T) lr (.yes g) _ [_] [] ?_ (by unfold valOk; rw [if_neg (by simp [aggB])])), trivial, List.nodup_nil, by simp, by simp⟩
              rw [hv1n] at q1
              rw [q1, hv1n, hv2n]
              exact .ownNil b T lr g base (by rw [hll, hv1n, hv2n]; rfl)
            · -- in the block's room
              have hk1 := k4 blk (by simp)
              have hk2 := k5 blk (by simp)
              generalize hnc : (cells.toList.take (v1.l.length * Γ.X.sz T) ++ cat css2 v2.l.length ++ cells.toList.drop (v1.l.length * Γ.X.sz T + (cat css2 v2.l.length).length)).toArray = nc
              have hnl' : (cat css2 v2.l.length).length = v2.l.length * Γ.X.sz T := by rw [hnl, hsize]
              have hcapm : (v1.l.length + v2.l.length) * Γ.X.sz T ≤ cap * Γ.X.sz T := Nat.mul_le_mul_right _ hfit
              rw [Nat.add_mul] at hcapm
              have hncs : nc.size = cells.size := by rw [← hnc]; simp; omega
              have hin : ∀ (j : Nat) u, (cat css2 v2.l.length)[j]? = some u → nc[v1.l.length * Γ.X.sz T + j]? = some u := fun j u hj => by
                have hjl : j < (cat css2 v2.l.length).length := (List.getElem?_eq_some_iff.1 hj).1
                rw [← hnc, List.getElem?_toArray, List.append_assoc, List.getElem?_append_right (by simp; omega), List.getElem?_append_left (by simp; omega)]
                rw [← hj]; congr 1; simp; omega
              have hout : ∀ j, j < v1.l.length * Γ.X.sz T → nc[j]? = cells[j]? := fun j hj => by
                rw [← hnc, List.getElem?_toArray, List.append_assoc, List.getElem?_append_left (by simp; omega), List.getElem?_take_of_lt hj, Array.getElem?_toList]
              have hst := run_storeCells_at P blk (v1.l.length * Γ.X.sz T) ty (cat css2 v2.l.length) 0 cells w q3 (by simp only [Nat.add_zero]; omega) (cat_mem fun i hi c hc => (p2 i _ (List.getElem?_eq_getElem hi)).one c hc)
              simp only [Nat.add_zero] at hst
              rw [hnc] at hst
              have hr := run_append_room' (P := P) (w := w) (ty := o.type) (base := some ⟨blk, 0, none⟩) (sLen := v1.l.length) (sCap := cap) (ad := ad2) (c := cap2) ht ht2 hi hnl hnews hfit (w' := w.setRow blk nc)
                (fun a' ha' => by cases ha'; rw [hsize]; simpa [addr_add] using hst) (fun h => by cases h)
              rw [← u1, ← u2] at hr
              have hF' : ∀ b', F b' → (w.setRow blk nc).heap[b']? = w.heap[b']? := fun b' hb' => row_other fun he => hk1.2.2 (he ▸ hb')
              have hS' : ∀ t, ∀ b' ∈ S1 t, (w.setRow blk nc).heap[b']? = w.heap[b']? := fun t b' hb' => row_other fun he => hk2 t (he ▸ hb')
              have henv := k1.world (w' := w.setRow blk nc) (F' := F) (fun _ h => h) hF' hS' (belowP_setRow hk1.1 w nc) fun b' hb' => .inl hb'
              refine fin (R' := [blk]) hr henv ⟨.u (.val (.slice b T) lr (.yes g) _ [_] [blk] ?_ (by unfold valOk; rw [if_neg (by simp [aggB])])), trivial, by simp, fun b' hb' => ?_, fun b' hb' => ?_⟩
              · rw [← hlen]
                refine .own b T lr g blk cap nc ty (fun k => if k < v1.l.length then css1 k else css2 (k - v1.l.length)) (setRow_heap w blk cells nc ty (0, 0) q3) (by rw [hncs, q4]) (by omega) q5 (fun k j u hk hj => ?_) fun k xx hk => (hp k xx hk).mono (fun _ h => h) hF'
                by_cases hkl : k < v1.l.length
                · rw [if_pos hkl] at hj
                  have hjl : j < Γ.X.sz T := by rw [← cl1 k hkl]; exact (List.getElem?_eq_some_iff.1 hj).1
                  have hk3 : (k + 1) * Γ.X.sz T ≤ v1.l.length * Γ.X.sz T := Nat.mul_le_mul_right _ hkl
                  rw [Nat.succ_mul] at hk3
                  rw [hout _ (by omega)]
                  exact q6 k j u hkl hj
                · rw [if_neg hkl] at hj
                  have hk2' : k - v1.l.length < v2.l.length := by omega
                  have hjl : j < Γ.X.sz T := by rw [← cl2 _ hk2']; exact (List.getElem?_eq_some_iff.1 hj).1
                  have hg2 := cat_get (f := css2) (n := v2.l.length) (m := Γ.X.sz T) cl2 hk2' hjl
                  rw [hj] at hg2
                  have := hin _ _ hg2
                  rw [← this]; congr 1
                  rw [Nat.sub_mul]
                  have : v1.l.length * Γ.X.sz T ≤ k * Γ.X.sz T := Nat.mul_le_mul_right _ (by omega)
                  omega
              · simp at hb'; subst hb'; exact ⟨hk1.1, by simpa using hk1.2.1, hk1.2.2⟩
              · simp at hb'; subst hb'; exact hk2
          · -- a new block
            have hneed : cap < v1.l.length + v2.l.length := by omega
            have hb47 : (v1.l.length + v2.l.length) * i.bytes ≤ 140737488355328 := by rw [hbytes]; exact hroom.1
            have h63 : v1.l.length + v2.l.length ≤ maxLen := maxLen_room hroom.2
            have hr := run_append_grow' (P := P) (w := w) (ty := o.type) (base := base) (sLen := v1.l.length) (sCap := cap) (ad := ad2) (c := cap2) ht ht2 hi hzz hol holds hnl hnews hneed (by unfold maxLen at h63; omega) (growslice_fits hneed hb47)
            rw [← u1, ← u2] at hr
            have hge := grownCap_ge w (v1.l.length + v2.l.length) cap el
            have hcm := grownCap_le_maxLen w (v1.l.length + v2.l.length) cap el h63
            generalize grownCap w (v1.l.length + v2.l.length) cap el = nc at hr hge hcm
            have hnl' : (cat css2 v2.l.length).length = v2.l.length * Γ.X.sz T := by rw [hnl, hsize]
            have hol' : (cat css1 v1.l.length).length = v1.l.length * Γ.X.sz T := by rw [hol, hsize]
            obtain ⟨g1, g2⟩ := k1.newRow' (w1 := w.drew) (b := b) (t := T) (l := lr) (cells := (cat css1 v1.l.length).toArray ++ (cat css2 v2.l.length).toArray ++ Builtin.zeroCells z.cells (nc - (v1.l.length + v2.l.length))) (ty := el) (cap := nc)
              (css := fun k => if k < v1.l.length then css1 k else css2 (k - v1.l.length)) g ⟨rfl, rfl, rfl, rfl⟩
              (by
                simp only [Array.size_append, List.size_toArray, size_zeroCells, hzl, hnl', hol', ← Nat.add_mul]
                congr 1; omega) (by omega) hcm
              (fun k j u hk hj => by
                rw [← Array.getElem?_toList]
                simp only [Array.toList_append]
                by_cases hkl : k < v1.l.length
                · rw [if_pos hkl] at hj
                  have hjl : j < Γ.X.sz T := by rw [← cl1 k hkl]; exact (List.getElem?_eq_some_iff.1 hj).1
                  have hk3 : (k + 1) * Γ.X.sz T ≤ v1.l.length * Γ.X.sz T := Nat.mul_le_mul_right _ hkl
                  rw [Nat.succ_mul] at hk3
                  rw [List.append_assoc, List.getElem?_append_left (by omega), cat_get cl1 hkl hjl]
                  exact hj
                · rw [if_neg hkl] at hj
                  have hk2' : k - v1.l.length < v2.l.length := by omega
                  have hjl : j < Γ.X.sz T := by rw [← cl2 _ hk2']; exact (List.getElem?_eq_some_iff.1 hj).1
                  have hg2 := cat_get (f := css2) (n := v2.l.length) (m := Γ.X.sz T) cl2 hk2' hjl
                  rw [hj] at hg2
                  have hle : v1.l.length * Γ.X.sz T ≤ k * Γ.X.sz T := Nat.mul_le_mul_right _ (by omega)
                  have hk3 : (k - v1.l.length + 1) * Γ.X.sz T ≤ v2.l.length * Γ.X.sz T := Nat.mul_le_mul_right _ hk2'
                  rw [Nat.succ_mul, Nat.sub_mul] at hk3
                  rw [Nat.sub_mul] at hg2
                  rw [List.append_assoc, List.getElem?_append_right (by omega), List.getElem?_append_left (by omega), ← hg2]
                  congr 1; omega)
              hp
            rw [hlen] at g2
            exact fin hr g1 g2
        · -- nothing to append to what is full
          rename_i hone
          cases hs
          obtain ⟨he1, hv1⟩ := castT_some hv1
          cases he1
          simp only at hv1; subst hv1
          obtain ⟨he2, hv2⟩ := castT_some hv2
          cases he2
          simp only at hv2; subst hv2
          have hzt : zf = true ∧ hasOne v2.l = false := by cases zf <;> cases hq : hasOne v2.l <;> simp_all
          obtain ⟨rfl, hv2h⟩ := hzt
          have hv2n : v2.l = [] := by
            generalize v2.l = L at hv2h
            cases L with
            | nil => rfl
            | cons _ _ => simp [hasOne] at hv2h
          obtain ⟨rfl, s, hxs, hes⟩ := grab_true hgr
          have hev : a.eval Y = a.tmps.getD s Go.undef := by
            rcases hxs with rfl | rfl
            · have := compX_slot (.inl hcY); subst this; rfl
            · have := compX_slot (.inr hcY); subst this; rfl
          obtain ⟨ad2, cap2, css2, u2, c2, a2, p2⟩ := h.rdSl hX hcZ hsl
          obtain ⟨cs, k1, k2⟩ := h.valAt hes
          obtain ⟨k3, hS⟩ := k1.toPure rfl
          obtain ⟨ad, hcs⟩ := full_inv k1
          unfold valOk at k2; rw [if_neg (by simp [aggB])] at k2
          rw [hcs] at k2
          have u1 : a.eval Y = .slice ad v1.l.length v1.l.length := by rw [hev]; exact (List.cons.inj k2).1.symm
          have hr := run_append_room' (P := P) (w := w) (ty := o.type) (base := ad) (sLen := v1.l.length) (sCap := v1.l.length) (ad := ad2) (m := v2.l.length) (c := cap2) (news := []) ht ht2 hi (by rw [hv2n]; simp) (fun hne => absurd rfl hne) (by rw [hv2n]; simp) (w' := w) (fun a' _ => by simp [storeCells]) (fun _ => rfl)
          rw [← u1, ← u2] at hr
          unfold Oper.wp
          have run : (execOp a.eval o).run P w = .ok (.value (.slice ad (v1.l.length + v2.l.length) v1.l.length)) w := by
            simp only [execOp, ho, resolve, hc, hargs, hat]
            simp [invoke, builtin, hr]
          rw [run]
          refine hnext _ _ ?_
          rw [hv2n, List.length_nil, Nat.add_zero]
          rw [hcs, hS] at k1
          exact h.outV hd hg rfl k1 (by unfold valOk; rw [if_neg (by simp [aggB])])
      · cases hs
    · cases hs
  · cases hs
end steps
end
end
end Go.A2
