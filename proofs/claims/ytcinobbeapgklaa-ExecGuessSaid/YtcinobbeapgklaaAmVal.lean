/- YtcinobbeapgklaaAmVal: an operation that only looks gives in the model what the abstract machine says. No statement of the seat is proved here. -/
import Derived.Test.YtcinobbeapgklaaAmFreeze
import Derived.Test.YtcinobbeapgklaaAmComp
import Derived.Laws.Cells
namespace Go.AM
open Go.RowKit (Below)

section runs
variable {P : Program} {w : World}
theorem run_underlying' {t : TypeId} {d : TypeDesc} (h : P.underlying t = some d) : (underlying t).run P w = .ok d w := by
  simp [underlying, h]
theorem run_typeInfo' {t : TypeId} {i : TypeInfo} (h : P.info? t = some i) : (typeInfo t).run P w = .ok i w := by
  simp [typeInfo, h]
theorem run_sizeO {t : TypeId} {n : Nat} (h : sizeO P t = some n) : (sizeOf t).run P w = .ok n w := by
  unfold sizeO at h
  cases hi : P.info? t with
  | none => simp [hi] at h
  | some i => simp [hi] at h; simp [sizeOf, run_typeInfo' hi, h]
theorem run_isAggT {t : TypeId} {b : Bool} (h : isAggT P t = some b) : (isAgg t).run P w = .ok b w := by
  unfold isAggT at h
  split at h
  · rename_i fs hu; simp at h; subst h; simp [isAgg, run_underlying' hu]
  · rename_i n e hu; simp at h; subst h; simp [isAgg, run_underlying' hu]
  · rename_i d h1 h2 hu
    simp at h; subst h
    simp only [isAgg, Sem.run_bind, run_underlying' hu, Result.andThen_ok]
    rfl
  · cases h
end runs

theorem cvCell_sound {v : Value} {x : AV} (h : cvCell v = some x) (w : World) (F : Nat → Prop) : PRep w F x v ∧ isCell x = true := by
  unfold cvCell at h
  split at h <;> simp at h <;> subst h
  · exact ⟨.bool _, rfl⟩
  · exact ⟨.int _ _, rfl⟩
  · exact ⟨.str _, rfl⟩
  · exact ⟨.slNil true none, rfl⟩

theorem mapO_length {α β : Type} {f : α → Option β} : ∀ {l : List α} {r : List β}, mapO f l = some r → l.length = r.length
  | [], r, h => by simp [mapO] at h; subst h; rfl
  | x :: l, r, h => by
    simp only [mapO] at h
    split at h
    · rename_i y ys hy hys; simp at h; subst h; simp [mapO_length hys]
    · cases h
theorem mapO_get {α β : Type} {f : α → Option β} : ∀ {l : List α} {r : List β}, mapO f l = some r → ∀ (i : Nat) (x : α), l[i]? = some x → ∃ y, r[i]? = some y ∧ f x = some y
  | [], r, h, i, x, hx => by simp at hx
  | x :: l, r, h, i, z, hz => by
    simp only [mapO] at h
    split at h
    · rename_i y ys hy hys
      simp at h; subst h
      cases i with
      | zero => simp at hz; subst hz; exact ⟨y, rfl, hy⟩
      | succ i => simpa using mapO_get hys i z (by simpa using hz)
    · cases h
theorem mapO_get' {α β : Type} {f : α → Option β} {l : List α} {r : List β} (h : mapO f l = some r) {i : Nat} {y : β} (hy : r[i]? = some y) : ∃ x, l[i]? = some x ∧ f x = some y := by
  have hi : i < r.length := (List.getElem?_eq_some_iff.1 hy).1
  have hi' : i < l.length := by rw [mapO_length h]; exact hi
  obtain ⟨z, hz, hf⟩ := mapO_get h i l[i] (List.getElem?_eq_getElem hi')
  rw [hy] at hz; cases hz
  exact ⟨_, List.getElem?_eq_getElem hi', hf⟩

theorem cells_sound {cs : List Value} {xs : List AV} (h : mapO cvCell cs = some xs) (w : World) (F : Nat → Prop) :
    xs.length = cs.length ∧ (∀ x ∈ xs, isCell x = true) ∧ ∀ (i : Nat) x v, xs[i]? = some x → cs[i]? = some v → PRep w F x v := by
  refine ⟨(mapO_length h).symm, ?_, ?_⟩
  · intro x hx
    obtain ⟨i, hi, rfl⟩ := List.mem_iff_getElem.1 hx
    obtain ⟨v, hv, hf⟩ := mapO_get' h (List.getElem?_eq_getElem hi)
    exact (cvCell_sound hf w F).2
  · intro i x v hx hv
    obtain ⟨y, hy, hf⟩ := mapO_get h i v hv
    rw [hx] at hy; cases hy
    exact (cvCell_sound hf w F).1

theorem cv_sound {v : Value} {x : AV} (h : cv v = some x) (w : World) (F : Nat → Prop) : PRep w F x v ∧ isPure x = true := by
  unfold cv at h
  split at h
  · rename_i cs
    cases hm : mapO cvCell cs.toList with
    | none => simp [hm] at h
    | some xs =>
      simp [hm] at h; subst h
      obtain ⟨h1, h2, h3⟩ := cells_sound hm w F
      exact ⟨by have := PRep.agg (w := w) (F := F) xs cs.toList h1 h2 h3; simpa using this, by simpa [isPure, List.all_eq_true] using h2⟩
  · obtain ⟨h1, h2⟩ := cvCell_sound h w F
    refine ⟨h1, ?_⟩
    cases x <;> simp_all [isPure, isCell]

section
variable {K : List Nat} {F0 : Nat → Prop} {B n : Nat} {w0 : World} {F : Nat → Prop} {S : Nat → List Nat} {e : Env} {a : Act} {w : World}

theorem SRep.cell {x : AV} {v : Value} {T : List Nat} (h : SRep K e a w F x v T) (hc : isCell x = true) : PRep w F x v ∧ T = [] := by
  cases h with
  | val h => cases h with
    | val h => cases h with
      | cell h => cases h with
        | pure h _ => exact ⟨h, rfl⟩
        | _ => simp [isCell] at hc
      | agg => simp [isCell] at hc
      | undef => simp [isCell] at hc
    | tup => simp [isCell] at hc
  | _ => simp [isCell] at hc

theorem VRep.pure {x : AV} {v : Value} {T : List Nat} (h : VRep w F x v T) (hc : isPure x = true) : PRep w F x v ∧ T = [] := by
  cases h with
  | cell h => cases h with
    | pure h _ => exact ⟨h, rfl⟩
    | _ => simp [isPure, isCell] at hc
  | agg h =>
    have hcs : ∀ x ∈ _, isCell x = true := List.all_eq_true.1 (by simpa [isPure] using hc)
    obtain ⟨hT, hp⟩ := h.pure hcs
    exact ⟨.agg _ _ h.length hcs hp, hT⟩
  | undef => simp [isPure, isCell] at hc

theorem SRep.pure {x : AV} {v : Value} {T : List Nat} (h : SRep K e a w F x v T) (hc : isPure x = true) : PRep w F x v ∧ T = [] := by
  cases h with
  | val h => cases h with
    | val h => exact h.pure hc
    | tup => simp [isPure, isCell] at hc
  | _ => simp [isPure, isCell] at hc

theorem PRep.srep {x : AV} {v : Value} (h : PRep w F x v) : SRep K e a w F x v [] := by
  cases h with
  | agg xs vs hl hc h => exact .val (.val (.agg (CRepL.of_pure xs vs hl hc h)))
  | _ => exact .val (.val (.cell (.pure (by first | exact .bool _ | exact .int _ _ | exact .str _ | exact .slNil _ _ | (apply PRep.sl <;> assumption) | (apply PRep.rptr <;> assumption) | (apply PRep.fn <;> assumption)) rfl)))

/-- An operand's value. -/
theorem EnvRel.rd (h : EnvRel K F0 B n w0 F S e a w) {X : Operand} {x : AX} (hx : compX K X = some x) : ∃ T, SRep K e a w F (Go.AM.rd e x) (a.eval X) T := by
  have key : ∀ s : Nat, ∀ b : Bool, (b = true → inA K s = true) → ∃ T, SRep K e a w F (Go.AM.rd e (if b then .v s else .t s)) (a.tmps.getD s Go.undef) T := by
    intro s b hbK
    have hr := h.rep s
    cases hs : e s with
    | own z rows =>
      cases b
      · exact ⟨[], by simp [Go.AM.rd, hs]; exact .val (.val .undef)⟩
      · have : Go.AM.rd e (if true then AX.v s else AX.t s) = .ref s none := by simp [Go.AM.rd, hs]
        rw [this]
        exact ⟨[], .ref s none _ (by simp [content, hs]) (by simp [hs]) rfl (hbK rfl)⟩
    | box cs =>
      cases b
      · exact ⟨[], by simp [Go.AM.rd, hs]; exact .val (.val .undef)⟩
      · have : Go.AM.rd e (if true then AX.v s else AX.t s) = .ptr s none 0 0 := by simp [Go.AM.rd, hs]
        rw [this]
        refine ⟨[], ?_⟩
        rw [hs] at hr
        generalize hv : a.tmps.getD s Go.undef = v at hr
        generalize S s = T at hr
        cases hr with
        | val h => cases h with
          | val h => cases h with
            | cell h => cases h with
              | pure h hc => simp [isCell] at hc
        | box cs b' cells ty S' hg hl =>
          have := SRep.ptr (K := K) (e := e) (a := a) (w := w) (F := F) s none 0 0 [cs] cs b' (by simp [content, hs]) rfl (by simp [hdr, hv, blk]) (hbK rfl)
          simpa using this
    | _ =>
      have : Go.AM.rd e (if b then AX.v s else AX.t s) = e s := by cases b <;> simp [Go.AM.rd, hs]
      rw [this]
      exact ⟨S s, hr⟩
  cases X with
  | tmp s =>
    simp only [compX, Option.some.injEq] at hx
    subst hx
    exact key s (inA K s) (fun h => h)
  | const v =>
    simp only [compX] at hx
    cases hc : cv v with
    | none => simp [hc] at hx
    | some y =>
      simp [hc] at hx; subst hx
      exact ⟨[], (cv_sound hc w F).1.srep⟩
  | func f =>
    simp [compX] at hx; subst hx
    exact ⟨[], .val (.val (.cell (.pure (PRep.fn f [] [] rfl (by simp) (by simp)) rfl)))⟩
  | global g => simp [compX] at hx

/-- A row of what is owned, in memory. -/
theorem EnvRel.row (h : EnvRel K F0 B n w0 F S e a w) {s : Nat} {c : Option Nat} {rows : List (List AV)} {i : Nat} {r : List AV} (hc : content e s c = some rows) (hi : rows[i]? = some r) :
    ∃ b cells ty, blk (hdr a w s c) = some b ∧ w.heap[b]? = some (.cells cells ty (0, 0)) ∧ b ∈ S s ∧
      ∀ (j : Nat) x, r[j]? = some x → ∃ v T, cells[i * r.length + j]? = some v ∧ CRep w F x v T ∧ ∀ b ∈ T, b ∈ S s := by
  have hr := h.rep s
  cases c with
  | none =>
    generalize hv : a.tmps.getD s Go.undef = v at hr
    generalize hS : S s = T at hr ⊢
    cases hs : e s with
    | box cs =>
      simp [content, hs] at hc; subst hc
      rw [hs] at hr
      have hi0 : i = 0 ∧ r = cs := by
        cases i with
        | zero => simp at hi; exact ⟨rfl, hi.symm⟩
        | succ i => simp at hi
      obtain ⟨rfl, rfl⟩ := hi0
      cases hr with
      | val h => cases h with
        | val h => cases h with
          | cell h => cases h with
            | pure h hc => simp [isCell] at hc
      | box cs b cells ty S' hg hl =>
        refine ⟨b, cells, ty, by simp [hdr, hv, blk], hg, by simp, fun j x hx => ?_⟩
        obtain ⟨v, T', h1, h2, h3⟩ := hl.get j x hx
        exact ⟨v, T', by simpa using h1, h2, fun b hb => by simp [h3 b hb]⟩
    | own z rs =>
      simp [content, hs] at hc; subst hc
      rw [hs] at hr
      cases hr with
      | val h => cases h with
        | val h => cases h with
          | cell h => cases h with
            | pure h hc => simp [isCell] at hc
            | ownNil => simp at hi
            | own esz rows b cap cells ty hg hsz hcap hmx hesz hcl h =>
              have hl : r.length = z := hesz r (List.mem_of_getElem? hi)
              refine ⟨b, cells, ty, by simp [hdr, hv, blk], hg, by simp, fun j x hx => ?_⟩
              obtain ⟨v, h1, h2⟩ := h i r j x hi hx
              exact ⟨v, [], by rw [hl]; exact h1, .pure h2 (hcl r (List.mem_of_getElem? hi) x (List.mem_of_getElem? hx)), by simp⟩
    | _ => simp [content, hs] at hc
  | some k =>
    generalize hv : a.tmps.getD s Go.undef = v at hr
    generalize hS : S s = T at hr ⊢
    cases hs : e s with
    | box cs =>
      simp only [content, hs] at hc
      rw [hs] at hr
      cases hck : cs[k]? with
      | none => simp [hck] at hc
      | some y =>
        cases y with
        | own z rs =>
          simp [hck] at hc; subst hc
          cases hr with
          | val h => cases h with
            | val h => cases h with
              | cell h => cases h with
                | pure h hc => simp [isCell] at hc
          | box cs b cells ty S' hg hl =>
            obtain ⟨u, T', h1, h2, h3⟩ := hl.get k _ hck
            have hcell : w.cell? ⟨b, k, none⟩ = some u := by
              simp [World.cell?, hg]
              simpa using h1
            cases h2 with
            | pure h hc => simp [isCell] at hc
            | ownNil => simp at hi
            | own esz rows b' cap cells' ty' hg' hsz hcap hmx hesz hcl h =>
              have hl' : r.length = z := hesz r (List.mem_of_getElem? hi)
              refine ⟨b', cells', ty', by simp [hdr, hv, hcell, blk], hg', by simp [h3 b' (by simp)], fun j x hx => ?_⟩
              obtain ⟨v, h1, h2⟩ := h i r j x hi hx
              exact ⟨v, [], by rw [hl']; exact h1, .pure h2 (hcl r (List.mem_of_getElem? hi) x (List.mem_of_getElem? hx)), by simp⟩
        | _ => simp [hck] at hc
    | _ => simp [content, hs] at hc

end
end Go.AM
