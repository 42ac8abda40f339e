/- YtcinobbeapgklaaAmStep2: parts laid together; what a call returns; all operations in one. No statement of the seat is proved here. -/
import Derived.Test.YtcinobbeapgklaaAmStep
namespace Go.AM
open Go.RowKit (Below)

section
variable {P : Program} {K : List Nat} {F0 : Nat → Prop} {B n : Nat} {w0 : World} {F : Nat → Prop} {S : Nat → List Nat} {e : Env} {a : Act} {w : World} {C : Nat → List AV → Option AV}

theorem VRepL.mono' {F' : Nat → Prop} {xs : List AV} {vs : List Value} {T : List Nat} (h : VRepL w F xs vs T) (hF : ∀ b, F b → F' b) : VRepL w F' xs vs T :=
  VRepL.mono hF (fun _ _ => rfl) h fun _ _ => rfl

theorem EnvRel.takeAll : ∀ {Xs : List Operand} {xs : List AX} {F : Nat → Prop} {S : Nat → List Nat} {e : Env} (_ : EnvRel K F0 B n w0 F S e a w) (_ : mapO (compX K) Xs = some xs) {solo : Bool} {vs : List AV} {e1 : Env}
    (_ : Go.AM.takeAll solo e xs = some (vs, e1)), ∃ F1 S1 T, EnvRel K F0 B n w0 F1 S1 e1 a w ∧ VRepL w F1 vs (Xs.map a.eval) T ∧ T.Nodup ∧ (∀ b ∈ T, B ≤ b ∧ b < w.heap.size ∧ ¬ F1 b) ∧ (∀ b ∈ T, ∀ s, b ∉ S1 s) ∧
      Less F S F1 S1 ∧ (∀ b ∈ T, ∃ s, b ∈ S s) ∧ ∀ v ∈ vs, isVal v = true
  | [], xs, F, S, e, h, hx, solo, vs, e1, ht => by
    simp [mapO] at hx; subst hx
    simp [Go.AM.takeAll] at ht
    obtain ⟨rfl, rfl⟩ := ht
    exact ⟨F, S, [], h, .nil, List.nodup_nil, by simp, by simp, .refl _ _, by simp, by simp⟩
  | X :: Xs, xs, F, S, e, h, hx, solo, vs, e1, ht => by
    simp only [mapO] at hx
    split at hx
    · rename_i x xs' hx1 hx2
      simp only [Option.some.injEq] at hx; subst hx
      simp only [Go.AM.takeAll] at ht
      split at ht
      · rename_i v e2 ht1
        split at ht
        · rename_i hval
          split at ht
          · rename_i vs' e3 ht2
            simp only [Option.some.injEq, Prod.mk.injEq] at ht
            obtain ⟨rfl, rfl⟩ := ht
            obtain ⟨F1, S1, T1, h1, hh, ⟨hL1, hT1⟩, _⟩ := h.take hx1 ht1
            obtain ⟨F2, S2, T2, h2, hv2, hnd2, hown2, hap2, hL2, hT2, hval2⟩ := EnvRel.takeAll h1 hx2 ht2
            have hd : ∀ b ∈ T1, b ∉ T2 := fun b hb hb2 => let ⟨s, hs⟩ := hT2 b hb2; hh.apart b hb s hs
            refine ⟨F2, S2, T1 ++ T2, h2, .cons (((hh.rep.vrep hval).mono hL2.keeps (fun _ _ => rfl) fun _ _ => rfl)) hv2, ?_, ?_, ?_, hL1.trans hL2, ?_, ?_⟩
            · exact List.nodup_append.2 ⟨hh.nodup, hnd2, fun x hx y hy he => hd x hx (he ▸ hy)⟩
            · intro b hb
              rcases List.mem_append.1 hb with hb | hb
              · obtain ⟨g1, g2, g3⟩ := hh.own b hb
                exact ⟨g1, g2, fun hf => (hL2.from_ b hf).elim g3 fun ⟨s, hs⟩ => hh.apart b hb s hs⟩
              · exact hown2 b hb
            · intro b hb s hs
              rcases List.mem_append.1 hb with hb | hb
              · obtain ⟨t, ht⟩ := hL2.owned s b hs
                exact hh.apart b hb t ht
              · exact hap2 b hb s hs
            · intro b hb
              rcases List.mem_append.1 hb with hb | hb
              · exact hT1 b hb
              · obtain ⟨s, hs⟩ := hT2 b hb
                exact hL1.owned s b hs
            · intro v hv
              rcases List.mem_cons.1 hv with rfl | hv
              · exact hval
              · exact hval2 v hv
          · cases ht
        · cases ht
      · cases ht
    · cases hx

/-- Cells set one by one: a row laid over another. -/
theorem foldl_lay (off : Nat) : ∀ (l : List Value) (k : Nat) (cells : Array Value), off + k + l.length ≤ cells.size →
    ((l.zipIdx k).foldl (fun cs (q : Value × Nat) => cs.setIfInBounds (off + q.2) q.1) cells).toList = cells.toList.take (off + k) ++ l ++ cells.toList.drop (off + k + l.length)
  | [], k, cells, _ => by simp
  | v :: l, k, cells, h => by
    simp only [List.zipIdx_cons, List.foldl_cons]
    simp only [List.length_cons] at h
    rw [foldl_lay off l (k + 1) _ (by simp; omega)]
    have := list_seg_step cells.toList (off + k) v l (by simp; omega)
    simpa [Array.toList_setIfInBounds, Nat.add_assoc] using this

theorem fill_lay {place : Nat → Option (Nat × Nat)} : ∀ (parts : List (Nat × Value)) (cells : Array Value) (xs : List (Nat × Nat × List AV)) (zero out : List AV) {T0 Tn : List Nat}
    (_ : CRepL w F zero cells.toList T0) (_ : setParts zero xs = some out)
    (_ : parts.length = xs.length) (_ : ∀ (i : Nat) p x, parts[i]? = some p → xs[i]? = some x → place p.1 = some (x.1, x.2.1))
    (_ : ∃ Ts : List (List Nat), Ts.length = parts.length ∧ Tn = Ts.flatten ∧ ∀ (i : Nat) p x T, parts[i]? = some p → xs[i]? = some x → Ts[i]? = some T → CRepL w F x.2.2 p.2.cells.toList T),
    ∃ cells' T', Instr.fill place cells parts = some cells' ∧ CRepL w F out cells'.toList T' ∧ (T0.Nodup → Tn.Nodup → (∀ b ∈ T0, b ∉ Tn) → T'.Nodup) ∧ ∀ b ∈ T', b ∈ T0 ∨ b ∈ Tn
  | [], cells, xs, zero, out, T0, Tn, hz, hset, hl, hp, hT => by
    cases xs with
    | cons => simp at hl
    | nil =>
      simp [setParts] at hset; subst hset
      exact ⟨cells, T0, rfl, hz, fun h _ _ => h, fun b hb => .inl hb⟩
  | (i, v) :: parts, cells, xs, zero, out, T0, Tn, hz, hset, hl, hp, hT => by
    cases xs with
    | nil => simp at hl
    | cons x xs =>
      obtain ⟨off, m, new⟩ := x
      obtain ⟨Ts, hTl, hTn, hTs⟩ := hT
      cases Ts with
      | nil => simp at hTl
      | cons T1 Ts =>
        simp only [setParts] at hset
        split at hset
        · rename_i hcond
          obtain ⟨hm, hle, _⟩ := hcond
          have hpl := hp 0 (i, v) (off, m, new) rfl rfl
          have hc := hTs 0 (i, v) (off, m, new) T1 rfl rfl rfl
          have hvl : v.cells.size = m := by rw [← hm, hc.length]; simp
          have hzl := hz.length
          obtain ⟨A, B', D, hA, hlay⟩ := hz.lay (off := off) hc
          have hfold : (v.cells.zipIdx.foldl (fun cs (q : Value × Nat) => cs.setIfInBounds (off + q.2) q.1) cells).toList = cells.toList.take off ++ v.cells.toList ++ cells.toList.drop (off + v.cells.toList.length) := by
            have := foldl_lay off v.cells.toList 0 cells (by simp at hzl ⊢; omega)
            simp only [Nat.add_zero] at this
            rw [← this, ← Array.foldl_toList, Array.toList_zipIdx]
          rw [← hfold] at hlay
          obtain ⟨cells', T', g1, g2, g3, g4⟩ := fill_lay parts _ xs (lay zero off new) out hlay hset (by simpa using hl) (fun j p x hj hx => hp (j + 1) p x (by simpa using hj) (by simpa using hx))
            ⟨Ts, by simpa using hTl, rfl, fun j p x T hj hx hT => hTs (j + 1) p x T (by simpa using hj) (by simpa using hx) (by simpa using hT)⟩
          refine ⟨cells', T', ?_, g2, ?_, ?_⟩
          · unfold Instr.fill
            simp only [hpl, hvl, ne_eq, not_true_eq_false]
            rw [if_neg (by simp at hzl ⊢; omega)]
            exact g1
          · intro n0 nn hd
            subst hTn
            rw [List.flatten_cons] at nn hd
            rw [List.nodup_append] at nn
            subst hA
            rw [List.nodup_append] at n0
            obtain ⟨a1, a2, a3⟩ := n0
            rw [List.nodup_append] at a2
            refine g3 ?_ nn.2.1 ?_
            · refine List.nodup_append.2 ⟨List.nodup_append.2 ⟨a1, nn.1, fun x hx y hy he => hd x (by simp [hx]) (by simp [he, hy])⟩, a2.2.1, ?_⟩
              intro x hx y hy he
              subst he
              rcases List.mem_append.1 hx with hx | hx
              · exact a3 x hx x (by simp [hy]) rfl
              · exact hd x (by simp [hy]) (by simp [hx])
            · intro b hb hbn
              rcases List.mem_append.1 hb with hb | hb
              · rcases List.mem_append.1 hb with hb | hb
                · exact hd b (by simp [hb]) (by simp [hbn])
                · exact nn.2.2 b hb b hbn rfl
              · exact hd b (by simp [hb]) (by simp [hbn])
          · intro b hb
            subst hTn; subst hA
            rcases g4 b hb with hb | hb
            · rcases List.mem_append.1 hb with hb | hb
              · rcases List.mem_append.1 hb with hb | hb
                · exact .inl (by simp [hb])
                · exact .inr (by simp [hb])
              · exact .inl (by simp [hb])
            · exact .inr (by simp [hb])
        · cases hset

theorem mapM_mapO {α β : Type} (f : α → Option β) : ∀ l : List α, l.mapM f = mapO f l
  | [] => rfl
  | x :: l => by
    simp only [List.mapM_cons, mapO, mapM_mapO f l]
    cases f x <;> cases mapO f l <;> rfl

theorem VRepL.parts {xs : List AV} {vs : List Value} {T : List Nat} (h : VRepL w F xs vs T) : xs.length = vs.length ∧ ∃ Ts : List (List Nat), Ts.length = vs.length ∧ T = Ts.flatten ∧
    ∀ (i : Nat) x v T, xs[i]? = some x → vs[i]? = some v → Ts[i]? = some T → VRep w F x v T := by
  induction h with
  | nil => exact ⟨rfl, [], rfl, rfl, by simp⟩
  | @cons x0 v0 S0 xs vs S' h t ih =>
    obtain ⟨hl, Ts, h1, h2, h3⟩ := ih
    refine ⟨by simp [hl], S0 :: Ts, by simp [h1], by simp [h2], fun i x v T hx hv hT => ?_⟩
    cases i with
    | zero => simp at hx hv hT; subst hx; subst hv; subst hT; exact h
    | succ i => exact h3 i x v T (by simpa using hx) (by simpa using hv) (by simpa using hT)

theorem EnvRel.step_build (h : EnvRel K F0 B n w0 F S e a w) {o : Oper} {t : TypeId} {qs : Array (Nat × Operand)} {zero : List AV} {place : Nat → Option (Nat × Nat)} {parts : List (Nat × Nat × AX)} (ho : o.op = .build t qs)
    (hz : zeroOf P t = some zero) (hpl : placesOf P t = some place) (hparts : mapO (partX place K) qs.toList = some parts) {solo : Bool} {e' : Env}
    (hs : stepOp C solo e o.dst (.build zero parts) = some e') (hd : ∀ k, o.dst = some k → k < n)
    {next : Act → World → Prop} {Q : Exit → Act → World → Prop} (hnext : ∀ a' w', Sim K F0 B n w0 e' a' w' → next a' w') : o.wp P a w next Q := by
  simp only [stepOp] at hs
  split at hs
  · rename_i vs e1 ht
    split at hs
    · rename_i cs hset
      split at hs
      · rename_i hzc
        -- the operands
        have hxs : mapO (compX K) (qs.toList.map (·.2)) = some (parts.map (·.2.2)) := by
          have gen : ∀ (l : List (Nat × Operand)) (r : List (Nat × Nat × AX)), mapO (partX place K) l = some r →
              mapO (compX K) (l.map (·.2)) = some (r.map (·.2.2)) := fun l => by
            induction l with
            | nil => intro r hr; simp [mapO] at hr; subst hr; rfl
            | cons q l ih =>
              intro r hr
              simp only [mapO] at hr
              split at hr
              · rename_i y ys h1 h2
                simp only [Option.some.injEq] at hr; subst hr
                unfold partX at h1
                split at h1
                · rename_i off m x h3 h4
                  simp only [Option.some.injEq] at h1; subst h1
                  simp only [List.map_cons, mapO, h4, ih ys h2]
                · cases h1
              · cases hr
          exact gen _ _ hparts
        obtain ⟨F1, S1, T, h1, hv, hnd, hown, hap, hL, hTS, hval⟩ := h.takeAll hxs ht
        obtain ⟨hvl, Ts, hTl, hTf, hTs⟩ := hv.parts
        -- the zero
        unfold zeroOf at hz
        cases hi : P.info? t with
        | none => simp [hi] at hz
        | some it =>
          cases hzz : it.zero with
          | none => simp [hi, hzz] at hz
          | some z =>
            simp only [hi, hzz] at hz
            obtain ⟨c1, c2, c3⟩ := cells_sound hz w F1
            have hz0 := CRepL.of_pure zero z.cells.toList c1 c2 c3
            have hql : (qs.toList.map fun q => (q.1, a.eval q.2)).length = parts.length := by simpa using mapO_length hparts
            have hvs : vs.length = parts.length := by rw [hvl]; simpa using mapO_length hparts
            obtain ⟨cells', T', g1, g2, g3, g4⟩ := fill_lay (place := place) (qs.toList.map fun q => (q.1, a.eval q.2)) z.cells _ zero cs (Tn := T) hz0 hset (by simp [hvs]; simpa using mapO_length hparts)
              (fun i p x hp hx => by
                rw [List.getElem?_map] at hp
                cases hq : qs.toList[i]? with
                | none => simp [hq] at hp
                | some q =>
                  simp [hq] at hp; subst hp
                  obtain ⟨y, hy, hf⟩ := mapO_get hparts i q hq
                  have hx' : ∃ v, (parts.zip vs)[i]? = some (y, v) ∧ x = (y.1, y.2.1, cellsOf v) := by
                    rw [List.getElem?_map] at hx
                    cases hz2 : (parts.zip vs)[i]? with
                    | none => simp [hz2] at hx
                    | some yv =>
                      simp [hz2] at hx
                      have := List.getElem?_zip_eq_some.1 hz2
                      rw [hy] at this
                      obtain ⟨h5, h6⟩ := this
                      obtain ⟨y1, v1⟩ := yv
                      simp at h5; subst h5
                      exact ⟨v1, rfl, hx.symm⟩
                  obtain ⟨v, _, rfl⟩ := hx'
                  unfold partX at hf
                  split at hf
                  · rename_i off m xx h3 h4
                    simp only [Option.some.injEq] at hf; subst hf
                    exact h3
                  · cases hf)
              ⟨Ts, by rw [hTl]; simp, hTf, fun i p x T1 hp hx hT1 => by
                rw [List.getElem?_map] at hp
                cases hq : qs.toList[i]? with
                | none => simp [hq] at hp
                | some q =>
                  simp [hq] at hp; subst hp
                  rw [List.getElem?_map] at hx
                  cases hz2 : (parts.zip vs)[i]? with
                  | none => simp [hz2] at hx
                  | some yv =>
                    simp [hz2] at hx
                    obtain ⟨h5, h6⟩ := List.getElem?_zip_eq_some.1 hz2
                    subst hx
                    have := hTs i yv.2 (a.eval q.2) T1 h6 (by simp [List.getElem?_map, hq]) hT1
                    exact this.cells (hval _ (List.mem_of_getElem? h6))⟩
            have hrun : (execOp a.eval o).run P w = .ok (.value (.agg cells')) w := by
              have hb : P.built t (qs.toList.map fun q => (q.1, a.eval q.2)) = some cells' := by
                unfold Program.built
                unfold placesOf at hpl
                cases hu : P.underlying t with
                | none => simp [hu] at hpl
                | some d =>
                  cases d with
                  | struct fs =>
                    simp only [hu] at hpl
                    cases hm : mapO (fun f => (sizeO P f.type).map fun n => (f.offset, n)) fs.toList with
                    | none => simp [hm] at hpl
                    | some places =>
                      simp only [hm, Option.some.injEq] at hpl
                      have hm' : fs.toList.mapM (fun f => (P.info? f.type).map fun i => (f.offset, i.size)) = some places := by
                        rw [mapM_mapO, ← hm]
                        congr 1
                        funext f
                        unfold sizeO
                        cases P.info? f.type <;> rfl
                      simp only [hi, hzz, hm']
                      rw [← g1]
                      congr 1
                      funext i
                      rw [← hpl]; simp
                  | array len el =>
                    simp only [hu] at hpl
                    cases hsz : sizeO P el with
                    | none => simp [hsz] at hpl
                    | some m =>
                      simp only [hsz, Option.some.injEq] at hpl
                      unfold sizeO at hsz
                      cases hie : P.info? el with
                      | none => simp [hie] at hsz
                      | some ie =>
                        simp [hie] at hsz
                        simp only [hi, hzz, hie]
                        rw [← g1, ← hpl, hsz]
                  | _ => simp [hu] at hpl
              simp only [execOp, ho]
              have := run_build (P := P) w t (qs.map fun q => (q.1, a.eval q.2)) cells' (by simpa using hb)
              simp [this]
            unfold Oper.wp
            rw [hrun]
            have hh : Hand K B F1 S1 e1 a w (.agg cs) (.agg cells') T' := by
              refine ⟨?_, g3 List.nodup_nil hnd (by simp), fun b hb => ?_, fun b hb => ?_⟩
              · have := VRep.agg g2
                exact .val (.val (by simpa using this))
              · rcases g4 b hb with hb | hb
                · cases hb
                · exact hown b hb
              · rcases g4 b hb with hb | hb
                · cases hb
                · exact hap b hb
            obtain ⟨S2, h2⟩ := h1.putN hd hh hs
            exact hnext _ _ ⟨F1, S2, h2⟩
      · cases hs
    · cases hs
  · cases hs

end
end Go.AM
