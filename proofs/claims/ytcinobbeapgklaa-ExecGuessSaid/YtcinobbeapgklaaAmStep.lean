/- YtcinobbeapgklaaAmStep: one operation of the abstract machine, and the model's. No statement of the seat is proved here. -/
import Derived.Test.YtcinobbeapgklaaAmWrite2
import Derived.Laws.Tables
namespace Go.AM
open Go.RowKit (Below)

section
variable {P : Program} {K : List Nat} {F0 : Nat → Prop} {B n : Nat} {w0 : World} {F : Nat → Prop} {S : Nat → List Nat} {e : Env} {a : Act} {w : World} {C : Nat → List AV → Option AV}

theorem EnvRel.step_look (h : EnvRel K F0 B n w0 F S e a w) {o : Oper} {ao : AOp} {solo : Bool} {e' : Env} {xs : List AX}
    (hl : ∀ {F S e}, EnvRel K F0 B n w0 F S e a w → ∀ z, val e ao = some z → Looks K P e a w F o z)
    (hs : (match val (Go.AM.fzs e xs) ao with | some v => Go.AM.put solo (Go.AM.fzs e xs) o.dst v | none => none) = some e') (hd : ∀ k, o.dst = some k → k < n)
    {next : Act → World → Prop} {Q : Exit → Act → World → Prop} (hnext : ∀ a' w', Sim K F0 B n w0 e' a' w' → next a' w') : o.wp P a w next Q := by
  obtain ⟨F1, S1, h1, hF1⟩ := h.fzs xs
  split at hs
  · rename_i v hv
    obtain ⟨u, hrun, hrep⟩ := hl h1 v hv
    unfold Oper.wp
    rw [hrun]
    obtain ⟨S2, h2⟩ := h1.putN hd (Hand.of_pure hrep) hs
    exact hnext _ _ ⟨F1, S2, h2⟩
  · cases hs

theorem EnvRel.step_move (h : EnvRel K F0 B n w0 F S e a w) {o : Oper} {X : Operand} {x : AX} (ho : o.op = .move X ∨ o.op = .assign X) (hx : compX K X = some x) {solo : Bool} {e' : Env}
    (hs : stepOp C solo e o.dst (.move x) = some e') (hd : ∀ k, o.dst = some k → k < n)
    {next : Act → World → Prop} {Q : Exit → Act → World → Prop} (hnext : ∀ a' w', Sim K F0 B n w0 e' a' w' → next a' w') : o.wp P a w next Q := by
  have hrun : (execOp a.eval o).run P w = .ok (.value (a.eval X)) w := by
    rcases ho with ho | ho <;> (simp only [execOp, ho]; rfl)
  unfold Oper.wp
  rw [hrun]
  show next (a.put o.dst (a.eval X)) w
  have other : (∀ s, x ≠ .t s) → Go.AM.put solo (Go.AM.fzV e x) o.dst (Go.AM.rd (Go.AM.fzV e x) x) = some e' → next (a.put o.dst (a.eval X)) w := fun hnt hp => by
    obtain ⟨F1, S1, h1, hF1, hr⟩ := h.rdV hx hnt
    obtain ⟨S2, h2⟩ := h1.putN hd (Hand.of_pure hr) hp
    exact hnext _ _ ⟨F1, S2, h2⟩
  cases x with
  | t s =>
    simp only [stepOp] at hs
    have hX := compX_slot (.inl hx)
    subst hX
    split at hs
    · rename_i hown
      obtain ⟨S2, h2⟩ := (h.drop s).putN hd (h.hand s rfl (owns_refRoot hown)) hs
      exact hnext _ _ ⟨F, S2, h2⟩
    · rename_i hown
      obtain ⟨T, hr⟩ := h.rd hx
      have hT : T = [] := by
        cases hes : e s with
        | own z rows => simp [owns, owns1, hes] at hown
        | box cs => simp [owns, owns1, hes] at hown
        | _ =>
          have hrd : Go.AM.rd e (.t s) = e s := by simp [Go.AM.rd, hes]
          rw [hrd] at hr
          exact noOwn_T hr (by simpa using hown)
      subst hT
      obtain ⟨S2, h2⟩ := h.putN hd (Hand.of_pure hr) hs
      exact hnext _ _ ⟨F, S2, h2⟩
  | v s => exact other (by simp) (by simpa only [stepOp] using hs)
  | c y => exact other (by simp) (by simpa only [stepOp] using hs)

theorem VRep.cells {x : AV} {v : Value} {T : List Nat} (h : VRep w F x v T) (hx : isVal x = true) : CRepL w F (cellsOf x) v.cells.toList T := by
  cases h with
  | cell h =>
    have hc : cellsOf x = [x] := by cases h with
      | pure h hc => cases x <;> first | rfl | simp [isCell] at hc
      | _ => rfl
    have hv : v.cells = #[v] := by
      have := h.one
      cases v <;> first | rfl | simp [Value.oneCell'] at this
    rw [hc, hv]
    have := CRepL.cons h .nil
    simpa using this
  | agg h => simpa [cellsOf, Value.cells] using h
  | undef => simp [isVal, isCellO, isCell, isOwn] at hx

theorem SRep.vrep {x : AV} {v : Value} {T : List Nat} (h : SRep K e a w F x v T) (hx : isVal x = true) : VRep w F x v T := by
  cases h with
  | val h => cases h with
    | val h => exact h
    | tup => simp [isVal, isCellO, isCell, isOwn] at hx
  | _ => simp [isVal, isCellO, isCell, isOwn] at hx

theorem below_alloc {w : World} (o : Obj) : Below w.heap.size w (w.alloc o) := (Below.refl _ _).alloc (Nat.le_refl _) o

/-- A new block in hand. -/
theorem EnvRel.newBox (h : EnvRel K F0 B n w0 F S e a w) {cs : List AV} {cells : Array Value} {T : List Nat} (ty : TypeId) (hc : CRepL w F cs cells.toList T) (hnd : T.Nodup)
    (hT : ∀ b ∈ T, B ≤ b ∧ b < w.heap.size ∧ ¬ F b) (hap : ∀ b ∈ T, ∀ s, b ∉ S s) :
    EnvRel K F0 B n w0 F S e a (w.alloc (.cells cells ty)) ∧ Hand K B F S e a (w.alloc (.cells cells ty)) (.box cs) (.pointer (some ⟨w.heap.size, 0, none⟩)) (w.heap.size :: T) := by
  have h1 := h.ext (w' := w.alloc (.cells cells ty)) (F' := F) (below_alloc _) (fun _ h => h) (fun b hb => .inl hb)
  refine ⟨h1, ?_, ?_, ?_, ?_⟩
  · refine .box cs w.heap.size cells ty T (heap_alloc_new w _) (hc.mono (fun _ h => h) (fun b hb => heap_alloc_old w _ b (h.free b hb)) fun b hb => heap_alloc_old w _ b (hT b hb).2.1)
  · exact List.nodup_cons.2 ⟨fun hb => by have := (hT _ hb).2.1; omega, hnd⟩
  · intro b hb
    rcases List.mem_cons.1 hb with rfl | hb
    · exact ⟨h.base, by simp, fun hf => by have := h.free _ hf; omega⟩
    · obtain ⟨h2, h3, h4⟩ := hT b hb
      exact ⟨h2, by simp; omega, h4⟩
  · intro b hb s hs
    rcases List.mem_cons.1 hb with rfl | hb
    · have := (h.own s _ hs).2.1; omega
    · exact hap b hb s hs

theorem EnvRel.step_alloc (h : EnvRel K F0 B n w0 F S e a w) {o : Oper} {t : TypeId} {zero : List AV} (ho : o.op = .alloc t) (hz : zeroOf P t = some zero) {solo : Bool} {e' : Env}
    (hs : stepOp C solo e o.dst (.alloc zero) = some e') (hd : ∀ k, o.dst = some k → k < n)
    {next : Act → World → Prop} {Q : Exit → Act → World → Prop} (hnext : ∀ a' w', Sim K F0 B n w0 e' a' w' → next a' w') : o.wp P a w next Q := by
  unfold zeroOf at hz
  cases hi : P.info? t with
  | none => simp [hi] at hz
  | some i =>
    cases hzz : i.zero with
    | none => simp [hi, hzz] at hz
    | some z =>
      simp only [hi, hzz] at hz
      have hrun : (execOp a.eval o).run P w = .ok (.value (.pointer (some ⟨w.heap.size, 0, none⟩))) (w.alloc (.cells z.cells t)) := by
        simp only [execOp, ho, Instr.alloc]
        simp [zeroValue, run_typeInfo' hi, hzz, newVar, newRow]
      unfold Oper.wp
      rw [hrun]
      simp only [stepOp] at hs
      split at hs
      · obtain ⟨c1, c2, c3⟩ := cells_sound hz w F
        obtain ⟨h1, h2⟩ := h.newBox (cells := z.cells) t (CRepL.of_pure zero z.cells.toList c1 c2 c3) List.nodup_nil (by simp) (by simp)
        obtain ⟨S2, h3⟩ := h1.putN hd h2 hs
        exact hnext _ _ ⟨F, S2, h3⟩
      · cases hs

theorem EnvRel.step_box (h : EnvRel K F0 B n w0 F S e a w) {o : Oper} {t : TypeId} {X : Operand} {x : AX} (ho : o.op = .box t X) (hx : compX K X = some x) {solo : Bool} {e' : Env}
    (hs : stepOp C solo e o.dst (.box x) = some e') (hd : ∀ k, o.dst = some k → k < n)
    {next : Act → World → Prop} {Q : Exit → Act → World → Prop} (hnext : ∀ a' w', Sim K F0 B n w0 e' a' w' → next a' w') : o.wp P a w next Q := by
  have hrun : (execOp a.eval o).run P w = .ok (.value (.pointer (some ⟨w.heap.size, 0, none⟩))) (w.alloc (.cells (a.eval X).cells t)) := by
    simp only [execOp, ho, Instr.box]
    simp [newVar, newRow]
  unfold Oper.wp
  rw [hrun]
  simp only [stepOp] at hs
  split at hs
  · rename_i v e1 ht
    split at hs
    · rename_i hv
      obtain ⟨F1, S1, T, h1, hh, hF1, hr⟩ := h.take hx ht
      have hc := (hh.rep.vrep hv).cells hv
      obtain ⟨h2, h3⟩ := h1.newBox t hc hh.nodup hh.own hh.apart
      obtain ⟨S2, h4⟩ := h2.putN hd h3 hs
      exact hnext _ _ ⟨F1, S2, h4⟩
    · cases hs
  · cases hs

/-- Where a pointer's operand points, when another operand has been taken. -/
theorem run_storeVar' {t : TypeId} {m b o : Nat} {v : Value} {cells : Array Value} {ty : TypeId} (hsz : sizeO P t = some m) (hm : v.cells.size = m) (hg : w.heap[b]? = some (.cells cells ty (0, 0)))
    (hfit : o + v.cells.size ≤ cells.size) (h1 : ∀ u ∈ v.cells.toList, u.oneCell' = true) :
    (storeVar t ⟨b, o, none⟩ v).run P w = .ok () (w.setRow b (cells.toList.take o ++ v.cells.toList ++ cells.toList.drop (o + v.cells.toList.length)).toArray) := by
  unfold storeVar
  simp only [Sem.run_bind, run_sizeO hsz, Result.andThen_ok, hm, ne_eq, not_true_eq_false, if_false]
  have := run_storeCells_at (P := P) b o ty v.cells.toList 0 cells w hg (by simpa using hfit) h1
  simpa using this

theorem kill_owner {e : Env} {s d : Nat} (h : isOwner (kill d e s) = true) : kill d e s = e s := by
  unfold kill at h ⊢
  rcases killR_spec d (e s) with h1 | ⟨_, h2⟩
  · exact h1
  · rw [h2] at h; simp [isOwner] at h
theorem fzV_owner {e : Env} {x : AX} {s : Nat} (h : isOwner (fzV e x s) = true) : fzV e x s = e s := by
  have key : ∀ t, (∀ cs, e t ≠ .box cs) → isOwner ((if owns (e t) = true then upd (kill t e) t (freezeT (e t)) else e) s) = true → (if owns (e t) = true then upd (kill t e) t (freezeT (e t)) else e) s = e s := fun t hnb h => by
    split at h
    · rename_i ho
      rw [if_pos ho]
      by_cases hst : s = t
      · subst hst
        rw [upd_same] at h
        obtain ⟨n1, n2⟩ := freezeT_notOwn (x := e s) hnb
        cases hq : freezeT (e s) <;> simp [hq, isOwner] at h
        · exact absurd hq (n1 _ _)
        · exact absurd hq (n2 _)
      · rw [upd_ne _ _ hst] at h ⊢
        exact kill_owner h
    · rename_i ho
      rw [if_neg ho]
  cases x with
  | v t =>
    have hk := key t
    cases hes : e t with
    | own z rows => simp only [fzV, hes]
    | box cs => simp only [fzV, hes]
    | _ =>
      rw [hes] at hk
      simp only [fzV, hes] at h ⊢
      exact hk (by simp) h
  | _ => rfl
theorem freezeRoot_owner {e : Env} {r s : Nat} {rows : List (List AV)} (h : isOwner (freezeRoot e r rows s) = true) : freezeRoot e r rows s = e s := by
  unfold freezeRoot at h ⊢
  by_cases hs : s = r
  · subst hs; rw [upd_same] at h; simp [isOwner] at h
  · rw [upd_ne _ _ hs] at h ⊢
    cases hes : e s with
    | ref s' c =>
      rw [hes] at h
      cases c <;> simp only [resolveR] at h ⊢ <;> split at h <;> simp [isOwner] at h
    | ptr s' c row off =>
      rw [hes] at h
      simp only [resolveR] at h
      split at h <;> simp [isOwner] at h
    | _ => rfl
theorem drop_owner {e : Env} {d s : Nat} (h : isOwner (drop e d s) = true) : drop e d s = e s := by
  unfold drop at h ⊢
  by_cases hs : s = d
  · subst hs; rw [upd_same] at h; simp [isOwner] at h
  · rw [upd_ne _ _ hs] at h ⊢; exact kill_owner h
theorem take_owner {e e1 : Env} {x : AX} {solo : Bool} {v : AV} (ht : take solo e x = some (v, e1)) {s : Nat} (h : isOwner (e1 s) = true) : e1 s = e s := by
  unfold take at ht
  simp only [] at ht
  split at ht
  · split at ht
    · split at ht
      · simp only [Option.some.injEq, Prod.mk.injEq] at ht
        obtain ⟨_, rfl⟩ := ht
        have := freezeRoot_owner h
        rw [this] at h ⊢
        exact fzV_owner h
      · cases ht
    · cases ht
  · cases ht
  · cases ht
  · split at ht
    · split at ht
      · simp only [Option.some.injEq, Prod.mk.injEq] at ht
        obtain ⟨_, rfl⟩ := ht
        have := drop_owner h
        rw [this] at h ⊢
        exact fzV_owner h
      · simp only [Option.some.injEq, Prod.mk.injEq] at ht
        obtain ⟨_, rfl⟩ := ht
        exact fzV_owner h
    · simp only [Option.some.injEq, Prod.mk.injEq] at ht
      obtain ⟨_, rfl⟩ := ht
      exact fzV_owner h

theorem EnvRel.step_store (h : EnvRel K F0 B n w0 F S e a w) {o : Oper} {t : TypeId} {X V : Operand} {x v : AX} {m : Nat} (ho : o.op = .store t X V) (hsz : sizeO P t = some m) (hx : compX K X = some x) (hv : compX K V = some v)
    {solo : Bool} {e' : Env} (hs : stepOp C solo e o.dst (.store m x v) = some e') (hd : o.dst = none)
    {next : Act → World → Prop} {Q : Exit → Act → World → Prop} (hnext : ∀ a' w', Sim K F0 B n w0 e' a' w' → next a' w') : o.wp P a w next Q := by
  simp only [stepOp] at hs
  split at hs
  · rename_i nv e1 ht
    split at hs
    · rename_i hval
      obtain ⟨F1, S1, T, h1, hh, hF1, hr⟩ := h.take hv ht
      have hc := (hh.rep.vrep hval).cells hval
      obtain ⟨Tp, hp⟩ := h.rd hx
      generalize hpp : Go.AM.rd e x = p at hs hp
      have hone : ∀ u ∈ (a.eval V).cells.toList, u.oneCell' = true := hc.one
      have hlc := hc.length
      -- the run
      have run : ∀ b off' cells ty, a.eval X = .pointer (some ⟨b, off', none⟩) → (a.eval V).cells.size = m → w.heap[b]? = some (.cells cells ty (0, 0)) → off' + (a.eval V).cells.toList.length ≤ cells.size →
          (execOp a.eval o).run P w = .ok .skip (w.setRow b (cells.toList.take off' ++ (a.eval V).cells.toList ++ cells.toList.drop (off' + (a.eval V).cells.toList.length)).toArray) := fun b off' cells ty h2 h3 h4 h5 => by
        have := run_storeVar' (P := P) (o := off') hsz h3 h4 (by simpa using h5) hone
        simp only [execOp, ho, Instr.storeAt, Instr.sureAddr, h2]
        simp [this]
      have fin : ∀ {b off' : Nat} {cells : Array Value} {ty : TypeId} {S2 : Nat → List Nat}, a.eval X = .pointer (some ⟨b, off', none⟩) → (a.eval V).cells.size = m → w.heap[b]? = some (.cells cells ty (0, 0)) → off' + (a.eval V).cells.toList.length ≤ cells.size →
          EnvRel K F0 B n w0 F1 S2 e' a (w.setRow b (cells.toList.take off' ++ (a.eval V).cells.toList ++ cells.toList.drop (off' + (a.eval V).cells.toList.length)).toArray) → o.wp P a w next Q := fun h2 h3 h4 h5 h6 => by
        unfold Oper.wp
        rw [run _ _ _ _ h2 h3 h4 h5]
        show next (a.put o.dst Go.undef) _
        rw [hd]
        exact hnext _ _ ⟨F1, _, h6⟩
      unfold storeAt at hs
      simp only [] at hs
      split at hs
      · rename_i hm
        have hm' : (a.eval V).cells.size = m := by rw [← hm, hlc]; simp
        cases p with
        | ptr s c row off =>
          -- the pointer still points there
          have ptr : ∀ {rows r}, content e1 s c = some rows → rows[row]? = some r → ∃ b, blk (hdr a w s c) = some b ∧ a.eval X = .pointer (some ⟨b, row * r.length + off, none⟩) := fun {rows r} hcc hrw => by
            have he := take_owner ht (content_owner hcc)
            rw [content_congr he] at hcc
            generalize a.eval X = u at hp
            cases hp with
            | val h => have := TRep_refRoot h; simp [refRoot] at this
            | ptr _ _ _ _ rows' r' b hr' hrow hb =>
              rw [hcc] at hr'; cases hr'
              rw [hrw] at hrow; cases hrow
              exact ⟨b, hb, rfl⟩
          cases c with
          | none =>
            simp only [] at hs
            cases hes : e1 s with
            | box cs =>
              simp only [hes] at hs
              split at hs
              · rename_i hcond
                obtain ⟨hrow0, hle, hcells⟩ := hcond
                subst hrow0
                have hle' : off + (cellsOf nv).length ≤ cs.length := by rw [hm]; exact hle
                obtain ⟨b, hb, hX⟩ := ptr (rows := [cs]) (r := cs) (by simp [content, hes]) rfl
                split at hs
                · split at hs
                  · simp only [Option.some.injEq] at hs; subst hs
                    have hk := h1.weaken (killCs s off m) (killCs_spec s off m)
                    have hes' : killCs s off m (e1 s) = .box cs := by rw [hes]; rfl
                    obtain ⟨b', cells, ty, S2, g1, g2, g3, g4⟩ := hk.writeBox (s := s) (new := cellsOf nv) (off := off) hes' hle' hc hh.nodup hh.own hh.apart (fun t k hkk => by
                      obtain ⟨c, _, hkk, hck⟩ := hkk
                      rw [hm]
                      rcases hkk with hkk | ⟨r, o', hkk⟩
                      · exact killCs_ref hkk
                      · exact killCs_ptr hkk)
                    simp only [hdr, g1, blk] at hb; cases hb
                    exact fin (by simpa using hX) hm' g2 g3 g4
                  · cases hs
                · rename_i hnoown
                  simp only [Option.some.injEq] at hs; subst hs
                  obtain ⟨b', cells, ty, S2, g1, g2, g3, g4⟩ := h1.writeBox (s := s) (new := cellsOf nv) (off := off) hes hle' hc hh.nodup hh.own hh.apart (fun t k hkk hrange => by
                    obtain ⟨c, hroot, hkk, hck⟩ := hkk
                    have hcon : ∃ rows, content e1 s (some k) = some rows := by
                      have hrt := h1.rep t
                      generalize a.tmps.getD t Go.undef = u at hrt
                      generalize S1 t = Tt at hrt
                      rcases hkk with hkk | ⟨r, o', hkk⟩
                      · rw [hkk] at hrt
                        cases hrt with
                        | val h => have := TRep_refRoot h; simp [refRoot] at this
                        | ref _ _ _ hr' hb' hd hK => exact Option.isSome_iff_exists.1 hr'
                      · rw [hkk] at hrt
                        cases hrt with
                        | val h => have := TRep_refRoot h; simp [refRoot] at this
                        | ptr _ _ _ _ rows' r' b'' hr' hrow hb' => exact ⟨_, hr'⟩
                    obtain ⟨rows, hcon⟩ := hcon
                    simp only [content, hes] at hcon
                    cases hck : cs[k]? with
                    | none => simp [hck] at hcon
                    | some q =>
                      cases q with
                      | own z rs =>
                        have hnn : ((cs.drop off).take m).any isOwn = true := by
                          rw [List.any_eq_true]
                          refine ⟨.own z rs, ?_, rfl⟩
                          apply List.mem_of_getElem? (i := k - off)
                          rw [List.getElem?_take, if_pos (by omega), List.getElem?_drop, ← hck]
                          congr 1; omega
                        exact hnoown hnn
                      | _ => simp [hck] at hcon)
                  simp only [hdr, g1, blk] at hb; cases hb
                  exact fin (by simpa using hX) hm' g2 g3 g4
              · cases hs
            | own z rows =>
              simp only [hes] at hs
              split at hs
              · rename_i r hrw
                split at hs
                · rename_i hcond
                  simp only [Option.some.injEq] at hs; subst hs
                  have hnc := List.all_eq_true.1 hcond.2
                  obtain ⟨b, hb, hX⟩ := ptr (rows := rows) (r := r) (by simp [content, hes]) hrw
                  have hc0 : CRepL w F1 (cellsOf nv) (a.eval V).cells.toList [] := by
                    obtain ⟨hT0, hp0⟩ := hc.pure hnc
                    exact CRepL.of_pure _ _ hlc hnc hp0
                  obtain ⟨b', cells, ty, S2, g1, g2, g3, g4⟩ := h1.writeOwn hes hrw (by rw [hm]; exact hcond.1) hc0 hnc
                  rw [hb] at g1; cases g1
                  exact fin hX hm' g2 g3 g4
                · cases hs
              · cases hs
            | _ => simp [hes] at hs
          | some k =>
            simp only [] at hs
            cases hes : e1 s with
            | box cs =>
              simp only [hes] at hs
              cases hck : cs[k]? with
              | none => simp [hck] at hs
              | some q =>
                cases q with
                | own z rows =>
                  simp only [hck] at hs
                  split at hs
                  · rename_i r hrw
                    split at hs
                    · rename_i hcond
                      simp only [Option.some.injEq] at hs; subst hs
                      have hnc := List.all_eq_true.1 hcond.2
                      obtain ⟨b, hb, hX⟩ := ptr (rows := rows) (r := r) (by simp [content, hes, hck]) hrw
                      have hc0 : CRepL w F1 (cellsOf nv) (a.eval V).cells.toList [] := by
                        obtain ⟨hT0, hp0⟩ := hc.pure hnc
                        exact CRepL.of_pure _ _ hlc hnc hp0
                      obtain ⟨b', cells, ty, S2, g1, g2, g3, g4⟩ := h1.writeCell hes hck hrw (by rw [hm]; exact hcond.1) hc0 hnc
                      rw [hb] at g1; cases g1
                      exact fin hX hm' g2 g3 g4
                    · cases hs
                  · cases hs
                | _ => simp [hck] at hs
            | _ => simp [hes] at hs
        | _ => simp at hs
      · cases hs
    · cases hs
  · cases hs

end
end Go.AM
