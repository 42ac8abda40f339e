/- YtkddkpmijhionaaGreatDoorTake: a free register taken. No statement of the seat is proved here. -/
import Derived.Test.YtkddkpmijhionaaGreatDoorRing
set_option linter.unusedSimpArgs false
set_option linter.unusedVariables false
set_option maxRecDepth 100000
namespace Go.Proofs.YtkddkpmijhionaaGreatDoor
open Go Go.A2
theorem copy_all {α:Type} {b:Nat} {x r:Sl b α} (h:x.l.length=r.l.length):Sl.copy x 0 r=r:=by
 refine Sl.ext ?_
 unfold Sl.copy cpL
 simp [h]
theorem make_len {b:Nat} (r:Sl 8 (W .i64)):∃ x:Sl 8 (W .i64),Sl.make? 8 (W.of .i64 0) (Sl.len r) (Sl.len r)=some x∧x.l.length=r.l.length:=by
 have h:=r.h
 have hr:(room:Int)=140737488355328:=by unfold room;rfl
 have hr':room=140737488355328:=by unfold room;rfl
 unfold Sl.make?
 rw [if_pos ⟨by rw [len_n'];omega,Int.le_refl _,by rw [len_n'];omega,by rw [len_n'];omega⟩]
 unfold Sl.mk?
 rw [dif_pos ⟨by rw [List.length_replicate,len_n'];omega,by rw [List.length_replicate,len_n'];omega⟩]
 exact ⟨_,rfl,by rw [List.length_replicate,len_n'];omega⟩
theorem take_eq (f:TFree):∃ r,F_freel_Take f=some r∧F_ref25_Take f=some r∧(r.1.Ring.l.length=f.Ring.l.length):=by
 unfold F_freel_Take T_freel_Take F_ref25_Take T_ref25_Take
 simp only [ev_opt,ev_ite,ev_ret,core_ring,ref_ring,bind_some']
 cases hB:ringB f with
 | false=>exact ⟨_,rfl,rfl,rfl⟩
 | true=>
  have h:=ringOk hB
  simp only [Bool.not_true,Bool.false_eq_true,if_false,W.eq_dec,decide_eq_true_eq]
  by_cases h0:f.N=W.of .i64 0
  ·rw [if_pos h0,if_pos h0];exact ⟨_,rfl,rfl,rfl⟩
  ·rw [if_neg h0,if_neg h0]
   have hn:f.N.n ≠ 0:=fun hh=>h0 (W.ext hh)
   have h1:=h.n0
   have h2:=h.n1
   have h3:=h.len
   have h4:=h.h0
   have h5:=h.h1
   have hlen:0 < f.Ring.l.length:=by omega
   have e0:F_freel_ring_at f (W.of .i64 0)=some f.Head:=by
    have:=core_place' h (k:=0) (by decide) hlen
    rw [Nat.add_zero,Nat.mod_eq_of_lt (by omega),←of_small h4] at this
    exact this
   have e1:=core_place' h (k:=1) (by decide) hlen
   have e2:W.rem? (W.add f.Head (W.of .i64 1)) (Sl.len f.Ring)=some (wi ((f.Head.n.toNat+1) % f.Ring.l.length)):=by
    have:W.add f.Head (wi 1)=wi (f.Head.n.toNat+1):=by
     have:=add_wi (a:=f.Head.n.toNat) (b:=1) (by omega) (by omega)
     rwa [←of_small h4] at this
    rw [show W.of .i64 1=wi 1 from rfl,this,Sl.len_wi,rem_small hlen (by omega) (by omega)]
   have e3:∃ y,Sl.get? f.Ring f.Head=some y:=⟨_,get_at f.Ring h4 (by omega)⟩
   obtain ⟨y,e3⟩:=e3
   obtain ⟨x,x1,x2⟩:=make_len (b:=8) f.Ring
   have e4:F_ref25_with f (W.of .i64 (-1)) (W.of .i64 0)=some f:=by
    unfold F_ref25_with T_ref25_with
    simp only [ev_opt,ev_ite,ev_ret,x1,bind_some',show W.ge (W.of .i64 (-1)) (W.of .i64 0)=false from rfl,Bool.false_eq_true,if_false,copy_all x2]
   simp only [e0,e1,e2,e3,e4,bind_some',show F_freel_ring_at f (W.of .i64 1)=_ from e1]
   exact ⟨_,rfl,rfl,rfl⟩
end Go.Proofs.YtkddkpmijhionaaGreatDoor
