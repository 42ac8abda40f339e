/- YtkddkpmijhionaaGreatDoorOrder2: what the stage takes out of the queue, and where it ends. No statement of the seat is proved here. -/
import Derived.Test.YtkddkpmijhionaaGreatDoorOrder
set_option linter.unusedSimpArgs false
set_option linter.unusedVariables false
set_option maxRecDepth 100000
namespace Go.Proofs.YtkddkpmijhionaaGreatDoor
open Go Go.A2
theorem list_len (f:TFree):∃ r,F_freel_List f=some r∧r.l.length=freeN f:=by
 unfold freeN
 cases hB:ringB f with
 | true=>
  have h:=ringOk hB
  obtain ⟨r,r1,r2⟩:=core_list h
  exact ⟨r,r1,by rw [r2,(ringL_len h).2,if_pos rfl]⟩
 | false=>
  refine ⟨Sl.nil,?_,rfl⟩
  unfold F_freel_List T_freel_List
  simp only [ev_opt,ev_ite,ev_ret,core_ring,hB,bind_some',Bool.not_false,if_true]
theorem fits_facts {c:TCore} {l:Sl 168 TUop} (hl:l.l.length≤400) (hr:c.Rob.l.length≤900) (h:F_place_Fits c l=some true):(c.Rob.l.length:Int)+l.l.length≤c.Conf.Rob.n∧cnt pWrites l.l≤freeN c.Names.Free:=by
 obtain ⟨r,r1,r2⟩:=list_len c.Names.Free
 have hc:=cnt_le pWrites l.l
 unfold F_place_Fits T_place_Fits F_place_of T_place_of at h
 simp only [ev_opt,ev_ite,ev_ret,bind_some',many0 l hl,many1 l hl,many2 l hl,r1] at h
 split at h
 ·rename_i h1
  have g1:(c.Rob.l.length:Int)+l.l.length≤c.Conf.Rob.n:=by
   rw [W.le_n,W.add_n,len_n',len_n',wrap_i64] at h1;omega
  refine ⟨g1,?_⟩
  split at h
  ·split at h
   ·split at h
    ·have h5:=Option.some.inj h
     rw [W.le_n,len_n',wi_n (sm (by omega)),r2] at h5;omega
    ·cases h
   ·cases h
  ·cases h
 ·cases h
noncomputable def parts (s:TSlot):List TUop:=match F_crack_Uops s with
 | some l=>l.l
 | none=>[]
theorem parts_some (s:TSlot):∃ l,F_crack_Uops s=some l∧l.l=parts s∧l.l.length≤2:=by
 obtain ⟨l,l1,_,l3⟩:=uops_eq s
 exact ⟨l,l1,by unfold parts;rw [l1],l3⟩
structure Out (c d:TCore) (ns:Sl 32 TNote) (i:Nat):Prop where
 ord:Ord c d ((c.Queue.l.take i).flatMap parts) ns
 queue:d.Queue.l=c.Queue.l.drop i
 le:i≤c.Queue.l.length
 small:((c.Queue.l.take i).flatMap parts).length≤2*i
end Go.Proofs.YtkddkpmijhionaaGreatDoor
