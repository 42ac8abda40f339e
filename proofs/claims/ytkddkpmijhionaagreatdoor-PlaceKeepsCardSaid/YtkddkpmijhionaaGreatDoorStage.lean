/- YtkddkpmijhionaaGreatDoorStage: the stage that renames, and puts: the program's answer is the document's. No statement of the seat is proved here. -/
import Derived.Test.YtkddkpmijhionaaGreatDoorParts
import Derived.Test.YtkddkpmijhionaaGreatDoorPut
set_option linter.unusedSimpArgs false
set_option linter.unusedVariables false
set_option maxRecDepth 100000
namespace Go.Proofs.YtkddkpmijhionaaGreatDoor
open Go Go.A2
theorem uops_eq (s:TSlot):∃ l,F_crack_Uops s=some l∧F_ref24_Uops s=some l∧l.l.length≤2:=by
 obtain ⟨r,r1,r2,r3⟩:=dec_eq s.Word
 unfold F_crack_Uops T_crack_Uops F_ref24_Uops T_ref24_Uops F_crack_trap T_crack_trap F_crack_none T_crack_none F_ref24_none T_ref24_none
 simp only [ev_opt,ev_ite,ev_ret,bind_some',r1,r2]
 cases W.ne s.Cause (W.of .i64 0) with
 | true=>exact ⟨_,rfl,rfl,Nat.le_succ _⟩
 | false=>
  simp only [Bool.false_eq_true,if_false]
  cases hr:W.ne r.2 (W.of .i64 0) with
  | true=>exact ⟨_,rfl,rfl,Nat.le_succ _⟩
  | false=>
   have ok:=r3 hr
   obtain ⟨k,hk,k1,k2⟩:=wi_of (a:=r.1.Op) (lo:=1) (hi:=63) (by have:=ok.op0;omega) (by have:=ok.op1;omega)
   simp only [Bool.false_eq_true,if_false]
   obtain ⟨u,u1,u2,u3,u4⟩:=part_eq s r.1 hk (by omega) (by omega) (W.of .i64 0) true
   have hu:({ u with Part:=W.of .i64 0,Last:=true }:TUop)=u:=by rw [←u3,←u4]
   rw [hu] at u2
   cases W.ne r.1.Op (W.of .i64 39) with
   | true=>
    simp only [if_true,u1,u2,bind_some']
    exact ⟨_,rfl,rfl,Nat.le_succ _⟩
   | false=>
    obtain ⟨a,a1,a2,a3,a4⟩:=part_eq s (TInst.mk (W.of .i64 38) r.1.Rd r.1.Ra (W.of .i64 0) (W.of .i64 0)) (k:=38) rfl (by decide) (by decide) (W.of .i64 0) true
    obtain ⟨a',a1',a2',_,_⟩:=part_eq s (TInst.mk (W.of .i64 38) r.1.Rd r.1.Ra (W.of .i64 0) (W.of .i64 0)) (k:=38) rfl (by decide) (by decide) (W.of .i64 0) false
    obtain rfl:a=a':=by rw [a1] at a1';exact Option.some.inj a1'
    obtain ⟨b,b1,b2,b3,b4⟩:=part_eq s (TInst.mk (W.of .i64 25) r.1.Ra r.1.Ra (W.of .i64 0) r.1.Imm) (k:=25) rfl (by decide) (by decide) (W.of .i64 1) true
    have ha:({ a with Part:=W.of .i64 0,Last:=true }:TUop)=a:=by rw [←a3,←a4]
    have ha':({ a with Part:=W.of .i64 0,Last:=false }:TUop)={ a with Last:=false }:=by rw [←a3]
    have hb:({ b with Part:=W.of .i64 1,Last:=true }:TUop)={ b with Part:=W.of .i64 1 }:=by rw [←b4]
    rw [ha] at a2
    rw [ha'] at a2'
    rw [hb] at b2
    simp only [Bool.false_eq_true,if_false,a1,a2,a2',b1,b2,bind_some']
    cases W.eq r.1.Ra (W.of .i64 0) with
    | true=>exact ⟨_,rfl,rfl,Nat.le_succ _⟩
    | false=>
     cases W.eq r.1.Ra r.1.Rd with
     | true=>exact ⟨_,rfl,rfl,Nat.le_succ _⟩
     | false=>exact ⟨_,rfl,rfl,Nat.le_refl _⟩
structure Bnd (c d:TCore) (k:Nat):Prop where
 rob:d.Rob.l.length≤c.Rob.l.length+k
 iq:d.Iq.l.length≤c.Iq.l.length+k
 lq:d.Lq.l.length≤c.Lq.l.length+k
 sq:d.Sq.l.length≤c.Sq.l.length+k
 conf:d.Conf=c.Conf
structure Mod (c:TCore):Prop where
 rob:c.Rob.l.length≤900
 iq:c.Iq.l.length≤900
 lq:c.Lq.l.length≤900
 sq:c.Sq.l.length≤900
theorem inner (c t4 t4':TCore) (hc:Mod c) (notes:Sl 32 TNote) (hn:notes.l.length≤900) (N i n:W .i64) (l:Sl 168 TUop) (hl:l.l.length≤2):
  ∃ d ns,L_place_Stage_34 (c,t4,notes,N,i,l,Sl.len l,wi 0,())=some (d,t4,ns,N,i,())∧L_ref45_Stage_32 (c,t4',notes,n,l,wi 0,())=some (d,t4',ns,n,())∧Bnd c d 2∧ns.l.length≤notes.l.length+2:=by
 have key:∃ o o',L_place_Stage_34 (c,t4,notes,N,i,l,Sl.len l,wi 0,())=some o∧L_ref45_Stage_32 (c,t4',notes,n,l,wi 0,())=some o'∧∃ d ns,o=(d,t4,ns,N,i,())∧o'=(d,t4',ns,n,())∧Bnd c d 2∧ns.l.length≤notes.l.length+2:=by
  unfold L_place_Stage_34 L_ref45_Stage_32
  refine iter_both (fun j a b=>∃ d ns,a=(d,t4,ns,N,i,l,Sl.len l,wi j,())∧b=(d,t4',ns,n,l,wi j,())∧Bnd c d j∧ns.l.length≤notes.l.length+j) l.l.length _ ?_ ?_ ⟨c,notes,rfl,rfl,⟨Nat.le_refl _,Nat.le_refl _,Nat.le_refl _,Nat.le_refl _,rfl⟩,Nat.le_refl _⟩ (by show _ < 281474976710656;omega)
  ·rintro j a b hj ⟨d,ns,rfl,rfl,hb,hns⟩
   have h1:=hb.rob
   have h2:=hb.iq
   have h3:=hb.lq
   have h4:=hb.sq
   have m1:=hc.rob
   have m2:=hc.iq
   have m3:=hc.lq
   have m4:=hc.sq
   obtain ⟨r,r1,r2,r3⟩:=place_put_eq d (nth l.l j) (by omega) (by omega) (by omega) (by omega)
   obtain ⟨z,z1,z2⟩:=app_lit (s:=ns) (x:=r.2) (hb:=rfl) (by unfold room;omega) (by unfold room;omega)
   simp only [B_place_Stage_34,B_ref45_Stage_32,ev_ite,ev_opt,ev_ret,lt_len l hj,if_true,Sl.get_wi l hj,bind_some',r1,r2,z1,wi_next l hj]
   have g1:=r3.rob
   have g2:=r3.iq
   have g3:=r3.lq
   have g4:=r3.sq
   refine .inl ⟨_,_,rfl,rfl,r.1,z,rfl,rfl,⟨by omega,by omega,by omega,by omega,r3.conf.trans hb.conf⟩,?_⟩
   rw [z2,List.length_append]
   show _+1≤_
   omega
  ·rintro a b ⟨d,ns,rfl,rfl,hb,hns⟩
   simp only [B_place_Stage_34,B_ref45_Stage_32,ev_ite,ev_ret,lt_end l,Bool.false_eq_true,if_false]
   have h1:=hb.rob
   have h2:=hb.iq
   have h3:=hb.lq
   have h4:=hb.sq
   exact ⟨_,_,rfl,rfl,d,ns,rfl,rfl,⟨by omega,by omega,by omega,by omega,hb.conf⟩,by omega⟩
 obtain ⟨o,o',k1,k2,d,ns,rfl,rfl,hb,hns⟩:=key
 exact ⟨d,ns,k1,k2,hb,hns⟩
end Go.Proofs.YtkddkpmijhionaaGreatDoor
