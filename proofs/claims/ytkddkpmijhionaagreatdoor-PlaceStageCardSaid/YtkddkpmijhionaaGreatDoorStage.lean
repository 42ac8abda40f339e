/- YtkddkpmijhionaaGreatDoorStage: the stage that renames, and puts: the program's answer is the document's. No statement of the seat is proved here. -/
import Derived.Test.YtkddkpmijhionaaGreatDoorParts
import Derived.Test.YtkddkpmijhionaaGreatDoorPut
set_option linter.unusedSimpArgs false
set_option linter.unusedVariables false
set_option maxRecDepth 100000
namespace Go.Proofs.YtkddkpmijhionaaGreatDoor
open Go Go.A2
theorem uops_eq (s:TSlot):∃ l,F_crack_Uops s=some l∧F_ref24_Uops s=some l∧l.l.length≤2:=by
 obtain ⟨r,r1,r2,r3⟩:=dec_eq s.Word
 unfold F_crack_Uops T_crack_Uops F_ref24_Uops T_ref24_Uops F_crack_trap T_crack_trap F_crack_none T_crack_none F_ref24_none T_ref24_none
 simp only [ev_opt,ev_ite,ev_ret,bind_some',r1,r2]
 cases W.ne s.Cause (W.of .i64 0) with
 | true=>exact ⟨_,rfl,rfl,Nat.le_succ _⟩
 | false=>
  simp only [Bool.false_eq_true,if_false]
  cases hr:W.ne r.2 (W.of .i64 0) with
  | true=>exact ⟨_,rfl,rfl,Nat.le_succ _⟩
  | false=>
   have ok:=r3 hr
   obtain ⟨k,hk,k1,k2⟩:=wi_of (a:=r.1.Op) (lo:=1) (hi:=63) (by have:=ok.op0;omega) (by have:=ok.op1;omega)
   simp only [Bool.false_eq_true,if_false]
   obtain ⟨u,u1,u2,u3,u4⟩:=part_eq s r.1 hk (by omega) (by omega) (W.of .i64 0) true
   have hu:({ u with Part:=W.of .i64 0,Last:=true }:TUop)=u:=by rw [←u3,←u4]
   rw [hu] at u2
   cases W.ne r.1.Op (W.of .i64 39) with
   | true=>
    simp only [if_true,u1,u2,bind_some']
    exact ⟨_,rfl,rfl,Nat.le_succ _⟩
   | false=>
    obtain ⟨a,a1,a2,a3,a4⟩:=part_eq s (TInst.mk (W.of .i64 38) r.1.Rd r.1.Ra (W.of .i64 0) (W.of .i64 0)) (k:=38) rfl (by decide) (by decide) (W.of .i64 0) true
    obtain ⟨a',a1',a2',_,_⟩:=part_eq s (TInst.mk (W.of .i64 38) r.1.Rd r.1.Ra (W.of .i64 0) (W.of .i64 0)) (k:=38) rfl (by decide) (by decide) (W.of .i64 0) false
    obtain rfl:a=a':=by rw [a1] at a1';exact Option.some.inj a1'
    obtain ⟨b,b1,b2,b3,b4⟩:=part_eq s (TInst.mk (W.of .i64 25) r.1.Ra r.1.Ra (W.of .i64 0) r.1.Imm) (k:=25) rfl (by decide) (by decide) (W.of .i64 1) true
    have ha:({ a with Part:=W.of .i64 0,Last:=true }:TUop)=a:=by rw [←a3,←a4]
    have ha':({ a with Part:=W.of .i64 0,Last:=false }:TUop)={ a with Last:=false }:=by rw [←a3]
    have hb:({ b with Part:=W.of .i64 1,Last:=true }:TUop)={ b with Part:=W.of .i64 1 }:=by rw [←b4]
    rw [ha] at a2
    rw [ha'] at a2'
    rw [hb] at b2
    simp only [Bool.false_eq_true,if_false,a1,a2,a2',b1,b2,bind_some']
    cases W.eq r.1.Ra (W.of .i64 0) with
    | true=>exact ⟨_,rfl,rfl,Nat.le_succ _⟩
    | false=>
     cases W.eq r.1.Ra r.1.Rd with
     | true=>exact ⟨_,rfl,rfl,Nat.le_succ _⟩
     | false=>exact ⟨_,rfl,rfl,Nat.le_refl _⟩
structure Bnd (c d:TCore) (k:Nat):Prop where
 rob:d.Rob.l.length≤c.Rob.l.length+k
 iq:d.Iq.l.length≤c.Iq.l.length+k
 lq:d.Lq.l.length≤c.Lq.l.length+k
 sq:d.Sq.l.length≤c.Sq.l.length+k
 conf:d.Conf=c.Conf
structure Mod (c:TCore):Prop where
 rob:c.Rob.l.length≤900
 iq:c.Iq.l.length≤900
 lq:c.Lq.l.length≤900
 sq:c.Sq.l.length≤900
theorem inner (c t4 t4':TCore) (hc:Mod c) (notes:Sl 32 TNote) (hn:notes.l.length≤900) (N i n:W .i64) (l:Sl 168 TUop) (hl:l.l.length≤2):
  ∃ d ns,L_place_Stage_34 (c,t4,notes,N,i,l,Sl.len l,wi 0,())=some (d,t4,ns,N,i,())∧L_ref45_Stage_32 (c,t4',notes,n,l,wi 0,())=some (d,t4',ns,n,())∧Bnd c d 2∧ns.l.length≤notes.l.length+2:=by
 have key:∃ o o',L_place_Stage_34 (c,t4,notes,N,i,l,Sl.len l,wi 0,())=some o∧L_ref45_Stage_32 (c,t4',notes,n,l,wi 0,())=some o'∧∃ d ns,o=(d,t4,ns,N,i,())∧o'=(d,t4',ns,n,())∧Bnd c d 2∧ns.l.length≤notes.l.length+2:=by
  unfold L_place_Stage_34 L_ref45_Stage_32
  refine iter_both (fun j a b=>∃ d ns,a=(d,t4,ns,N,i,l,Sl.len l,wi j,())∧b=(d,t4',ns,n,l,wi j,())∧Bnd c d j∧ns.l.length≤notes.l.length+j) l.l.length _ ?_ ?_ ⟨c,notes,rfl,rfl,⟨Nat.le_refl _,Nat.le_refl _,Nat.le_refl _,Nat.le_refl _,rfl⟩,Nat.le_refl _⟩ (by show _ < 281474976710656;omega)
  ·rintro j a b hj ⟨d,ns,rfl,rfl,hb,hns⟩
   have h1:=hb.rob
   have h2:=hb.iq
   have h3:=hb.lq
   have h4:=hb.sq
   have m1:=hc.rob
   have m2:=hc.iq
   have m3:=hc.lq
   have m4:=hc.sq
   obtain ⟨r,r1,r2,r3⟩:=place_put_eq d (nth l.l j) (by omega) (by omega) (by omega) (by omega)
   obtain ⟨z,z1,z2⟩:=app_lit (s:=ns) (x:=r.2) (hb:=rfl) (by unfold room;omega) (by unfold room;omega)
   simp only [B_place_Stage_34,B_ref45_Stage_32,ev_ite,ev_opt,ev_ret,lt_len l hj,if_true,Sl.get_wi l hj,bind_some',r1,r2,z1,wi_next l hj]
   have g1:=r3.rob
   have g2:=r3.iq
   have g3:=r3.lq
   have g4:=r3.sq
   refine .inl ⟨_,_,rfl,rfl,r.1,z,rfl,rfl,⟨by omega,by omega,by omega,by omega,r3.conf.trans hb.conf⟩,?_⟩
   rw [z2,List.length_append]
   show _+1≤_
   omega
  ·rintro a b ⟨d,ns,rfl,rfl,hb,hns⟩
   simp only [B_place_Stage_34,B_ref45_Stage_32,ev_ite,ev_ret,lt_end l,Bool.false_eq_true,if_false]
   have h1:=hb.rob
   have h2:=hb.iq
   have h3:=hb.lq
   have h4:=hb.sq
   exact ⟨_,_,rfl,rfl,d,ns,rfl,rfl,⟨by omega,by omega,by omega,by omega,hb.conf⟩,by omega⟩
 obtain ⟨o,o',k1,k2,d,ns,rfl,rfl,hb,hns⟩:=key
 exact ⟨d,ns,k1,k2,hb,hns⟩
theorem stall_eq (x:W .u32):W.eq (W.rem (W.quo x (W.of .u32 2)) (W.of .u32 2)) (W.of .u32 1)=W.ne (W.and x (W.of .u32 2)) (W.of .u32 0):=by
 have v32:∀ {a b:W .u32},a=b ↔ a.v=b.v:=fun {a b}=>⟨fun h=>by rw [h],fun h=>W.ext (by have:=a.r_u32;have:=b.r_u32;unfold W.v at h;omega)⟩
 have e1:(W.rem (W.quo x (W.of .u32 2)) (W.of .u32 2)).v=x.v / 2 % 2:=by
  rw [W.rem_v,W.quo_v];rfl
 have e2:(W.and x (W.of .u32 2)).v=x.v &&& 2:=by
  rw [W.and_v];rfl
 have e3:x.v &&& 2=x.v / 2 % 2*2:=by
  refine Nat.eq_of_testBit_eq fun i=>?_
  rw [Nat.testBit_and,show x.v / 2 % 2*2=2 ^ 1*(x.v / 2 ^ 1 % 2 ^ 1) by rw [Nat.mul_comm],Nat.testBit_two_pow_mul,Nat.testBit_mod_two_pow,Nat.testBit_div_two_pow,show (2:Nat).testBit i=(2 ^ 1).testBit i from rfl,Nat.testBit_two_pow]
  by_cases h:i=1
  ·subst h;simp
  ·by_cases h0:i=0
   ·subst h0;simp
   ·have h1:¬ 1=i:=by omega
    have h2:¬ i - 1 < 1:=by omega
    simp [h1,h2]
 have:=Nat.mod_lt (x.v / 2) (show 0 < 2 by decide)
 rw [W.ne_eq,W.eq_dec,W.eq_dec]
 by_cases h:x.v / 2 % 2=1
 ·rw [decide_eq_true (v32.2 (by rw [e1,h];rfl)),decide_eq_false (fun hh=>by have:=v32.1 hh;rw [e2,e3,h] at this;cases this)];rfl
 ·rw [decide_eq_false (fun hh=>by have:=v32.1 hh;rw [e1] at this;exact h this),decide_eq_true (v32.2 (by rw [e2,e3,show x.v / 2 % 2=0 by omega];rfl))];rfl
theorem stage_eq (c:TCore) (t:TTick) (hc:LightC c):∃ d ns ns',F_place_Stage c t=some (d,ns)∧F_ref45_Stage c t=some (d,ns')∧ns.l=ns'.l:=by
 have hN:W.min (W.max c.Conf.Wide (W.of .i64 0)) (W.of .i64 4)=wi (min c.Conf.Wide.n.toNat 4):=by
  refine W.ext ?_
  rw [W.min_n,W.max_n,show (W.of .i64 0).n=0 from rfl,show (W.of .i64 4).n=4 from rfl,wi_n (sm (by omega))]
  split<;>split<;>omega
 have main:∀ t4 t4':TCore,∃ o o',L_place_Stage_13 (c,t4,Sl.nil,wi (min c.Conf.Wide.n.toNat 4),wi 0,())=some o∧L_ref45_Stage_13 (c,t4',Sl.nil,wi 0,())=some o'∧∃ d ns,o=(d,t4,ns,())∧(o'=.inl (d,d,(),ns,())∨o'=.inr (d,t4',(),ns,())):=fun t4 t4'=>by
  unfold L_place_Stage_13 L_ref45_Stage_13
  refine iter_both (fun i a b=>∃ d ns,a=(d,t4,ns,wi (min c.Conf.Wide.n.toNat 4),wi i,())∧b=(d,t4',ns,wi i,())∧Bnd c d (2*i)∧ns.l.length≤2*i) (min c.Conf.Wide.n.toNat 4) _ ?_ ?_ ⟨c,Sl.nil,rfl,rfl,⟨Nat.le_refl _,Nat.le_refl _,Nat.le_refl _,Nat.le_refl _,rfl⟩,Nat.le_refl _⟩ (by show _ < 281474976710656;omega)
  ·rintro i a b hi ⟨d,ns,rfl,rfl,hb,hns⟩
   have hlt:W.lt (wi i) (wi (min c.Conf.Wide.n.toNat 4))=true:=(lt_small (by omega) (by omega)).trans (by simpa using hi)
   have hw:W.lt (wi i) d.Conf.Wide=true:=by rw [hb.conf,W.lt_n,wi_n (sm (by omega))];omega
   have h4:W.lt (wi i) (W.of .i64 4)=true:=(lt_small (m:=4) (by omega) (by omega)).trans (by simp;omega)
   have hq:W.gt (Sl.len d.Queue) (W.of .i64 0)=!W.eq (Sl.len d.Queue) (W.of .i64 0):=by
    have e1:W.gt (Sl.len d.Queue) (W.of .i64 0)=decide (0 < d.Queue.l.length):=iff_bool (by rw [W.gt_n,len_n',show (W.of .i64 0).n=0 from rfl,decide_eq_true_eq];omega)
    have e2:W.eq (Sl.len d.Queue) (W.of .i64 0)=decide (d.Queue.l.length=0):=iff_bool (by rw [W.eq_n,len_n',show (W.of .i64 0).n=0 from rfl,decide_eq_true_eq];omega)
    rw [e1,e2]
    by_cases h:d.Queue.l.length=0
    ·simp [h]
    ·simp [h];omega
   simp only [B_place_Stage_13,B_ref45_Stage_13,ev_ite,ev_opt,ev_ret,hlt,hw,h4,hq,if_true]
   cases hz:W.eq (Sl.len d.Queue) (W.of .i64 0) with
   | true=>
    simp only [Bool.not_true,Bool.false_eq_true,if_false,if_true]
    exact .inr ⟨_,_,rfl,rfl,d,ns,rfl,.inr rfl⟩
   | false=>
    have hpos:0 < d.Queue.l.length:=by
     have e2:W.eq (Sl.len d.Queue) (W.of .i64 0)=decide (d.Queue.l.length=0):=iff_bool (by rw [W.eq_n,len_n',show (W.of .i64 0).n=0 from rfl,decide_eq_true_eq];omega)
     rw [e2,decide_eq_false_iff_not] at hz;omega
    have hg:Sl.get? d.Queue (W.of .i64 0)=some (nth d.Queue.l 0):=Sl.get_wi d.Queue (i:=0) hpos
    obtain ⟨q,hq'⟩:∃ q,Sl.sub? d.Queue 1 (List.length d.Queue.l)=some q:=by
     unfold Sl.sub?
     rw [dif_pos ⟨by omega,Nat.le_refl _⟩]
     exact ⟨_,rfl⟩
    obtain ⟨l,l1,l2,l3⟩:=uops_eq (nth d.Queue.l 0)
    obtain ⟨f,f1,f2⟩:=fits_eq d l (by omega)
    simp only [Bool.not_false,Bool.false_eq_true,if_false,if_true,hg,bind_some',l1,l2,f1,f2,hq']
    cases f with
    | false=>
     simp only [Bool.not_false,if_true]
     exact .inr ⟨_,_,rfl,rfl,d,ns,rfl,.inl rfl⟩
    | true=>
     have b1:=hb.rob
     have b2:=hb.iq
     have b3:=hb.lq
     have b4:=hb.sq
     have m1:=hc.rob
     have m2:=hc.iq
     have m3:=hc.lq
     have m4:=hc.sq
     obtain ⟨d',ns',i1,i2,i3,i4⟩:=inner { d with Queue:=q } t4 t4' ⟨by show d.Rob.l.length≤900;omega,by show d.Iq.l.length≤900;omega,by show d.Lq.l.length≤900;omega,by show d.Sq.l.length≤900;omega⟩ ns (by omega) (wi (min c.Conf.Wide.n.toNat 4)) (wi i) (wi i) l l3
     rw [show L_place_Stage_34 ({ d with Queue:=q },t4,ns,wi (min c.Conf.Wide.n.toNat 4),wi i,l,Sl.len l,W.of .i64 0,())=_ from i1,show L_ref45_Stage_32 ({ d with Queue:=q },t4',ns,wi i,l,W.of .i64 0,())=_ from i2]
     simp only [Bool.not_true,Bool.false_eq_true,if_false,bind_some',add_small (show i < 1000 by omega)]
     have j1:d'.Rob.l.length≤d.Rob.l.length+2:=i3.rob
     have j2:d'.Iq.l.length≤d.Iq.l.length+2:=i3.iq
     have j3:d'.Lq.l.length≤d.Lq.l.length+2:=i3.lq
     have j4:d'.Sq.l.length≤d.Sq.l.length+2:=i3.sq
     exact .inl ⟨_,_,rfl,rfl,d',ns',rfl,rfl,⟨by omega,by omega,by omega,by omega,i3.conf.trans hb.conf⟩,by omega⟩
  ·rintro a b ⟨d,ns,rfl,rfl,hb,hns⟩
   have hlt:W.lt (wi (min c.Conf.Wide.n.toNat 4)) (wi (min c.Conf.Wide.n.toNat 4))=false:=(lt_small (by omega) (by omega)).trans (by simp)
   have hw:W.lt (wi (min c.Conf.Wide.n.toNat 4)) d.Conf.Wide=decide (((min c.Conf.Wide.n.toNat 4:Nat):Int) < c.Conf.Wide.n):=by rw [hb.conf];exact lt_wi_of (by omega)
   have h4:W.lt (wi (min c.Conf.Wide.n.toNat 4)) (W.of .i64 4)=decide (min c.Conf.Wide.n.toNat 4 < 4):=lt_small (m:=4) (by omega) (by omega)
   simp only [B_place_Stage_13,B_ref45_Stage_13,ev_ite,ev_opt,ev_ret,hlt,hw,h4,Bool.false_eq_true,if_false,decide_eq_true_eq]
   by_cases c1:((min c.Conf.Wide.n.toNat 4:Nat):Int) < c.Conf.Wide.n
   ·rw [if_pos c1,if_neg (show ¬ min c.Conf.Wide.n.toNat 4 < 4 by omega)]
    exact ⟨_,_,rfl,rfl,d,ns,rfl,.inr rfl⟩
   ·rw [if_neg c1]
    exact ⟨_,_,rfl,rfl,d,ns,rfl,.inr rfl⟩
 unfold F_place_Stage T_place_Stage F_ref45_Stage T_ref45_Stage
 simp only [ev_opt,ev_ite,ev_ret,stall_eq,hN]
 cases W.ne (W.and t.Stall (W.of .u32 2)) (W.of .u32 0) with
 | true=>exact ⟨_,_,_,rfl,rfl,rfl⟩
 | false=>
  simp only [Bool.false_eq_true,if_false]
  obtain ⟨o,o',k1,k2,d,ns,rfl,h⟩:=main (TCore.mk (TConf.mk (W.of .i64 0) (W.of .i64 0) (W.of .i64 0) (W.of .i64 0) (W.of .i64 0) (W.of .i64 0) (W.of .i64 0) (W.of .i64 0) (W.of .i64 0) (W.of .i64 0) (W.of .i64 0) (W.of .i64 0) (W.of .i64 0) (W.of .i64 0) (W.of .i64 0) (W.of .i64 0) (W.of .i64 0) (W.of .i64 0) (W.of .i64 0) (W.of .i64 0) (W.of .i64 0) false) (TArch.mk (W.of .u32 0) (Arr.rep 16 (W.of .u32 0)) (Arr.rep 12 (W.of .u32 0)) false) Sl.nil Sl.nil (W.of .u32 0) false (TPred.mk (W.of .u32 0) Sl.nil Sl.nil (W.of .i64 0) Sl.nil (W.of .i64 0)) Sl.nil (W.of .i64 0) Sl.nil (TNames.mk (Arr.rep 16 (W.of .i64 0)) (Arr.rep 16 (W.of .i64 0)) (TFree.mk Sl.nil (W.of .i64 0) (W.of .i64 0)) (W.of .u64 0)) (TPhys.mk Sl.nil Sl.nil) Sl.nil Sl.nil Sl.nil Sl.nil Sl.nil Sl.nil Sl.nil (W.of .i64 0) (W.of .i64 0)) (TCore.mk (TConf.mk (W.of .i64 0) (W.of .i64 0) (W.of .i64 0) (W.of .i64 0) (W.of .i64 0) (W.of .i64 0) (W.of .i64 0) (W.of .i64 0) (W.of .i64 0) (W.of .i64 0) (W.of .i64 0) (W.of .i64 0) (W.of .i64 0) (W.of .i64 0) (W.of .i64 0) (W.of .i64 0) (W.of .i64 0) (W.of .i64 0) (W.of .i64 0) (W.of .i64 0) (W.of .i64 0) false) (TArch.mk (W.of .u32 0) (Arr.rep 16 (W.of .u32 0)) (Arr.rep 12 (W.of .u32 0)) false) Sl.nil Sl.nil (W.of .u32 0) false (TPred.mk (W.of .u32 0) Sl.nil Sl.nil (W.of .i64 0) Sl.nil (W.of .i64 0)) Sl.nil (W.of .i64 0) Sl.nil (TNames.mk (Arr.rep 16 (W.of .i64 0)) (Arr.rep 16 (W.of .i64 0)) (TFree.mk Sl.nil (W.of .i64 0) (W.of .i64 0)) (W.of .u64 0)) (TPhys.mk Sl.nil Sl.nil) Sl.nil Sl.nil Sl.nil Sl.nil Sl.nil Sl.nil Sl.nil (W.of .i64 0) (W.of .i64 0))
  rw [show L_place_Stage_13 (c,_,Sl.nil,wi (min c.Conf.Wide.n.toNat 4),W.of .i64 0,())=_ from k1,show L_ref45_Stage_13 (c,_,Sl.lit 32 [] rfl,W.of .i64 0,())=_ from k2]
  simp only [bind_some',ev_sum,ev_ret]
  rcases h with rfl | rfl
  ·exact ⟨d,ns,ns,rfl,rfl,rfl⟩
  ·exact ⟨d,ns,ns,rfl,rfl,rfl⟩
end Go.Proofs.YtkddkpmijhionaaGreatDoor
