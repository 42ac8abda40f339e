/- YtijckobfnmkjdaaGreatDoorPureExecPlain: a part that neither loads nor stores, nor stands alone, does what the plain machine does. No statement of the seat is proved here. -/
import Derived.Test.YtijckobfnmkjdaaGreatDoorBoot
set_option linter.unusedSimpArgs false
set_option linter.unusedVariables false
set_option maxRecDepth 100000
namespace Go.Proofs.YtijckobfnmkjdaaGreatDoor
open Go Go.A2
theorem awake32:F_law32_awake=some true:=by kernel_rfl
theorem pc_of (a:W .u8):∃ k,k < 16∧W.mul (W.conv .u32 (W.rem a (W.of .u8 16))) (W.of .u32 4)=pcW k:=by
 have hv:=a.r_u8
 refine ⟨a.v % 16,Nat.mod_lt _ (by decide),W.ext ?_⟩
 have h1:a.n.tmod 16=((a.v % 16:Nat):Int):=by
  rw [show a.n=((a.v:Nat):Int) from by unfold W.v;omega,show ((16:Int))=((16:Nat):Int) from rfl,←Int.ofNat_tmod]
 have:=Nat.mod_lt a.v (show 0 < 16 by decide)
 rw [W.mul_n,W.conv_n,W.rem_n,show (W.of .u8 16).n=16 from rfl,h1,show (W.of .u32 4).n=4 from rfl,W.of_n,wrap_u8,wrap_u32,wrap_u32,wrap_u32];omega
def srcV (R:Arr 16 (W .u32)) (s:W .i64):W .u32:=if 0 < s.n∧s.n < 16 then R.get s.n.toNat else W.of .u32 0
theorem srcV_reg (R:Arr 16 (W .u32)) (h0:R.get 0=W.of .u32 0) {r:Nat} (hr:r < 16):srcV R (regW r)=R.get r:=by
 unfold srcV regW
 by_cases c:r=0
 ·subst c;rw [if_pos rfl,if_neg (by decide),h0]
 ·rw [if_neg c,wi_n (sm (by omega)),if_pos (by omega)];rfl
theorem ins (R:Arr 16 (W .u32)) (m:TMach) (u:TUop) (i0:Arr 3 (W .u32)) (hz:∀ j,j < 3→i0.get j=W.of .u32 0):
  ∃ i3:Arr 3 (W .u32),L_law32_ExecPlain_33 (R,m,(Sl.lit 168 [u] rfl:Sl 168 TUop),i0,wi 0,())=some (m,Sl.lit 168 [u] rfl,i3,())∧∀ j,j < 3→i3.get j=srcV R (u.Src.get j):=by
 have key:∃ o,L_law32_ExecPlain_33 (R,m,(Sl.lit 168 [u] rfl:Sl 168 TUop),i0,wi 0,())=some o∧∃ i3:Arr 3 (W .u32),(∀ j,j < 3→i3.get j=srcV R (u.Src.get j))∧o=(m,Sl.lit 168 [u] rfl,i3,()):=by
  unfold L_law32_ExecPlain_33
  refine iter_acc (fun j s=>∃ i3:Arr 3 (W .u32),(∀ q,q < j→i3.get q=srcV R (u.Src.get q))∧(∀ q,j≤q→q < 3→i3.get q=W.of .u32 0)∧s=(R,m,Sl.lit 168 [u] rfl,i3,wi j,())) 3 _ ?_ ?_ ⟨i0,fun q h=>(by omega),fun q _ h=>hz q h,rfl⟩ (by decide)
  ·rintro j s hj ⟨i3,p1,p2,rfl⟩
   have hlt:W.lt (wi j) (W.of .i64 3)=true:=(lt_small (m:=3) (by omega) (by omega)).trans (by simpa using hj)
   have hg:Sl.get? (Sl.lit 168 [u] rfl:Sl 168 TUop) (W.of .i64 0)=some u:=rfl
   have g1:∀ x:W .i64,W.gt x (W.of .i64 0)=decide (0 < x.n):=fun x=>iff_bool (by rw [W.gt_n,show (W.of .i64 0).n=0 from rfl,decide_eq_true_eq])
   have g2:∀ x:W .i64,W.lt x (W.of .i64 16)=decide (x.n < 16):=fun x=>rfl
   simp only [B_law32_ExecPlain_33,ev_ite,ev_opt,ev_ret,hlt,if_true,hg,bind_some',wi_idx (sm (show j≤1000 by omega)),hj,g1,g2,decide_eq_true_eq,add_small (show j < 1000 by omega)]
   by_cases c1:0 < (u.Src.get j).n
   ·by_cases c2:(u.Src.get j).n < 16
    ·have e:idx? 16 (u.Src.get j)=some (u.Src.get j).n.toNat:=by
      unfold idx?;rw [if_pos ⟨by omega,by omega⟩]
     simp only [c1,c2,if_true,e,bind_some']
     refine ⟨_,rfl,_,fun q hq=>?_,fun q h1 h2=>?_,rfl⟩
     ·rw [Arr.get_set hj]
      by_cases eq:j=q
      ·subst eq;rw [if_pos rfl];unfold srcV;rw [if_pos ⟨c1,c2⟩]
      ·rw [if_neg eq];exact p1 q (by omega)
     ·rw [Arr.get_set hj,if_neg (by omega)];exact p2 q (by omega) h2
    ·simp only [c1,c2,if_true,if_false]
     refine ⟨_,rfl,i3,fun q hq=>?_,fun q h1 h2=>p2 q (by omega) h2,rfl⟩
     by_cases eq:j=q
     ·subst eq;rw [p2 j (Nat.le_refl _) hj];unfold srcV;rw [if_neg (fun h=>c2 h.2)]
     ·exact p1 q (by omega)
   ·simp only [c1,if_false]
    refine ⟨_,rfl,i3,fun q hq=>?_,fun q h1 h2=>p2 q (by omega) h2,rfl⟩
    by_cases eq:j=q
    ·subst eq;rw [p2 j (Nat.le_refl _) hj];unfold srcV;rw [if_neg (fun h=>c1 h.1)]
    ·exact p1 q (by omega)
  ·rintro s ⟨i3,p1,p2,rfl⟩
   exact ⟨_,rfl,i3,p1,rfl⟩
 obtain ⟨o,k1,i3,h1,rfl⟩:=key
 exact ⟨i3,k1,h1⟩
theorem unit_any (op:W .i64) (h:¬ (1≤op.n∧op.n≤63)):F_crack_Unit op=some (W.of .i64 0):=by
 have g1:W.lt op (W.of .i64 1)=decide (op.n < 1):=rfl
 have g2:W.gt op (W.of .i64 63)=decide (63 < op.n):=iff_bool (by rw [W.gt_n,show (W.of .i64 63).n=63 from rfl,decide_eq_true_eq])
 unfold F_crack_Unit T_crack_Unit
 rw [ev_ite,g1,ev_ite,g2]
 by_cases c1:op.n < 1
 ·rw [if_pos (by simpa using c1)];rfl
 ·rw [if_neg (by simpa using c1),if_pos (by simp;omega)];rfl
theorem execPlain (i:TInst) (regs:Arr 16 (W .u32)) (at_:W .u8):F_law32_ExecPlain i regs at_=some true:=by
 obtain ⟨r,e1,e2⟩:=enc_any i
 have hu:∃ u,F_crack_Unit i.Op=some u:=by
  by_cases h:1≤i.Op.n∧i.Op.n≤63
  ·obtain ⟨k,hk,k1,k2⟩:=wi_of (a:=i.Op) (lo:=1) (hi:=63) (by omega) (by omega)
   rw [hk]
   cases hp:isPlain k with
   | true=>exact ⟨_,(plain_ok (by omega) (by omega) hp).unit⟩
   | false=>
    obtain ⟨u,h,_⟩:=unit_other (k:=k) (by omega) (by omega) hp
    exact ⟨u,h⟩
  ·exact ⟨_,unit_any _ h⟩
 obtain ⟨u,hu⟩:=hu
 have hlaw:F_law32_ExecPlain i regs at_=(T_law32_ExecPlain i regs at_).eval:=rfl
 unfold T_law32_ExecPlain at hlaw
 rw [hlaw]
 simp only [ev_opt,ev_ite,ev_ret,e1,hu,awake32,bind_some']
 cases hne:W.ne r.2 (W.of .i64 0) with
 | true=>rfl
 | false=>
  obtain ⟨k,rd,ra,rb,n,rfl,hr,hz,hm,hw⟩:=e2 hne
  obtain ⟨w,e⟩:=r
  obtain rfl:e=W.of .i64 0:=hz
  cases hp:isPlain k with
  | false=>
   obtain ⟨u',h1,h2,h3,h4,h5⟩:=unit_other hr.k64 hr.k0 hp
   obtain rfl:u=u':=by rw [show (instI k rd ra rb n).Op=wi k from rfl,h1] at hu;cases hu;rfl
   simp only [h2,h3,h4,h5,if_true,Bool.false_eq_true,if_false]
  | true=>
   have hd:=dec_back hr e1 hm hw
   obtain ⟨q,hq,hpc⟩:=pc_of at_
   have hR0:(Arr.set regs 0 (W.of .u32 0)).get 0=W.of .u32 0:=Arr.get_same _ _ (by decide)
   have hnew:=new_k hq (W.conv .u8 w) (W.conv .u8 (W.shr w (W.of .u64 8))) (W.conv .u8 (W.shr w (W.of .u64 16))) (W.conv .u8 (W.shr w (W.of .u64 24)))
   have hops:=uops_p hr hp hd (pcW q)
   obtain ⟨i3,i1,i2⟩:=ins (Arr.set regs 0 (W.of .u32 0)) (machK q (bytesW w) (Arr.set regs 0 (W.of .u32 0))) (uopP k rd ra rb n (pcW q) w) (Arr.lit 3 [W.of .u32 0,W.of .u32 0,W.of .u32 0] rfl) (fun j hj=>by
    have:j=0∨j=1∨j=2:=by omega
    rcases this with rfl | rfl | rfl<;>rfl)
   obtain ⟨x,v,nx,x1,x2,x3⟩:=do_eq (machK q (bytesW w) (Arr.set regs 0 (W.of .u32 0))) w hr hp i3 ((i2 0 (by decide)).trans (srcV_reg _ hR0 hr.b2)) ((i2 1 (by decide)).trans (srcV_reg _ hR0 hr.b3)) (fun h24=>(i2 2 (by decide)).trans (by
    show srcV _ (if k=24 then regW rd else _)=_
    rw [if_pos h24];exact srcV_reg _ hR0 hr.b1))
   obtain ⟨m',e',s1,s2,s3,s4,s5⟩:=step_k hq hd x1 x3
   have hg:Sl.get? (Sl.lit 168 [uopP k rd ra rb n (pcW q) w] rfl:Sl 168 TUop) (W.of .i64 0)=some (uopP k rd ra rb n (pcW q) w):=rfl
   have hlen:W.ne (Sl.len (Sl.lit 168 [uopP k rd ra rb n (pcW q) w] rfl:Sl 168 TUop)) (W.of .i64 1)=false:=rfl
   have hgt:W.gt (regW rd) (W.of .i64 0)=decide (rd ≠ 0):=by
    refine iff_bool ?_
    rw [W.gt_n,show (W.of .i64 0).n=0 from rfl,decide_eq_true_eq]
    unfold regW
    by_cases c:rd=0
    ·rw [if_pos c,show (W.of .i64 (-1)).n=-1 from rfl];omega
    ·rw [if_neg c,wi_n (sm (by have:=hr.b1;omega))];omega
   have hbq:∀ b:Bool,beqB b b=true:=fun b=>by cases b<;>rfl
   have hword:F_law32_word w=some (Sl.lit 1 (bytesW w) rfl):=rfl
   simp only [hpc,hword,bind_some',show F_step_New _ _=_ from hnew,hops,W.ne_self,Bool.false_eq_true,if_false,hlen,show L_law32_ExecPlain_33 (_,_,_,_,W.of .i64 0,())=_ from i1,hg,show F_exec_Do _ _=_ from x2,s1,Bool.not_true,s2,s3,hgt,s4,hbq,decide_eq_true_eq]
   have fin:(if rd ≠ 0 then (if W.ge (regW rd) (W.of .i64 16)=true then some false else (idx? 16 (regW rd)).bind fun j=>if W.ne (m'.A.R.get j) v=true then some false else some true) else some true)=some true:=by
    by_cases c:rd=0
    ·rw [if_neg (by simpa using c)]
    ·have hb:=hr.b1
     have e1:W.ge (regW rd) (W.of .i64 16)=false:=by
      have:¬ W.ge (regW rd) (W.of .i64 16)=true:=by
       rw [W.ge_n,show (W.of .i64 16).n=16 from rfl]
       unfold regW
       rw [if_neg c,wi_n (sm (by omega))];omega
      simpa using this
     have e2:idx? 16 (regW rd)=some rd:=by
      unfold regW
      rw [if_neg c,wi_idx (sm (by omega)),if_pos hb]
     simp only [c,ne_eq,not_false_iff,if_true,e1,Bool.false_eq_true,if_false,e2,bind_some',s5 c,W.ne_self]
   simp only [if_true,fin,ite_self]
end Go.Proofs.YtijckobfnmkjdaaGreatDoor
