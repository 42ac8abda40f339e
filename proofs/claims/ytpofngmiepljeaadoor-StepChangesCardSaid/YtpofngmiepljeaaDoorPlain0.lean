/- YtpofngmiepljeaaDoorPureChanges: an instruction changes what its event tells. No statement of the seat is proved here. -/
import Derived.Test.YtpofngmiepljeaaDoorRight
set_option linter.unusedSimpArgs false
set_option linter.unusedVariables false
set_option maxRecDepth 100000
set_option maxHeartbeats 1000000
namespace Go.Proofs.YtpofngmiepljeaaDoor
open Go Go.A2
structure Chg (m:TMach) (r:TMach×TEvent×Bool):Prop where
 regs:∀ i:Nat,i < 16→r.1.A.R.get i=if 0 < i∧r.2.1.Rd.n=i then r.2.1.Val else if 0 < i∧r.2.1.Rd2.n=i then r.2.1.Val2 else m.A.R.get i
 rd:r.2.1.Rd.n < 16
 rd2:r.2.1.Rd2.n < 16
 mem:(r.2.1.Size.n=0∧r.1.Mem=m.Mem)∨(chkB m.Mem r.2.1.Addr r.2.1.Size=true∧r.1.Mem.l=cpL m.Mem.l r.2.1.Addr.v (bytesL r.2.1.Data.v r.2.1.Size.v))
theorem kind_chg {m:TMach} {r:TMach×TEvent×Bool} (h:Kind m r):Chg m r:=by
 have lt16:∀ {x:W .i64},x.n=-1∨(1≤x.n∧x.n < 16)→x.n < 16:=fun h=>by omega
 cases h with
 | halted _=>
  refine ⟨fun i hi=>?_,show (W.of .i64 0).n < 16 by decide,show (W.of .i64 0).n < 16 by decide,.inl ⟨rfl,rfl⟩⟩
  have:¬ (0 < i∧(W.of .i64 0).n=(i:Int)):=fun h=>by rw [show (W.of .i64 0).n=0 from rfl] at h;omega
  show m.A.R.get i=if 0 < i∧(W.of .i64 0).n=(i:Int) then _ else if 0 < i∧(W.of .i64 0).n=(i:Int) then _ else _
  rw [if_neg this,if_neg this]
 | trap _ ht=>
  refine ⟨fun i hi=>?_,show (W.of .i64 (-1)).n < 16 by decide,show (W.of .i64 (-1)).n < 16 by decide,.inl ⟨rfl,rfl⟩⟩
  have:¬ (0 < i∧(W.of .i64 (-1)).n=(i:Int)):=fun h=>by rw [show (W.of .i64 (-1)).n=-1 from rfl] at h;omega
  refine (congrArg (fun R=>Arr.get R i) (take_facts ht).1).trans ?_
  show m.A.R.get i=if 0 < i∧(W.of .i64 (-1)).n=(i:Int) then _ else if 0 < i∧(W.of .i64 (-1)).n=(i:Int) then _ else _
  rw [if_neg this,if_neg this]
 | done _ he hc=>
  exact ⟨fun i hi=>(congrArg (fun R=>Arr.get R i) (count_facts hc).1).trans (he.regs i hi),lt16 he.rd,lt16 he.rd2,he.mem⟩
 | single _ he hc ht=>
  exact ⟨fun i hi=>((congrArg (fun R=>Arr.get R i) (take_facts ht).1).trans (congrArg (fun R=>Arr.get R i) (count_facts hc).1)).trans (he.regs i hi),lt16 he.rd,lt16 he.rd2,he.mem⟩
theorem chg_len {m:TMach} {r:TMach×TEvent×Bool} (h:Chg m r):r.1.Mem.l.length=m.Mem.l.length:=by
 rcases h.mem with ⟨_,h⟩ | ⟨_,h⟩
 ·rw [h]
 ·rw [h,cpL_length]
theorem chg_size {m:TMach} {r:TMach×TEvent×Bool} (h:Chg m r):0≤r.2.1.Size.n∧r.2.1.Size.n≤4:=by
 rcases h.mem with ⟨h,_⟩ | ⟨h,_⟩
 ·omega
 ·obtain ⟨h1,_,h3⟩:=chk_of h;omega
theorem byte_of (D:W .u32) (x:W .i64) {j:Nat} (hj:j < 4) (hx:x.n=j):W.conv .u8 (W.shr D (W.conv .u64 (W.mul (W.of .i64 8) x)))=W.of .u8 ((D.v / 256 ^ j % 256:Nat):Int):=by
 refine u8_ext ?_
 have h1:(W.conv .u64 (W.mul (W.of .i64 8) x)).v=8*j:=by
  unfold W.v
  rw [W.conv_n,W.mul_n,show (W.of .i64 8).n=8 from rfl,hx,wrap_i64,wrap_u64];omega
 rw [W.uconv rfl rfl,W.shr_v,h1,pow256,u8_of,show (2:Nat) ^ IntKind.u8.bits=256 from rfl,Nat.mod_mod]
theorem chg_mem {m:TMach} {r:TMach×TEvent×Bool} (h:Chg m r) {i:Nat} (hi:i < m.Mem.l.length) (x:W .i64) (hx:x.n=(i:Int) - r.2.1.Addr.v):
  (0≤x.n∧x.n < r.2.1.Size.n→nth r.1.Mem.l i=W.conv .u8 (W.shr r.2.1.Data (W.conv .u64 (W.mul (W.of .i64 8) x))))∧(¬ (0≤x.n∧x.n < r.2.1.Size.n)→nth r.1.Mem.l i=nth m.Mem.l i):=by
 have hl:=chg_len h
 rcases h.mem with ⟨h0,h1⟩ | ⟨h0,h1⟩
 ·exact ⟨fun hh=>by omega,fun _=>by rw [h1]⟩
 ·obtain ⟨c1,c2,c3⟩:=chk_of h0
  have hb:=bytesL_len r.2.1.Data.v r.2.1.Size.v
  have hg:=cpL_get (l:=m.Mem.l) (bs:=bytesL r.2.1.Data.v r.2.1.Size.v) (a:=r.2.1.Addr.v) (by rw [hb];exact c2) i
  rw [←h1,nth_get (by omega),hb] at hg
  constructor
  ·intro hh
   rw [if_pos (by omega)] at hg
   rw [byte_of _ x (j:=i - r.2.1.Addr.v) (by omega) (by omega)]
   unfold bytesL at hg
   rw [List.getElem?_map,List.getElem?_range (by omega)] at hg
   exact Option.some.inj hg
  ·intro hh
   rw [if_neg (by omega),nth_get hi] at hg
   exact Option.some.inj hg
theorem stepChanges (m:TMach):F_law15_StepChanges m=some true:=by
 obtain ⟨b,hL,hl⟩:=light15 m
 unfold F_law15_StepChanges T_law15_StepChanges
 rw [ev_opt,hL,bind_some',ev_ite]
 cases b with
 | false=>simp only [Bool.not_false,if_true,ev_opt,awake15,bind_some',ev_ret]
 | true=>
  have hM:=hl.1 rfl
  have ho:=hM.out
  have hm:=hM.mem
  obtain ⟨r,r1,_,r3⟩:=step_eq m (by omega)
  have hc:=kind_chg r3
  have hlen:=chg_len hc
  have hsz:=chg_size hc
  obtain ⟨n,e,q⟩:=r
  have k13:L_law15_StepChanges_13 (m,n,e,wi 0,())=some (.inr (m,(),n,e,())):=by
   have key:∃ o,L_law15_StepChanges_13 (m,n,e,wi 0,())=some o∧o=.inr (m,(),n,e,()):=by
    unfold L_law15_StepChanges_13
    refine iter_acc (fun i s=>s=(m,n,e,wi i,())) 16 _ ?_ ?_ rfl (by decide)
    ·rintro i s hi rfl
     have h:=hc.regs i hi
     dsimp only at h
     have hlt:W.lt (wi i) (W.of .i64 16)=true:=(lt_small (m:=16) (by omega) (by omega)).trans (by simpa using hi)
     have hgt:W.gt (wi i) (W.of .i64 0)=decide (0 < i):=(W.gt_lt _ _).trans (lt_small (n:=0) (by omega) (by omega))
     have heq:∀ y:W .i64,W.eq (wi i) y=decide (y.n=i):=fun y=>iff_bool (by rw [W.eq_n,wi_n (sm (by omega)),decide_eq_true_eq];omega)
     simp only [B_law15_StepChanges_13,ev_ite,ev_opt,ev_ret,hlt,if_true,wi_idx (sm (show i≤1000 by omega)),hi,bind_some',hgt,heq,add_small (show i < 1000 by omega),decide_eq_true_eq]
     by_cases p:0 < i
     ·by_cases q1:e.Rd.n=i
      ·by_cases q2:e.Rd2.n=i <;>
       ·simp only [p,q1,q2,and_self,and_true,and_false,true_and,if_true,if_false] at h ⊢
        simp only [h,W.ne_self,Bool.false_eq_true,if_false]
        exact ⟨_,rfl,rfl⟩
      ·by_cases q2:e.Rd2.n=i <;>
       ·simp only [p,q1,q2,and_self,and_true,and_false,true_and,if_true,if_false] at h ⊢
        simp only [h,W.ne_self,Bool.false_eq_true,if_false]
        exact ⟨_,rfl,rfl⟩
     ·simp only [p,false_and,if_false] at h ⊢
      simp only [h,W.ne_self,Bool.false_eq_true,if_false]
      exact ⟨_,rfl,rfl⟩
    ·rintro s rfl
     exact ⟨_,rfl,rfl⟩
   obtain ⟨o,k1,rfl⟩:=key
   exact k1
  have k46:L_law15_StepChanges_46 (m,n,e,wi 0,())=some (.inr ((),())):=by
   have key:∃ o,L_law15_StepChanges_46 (m,n,e,wi 0,())=some o∧o=.inr ((),()):=by
    unfold L_law15_StepChanges_46
    refine iter_acc (fun i s=>s=(m,n,e,wi i,())) m.Mem.l.length _ ?_ ?_ rfl (by show _ < 1048576;omega)
    ·rintro i s hi rfl
     dsimp only at hlen
     have hx:(W.sub (wi i) (W.conv .i64 e.Addr)).n=(i:Int) - e.Addr.v:=by
      have:=e.Addr.v_lt
      rw [W.sub_n,W.conv_i64_v,wi_n (by unfold room;omega),wrap_i64];omega
     have hh:=chg_mem hc hi _ hx
     dsimp only at hh
     simp only [B_law15_StepChanges_46,ev_ite,ev_opt,ev_ret,lt_len m.Mem hi,lt_len n.Mem (hlen.symm ▸ hi),if_true,Sl.get_wi m.Mem hi,Sl.get_wi n.Mem (hlen.symm ▸ hi),bind_some',wi_next m.Mem hi]
     generalize W.sub (wi i) (W.conv .i64 e.Addr)=x at *
     have g1:W.lt x (W.of .i64 0)=decide (x.n < 0):=rfl
     have g2:W.ge x (W.of .i64 0)=decide (0≤x.n):=iff_bool (by rw [W.ge_n,show (W.of .i64 0).n=0 from rfl,decide_eq_true_eq])
     have g3:W.lt x e.Size=decide (x.n < e.Size.n):=rfl
     have g4:W.ge x e.Size=decide (e.Size.n≤x.n):=iff_bool (by rw [W.ge_n,decide_eq_true_eq])
     simp only [g1,g2,g3,g4,decide_eq_true_eq]
     by_cases c1:x.n < 0
     ·have e2:=hh.2 (by omega)
      rw [if_pos c1,e2,W.ne_self,if_neg (by simp),if_neg (by omega)]
      exact ⟨_,rfl,rfl⟩
     ·rw [if_neg c1]
      by_cases c2:e.Size.n≤x.n
      ·have e2:=hh.2 (by omega)
       rw [if_pos c2,e2,W.ne_self,if_neg (by simp),if_pos (by omega),if_neg (by omega)]
       exact ⟨_,rfl,rfl⟩
      ·have e2:=hh.1 (by omega)
       rw [if_neg c2,if_pos (by omega),if_pos (by omega),e2,W.ne_self,if_neg (by simp)]
       exact ⟨_,rfl,rfl⟩
    ·rintro s rfl
     simp only [B_law15_StepChanges_46,ev_ite,ev_ret,lt_end m.Mem,Bool.false_eq_true,if_false]
     exact ⟨_,rfl,rfl⟩
   obtain ⟨o,k1,rfl⟩:=key
   exact k1
  have f1:W.ne (Sl.len n.Mem) (Sl.len m.Mem)=false:=by rw [len_ne,show n.Mem.l.length=m.Mem.l.length from hlen];simp
  have f2:W.lt e.Size (W.of .i64 0)=false:=by
   have:¬ W.lt e.Size (W.of .i64 0)=true:=by rw [W.lt_n,show (W.of .i64 0).n=0 from rfl];have:=hsz.1;dsimp only at this;omega
   simpa using this
  have f3:W.gt e.Size (W.of .i64 4)=false:=by
   have:¬ W.gt e.Size (W.of .i64 4)=true:=by rw [W.gt_n,show (W.of .i64 4).n=4 from rfl];have:=hsz.2;dsimp only at this;omega
   simpa using this
  have f4:W.ge e.Rd (W.of .i64 16)=false:=by
   have:¬ W.ge e.Rd (W.of .i64 16)=true:=by rw [W.ge_n,show (W.of .i64 16).n=16 from rfl];have:=hc.rd;dsimp only at this;omega
   simpa using this
  have f5:W.ge e.Rd2 (W.of .i64 16)=false:=by
   have:¬ W.ge e.Rd2 (W.of .i64 16)=true:=by rw [W.ge_n,show (W.of .i64 16).n=16 from rfl];have:=hc.rd2;dsimp only at this;omega
   simpa using this
  simp only [Bool.not_true,Bool.false_eq_true,if_false,ev_opt,ev_ite,ev_sum,ev_ret,r1,bind_some',show L_law15_StepChanges_13 (m,n,e,W.of .i64 0,())=_ from k13,show L_law15_StepChanges_46 (m,n,e,W.of .i64 0,())=_ from k46,Sum.elim_inr,f1,f2,f3,f4,f5,awake15]
end Go.Proofs.YtpofngmiepljeaaDoor
