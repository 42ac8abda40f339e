/- YtedhidchlfhegaaGreatDoorCsr: control registers and traps: the program's are the document's. No statement of the seat is proved here. -/
import Derived.Test.YtedhidchlfhegaaGreatDoorPa9
import Derived.Test.YtedhidchlfhegaaGreatDoorA2F
set_option linter.unusedSimpArgs false
set_option linter.unusedVariables false
set_option maxRecDepth 100000
namespace Go.Proofs.YtedhidchlfhegaaGreatDoor
open Go Go.A2
theorem and_bits (x m:W .u32) (i:Nat):(W.and x m).v.testBit i=(x.v.testBit i&&m.v.testBit i):=by rw [W.and_v,Nat.testBit_and]
theorem or_bits (x m:W .u32) (i:Nat):(W.or x m).v.testBit i=(x.v.testBit i || m.v.testBit i):=by rw [W.or_v,Nat.testBit_or]
theorem bit_high (x:W .u32) {i:Nat} (h:32≤i):x.v.testBit i=false:=
 Nat.testBit_lt_two_pow (Nat.lt_of_lt_of_le x.v_lt (by have:2 ^ 32≤2 ^ i:=Nat.pow_le_pow_right (by omega) h;omega))
theorem not_bits (x m:W .u32) (i:Nat):(W.andNot x m).v.testBit i=(x.v.testBit i&&!m.v.testBit i):=by
 rw [W.uandNot rfl]
 have hm:=m.v_lt
 by_cases hi:i < 32
 ·have e:2 ^ IntKind.u32.bits - 1 - m.v=2 ^ 32 - (m.v+1):=by rw [show IntKind.u32.bits=32 from rfl];omega
  rw [Nat.testBit_and,e,Nat.testBit_two_pow_sub_succ (by omega)]
  simp [hi]
 ·rw [Nat.testBit_and,bit_high x (by omega)];simp
theorem bits_ext {x y:W .u32} (h:∀ i,i < 32→x.v.testBit i=y.v.testBit i):x=y:=by
 refine W.ext_v (Nat.eq_of_testBit_eq fun i=>?_)
 by_cases hi:i < 32
 ·exact h i hi
 ·rw [bit_high x (by omega),bit_high y (by omega)]
theorem ne_bit {x m:W .u32} {k:Nat} (hm:m.v=2 ^ k):W.ne (W.and x m) (W.of .u32 0)=x.v.testBit k:=by
 have hb:∀ i,(W.and x m).v.testBit i=(x.v.testBit i&&decide (k=i)):=fun i=>by rw [and_bits,hm,Nat.testBit_two_pow]
 cases hk:x.v.testBit k with
 | true=>
  refine W.ne_n.2 fun h=>?_
  have h0:(W.and x m).v=0:=by unfold W.v;rw [h];rfl
  have:=hb k
  rw [h0,hk] at this
  simp at this
 | false=>
  have h0:(W.and x m).v=0:=Nat.eq_of_testBit_eq fun i=>by
   rw [hb,Nat.zero_testBit]
   by_cases h:k=i
   ·subst h;simp [hk]
   ·simp [h]
  rw [show W.and x m=W.of .u32 0 from W.ext_v (by rw [h0];rfl)]
  exact W.ne_self _
theorem eq_bit {x m:W .u32} {k:Nat} (hm:m.v=2 ^ k):W.eq (W.and x m) (W.of .u32 0)=!x.v.testBit k:=by
 have:=ne_bit (x:=x) hm
 rw [W.ne_eq] at this
 rw [←this,Bool.not_not]
theorem odd_bit {x:W .u32}:W.eq (W.rem x (W.of .u32 2)) (W.of .u32 1)=x.v.testBit 0:=by
 refine iff_bool ?_
 rw [W.eq_n,W.n_v,W.n_v,W.rem_v,show (W.of .u32 2).v=2 from rfl,show (W.of .u32 1).v=1 from rfl,Nat.testBit_zero,decide_eq_true_eq]
 omega
def kern (a:TArch):Bool:=(a.C.get 0).v.testBit 0
theorem kernel_p (a:TArch):F_csr_Kernel a=some (kern a):=by
 unfold F_csr_Kernel T_csr_Kernel
 rw [ev_ret,ne_bit (k:=0) rfl];rfl
theorem kernel_d (a:TArch):F_ref11_Kernel a=some (kern a):=by
 unfold F_ref11_Kernel T_ref11_Kernel
 rw [ev_ret,odd_bit];rfl
def mv (s m:W .u32) (on:Bool):W .u32:=if on=true then W.or s m else W.andNot s m
theorem mv_bits (s m:W .u32) (on:Bool) (i:Nat):(mv s m on).v.testBit i=if m.v.testBit i=true then on else s.v.testBit i:=by
 unfold mv
 cases on with
 | true=>rw [if_pos rfl,or_bits];cases m.v.testBit i<;>simp
 | false=>rw [if_neg (by simp),not_bits];cases m.v.testBit i<;>simp
theorem moved_p (s f t:W .u32) {k:Nat} (hf:f.v=2 ^ k):F_trap_moved s f t=some (mv s t (s.v.testBit k)):=by
 unfold F_trap_moved T_trap_moved mv
 simp only [ev_ite,ev_ret,ne_bit hf]
 cases s.v.testBit k<;>rfl
theorem put_d (s m:W .u32) (on:Bool):F_ref14_put s m on=some (mv s m on):=by
 unfold F_ref14_put T_ref14_put mv
 simp only [ev_ite,ev_ret]
 cases on<;>rfl
theorem Arr.set_comm {α:Type} {n:Nat} (a:Arr n α) {i j:Nat} (x y:α) (h:i ≠ j):(a.set i x).set j y=(a.set j y).set i x:=by
 unfold Arr.set
 congr 1
 exact List.set_comm x y h
theorem Arr.get_ne {α:Type} [Inhabited α] {n:Nat} (a:Arr n α) {i j:Nat} (x:α) (h:i ≠ j):(a.set i x).get j=a.get j:=by
 unfold Arr.get Arr.set
 simp [List.getD_eq_getElem?_getD,List.getElem?_set_ne h]
theorem Arr.get_same {α:Type} [Inhabited α] {n:Nat} (a:Arr n α) {i:Nat} (x:α) (h:i < n):(a.set i x).get i=x:=by rw [Arr.get_set h,if_pos rfl]
theorem conv_conv (c:W .i64):W.conv .u32 (W.conv .u64 c)=W.conv .u32 c:=by
 refine W.ext ?_
 rw [W.conv_n,W.conv_n,W.conv_n,wrap_u32,wrap_u64,wrap_u32]
 omega
theorem v4:(W.of .u32 4).v=2 ^ 2:=rfl
theorem v1:(W.of .u32 1).v=2 ^ 0:=rfl
theorem v2:(W.of .u32 2).v=2 ^ 1:=rfl
theorem v8:(W.of .u32 8).v=2 ^ 3:=rfl
theorem v16:(W.of .u32 16).v=2 ^ 4:=rfl
theorem v32:(W.of .u32 32).v=2 ^ 5:=rfl
theorem take_eq (a:TArch) (c:W .i64) (v e:W .u32):∃ r,F_trap_Take a c v e=some r∧F_ref14_Take a c v e=some r:=by
 have m1:F_csr_Masked (W.of .i64 1)=some (W.of .u32 31):=by kernel_rfl
 have m2:F_ref11_Masked (W.of .i64 1)=some (W.of .u32 31):=by kernel_rfl
 have g0:∀ x y z,(((a.C.set 1 x).set 2 y).set 3 z).get 0=a.C.get 0:=fun x y z=>by rw [Arr.get_ne _ _ (by decide),Arr.get_ne _ _ (by decide),Arr.get_ne _ _ (by decide)]
 have g4:∀ x y z w,((((a.C.set 1 x).set 2 y).set 3 z).set 0 w).get 4=a.C.get 4:=fun x y z w=>by rw [Arr.get_ne _ _ (by decide),Arr.get_ne _ _ (by decide),Arr.get_ne _ _ (by decide),Arr.get_ne _ _ (by decide)]
 have g4':∀ x y z w,((((a.C.set 0 w).set 1 x).set 2 y).set 3 z).get 4=a.C.get 4:=fun x y z w=>by rw [Arr.get_ne _ _ (by decide),Arr.get_ne _ _ (by decide),Arr.get_ne _ _ (by decide),Arr.get_ne _ _ (by decide)]
 have comm:∀ x y z w,(((a.C.set 1 x).set 2 y).set 3 z).set 0 w=(((a.C.set 0 w).set 1 x).set 2 y).set 3 z:=fun x y z w=>by
  rw [Arr.set_comm _ z w (by decide),Arr.set_comm _ y w (by decide),Arr.set_comm _ x w (by decide)]
 have hs:W.andNot (W.or (mv (mv (a.C.get 0) (W.of .u32 4) ((a.C.get 0).v.testBit 0)) (W.of .u32 8) ((mv (a.C.get 0) (W.of .u32 4) ((a.C.get 0).v.testBit 0)).v.testBit 1)) (W.of .u32 1)) (W.of .u32 2) =
   mv (mv (mv (mv (a.C.get 0) (W.of .u32 4) ((a.C.get 0).v.testBit 0)) (W.of .u32 8) ((a.C.get 0).v.testBit 1)) (W.of .u32 1) true) (W.of .u32 2) false:=by
  have:(mv (a.C.get 0) (W.of .u32 4) ((a.C.get 0).v.testBit 0)).v.testBit 1=(a.C.get 0).v.testBit 1:=by
   rw [mv_bits,v4];rfl
  rw [this];rfl
 unfold F_trap_Take T_trap_Take F_ref14_Take T_ref14_Take
 simp only [ev_opt,ev_ret,m1,m2,bind_some',g0,moved_p _ _ _ v1,moved_p _ _ _ v2,put_d,ne_bit v1,ne_bit v2,conv_conv,g4,g4',comm,hs]
 exact ⟨_,rfl,rfl⟩
theorem return_eq (a:TArch):∃ r,F_trap_Return a=some r∧F_ref14_Return a=some r:=by
 have h3:(mv (a.C.get 0) (W.of .u32 1) ((a.C.get 0).v.testBit 2)).v.testBit 3=(a.C.get 0).v.testBit 3:=by
  rw [mv_bits,v1];rfl
 unfold F_trap_Return T_trap_Return F_ref14_Return T_ref14_Return
 simp only [ev_opt,ev_ite,ev_ret,kernel_p,kernel_d,bind_some',moved_p _ _ _ v4,moved_p _ _ _ v8,put_d,ne_bit v4,ne_bit v8,h3]
 cases kern a<;>exact ⟨_,rfl,rfl⟩
theorem has_d (a:TArch) {m:W .u32} {k:Nat} (hm:m.v=2 ^ k):F_ref14_Has a m=some ((a.C.get 0).v.testBit k):=by
 unfold F_ref14_Has T_ref14_Has
 rw [ev_ret,ne_bit hm]
theorem single_eq (a:TArch):∃ r,F_trap_Single a=some r∧F_ref14_Single a=some r:=by
 unfold F_trap_Single T_trap_Single F_ref14_Single T_ref14_Single
 simp only [ev_opt,ev_ite,ev_ret,kernel_p,kernel_d,bind_some',has_d a v32,ne_bit v32]
 cases kern a<;>exact ⟨_,rfl,rfl⟩
theorem stops_eq (a:TArch) (pc:W .u32):∃ r,F_trap_Stops a pc=some r∧F_ref14_Stops a pc=some r:=by
 have e1:W.eq (W.and (a.C.get 11) (W.of .u32 1)) (W.of .u32 1)=(a.C.get 11).v.testBit 0:=by
  refine iff_bool ?_
  rw [W.eq_n,W.n_v,W.n_v,W.and_v,show (W.of .u32 1).v=2 ^ 1 - 1 from rfl,Nat.and_two_pow_sub_one_eq_mod,Nat.testBit_zero,decide_eq_true_eq]
  omega
 unfold F_trap_Stops T_trap_Stops F_ref14_Stops T_ref14_Stops
 simp only [ev_opt,ev_ite,ev_ret,kernel_p,kernel_d,bind_some',e1,odd_bit]
 generalize a.C.get 11=st
 cases kern a with
 | true=>exact ⟨_,rfl,rfl⟩
 | false=>
  cases h0:st.v.testBit 0 with
  | false=>exact ⟨_,rfl,rfl⟩
  | true=>
   simp only [Bool.not_false,if_true]
   refine ⟨W.eq (W.sub st (W.of .u32 1)) pc,?_,rfl⟩
   have hst:st.v % 2=1:=by rw [Nat.testBit_zero,decide_eq_true_eq] at h0;exact h0
   have hsub:(W.sub st (W.of .u32 1)).v=st.v - 1:=by
    have:=st.v_lt
    rw [W.sub_v,show (W.of .u32 1).v=1 from rfl];omega
   have hor:(W.or pc (W.of .u32 1)).v=if pc.v % 2=1 then pc.v else pc.v+1:=by
    rw [W.or_v,show (W.of .u32 1).v=1 from rfl]
    have h:=Nat.or_mod_two_pow (a:=pc.v) (b:=1) (n:=1)
    have hd:(pc.v ||| 1) / 2=pc.v / 2:=by rw [Nat.or_div_two];simp
    have hm:(pc.v ||| 1) % 2=1:=by simp
    split<;>omega
   have hp:=pc.v_lt
   congr 1
   by_cases hp0:pc.v.testBit 0=true
   ·have hp1:pc.v % 2=1:=by rw [Nat.testBit_zero,decide_eq_true_eq] at hp0;exact hp0
    have:W.eq (W.sub st (W.of .u32 1)) pc=false:=by
     rw [W.eq_dec,decide_eq_false_iff_not];intro h
     have:=congrArg W.v h;rw [hsub] at this;omega
    rw [eq_bit v1,hp0,this]
    split<;>rfl
   ·have hp1:pc.v % 2=0:=by rw [Nat.testBit_zero,decide_eq_true_eq] at hp0;omega
    rw [eq_bit v1,Bool.not_eq_true _ |>.mp hp0]
    have:W.eq st (W.or pc (W.of .u32 1))=W.eq (W.sub st (W.of .u32 1)) pc:=by
     refine iff_bool ?_
     rw [W.eq_n,W.eq_n,W.n_v,W.n_v,W.n_v,W.n_v,hsub,hor,if_neg (by omega)]
     omega
    rw [this]
    cases W.eq (W.sub st (W.of .u32 1)) pc<;>rfl
theorem pend_loop (o:W .u32) {s:Arr 3 TSource} (hs:F_trap_sources=some s):L_trap_Pending_13 (o,s,W.of .i64 0,())=some (if o.v.testBit 0=true then .inl (W.of .i64 16,()) else if o.v.testBit 1=true then .inl (W.of .i64 17,()) else if o.v.testBit 2=true then .inl (W.of .i64 18,()) else .inr ((),())):=by
 have e:s=Arr.lit 3 [(TSource.mk (W.of .u32 1) (W.of .i64 16)),(TSource.mk (W.of .u32 2) (W.of .i64 17)),(TSource.mk (W.of .u32 4) (W.of .i64 18))] rfl:=(Option.some.inj hs).symm
 subst e
 have step:∀ i,i < 3→∀ (m:W .u32) (c:W .i64) (k:Nat),m.v=2 ^ k→Arr.get (Arr.lit 3 [(TSource.mk (W.of .u32 1) (W.of .i64 16)),(TSource.mk (W.of .u32 2) (W.of .i64 17)),(TSource.mk (W.of .u32 4) (W.of .i64 18))] rfl:Arr 3 TSource) i=TSource.mk m c→(B_trap_Pending_13 o (Arr.lit 3 [(TSource.mk (W.of .u32 1) (W.of .i64 16)),(TSource.mk (W.of .u32 2) (W.of .i64 17)),(TSource.mk (W.of .u32 4) (W.of .i64 18))] rfl) (wi i)).eval=some (if o.v.testBit k=true then .out (.inl (c,())) else .next (o,Arr.lit 3 [(TSource.mk (W.of .u32 1) (W.of .i64 16)),(TSource.mk (W.of .u32 2) (W.of .i64 17)),(TSource.mk (W.of .u32 4) (W.of .i64 18))] rfl,wi (i+1),())):=fun i hi m c k hm hg=>by
  have hlt:W.lt (wi i) (W.of .i64 3)=true:=(wi_lt (m:=3) (by unfold room;omega) (by unfold room;omega)).trans (by simp;omega)
  simp only [B_trap_Pending_13,ev_ite,ev_opt,ev_ret,hlt,if_true,wi_idx (show i≤room by unfold room;omega),hi,bind_some',hg,ne_bit hm,wi_add (show i < room by unfold room;omega)]
  cases o.v.testBit k<;>rfl
 unfold L_trap_Pending_13 fuel
 rw [iter_succ,show (B_trap_Pending_13 o (Arr.lit 3 [(TSource.mk (W.of .u32 1) (W.of .i64 16)),(TSource.mk (W.of .u32 2) (W.of .i64 17)),(TSource.mk (W.of .u32 4) (W.of .i64 18))] rfl) (W.of .i64 0)).eval=_ from step 0 (by decide) (W.of .u32 1) (W.of .i64 16) 0 rfl rfl]
 cases o.v.testBit 0 with
 | true=>rfl
 | false=>
  simp only [Bool.false_eq_true,if_false]
  rw [iter_succ,step 1 (by decide) (W.of .u32 2) (W.of .i64 17) 1 rfl rfl]
  cases o.v.testBit 1 with
  | true=>rfl
  | false=>
   simp only [Bool.false_eq_true,if_false]
   rw [iter_succ,step 2 (by decide) (W.of .u32 4) (W.of .i64 18) 2 rfl rfl]
   cases o.v.testBit 2 with
   | true=>rfl
   | false=>
    simp only [Bool.false_eq_true,if_false]
    rw [iter_succ]
    rfl
theorem pending_eq (a:TArch):∃ r,F_trap_Pending a=some r∧F_ref14_Pending a=some r:=by
 have hs:F_trap_sources=some (Arr.lit 3 [(TSource.mk (W.of .u32 1) (W.of .i64 16)),(TSource.mk (W.of .u32 2) (W.of .i64 17)),(TSource.mk (W.of .u32 4) (W.of .i64 18))] rfl):=rfl
 unfold F_trap_Pending T_trap_Pending F_ref14_Pending T_ref14_Pending
 simp only [ev_opt,ev_ite,ev_ret,ev_sum,kernel_p,kernel_d,bind_some',has_d a v2,eq_bit v2,hs,pend_loop _ hs,ne_bit v1,ne_bit v2,ne_bit v4]
 generalize W.and (a.C.get 10) (a.C.get 9)=o
 cases kern a<;>cases (a.C.get 0).v.testBit 1<;>cases o.v.testBit 0<;>cases o.v.testBit 1<;>cases o.v.testBit 2<;>exact ⟨_,rfl,rfl⟩
theorem masked_eq (n:W .i64) (h:0≤n.n∧n.n < 12):∃ m,F_csr_Masked n=some m∧F_ref11_Masked n=some m:=by
 obtain ⟨k,rfl,_,hk⟩:=wi_of (a:=n) (lo:=0) (hi:=11) (by omega) (by omega)
 have:=all_lt (p:=fun n=>decide (F_csr_Masked (wi n)=F_ref11_Masked (wi n))&&(F_csr_Masked (wi n)).isSome) (n:=12) (by kernel_rfl) (show k < 12 by omega)
 simp only [Bool.and_eq_true,decide_eq_true_eq] at this
 obtain ⟨m,hm⟩:=Option.isSome_iff_exists.1 this.2
 exact ⟨m,hm,this.1 ▸ hm⟩
theorem csr_in {n:W .i64}:(W.lt n (W.of .i64 0)=false∧W.ge n (W.of .i64 12)=false∧W.gt n (W.of .i64 11)=false∧0≤n.n∧n.n < 12)∨(W.lt n (W.of .i64 0)=true)∨(W.lt n (W.of .i64 0)=false∧W.ge n (W.of .i64 12)=true∧W.gt n (W.of .i64 11)=true):=by
 unfold W.lt W.ge W.gt
 rw [show (W.of .i64 0).n=0 from rfl,show (W.of .i64 12).n=12 from rfl,show (W.of .i64 11).n=11 from rfl]
 by_cases h0:n.n < 0
 ·exact .inr (.inl (by simpa using h0))
 ·by_cases h1:n.n ≥ 12
  ·refine .inr (.inr ⟨by simpa using h0,by simpa using h1,?_⟩);simp;omega
  ·refine .inl ⟨by simpa using h0,by simpa using h1,?_,by omega,by omega⟩;simp;omega
theorem csrRead_eq (a:TArch) (n:W .i64):∃ r,F_csr_Read a n=some r∧F_ref11_Read a n=some r:=by
 unfold F_csr_Read T_csr_Read F_ref11_Read T_ref11_Read F_csr_may T_csr_may
 simp only [ev_opt,ev_ite,ev_ret,kernel_p,kernel_d,bind_some',W.ne_eq]
 rcases csr_in (n:=n) with ⟨h1,h2,h3,h4,h5⟩ | h1 | ⟨h1,h2,h3⟩
 ·simp only [h1,h2,h3,idx?_some (n:=12) (i:=n) (by omega),bind_some']
  cases kern a<;>cases W.eq n (W.of .i64 7)<;>exact ⟨_,rfl,rfl⟩
 ·simp only [h1]
  cases kern a<;>cases W.eq n (W.of .i64 7)<;>exact ⟨_,rfl,rfl⟩
 ·simp only [h1,h2,h3]
  cases kern a<;>cases W.eq n (W.of .i64 7)<;>exact ⟨_,rfl,rfl⟩
theorem csrWrite_eq (a:TArch) (n:W .i64) (v:W .u32):∃ r,F_csr_Write a n v=some r∧F_ref11_Write a n v=some r:=by
 unfold F_csr_Write T_csr_Write F_ref11_Write T_ref11_Write F_csr_may T_csr_may
 simp only [ev_opt,ev_ite,ev_ret,kernel_p,kernel_d,bind_some',W.ne_eq]
 rcases csr_in (n:=n) with ⟨h1,h2,h3,h4,h5⟩ | h1 | ⟨h1,h2,h3⟩
 ·obtain ⟨m,m1,m2⟩:=masked_eq n ⟨h4,h5⟩
  simp only [h1,h2,h3,idx?_some (n:=12) (i:=n) (by omega),bind_some',m1,m2]
  cases kern a<;>exact ⟨_,rfl,rfl⟩
 ·simp only [h1]
  cases kern a<;>exact ⟨_,rfl,rfl⟩
 ·simp only [h1,h2,h3]
  cases kern a<;>exact ⟨_,rfl,rfl⟩
theorem count_eq (a:TArch):F_csr_Count a=F_ref11_Count a:=rfl
theorem count_some (a:TArch):∃ r,F_csr_Count a=some r:=by
 unfold F_csr_Count T_csr_Count
 simp only [ev_ite,ev_ret]
 repeat' split
 all_goals exact ⟨_,rfl⟩
theorem paged_eq (a:TArch):∃ r,F_walk_Paged a=some r∧F_ref13_Paged a=some r:=by
 have e:W.eq (W.rem (W.quo (a.C.get 0) (W.of .u32 16)) (W.of .u32 2)) (W.of .u32 1)=(a.C.get 0).v.testBit 4:=by
  rw [odd_bit,W.quo_v,v16,Nat.testBit_div_two_pow]
 unfold F_walk_Paged T_walk_Paged F_ref13_Paged T_ref13_Paged
 simp only [ev_opt,ev_ite,ev_ret,kernel_p,kernel_d,bind_some',ne_bit v16,e]
 cases (a.C.get 0).v.testBit 4<;>exact ⟨_,rfl,rfl⟩
end Go.Proofs.YtedhidchlfhegaaGreatDoor
