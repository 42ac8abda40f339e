/- YtijckobfnmkjdaaGreatDoorBoot: what a part makes is what its instruction does; the machine of one word. No statement of the seat is proved here. -/
import Derived.Test.YtijckobfnmkjdaaGreatDoorPlain
import Derived.Test.YtijckobfnmkjdaaGreatDoorStep
set_option linter.unusedSimpArgs false
set_option linter.unusedVariables false
set_option maxRecDepth 100000
namespace Go.Proofs.YtijckobfnmkjdaaGreatDoor
open Go Go.A2
structure Left (m:TMach) (rd:Nat) (v nx:W .u32) (w:TWork):Prop where
 m:∃ R',w.m={ m with A:={ m.A with R:=R' } }∧(rd ≠ 0→R'.get rd=v)
 cause:w.cause=W.of .i64 0
 next:w.next_=nx
 evc:w.ev.Cause=W.of .i64 0
 rd:w.ev.Rd=regW rd
theorem left_put (m:TMach) (word:W .u32) (nx:W .u32) {rd:Nat} (h:rd < 16) (v:W .u32):Left m rd v nx (putW { w0 m word with next_:=nx } (wi rd) v):=by
 have hn:(wi rd).n=rd:=wi_n (sm (by omega))
 unfold putW
 by_cases c:rd=0
 ·subst c
  rw [if_neg (by rw [hn];decide)]
  exact ⟨⟨m.A.R,rfl,fun h=>(h rfl).elim⟩,rfl,rfl,rfl,rfl⟩
 ·rw [if_pos (by rw [hn];omega)]
  refine ⟨⟨_,rfl,fun _=>?_⟩,rfl,rfl,rfl,?_⟩
  ·rw [hn];exact Arr.get_same _ _ h
  ·show wi rd=regW rd
   unfold regW
   rw [if_neg c]
theorem do_eq (m:TMach) (word:W .u32) {k rd ra rb:Nat} {n:W .i64} (hr:InstR k rd ra rb n) (hp:isPlain k=true) (i3:Arr 3 (W .u32)) (h0:i3.get 0=m.A.R.get ra) (h1:i3.get 1=m.A.R.get rb) (h2:k=24→i3.get 2=m.A.R.get rd):
  ∃ w v nx,F_step_does m word (instI k rd ra rb n)=some w∧F_exec_Do (uopP k rd ra rb n m.A.PC word) i3=some (v,nx,W.of .i64 0,W.of .u32 0)∧Left m rd v nx w:=by
 have w1:∀ a,a < 1000→(wi a).n=a:=fun a h=>wi_n (sm (by omega))
 have hk:=hr.k64
 have k0:=hr.k0
 have ek:=w1 k (by omega)
 have erd:=w1 rd (by have:=hr.b1;omega)
 have era:=w1 ra (by have:=hr.b2;omega)
 have erb:=w1 rb (by have:=hr.b3;omega)
 have ge:∀ j:Nat,j≤1000→W.ge (wi k) (W.of .i64 (j:Int))=decide (j≤k):=fun j hj=>(ge_k (op:=wi k) hj).trans (decide_eq_decide.2 (by rw [ek];omega))
 have le:∀ j:Nat,j≤1000→W.le (wi k) (W.of .i64 (j:Int))=decide (k≤j):=fun j hj=>(le_k (op:=wi k) hj).trans (decide_eq_decide.2 (by rw [ek];omega))
 have eq:∀ j:Nat,j≤1000→W.eq (wi k) (W.of .i64 (j:Int))=decide (k=j):=fun j hj=>eq_small (by omega) hj
 have bt:∀ a b:Nat,a≤1000→b≤1000→F_exec_between (wi k) (W.of .i64 (a:Int)) (W.of .i64 (b:Int))=some (decide (a≤k∧k≤b)):=fun a b ha hb=>by
  unfold F_exec_between T_exec_between
  rw [ev_ite,ge a ha,ev_ret,ev_ret,le b hb]
  by_cases c:a≤k
  ·simp [c]
  ·simp [c]
 have hx:∀ i3:Arr 3 (W .u32),F_exec_Do (uopP k rd ra rb n m.A.PC word) i3=(T_exec_Do (uopP k rd ra rb n m.A.PC word) i3).eval:=fun _=>rfl
 have x1:=bt 1 23 (by omega) (by omega)
 have x2:=bt 25 33 (by omega) (by omega)
 have x3:=bt 43 48 (by omega) (by omega)
 have x4:=eq 24 (by omega)
 have x5:=eq 49 (by omega)
 have x6:=eq 50 (by omega)
 unfold T_exec_Do F_exec_behind T_exec_behind F_exec_ahead T_exec_ahead at hx
 simp only [ev_opt,ev_ite,ev_ret,bind_some',W.ne_self,Bool.false_eq_true,if_false,show F_exec_between (wi k) (W.of .i64 1) (W.of .i64 23)=_ from x1,show F_exec_between (wi k) (W.of .i64 25) (W.of .i64 33)=_ from x2,show F_exec_between (wi k) (W.of .i64 43) (W.of .i64 48)=_ from x3,show W.eq (wi k) (W.of .i64 24)=_ from x4,show W.eq (wi k) (W.of .i64 49)=_ from x5,show W.eq (wi k) (W.of .i64 50)=_ from x6,decide_eq_true_eq] at hx
 by_cases c33:k≤33
 ·have ok:InstOk (instI k rd ra rb n):=instOk_mk k0 hk hr.b1 hr.b2 hr.b3
  obtain ⟨v,v1,v2,v3⟩:=does_num_p m word (instI k rd ra rb n) ok (by show (wi k).n≤33;rw [ek];omega)
  simp only [ek,erd,era,erb,show ∀ x:Nat,((x:Int)).toNat=x from fun x=>rfl] at v1 v2 v3
  refine ⟨_,v,W.add m.A.PC (W.of .u32 4),v1,?_,left_put m word _ hr.b1 v⟩
  rw [hx]
  by_cases c24:k=24
  ·rw [if_neg (by omega),if_pos c24,h0,h1,h2 c24,v2 (by omega)];rfl
  ·have v3:=v3 (by omega)
   by_cases c25:25≤k
   ·rw [if_pos (by omega)] at v3
    rw [if_neg (by omega),if_neg c24,if_pos (by omega),h0,v3];rfl
   ·rw [if_neg (by omega)] at v3
    rw [if_pos (by omega),h0,h1,v3];rfl
 ·have hb:(43≤k∧k≤50)∨k=63:=by
   unfold isPlain at hp
   simp only [Bool.or_eq_true,Bool.and_eq_true,decide_eq_true_eq] at hp
   omega
  have d1:idx? 16 (wi ra)=some ra:=by rw [wi_idx (sm (by have:=hr.b2;omega)),if_pos hr.b2]
  have d2:idx? 16 (wi rb)=some rb:=by rw [wi_idx (sm (by have:=hr.b3;omega)),if_pos hr.b3]
  have l33:=le 33 (by omega)
  have l39:=le 39 (by omega)
  have l42:=le 42 (by omega)
  have l50:=le 50 (by omega)
  have l53:=le 53 (by omega)
  have away:W.add m.A.PC (W.mul (W.conv .u32 n) (W.of .u32 4))=W.add m.A.PC (W.mul (W.of .u32 4) (W.conv .u32 n)):=by
   congr 1;exact W.ext (by rw [W.mul_n,W.mul_n,Int.mul_comm])
  have hdoes:F_step_does m word (instI k rd ra rb n)=(T_step_does m word (instI k rd ra rb n)).eval:=rfl
  unfold T_step_does at hdoes
  simp only [ev_opt,ev_ite,ev_ret,bind_some',d1,d2,show W.le (wi k) (W.of .i64 33)=_ from l33,show W.le (wi k) (W.of .i64 39)=_ from l39,show W.le (wi k) (W.of .i64 42)=_ from l42,show W.le (wi k) (W.of .i64 50)=_ from l50,show W.le (wi k) (W.of .i64 53)=_ from l53,decide_eq_true_eq] at hdoes
  have n39:¬ k≤39:=by omega
  have n42:¬ k≤42:=by omega
  have n23:¬ (1≤k∧k≤23):=by omega
  have n24:¬ k=24:=by omega
  have n25:¬ (25≤k∧k≤33):=by omega
  simp only [c33,n39,n42,if_false] at hdoes
  simp only [n23,n24,n25,if_false] at hx
  rw [hdoes,hx]
  rcases hb with hb | hb
  ·have put:∀ (w:TWork) (v:W .u32),F_step_work_put w (wi rd) v=some (putW w (wi rd) v):=fun w v=>put_p (by rw [erd];omega) (by rw [erd];have:=hr.b1;omega)
   unfold F_step_work_goes T_step_work_goes
   simp only [hb.2,if_true,ev_opt,ev_ite,ev_ret,show W.eq (wi k) (W.of .i64 49)=_ from x5,show W.eq (wi k) (W.of .i64 50)=_ from x6,decide_eq_true_eq,put,bind_some']
   by_cases c49:k=49
   ·have n48:¬ (43≤k∧k≤48):=by omega
    simp only [c49,if_true,show ¬ (43≤49∧49≤48) by omega,if_false]
    exact ⟨_,_,_,rfl,by rw [away],left_put m word _ hr.b1 _⟩
   ·by_cases c50:k=50
    ·simp only [c50,if_true,show ¬ (43≤50∧50≤48) by omega,show ¬ 50=49 by omega,if_false]
     refine ⟨_,_,_,rfl,?_,left_put m word _ hr.b1 _⟩
     rw [h0]
    ·have n48:43≤k∧k≤48:=by omega
     have hrd:rd=0:=by
      have:=all_lt (p:=fun k=>decide (k < 43∨48 < k) || !hasN k 1) (n:=64) (by kernel_rfl) hk
      refine hr.c1 ?_
      simpa [show ¬ (k < 43∨48 < k) by omega] using this
     subst hrd
     obtain ⟨t,t1,_⟩:=taken_eq (wi k) (m.A.R.get ra) (m.A.R.get rb)
     rw [h0,h1]
     simp only [c49,c50,n48,and_self,if_true,if_false,t1,bind_some']
     cases t with
     | true=>exact ⟨_,_,_,rfl,by rw [if_pos rfl,←away],⟨⟨m.A.R,rfl,fun h=>(h rfl).elim⟩,rfl,rfl,rfl,rfl⟩⟩
     | false=>exact ⟨_,_,_,rfl,rfl,⟨⟨m.A.R,rfl,fun h=>(h rfl).elim⟩,rfl,rfl,rfl,rfl⟩⟩
  ·subst hb
   have hrd:rd=0:=hr.c1 (by kernel_rfl)
   subst hrd
   exact ⟨w0 m word,W.of .u32 0,W.add m.A.PC (W.of .u32 4),rfl,rfl,⟨⟨m.A.R,rfl,fun h=>(h rfl).elim⟩,rfl,rfl,rfl,rfl⟩⟩
abbrev pcW (k:Nat):W .u32:=W.of .u32 ((4*k:Nat):Int)
abbrev C0:Arr 12 (W .u32):=Arr.set (Arr.rep 12 (W.of .u32 0)) 0 (W.of .u32 1)
def memK (k:Nat) (bs:List (W .u8)):Sl 1 (W .u8):=⟨cpL (List.replicate 64 (W.of .u8 0)) (4*k) bs,by rw [cpL_length,List.length_replicate];decide⟩
abbrev archK (k:Nat) (R:Arr 16 (W .u32)):TArch:=TArch.mk (pcW k) R C0 false
abbrev machK (k:Nat) (bs:List (W .u8)) (R:Arr 16 (W .u32)):TMach:=TMach.mk (archK k R) (memK k bs) (memK k bs) Sl.nil
theorem sixteen {p:Nat→Prop} (h:p 0∧p 1∧p 2∧p 3∧p 4∧p 5∧p 6∧p 7∧p 8∧p 9∧p 10∧p 11∧p 12∧p 13∧p 14∧p 15) {k:Nat} (hk:k < 16):p k:=by
 obtain ⟨h0,h1,h2,h3,h4,h5,h6,h7,h8,h9,h10,h11,h12,h13,h14,h15⟩:=h
 have:k=0∨k=1∨k=2∨k=3∨k=4∨k=5∨k=6∨k=7∨k=8∨k=9∨k=10∨k=11∨k=12∨k=13∨k=14∨k=15:=by omega
 rcases this with rfl | rfl | rfl | rfl | rfl | rfl | rfl | rfl | rfl | rfl | rfl | rfl | rfl | rfl | rfl | rfl<;>assumption
theorem new_k {k:Nat} (hk:k < 16) (b0 b1 b2 b3:W .u8):F_step_New (TImage.mk (pcW k) (Sl.lit 32 [TSeg.mk (pcW k) (Sl.lit 1 [b0,b1,b2,b3] rfl)] rfl)) (W.of .i64 64)=some (machK k [b0,b1,b2,b3] (Arr.rep 16 (W.of .u32 0)),W.of .i64 0):=by
 refine sixteen (p:=fun k=>F_step_New (TImage.mk (pcW k) (Sl.lit 32 [TSeg.mk (pcW k) (Sl.lit 1 [b0,b1,b2,b3] rfl)] rfl)) (W.of .i64 64)=some (machK k [b0,b1,b2,b3] (Arr.rep 16 (W.of .u32 0)),W.of .i64 0)) ?_ hk
 refine ⟨?_,?_,?_,?_,?_,?_,?_,?_,?_,?_,?_,?_,?_,?_,?_,?_⟩<;>kernel_rfl
theorem pending_k (k:Nat) (R:Arr 16 (W .u32)):F_trap_Pending (archK k R)=some (W.of .i64 0):=by kernel_rfl
theorem stops_k (k:Nat) (R:Arr 16 (W .u32)):F_trap_Stops (archK k R) (pcW k)=some false:=by kernel_rfl
theorem single_k (k:Nat) (R:Arr 16 (W .u32)):F_trap_Single (archK k R)=some false:=by kernel_rfl
theorem kernel_k (k:Nat) (R:Arr 16 (W .u32)):F_csr_Kernel (archK k R)=some true:=by kernel_rfl
theorem trans_k (k:Nat) (R:Arr 16 (W .u32)) (s:Sl 1 (W .u8)) (va:W .u32) (x:W .i64):F_walk_Trans (archK k R) s va x=some (va,W.of .i64 0):=by kernel_rfl
theorem count_k (p:W .u32) (R:Arr 16 (W .u32)) (h:Bool):F_csr_Count (TArch.mk p R C0 h)=some (TArch.mk p R (Arr.set C0 7 (W.add (Arr.get C0 7) (W.of .u32 1))) h):=by kernel_rfl
theorem aligned_k {k:Nat} (hk:k < 16):F_bits_Aligned (pcW k) (W.of .i64 4)=some true:=by
 have:=all_lt (p:=fun k=>decide (F_bits_Aligned (pcW k) (W.of .i64 4)=some true)) (n:=16) (by kernel_rfl) hk
 exact of_decide_eq_true this
theorem pc_v {k:Nat} (hk:k < 16):(pcW k).v=4*k:=by rw [W.of_v _ (by omega)]
theorem bytes_k {k:Nat} (hk:k < 16) (b0 b1 b2 b3:W .u8):bytesAt (memK k [b0,b1,b2,b3]).l (4*k) 4=[b0,b1,b2,b3]:=by
 refine sixteen (p:=fun k=>bytesAt (memK k [b0,b1,b2,b3]).l (4*k) 4=[b0,b1,b2,b3]) ?_ hk
 refine ⟨?_,?_,?_,?_,?_,?_,?_,?_,?_,?_,?_,?_,?_,?_,?_,?_⟩<;>kernel_rfl
abbrev bytesW (w:W .u32):List (W .u8):=[W.conv .u8 w,W.conv .u8 (W.shr w (W.of .u64 8)),W.conv .u8 (W.shr w (W.of .u64 16)),W.conv .u8 (W.shr w (W.of .u64 24))]
theorem bytesW_v (w:W .u32):ofB (bytesW w)=w.v:=by
 have hw:=w.v_lt
 have h:∀ x:W .u32,(W.conv .u8 x).v=x.v % 256:=fun x=>by rw [W.uconv rfl rfl];rfl
 unfold bytesW ofB ofB ofB ofB ofB
 rw [h,h,h,h,W.shr_v,W.shr_v,W.shr_v,show (W.of .u64 8).v=8 from rfl,show (W.of .u64 16).v=16 from rfl,show (W.of .u64 24).v=24 from rfl,show (2:Nat) ^ 8=256 from rfl,show (2:Nat) ^ 16=65536 from rfl,show (2:Nat) ^ 24=16777216 from rfl]
 omega
theorem fetch_k {k:Nat} (hk:k < 16) (w:W .u32) (R:Arr 16 (W .u32)):F_step_Fetch (machK k (bytesW w) R)=some (w,W.of .i64 0):=by
 have hl:(memK k (bytesW w)).l.length=64:=by show (cpL _ _ _).length=64;rw [cpL_length,List.length_replicate]
 have hc:chkB (memK k (bytesW w)) (pcW k) (W.of .i64 4)=true:=by
  unfold chkB
  have hn:(pcW k).n=(4*k:Nat):=by have:=(pcW k).r_u32;have h:=pc_v hk;unfold W.v at h;omega
  rw [decide_eq_true_eq,hl,hn,show (W.of .i64 4).n=4 from rfl]
  exact ⟨.inr (.inr rfl),by omega⟩
 have hr:=read_p (memK k (bytesW w)) (pcW k) (W.of .i64 4)
 have hk':=check_p (memK k (bytesW w)) (pcW k) (W.of .i64 4)
 rw [hc,if_pos rfl] at hr hk'
 rw [pc_v hk,show (W.of .i64 4).v=4 from rfl,bytes_k hk,bytesW_v,show W.of .u32 (w.v:Nat)=w from W.ext (by rw [W.of_n,wrap_u32];have:=w.r_u32;unfold W.v;omega)] at hr
 unfold F_step_Fetch T_step_Fetch F_step_reach T_step_reach
 simp only [ev_opt,ev_ite,ev_ret,aligned_k hk,bind_some',Bool.not_true,Bool.false_eq_true,if_false,trans_k,W.eq_self,if_true,hk',W.ne_self,hr]
theorem step_k {k:Nat} (hk:k < 16) {w:W .u32} {R:Arr 16 (W .u32)} {i:TInst} (hd:F_inst_Dec w=some (i,W.of .i64 0)) {rd:Nat} {v nx:W .u32} {x:TWork} (hx:F_step_does (machK k (bytesW w) R) w i=some x) (hl:Left (machK k (bytesW w) R) rd v nx x):
  ∃ m e,F_step_Step (machK k (bytesW w) R)=some (m,e,true)∧e.Cause=W.of .i64 0∧m.A.PC=nx∧e.Rd=regW rd∧(rd ≠ 0→m.A.R.get rd=v):=by
 obtain ⟨⟨R',hm,hv⟩,h1,h2,h3,h4⟩:=hl
 obtain ⟨b,hb⟩:∃ b,F_inst_Priv i.Op=some b:=by
  unfold F_inst_Priv T_inst_Priv
  simp only [ev_ite,ev_ret]
  split
  ·exact ⟨_,rfl⟩
  ·split
   ·exact ⟨_,rfl⟩
   ·split<;>exact ⟨_,rfl⟩
 have hc:F_csr_Count { x.m.A with PC:=x.next_ }=some (TArch.mk x.next_ R' (Arr.set C0 7 (W.add (Arr.get C0 7) (W.of .u32 1))) false):=by rw [hm];exact count_k x.next_ R' false
 unfold F_step_Step T_step_Step
 simp only [ev_opt,ev_ite,ev_ret,Bool.false_eq_true,if_false,pending_k,bind_some',W.ne_self,stops_k,fetch_k hk,hd,hb,kernel_k,Bool.not_true,hx,h1,single_k,hc]
 cases b
 ·exact ⟨_,_,rfl,h3,h2,h4,hv⟩
 ·exact ⟨_,_,rfl,h3,h2,h4,hv⟩
end Go.Proofs.YtijckobfnmkjdaaGreatDoor
