/- YtedhidchlfhegaaGreatDoorMem: memory is read and written as the document says. No statement of the seat is proved here. -/
import Derived.Test.YtedhidchlfhegaaGreatDoorCsr
set_option linter.unusedSimpArgs false
set_option linter.unusedVariables false
set_option maxRecDepth 100000
namespace Go.Proofs.YtedhidchlfhegaaGreatDoor
open Go Go.A2
def sz (s:W .i64):Prop:=s.n=1∨s.n=2∨s.n=4
instance (s : W .i64) : Decidable (sz s) := inferInstanceAs (Decidable (_ ∨ _ ∨ _))
def chkB (m:Sl 1 (W .u8)) (a:W .u32) (s:W .i64):Bool:=decide (sz s∧a.n+s.n≤m.l.length)
theorem sz_eq {s:W .i64}:(W.eq s (W.of .i64 1)=true∨W.eq s (W.of .i64 2)=true∨W.eq s (W.of .i64 4)=true) ↔ sz s:=by
 unfold sz;rw [W.eq_n,W.eq_n,W.eq_n];rfl
theorem gt_len {m:Sl 1 (W .u8)} {a:W .u32} {s:W .i64} (h:sz s):W.gt (W.add (W.conv .u64 a) (W.conv .u64 s)) (W.conv .u64 (Sl.len m))=!decide (a.n+s.n≤m.l.length):=by
 have ha:=a.r_u32
 have hm:=m.h.2
 unfold room at hm
 have e1:(W.add (W.conv .u64 a) (W.conv .u64 s)).n=a.n+s.n:=by
  unfold sz at h
  rw [W.add_n,W.conv_n,W.conv_n,wrap_u64,wrap_u64,wrap_u64];omega
 have e2:(W.conv .u64 (Sl.len m)).n=m.l.length:=by rw [W.conv_n,Sl.len_n,wrap_u64];omega
 refine iff_bool ?_
 rw [W.gt_n,e1,e2];simp
theorem le_len64 {m:Sl 1 (W .u8)} {a:W .u32} {s:W .i64} (h:sz s):W.le (W.add (W.conv .i64 a) s) (Sl.len m)=decide (a.n+s.n≤m.l.length):=by
 have ha:=a.r_u32
 have e1:(W.add (W.conv .i64 a) s).n=a.n+s.n:=by
  unfold sz at h
  rw [W.add_n,W.conv_n,wrap_i64,wrap_i64];omega
 refine iff_bool ?_
 rw [W.le_n,e1,Sl.len_n,decide_eq_true_eq]
theorem check_p (m:Sl 1 (W .u8)) (a:W .u32) (s:W .i64):F_mem_Check m a s=some (if chkB m a s=true then W.of .i64 0 else W.of .i64 9):=by
 unfold F_mem_Check T_mem_Check chkB
 simp only [ev_ite,ev_ret,W.ne_eq]
 by_cases hs:sz s
 ·rw [gt_len hs]
  have:=sz_eq.2 hs
  have h2:decide (sz s∧a.n+s.n≤m.l.length)=decide (a.n+s.n≤m.l.length):=decide_eq_decide.2 ⟨fun h=>h.2,fun h=>⟨hs,h⟩⟩
  rw [h2]
  revert this
  cases W.eq s (W.of .i64 1)<;>cases W.eq s (W.of .i64 2)<;>cases W.eq s (W.of .i64 4)<;>cases decide (a.n+s.n≤m.l.length)<;>intro this<;>first | rfl | simp at this
 ·have:=mt sz_eq.1 hs
  have h2:decide (sz s∧a.n+s.n≤m.l.length)=false:=decide_eq_false fun h=>hs h.1
  rw [h2]
  revert this
  cases W.eq s (W.of .i64 1)<;>cases W.eq s (W.of .i64 2)<;>cases W.eq s (W.of .i64 4)<;>intro this<;>first | rfl | simp at this
theorem check_d (m:Sl 1 (W .u8)) (a:W .u32) (s:W .i64):F_ref10_Check m a s=some (if chkB m a s=true then W.of .i64 0 else W.of .i64 9):=by
 unfold F_ref10_Check T_ref10_Check chkB
 simp only [ev_ite,ev_ret]
 by_cases hs:sz s
 ·rw [le_len64 hs]
  have:=sz_eq.2 hs
  have h2:decide (sz s∧a.n+s.n≤m.l.length)=decide (a.n+s.n≤m.l.length):=decide_eq_decide.2 ⟨fun h=>h.2,fun h=>⟨hs,h⟩⟩
  rw [h2]
  revert this
  cases W.eq s (W.of .i64 1)<;>cases W.eq s (W.of .i64 2)<;>cases W.eq s (W.of .i64 4)<;>cases decide (a.n+s.n≤m.l.length)<;>intro this<;>first | rfl | simp at this
 ·have:=mt sz_eq.1 hs
  have h2:decide (sz s∧a.n+s.n≤m.l.length)=false:=decide_eq_false fun h=>hs h.1
  rw [h2]
  revert this
  cases W.eq s (W.of .i64 1)<;>cases W.eq s (W.of .i64 2)<;>cases W.eq s (W.of .i64 4)<;>intro this<;>first | rfl | simp at this
theorem chk_of {m:Sl 1 (W .u8)} {a:W .u32} {s:W .i64} (h:chkB m a s=true):(s.v=1∨s.v=2∨s.v=4)∧a.v+s.v≤m.l.length∧s.n=s.v:=by
 have:=of_decide_eq_true h
 have ha:=a.n_v
 unfold sz at this
 unfold W.v at ha ⊢
 omega
def ofB:List (W .u8)→Nat
 | []=>0
 | x :: l=>x.v+256*ofB l
theorem u8_lt (x:W .u8):x.v < 256:=by have:=x.r_u8;unfold W.v;omega
theorem ofB_lt:∀ l:List (W .u8),ofB l < 256 ^ l.length
 | []=>by simp [ofB]
 | x :: l=>by
  have:=ofB_lt l
  have:=u8_lt x
  simp only [ofB,List.length_cons,Nat.pow_succ]
  omega
theorem ofB_app:∀ (l:List (W .u8)) (x:W .u8),ofB (l++[x])=ofB l+x.v*256 ^ l.length
 | [],x=>by simp [ofB]
 | y :: l,x=>by
  simp only [List.cons_append,ofB,ofB_app l x,List.length_cons,Nat.pow_succ]
  rw [Nat.mul_add,Nat.add_assoc]
  congr 2
  rw [Nat.mul_comm 256,Nat.mul_assoc]
theorem conv8_v (x:W .u8):(W.conv .u32 x).v=x.v:=by
 have:=u8_lt x
 rw [W.uconv rfl rfl];exact Nat.mod_eq_of_lt (by show x.v < 4294967296;omega)
theorem mul8 {i:Nat} (h:i≤100):(W.mul (W.of .i64 8) (wi i)).n=8*i:=by
 rw [W.mul_n,wi_n (by unfold room;omega),show (W.of .i64 8).n=8 from rfl,wrap_i64];omega
theorem nat_wi {i:Nat} (h:i≤room):nat? (wi i)=some i:=by unfold nat?;rw [wi_n h,if_pos (by omega)];rfl
theorem sub_ok {b:Nat} {α:Type} {x:Sl b α} {lo hi:Nat} (h:lo≤hi∧hi≤x.l.length):∃ r,Sl.sub? x lo hi=some r∧r.l=(x.l.take hi).drop lo:=by
 unfold Sl.sub?;rw [dif_pos h];exact ⟨_,rfl,rfl⟩
theorem pow256 (i:Nat):(2:Nat) ^ (8*i)=256 ^ i:=by rw [Nat.pow_mul]
theorem of_bytes (b:Sl 1 (W .u8)) (h:b.l.length≤4):F_bits_Of b=some (W.of .u32 (ofB b.l:Nat)):=by
 have hroom:=b.h.2
 have hmin:W.min (Sl.len b) (W.of .i64 4)=wi b.l.length:=by
  refine W.ext ?_
  rw [W.min_n,Sl.len_n,show (W.of .i64 4).n=4 from rfl,wi_n hroom]
  split<;>omega
 obtain ⟨l2,e1,e2⟩:=sub_ok (x:=b) (lo:=0) (hi:=b.l.length) ⟨by omega,Nat.le_refl _⟩
 rw [List.take_length,List.drop_zero] at e2
 have key:∃ o,L_bits_Of_7 (W.of .u32 0,l2,Sl.len l2,wi 0,())=some o∧o.1.v=ofB b.l:=by
  unfold L_bits_Of_7
  refine iter_acc (fun i s=>∃ v:W .u32,s=(v,l2,Sl.len l2,wi i,())∧v.v=ofB (l2.l.take i)) l2.l.length _ ?_ ?_ ⟨_,rfl,rfl⟩ (by rw [e2];show _ < 1048576;omega)
  ·rintro i s hi ⟨v,rfl,hv⟩
   have hi4:i < 4:=by rw [e2] at hi;omega
   have hm:=mul8 (i:=i) (by omega)
   have hsh:W.shl? (W.conv .u32 (nth l2.l i)) (W.mul (W.of .i64 8) (wi i))=some (W.shl (W.conv .u32 (nth l2.l i)) (W.mul (W.of .i64 8) (wi i))):=by
    unfold W.shl?;rw [if_neg (by rw [hm];omega)]
   simp only [B_bits_Of_7,ev_ite,ev_opt,ev_ret,lt_len l2 hi,Sl.get_wi l2 hi,if_true,bind_some',hsh,wi_next l2 hi]
   refine ⟨_,rfl,_,rfl,?_⟩
   have hb:=u8_lt (nth l2.l i)
   have hmv:(W.mul (W.of .i64 8) (wi i)).v=8*i:=by unfold W.v;rw [hm];omega
   have hlt:ofB (l2.l.take i) < 256 ^ i:=by
    have:=ofB_lt (l2.l.take i)
    rwa [List.length_take,Nat.min_eq_left (by omega)] at this
   have hp:(nth l2.l i).v*256 ^ i < 4294967296:=by
    have h3:256 ^ i≤16777216:=by
     have:256 ^ i≤256 ^ 3:=Nat.pow_le_pow_right (by omega) (by omega)
     exact this
    calc (nth l2.l i).v*256 ^ i≤255*256 ^ i:=Nat.mul_le_mul_right _ (by omega)
     _≤255*16777216:=Nat.mul_le_mul_left _ h3
     _ < 4294967296:=by decide
   rw [W.or_v,hv,W.shl_v,conv8_v,hmv,pow256,Nat.mod_eq_of_lt hp,take_nth hi,ofB_app,List.length_take,Nat.min_eq_left (by omega)]
   rw [←pow256] at hlt ⊢
   rw [Nat.or_comm,Nat.mul_comm,←Nat.two_pow_add_eq_or_of_lt hlt,Nat.add_comm]
  ·rintro s ⟨v,rfl,hv⟩
   simp only [B_bits_Of_7,ev_ite,ev_ret,lt_end l2]
   exact ⟨_,rfl,by rw [List.take_length,e2] at hv;exact hv⟩
 obtain ⟨o,h1,h2⟩:=key
 unfold F_bits_Of T_bits_Of
 simp only [ev_opt,ev_ret,hmin,nat_wi hroom,bind_some',e1,show L_bits_Of_7 (W.of .u32 0,l2,Sl.len l2,W.of .i64 0,())=_ from h1]
 rw [←h2,←W.n_v,W.of_self]
def bytesAt (m:List (W .u8)) (a n:Nat):List (W .u8):=(m.take (a+n)).drop a
theorem bytesAt_len {m:List (W .u8)} {a n:Nat} (h:a+n≤m.length):(bytesAt m a n).length=n:=by
 unfold bytesAt;rw [List.length_drop,List.length_take];omega
theorem bytesAt_nth {m:List (W .u8)} {a n i:Nat} (h:a+n≤m.length) (hi:i < n):nth (bytesAt m a n) i=nth m (a+i):=by
 have:=bytesAt_len h
 rw [nth_elem (by omega),nth_elem (by omega)]
 unfold bytesAt
 rw [List.getElem_drop,List.getElem_take]
theorem add64 {a:W .u32} {k:Nat} (h:k≤1000):W.add (W.conv .i64 a) (wi k)=wi (a.v+k):=by
 have:=a.v_lt
 refine W.ext ?_
 rw [W.add_n,W.conv_i64_v,wi_n (by unfold room;omega),wi_n (by unfold room;omega),wrap_i64];omega
theorem nat_u32 (a:W .u32):nat? a=some a.v:=by
 have:=a.r_u32
 unfold nat?;rw [if_pos (by omega)];rfl
theorem sz_wi {s:W .i64} (h:s.n=s.v):s=wi s.v:=of_small (by omega)
theorem read_p (m:Sl 1 (W .u8)) (a:W .u32) (s:W .i64):F_mem_Read m a s=some (if chkB m a s=true then (W.of .u32 (ofB (bytesAt m.l a.v s.v):Nat),W.of .i64 0) else (W.of .u32 0,W.of .i64 9)):=by
 unfold F_mem_Read T_mem_Read
 rw [ev_opt,check_p]
 cases h:chkB m a s with
 | false=>rfl
 | true=>
  obtain ⟨h1,h2,h3⟩:=chk_of h
  have hm:=m.h.2
  obtain ⟨l4,e1,e2⟩:=sub_ok (x:=m) (lo:=a.v) (hi:=a.v+s.v) ⟨by omega,h2⟩
  have hadd:W.add (W.conv .i64 a) s=wi (a.v+s.v):=by
   have:=add64 (a:=a) (k:=s.v) (by omega)
   rwa [←sz_wi h3] at this
  simp only [if_true,bind_some',ev_ite,W.ne_self,Bool.false_eq_true,if_false,ev_opt,nat_u32,hadd,nat_wi (show a.v+s.v≤room by omega),e1,ev_ret]
  rw [of_bytes l4 (by rw [e2];have:=bytesAt_len h2;unfold bytesAt at this;omega),bind_some',e2]
  rfl
theorem read_d (m:Sl 1 (W .u8)) (a:W .u32) (s:W .i64):F_ref10_Read m a s=some (if chkB m a s=true then (W.of .u32 (ofB (bytesAt m.l a.v s.v):Nat),W.of .i64 0) else (W.of .u32 0,W.of .i64 9)):=by
 unfold F_ref10_Read T_ref10_Read
 rw [ev_opt,check_d]
 cases h:chkB m a s with
 | false=>rfl
 | true=>
  obtain ⟨h1,h2,h3⟩:=chk_of h
  have hm:=m.h.2
  have hlen:=bytesAt_len h2
  have hsub:W.sub s (W.of .i64 1)=W.of .i64 ((s.v:Int) - 1 - (0:Nat)):=by
   refine W.ext ?_
   rw [W.sub_n,h3,show (W.of .i64 1).n=1 from rfl,W.of_n]
   congr 1;omega
  have key:∃ o,L_ref10_Read_15 (m,a,W.of .u32 0,W.of .i64 ((s.v:Int) - 1 - (0:Nat)),())=some o∧o.1.v=ofB (bytesAt m.l a.v s.v):=by
   unfold L_ref10_Read_15
   refine iter_acc (fun j z=>∃ v:W .u32,z=(m,a,v,W.of .i64 ((s.v:Int) - 1 - (j:Nat)),())∧v.v=ofB ((bytesAt m.l a.v s.v).drop (s.v - j))) s.v _ ?_ ?_ ⟨_,rfl,by rw [Nat.sub_zero,List.drop_eq_nil_of_le (by omega)];rfl⟩ (by show _ < 1048576;omega)
   ·rintro j z hj ⟨v,rfl,hv⟩
    have hk:W.of .i64 ((s.v:Int) - 1 - (j:Nat))=wi (s.v - 1 - j):=by
     refine W.ext ?_
     rw [W.of_n,wi_n (by unfold room;omega),wrap_i64];omega
    have hge:W.ge (wi (s.v - 1 - j)) (W.of .i64 0)=true:=W.ge_n.2 (by rw [wi_n (by unfold room;omega),show (W.of .i64 0).n=0 from rfl];omega)
    have hnx:W.sub (wi (s.v - 1 - j)) (W.of .i64 1)=W.of .i64 ((s.v:Int) - 1 - ((j+1:Nat):Int)):=by
     refine W.ext ?_
     rw [W.sub_n,wi_n (by unfold room;omega),show (W.of .i64 1).n=1 from rfl,W.of_n]
     congr 1;omega
    have hget:Sl.get? m (wi (a.v+(s.v - 1 - j)))=some (nth m.l (a.v+(s.v - 1 - j))):=Sl.get_wi m (by omega)
    rw [hk]
    simp only [B_ref10_Read_15,ev_ite,ev_opt,ev_ret,hge,if_true,add64 (a:=a) (k:=s.v - 1 - j) (by omega),hget,bind_some',hnx]
    refine ⟨_,rfl,_,rfl,?_⟩
    have hd:(bytesAt m.l a.v s.v).drop (s.v - (j+1))=nth m.l (a.v+(s.v - 1 - j)) :: (bytesAt m.l a.v s.v).drop (s.v - j):=by
     rw [←bytesAt_nth h2 (show s.v - 1 - j < s.v by omega),nth_elem (by omega),List.drop_eq_getElem_cons (by omega)]
     congr 1
     ·congr 1;omega
     ·congr 1;omega
    have hlt:=ofB_lt ((bytesAt m.l a.v s.v).drop (s.v - j))
    have hlj:((bytesAt m.l a.v s.v).drop (s.v - j)).length=j:=by rw [List.length_drop];omega
    rw [hlj] at hlt
    have hj3:256 ^ j≤16777216:=by
     have:256 ^ j≤256 ^ 3:=Nat.pow_le_pow_right (by omega) (by omega)
     exact this
    have hb:=u8_lt (nth m.l (a.v+(s.v - 1 - j)))
    rw [hd]
    simp only [ofB]
    rw [W.add_v,W.mul_v,conv8_v,hv,show (W.of .u32 256).v=256 from rfl]
    omega
   ·rintro z ⟨v,rfl,hv⟩
    have hk:W.ge (W.of .i64 ((s.v:Int) - 1 - (s.v:Nat))) (W.of .i64 0)=false:=by
     rw [show (s.v:Int) - 1 - (s.v:Nat)=-1 by omega];rfl
    simp only [B_ref10_Read_15,ev_ite,ev_ret,hk,Bool.false_eq_true,if_false]
    exact ⟨_,rfl,by rw [Nat.sub_self,List.drop_zero] at hv;exact hv⟩
  obtain ⟨o,k1,k2⟩:=key
  simp only [if_true,bind_some',ev_ite,W.ne_self,Bool.false_eq_true,if_false,ev_opt,hsub,k1,ev_ret]
  rw [←k2,←W.n_v,W.of_self]
def bytesL (x n:Nat):List (W .u8):=(List.range n).map fun i=>W.of .u8 ((x / 256 ^ i % 256:Nat):Int)
theorem bytesL_len (x n:Nat):(bytesL x n).length=n:=by unfold bytesL;rw [List.length_map,List.length_range]
theorem bytesL_succ (x n:Nat):bytesL x (n+1)=bytesL x n++[W.of .u8 ((x / 256 ^ n % 256:Nat):Int)]:=by
 unfold bytesL;rw [List.range_succ,List.map_append];rfl
theorem u8_ext {a b:W .u8} (h:a.v=b.v):a=b:=W.ext (by have:=a.r_u8;have:=b.r_u8;unfold W.v at h;omega)
theorem u8_of (k:Nat):(W.of .u8 (k:Int)).v=k % 256:=W.uof rfl k
theorem bytes_p (v:W .u32) (n:Nat) (h:n≤4):∃ r,F_bits_Bytes v (wi n)=some r∧r.l=bytesL v.v n:=by
 have hcl:F_bits_clamp (wi n) (W.of .i64 0) (W.of .i64 4)=some (wi n):=by
  unfold F_bits_clamp T_bits_clamp
  rw [ev_ret];congr 1
  refine W.ext ?_
  rw [W.min_n,W.max_n,wi_n (by unfold room;omega),show (W.of .i64 0).n=0 from rfl,show (W.of .i64 4).n=4 from rfl]
  split<;>split<;>omega
 have hmk:Sl.make? 1 (W.of .u8 0) (wi n) (wi n)=some ⟨List.replicate n (W.of .u8 0),by rw [List.length_replicate];unfold room;omega⟩:=by
  unfold Sl.make? Sl.mk?
  rw [wi_n (by unfold room;omega),if_pos (by unfold room;omega),dif_pos (by rw [List.length_replicate];unfold room;omega)]
  rfl
 have key:∀ l2:Sl 1 (W .u8),l2.l=List.replicate n (W.of .u8 0)→∃ o,L_bits_Bytes_7 (v,l2,Sl.len l2,wi 0,())=some o∧o.1.l=bytesL v.v n:=by
  intro l2 hl2
  have hln:l2.l.length=n:=by rw [hl2,List.length_replicate]
  unfold L_bits_Bytes_7
  refine iter_acc (fun i s=>∃ z:Sl 1 (W .u8),s=(v,z,Sl.len l2,wi i,())∧z.l=bytesL v.v i++List.replicate (n - i) (W.of .u8 0)) n _ ?_ ?_ ⟨l2,rfl,by rw [hl2];rfl⟩ (by show _ < 1048576;omega)
  ·rintro i s hi ⟨z,rfl,hz⟩
   have hzl:z.l.length=n:=by rw [hz,List.length_append,bytesL_len,List.length_replicate];omega
   have hm:=mul8 (i:=i) (by omega)
   have hsh:W.shr? v (W.mul (W.of .i64 8) (wi i))=some (W.shr v (W.mul (W.of .i64 8) (wi i))):=by
    unfold W.shr?;rw [if_neg (by rw [hm];omega)]
   have hlt:W.lt (wi i) (Sl.len l2)=true:=by rw [Sl.len_wi,hln,wi_lt (by unfold room;omega) (by unfold room;omega)];simpa using hi
   simp only [B_bits_Bytes_7,ev_ite,ev_opt,ev_ret,hlt,if_true,hsh,bind_some',wi_idx (show i≤room by unfold room;omega),hzl,hi,wi_add (show i < room by unfold room;omega)]
   refine ⟨_,rfl,_,rfl,?_⟩
   show z.l.set i _=_
   have hmv:(W.mul (W.of .i64 8) (wi i)).v=8*i:=by unfold W.v;rw [hm];omega
   have hb:W.conv .u8 (W.shr v (W.mul (W.of .i64 8) (wi i)))=W.of .u8 ((v.v / 256 ^ i % 256:Nat):Int):=by
    refine u8_ext ?_
    rw [W.uconv rfl rfl,W.shr_v,hmv,pow256,u8_of,show (2:Nat) ^ IntKind.u8.bits=256 from rfl,Nat.mod_mod]
   rw [hb,hz,bytesL_succ]
   have hrep:List.replicate (n - i) (W.of .u8 0)=W.of .u8 0 :: List.replicate (n - (i+1)) (W.of .u8 0):=by
    rw [show n - i=(n - (i+1))+1 by omega,List.replicate_succ]
   rw [hrep,List.set_append_right _ _ (by rw [bytesL_len];omega),bytesL_len,Nat.sub_self]
   simp
  ·rintro s ⟨z,rfl,hz⟩
   have hlt:W.lt (wi n) (Sl.len l2)=false:=by rw [Sl.len_wi,hln,wi_lt (by unfold room;omega) (by unfold room;omega)];simp
   simp only [B_bits_Bytes_7,ev_ite,ev_ret,hlt]
   exact ⟨_,rfl,by rw [hz,Nat.sub_self];simp⟩
 obtain ⟨o,h1,h2⟩:=key ⟨List.replicate n (W.of .u8 0),by rw [List.length_replicate];unfold room;omega⟩ rfl
 unfold F_bits_Bytes T_bits_Bytes
 simp only [ev_opt,ev_ret,hcl,bind_some',hmk,show L_bits_Bytes_7 (v,_,_,W.of .i64 0,())=_ from h1]
 exact ⟨_,rfl,h2⟩
theorem cpL_get {l bs:List (W .u8)} {a:Nat} (h:a+bs.length≤l.length) (j:Nat):(cpL l a bs)[j]?=if a≤j∧j < a+bs.length then bs[j - a]? else l[j]?:=by
 unfold cpL
 rw [List.take_of_length_le (l:=bs) (by omega)]
 by_cases h1:j < a
 ·rw [List.getElem?_append_left (by rw [List.length_take];omega),List.getElem?_take,if_pos h1,if_neg (by omega)]
 ·rw [List.getElem?_append_right (by rw [List.length_take];omega),List.length_take,Nat.min_eq_left (by omega)]
  by_cases h2:j < a+bs.length
  ·rw [List.getElem?_append_left (by omega),if_pos (by omega)]
  ·rw [List.getElem?_append_right (by omega),List.getElem?_drop,if_neg (by omega)]
   congr 1;omega
theorem cpL_next {l bs:List (W .u8)} {a:Nat} {x:W .u8} (h:a+bs.length < l.length):(cpL l a bs).set (a+bs.length) x=cpL l a (bs++[x]):=by
 have h':a+(bs++[x]).length≤l.length:=by rw [List.length_append];simp;omega
 refine List.ext_getElem? fun j=>?_
 rw [List.getElem?_set,cpL_length,cpL_get (by omega),cpL_get h',List.length_append]
 simp only [List.length_cons,List.length_nil]
 by_cases hj:a+bs.length=j
 ·subst hj
  rw [if_pos rfl,if_pos h,if_pos (by omega),List.getElem?_append_right (by omega)]
  simp
 ·rw [if_neg hj]
  by_cases h2:a≤j∧j < a+bs.length
  ·rw [if_pos h2,if_pos (by omega),List.getElem?_append_left (by omega)]
  ·rw [if_neg h2,if_neg (by omega)]
theorem write_p (m:Sl 1 (W .u8)) (a:W .u32) (s:W .i64) (v:W .u32):(chkB m a s=false∧F_mem_Write m a s v=some (Sl.nil,W.of .i64 9))∨(chkB m a s=true∧∃ r,F_mem_Write m a s v=some (r,W.of .i64 0)∧r.l=cpL m.l a.v (bytesL v.v s.v)):=by
 unfold F_mem_Write T_mem_Write
 rw [ev_opt,check_p]
 cases h:chkB m a s with
 | false=>exact .inl ⟨rfl,rfl⟩
 | true=>
  obtain ⟨h1,h2,h3⟩:=chk_of h
  obtain ⟨r5,e1,e2⟩:=bytes_p v s.v (by omega)
  rw [←sz_wi h3] at e1
  have hvw:vw? m.l.length (some a.v) none=some ():=by unfold vw?;rw [if_pos];simp;omega
  simp only [if_true,bind_some',ev_ite,W.ne_self,Bool.false_eq_true,if_false,ev_opt,nat_u32,show F_slices_Clone_byte m=some m from rfl,hvw,e1,ev_ret]
  exact .inr ⟨trivial,_,rfl,by show cpL m.l a.v r5.l=_;rw [e2]⟩
theorem write_d (m:Sl 1 (W .u8)) (a:W .u32) (s:W .i64) (v:W .u32):(chkB m a s=false∧F_ref10_Write m a s v=some (Sl.nil,W.of .i64 9))∨(chkB m a s=true∧∃ r,F_ref10_Write m a s v=some (r,W.of .i64 0)∧r.l=cpL m.l a.v (bytesL v.v s.v)):=by
 unfold F_ref10_Write T_ref10_Write
 rw [ev_opt,check_d]
 cases h:chkB m a s with
 | false=>exact .inl ⟨rfl,rfl⟩
 | true=>
  obtain ⟨h1,h2,h3⟩:=chk_of h
  have hm:=m.h.2
  have hlen:=bytesL_len v.v
  have key:∃ o,L_ref10_Write_15 (a,s,v,m,wi 0,())=some o∧o.1.l=cpL m.l a.v (bytesL v.v s.v):=by
   unfold L_ref10_Write_15
   refine iter_acc (fun i z=>∃ (w:W .u32) (x:Sl 1 (W .u8)),z=(a,s,w,x,wi i,())∧w.v=v.v / 256 ^ i∧x.l=cpL m.l a.v (bytesL v.v i)) s.v _ ?_ ?_ ⟨v,m,rfl,by simp,by unfold bytesL cpL;simp⟩ (by show _ < 1048576;omega)
   ·rintro i z hi ⟨w,x,rfl,hw,hx⟩
    have hxl:x.l.length=m.l.length:=by rw [hx,cpL_length]
    have hlt:W.lt (wi i) s=true:=W.lt_n.2 (by rw [wi_n (by unfold room;omega),h3];omega)
    simp only [B_ref10_Write_15,ev_ite,ev_opt,ev_ret,hlt,if_true,add64 (a:=a) (k:=i) (by omega),wi_idx (show a.v+i≤room by omega),hxl,show a.v+i < m.l.length by omega,bind_some',wi_add (show i < room by unfold room;omega)]
    refine ⟨_,rfl,_,_,rfl,?_,?_⟩
    ·rw [W.quo_v,hw,show (W.of .u32 256).v=256 from rfl,Nat.div_div_eq_div_mul,Nat.pow_succ]
    ·show x.l.set (a.v+i) _=_
     have hb:W.conv .u8 (W.rem w (W.of .u32 256))=W.of .u8 ((v.v / 256 ^ i % 256:Nat):Int):=by
      refine u8_ext ?_
      rw [W.uconv rfl rfl,W.rem_v,hw,u8_of];rfl
     rw [hb,hx,bytesL_succ,←cpL_next (by rw [hlen];omega),hlen]
   ·rintro z ⟨w,x,rfl,hw,hx⟩
    have hlt:W.lt (wi s.v) s=false:=by
     unfold W.lt;rw [wi_n (by unfold room;omega),h3];simp
    simp only [B_ref10_Write_15,ev_ite,ev_ret,hlt]
    exact ⟨_,rfl,hx⟩
  obtain ⟨o,k1,k2⟩:=key
  simp only [if_true,bind_some',ev_ite,W.ne_self,Bool.false_eq_true,if_false,ev_opt,show L_ref10_Write_15 (a,s,v,m,W.of .i64 0,())=_ from k1,ev_ret]
  exact .inr ⟨trivial,_,rfl,k2⟩
end Go.Proofs.YtedhidchlfhegaaGreatDoor
