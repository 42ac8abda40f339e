/- YtijckobfnmkjdaaGreatDoorMem: memory is read and written as the document says. No statement of the seat is proved here. -/
import Derived.Test.YtijckobfnmkjdaaGreatDoorCsr
set_option linter.unusedSimpArgs false
set_option linter.unusedVariables false
set_option maxRecDepth 100000
namespace Go.Proofs.YtijckobfnmkjdaaGreatDoor
open Go Go.A2
def sz (s:W .i64):Prop:=s.n=1∨s.n=2∨s.n=4
instance (s : W .i64) : Decidable (sz s) := inferInstanceAs (Decidable (_ ∨ _ ∨ _))
def chkB (m:Sl 1 (W .u8)) (a:W .u32) (s:W .i64):Bool:=decide (sz s∧a.n+s.n≤m.l.length)
theorem sz_eq {s:W .i64}:(W.eq s (W.of .i64 1)=true∨W.eq s (W.of .i64 2)=true∨W.eq s (W.of .i64 4)=true) ↔ sz s:=by
 unfold sz;rw [W.eq_n,W.eq_n,W.eq_n];rfl
theorem gt_len {m:Sl 1 (W .u8)} {a:W .u32} {s:W .i64} (h:sz s):W.gt (W.add (W.conv .u64 a) (W.conv .u64 s)) (W.conv .u64 (Sl.len m))=!decide (a.n+s.n≤m.l.length):=by
 have ha:=a.r_u32
 have hm:=m.h.2
 unfold room at hm
 have e1:(W.add (W.conv .u64 a) (W.conv .u64 s)).n=a.n+s.n:=by
  unfold sz at h
  rw [W.add_n,W.conv_n,W.conv_n,wrap_u64,wrap_u64,wrap_u64];omega
 have e2:(W.conv .u64 (Sl.len m)).n=m.l.length:=by rw [W.conv_n,Sl.len_n,wrap_u64];omega
 refine iff_bool ?_
 rw [W.gt_n,e1,e2];simp
theorem check_p (m:Sl 1 (W .u8)) (a:W .u32) (s:W .i64):F_mem_Check m a s=some (if chkB m a s=true then W.of .i64 0 else W.of .i64 9):=by
 unfold F_mem_Check T_mem_Check chkB
 simp only [ev_ite,ev_ret,W.ne_eq]
 by_cases hs:sz s
 ·rw [gt_len hs]
  have:=sz_eq.2 hs
  have h2:decide (sz s∧a.n+s.n≤m.l.length)=decide (a.n+s.n≤m.l.length):=decide_eq_decide.2 ⟨fun h=>h.2,fun h=>⟨hs,h⟩⟩
  rw [h2]
  revert this
  cases W.eq s (W.of .i64 1)<;>cases W.eq s (W.of .i64 2)<;>cases W.eq s (W.of .i64 4)<;>cases decide (a.n+s.n≤m.l.length)<;>intro this<;>first | rfl | simp at this
 ·have:=mt sz_eq.1 hs
  have h2:decide (sz s∧a.n+s.n≤m.l.length)=false:=decide_eq_false fun h=>hs h.1
  rw [h2]
  revert this
  cases W.eq s (W.of .i64 1)<;>cases W.eq s (W.of .i64 2)<;>cases W.eq s (W.of .i64 4)<;>intro this<;>first | rfl | simp at this
theorem chk_of {m:Sl 1 (W .u8)} {a:W .u32} {s:W .i64} (h:chkB m a s=true):(s.v=1∨s.v=2∨s.v=4)∧a.v+s.v≤m.l.length∧s.n=s.v:=by
 have:=of_decide_eq_true h
 have ha:=a.n_v
 unfold sz at this
 unfold W.v at ha ⊢
 omega
def ofB:List (W .u8)→Nat
 | []=>0
 | x :: l=>x.v+256*ofB l
theorem u8_lt (x:W .u8):x.v < 256:=by have:=x.r_u8;unfold W.v;omega
theorem ofB_lt:∀ l:List (W .u8),ofB l < 256 ^ l.length
 | []=>by simp [ofB]
 | x :: l=>by
  have:=ofB_lt l
  have:=u8_lt x
  simp only [ofB,List.length_cons,Nat.pow_succ]
  omega
theorem ofB_app:∀ (l:List (W .u8)) (x:W .u8),ofB (l++[x])=ofB l+x.v*256 ^ l.length
 | [],x=>by simp [ofB]
 | y :: l,x=>by
  simp only [List.cons_append,ofB,ofB_app l x,List.length_cons,Nat.pow_succ]
  rw [Nat.mul_add,Nat.add_assoc]
  congr 2
  rw [Nat.mul_comm 256,Nat.mul_assoc]
theorem conv8_v (x:W .u8):(W.conv .u32 x).v=x.v:=by
 have:=u8_lt x
 rw [W.uconv rfl rfl];exact Nat.mod_eq_of_lt (by show x.v < 4294967296;omega)
theorem mul8 {i:Nat} (h:i≤100):(W.mul (W.of .i64 8) (wi i)).n=8*i:=by
 rw [W.mul_n,wi_n (by unfold room;omega),show (W.of .i64 8).n=8 from rfl,wrap_i64];omega
theorem nat_wi {i:Nat} (h:i≤room):nat? (wi i)=some i:=by unfold nat?;rw [wi_n h,if_pos (by omega)];rfl
theorem sub_ok {b:Nat} {α:Type} {x:Sl b α} {lo hi:Nat} (h:lo≤hi∧hi≤x.l.length):∃ r,Sl.sub? x lo hi=some r∧r.l=(x.l.take hi).drop lo:=by
 unfold Sl.sub?;rw [dif_pos h];exact ⟨_,rfl,rfl⟩
theorem pow256 (i:Nat):(2:Nat) ^ (8*i)=256 ^ i:=by rw [Nat.pow_mul]
theorem of_bytes (b:Sl 1 (W .u8)) (h:b.l.length≤4):F_bits_Of b=some (W.of .u32 (ofB b.l:Nat)):=by
 have hroom:=b.h.2
 have hmin:W.min (Sl.len b) (W.of .i64 4)=wi b.l.length:=by
  refine W.ext ?_
  rw [W.min_n,Sl.len_n,show (W.of .i64 4).n=4 from rfl,wi_n hroom]
  split<;>omega
 obtain ⟨l2,e1,e2⟩:=sub_ok (x:=b) (lo:=0) (hi:=b.l.length) ⟨by omega,Nat.le_refl _⟩
 rw [List.take_length,List.drop_zero] at e2
 have key:∃ o,L_bits_Of_7 (W.of .u32 0,l2,Sl.len l2,wi 0,())=some o∧o.1.v=ofB b.l:=by
  unfold L_bits_Of_7
  refine iter_acc (fun i s=>∃ v:W .u32,s=(v,l2,Sl.len l2,wi i,())∧v.v=ofB (l2.l.take i)) l2.l.length _ ?_ ?_ ⟨_,rfl,rfl⟩ (by rw [e2];show _ < 1048576;omega)
  ·rintro i s hi ⟨v,rfl,hv⟩
   have hi4:i < 4:=by rw [e2] at hi;omega
   have hm:=mul8 (i:=i) (by omega)
   have hsh:W.shl? (W.conv .u32 (nth l2.l i)) (W.mul (W.of .i64 8) (wi i))=some (W.shl (W.conv .u32 (nth l2.l i)) (W.mul (W.of .i64 8) (wi i))):=by
    unfold W.shl?;rw [if_neg (by rw [hm];omega)]
   simp only [B_bits_Of_7,ev_ite,ev_opt,ev_ret,lt_len l2 hi,Sl.get_wi l2 hi,if_true,bind_some',hsh,wi_next l2 hi]
   refine ⟨_,rfl,_,rfl,?_⟩
   have hb:=u8_lt (nth l2.l i)
   have hmv:(W.mul (W.of .i64 8) (wi i)).v=8*i:=by unfold W.v;rw [hm];omega
   have hlt:ofB (l2.l.take i) < 256 ^ i:=by
    have:=ofB_lt (l2.l.take i)
    rwa [List.length_take,Nat.min_eq_left (by omega)] at this
   have hp:(nth l2.l i).v*256 ^ i < 4294967296:=by
    have h3:256 ^ i≤16777216:=by
     have:256 ^ i≤256 ^ 3:=Nat.pow_le_pow_right (by omega) (by omega)
     exact this
    calc (nth l2.l i).v*256 ^ i≤255*256 ^ i:=Nat.mul_le_mul_right _ (by omega)
     _≤255*16777216:=Nat.mul_le_mul_left _ h3
     _ < 4294967296:=by decide
   rw [W.or_v,hv,W.shl_v,conv8_v,hmv,pow256,Nat.mod_eq_of_lt hp,take_nth hi,ofB_app,List.length_take,Nat.min_eq_left (by omega)]
   rw [←pow256] at hlt ⊢
   rw [Nat.or_comm,Nat.mul_comm,←Nat.two_pow_add_eq_or_of_lt hlt,Nat.add_comm]
  ·rintro s ⟨v,rfl,hv⟩
   simp only [B_bits_Of_7,ev_ite,ev_ret,lt_end l2]
   exact ⟨_,rfl,by rw [List.take_length,e2] at hv;exact hv⟩
 obtain ⟨o,h1,h2⟩:=key
 unfold F_bits_Of T_bits_Of
 simp only [ev_opt,ev_ret,hmin,nat_wi hroom,bind_some',e1,show L_bits_Of_7 (W.of .u32 0,l2,Sl.len l2,W.of .i64 0,())=_ from h1]
 rw [←h2,←W.n_v,W.of_self]
def bytesAt (m:List (W .u8)) (a n:Nat):List (W .u8):=(m.take (a+n)).drop a
theorem bytesAt_len {m:List (W .u8)} {a n:Nat} (h:a+n≤m.length):(bytesAt m a n).length=n:=by
 unfold bytesAt;rw [List.length_drop,List.length_take];omega
theorem add64 {a:W .u32} {k:Nat} (h:k≤1000):W.add (W.conv .i64 a) (wi k)=wi (a.v+k):=by
 have:=a.v_lt
 refine W.ext ?_
 rw [W.add_n,W.conv_i64_v,wi_n (by unfold room;omega),wi_n (by unfold room;omega),wrap_i64];omega
theorem nat_u32 (a:W .u32):nat? a=some a.v:=by
 have:=a.r_u32
 unfold nat?;rw [if_pos (by omega)];rfl
theorem sz_wi {s:W .i64} (h:s.n=s.v):s=wi s.v:=of_small (by omega)
theorem read_p (m:Sl 1 (W .u8)) (a:W .u32) (s:W .i64):F_mem_Read m a s=some (if chkB m a s=true then (W.of .u32 (ofB (bytesAt m.l a.v s.v):Nat),W.of .i64 0) else (W.of .u32 0,W.of .i64 9)):=by
 unfold F_mem_Read T_mem_Read
 rw [ev_opt,check_p]
 cases h:chkB m a s with
 | false=>rfl
 | true=>
  obtain ⟨h1,h2,h3⟩:=chk_of h
  have hm:=m.h.2
  obtain ⟨l4,e1,e2⟩:=sub_ok (x:=m) (lo:=a.v) (hi:=a.v+s.v) ⟨by omega,h2⟩
  have hadd:W.add (W.conv .i64 a) s=wi (a.v+s.v):=by
   have:=add64 (a:=a) (k:=s.v) (by omega)
   rwa [←sz_wi h3] at this
  simp only [if_true,bind_some',ev_ite,W.ne_self,Bool.false_eq_true,if_false,ev_opt,nat_u32,hadd,nat_wi (show a.v+s.v≤room by omega),e1,ev_ret]
  rw [of_bytes l4 (by rw [e2];have:=bytesAt_len h2;unfold bytesAt at this;omega),bind_some',e2]
  rfl
def bytesL (x n:Nat):List (W .u8):=(List.range n).map fun i=>W.of .u8 ((x / 256 ^ i % 256:Nat):Int)
theorem cpL_get {l bs:List (W .u8)} {a:Nat} (h:a+bs.length≤l.length) (j:Nat):(cpL l a bs)[j]?=if a≤j∧j < a+bs.length then bs[j - a]? else l[j]?:=by
 unfold cpL
 rw [List.take_of_length_le (l:=bs) (by omega)]
 by_cases h1:j < a
 ·rw [List.getElem?_append_left (by rw [List.length_take];omega),List.getElem?_take,if_pos h1,if_neg (by omega)]
 ·rw [List.getElem?_append_right (by rw [List.length_take];omega),List.length_take,Nat.min_eq_left (by omega)]
  by_cases h2:j < a+bs.length
  ·rw [List.getElem?_append_left (by omega),if_pos (by omega)]
  ·rw [List.getElem?_append_right (by omega),List.getElem?_drop,if_neg (by omega)]
   congr 1;omega
end Go.Proofs.YtijckobfnmkjdaaGreatDoor
