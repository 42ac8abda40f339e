/- YtedhidchlfhegaaGreatDoorLine: numbers as texts: the program's are the document's. No statement of the seat is proved here. -/
import Derived.Test.YtedhidchlfhegaaGreatDoorFirst
set_option linter.unusedSimpArgs false
set_option linter.unusedVariables false
set_option maxRecDepth 100000
namespace Go.Proofs.YtedhidchlfhegaaGreatDoor
open Go Go.A2
theorem v32 {a b:W .u32} (h:a.v=b.v):a=b:=W.ext (by have:=a.r_u32;have:=b.r_u32;unfold W.v at h;omega)
theorem ofv (a:W .u32):a=W.of .u32 (a.v:Nat):=v32 (by rw [W.of_v _ a.v_lt])
def hexd (n:Nat):UInt8:=UInt8.ofNat (if n < 10 then 48+n else 87+n)
abbrev DIG:Str:=Str.mk [48,49,50,51,52,53,54,55,56,57,97,98,99,100,101,102] (by decide)
theorem dig_get (x:W .u32) (h:x.v < 16):Str.get? DIG x=some (W.of .u8 (hexd x.v).toNat):=by
 have:=all_lt (p:=fun k=>decide (Str.get? DIG (W.of .u32 (k:Nat))=some (W.of .u8 (hexd k).toNat))) (n:=16) (by kernel_rfl) h
 rw [ofv x]
 rw [W.of_v _ x.v_lt]
 exact of_decide_eq_true this
theorem dig_doc (x:W .u32) (h:x.v < 16):∃ d,F_ref02_digit x=some d∧UInt8.ofNat d.n.toNat=hexd x.v:=by
 have:=all_lt (p:=fun k=>match F_ref02_digit (W.of .u32 (k:Nat)) with | some d=>decide (UInt8.ofNat d.n.toNat=hexd k) | none=>false) (n:=16) (by kernel_rfl) h
 rw [←ofv x] at this
 revert this
 cases F_ref02_digit x with
 | none=>intro h;cases h
 | some d=>intro h;exact ⟨d,rfl,of_decide_eq_true h⟩
theorem byte_back (b:UInt8):UInt8.ofNat (W.of .u8 (b.toNat:Nat)).n.toNat=b:=by
 have h:=b.toNat_lt
 have:(W.of .u8 (b.toNat:Nat)).n=b.toNat:=by rw [W.of_n];unfold IntKind.wrap;simp [IntKind.signed,IntKind.bits];omega
 rw [this]
 exact UInt8.ofNat_toNat
def hexL (u:Nat):List UInt8:=(List.range 8).map fun i=>hexd (u / 16 ^ (7 - i) % 16)
theorem hexL_len (u:Nat):(hexL u).length=8:=by unfold hexL;rw [List.length_map,List.length_range]
theorem hexL_at {u i:Nat} (h:i < (hexL u).length):(hexL u)[i]=hexd (u / 16 ^ (7 - i) % 16):=by simp [hexL]
theorem hex_p (u:W .u32):∃ s,F_num_Hex u=some s∧s.l=hexL u.v:=by
 have key:∃ o,L_num_Hex_7 (u,Arr.rep 8 (W.of .u8 0),wi 0,())=some o∧∃ b:Arr 8 (W .u8),(∀ i,i < 8→b.get i=W.of .u8 (hexd (u.v / 16 ^ (7 - i) % 16)).toNat)∧o=(b,()):=by
  unfold L_num_Hex_7
  refine iter_til (fun j s=>∃ b:Arr 8 (W .u8),(∀ i,i < j→b.get i=W.of .u8 (hexd (u.v / 16 ^ (7 - i) % 16)).toNat)∧s=(u,b,wi j,())) 8 _ ?_ ?_ ⟨_,fun i h=>(by omega),rfl⟩ (by decide)
  ·rintro j s hj ⟨b,hb,rfl⟩
   have hlt:W.lt (wi j) (W.of .i64 8)=true:=(lt_small (m:=8) (by omega) (by omega)).trans (by simpa using hj)
   have h1:(W.and (W.shr u (W.conv (.u64) (W.sub (W.of .i64 28) (W.mul (W.of .i64 4) (wi j))))) (W.of .u32 15)).v=u.v / 16 ^ (7 - j) % 16:=by
    have:(W.conv .u64 (W.sub (W.of .i64 28) (W.mul (W.of .i64 4) (wi j)))).v=4*(7 - j):=by
     unfold W.v
     rw [W.conv_n,W.sub_n,W.mul_n,show (W.of .i64 4).n=4 from rfl,show (W.of .i64 28).n=28 from rfl,wi_n (sm (by omega)),wrap_i64,wrap_i64,wrap_u64];omega
    rw [W.and_v,W.shr_v,this,show (W.of .u32 15).v=2 ^ 4 - 1 from rfl,Nat.and_two_pow_sub_one_eq_mod,Nat.pow_mul]
   have h2:=dig_get _ (show (W.and (W.shr u (W.conv (.u64) (W.sub (W.of .i64 28) (W.mul (W.of .i64 4) (wi j))))) (W.of .u32 15)).v < 16 by rw [h1];exact Nat.mod_lt _ (by decide))
   rw [h1] at h2
   simp only [B_num_Hex_7,ev_ite,ev_opt,ev_ret,hlt,if_true,h2,bind_some',wi_idx (sm (show j≤1000 by omega)),hj,add_small (show j < 1000 by omega)]
   refine .inl ⟨_,rfl,_,fun i hi=>?_,rfl⟩
   rw [Arr.get_set hj]
   by_cases e:j=i
   ·rw [if_pos e,e]
   ·rw [if_neg e];exact hb i (by omega)
  ·rintro s ⟨b,hb,rfl⟩
   exact ⟨_,rfl,b,hb,rfl⟩
 obtain ⟨o,k1,b,hb,rfl⟩:=key
 have hl:b.l.length=8:=b.h
 unfold F_num_Hex T_num_Hex
 simp only [ev_opt,ev_ret,show L_num_Hex_7 (u,Arr.rep 8 (W.of .u8 0),W.of .i64 0,())=_ from k1,bind_some']
 unfold Sl.mk? Sl.sub?
 rw [dif_pos (by rw [hl];decide)]
 simp only [bind_some']
 rw [dif_pos ⟨by rw [hl];decide,Nat.le_refl _⟩]
 refine ⟨_,rfl,?_⟩
 unfold strOf hexL
 simp only [List.take_length,List.drop_zero]
 refine List.ext_getElem (by rw [List.length_map,List.length_map,hl,List.length_range]) fun i h1 h2=>?_
 rw [List.length_map,hl] at h1
 have h3:=hb i h1
 unfold Arr.get at h3
 rw [getD_nth (by rw [hl];exact h1),nth_elem (by rw [hl];exact h1)] at h3
 rw [List.getElem_map,List.getElem_map,List.getElem_range,h3,byte_back]
theorem hex_d (u:W .u32):∃ s,F_ref02_Hex u=some s∧s.l=hexL u.v:=by
 have key:∃ o,L_ref02_Hex_9 (Str.mk [] (by decide),u,wi 0,())=some o∧∃ s:Str,s.l=hexL u.v∧o=(s,()):=by
  unfold L_ref02_Hex_9
  refine iter_til (fun j s=>∃ (t:Str) (x:W .u32),x.v=u.v / 16 ^ j∧t.l=(hexL u.v).drop (8 - j)∧s=(t,x,wi j,())) 8 _ ?_ ?_ ⟨_,u,by simp,by rw [List.drop_eq_nil_of_le (by rw [hexL_len];decide)],rfl⟩ (by decide)
  ·rintro j s hj ⟨t,x,hx,ht,rfl⟩
   have hlt:W.lt (wi j) (W.of .i64 8)=true:=(lt_small (m:=8) (by omega) (by omega)).trans (by simpa using hj)
   have h1:(W.rem x (W.of .u32 16)).v=u.v / 16 ^ j % 16:=by rw [W.rem_v,hx];rfl
   obtain ⟨d,d1,d2⟩:=dig_doc (W.rem x (W.of .u32 16)) (by rw [h1];exact Nat.mod_lt _ (by decide))
   have hlen:t.l.length=j:=by rw [ht,List.length_drop,hexL_len];omega
   have hc:Str.cat? (strOf (Sl.lit 1 [d] rfl)) t=some ⟨UInt8.ofNat d.n.toNat :: t.l,by rw [List.length_cons,hlen];unfold room;omega⟩:=by
    unfold Str.cat?
    rw [dif_pos (by show (UInt8.ofNat d.n.toNat :: t.l).length≤room;rw [List.length_cons,hlen];unfold room;omega)]
    rfl
   simp only [B_ref02_Hex_9,ev_ite,ev_opt,ev_ret,hlt,if_true,d1,hc,bind_some',add_small (show j < 1000 by omega)]
   refine .inl ⟨_,rfl,_,_,?_,?_,rfl⟩
   ·rw [W.quo_v,hx,show (W.of .u32 16).v=16 from rfl,Nat.div_div_eq_div_mul,Nat.pow_succ]
   ·show UInt8.ofNat d.n.toNat :: t.l=_
    rw [d2,h1,ht,show 8 - j=(8 - (j+1))+1 by omega]
    have:8 - (j+1) < (hexL u.v).length:=by rw [hexL_len];omega
    rw [←List.getElem_cons_drop this,hexL_at,show 7 - (8 - (j+1))=j by omega]
  ·rintro s ⟨t,x,hx,ht,rfl⟩
   exact ⟨_,rfl,t,by rw [ht];rfl,rfl⟩
 obtain ⟨o,k1,s,hs,rfl⟩:=key
 unfold F_ref02_Hex T_ref02_Hex
 simp only [ev_opt,ev_ret,show L_ref02_Hex_9 (Str.mk [] (by decide),u,W.of .i64 0,())=_ from k1,bind_some']
 exact ⟨s,rfl,hs⟩
def decd (n:Nat):UInt8:=UInt8.ofNat (48+n)
def decF:Nat→Nat→List UInt8→List UInt8
 | 0,_,acc=>acc
 | f+1,n,acc=>if n≤9 then decd n :: acc else decF f (n / 10) (decd (n % 10) :: acc)
theorem decF_len:∀ (f n:Nat) (acc:List UInt8),(decF f n acc).length≤f+acc.length:=by
 intro f
 induction f with
 | zero=>exact fun n acc=>by show acc.length≤_;omega
 | succ f ih=>
  intro n acc
  unfold decF
  split
  ·rw [List.length_cons];omega
  ·refine Nat.le_trans (ih _ _) ?_
   rw [List.length_cons];omega
theorem dig10 (x:W .u64) (h:x.v < 10):Str.get? DIG x=some (W.of .u8 (decd x.v).toNat):=by
 have:=all_lt (p:=fun k=>decide (Str.get? DIG (W.of .u64 (k:Nat))=some (W.of .u8 (decd k).toNat))) (n:=10) (by kernel_rfl) h
 have e:x=W.of .u64 (x.v:Nat):=W.ext (by have:=x.r_u64;rw [W.of_n,wrap_u64];unfold W.v at h ⊢;omega)
 rw [e]
 rw [show (W.of .u64 (x.v:Nat)).v=x.v by rw [←e]]
 exact of_decide_eq_true this
theorem dec_loop (n0:W .i64):∀ (f:Nat) (N:Nat) (u:W .u64) (at_:Nat) (b:Arr 20 (W .u8)),u.v < 10 ^ (f+1)→f≤at_→at_ < 20→f < N→
  ∃ (b':Arr 20 (W .u8)) (u':W .u64) (at':Nat),iter (fun a:W .i64×Arr 20 (W .u8)×W .u64×W .i64×Unit=>(B_num_Dec_13 a.1 a.2.1 a.2.2.1 a.2.2.2.1).eval) N (n0,b,u,wi at_,())=some (n0,b',u',wi at',())∧u'.v < 10∧at_≤at'+f∧at' < 20∧∀ acc,(b.l.drop (at_+1)).map (fun w=>UInt8.ofNat w.n.toNat)=acc→decd u'.v :: (b'.l.drop (at'+1)).map (fun w=>UInt8.ofNat w.n.toNat)=decF (f+1) u.v acc:=by
 intro f
 induction f with
 | zero=>
  intro N u at_ b hu hf ha hN
  obtain ⟨N,rfl⟩:∃ M,N=M+1:=⟨N - 1,by omega⟩
  have hu9:u.v≤9:=by omega
  have hg:W.gt u (W.of .u64 9)=false:=by
   have:¬ W.gt u (W.of .u64 9)=true:=by
    have:=u.r_u64
    unfold W.v at hu9
    rw [W.gt_n,show (W.of .u64 9).n=9 from rfl];omega
   simpa using this
  refine ⟨b,u,at_,?_,by omega,by omega,ha,fun acc h=>?_⟩
  ·rw [iter_succ]
   simp only [B_num_Dec_13,ev_ite,ev_ret,hg,Bool.false_eq_true,if_false]
  ·unfold decF;rw [if_pos hu9,h]
 | succ f ih=>
  intro N u at_ b hu hf ha hN
  obtain ⟨N,rfl⟩:∃ M,N=M+1:=⟨N - 1,by omega⟩
  have hr:=u.r_u64
  by_cases c:u.v≤9
  ·have hg:W.gt u (W.of .u64 9)=false:=by
    have:¬ W.gt u (W.of .u64 9)=true:=by
     unfold W.v at c
     rw [W.gt_n,show (W.of .u64 9).n=9 from rfl];omega
    simpa using this
   refine ⟨b,u,at_,?_,by omega,by omega,ha,fun acc h=>?_⟩
   ·rw [iter_succ]
    simp only [B_num_Dec_13,ev_ite,ev_ret,hg,Bool.false_eq_true,if_false]
   ·unfold decF;rw [if_pos c,h]
  ·have hg:W.gt u (W.of .u64 9)=true:=by
    unfold W.v at c
    rw [W.gt_n,show (W.of .u64 9).n=9 from rfl];omega
   have hn:u.n=(u.v:Int):=by unfold W.v;omega
   have h1:(W.rem u (W.of .u64 10)).v=u.v % 10:=by
    have e:u.n.tmod 10=((u.v % 10:Nat):Int):=by rw [hn,show ((10:Int))=((10:Nat):Int) from rfl,←Int.ofNat_tmod]
    have:u.v < 18446744073709551616:=by omega
    rw [show (W.rem u (W.of .u64 10)).v=(W.rem u (W.of .u64 10)).n.toNat from rfl,W.rem_n,show (W.of .u64 10).n=10 from rfl,e,wrap_u64];omega
   have h2:(W.quo u (W.of .u64 10)).v=u.v / 10:=by
    have e:u.n.tdiv 10=((u.v / 10:Nat):Int):=by rw [hn,show ((10:Int))=((10:Nat):Int) from rfl,←Int.ofNat_tdiv]
    have:u.v < 18446744073709551616:=by omega
    rw [show (W.quo u (W.of .u64 10)).v=(W.quo u (W.of .u64 10)).n.toNat from rfl,W.quo_n,show (W.of .u64 10).n=10 from rfl,e,wrap_u64];omega
   have h3:=dig10 (W.rem u (W.of .u64 10)) (by rw [h1];exact Nat.mod_lt _ (by decide))
   rw [h1] at h3
   obtain ⟨at_,rfl⟩:∃ k,at_=k+1:=⟨at_ - 1,by omega⟩
   have hi:idx? 20 (wi (at_+1))=some (at_+1):=by rw [wi_idx (sm (by omega)),if_pos ha]
   obtain ⟨b',u',at',k1,k2,k3,k4,k5⟩:=ih N (W.quo u (W.of .u64 10)) at_ (b.set (at_+1) (W.of .u8 (decd (u.v % 10)).toNat)) (by rw [h2,Nat.div_lt_iff_lt_mul (by decide)];rw [Nat.pow_succ] at hu;exact hu) (by omega) (by omega) (by omega)
   refine ⟨b',u',at',?_,k2,by omega,k4,fun acc h=>?_⟩
   ·have hs:(B_num_Dec_13 n0 b u (wi (at_+1))).eval=some (.next (n0,b.set (at_+1) (W.of .u8 (decd (u.v % 10)).toNat),W.quo u (W.of .u64 10),wi at_,())):=by
     simp only [B_num_Dec_13,ev_ite,ev_opt,ev_ret,hg,if_true,h3,bind_some',hi,wi_sub (show at_+1≤room by unfold room;omega)]
    rw [iter_succ]
    simp only [hs]
    exact k1
   ·have:=k5 (decd (u.v % 10) :: acc) (by
     have hl:b.l.length=20:=b.h
     show ((b.l.set (at_+1) _).drop (at_+1)).map _=_
     have hlt:at_+1 < (b.l.set (at_+1) (W.of .u8 (decd (u.v % 10)).toNat)).length:=by rw [List.length_set];omega
     rw [←List.getElem_cons_drop hlt,List.getElem_set_self,List.map_cons,byte_back,List.drop_set_of_lt (by omega),h])
    rw [this,h2]
    unfold decF
    rw [if_neg c]
    rfl
def decL (n:Int):List UInt8:=if n < 0 then 45 :: decF 19 n.natAbs [] else decF 19 n.natAbs []
theorem dec_tail (n0:W .i64) (u:W .u64) (hu:u.v=n0.n.natAbs):
  ∃ (b':Arr 20 (W .u8)) (u':W .u64) (at':Nat),L_num_Dec_13 (n0,Arr.rep 20 (W.of .u8 0),u,W.of .i64 19,())=some (n0,b',u',wi at',())∧u'.v < 10∧1≤at'∧at' < 20∧decd u'.v :: (b'.l.drop (at'+1)).map (fun w=>UInt8.ofNat w.n.toNat)=decF 19 n0.n.natAbs []:=by
 have hr:=W.r_i64 n0
 obtain ⟨b',u',at',k1,k2,k3,k4,k5⟩:=dec_loop n0 18 fuel u 19 (Arr.rep 20 (W.of .u8 0)) (by rw [hu];show _ < 10000000000000000000;omega) (by decide) (by decide) (by decide)
 exact ⟨b',u',at',k1,k2,by omega,k4,by rw [←hu];exact k5 [] rfl⟩
theorem arr_mk {b:Arr 20 (W .u8)}:Sl.mk? 1 b.l=some ⟨b.l,by rw [b.h];decide⟩:=by
 unfold Sl.mk?
 rw [dif_pos (by rw [b.h];decide)]
theorem sl_sub {l:List (W .u8)} (hl:l.length=20) (h:l.length*1≤room∧l.length≤room) {k:Nat} (hk:k < 20):∃ s:Sl 1 (W .u8),Sl.sub? (⟨l,h⟩:Sl 1 (W .u8)) k (List.length l)=some s∧s.l=l.drop k:=by
 unfold Sl.sub?
 rw [dif_pos ⟨by show k≤l.length;omega,Nat.le_refl _⟩]
 exact ⟨_,rfl,by simp⟩
theorem dec_end (b:Arr 20 (W .u8)) (u:W .u64) (hu:u.v < 10) {k:Nat} (hk:k < 20) (l:List UInt8) (h:decd u.v :: (b.l.drop (k+1)).map (fun w=>UInt8.ofNat w.n.toNat)=l):
  Str.get? DIG u=some (W.of .u8 (decd u.v).toNat)∧idx? 20 (wi k)=some k∧(((b.set k (W.of .u8 (decd u.v).toNat)).l.drop k).map fun w=>UInt8.ofNat w.n.toNat)=l:=by
 refine ⟨dig10 u hu,by rw [wi_idx (sm (by omega)),if_pos hk],?_⟩
 have hl:b.l.length=20:=b.h
 show ((b.l.set k _).drop k).map _=_
 have hlt:k < (b.l.set k (W.of .u8 (decd u.v).toNat)).length:=by rw [List.length_set];omega
 rw [←List.getElem_cons_drop hlt,List.getElem_set_self,List.map_cons,byte_back,List.drop_set_of_lt (by omega),h]
theorem dec_p (n:W .i64):∃ s,F_num_Dec n=some s∧s.l=decL n.n:=by
 have hr:=W.r_i64 n
 unfold F_num_Dec T_num_Dec
 have g:W.lt n (W.of .i64 0)=decide (n.n < 0):=rfl
 simp only [ev_ite,ev_opt,ev_ret,g,decide_eq_true_eq]
 by_cases c:n.n < 0
 ·rw [if_pos c]
  obtain ⟨b,u,k,k1,k2,k3,k4,k5⟩:=dec_tail n (W.neg (W.conv .u64 n)) (by unfold W.v;rw [W.neg_n,W.conv_n,wrap_u64,wrap_u64];omega)
  obtain ⟨e1,e2,e3⟩:=dec_end b u k2 k4 _ k5
  have hs:W.sub (wi k) (W.of .i64 1)=wi (k - 1):=by
   obtain ⟨k,rfl⟩:∃ j,k=j+1:=⟨k - 1,by omega⟩
   exact wi_sub (by unfold room;omega)
  have hi:idx? 20 (wi (k - 1))=some (k - 1):=by rw [wi_idx (sm (by omega)),if_pos (by omega)]
  have hn:nat? (wi (k - 1))=some (k - 1):=by unfold nat?;rw [wi_n (sm (by omega)),if_pos (by omega)];rfl
  obtain ⟨s,s1,s2⟩:=sl_sub (l:=(Arr.set (Arr.set b k (W.of .u8 (decd u.v).toNat)) (k - 1) (W.of .u8 45)).l) (Arr.set (Arr.set b k (W.of .u8 (decd u.v).toNat)) (k - 1) (W.of .u8 45)).h (by rw [(Arr.set (Arr.set b k (W.of .u8 (decd u.v).toNat)) (k - 1) (W.of .u8 45)).h];decide) (k:=k - 1) (by omega)
  simp only [k1,bind_some',e1,e2,g,decide_eq_true_eq,c,if_true,hs,hi,hn,arr_mk,s1]
  refine ⟨_,rfl,?_⟩
  show s.l.map _=_
  have hl:(b.set k (W.of .u8 (decd u.v).toNat)).l.length=20:=(b.set k (W.of .u8 (decd u.v).toNat)).h
  rw [s2]
  show ((List.set (b.set k (W.of .u8 (decd u.v).toNat)).l (k - 1) (W.of .u8 45)).drop (k - 1)).map _=_
  have hlt:k - 1 < (List.set (b.set k (W.of .u8 (decd u.v).toNat)).l (k - 1) (W.of .u8 45)).length:=by rw [List.length_set];omega
  rw [←List.getElem_cons_drop hlt,List.getElem_set_self,List.map_cons,List.drop_set_of_lt (by omega),show k - 1+1=k by omega,e3]
  unfold decL
  rw [if_pos c]
  rfl
 ·rw [if_neg c]
  obtain ⟨b,u,k,k1,k2,k3,k4,k5⟩:=dec_tail n (W.conv .u64 n) (by unfold W.v;rw [W.conv_n,wrap_u64];omega)
  obtain ⟨e1,e2,e3⟩:=dec_end b u k2 k4 _ k5
  have hn:nat? (wi k)=some k:=by unfold nat?;rw [wi_n (sm (by omega)),if_pos (by omega)];rfl
  obtain ⟨s,s1,s2⟩:=sl_sub (l:=(Arr.set b k (W.of .u8 (decd u.v).toNat)).l) (Arr.set b k (W.of .u8 (decd u.v).toNat)).h (by rw [(Arr.set b k (W.of .u8 (decd u.v).toNat)).h];decide) (k:=k) k4
  simp only [k1,bind_some',e1,e2,g,decide_eq_true_eq,c,if_false,hn,arr_mk,s1]
  refine ⟨_,rfl,?_⟩
  show s.l.map _=_
  rw [s2,e3]
  unfold decL
  rw [if_neg c]
theorem dec_doc:∀ (f:Nat) (N:Nat) (n0 x:W .i64) (o:Str) (n:Nat),x.n=-(n:Int)→n < 10 ^ f→o.l.length+f≤100→f < N→
  ∃ o':Str,iter (fun a:W .i64×Str×W .i64×Unit=>(B_ref02_Dec_17 a.1 a.2.1 a.2.2.1).eval) N (n0,o,x,())=some (n0,o',())∧o'.l=if n=0 then o.l else decF f n o.l:=by
 have fin:∀ (N:Nat) (n0 x:W .i64) (o:Str),x.n=0→iter (fun a:W .i64×Str×W .i64×Unit=>(B_ref02_Dec_17 a.1 a.2.1 a.2.2.1).eval) (N+1) (n0,o,x,())=some (n0,o,()):=fun N n0 x o h=>by
  have hg:W.ne x (W.of .i64 0)=false:=by rw [W.ne_eq,W.eq_dec,show x=W.of .i64 0 from W.ext h];simp
  have hs:(B_ref02_Dec_17 n0 o x).eval=some (.out (n0,o,())):=by simp only [B_ref02_Dec_17,ev_ite,ev_ret,hg,Bool.false_eq_true,if_false]
  rw [iter_succ]
  simp only [hs]
 intro f
 induction f with
 | zero=>
  intro N n0 x o n hx hn hl hN
  obtain ⟨N,rfl⟩:∃ M,N=M+1:=⟨N - 1,by omega⟩
  have:n=0:=by simp at hn;omega
  subst this
  exact ⟨o,fin N n0 x o (by omega),by rw [if_pos rfl]⟩
 | succ f ih=>
  intro N n0 x o n hx hn hl hN
  obtain ⟨N,rfl⟩:∃ M,N=M+1:=⟨N - 1,by omega⟩
  by_cases c:n=0
  ·subst c
   exact ⟨o,fin N n0 x o (by omega),by rw [if_pos rfl]⟩
  ·have hr:=W.r_i64 x
   have hg:W.ne x (W.of .i64 0)=true:=by
    rw [W.ne_eq,W.eq_dec]
    have:x ≠ W.of .i64 0:=fun h=>by rw [h,show (W.of .i64 0).n=0 from rfl] at hx;omega
    simp [this]
   have hm:x.n.tmod 10=-((n % 10:Nat):Int):=by rw [hx,Int.neg_tmod,show ((10:Int))=((10:Nat):Int) from rfl,←Int.ofNat_tmod]
   have hd:x.n.tdiv 10=-((n / 10:Nat):Int):=by rw [hx,Int.neg_tdiv,show ((10:Int))=((10:Nat):Int) from rfl,←Int.ofNat_tdiv]
   have hlt:=Nat.mod_lt n (show 0 < 10 by decide)
   have hb:UInt8.ofNat (W.conv .u8 (W.add (W.of .i64 48) (W.neg (W.rem x (W.of .i64 10))))).n.toNat=decd (n % 10):=by
    unfold decd
    congr 1
    rw [W.conv_n,W.add_n,W.neg_n,W.rem_n,show (W.of .i64 48).n=48 from rfl,show (W.of .i64 10).n=10 from rfl,hm,wrap_i64,wrap_i64,wrap_i64,wrap_u8];omega
   have hc:Str.cat? (strOf (Sl.lit 1 [W.conv .u8 (W.add (W.of .i64 48) (W.neg (W.rem x (W.of .i64 10))))] rfl)) o=some ⟨decd (n % 10) :: o.l,by rw [List.length_cons];unfold room;omega⟩:=by
    unfold Str.cat?
    rw [dif_pos (by show (_ :: o.l).length≤room;rw [List.length_cons];unfold room;omega)]
    refine congrArg some (Str.ext ?_)
    show UInt8.ofNat _ :: o.l=_
    rw [hb]
   have hs:(B_ref02_Dec_17 n0 o x).eval=some (.next (n0,⟨decd (n % 10) :: o.l,by rw [List.length_cons];unfold room;omega⟩,W.quo x (W.of .i64 10),())):=by
    simp only [B_ref02_Dec_17,ev_ite,ev_opt,ev_ret,hg,if_true,hc,bind_some']
   obtain ⟨o',k1,k2⟩:=ih N n0 (W.quo x (W.of .i64 10)) ⟨decd (n % 10) :: o.l,by rw [List.length_cons];unfold room;omega⟩ (n / 10) (by rw [W.quo_n,show (W.of .i64 10).n=10 from rfl,hd,wrap_i64];omega) (by rw [Nat.div_lt_iff_lt_mul (by decide)];rw [Nat.pow_succ] at hn;exact hn) (by show (_ :: o.l).length+f≤100;rw [List.length_cons];omega) (by omega)
   refine ⟨o',?_,?_⟩
   ·rw [iter_succ]
    simp only [hs]
    exact k1
   ·rw [k2,if_neg c]
    conv=>rhs;unfold decF
    by_cases c9:n≤9
    ·rw [if_pos c9,if_pos (by omega),show n % 10=n by omega]
    ·rw [if_neg c9,if_neg (by omega)]
theorem cat_ok {a b:Str} (h:a.l.length+b.l.length≤1000):∃ c,Str.cat? a b=some c∧c.l=a.l++b.l:=by
 unfold Str.cat?
 rw [dif_pos (by rw [List.length_append];unfold room;omega)]
 exact ⟨_,rfl,rfl⟩
theorem dec_d (n:W .i64):∃ s,F_ref02_Dec n=some s∧s.l=decL n.n:=by
 have hr:=W.r_i64 n
 have main:∀ x:W .i64,x.n=-(n.n.natAbs:Int)→n.n.natAbs ≠ 0→∃ o',L_ref02_Dec_17 (n,Str.mk [] (by decide),x,())=some (n,o',())∧o'.l=decF 19 n.n.natAbs []:=fun x hx h0=>by
  obtain ⟨o,k1,k2⟩:=dec_doc 19 fuel n x (Str.mk [] (by decide)) n.n.natAbs hx (by show _ < 10000000000000000000;omega) (by decide) (by decide)
  exact ⟨o,k1,by rw [k2,if_neg h0]⟩
 unfold F_ref02_Dec T_ref02_Dec
 have g1:W.lt n (W.of .i64 0)=decide (n.n < 0):=rfl
 have g2:W.gt n (W.of .i64 0)=decide (0 < n.n):=iff_bool (by rw [W.gt_n,show (W.of .i64 0).n=0 from rfl,decide_eq_true_eq])
 have g3:W.eq n (W.of .i64 0)=decide (n.n=0):=iff_bool (by rw [W.eq_n,show (W.of .i64 0).n=0 from rfl,decide_eq_true_eq])
 simp only [ev_ite,ev_opt,ev_ret,g2,g3,decide_eq_true_eq]
 by_cases c0:n.n=0
 ·rw [if_pos c0]
  refine ⟨_,rfl,?_⟩
  rw [c0];rfl
 ·rw [if_neg c0]
  by_cases c1:0 < n.n
  ·rw [if_pos c1]
   obtain ⟨o,k1,k2⟩:=main (W.neg n) (by rw [W.neg_n,wrap_i64];omega) (by omega)
   simp only [k1,bind_some',g1,decide_eq_true_eq,show ¬ n.n < 0 by omega,if_false]
   exact ⟨o,rfl,by rw [k2];unfold decL;rw [if_neg (by omega)]⟩
  ·rw [if_neg c1]
   obtain ⟨o,k1,k2⟩:=main n (by omega) (by omega)
   have hl:=decF_len 19 n.n.natAbs []
   rw [←k2] at hl
   obtain ⟨z,z1,z2⟩:=cat_ok (a:=Str.mk [45] (by decide)) (b:=o) (by show [45].length+o.l.length≤1000;simp at hl ⊢;omega)
   simp only [k1,bind_some',g1,decide_eq_true_eq,show n.n < 0 by omega,if_true,z1]
   exact ⟨z,rfl,by rw [z2,k2];unfold decL;rw [if_pos (by omega)];rfl⟩
end Go.Proofs.YtedhidchlfhegaaGreatDoor
