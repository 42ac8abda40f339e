/- YtijckobfnmkjdaaGreatDoorPa4: words of bits: logic, shifts, turns. No statement of the seat is proved here. -/
import Derived.Test.YtijckobfnmkjdaaGreatDoorPa1
set_option linter.unusedSimpArgs false
set_option linter.unusedVariables false
namespace Go.Proofs.YtijckobfnmkjdaaGreatDoor
open Go Go.A2
theorem i64_zero:(W.of .i64 0).n=0:=lit64 0 (by omega)
theorem i64_one:(W.of .i64 1).n=1:=lit64 1 (by omega)
theorem i64_32:(W.of .i64 32).n=32:=lit64 32 (by omega)
theorem succ_n {i:W .i64} (h:-9223372036854775808≤i.n∧i.n < 9223372036854775807):(W.add i (W.of .i64 1)).n=i.n+1:=by rw [W.add_n,i64_one,wrap_i64];omega
theorem pred_n {i:W .i64} (h:-9223372036854775808 < i.n∧i.n≤9223372036854775807):(W.sub i (W.of .i64 1)).n=i.n - 1:=by rw [W.sub_n,i64_one,wrap_i64];omega
theorem quo2 (x:W .u32):(W.quo x (W.of .u32 2)).v=x.v / 2:=by rw [W.quo_v,two]
theorem bit_eq {x:W .u32} {i:W .i64} (h:0≤i.n∧i.n < 64):F_ref03_bit x i=some (W.of .u32 ((x.v / 2 ^ i.v % 2:Nat):Int)):=by
 have hx:=x.v_lt
 have hlt:x.v / 2 ^ i.v < 4294967296:=Nat.lt_of_le_of_lt (Nat.div_le_self _ _) hx
 have key:L_ref03_bit_5 (x,i,W.of .i64 0,())=some (W.of .u32 ((x.v / 2 ^ i.v:Nat):Int),()):=by
  unfold L_ref03_bit_5
  refine iter_eq (I:=fun a=>a.2.1=i∧0≤a.2.2.1.n∧a.2.2.1.n≤i.n∧a.1.v=x.v / 2 ^ a.2.2.1.v) (μ:=fun a=>(i.n - a.2.2.1.n).toNat) _ ?_ ⟨rfl,?_,?_,?_⟩ ?_
  ·rintro ⟨y,i',k,u⟩ ⟨h1,h2,h3,h4⟩
   simp only at h1 h2 h3 h4 ⊢
   subst h1
   simp only [B_ref03_bit_5,ev_ite,ev_ret,W.lt_n]
   by_cases hk:k.n < i'.n
   ·left
    have hk1:=succ_n (i:=k) (by omega)
    refine ⟨_,if_pos hk,⟨rfl,?_,?_,?_⟩,?_⟩
    ·show 0≤(W.add k (W.of .i64 1)).n;omega
    ·show (W.add k (W.of .i64 1)).n≤_;omega
    ·show (W.quo y (W.of .u32 2)).v=_
     have:(W.add k (W.of .i64 1)).v=k.v+1:=by unfold W.v;omega
     rw [quo2,this,h4,Nat.div_div_eq_div_mul,Nat.pow_succ]
    ·show (i'.n - (W.add k (W.of .i64 1)).n).toNat < _;omega
   ·right
    have:k=i':=W.ext (by omega)
    subst this
    rw [if_neg hk]
    congr 3
    apply W.ext_v
    rw [h4,litv32 _ hlt]
  ·show 0≤(W.of .i64 0).n;rw [i64_zero];omega
  ·show (W.of .i64 0).n≤_;rw [i64_zero];omega
  ·show x.v=x.v / 2 ^ (W.of .i64 0).v
   have:(W.of .i64 0).v=0:=by unfold W.v;rw [i64_zero];rfl
   rw [this,Nat.pow_zero,Nat.div_one]
  ·show (i.n - (W.of .i64 0).n).toNat < fuel
   unfold fuel;rw [i64_zero];omega
 simp only [F_ref03_bit,T_ref03_bit,ev_opt,ev_ret,key,Option.bind_some]
 congr 1
 apply W.ext_v
 rw [W.rem_v,two,litv32 _ hlt,litv32 _ (by omega)]
theorem word_eq {l:Arr 32 (W .u32)} {y:Nat} (hy:y < 4294967296) (hb:∀ i:Nat,i < 32→(l.get i).v=y / 2 ^ i % 2):F_ref03_word l=some (W.of .u32 (y:Int)):=by
 have h31:(W.of .i64 31).n=31:=lit64 31 (by omega)
 have key:L_ref03_word_7 (l,W.of .u32 0,W.of .i64 31,())=some (W.of .u32 (y:Int),()):=by
  unfold L_ref03_word_7
  refine iter_eq (I:=fun a=>a.1=l∧-1≤a.2.2.1.n∧a.2.2.1.n≤31∧a.2.1.v=y / 2 ^ (a.2.2.1.n+1).toNat) (μ:=fun a=>(a.2.2.1.n+1).toNat) _ ?_ ⟨rfl,?_,?_,?_⟩ ?_
  ·rintro ⟨l',x,i,u⟩ ⟨h1,h2,h3,h4⟩
   simp only at h1 h2 h3 h4 ⊢
   subst h1
   simp only [B_ref03_word_7,ev_ite,ev_ret,ev_opt,W.ge_n,i64_zero]
   by_cases hi:i.n ≥ 0
   ·left
    have hi1:=pred_n (i:=i) (by omega)
    rw [if_pos hi,idx?_some (by omega),Option.bind_some]
    refine ⟨_,rfl,⟨rfl,?_,?_,?_⟩,?_⟩
    ·show -1≤(W.sub i (W.of .i64 1)).n;omega
    ·show (W.sub i (W.of .i64 1)).n≤31;omega
    ·show (W.add (W.mul (W.of .u32 2) x) (l'.get i.n.toNat)).v=y / 2 ^ ((W.sub i (W.of .i64 1)).n+1).toNat
     rw [hi1,show (i.n - 1+1).toNat=i.n.toNat by omega,W.add_v,W.mul_v,two,h4,hb _ (by omega),show (i.n+1).toNat=i.n.toNat+1 by omega,Nat.pow_succ,←Nat.div_div_eq_div_mul]
     have:y / 2 ^ i.n.toNat≤y:=Nat.div_le_self _ _
     generalize y / 2 ^ i.n.toNat=z at this ⊢
     omega
    ·show ((W.sub i (W.of .i64 1)).n+1).toNat < _;omega
   ·right
    rw [if_neg hi]
    congr 3
    apply W.ext_v
    have:(i.n+1).toNat=0:=by omega
    rw [h4,this,litv32 _ hy,Nat.pow_zero,Nat.div_one]
  ·show -1≤(W.of .i64 31).n;rw [h31];omega
  ·show (W.of .i64 31).n≤31;rw [h31];omega
  ·show (W.of .u32 0).v=y / 2 ^ ((W.of .i64 31).n+1).toNat
   rw [h31,zero32]
   exact (Nat.div_eq_of_lt hy).symm
  ·show ((W.of .i64 31).n+1).toNat < fuel
   unfold fuel;rw [h31];decide
 simp only [F_ref03_word,T_ref03_word,ev_opt,ev_ret,key,Option.bind_some]
theorem bit01 (x i:Nat):x / 2 ^ i % 2=if x.testBit i then 1 else 0:=by
 have:=Nat.toNat_testBit x i
 rw [←this];cases x.testBit i<;>rfl
theorem bit_lt (x i:Nat):x / 2 ^ i % 2 < 4294967296:=by omega
theorem logic_eq {a b least most:W .u32} {y:Nat} (hy:y < 4294967296) (hb:∀ i:Nat,i < 32→y / 2 ^ i % 2=if least.v≤a.v / 2 ^ i % 2+b.v / 2 ^ i % 2∧a.v / 2 ^ i % 2+b.v / 2 ^ i % 2≤most.v then 1 else 0):
  F_ref03_logic a b least most=some (W.of .u32 (y:Int)):=by
 have key:∃ o,L_ref03_logic_7 (a,b,least,most,Arr.rep 32 (W.of .u32 0),W.of .i64 0,())=some o∧∀ j:Nat,j < 32→(o.1.get j).v=y / 2 ^ j % 2:=by
  unfold L_ref03_logic_7
  refine iter_inv (I:=fun t=>t.1=a∧t.2.1=b∧t.2.2.1=least∧t.2.2.2.1=most∧0≤t.2.2.2.2.2.1.n∧t.2.2.2.2.2.1.n≤32∧∀ j:Nat,j < 32→(t.2.2.2.2.1.get j).v=if (j:Int) < t.2.2.2.2.2.1.n then y / 2 ^ j % 2 else 0)
   (μ:=fun t=>(32 - t.2.2.2.2.2.1.n).toNat) _ ?_ ⟨rfl,rfl,rfl,rfl,?_,?_,?_⟩ ?_
  ·rintro ⟨a',b',le,mo,l,i,u1,u2,u3,u4⟩ ⟨h1,h2,h3,h4,h5,h6,h7⟩
   simp only at h1 h2 h3 h4 h5 h6 h7 ⊢
   subst h1 h2 h3 h4
   simp only [B_ref03_logic_7,ev_ite,ev_ret,ev_opt,W.lt_n,W.ge_n,W.le_n,i64_32]
   by_cases hi:i.n < 32
   ·left
    have hi1:=succ_n (i:=i) (by omega)
    have hiv:i.v=i.n.toNat:=rfl
    have hbi:=hb i.n.toNat (by omega)
    rw [if_pos hi,bit_eq (by omega),bit_eq (by omega),idx?_some (by omega)]
    simp only [Option.bind_some,hiv]
    have hs:(W.add (W.of .u32 ((a'.v / 2 ^ i.n.toNat % 2:Nat):Int)) (W.of .u32 ((b'.v / 2 ^ i.n.toNat % 2:Nat):Int))).n=((a'.v / 2 ^ i.n.toNat % 2+b'.v / 2 ^ i.n.toNat % 2:Nat):Int):=by
     rw [W.n_v,W.add_v,litv32 _ (bit_lt _ _),litv32 _ (bit_lt _ _)];omega
    rw [hs,le.n_v,mo.n_v]
    have fin:∀ (l':Arr 32 (W .u32)),(∀ j:Nat,j < 32→(l'.get j).v=if (j:Int) < i.n+1 then y / 2 ^ j % 2 else 0)→
      ∃ t,some (Rnd.next (a',b',le,mo,l',W.add i (W.of .i64 1),()):Rnd (W .u32×W .u32×W .u32×W .u32×Arr 32 (W .u32)×W .i64×Unit) (Arr 32 (W .u32)×Unit))=some (.next t) ∧
       (t.1=a'∧t.2.1=b'∧t.2.2.1=le∧t.2.2.2.1=mo∧0≤t.2.2.2.2.2.1.n∧t.2.2.2.2.2.1.n≤32∧∀ j:Nat,j < 32→(t.2.2.2.2.1.get j).v=if (j:Int) < t.2.2.2.2.2.1.n then y / 2 ^ j % 2 else 0)∧(32 - t.2.2.2.2.2.1.n).toNat < (32 - i.n).toNat:=fun l' hl'=>by
     refine ⟨_,rfl,⟨rfl,rfl,rfl,rfl,?_,?_,fun j hj=>?_⟩,?_⟩
     ·show 0≤(W.add i (W.of .i64 1)).n;omega
     ·show (W.add i (W.of .i64 1)).n≤32;omega
     ·show (l'.get j).v=if (j:Int) < (W.add i (W.of .i64 1)).n then _ else _
      rw [hi1];exact hl' j hj
     ·show (32 - (W.add i (W.of .i64 1)).n).toNat < _;omega
    have off:y / 2 ^ i.n.toNat % 2=0→∀ j:Nat,j < 32→(l.get j).v=if (j:Int) < i.n+1 then y / 2 ^ j % 2 else 0:=fun h0 j hj=>by
     rw [h7 j hj]
     by_cases hji:(j:Int)=i.n
     ·have:j=i.n.toNat:=by omega
      rw [if_neg (by omega),if_pos (by omega),this,h0]
     ·by_cases hlt:(j:Int) < i.n
      ·rw [if_pos hlt,if_pos (by omega)]
      ·rw [if_neg hlt,if_neg (by omega)]
    by_cases c1:le.v≤a'.v / 2 ^ i.n.toNat % 2+b'.v / 2 ^ i.n.toNat % 2
    ·rw [if_pos (by omega)]
     by_cases c2:a'.v / 2 ^ i.n.toNat % 2+b'.v / 2 ^ i.n.toNat % 2≤mo.v
     ·rw [if_pos (by omega)]
      rw [if_pos ⟨c1,c2⟩] at hbi
      refine fin _ fun j hj=>?_
      rw [Arr.get_set (by omega)]
      by_cases hji:i.n.toNat=j
      ·subst hji
       rw [if_pos rfl,if_pos (by omega),hbi,one32]
      ·rw [if_neg hji,h7 j hj]
       by_cases hlt:(j:Int) < i.n
       ·rw [if_pos hlt,if_pos (by omega)]
       ·rw [if_neg hlt,if_neg (by omega)]
     ·rw [if_neg (by omega)]
      rw [if_neg fun h=>c2 h.2] at hbi
      exact fin _ (off hbi)
    ·rw [if_neg (by omega)]
     rw [if_neg fun h=>c1 h.1] at hbi
     exact fin _ (off hbi)
   ·right
    rw [if_neg hi]
    refine ⟨_,rfl,fun j hj=>?_⟩
    show (l.get j).v=_
    rw [h7 j hj,if_pos (by omega)]
  ·show 0≤(W.of .i64 0).n;rw [i64_zero];omega
  ·show (W.of .i64 0).n≤32;rw [i64_zero];omega
  ·intro j hj
   show ((Arr.rep 32 (W.of .u32 0)).get j).v=if (j:Int) < (W.of .i64 0).n then _ else 0
   rw [Arr.get_rep hj,i64_zero,if_neg (by omega),zero32]
  ·show (32 - (W.of .i64 0).n).toNat < fuel
   rw [i64_zero];unfold fuel;decide
 obtain ⟨o,h1,h2⟩:=key
 simp only [F_ref03_logic,T_ref03_logic,ev_opt,ev_ret,h1,Option.bind_some,word_eq hy h2]
theorem moved_eq {x fill:W .u32} {by':W .i64} (hby:-32≤by'.n∧by'.n≤32) {y:Nat} (hy:y < 4294967296)
  (hb:∀ i:Nat,i < 32→y / 2 ^ i % 2=if 0≤(i:Int)+by'.n∧(i:Int)+by'.n < 32 then x.v / 2 ^ ((i:Int)+by'.n).toNat % 2 else fill.v):
  F_ref03_moved x by' fill=some (W.of .u32 (y:Int)):=by
 have key:∃ o,L_ref03_moved_7 (x,by',fill,Arr.rep 32 (W.of .u32 0),W.of .i64 0,())=some o∧∀ j:Nat,j < 32→(o.1.get j).v=y / 2 ^ j % 2:=by
  unfold L_ref03_moved_7
  refine iter_inv (I:=fun t=>t.1=x∧t.2.1=by'∧t.2.2.1=fill∧0≤t.2.2.2.2.1.n∧t.2.2.2.2.1.n≤32∧∀ j:Nat,j < 32→(j:Int) < t.2.2.2.2.1.n→(t.2.2.2.1.get j).v=y / 2 ^ j % 2)
   (μ:=fun t=>(32 - t.2.2.2.2.1.n).toNat) _ ?_ ⟨rfl,rfl,rfl,?_,?_,?_⟩ ?_
  ·rintro ⟨x',b',f',l,i,u1,u2,u3,u4,u5⟩ ⟨h1,h2,h3,h5,h6,h7⟩
   simp only at h1 h2 h3 h5 h6 h7 ⊢
   subst h1 h2 h3
   simp only [B_ref03_moved_7,ev_ite,ev_ret,ev_opt,W.lt_n,W.ge_n,i64_32,i64_zero]
   by_cases hi:i.n < 32
   ·left
    have hi1:=succ_n (i:=i) (by omega)
    have hs:(W.add i b').n=i.n+b'.n:=by rw [W.add_n,wrap_i64];omega
    have hbi:=hb i.n.toNat (by omega)
    rw [show ((i.n.toNat:Nat):Int)=i.n by omega] at hbi
    have fin:∀ (l':Arr 32 (W .u32)),(∀ j:Nat,j < 32→(j:Int) < i.n+1→(l'.get j).v=y / 2 ^ j % 2)→
      ∃ t,some (Rnd.next (x',b',f',l',W.add i (W.of .i64 1),()):Rnd (W .u32×W .i64×W .u32×Arr 32 (W .u32)×W .i64×Unit) (Arr 32 (W .u32)×Unit))=some (.next t) ∧
       (t.1=x'∧t.2.1=b'∧t.2.2.1=f'∧0≤t.2.2.2.2.1.n∧t.2.2.2.2.1.n≤32∧∀ j:Nat,j < 32→(j:Int) < t.2.2.2.2.1.n→(t.2.2.2.1.get j).v=y / 2 ^ j % 2)∧(32 - t.2.2.2.2.1.n).toNat < (32 - i.n).toNat:=fun l' hl'=>by
     refine ⟨_,rfl,⟨rfl,rfl,rfl,?_,?_,fun j hj hjn=>?_⟩,?_⟩
     ·show 0≤(W.add i (W.of .i64 1)).n;omega
     ·show (W.add i (W.of .i64 1)).n≤32;omega
     ·have hjn:(j:Int) < (W.add i (W.of .i64 1)).n:=hjn
      exact hl' j hj (by omega)
     ·show (32 - (W.add i (W.of .i64 1)).n).toNat < _;omega
    rw [if_pos hi,idx?_some (by omega)]
    simp only [Option.bind_some,hs]
    have outside:¬ (0≤i.n+b'.n∧i.n+b'.n < 32)→∀ j:Nat,j < 32→(j:Int) < i.n+1→((l.set i.n.toNat f').get j).v=y / 2 ^ j % 2:=fun hn j hj hjn=>by
     rw [if_neg hn] at hbi
     rw [Arr.get_set (by omega)]
     by_cases hji:i.n.toNat=j
     ·subst hji;rw [if_pos rfl,hbi]
     ·rw [if_neg hji];exact h7 j hj (by omega)
    by_cases c1:i.n+b'.n ≥ 0
    ·rw [if_pos c1]
     by_cases c2:i.n+b'.n < 32
     ·rw [if_pos ⟨c1,c2⟩] at hbi
      rw [if_pos c2,bit_eq (by omega)]
      simp only [Option.bind_some]
      refine fin _ fun j hj hjn=>?_
      rw [Arr.get_set (by omega)]
      by_cases hji:i.n.toNat=j
      ·subst hji
       rw [if_pos rfl,litv32 _ (bit_lt _ _),hbi]
       have:(W.add i b').v=(i.n+b'.n).toNat:=by unfold W.v;rw [hs]
       rw [this]
      ·rw [if_neg hji,Arr.get_set (by omega),if_neg hji];exact h7 j hj (by omega)
     ·rw [if_neg c2]
      exact fin _ (outside fun h=>c2 h.2)
    ·rw [if_neg c1]
     exact fin _ (outside fun h=>c1 h.1)
   ·right
    rw [if_neg hi]
    refine ⟨_,rfl,fun j hj=>?_⟩
    exact h7 j hj (by omega)
  ·show 0≤(W.of .i64 0).n;rw [i64_zero];omega
  ·show (W.of .i64 0).n≤32;rw [i64_zero];omega
  ·intro j hj hjn
   have hjn:(j:Int) < (W.of .i64 0).n:=hjn
   rw [i64_zero] at hjn;omega
  ·show (32 - (W.of .i64 0).n).toNat < fuel
   rw [i64_zero];unfold fuel;decide
 obtain ⟨o,h1,h2⟩:=key
 simp only [F_ref03_moved,T_ref03_moved,ev_opt,ev_ret,h1,Option.bind_some,word_eq hy h2]
theorem turned_eq {x:W .u32} {s:W .i64} (hs:0≤s.n∧s.n≤32) {y:Nat} (hy:y < 4294967296) (hb:∀ i:Nat,i < 32→y / 2 ^ i % 2=x.v / 2 ^ ((i+s.v) % 32) % 2):F_ref03_turned x s=some (W.of .u32 (y:Int)):=by
 have key:∃ o,L_ref03_turned_7 (x,s,Arr.rep 32 (W.of .u32 0),W.of .i64 0,())=some o∧∀ j:Nat,j < 32→(o.1.get j).v=y / 2 ^ j % 2:=by
  unfold L_ref03_turned_7
  refine iter_inv (I:=fun t=>t.1=x∧t.2.1=s∧0≤t.2.2.2.1.n∧t.2.2.2.1.n≤32∧∀ j:Nat,j < 32→(j:Int) < t.2.2.2.1.n→(t.2.2.1.get j).v=y / 2 ^ j % 2)
   (μ:=fun t=>(32 - t.2.2.2.1.n).toNat) _ ?_ ⟨rfl,rfl,?_,?_,?_⟩ ?_
  ·rintro ⟨x',s',l,i,u1⟩ ⟨h1,h2,h5,h6,h7⟩
   simp only at h1 h2 h5 h6 h7 ⊢
   subst h1 h2
   simp only [B_ref03_turned_7,ev_ite,ev_ret,ev_opt,W.lt_n,i64_32]
   by_cases hi:i.n < 32
   ·left
    have hi1:=succ_n (i:=i) (by omega)
    have hsv:s'.v=s'.n.toNat:=rfl
    have ha:(W.add i s').n=i.n+s'.n:=by rw [W.add_n,wrap_i64];omega
    have hr:(W.rem (W.add i s') (W.of .i64 32)).n=(i.n+s'.n) % 32:=by
     rw [W.rem_n,ha,i64_32,wrap_i64,Int.tmod_eq_emod_of_nonneg (by omega)];omega
    rw [if_pos hi,bit_eq (by rw [hr];omega),idx?_some (by omega)]
    simp only [Option.bind_some]
    refine ⟨_,rfl,⟨rfl,rfl,?_,?_,fun j hj hjn=>?_⟩,?_⟩
    ·show 0≤(W.add i (W.of .i64 1)).n;omega
    ·show (W.add i (W.of .i64 1)).n≤32;omega
    ·have hjn:(j:Int) < (W.add i (W.of .i64 1)).n:=hjn
     show ((l.set i.n.toNat _).get j).v=_
     rw [Arr.get_set (by omega)]
     by_cases hji:i.n.toNat=j
     ·subst hji
      rw [if_pos rfl,litv32 _ (bit_lt _ _),hb _ hj]
      have:(W.rem (W.add i s') (W.of .i64 32)).v=(i.n.toNat+s'.v) % 32:=by unfold W.v;rw [hr];omega
      rw [this]
     ·rw [if_neg hji];exact h7 j hj (by omega)
    ·show (32 - (W.add i (W.of .i64 1)).n).toNat < _;omega
   ·right
    rw [if_neg hi]
    refine ⟨_,rfl,fun j hj=>?_⟩
    exact h7 j hj (by omega)
  ·show 0≤(W.of .i64 0).n;rw [i64_zero];omega
  ·show (W.of .i64 0).n≤32;rw [i64_zero];omega
  ·intro j hj hjn
   have hjn:(j:Int) < (W.of .i64 0).n:=hjn
   rw [i64_zero] at hjn;omega
  ·show (32 - (W.of .i64 0).n).toNat < fuel
   rw [i64_zero];unfold fuel;decide
 obtain ⟨o,h1,h2⟩:=key
 simp only [F_ref03_turned,T_ref03_turned,ev_opt,ev_ret,h1,Option.bind_some,word_eq hy h2]
end Go.Proofs.YtijckobfnmkjdaaGreatDoor
