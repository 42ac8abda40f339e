/- YtnpgljilkkipkaaGreatAud2: predictors that may be. No statement of the seat is proved here. -/
import Derived.Test.YtnpgljilkkipkaaGreatAud1
set_option linter.unusedSimpArgs false
set_option linter.unusedVariables false
set_option maxRecDepth 100000
namespace Go.Proofs.YtnpgljilkkipkaaGreat
open Go Go.A2
theorem GW {n:W .i64} {lo hi:Nat} (h:inB n (wi lo) (wi hi)=true) (h1:lo≤1000:=by omega) (h2:hi≤1000:=by omega):∃ k,n=wi k∧lo≤k∧k≤hi:=by
 unfold inB at h
 rw [Bool.and_eq_true,W.ge_n,W.le_n,aQ (by unfold aw;omega),aQ (by unfold aw;omega)] at h
 exact ahw h.1 h.2
noncomputable def Ws (k:Nat):Bool:=qk (AM (wi k)) (AO (W.min (W.max (wi k) (W.of .i64 0)) (W.of .i64 8))) (2 ^ k)
theorem Wt:(List.range 9).all Ws=true:=by kernel_rfl
noncomputable def Wq (k:Nat):Bool:=qk (AF (wi k)) (AP (wi k)) k
theorem Wr:(List.range 17).all Wq=true:=by kernel_rfl
noncomputable def Wu (k:Nat):Bool:=qk (AN (wi k)) (AQ (wi k)) k
theorem Wv:(List.range 17).all Wu=true:=by kernel_rfl
theorem adj {c:TConf} {kh kb kr:Nat} (h1:c.Hist=wi kh) (h1':kh < 9) (h2:c.Btb=wi kb) (h2':kb < 17) (h3:c.Ras=wi kr) (h3':kr < 17):∃ p,td c=some p∧mw c=some p∧p.Table.l.length=2 ^ kh∧p.Btb.l.length=kb∧p.Ras.l.length=kr:=by
 obtain ⟨a1,p1,q1,l1⟩:=Iu (ib Wt h1')
 obtain ⟨a2,p2,q2,l2⟩:=Iu (ib Wr h2')
 obtain ⟨a3,p3,q3,l3⟩:=Iu (ib Wv h3')
 refine ⟨TPred.mk (W.of .u32 0) a1 a2 (W.of .i64 0) a3 (W.of .i64 0),?_,?_,l1,l2,l3⟩
 ·unfold td EA
  simp only [an,ae,h1,h2,h3,p1,p2,p3,aj]
 ·unfold mw EO AR EN
  simp only [an,ae,h1,h2,h3,aj,q1,q2,q3]
def iB (t:Sl 1 (W .u8)):Bool:=(List.range t.l.length).all fun i=>W.le (nth t.l i) (W.of .u8 3)
theorem IB {t:Sl 1 (W .u8)}:iB t=true ↔ ∀ i,i < t.l.length→W.le (nth t.l i) (W.of .u8 3)=true:=by
 unfold iB;rw [List.all_eq_true]
 exact ⟨fun h i hi=>h i (List.mem_range.2 hi),fun h i hi=>h i (List.mem_range.1 hi)⟩
theorem aaO (t:Sl 1 (W .u8)) (h0:0 < t.l.length) (h:t.l.length≤1000):∃ m,tT t=some m∧W.le m (W.of .u8 3)=iB t:=by
 have key:∃ o,nI (t,nth t.l 0,wi 1,())=some o∧((∀ j,j < t.l.length→(nth t.l j).n≤o.1.n)∧∃ j,j < t.l.length∧nth t.l j=o.1):=by
  unfold nI
  refine bK (fun k s=>∃ m:W .u8,s=(t,m,wi (k+1),())∧(∀ j,j < k+1→(nth t.l j).n≤m.n)∧∃ j,j < k+1∧nth t.l j=m) (t.l.length - 1) _ ?_ ?_ ⟨_,rfl,fun j hj=>?_,0,by omega,rfl⟩ (by show _ < 281474976710656;omega)
  ·rintro k s hk ⟨m,rfl,h1,j,hj,h2⟩
   have hk':k+1 < t.l.length:=by omega
   simp only [sA,ak,an,ae,aK t hk',Sl.get_wi t hk',if_true,aj,aN t hk']
   refine ⟨_,rfl,_,rfl,fun i hi=>?_,?_⟩
   ·rw [W.max_n]
    by_cases hik:i=k+1
    ·subst hik;split<;>omega
    ·have:=h1 i (by omega)
     split<;>omega
   ·unfold W.max
    split
    ·exact ⟨k+1,by omega,rfl⟩
    ·exact ⟨j,by omega,h2⟩
  ·rintro s ⟨m,rfl,h1,j,hj,h2⟩
   have hl:t.l.length - 1+1=t.l.length:=by omega
   rw [hl] at h1 hj ⊢
   simp only [sA,ak,ae,aO t,Bool.false_eq_true,if_false]
   exact ⟨_,rfl,h1,j,hj,h2⟩
  ·obtain rfl:j=0:=by omega
   exact Int.le_refl _
 obtain ⟨o,h1,h2,j,hj,h3⟩:=key
 refine ⟨o.1,?_,bQ ?_⟩
 ·unfold tT F5
  have e1:W.lt (Sl.len t) (W.of .i64 1)=false:=by
   rw [Sl.len_wi]
   show W.lt (wi t.l.length) (wi 1)=false
   rw [du h (by omega)];exact decide_eq_false (by omega)
  have e2:Sl.get? t (W.of .i64 0)=some (nth t.l 0):=Sl.get_wi t h0
  simp only [ak,an,ae,e1,Bool.false_eq_true,if_false,e2,aj,show nI (t,nth t.l 0,W.of .i64 1,())=some o from h1]
 ·rw [IB,W.le_n]
  refine ⟨fun hh i hi=>?_,fun hh=>?_⟩
  ·rw [W.le_n];exact Int.le_trans (h2 i hi) hh
  ·have:=hh j hj
   rw [h3,W.le_n] at this;exact this
theorem p0 {k:Nat} (h:k < 9):2 ^ k≤256∧0 < 2 ^ k:=by
 have:=ib (p:=fun k=>decide (2 ^ k≤256∧0 < 2 ^ k)) (n:=9) (by decide) h
 simpa using this
theorem adh {k i:Nat} (h:2 ^ k=2 ^ i):k=i:=(Nat.pow_right_inj (by decide)).1 h
theorem adf (t:Sl 1 (W .u8)) {k:Nat} (hk:k < 9) (h:t.l.length=2 ^ k):tc t=some (iB t):=by
 obtain ⟨p1,p2⟩:=p0 hk
 obtain ⟨m,e1,e2⟩:=aaO t (by omega) (by omega)
 have e3:W.eq (W.and (Sl.len t) (W.sub (Sl.len t) (W.of .i64 1))) (W.of .i64 0)=true:=by
  rw [Sl.len_wi,h]
  exact ib (p:=fun k=>W.eq (W.and (wi (2 ^ k)) (W.sub (wi (2 ^ k)) (W.of .i64 1))) (W.of .i64 0)) (n:=9) (by kernel_rfl) hk
 have e4:W.gt (Sl.len t) (W.of .i64 0)=true:=by rw [Sl.len_wi,PB (by omega)];exact decide_eq_true (by omega)
 have e5:W.le (Sl.len t) (W.of .i64 256)=true:=by
  show W.le (Sl.len t) (wi 256)=true
  rw [ir (by omega)];exact decide_eq_true (by omega)
 unfold tc Ez
 simp only [ak,an,ae,e3,e4,e5,if_true,e1,aj,e2]
theorem aaK {i:Nat} (h:i < 9):kd (wi i)=some (wi (2 ^ i)):=by
 have:=ib (p:=fun i=>match kd (wi i) with | some x=>decide (x=wi (2 ^ i)) | none=>false) (n:=9) (by kernel_rfl) h
 cases hh:kd (wi i) with
 | none=>rw [hh] at this;cases this
 | some x=>rw [hh] at this;simp only [decide_eq_true_eq] at this;rw [this]
theorem adr (t:Sl 1 (W .u8)) {k:Nat} (hk:k < 9) (h:t.l.length=2 ^ k):ti t=some (iB t):=by
 obtain ⟨p1,p2⟩:=p0 hk
 have k1:∃ o,uw (t,false,wi 0,())=some o∧o=(t,true,()):=by
  unfold uw
  refine bK (fun i s=>s=(t,decide (k < i),wi i,())) 9 _ ?_ ?_ (by simp) (by decide)
  ·rintro i s hi rfl
   have e1:W.le (wi i) (W.of .i64 8)=true:=by rw [W.le_n,aQ (sm (by omega)),show (W.of .i64 8).n=8 from rfl];omega
   simp only [rf,ak,an,ae,e1,if_true,aaK hi,aj,dn (show i < 1000 by omega),decide_eq_true_eq]
   by_cases hki:k < i
   ·rw [if_pos hki];exact ⟨_,rfl,by rw [decide_eq_true (show k < i+1 by omega)]⟩
   ·rw [if_neg hki]
    refine ⟨_,rfl,?_⟩
    obtain ⟨p3,p4⟩:=p0 hi
    rw [Sl.len_wi,h,di (sm (by omega)) (sm (by omega))]
    have:decide (2 ^ k=2 ^ i)=decide (k < i+1):=by
     refine decide_eq_decide.2 ⟨fun hh=>?_,fun hh=>?_⟩
     ·have:=adh hh;omega
     ·have:k=i:=by omega
      rw [this]
    rw [this]
  ·rintro s rfl
   have e1:W.le (wi 9) (W.of .i64 8)=false:=rfl
   simp only [rf,ak,ae,e1,Bool.false_eq_true,if_false]
   exact ⟨_,rfl,by rw [decide_eq_true (show k < 9 from hk)]⟩
 have k2:∃ o,uv (t,true,wi 0,())=some o∧o=(iB t,()):=by
  unfold uv
  refine PJ (fun s=>∃ i,i≤t.l.length∧((s=(t,true,wi i,())∧∀ j,j < i→W.le (nth t.l j) (W.of .u8 3)=true)∨(s=(t,false,wi i,())∧iB t=false))) (fun s=>t.l.length - s.2.2.1.n.toNat) _ ?_ ⟨0,by omega,.inl ⟨rfl,fun j hj=>by omega⟩⟩ ?_
  ·rintro s ⟨i,hi,hs⟩
   have hwi:(wi i).n.toNat=i:=by rw [aQ (sm (by omega))];omega
   by_cases hil:i < t.l.length
   ·rcases hs with ⟨rfl,hall⟩ | ⟨rfl,hf⟩
    ·simp only [jT,ak,an,ae,aK t hil,Sl.get_wi t hil,if_true,aj,aN t hil]
     refine .inl ⟨_,rfl,⟨i+1,by omega,?_⟩,?_⟩
     ·cases hc:W.le (nth t.l i) (W.of .u8 3) with
      | true=>
       refine .inl ⟨rfl,fun j hj=>?_⟩
       by_cases hji:j=i
       ·rw [hji];exact hc
       ·exact hall j (by omega)
      | false=>
       refine .inr ⟨rfl,?_⟩
       rw [Bool.eq_false_iff]
       intro hh
       rw [IB.1 hh i hil] at hc;cases hc
     ·have:(wi (i+1)).n.toNat=i+1:=by rw [aQ (sm (by omega))];omega
      simp only [hwi,this];omega
    ·simp only [jT,ak,ae,aK t hil,if_true,Bool.false_eq_true,if_false]
     exact .inr ⟨_,rfl,by rw [hf]⟩
   ·have hie:i=t.l.length:=by omega
    subst hie
    rcases hs with ⟨rfl,hall⟩ | ⟨rfl,hf⟩
    ·simp only [jT,ak,ae,aO t,Bool.false_eq_true,if_false]
     exact .inr ⟨_,rfl,by rw [IB.2 hall]⟩
    ·simp only [jT,ak,ae,aO t,Bool.false_eq_true,if_false]
     exact .inr ⟨_,rfl,by rw [hf]⟩
  ·show t.l.length - (wi 0).n.toNat < 281474976710656
   omega
 obtain ⟨o1,h1,rfl⟩:=k1
 obtain ⟨o2,h2,rfl⟩:=k2
 unfold ti EM
 simp only [an,ae,aY,h1,h2,aj]
theorem Qo (x:W .i64) {n:Nat} (hn:n≤1000):∃ b,ml x (wi n)=some b∧my x (wi n)=some b:=by
 unfold ml EC my ER
 simp only [ak,ae]
 by_cases h1:W.ge x (W.of .i64 0)=true
 ·simp only [if_pos h1]
  have h0:(W.of .i64 0).n=0:=id rfl
  have h01:(W.of .i64 1).n=1:=id rfl
  rw [W.ge_n,h0] at h1
  have hw:=aQ (sm hn)
  refine ⟨_,rfl,?_⟩
  by_cases h2:W.lt x (wi n)=true
  ·rw [if_pos h2]
   congr 1;symm
   rw [W.lt_n] at h2 ⊢
   rw [W.max_n,hw,h01];rw [hw] at h2
   split<;>omega
  ·rw [if_neg h2]
   congr 1
   refine bQ ?_
   rw [W.lt_n,hw] at h2
   rw [W.eq_n,W.lt_n,h0,W.max_n,hw,h01]
   split<;>omega
 ·simp only [if_neg h1]
  exact ⟨_,rfl,rfl⟩
theorem aaN {k:Nat} (hk:k < 9):∃ m,mj (wi k)=some m∧m.v=2 ^ k - 1:=by
 have:=ib (p:=fun i=>match mj (wi i) with | some x=>decide (x.v=2 ^ i - 1) | none=>false) (n:=9) (by kernel_rfl) hk
 cases hh:mj (wi k) with
 | none=>rw [hh] at this;cases this
 | some x=>rw [hh] at this;simp only [decide_eq_true_eq] at this;exact ⟨x,rfl,this⟩
theorem Z2 (x m:W .u32) {k:Nat} (hk:k < 9) (hm:m.v=2 ^ k - 1):W.eq (W.andNot x m) (W.of .u32 0)=W.lt (W.conv .i64 x) (wi (2 ^ k)):=by
 obtain ⟨p1,p2⟩:=p0 hk
 have h1:=W.masked x m
 rw [W.ne_eq,W.ne_eq] at h1
 have h2:W.eq (W.andNot x m) (W.of .u32 0)=W.eq (W.and x m) x:=by
  cases ha:W.eq (W.andNot x m) (W.of .u32 0)<;>cases hb:W.eq (W.and x m) x<;>rw [ha,hb] at h1<;>first | rfl | cases h1
 rw [h2]
 refine bQ ?_
 rw [W.lt_n,W.conv_i64_v,aQ (sm (by omega)),W.eq_iff]
 have hv:(W.and x m).v=x.v % 2 ^ k:=by rw [W.and_v,hm,Nat.and_two_pow_sub_one_eq_mod]
 refine ⟨fun hh=>?_,fun hh=>W.ext_v ?_⟩
 ·rw [hh] at hv
  have:=Nat.mod_lt x.v p2
  omega
 ·rw [hv];exact Nat.mod_eq_of_lt (by omega)
theorem adi {c:TConf} (hc:eK c=true) (p:TPred):∃ b,jZ c p=some b∧gD c p=some b:=by
 unfold eK at hc
 simp only [Bool.and_eq_true] at hc
 have hg:=hc.1.2
 unfold pN at hg
 simp only [Bool.and_eq_true] at hg
 obtain ⟨⟨⟨⟨g1,g2⟩,g3⟩,_⟩,_⟩:=hg
 obtain ⟨kh,h1,_,h1'⟩:=GW (lo:=0) (hi:=8) g1
 obtain ⟨kb,h2,_,h2'⟩:=GW (lo:=0) (hi:=16) g2
 obtain ⟨kr,h3,_,h3'⟩:=GW (lo:=0) (hi:=16) g3
 obtain ⟨q,e1,e2,l1,l2,l3⟩:=adj h1 (by omega) h2 (by omega) h3 (by omega)
 obtain ⟨p1,p2⟩:=p0 (show kh < 9 by omega)
 unfold jZ EB gD EP
 simp only [an,ak,ae,e1,e2,aj,W.ne_eq]
 by_cases c1:W.eq (Sl.len p.Table) (Sl.len q.Table)=true
 ·by_cases c2:W.eq (Sl.len p.Btb) (Sl.len q.Btb)=true
  ·by_cases c3:W.eq (Sl.len p.Ras) (Sl.len q.Ras)=true
   ·simp only [c1,c2,c3,if_true,Bool.not_true,Bool.false_eq_true,if_false]
    have lt1:p.Table.l.length=2 ^ kh:=by
     have:=W.eq_n.1 c1
     rw [cY,cY,l1] at this
     exact_mod_cast this
    have lt2:p.Btb.l.length=kb:=by
     have:=W.eq_n.1 c2
     rw [cY,cY,l2] at this;omega
    have lt3:p.Ras.l.length=kr:=by
     have:=W.eq_n.1 c3
     rw [cY,cY,l3] at this;omega
    obtain ⟨m,m1,m2⟩:=aaN (show kh < 9 by omega)
    obtain ⟨b4,f4,f4'⟩:=Qo p.Next (n:=kb) (by omega)
    obtain ⟨b5,f5,f5'⟩:=Qo p.Top (n:=kr) (by omega)
    have x2:Sl.len p.Btb=wi kb:=by rw [Sl.len_wi,lt2]
    have x3:Sl.len p.Ras=wi kr:=by rw [Sl.len_wi,lt3]
    have x4:Sl.len q.Table=wi (2 ^ kh):=by rw [Sl.len_wi,l1]
    simp only [adf p.Table (show kh < 9 by omega) lt1,adr p.Table (show kh < 9 by omega) lt1,aj,h1,m1,x2,x3,x4,f4,f4',f5,f5',Z2 p.Hist m (show kh < 9 by omega) m2]
    cases iB p.Table with
    | false=>exact ⟨false,rfl,rfl⟩
    | true=>
     cases W.lt (W.conv .i64 p.Hist) (wi (2 ^ kh)) with
     | false=>exact ⟨false,rfl,rfl⟩
     | true=>cases b4 with
      | false=>exact ⟨false,rfl,rfl⟩
      | true=>exact ⟨b5,rfl,rfl⟩
   ·simp only [c1,c2,if_true,Bool.not_true,Bool.false_eq_true,if_false,if_neg c3,Bool.eq_false_iff.2 c3,Bool.not_false]
    exact ⟨false,rfl,rfl⟩
  ·simp only [c1,if_true,Bool.not_true,Bool.false_eq_true,if_false,Bool.eq_false_iff.2 c2,Bool.not_false]
   exact ⟨false,rfl,rfl⟩
 ·simp only [Bool.false_eq_true,if_false,Bool.eq_false_iff.2 c1,Bool.not_false,if_true]
  exact ⟨false,rfl,rfl⟩
end Go.Proofs.YtnpgljilkkipkaaGreat
