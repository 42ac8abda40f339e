/- YtkddkpmijhionaaGreatDoorBrok: the rules of a core, as the program looks at them: it always answers. No statement of the seat is proved here. -/
import Derived.Test.YtkddkpmijhionaaGreatDoorFits
import Derived.Test.YtkddkpmijhionaaGreatDoorHas
set_option linter.unusedSimpArgs false
set_option linter.unusedVariables false
set_option maxRecDepth 100000
set_option maxHeartbeats 1000000
namespace Go.Proofs.YtkddkpmijhionaaGreatDoor
open Go Go.A2
def badB (b:TBound):Bool:=W.lt b.n_ b.least || W.gt b.n_ b.most
theorem conf1 (b:TBound):F_core_Conf_1 b=some (badB b):=by
 unfold F_core_Conf_1 T_core_Conf_1 badB
 rw [ev_ite]
 cases W.lt b.n_ b.least<;>simp [ev_ret]
theorem containsBound (s:Sl 24 TBound) (hs:s.l.length < fuel):F_slices_ContainsFunc_bound_of_core_Conf_1 s=some (s.l.any badB):=by
 have key:∃ r,L_slices_IndexFunc_bound_of_core_Conf_1_5 ((s,((),()),Sl.len s,W.of .i64 0,()))=some r∧((s.l.any badB=true∧∃ k,r=.inl (wi k,())∧0≤k∧k < 0+s.l.length)∨(s.l.any badB=false∧r=.inr ((),()))):=by
  unfold L_slices_IndexFunc_bound_of_core_Conf_1_5
  have hroom:=s.h.2
  have:=iter_list (f:=fun a:Sl 24 (TBound)×((Unit)×(Unit))×W .i64×W .i64×Unit=>(B_slices_IndexFunc_bound_of_core_Conf_1_5 a.1 a.2.2.1 a.2.2.2.1).eval) (l:=s.l) (n:=0) (N:=fuel) (s:=()) (fun n (_:Unit)=>(s,((),()),Sl.len s,wi n,()))
   (fun n x (_:Unit)=>some (if badB x then .inr (.inl (wi n,())) else .inl ())) (fun _=>some (.inr ((),()))) (fun i x _ hi=>?_) (fun _=>?_) hs
  ·obtain ⟨r,h1,h2⟩:=runL_any badB (fun n=>Sum.inl (wi n,())) (Sum.inr ((),()):(W .i64×Unit)⊕(Unit×Unit)) s.l 0
   exact ⟨r,this.trans h1,h2⟩
  ·have hil:=(List.getElem?_eq_some_iff.1 hi).1
   simp only [Nat.zero_add]
   simp only [B_slices_IndexFunc_bound_of_core_Conf_1_5,ev_ite,ev_opt,ev_ret,Sl.len_wi]
   rw [wi_lt (by omega) hroom,if_pos (by simpa using hil),wi_get s (by omega),hi]
   simp only [bind_some',conf1,wi_add (show i < room by omega)]
   cases badB x<;>rfl
  ·simp only [Nat.zero_add]
   simp only [B_slices_IndexFunc_bound_of_core_Conf_1_5,ev_ite,ev_ret,Sl.len_wi]
   rw [wi_lt hroom hroom,if_neg (by simp)]
   rfl
 obtain ⟨r,h1,h2⟩:=key
 have hroom:=s.h.2
 unfold F_slices_ContainsFunc_bound_of_core_Conf_1 T_slices_ContainsFunc_bound_of_core_Conf_1 F_slices_IndexFunc_bound_of_core_Conf_1 T_slices_IndexFunc_bound_of_core_Conf_1
 simp only [ev_opt,h1,bind_some',ev_sum,ev_ret]
 rcases h2 with ⟨h3,k,rfl,_,hk⟩ | ⟨h3,rfl⟩
 ·simp only [Sum.elim_inl,bind_some',h3]
  congr 1
  rw [W.ge_n,wi_n (by omega)]
  show (0:Int)≤k
  omega
 ·simp only [Sum.elim_inr,bind_some',h3]
  rfl
def inB (n a b:W .i64):Bool:=W.ge n a&&W.le n b
theorem bad_in (n a b:W .i64):badB ⟨n,a,b⟩=!inB n a b:=by
 unfold badB inB W.lt W.gt W.ge W.le
 by_cases h:n.n < a.n<;>by_cases h':n.n > b.n
 all_goals simp [h,h']
 all_goals omega
def roomsB (c:TConf):Bool:=inB c.Queue (W.of .i64 1) (W.of .i64 16)&&inB c.Rob (W.of .i64 2) (W.of .i64 64)&&inB c.Iq (W.of .i64 2) (W.of .i64 32)&&inB c.Lq (W.of .i64 1) (W.of .i64 16)&&inB c.Sq (W.of .i64 1) (W.of .i64 16)&&inB c.Sb (W.of .i64 1) (W.of .i64 8)&&inB c.Phys (W.of .i64 18) (W.of .i64 96)
def guessB (c:TConf):Bool:=inB c.Hist (W.of .i64 0) (W.of .i64 8)&&inB c.Btb (W.of .i64 0) (W.of .i64 16)&&inB c.Ras (W.of .i64 0) (W.of .i64 16)&&inB c.Dep (W.of .i64 0) (W.of .i64 16)&&inB c.Tlb (W.of .i64 0) (W.of .i64 8)
def timesB (c:TConf):Bool:=inB c.MulLat (W.of .i64 1) (W.of .i64 32)&&inB c.DivLat (W.of .i64 1) (W.of .i64 32)&&inB c.MemLat (W.of .i64 1) (W.of .i64 32)&&inB c.Sets (W.of .i64 1) (W.of .i64 8)&&inB c.Ways (W.of .i64 1) (W.of .i64 4)
def wideB (c:TConf):Bool:=inB c.Fetch (W.of .i64 1) (W.of .i64 4)&&inB c.Wide (W.of .i64 1) (W.of .i64 4)&&inB c.Issue (W.of .i64 1) (W.of .i64 4)&&inB c.Retire (W.of .i64 1) (W.of .i64 4)
def okConf (c:TConf):Bool:=wideB c&&roomsB c&&guessB c&&timesB c
theorem core_conf (c:TConf):F_core_Conf c=some (if okConf c then W.of .i64 0 else W.of .i64 3):=by
 unfold F_core_Conf T_core_Conf F_core_bounds T_core_bounds
 simp only [ev_opt,ev_ite,ev_ret,bind_some']
 rw [containsBound _ (by show 21 < fuel;decide)]
 simp only [bind_some',Sl.lit,List.any_cons,List.any_nil,bad_in,Bool.or_false]
 have:okConf c=!(!inB c.Fetch (W.of .i64 1) (W.of .i64 4) || (!inB c.Wide (W.of .i64 1) (W.of .i64 4) || (!inB c.Issue (W.of .i64 1) (W.of .i64 4) || (!inB c.Retire (W.of .i64 1) (W.of .i64 4) || (!inB c.Queue (W.of .i64 1) (W.of .i64 16) || (!inB c.Rob (W.of .i64 2) (W.of .i64 64) ||
   (!inB c.Iq (W.of .i64 2) (W.of .i64 32) || (!inB c.Lq (W.of .i64 1) (W.of .i64 16) || (!inB c.Sq (W.of .i64 1) (W.of .i64 16) || (!inB c.Sb (W.of .i64 1) (W.of .i64 8) || (!inB c.Phys (W.of .i64 18) (W.of .i64 96) || (!inB c.Hist (W.of .i64 0) (W.of .i64 8) ||
   (!inB c.Btb (W.of .i64 0) (W.of .i64 16) || (!inB c.Ras (W.of .i64 0) (W.of .i64 16) || (!inB c.Dep (W.of .i64 0) (W.of .i64 16) || (!inB c.Tlb (W.of .i64 0) (W.of .i64 8) || (!inB c.MulLat (W.of .i64 1) (W.of .i64 32) || (!inB c.DivLat (W.of .i64 1) (W.of .i64 32) ||
   (!inB c.MemLat (W.of .i64 1) (W.of .i64 32) || (!inB c.Sets (W.of .i64 1) (W.of .i64 8) || !inB c.Ways (W.of .i64 1) (W.of .i64 4))))))))))))))))))))):=by
  unfold okConf wideB roomsB guessB timesB
  simp only [Bool.not_or,Bool.not_not,Bool.and_assoc]
 rw [this]
 generalize (!inB c.Fetch (W.of .i64 1) (W.of .i64 4) || _)=z
 cases z<;>rfl
noncomputable def waitsB (c:TCore) (r:TRen):Bool:=c.Rob.l.any fun e=>Tab.eq tab (.named .TRen) e.Ren r&&!e.Done
theorem core_waits (c:TCore) (r:TRen) (h:c.Rob.l.length < fuel):F_core_waits c r=some (waitsB c r):=by
 have hp:∀ e∈c.Rob.l,F_core_waits_1 e r=some (Tab.eq tab (.named .TRen) e.Ren r&&!e.Done):=fun e _=>by
  unfold F_core_waits_1 T_core_waits_1
  rw [ev_ite]
  cases Tab.eq tab (.named .TRen) e.Ren r<;>rfl
 unfold F_core_waits T_core_waits
 simp only [ev_opt,ev_ret,has_Rob_of_core_waits_1 c.Rob r _ hp h,bind_some']
 rfl
def seqB (l:List TRen) (i:Nat):Bool:=(l.take i).any fun r=>W.eq r.Seq (nth l i).Seq
def flyP (c:TCore) (l:List TRen) (i:Nat):Prop:=seqB l i=false∧waitsB c (nth l i)=true
theorem core_fly (c:TCore) (l:Sl 216 TRen) (hr:c.Rob.l.length < fuel) (hl:l.l.length < fuel):∃ b,F_core_flying c l=some b∧(b=true ↔ ∀ i,i < l.l.length→flyP c l.l i):=by
 have key:∃ o,L_core_flying_7 (c,[],l,Sl.len l,wi 0,())=some o∧(((∀ i,i < l.l.length→flyP c l.l i)∧o=.inr ((),()))∨((¬ ∀ i,i < l.l.length→flyP c l.l i)∧o=.inl (false,()))):=by
  unfold L_core_flying_7
  refine iter_check (fun i s=>∃ m:List (W .u64×W .i64),s=(c,m,l,Sl.len l,wi i,())∧∀ q,Option.getD (mGet W.eq m q) (W.of .i64 0)=if (l.l.take i).any (fun r=>W.eq r.Seq q)=true then W.of .i64 1 else W.of .i64 0) l.l.length (flyP c l.l) (fun o=>o=Sum.inl (false,())) (fun o=>o=Sum.inr ((),())) ?_ ?_ ⟨[],rfl,fun q=>rfl⟩ hl
  ·rintro i s hi ⟨m,rfl,hm⟩ hP
   have hg:=fun y q=>mGet_put (eq:=W.eq) (fun a b=>W.eq_iff) m (nth l.l i).Seq y q
   have e1:Option.getD (mGet W.eq m (nth l.l i).Seq) (W.of .i64 0)=if seqB l.l i=true then W.of .i64 1 else W.of .i64 0:=hm _
   simp only [B_core_flying_7,ev_ite,ev_opt,ev_ret,lt_len l hi,Sl.get_wi l hi,if_true,bind_some',core_waits c _ hr,wi_next l hi,hg,Option.getD_some,e1]
   unfold flyP
   cases hs:seqB l.l i with
   | true=>exact .inr ⟨fun h=>(by cases h.1),_,rfl,rfl⟩
   | false=>
    rw [if_neg (by decide)]
    cases hw:waitsB c (nth l.l i) with
    | false=>exact .inr ⟨fun h=>(by cases h.2),_,rfl,rfl⟩
    | true=>
     refine .inl ⟨⟨rfl,rfl⟩,_,rfl,_,rfl,fun q=>?_⟩
     rw [hg,take_nth hi,List.any_append]
     simp only [List.any_cons,List.any_nil,Bool.or_false]
     by_cases hq:q=(nth l.l i).Seq
     ·subst hq
      rw [if_pos rfl,W.eq_self,Bool.or_true,if_pos rfl]
      rfl
     ·have:W.eq (nth l.l i).Seq q=false:=by rw [W.eq_dec];simpa using fun h=>hq h.symm
      rw [if_neg hq,hm,this,Bool.or_false]
  ·rintro s ⟨m,rfl,hm⟩ hP
   simp only [B_core_flying_7,ev_ite,ev_ret,lt_end l]
   exact ⟨_,rfl,rfl⟩
 obtain ⟨o,h1,h2⟩:=key
 unfold F_core_flying T_core_flying
 rcases h2 with ⟨h3,rfl⟩ | ⟨h3,rfl⟩
 ·exact ⟨true,by simp only [ev_opt,wi_zero,h1,bind_some',ev_sum,Sum.elim_inr,ev_ret],fun _=>h3,fun _=>rfl⟩
 ·exact ⟨false,by simp only [ev_opt,wi_zero,h1,bind_some',ev_sum,Sum.elim_inl,ev_ret],fun h=>(by cases h),fun h=>(h3 h).elim⟩
theorem core_que (c:TCore) (h1:c.Iq.l.length < 1000) (h2:c.Units.l.length < 1000):∃ a b,F_core_queued c=some (a,b)∧a.l=c.Iq.l.map TIq.Ren∧b.l=c.Units.l.map TFlight.Ren:=by
 have key1:∃ o,L_core_queued_5 (c,Sl.nil,Sl.nil,c.Iq,Sl.len c.Iq,wi 0,())=some o∧∃ a:Sl 216 TRen,o=(c,a,Sl.nil,())∧a.l=c.Iq.l.map TIq.Ren:=by
  unfold L_core_queued_5
  refine iter_acc (fun i s=>∃ a:Sl 216 TRen,s=(c,a,Sl.nil,c.Iq,Sl.len c.Iq,wi i,())∧a.l=(c.Iq.l.take i).map TIq.Ren) c.Iq.l.length _ ?_ ?_ ⟨Sl.nil,rfl,rfl⟩ (by show _ < 281474976710656;omega)
  ·rintro i s hi ⟨a,rfl,ha⟩
   have hlen:a.l.length=i:=by rw [ha,List.length_map,List.length_take];omega
   obtain ⟨r,hr1,hr2⟩:=app_lit (s:=a) (x:=(nth c.Iq.l i).Ren) (hb:=rfl) (by unfold room;omega) (by unfold room;omega)
   simp only [B_core_queued_5,ev_ite,ev_opt,ev_ret,lt_len c.Iq hi,Sl.get_wi c.Iq hi,if_true,bind_some',hr1,wi_next c.Iq hi]
   exact ⟨_,rfl,r,rfl,by rw [hr2,ha,take_nth hi,List.map_append];rfl⟩
  ·rintro s ⟨a,rfl,ha⟩
   simp only [B_core_queued_5,ev_ite,ev_ret,lt_end c.Iq]
   exact ⟨_,rfl,a,rfl,by rw [ha,List.take_length]⟩
 obtain ⟨o,h3,a,rfl,ha⟩:=key1
 have key2:∃ o,L_core_queued_20 (a,Sl.nil,c.Units,Sl.len c.Units,wi 0,())=some o∧∃ b:Sl 216 TRen,o=(a,b,())∧b.l=c.Units.l.map TFlight.Ren:=by
  unfold L_core_queued_20
  refine iter_acc (fun i s=>∃ b:Sl 216 TRen,s=(a,b,c.Units,Sl.len c.Units,wi i,())∧b.l=(c.Units.l.take i).map TFlight.Ren) c.Units.l.length _ ?_ ?_ ⟨Sl.nil,rfl,rfl⟩ (by show _ < 281474976710656;omega)
  ·rintro i s hi ⟨b,rfl,hb⟩
   have hlen:b.l.length=i:=by rw [hb,List.length_map,List.length_take];omega
   obtain ⟨r,hr1,hr2⟩:=app_lit (s:=b) (x:=(nth c.Units.l i).Ren) (hb:=rfl) (by unfold room;omega) (by unfold room;omega)
   simp only [B_core_queued_20,ev_ite,ev_opt,ev_ret,lt_len c.Units hi,Sl.get_wi c.Units hi,if_true,bind_some',hr1,wi_next c.Units hi]
   exact ⟨_,rfl,r,rfl,by rw [hr2,hb,take_nth hi,List.map_append];rfl⟩
  ·rintro s ⟨b,rfl,hb⟩
   simp only [B_core_queued_20,ev_ite,ev_ret,lt_end c.Units]
   exact ⟨_,rfl,b,rfl,by rw [hb,List.take_length]⟩
 obtain ⟨o,h4,b,rfl,hb⟩:=key2
 refine ⟨a,b,?_,ha,hb⟩
 unfold F_core_queued T_core_queued
 simp only [ev_opt,wi_zero,h3,bind_some',h4,ev_ret]
def bothB (a b:List TRen):Bool:=a.any fun r=>b.any fun s=>W.eq r.Seq s.Seq
theorem core_apart (a b:Sl 216 TRen) (ha:a.l.length < fuel) (hb:b.l.length < fuel):F_core_apart a b=some (!bothB a.l b.l):=by
 have h1:∀ r,F_core_apart_1 r b=some (b.l.any fun s=>W.eq r.Seq s.Seq):=fun r=>by
  unfold F_core_apart_1 T_core_apart_1
  rw [ev_opt,has_Ren_of_core_apart_1_1 b r (fun s=>W.eq r.Seq s.Seq) (fun _ _=>rfl) hb]
  rfl
 unfold F_core_apart T_core_apart
 rw [ev_opt,has_Ren_of_core_apart_1 a b (fun r=>b.l.any fun s=>W.eq r.Seq s.Seq) (fun r _=>h1 r) ha]
 rfl
def lastS (l:List TRob):Nat→W .u64
 | 0=>W.of .u64 0
 | i+1=>(nth l i).Ren.Seq
def nextP (l:List TRob):Nat→W .i64
 | 0=>W.of .i64 0
 | i+1=>if (nth l i).Ren.Uop.Last=true then W.of .i64 0 else W.add (nth l i).Ren.Uop.Part (W.of .i64 1)
def robP (l:List TRob) (i:Nat):Prop:=W.le (nth l i).Ren.Seq (lastS l i)=false∧W.ne (nth l i).Ren.Uop.Part (nextP l i)=false
theorem nextP_small {l:List TRob} (hl:l.length < 1000) (h:∀ i,i < l.length→robP l i):∀ i,i≤l.length→0≤(nextP l i).n∧(nextP l i).n≤i
 | 0,_=>by show 0≤(W.of .i64 0).n∧(W.of .i64 0).n≤0;decide
 | i+1,hi=>by
  have ih:=nextP_small hl h i (by omega)
  have hp:=(h i (by omega)).2
  have e:(nth l i).Ren.Uop.Part=nextP l i:=by
   have:W.eq (nth l i).Ren.Uop.Part (nextP l i)=true:=by rw [W.ne_eq] at hp;simpa using hp
   exact W.eq_iff.1 this
  show 0≤(if (nth l i).Ren.Uop.Last=true then W.of .i64 0 else W.add (nth l i).Ren.Uop.Part (W.of .i64 1)).n∧(if (nth l i).Ren.Uop.Last=true then W.of .i64 0 else W.add (nth l i).Ren.Uop.Part (W.of .i64 1)).n≤((i+1:Nat):Int)
  split
  ·show 0≤(W.of .i64 0).n∧_;exact ⟨by decide,by rw [show (W.of .i64 0).n=0 from rfl];omega⟩
  ·rw [W.add_n,e,show (W.of .i64 1).n=1 from rfl,wrap_i64];omega
theorem nextP_end {l:List TRob} (hl:l.length < 1000) (h:∀ i,i < l.length→robP l i):W.eq (nextP l l.length) (W.of .i64 0)=(match l.length with | 0=>true | i+1=>(nth l i).Ren.Uop.Last):=by
 cases hn:l.length with
 | zero=>rfl
 | succ i=>
  show W.eq (if (nth l i).Ren.Uop.Last=true then W.of .i64 0 else W.add (nth l i).Ren.Uop.Part (W.of .i64 1)) _=(nth l i).Ren.Uop.Last
  cases hL:(nth l i).Ren.Uop.Last with
  | true=>rfl
  | false=>
   have ih:=nextP_small hl h i (by omega)
   have hp:=(h i (by omega)).2
   have e:(nth l i).Ren.Uop.Part=nextP l i:=by
    have:W.eq (nth l i).Ren.Uop.Part (nextP l i)=true:=by rw [W.ne_eq] at hp;simpa using hp
    exact W.eq_iff.1 this
   rw [if_neg (by simp),W.eq_dec,e]
   have:¬ W.add (nextP l i) (W.of .i64 1)=W.of .i64 0:=fun hh=>by
    have:=congrArg W.n hh
    rw [W.add_n,show (W.of .i64 1).n=1 from rfl,wrap_i64,show (W.of .i64 0).n=0 from rfl] at this
    omega
   simpa using this
def robOk (l:List TRob):Prop:=(∀ i,i < l.length→robP l i)∧(match l.length with | 0=>true | i+1=>(nth l i).Ren.Uop.Last)=true
theorem core_rob (l:Sl 248 TRob) (hl:l.l.length < 1000):∃ b,F_rob_Right l=some b∧(b=true ↔ robOk l.l):=by
 have key:∃ o,L_rob_Right_7 (W.of .u64 0,W.of .i64 0,l,Sl.len l,wi 0,())=some o∧(((∀ i,i < l.l.length→robP l.l i)∧o=.inr ((),nextP l.l l.l.length,()))∨((¬ ∀ i,i < l.l.length→robP l.l i)∧∃ p,o=.inl (false,p,()))):=by
  unfold L_rob_Right_7
  refine iter_check (fun i s=>s=(lastS l.l i,nextP l.l i,l,Sl.len l,wi i,())) l.l.length (robP l.l) (fun o=>∃ p,o=Sum.inl (false,p,())) (fun o=>o=Sum.inr ((),nextP l.l l.l.length,())) ?_ ?_ rfl (by show _ < 281474976710656;omega)
  ·rintro i s hi rfl hP
   simp only [B_rob_Right_7,ev_ite,ev_opt,ev_ret,lt_len l hi,Sl.get_wi l hi,if_true,bind_some',wi_next l hi]
   unfold robP
   cases h1:W.le (nth l.l i).Ren.Seq (lastS l.l i) with
   | true=>exact .inr ⟨fun h=>(by cases h.1),_,rfl,_,rfl⟩
   | false=>
    cases h2:W.ne (nth l.l i).Ren.Uop.Part (nextP l.l i) with
    | true=>exact .inr ⟨fun h=>(by cases h.2),_,rfl,_,rfl⟩
    | false=>
     have e:(nth l.l i).Ren.Uop.Part=nextP l.l i:=by
      have:W.eq (nth l.l i).Ren.Uop.Part (nextP l.l i)=true:=by rw [W.ne_eq] at h2;simpa using h2
      exact W.eq_iff.1 this
     refine .inl ⟨⟨rfl,rfl⟩,?_⟩
     cases h3:(nth l.l i).Ren.Uop.Last with
     | true=>exact ⟨_,rfl,by simp only [lastS,nextP,h3,if_true]⟩
     | false=>exact ⟨_,rfl,by simp only [lastS,nextP,h3,Bool.false_eq_true,if_false,e]⟩
  ·rintro s rfl hP
   simp only [B_rob_Right_7,ev_ite,ev_ret,lt_end l]
   exact ⟨_,rfl,rfl⟩
 obtain ⟨o,h1,h2⟩:=key
 unfold F_rob_Right T_rob_Right robOk
 rcases h2 with ⟨h3,rfl⟩ | ⟨h3,p,rfl⟩
 ·refine ⟨_,by simp only [ev_opt,show L_rob_Right_7 (W.of .u64 0,W.of .i64 0,l,Sl.len l,W.of .i64 0,())=_ from h1,bind_some',ev_sum,Sum.elim_inr,ev_ret];rfl,?_⟩
  rw [nextP_end hl h3]
  exact ⟨fun h=>⟨h3,h⟩,fun h=>h.2⟩
 ·exact ⟨false,by simp only [ev_opt,show L_rob_Right_7 (W.of .u64 0,W.of .i64 0,l,Sl.len l,W.of .i64 0,())=_ from h1,bind_some',ev_sum,Sum.elim_inl,ev_ret],fun h=>(by cases h),fun h=>(h3 h.1).elim⟩
def seqsL (c:TCore) (u:W .i64) (l:List TRob):List (W .u64):=(l.filter fun e=>W.eq e.Ren.Uop.Unit u).map fun e=>e.Ren.Seq
theorem seqsL_len (c:TCore) (u:W .i64) (l:List TRob):(seqsL c u l).length≤l.length:=by
 unfold seqsL;rw [List.length_map];exact List.length_filter_le ..
theorem seqsL_next (c:TCore) (u:W .i64) (l:List TRob) (x:TRob):seqsL c u (l++[x])=seqsL c u l++if W.eq x.Ren.Uop.Unit u=true then [x.Ren.Seq] else []:=by
 unfold seqsL
 rw [List.filter_append,List.map_append]
 cases h:W.eq x.Ren.Uop.Unit u<;>simp [h]
theorem core_seq (c:TCore) (u:W .i64) (h:c.Rob.l.length < 1000):∃ r,F_core_seqs c u=some r∧r.l=seqsL c u c.Rob.l:=by
 have key:∃ o,L_core_seqs_7 (u,Sl.nil,c.Rob,Sl.len c.Rob,wi 0,())=some o∧o.1.l=seqsL c u c.Rob.l:=by
  unfold L_core_seqs_7
  refine iter_acc (fun i s=>∃ a:Sl 8 (W .u64),s=(u,a,c.Rob,Sl.len c.Rob,wi i,())∧a.l=seqsL c u (c.Rob.l.take i)) c.Rob.l.length _ ?_ ?_ ⟨Sl.nil,rfl,rfl⟩ (by show _ < 281474976710656;omega)
  ·rintro i s hi ⟨a,rfl,ha⟩
   have hlen:a.l.length≤i:=by rw [ha];refine Nat.le_trans (seqsL_len ..) ?_;rw [List.length_take];omega
   obtain ⟨r,hr1,hr2⟩:=app_lit (s:=a) (x:=(nth c.Rob.l i).Ren.Seq) (hb:=rfl) (by unfold room;omega) (by unfold room;omega)
   simp only [B_core_seqs_7,ev_ite,ev_opt,ev_ret,lt_len c.Rob hi,Sl.get_wi c.Rob hi,if_true,bind_some',hr1,wi_next c.Rob hi]
   have hn:=seqsL_next c u (c.Rob.l.take i) (nth c.Rob.l i)
   cases hu:W.eq (nth c.Rob.l i).Ren.Uop.Unit u with
   | true=>exact ⟨_,rfl,r,rfl,by rw [hr2,take_nth hi,hn,if_pos hu,ha]⟩
   | false=>exact ⟨_,rfl,a,rfl,by rw [take_nth hi,hn,if_neg (by simp [hu]),ha,List.append_nil]⟩
  ·rintro s ⟨a,rfl,ha⟩
   simp only [B_core_seqs_7,ev_ite,ev_ret,lt_end c.Rob]
   exact ⟨_,rfl,by rw [←List.take_length (l:=c.Rob.l)];exact ha⟩
 obtain ⟨o,h1,h2⟩:=key
 refine ⟨o.1,?_,h2⟩
 unfold F_core_seqs T_core_seqs
 simp only [ev_opt,wi_zero,h1,bind_some',ev_ret]
theorem all_same {α β:Type} [Inhabited α] [Inhabited β] {k:IntKind} {l:List α} {m:List (W k)} {f:α→W k} (h:l.length=m.length):(List.range l.length).all (fun i=>W.eq (f (nth l i)) (nth m i))=true ↔ l.map f=m:=by
 rw [List.all_eq_true]
 constructor
 ·intro hh
  refine List.ext_getElem (by rw [List.length_map,h]) fun i h1 h2=>?_
  have h3:i < l.length:=by rw [List.length_map] at h1;exact h1
  have:=W.eq_iff.1 (hh i (List.mem_range.2 h3))
  rw [nth_elem h3,nth_elem h2] at this
  rw [List.getElem_map,this]
 ·rintro rfl i hi
  have hi:=List.mem_range.1 hi
  rw [nth_elem hi,nth_elem (by rw [List.length_map];exact hi),List.getElem_map,W.eq_self]
theorem eqf_lq (x:Sl 48 TLq) (y:Sl 8 (W .u64)) (h:x.l.length < fuel):∃ b,F_slices_EqualFunc_Lq_uint64_of_core_memory_1 x y=some b∧(b=true ↔ x.l.map TLq.Seq=y.l):=by
 unfold F_slices_EqualFunc_Lq_uint64_of_core_memory_1 T_slices_EqualFunc_Lq_uint64_of_core_memory_1
 rw [ev_ite,len_ne]
 by_cases hlen:x.l.length=y.l.length
 ·have key:L_slices_EqualFunc_Lq_uint64_of_core_memory_1_11 (y,((),()),x,Sl.len x,wi 0,())=some (if (List.range x.l.length).all (fun i=>W.eq (nth x.l i).Seq (nth y.l i))=true then .inr ((),()) else .inl (false,())):=by
   unfold L_slices_EqualFunc_Lq_uint64_of_core_memory_1_11
   refine iter_chk (fun i=>(y,((),()),x,Sl.len x,wi i,())) _ _ _ _ (fun i hi _=>?_) (fun _=>?_) h
   ·simp only [B_slices_EqualFunc_Lq_uint64_of_core_memory_1_11,ev_ite,ev_opt,ev_ret,lt_len x hi,Sl.get_wi x hi,if_true,bind_some',Sl.get_wi y (hlen ▸ hi),wi_next x hi]
    show (Option.bind (some (W.eq (nth x.l i).Seq (nth y.l i))) _)=_
    cases W.eq (nth x.l i).Seq (nth y.l i)<;>rfl
   ·simp only [B_slices_EqualFunc_Lq_uint64_of_core_memory_1_11,ev_ite,ev_ret,lt_end x]
    rfl
  have hs:=all_same (β:=Unit) (f:=TLq.Seq) hlen
  simp only [hlen,decide_true,Bool.not_true,Bool.false_eq_true,if_false,ev_opt,wi_zero,key,bind_some',ev_sum]
  rw [←hs,hlen]
  cases (List.range y.l.length).all (fun i=>W.eq (nth x.l i).Seq (nth y.l i)) with
  | true=>exact ⟨true,rfl,fun _=>rfl,fun _=>rfl⟩
  | false=>exact ⟨false,rfl,fun h=>(by cases h),fun h=>(by cases h)⟩
 ·simp only [hlen,decide_false,Bool.not_false,if_true,ev_ret]
  exact ⟨false,rfl,fun h=>(by cases h),fun h=>(hlen (by rw [←h,List.length_map])).elim⟩
theorem eqf_sq (x:Sl 32 TSq) (y:Sl 8 (W .u64)) (h:x.l.length < fuel):∃ b,F_slices_EqualFunc_Sq_uint64_of_core_memory_2 x y=some b∧(b=true ↔ x.l.map TSq.Seq=y.l):=by
 unfold F_slices_EqualFunc_Sq_uint64_of_core_memory_2 T_slices_EqualFunc_Sq_uint64_of_core_memory_2
 rw [ev_ite,len_ne]
 by_cases hlen:x.l.length=y.l.length
 ·have key:L_slices_EqualFunc_Sq_uint64_of_core_memory_2_11 (y,((),()),x,Sl.len x,wi 0,())=some (if (List.range x.l.length).all (fun i=>W.eq (nth x.l i).Seq (nth y.l i))=true then .inr ((),()) else .inl (false,())):=by
   unfold L_slices_EqualFunc_Sq_uint64_of_core_memory_2_11
   refine iter_chk (fun i=>(y,((),()),x,Sl.len x,wi i,())) _ _ _ _ (fun i hi _=>?_) (fun _=>?_) h
   ·simp only [B_slices_EqualFunc_Sq_uint64_of_core_memory_2_11,ev_ite,ev_opt,ev_ret,lt_len x hi,Sl.get_wi x hi,if_true,bind_some',Sl.get_wi y (hlen ▸ hi),wi_next x hi]
    show (Option.bind (some (W.eq (nth x.l i).Seq (nth y.l i))) _)=_
    cases W.eq (nth x.l i).Seq (nth y.l i)<;>rfl
   ·simp only [B_slices_EqualFunc_Sq_uint64_of_core_memory_2_11,ev_ite,ev_ret,lt_end x]
    rfl
  have hs:=all_same (β:=Unit) (f:=TSq.Seq) hlen
  simp only [hlen,decide_true,Bool.not_true,Bool.false_eq_true,if_false,ev_opt,wi_zero,key,bind_some',ev_sum]
  rw [←hs,hlen]
  cases (List.range y.l.length).all (fun i=>W.eq (nth x.l i).Seq (nth y.l i)) with
  | true=>exact ⟨true,rfl,fun _=>rfl,fun _=>rfl⟩
  | false=>exact ⟨false,rfl,fun h=>(by cases h),fun h=>(by cases h)⟩
 ·simp only [hlen,decide_false,Bool.not_false,if_true,ev_ret]
  exact ⟨false,rfl,fun h=>(by cases h),fun h=>(hlen (by rw [←h,List.length_map])).elim⟩
def memP (c:TCore):Prop:=c.Lq.l.map TLq.Seq=seqsL c (W.of .i64 5) c.Rob.l∧c.Sq.l.map TSq.Seq=seqsL c (W.of .i64 6) c.Rob.l
theorem core_mem (c:TCore) (h:c.Rob.l.length < 1000) (h1:c.Lq.l.length < fuel) (h2:c.Sq.l.length < fuel):∃ b,F_core_memory c=some b∧(b=true ↔ memP c):=by
 obtain ⟨r1,e1,l1⟩:=core_seq c (W.of .i64 5) h
 obtain ⟨r2,e2,l2⟩:=core_seq c (W.of .i64 6) h
 obtain ⟨b1,f1,g1⟩:=eqf_lq c.Lq r1 h1
 obtain ⟨b2,f2,g2⟩:=eqf_sq c.Sq r2 h2
 unfold F_core_memory T_core_memory memP
 simp only [ev_opt,ev_ite,ev_ret,e1,e2,f1,f2,bind_some',←l1,←l2,←g1,←g2]
 cases b1<;>cases b2<;>simp
theorem has_of {f:TPhys} {p:W .i64}:∃ b,F_prf_has f p=some b∧(b=true→0≤p.n∧p.n < f.Val.l.length∧p.n < f.Ready.l.length):=by
 unfold F_prf_has T_prf_has
 simp only [ev_ite,ev_ret]
 cases h1:W.ge p (W.of .i64 0) with
 | false=>exact ⟨false,rfl,fun h=>by cases h⟩
 | true=>
  cases h2:W.lt p (Sl.len f.Val) with
  | false=>exact ⟨false,rfl,fun h=>by cases h⟩
  | true=>exact ⟨_,rfl,fun h=>⟨W.ge_n.1 h1,W.lt_n.1 h2,W.lt_n.1 h⟩⟩
theorem get_some (f:TPhys) (p:W .i64):∃ r,F_prf_Get f p=some r:=by
 obtain ⟨b,h1,h2⟩:=has_of (f:=f) (p:=p)
 unfold F_prf_Get T_prf_Get
 simp only [ev_opt,ev_ite,ev_ret,h1,bind_some']
 cases b with
 | false=>exact ⟨_,rfl⟩
 | true=>
  obtain ⟨h3,h4,h5⟩:=h2 rfl
  simp only [Bool.not_true,Bool.false_eq_true,if_false,get_at f.Ready h3 h5,get_at f.Val h3 h4,bind_some']
  cases nth f.Ready.l p.n.toNat<;>exact ⟨_,rfl⟩
theorem view_some (f:TPhys) (m:Arr 16 (W .i64)):∃ r,F_prf_View f m=some r:=by
 have key:∃ o,L_prf_View_7 (f,m,Arr.rep 16 (W.of .u32 0),Arr.rep 16 (W.of .u32 0),wi 1,())=some o∧True:=by
  unfold L_prf_View_7
  refine iter_acc (fun i s=>∃ z out,s=(f,m,z,out,wi (i+1),())) 15 (fun _=>True) ?_ ?_ ⟨_,_,rfl⟩ (by decide)
  ·rintro i s hi ⟨z,out,rfl⟩
   obtain ⟨r,hr⟩:=get_some f (Arr.get m (i+1))
   have hlt:W.lt (wi (i+1)) (W.of .i64 16)=true:=(wi_lt (m:=16) (by unfold room;omega) (by unfold room;omega)).trans (by simp;omega)
   simp only [B_prf_View_7,ev_ite,ev_opt,ev_ret,hlt,if_true,wi_idx (show i+1≤room by unfold room;omega),show i+1 < 16 by omega,bind_some',hr,wi_add (show i+1 < room by unfold room;omega)]
   exact ⟨_,rfl,_,_,rfl⟩
  ·rintro s ⟨z,out,rfl⟩
   have hlt:W.lt (wi (15+1)) (W.of .i64 16)=false:=rfl
   simp only [B_prf_View_7,ev_ite,ev_ret,hlt]
   exact ⟨_,rfl,trivial⟩
 obtain ⟨o,h1,_⟩:=key
 unfold F_prf_View T_prf_View
 simp only [ev_opt,show L_prf_View_7 (f,m,Arr.rep 16 (W.of .u32 0),Arr.rep 16 (W.of .u32 0),W.of .i64 1,())=_ from h1,bind_some',ev_ret]
 exact ⟨_,rfl⟩
noncomputable def badV (c:TCore) (e:TRob):Bool:=e.Done&&W.eq e.Cause (W.of .i64 0)&&W.ne e.Ren.Out (W.of .i64 (-1))&&(!((F_prf_Get c.Phys e.Ren.Out).getD (W.of .u32 0,false)).2 || W.ne ((F_prf_Get c.Phys e.Ren.Out).getD (W.of .u32 0,false)).1 e.Val)
theorem core_val (c:TCore) (h:c.Rob.l.length < fuel):F_core_valued c=some (!(c.Rob.l.any (badV c))):=by
 have h1:∀ e,F_core_valued_1 e c=some (badV c e):=fun e=>by
  obtain ⟨r,hr⟩:=get_some c.Phys e.Ren.Out
  unfold F_core_valued_1 T_core_valued_1 badV
  simp only [ev_opt,ev_ite,ev_ret,hr,bind_some',Option.getD_some]
  cases e.Done<;>cases W.eq e.Cause (W.of .i64 0)<;>cases W.ne e.Ren.Out (W.of .i64 (-1))<;>cases r.2<;>rfl
 unfold F_core_valued T_core_valued
 rw [ev_opt,has_Rob_of_core_valued_1 c.Rob c (badV c) (fun e _=>h1 e) h]
 rfl
def ratP (m:Arr 16 (W .i64)) (n:W .i64) (r:Nat):Prop:=(1≤(m.get r).n∧(m.get r).n < n.n)∧∀ q,1≤q→q < r→m.get q ≠ m.get r
def ratOk (m:Arr 16 (W .i64)) (n:W .i64):Prop:=m.get 0=W.of .i64 (-1)∧∀ r,1≤r→r < 16→ratP m n r
theorem rat_in {m:Arr 16 (W .i64)} {r:Nat}:(List.range (r - 1)).all (fun k=>!W.eq (m.get (k+1)) (m.get r))=true ↔ ∀ q,1≤q→q < r→m.get q ≠ m.get r:=by
 rw [List.all_eq_true]
 constructor
 ·intro h q h1 h2 he
  have:=h (q - 1) (List.mem_range.2 (by omega))
  rw [show q - 1+1=q by omega,he,W.eq_self] at this
  cases this
 ·intro h k hk
  have hk:=List.mem_range.1 hk
  have:=h (k+1) (by omega) (by omega)
  rw [W.eq_dec];simpa using this
theorem core_rat (m:Arr 16 (W .i64)) (n:W .i64):∃ b,F_rat_Right m n=some b∧(b=true ↔ ratOk m n):=by
 have key:∃ o,L_rat_Right_11 (n,m,wi (0+1),())=some o∧(((∀ i,i < 15→ratP m n (i+1))∧o=.inr ((),()))∨((¬ ∀ i,i < 15→ratP m n (i+1))∧o=.inl (false,()))):=by
  unfold L_rat_Right_11
  refine iter_check (fun i s=>s=(n,m,wi (i+1),())) 15 (fun i=>ratP m n (i+1)) (fun o=>o=Sum.inl (false,())) (fun o=>o=Sum.inr ((),())) ?_ ?_ rfl (by decide)
  ·rintro i s hi rfl hP
   have inner:L_rat_Right_20 (n,m,wi (i+1),wi (0+1),())=some (if (List.range i).all (fun k=>!W.eq (m.get (k+1)) (m.get (i+1)))=true then .inr (n,m,(),wi (i+1),()) else .inl (n,m,false,wi (i+1),())):=by
    unfold L_rat_Right_20
    refine iter_chk (fun k=>(n,m,wi (i+1),wi (k+1),())) i _ _ _ (fun k hk _=>?_) (fun _=>?_) (by show i < 281474976710656;omega)
    ·simp only [B_rat_Right_20,ev_ite,ev_opt,ev_ret,lt_small (show k+1≤1000 by omega) (show i+1≤1000 by omega),show k+1 < i+1 by omega,decide_true,if_true,wi_idx (sm (show k+1≤1000 by omega)),wi_idx (sm (show i+1≤1000 by omega)),show k+1 < 16 by omega,show i+1 < 16 by omega,bind_some',add_small (show k+1 < 1000 by omega)]
     cases W.eq (m.get (k+1)) (m.get (i+1))<;>rfl
    ·simp only [B_rat_Right_20,ev_ite,ev_ret,lt_small (show i+1≤1000 by omega) (show i+1≤1000 by omega),Nat.lt_irrefl,decide_false,Bool.false_eq_true,if_false]
   have hin:(List.range i).all (fun k=>!W.eq (m.get (k+1)) (m.get (i+1)))=true ↔ ∀ q,1≤q→q < i+1→m.get q ≠ m.get (i+1):=rat_in (r:=i+1)
   have hlt:W.lt (wi (i+1)) (W.of .i64 16)=true:=(lt_small (m:=16) (by omega) (by omega)).trans (by simp;omega)
   simp only [B_rat_Right_11,ev_ite,ev_opt,ev_ret,hlt,if_true,show L_rat_Right_20 (n,m,wi (i+1),W.of .i64 1,())=_ from inner,bind_some',ev_sum]
   unfold ratP
   cases ha:(List.range i).all (fun k=>!W.eq (m.get (k+1)) (m.get (i+1))) with
   | false=>exact .inr ⟨fun h=>(by have:=hin.2 h.2;rw [ha] at this;cases this),_,rfl,rfl⟩
   | true=>
    simp only [if_true,Sum.elim_inr,ev_ite,ev_opt,ev_ret,wi_idx (sm (show i+1≤1000 by omega)),show i+1 < 16 by omega,bind_some',add_small (show i+1 < 1000 by omega)]
    cases h1:W.lt (m.get (i+1)) (W.of .i64 1) with
    | true=>
     have:=W.lt_n.1 h1
     rw [show (W.of .i64 1).n=1 from rfl] at this
     exact .inr ⟨fun h=>by omega,_,rfl,rfl⟩
    | false=>
     have h1':¬ (m.get (i+1)).n < 1:=fun h=>by have:=W.lt_n (a:=m.get (i+1)) (b:=W.of .i64 1).2 h;rw [h1] at this;cases this
     cases h2:W.ge (m.get (i+1)) n with
     | true=>
      have:=W.ge_n.1 h2
      exact .inr ⟨fun h=>by omega,_,rfl,rfl⟩
     | false=>
      have h2':¬ (m.get (i+1)).n ≥ n.n:=fun h=>by have:=W.ge_n.2 h;rw [h2] at this;cases this
      exact .inl ⟨⟨by omega,hin.1 ha⟩,_,rfl,rfl⟩
  ·rintro s rfl hP
   exact ⟨_,rfl,rfl⟩
 obtain ⟨o,h1,h2⟩:=key
 have hall:(∀ i,i < 15→ratP m n (i+1)) ↔ ∀ r,1≤r→r < 16→ratP m n r:=⟨fun h r hr hr'=>by have:=h (r - 1) (by omega);rwa [show r - 1+1=r by omega] at this,fun h i hi=>h (i+1) (by omega) (by omega)⟩
 unfold F_rat_Right T_rat_Right ratOk
 rw [←hall]
 simp only [ev_ite,ev_ret,ev_opt,show L_rat_Right_11 (n,m,W.of .i64 1,())=_ from h1,bind_some',ev_sum,W.ne_eq,W.eq_dec]
 by_cases h0:m.get 0=W.of .i64 (-1)
 ·simp only [h0,decide_true,Bool.not_true,Bool.false_eq_true,if_false,true_and]
  rcases h2 with ⟨h3,rfl⟩ | ⟨h3,rfl⟩
  ·exact ⟨true,rfl,fun _=>h3,fun _=>rfl⟩
  ·exact ⟨false,rfl,fun h=>(by cases h),fun h=>(h3 h).elim⟩
 ·simp only [h0,decide_false,Bool.not_false,if_true,false_and,iff_false]
  exact ⟨false,rfl,by simp⟩
def freeP (l:List (W .i64)) (n:W .i64) (i:Nat):Prop:=(0≤(nth l i).n∧(nth l i).n < n.n)∧∀ k,k < i→nth l k ≠ nth l i
def freeOk (f:TFree) (n:W .i64):Prop:=ringB f=true∧Sl.len f.Ring=n∧∀ i,i < (ringL f).length→freeP (ringL f) n i
theorem core_free (f:TFree) (n:W .i64):∃ b,F_freel_Right f n=some b∧(b=true ↔ freeOk f n):=by
 unfold F_freel_Right T_freel_Right freeOk
 simp only [ev_opt,core_ring,bind_some',ev_ite,ev_ret]
 cases hr:ringB f with
 | false=>exact ⟨false,rfl,by simp⟩
 | true=>
  have hR:=ringOk hr
  obtain ⟨r,e1,e2⟩:=core_list hR
  obtain ⟨hl1,hl2⟩:=ringL_len hR
  have hr1:=congrArg List.length e2
  simp only [Bool.not_true,Bool.false_eq_true,if_false,W.ne_eq,W.eq_dec,true_and]
  by_cases hn:Sl.len f.Ring=n
  ·have hn96:n.n≤96:=by rw [←hn,Sl.len_n];have:=hR.len;omega
   simp only [hn,decide_true,Bool.not_true,Bool.false_eq_true,if_false,ev_opt,e1,bind_some',true_and]
   have key:∃ o,L_freel_Right_13 (n,Arr.rep 96 false,r,Sl.len r,wi 0,())=some o∧(((∀ i,i < r.l.length→freeP r.l n i)∧o=.inr ((),()))∨((¬ ∀ i,i < r.l.length→freeP r.l n i)∧o=.inl (false,()))):=by
    unfold L_freel_Right_13
    refine iter_check (fun i s=>∃ seen:Arr 96 Bool,s=(n,seen,r,Sl.len r,wi i,())∧∀ p,p < 96→(seen.get p=true ↔ ∃ k,k < i∧nth r.l k=wi p)) r.l.length (freeP r.l n) (fun o=>o=Sum.inl (false,())) (fun o=>o=Sum.inr ((),())) ?_ ?_ ⟨_,rfl,fun p hp=>by rw [Arr.get_rep hp];exact ⟨fun h=>(by cases h),fun ⟨k,hk,_⟩=>by omega⟩⟩ (by show _ < 281474976710656;omega)
    ·rintro i s hi ⟨seen,rfl,hs⟩ hP
     simp only [B_freel_Right_13,ev_ite,ev_opt,ev_ret,lt_len r hi,Sl.get_wi r hi,if_true,bind_some',wi_next r hi]
     unfold freeP
     cases h1:W.lt (nth r.l i) (W.of .i64 0) with
     | true=>
      have:=W.lt_n.1 h1
      rw [show (W.of .i64 0).n=0 from rfl] at this
      exact .inr ⟨fun h=>by omega,_,rfl,rfl⟩
     | false=>
      have h1':¬ (nth r.l i).n < 0:=fun h=>by have:=W.lt_n (a:=nth r.l i) (b:=W.of .i64 0).2 h;rw [h1] at this;cases this
      cases h2:W.ge (nth r.l i) n with
      | true=>
       have:=W.ge_n.1 h2
       exact .inr ⟨fun h=>by omega,_,rfl,rfl⟩
      | false=>
       have h2':¬ (nth r.l i).n ≥ n.n:=fun h=>by have:=W.ge_n.2 h;rw [h2] at this;cases this
       have hx:idx? 96 (nth r.l i)=some (nth r.l i).n.toNat:=idx?_some (by omega)
       have hw:nth r.l i=wi (nth r.l i).n.toNat:=of_small (by omega)
       have hlt:(nth r.l i).n.toNat < 96:=by omega
       have hs':=hs _ hlt
       rw [←hw] at hs'
       simp only [Bool.false_eq_true,if_false,hx,bind_some']
       cases h3:seen.get (nth r.l i).n.toNat with
       | true=>
        obtain ⟨k,hk,he⟩:=hs'.1 h3
        exact .inr ⟨fun h=>h.2 k hk he,_,rfl,rfl⟩
       | false=>
        refine .inl ⟨⟨by omega,fun k hk he=>?_⟩,_,rfl,_,rfl,fun p hp=>?_⟩
        ·have:=hs'.2 ⟨k,hk,he⟩
         rw [h3] at this;cases this
        ·rw [Arr.get_set hlt]
         by_cases hpe:(nth r.l i).n.toNat=p
         ·rw [if_pos hpe]
          exact ⟨fun _=>⟨i,by omega,by rw [←hpe];exact hw⟩,fun _=>rfl⟩
         ·rw [if_neg hpe,hs p hp]
          constructor
          ·rintro ⟨k,hk,he⟩;exact ⟨k,by omega,he⟩
          ·rintro ⟨k,hk,he⟩
           refine ⟨k,?_,he⟩
           by_cases hki:k=i
           ·subst hki
            rw [he,wi_n (sm (by omega))] at hpe
            exact absurd rfl hpe
           ·omega
    ·rintro s ⟨seen,rfl,hs⟩ hP
     simp only [B_freel_Right_13,ev_ite,ev_ret,lt_end r]
     exact ⟨_,rfl,rfl⟩
   obtain ⟨o,h1,h2⟩:=key
   rw [e2] at h2
   simp only [show L_freel_Right_13 (n,Arr.rep 96 false,r,Sl.len r,W.of .i64 0,())=_ from h1,bind_some',ev_sum]
   rcases h2 with ⟨h3,rfl⟩ | ⟨h3,rfl⟩
   ·exact ⟨true,rfl,fun _=>h3,fun _=>rfl⟩
   ·exact ⟨false,rfl,fun h=>(by cases h),fun h=>(h3 h).elim⟩
  ·simp only [hn,decide_false,Bool.not_false,if_true,false_and,iff_false]
   exact ⟨false,rfl,by simp⟩
def wrB (u:TUop):Bool:=decide (1≤u.Dst.n∧u.Dst.n < 16)
theorem core_writes (u:TUop):F_rename_writes u=some (wrB u):=by
 unfold F_rename_writes T_rename_writes wrB
 simp only [ev_ite,ev_ret,W.ge,W.lt,show (W.of .i64 1).n=1 from rfl,show (W.of .i64 16).n=16 from rfl,decide_eq_true_eq]
 split
 ·congr 1;exact decide_eq_decide.2 (by omega)
 ·congr 1;apply Eq.symm;rw [decide_eq_false_iff_not];omega
theorem rat_is_in {r:W .i64} (h:1≤r.n∧r.n < 16):F_rat_is r=some true:=by
 unfold F_rat_is T_rat_is
 have h1:W.gt r (W.of .i64 0)=true:=W.gt_n.2 (by rw [show (W.of .i64 0).n=0 from rfl];omega)
 have h2:W.lt r (W.of .i64 16)=true:=W.lt_n.2 (by rw [show (W.of .i64 16).n=16 from rfl];omega)
 simp only [ev_ite,ev_ret,h1,h2,if_true]
theorem rat_get_b (m:Arr 16 (W .i64)) {r:W .i64} (h:1≤r.n∧r.n < 16):F_rat_Get m r=some (m.get r.n.toNat):=by
 unfold F_rat_Get T_rat_Get
 simp only [ev_opt,rat_is_in h,bind_some',ev_ite,Bool.not_true,Bool.false_eq_true,if_false,idx?_some (n:=16) (i:=r) (by omega),ev_ret]
theorem rat_set_b (m:Arr 16 (W .i64)) {r:W .i64} (p:W .i64) (h:1≤r.n∧r.n < 16):F_rat_Set m r p=some (m.set r.n.toNat p):=by
 unfold F_rat_Set T_rat_Set
 simp only [ev_opt,rat_is_in h,bind_some',ev_ite,if_true,idx?_some (n:=16) (i:=r) (by omega),ev_ret]
def mAt (s:TNames) (l:List TRen):Nat→Arr 16 (W .i64)
 | 0=>s.Done
 | i+1=>if wrB (nth l i).Uop=true then (mAt s l i).set (nth l i).Uop.Dst.n.toNat (nth l i).Out else mAt s l i
def lastR (l:List TRen):Nat→W .u64
 | 0=>W.of .u64 0
 | i+1=>(nth l i).Seq
def stP (g:W .i64→Prop) (s:TNames) (l:List TRen) (i:Nat):Prop:=
 W.le (nth l i).Seq (lastR l i)=false∧W.ge (nth l i).Seq s.Seq=false ∧
  if wrB (nth l i).Uop=true then g (nth l i).Out∧(nth l i).Old=(mAt s l i).get (nth l i).Uop.Dst.n.toNat else (nth l i).Out=W.of .i64 (-1)∧(nth l i).Old=W.of .i64 (-1)
theorem arr16 {a b:Arr 16 (W .i64)}:Tab.eq tab (.arr 16 (.int .i64)) a b=true ↔ a=b:=eq_iff (X:=tab) tabOk (by rfl)
theorem core_steps (s:TNames) (l:Sl 216 TRen) (hl:l.l.length < 1000):∃ b,F_rename_steps s l=some b∧(b=true ↔ (∀ i,i < l.l.length→stP (fun x=>x ≠ W.of .i64 (-1)) s l.l i)∧mAt s l.l l.l.length=s.Map):=by
 have key:∃ o,L_rename_steps_7 (s,s.Done,W.of .u64 0,l,Sl.len l,wi 0,())=some o∧(((∀ i,i < l.l.length→stP (fun x=>x ≠ W.of .i64 (-1)) s l.l i)∧o=.inr (s,(),mAt s l.l l.l.length,()))∨((¬ ∀ i,i < l.l.length→stP (fun x=>x ≠ W.of .i64 (-1)) s l.l i)∧∃ m,o=.inl (s,false,m,()))):=by
  unfold L_rename_steps_7
  refine iter_check (fun i z=>z=(s,mAt s l.l i,lastR l.l i,l,Sl.len l,wi i,())) l.l.length (stP (fun x=>x ≠ W.of .i64 (-1)) s l.l) (fun o=>∃ m,o=Sum.inl (s,false,m,())) (fun o=>o=Sum.inr (s,(),mAt s l.l l.l.length,())) ?_ ?_ rfl (by show _ < 281474976710656;omega)
  ·rintro i z hi rfl hP
   simp only [B_rename_steps_7,ev_ite,ev_opt,ev_ret,lt_len l hi,Sl.get_wi l hi,if_true,bind_some',wi_next l hi,core_writes,W.ne_eq]
   unfold stP
   cases h1:W.le (nth l.l i).Seq (lastR l.l i) with
   | true=>exact .inr ⟨fun h=>(by cases h.1),_,rfl,_,rfl⟩
   | false=>
    cases h2:W.ge (nth l.l i).Seq s.Seq with
    | true=>exact .inr ⟨fun h=>(by cases h.2.1),_,rfl,_,rfl⟩
    | false=>
     cases hw:wrB (nth l.l i).Uop with
     | false=>
      simp only [Bool.not_false,Bool.false_eq_true,if_false,if_true,W.eq_dec]
      by_cases h3:(nth l.l i).Out=W.of .i64 (-1)
      ·by_cases h4:(nth l.l i).Old=W.of .i64 (-1)
       ·simp only [h3,h4,decide_true,Bool.not_true,Bool.false_eq_true,if_false]
        exact .inl ⟨⟨trivial,trivial,trivial,trivial⟩,_,rfl,by simp only [mAt,lastR,hw,Bool.false_eq_true,if_false]⟩
       ·simp only [h3,h4,decide_true,decide_false,Bool.not_true,Bool.not_false,Bool.false_eq_true,if_false,if_true]
        exact .inr ⟨fun h=>h.2.2.2.elim,_,rfl,_,rfl⟩
      ·simp only [h3,decide_false,Bool.not_false,if_true]
       exact .inr ⟨fun h=>h.2.2.1.elim,_,rfl,_,rfl⟩
     | true=>
      have hd:=of_decide_eq_true hw
      simp only [Bool.not_true,Bool.false_eq_true,if_false,if_true,W.eq_dec,rat_get_b _ hd,rat_set_b _ _ hd,bind_some']
      by_cases h3:(nth l.l i).Out=W.of .i64 (-1)
      ·simp only [h3,decide_true,if_true]
       exact .inr ⟨fun h=>h.2.2.1 rfl,_,rfl,_,rfl⟩
      ·by_cases h4:(nth l.l i).Old=(mAt s l.l i).get (nth l.l i).Uop.Dst.n.toNat
       ·simp only [h3,h4,decide_true,decide_false,Bool.not_true,Bool.false_eq_true,if_false]
        exact .inl ⟨⟨trivial,trivial,by simpa using h3,trivial⟩,_,rfl,by simp only [mAt,lastR,hw,if_true]⟩
       ·simp only [h3,h4,decide_false,Bool.not_false,Bool.false_eq_true,if_false,if_true]
        exact .inr ⟨fun h=>h.2.2.2.elim,_,rfl,_,rfl⟩
  ·rintro z rfl hP
   simp only [B_rename_steps_7,ev_ite,ev_ret,lt_end l]
   exact ⟨_,rfl,rfl⟩
 obtain ⟨o,h1,h2⟩:=key
 unfold F_rename_steps T_rename_steps
 rcases h2 with ⟨h3,rfl⟩ | ⟨h3,m,rfl⟩
 ·simp only [ev_opt,show L_rename_steps_7 (s,s.Done,W.of .u64 0,l,Sl.len l,W.of .i64 0,())=_ from h1,bind_some',ev_sum,Sum.elim_inr,ev_ret]
  exact ⟨_,rfl,by rw [arr16];exact ⟨fun h=>⟨h3,h⟩,fun h=>h.2⟩⟩
 ·simp only [ev_opt,show L_rename_steps_7 (s,s.Done,W.of .u64 0,l,Sl.len l,W.of .i64 0,())=_ from h1,bind_some',ev_sum,Sum.elim_inl,ev_ret]
  exact ⟨false,rfl,fun h=>(by cases h),fun h=>(h3 h.1).elim⟩
def cnt_b (L:List (W .i64)) (p:Nat):Nat:=L.countP fun x=>W.eq x (wi p)
def inR (nn:Nat) (x:W .i64):Bool:=decide (1≤x.n∧x.n < nn)
def rel (nn:Nat) (L:List (W .i64)) (st:Bool) (t:Arr 96 (W .i64)):Prop:=st=L.any (fun x=>!inR nn x)∧∀ p,1≤p→p < nn→t.get p=wi (cnt_b L p)
theorem rel_one {nn:Nat} (hn:nn≤96) {L:List (W .i64)} (hL:L.length < 900) {st:Bool} {t:Arr 96 (W .i64)} (h:rel nn L st t) (x:W .i64):∃ st' t',F_rename_Right_1 x (wi nn) st t=some (wi nn,st',t')∧rel nn (L++[x]) st' t':=by
 obtain ⟨h1,h2⟩:=h
 have hwn:(wi nn).n=nn:=wi_n (sm (by omega))
 have hany:(L++[x]).any (fun x=>!inR nn x)=(st || !inR nn x):=by rw [List.any_append,h1];simp
 have hc:∀ p,cnt_b (L++[x]) p=cnt_b L p+if W.eq x (wi p)=true then 1 else 0:=fun p=>by
  unfold cnt_b;rw [List.countP_append,List.countP_cons,List.countP_nil,Nat.zero_add]
 unfold F_rename_Right_1 T_rename_Right_1
 simp only [ev_ite,ev_ret,ev_opt]
 by_cases hx:1≤x.n∧x.n < nn
 ·have e1:W.lt x (W.of .i64 1)=false:=by unfold W.lt;rw [show (W.of .i64 1).n=1 from rfl];simp;omega
  have e2:W.ge x (wi nn)=false:=by unfold W.ge;rw [hwn];simp;omega
  have e3:idx? 96 x=some x.n.toNat:=idx?_some (by omega)
  have e4:inR nn x=true:=decide_eq_true hx
  simp only [e1,e2,e3,Bool.false_eq_true,if_false,bind_some']
  refine ⟨_,_,rfl,by rw [hany,e4];simp,fun p hp hp'=>?_⟩
  rw [Arr.get_set (by omega),hc]
  have hw:x=wi x.n.toNat:=of_small (by omega)
  by_cases hpe:x.n.toNat=p
  ·have:cnt_b L p≤L.length:=List.countP_le_length
   rw [if_pos hpe,h2 _ (by omega) (by omega),hpe,if_pos (by rw [W.eq_iff,←hpe];exact hw),add_small (by omega)]
  ·rw [if_neg hpe,h2 p hp hp',if_neg (by rw [W.eq_iff];intro he;apply hpe;rw [he,wi_n (sm (by omega))];rfl)]
   rfl
 ·have e4:inR nn x=false:=decide_eq_false hx
  have hout:(if W.lt x (W.of .i64 1)=true then some (wi nn,true,t) else if W.ge x (wi nn)=true then some (wi nn,true,t) else Option.bind (idx? 96 x) fun j1=>Option.bind (idx? 96 x) fun j2=>some (wi nn,st,t.set j2 (W.add (t.get j1) (W.of .i64 1))))=some (wi nn,true,t):=by
   by_cases h3:x.n < 1
   ·rw [if_pos (W.lt_n.2 (by rw [show (W.of .i64 1).n=1 from rfl];exact h3))]
   ·rw [if_neg (fun h=>h3 (by have:=W.lt_n.1 h;rw [show (W.of .i64 1).n=1 from rfl] at this;exact this)),if_pos (W.ge_n.2 (by rw [hwn];omega))]
  rw [hout]
  refine ⟨_,_,rfl,by rw [hany,e4];simp,fun p hp hp'=>?_⟩
  have he:W.eq x (wi p)=false:=by
   rw [W.eq_dec,decide_eq_false_iff_not];intro he
   apply hx;rw [he,wi_n (sm (by omega))];omega
  rw [h2 p hp hp',hc,he]
  rfl
def outsL (l:List TRen):List (W .i64):=(l.filter fun r=>!W.eq r.Out (W.of .i64 (-1))).map TRen.Out
def doneR (s:TNames):List (W .i64):=(List.range 15).map fun r=>s.Done.get (r+1)
theorem outsL_next (l:List TRen) (x:TRen):outsL (l++[x])=outsL l++if W.eq x.Out (W.of .i64 (-1))=true then [] else [x.Out]:=by
 unfold outsL
 rw [List.filter_append,List.map_append]
 cases h:W.eq x.Out (W.of .i64 (-1))<;>simp [h]
theorem outsL_len (l:List TRen):(outsL l).length≤l.length:=by unfold outsL;rw [List.length_map];exact List.length_filter_le ..
theorem outsL_rev (l:List TRen):outsL l.reverse=(outsL l).reverse:=by unfold outsL;rw [List.filter_reverse,List.map_reverse]
theorem doneR_next (s:TNames) {i:Nat} (hi:i < 15):(doneR s).take (i+1)=(doneR s).take i++[s.Done.get (i+1)]:=by
 have hlen:(doneR s).length=15:=by unfold doneR;simp
 rw [take_nth (by rw [hlen];exact hi)]
 congr 2
 unfold doneR
 rw [nth_elem (by simpa using hi),List.getElem_map,List.getElem_range]
theorem core_rings (s:TNames) {nn:Nat} (hn:nn≤96) (fl:Sl 216 TRen) (r4:Sl 8 (W .i64)) (hr:r4.l.length≤96):∃ st t,L_rename_Right_19 (s,wi nn,fl,false,Arr.rep 96 (W.of .i64 0),false,((),((),(),(),())),((),((),((),((),(),(),())),(),(),(),(),())),r4,Sl.len r4,wi 0,())=some (s,wi nn,fl,false,t,st,((),((),(),(),())),((),((),((),((),(),(),())),(),(),(),(),())),())∧rel nn r4.l st t:=by
 have key:∃ o,L_rename_Right_19 (s,wi nn,fl,false,Arr.rep 96 (W.of .i64 0),false,((),((),(),(),())),((),((),((),((),(),(),())),(),(),(),(),())),r4,Sl.len r4,wi 0,())=some o∧∃ st t,o=(s,wi nn,fl,false,t,st,((),((),(),(),())),((),((),((),((),(),(),())),(),(),(),(),())),())∧rel nn r4.l st t:=by
  unfold L_rename_Right_19
  refine iter_acc (fun i z=>∃ st t,z=(s,wi nn,fl,false,t,st,((),((),(),(),())),((),((),((),((),(),(),())),(),(),(),(),())),r4,Sl.len r4,wi i,())∧rel nn (r4.l.take i) st t) r4.l.length _ ?_ ?_ ⟨false,_,rfl,rfl,fun p hp hp'=>by rw [Arr.get_rep (by omega)];rfl⟩ (by show _ < 281474976710656;omega)
  ·rintro i z hi ⟨st,t,rfl,hrel⟩
   obtain ⟨st',t',h1,h2⟩:=rel_one hn (by rw [List.length_take];omega) hrel (nth r4.l i)
   simp only [B_rename_Right_19,ev_ite,ev_opt,ev_ret,lt_len r4 hi,Sl.get_wi r4 hi,if_true,bind_some',wi_next r4 hi,h1]
   exact ⟨_,rfl,st',t',rfl,by rw [take_nth hi];exact h2⟩
  ·rintro z ⟨st,t,rfl,hrel⟩
   simp only [B_rename_Right_19,ev_ite,ev_ret,lt_end r4]
   exact ⟨_,rfl,st,t,rfl,by rw [List.take_length] at hrel;exact hrel⟩
 obtain ⟨o,h1,st,t,rfl,h2⟩:=key
 exact ⟨st,t,h1,h2⟩
theorem core_dones (s:TNames) {nn:Nat} (hn:nn≤96) (fl:Sl 216 TRen) {L:List (W .i64)} (hL:L.length≤96) {st0:Bool} {t0:Arr 96 (W .i64)} (h0:rel nn L st0 t0):∃ st t,L_rename_Right_34 (s,wi nn,fl,false,t0,st0,((),((),(),(),())),wi (0+1),((),((),((),((),(),(),())),(),(),(),(),())),())=some (s,wi nn,fl,false,t,st,((),((),((),((),(),(),())),(),(),(),(),())),())∧rel nn (L++doneR s) st t:=by
 have hlen:(doneR s).length=15:=by unfold doneR;simp
 have key:∃ o,L_rename_Right_34 (s,wi nn,fl,false,t0,st0,((),((),(),(),())),wi (0+1),((),((),((),((),(),(),())),(),(),(),(),())),())=some o∧∃ st t,o=(s,wi nn,fl,false,t,st,((),((),((),((),(),(),())),(),(),(),(),())),())∧rel nn (L++doneR s) st t:=by
  unfold L_rename_Right_34
  refine iter_acc (fun i z=>∃ st t,z=(s,wi nn,fl,false,t,st,((),((),(),(),())),wi (i+1),((),((),((),((),(),(),())),(),(),(),(),())),())∧rel nn (L++(doneR s).take i) st t) 15 _ ?_ ?_ ⟨st0,t0,rfl,by rw [List.take_zero,List.append_nil];exact h0⟩ (by decide)
  ·rintro i z hi ⟨st,t,rfl,hrel⟩
   obtain ⟨st',t',h1,h2⟩:=rel_one hn (by rw [List.length_append,List.length_take];omega) hrel (s.Done.get (i+1))
   have hlt:W.lt (wi (i+1)) (W.of .i64 16)=true:=(lt_small (m:=16) (by omega) (by omega)).trans (by simp;omega)
   simp only [B_rename_Right_34,ev_ite,ev_opt,ev_ret,hlt,if_true,wi_idx (sm (show i+1≤1000 by omega)),show i+1 < 16 by omega,bind_some',add_small (show i+1 < 1000 by omega),h1]
   exact ⟨_,rfl,st',t',rfl,by rw [doneR_next s hi,←List.append_assoc];exact h2⟩
  ·rintro z ⟨st,t,rfl,hrel⟩
   exact ⟨_,rfl,st,t,rfl,by rw [←hlen,List.take_length] at hrel;exact hrel⟩
 obtain ⟨o,h1,st,t,rfl,h2⟩:=key
 exact ⟨st,t,h1,h2⟩
theorem W.of_small_n {x:Int} (h:-1000≤x) (h':x≤1000):(W.of .i64 x).n=x:=by rw [W.of_n,wrap_i64];omega
theorem core_outs {nn:Nat} (hn:nn≤96) (fl:Sl 216 TRen) (hfl:fl.l.length≤100) (ok:Bool) {L:List (W .i64)} (hL:L.length≤200) {st0:Bool} {t0:Arr 96 (W .i64)} (h0:rel nn L st0 t0):∃ st t,L_rename_Right_2_3 (fl,((),((),(),(),())),wi nn,ok,t0,st0,W.of .i64 ((fl.l.length:Int) - 1 - (0:Nat)),())=some (fl,wi nn,ok,t,st,())∧rel nn (L++(outsL fl.l).reverse) st t:=by
 have key:∃ o,L_rename_Right_2_3 (fl,((),((),(),(),())),wi nn,ok,t0,st0,W.of .i64 ((fl.l.length:Int) - 1 - (0:Nat)),())=some o∧∃ st t,o=(fl,wi nn,ok,t,st,())∧rel nn (L++outsL fl.l.reverse) st t:=by
  unfold L_rename_Right_2_3
  refine iter_acc (fun i z=>∃ st t,z=(fl,((),((),(),(),())),wi nn,ok,t,st,W.of .i64 ((fl.l.length:Int) - 1 - (i:Nat)),())∧rel nn (L++outsL (fl.l.reverse.take i)) st t) fl.l.length _ ?_ ?_ ⟨st0,t0,rfl,by rw [List.take_zero,show outsL []=[] from rfl,List.append_nil];exact h0⟩ (by show _ < 281474976710656;omega)
  ·rintro i z hi ⟨st,t,rfl,hrel⟩
   have hin:=W.of_small_n (x:=(fl.l.length:Int) - 1 - (i:Nat)) (by omega) (by omega)
   have hge:W.ge (W.of .i64 ((fl.l.length:Int) - 1 - (i:Nat))) (W.of .i64 0)=true:=W.ge_n.2 (by rw [hin,show (W.of .i64 0).n=0 from rfl];omega)
   have hrl:fl.l.reverse.length=fl.l.length:=List.length_reverse
   have hget:Sl.get? fl (W.of .i64 ((fl.l.length:Int) - 1 - (i:Nat)))=some (nth fl.l.reverse i):=by
    rw [get_at fl (by rw [hin];omega) (by rw [hin];omega),nth_elem (by rw [hin];omega),nth_elem (by omega),List.getElem_reverse]
    congr 1
    simp only [hin]
    congr 1
    omega
   have hsub:W.sub (W.of .i64 ((fl.l.length:Int) - 1 - (i:Nat))) (W.of .i64 1)=W.of .i64 ((fl.l.length:Int) - 1 - ((i+1:Nat):Int)):=by
    refine W.ext ?_
    rw [W.sub_n,hin,show (W.of .i64 1).n=1 from rfl,W.of_n]
    congr 1;omega
   have hnx:outsL (fl.l.reverse.take (i+1))=outsL (fl.l.reverse.take i)++if W.eq (nth fl.l.reverse i).Out (W.of .i64 (-1))=true then [] else [(nth fl.l.reverse i).Out]:=by rw [take_nth (by omega)];exact outsL_next ..
   have hlen:(outsL (fl.l.reverse.take i)).length≤100:=by refine Nat.le_trans (outsL_len _) ?_;rw [List.length_take];omega
   obtain ⟨st',t',h1,h2⟩:=rel_one hn (by rw [List.length_append];omega) hrel (nth fl.l.reverse i).Out
   simp only [B_rename_Right_2_3,ev_ite,ev_opt,ev_ret,hge,if_true,hget,bind_some',hsub,h1,W.ne_eq]
   cases ho:W.eq (nth fl.l.reverse i).Out (W.of .i64 (-1)) with
   | true=>exact ⟨_,rfl,st,t,rfl,by rw [hnx,if_pos ho,List.append_nil];exact hrel⟩
   | false=>exact ⟨_,rfl,st',t',rfl,by rw [hnx,if_neg (by rw [ho];simp),←List.append_assoc];exact h2⟩
  ·rintro z ⟨st,t,rfl,hrel⟩
   have hin:=W.of_small_n (x:=(fl.l.length:Int) - 1 - (fl.l.length:Nat)) (by omega) (by omega)
   have hge:W.ge (W.of .i64 ((fl.l.length:Int) - 1 - (fl.l.length:Nat))) (W.of .i64 0)=false:=by
    unfold W.ge;rw [hin,show (W.of .i64 0).n=0 from rfl];simp;omega
   simp only [B_rename_Right_2_3,ev_ite,ev_ret,hge,Bool.false_eq_true,if_false]
   refine ⟨_,rfl,st,t,rfl,?_⟩
   rw [←List.length_reverse,List.take_length] at hrel
   exact hrel
 obtain ⟨o,h1,st,t,rfl,h2⟩:=key
 exact ⟨st,t,h1,by rw [←outsL_rev];exact h2⟩
theorem core_times {nn:Nat} (hn:nn≤96) (h1n:1≤nn) (fl:Sl 216 TRen) (ok st:Bool) (t:Arr 96 (W .i64)):L_rename_Right_2_18 (fl,wi nn,ok,t,st,wi (0+1),())=some (fl,wi nn,ok&&(List.range (nn - 1)).all (fun i=>W.eq (t.get (i+1)) (W.of .i64 1)),t,st,()):=by
 have key:∃ o,L_rename_Right_2_18 (fl,wi nn,ok,t,st,wi (0+1),())=some o∧o=(fl,wi nn,ok&&(List.range (nn - 1)).all (fun i=>W.eq (t.get (i+1)) (W.of .i64 1)),t,st,()):=by
  unfold L_rename_Right_2_18
  refine iter_acc (fun i z=>z=(fl,wi nn,ok&&(List.range i).all (fun i=>W.eq (t.get (i+1)) (W.of .i64 1)),t,st,wi (i+1),())) (nn - 1) _ ?_ ?_ (by simp) (by show _ < 281474976710656;omega)
  ·rintro i z hi rfl
   simp only [B_rename_Right_2_18,ev_ite,ev_opt,ev_ret,lt_small (show i+1≤1000 by omega) (show nn≤1000 by omega),show i+1 < nn by omega,decide_true,if_true,wi_idx (sm (show i+1≤1000 by omega)),show i+1 < 96 by omega,bind_some',add_small (show i+1 < 1000 by omega),List.range_succ,List.all_append]
   have hb:(ok&&((List.range i).all (fun i=>W.eq (t.get (i+1)) (W.of .i64 1))&&[i].all fun i=>W.eq (t.get (i+1)) (W.of .i64 1)))=((ok&&(List.range i).all (fun i=>W.eq (t.get (i+1)) (W.of .i64 1)))&&W.eq (t.get (i+1)) (W.of .i64 1)):=by
    rw [Bool.and_assoc];simp
   rw [hb]
   cases ok&&(List.range i).all (fun i=>W.eq (t.get (i+1)) (W.of .i64 1)) with
   | true=>exact ⟨_,rfl,rfl⟩
   | false=>exact ⟨_,rfl,rfl⟩
  ·rintro z rfl
   simp only [B_rename_Right_2_18,ev_ite,ev_ret,lt_small (show nn - 1+1≤1000 by omega) (show nn≤1000 by omega),show ¬ nn - 1+1 < nn by omega,decide_false,Bool.false_eq_true,if_false]
   exact ⟨_,rfl,rfl⟩
 obtain ⟨o,h1,rfl⟩:=key
 exact h1
def onceP (nn:Nat) (L:List (W .i64)):Prop:=∀ p,1≤p→p < nn→cnt_b L p=1
def allL (s:TNames) (l:List TRen):List (W .i64):=ringL s.Free++doneR s++outsL l
theorem cnt_perm {A B:List (W .i64)} (p:Nat):cnt_b (A++B.reverse) p=cnt_b (A++B) p:=by unfold cnt_b;rw [List.countP_append,List.countP_append,List.countP_reverse]
theorem any_perm {A B:List (W .i64)} (q:W .i64→Bool):(A++B.reverse).any q=(A++B).any q:=by rw [List.any_append,List.any_append,List.any_reverse]
def namesP (s:TNames) (nn:Nat) (l:List TRen):Prop:=17≤nn∧nn≤96∧ratOk s.Map (wi nn)∧ratOk s.Done (wi nn)∧freeOk s.Free (wi nn)∧((∀ i,i < l.length→stP (fun x=>x ≠ W.of .i64 (-1)) s l i)∧mAt s l l.length=s.Map)∧onceP nn (allL s l)∧∀ x∈allL s l,inR nn x=true
theorem core_names (s:TNames) {nn:Nat} (hnn:nn≤1000) (fl:Sl 216 TRen) (hfl:fl.l.length≤100):∃ b,F_rename_Right s (wi nn) fl=some b∧(b=true ↔ namesP s nn fl.l):=by
 unfold F_rename_Right T_rename_Right namesP
 have c1:W.le (wi nn) (W.of .i64 16)=decide (nn≤16):=by unfold W.le;rw [wi_n (sm hnn),show (W.of .i64 16).n=16 from rfl];exact decide_eq_decide.2 (by omega)
 have c2:W.gt (wi nn) (W.of .i64 96)=decide (96 < nn):=by unfold W.gt;rw [wi_n (sm hnn),show (W.of .i64 96).n=96 from rfl];exact decide_eq_decide.2 (by omega)
 obtain ⟨b1,e1,g1⟩:=core_rat s.Map (wi nn)
 obtain ⟨b2,e2,g2⟩:=core_rat s.Done (wi nn)
 obtain ⟨b3,e3,g3⟩:=core_free s.Free (wi nn)
 simp only [ev_ite,ev_ret,ev_opt,c1,c2,e1,e2,e3,bind_some',decide_eq_true_eq]
 by_cases h1:nn≤16
 ·rw [if_pos h1];exact ⟨false,rfl,fun h=>(by cases h),fun h=>by omega⟩
 by_cases h2:96 < nn
 ·rw [if_neg h1,if_pos h2];exact ⟨false,rfl,fun h=>(by cases h),fun h=>by omega⟩
 rw [if_neg h1,if_neg h2]
 cases b1 with
 | false=>exact ⟨false,rfl,fun h=>(by cases h),fun h=>(by have:=g1.2 h.2.2.1;cases this)⟩
 | true=>
  cases b2 with
  | false=>exact ⟨false,rfl,fun h=>(by cases h),fun h=>(by have:=g2.2 h.2.2.2.1;cases this)⟩
  | true=>
   cases b3 with
   | false=>exact ⟨false,rfl,fun h=>(by cases h),fun h=>(by have:=g3.2 h.2.2.2.2.1;cases this)⟩
   | true=>
    have hfree:=g3.1 rfl
    have hring:=ringOk hfree.1
    obtain ⟨r4,e4,l4⟩:=core_list hring
    have hl4:r4.l.length≤96:=by rw [l4];exact (ringL_len hring).1
    obtain ⟨st1,t1,e5,rel1⟩:=core_rings s (nn:=nn) (by omega) fl r4 hl4
    obtain ⟨st2,t2,e6,rel2⟩:=core_dones s (nn:=nn) (by omega) fl hl4 rel1
    obtain ⟨b4,e7,g4⟩:=core_steps s fl (by omega)
    have hlen2:(r4.l++doneR s).length≤200:=by rw [List.length_append,show (doneR s).length=15 by unfold doneR;simp];omega
    obtain ⟨st3,t3,e8,rel3⟩:=core_outs (nn:=nn) (by omega) fl hfl b4 hlen2 rel2
    have e8':L_rename_Right_2_3 (fl,((),((),(),(),())),wi nn,b4,t2,st2,W.sub (Sl.len fl) (W.of .i64 1),())=some (fl,wi nn,b4,t3,st3,()):=by
     rw [←e8,show W.sub (Sl.len fl) (W.of .i64 1)=W.of .i64 ((fl.l.length:Int) - 1 - (0:Nat)) from W.ext (by
      rw [W.sub_n,Sl.len_n,show (W.of .i64 1).n=1 from rfl,W.of_n]
      congr 1;omega)]
    simp only [Bool.not_true,Bool.false_eq_true,if_false,e4,bind_some',show L_rename_Right_19 (s,wi nn,fl,false,Arr.rep 96 (W.of .i64 0),false,((),((),(),(),())),((),((),((),((),(),(),())),(),(),(),(),())),r4,Sl.len r4,W.of .i64 0,())=_ from e5,show L_rename_Right_34 (s,wi nn,fl,false,t1,st1,((),((),(),(),())),W.of .i64 1,((),((),((),((),(),(),())),(),(),(),(),())),())=_ from e6,e7]
    unfold F_rename_Right_2 T_rename_Right_2
    simp only [ev_ite,ev_ret,ev_opt,e8',bind_some',show L_rename_Right_2_18 (fl,wi nn,b4,t3,st3,W.of .i64 1,())=_ from core_times (by omega) (by omega) fl b4 st3 t3]
    obtain ⟨hst,hcnt⟩:=rel3
    rw [any_perm] at hst
    have hrl:(r4.l++doneR s++outsL fl.l)=allL s fl.l:=by unfold allL;rw [l4]
    rw [hrl] at hst
    have honce:(List.range (nn - 1)).all (fun i=>W.eq (t3.get (i+1)) (W.of .i64 1))=true ↔ onceP nn (allL s fl.l):=by
     rw [List.all_eq_true]
     have hlenL:(allL s fl.l).length≤1000:=by
      rw [←hrl,List.length_append];have:=outsL_len fl.l;omega
     have hc:∀ p,1≤p→p < nn→t3.get p=wi (cnt_b (allL s fl.l) p):=fun p hp hp'=>by rw [hcnt p hp hp',cnt_perm,hrl]
     have hle:∀ p,cnt_b (allL s fl.l) p≤1000:=fun p=>Nat.le_trans List.countP_le_length hlenL
     constructor
     ·intro h p hp hp'
      have:=h (p - 1) (List.mem_range.2 (by omega))
      rw [show p - 1+1=p by omega,hc p hp hp',W.eq_iff] at this
      exact wi_inj (sm (hle p)) (sm (by omega)) this
     ·intro h i hi
      have hi:=List.mem_range.1 hi
      rw [hc _ (by omega) (by omega),h (i+1) (by omega) (by omega)]
      exact W.eq_self _
    have hstr:st3=false ↔ ∀ x∈allL s fl.l,inR nn x=true:=by
     rw [hst,List.any_eq_false]
     exact ⟨fun h x hx=>by simpa using h x hx,fun h x hx=>by simp [h x hx]⟩
    refine ⟨(b4&&(List.range (nn - 1)).all (fun i=>W.eq (t3.get (i+1)) (W.of .i64 1)))&&!st3,?_,?_⟩
    ·cases b4&&(List.range (nn - 1)).all (fun i=>W.eq (t3.get (i+1)) (W.of .i64 1))<;>rfl
    ·rw [Bool.and_eq_true,Bool.and_eq_true,g4,honce,Bool.not_eq_true',hstr]
     exact ⟨fun h=>⟨by omega,by omega,g1.1 rfl,g2.1 rfl,hfree,h.1.1,h.1.2,h.2⟩,fun h=>⟨⟨h.2.2.2.2.2.1,h.2.2.2.2.2.2.1⟩,h.2.2.2.2.2.2.2⟩⟩
def brkL (b2 b3 b4 b5 b6 b7 b8 b9:Bool):List (W .i64):=(if b2=true then [] else [W.of .i64 2])++(if b3=true then [] else [W.of .i64 3])++(if b4=true then [] else [W.of .i64 4])++(if b5=true then [] else [W.of .i64 5])++(if b6=true then [] else [W.of .i64 6])++(if b7=true then [] else [W.of .i64 7])++(if b8=true then [] else [W.of .i64 8])++(if b9=true then [] else [W.of .i64 9])
theorem core_loop (b2 b3 b4 b5 b6 b7 b8 b9:Bool):∃ r,L_core_Broken_15 (Sl.nil,Sl.lit 1 [b2,b3,b4,b5,b6,b7,b8,b9] rfl,W.of .i64 8,W.of .i64 0,())=some r∧r.1.l=brkL b2 b3 b4 b5 b6 b7 b8 b9:=by
 have h:(L_core_Broken_15 (Sl.nil,Sl.lit 1 [b2,b3,b4,b5,b6,b7,b8,b9] rfl,W.of .i64 8,W.of .i64 0,())).map (fun r=>r.1.l)=some (brkL b2 b3 b4 b5 b6 b7 b8 b9):=by
  cases b2<;>cases b3<;>cases b4<;>cases b5<;>cases b6<;>cases b7<;>cases b8<;>cases b9<;>kernel_rfl
 cases hL:L_core_Broken_15 (Sl.nil,Sl.lit 1 [b2,b3,b4,b5,b6,b7,b8,b9] rfl,W.of .i64 8,W.of .i64 0,()) with
 | none=>rw [hL] at h;cases h
 | some r=>rw [hL] at h;exact ⟨r,rfl,Option.some.inj h⟩
theorem core_rens (c:TCore) (h:c.Rob.l.length < 1000):∃ a,F_core_rens c=some a∧a.l=c.Rob.l.map TRob.Ren:=by
 have key:∃ o,L_core_rens_7 (Sl.nil,c.Rob,Sl.len c.Rob,wi 0,())=some o∧o.1.l=c.Rob.l.map TRob.Ren:=by
  unfold L_core_rens_7
  refine iter_acc (fun i s=>∃ a:Sl 216 TRen,s=(a,c.Rob,Sl.len c.Rob,wi i,())∧a.l=(c.Rob.l.take i).map TRob.Ren) c.Rob.l.length _ ?_ ?_ ⟨Sl.nil,rfl,rfl⟩ (by show _ < 281474976710656;omega)
  ·rintro i s hi ⟨a,rfl,ha⟩
   have hlen:a.l.length=i:=by rw [ha,List.length_map,List.length_take];omega
   obtain ⟨r,hr1,hr2⟩:=app_lit (s:=a) (x:=(nth c.Rob.l i).Ren) (hb:=rfl) (by unfold room;omega) (by unfold room;omega)
   simp only [B_core_rens_7,ev_ite,ev_opt,ev_ret,lt_len c.Rob hi,Sl.get_wi c.Rob hi,if_true,bind_some',hr1,wi_next c.Rob hi]
   exact ⟨_,rfl,r,rfl,by rw [hr2,ha,take_nth hi,List.map_append];rfl⟩
  ·rintro s ⟨a,rfl,ha⟩
   simp only [B_core_rens_7,ev_ite,ev_ret,lt_end c.Rob]
   exact ⟨_,rfl,by rw [←List.take_length (l:=c.Rob.l)];exact ha⟩
 obtain ⟨o,h1,h2⟩:=key
 refine ⟨o.1,?_,h2⟩
 unfold F_core_rens T_core_rens
 simp only [ev_opt,wi_zero,h1,bind_some',ev_ret]
def ord2 (c:TCore):Prop:=robOk c.Rob.l∧(match c.Rob.l.length with | 0=>True | i+1=>W.lt (nth c.Rob.l i).Ren.Seq c.Names.Seq=true)
theorem core_ord (c:TCore) (h:c.Rob.l.length < 1000):∃ b,F_core_ordered c=some b∧(b=true ↔ ord2 c):=by
 obtain ⟨b,e,g⟩:=core_rob c.Rob h
 have hroom:=c.Rob.h.2
 unfold F_core_ordered T_core_ordered ord2
 simp only [ev_opt,ev_ite,ev_ret,e,bind_some',wi_zero]
 rw [←g]
 cases b with
 | false=>exact ⟨false,rfl,by simp⟩
 | true=>
  simp only [if_true,true_and]
  cases hn:c.Rob.l.length with
  | zero=>
   rw [show W.eq (Sl.len c.Rob) (wi 0)=true by rw [Sl.len_wi,hn];exact W.eq_self _]
   exact ⟨true,rfl,by simp⟩
  | succ i=>
   rw [show W.eq (Sl.len c.Rob) (wi 0)=false by rw [Sl.len_wi,wi_eq hroom (by omega),hn];simp,Sl.len_wi,hn,wi_sub (by omega),Sl.get_wi c.Rob (show i < c.Rob.l.length by omega)]
   exact ⟨_,rfl,Iff.rfl⟩
theorem phys_wi {c:TConf} (h:okConf c=true):∃ nn,c.Phys=wi nn∧nn≤1000:=by
 unfold okConf roomsB at h
 simp only [Bool.and_eq_true] at h
 have h1:=h.1.1.2.2
 unfold inB at h1
 rw [Bool.and_eq_true,W.ge_n,W.le_n,show (W.of .i64 18).n=18 from rfl,show (W.of .i64 96).n=96 from rfl] at h1
 exact ⟨c.Phys.n.toNat,of_small (by omega),by omega⟩
theorem masked_some {i:Nat} (h:i < 12):∃ k,F_csr_Masked (wi i)=some k:=by
 have:=all_lt (p:=fun i=>(F_csr_Masked (wi i)).isSome) (n:=12) (by kernel_rfl) h
 exact Option.isSome_iff_exists.1 this
theorem clean_some (a:TArch):∃ b,F_core_clean a=some b:=by
 have key:∃ o o',L_core_clean_5 (a,a.C,wi 0,())=some o∧L_core_clean_5 (a,a.C,wi 0,())=some o'∧(o=.inl (a,false,())∨o=.inr (a,(),())):=by
  unfold L_core_clean_5
  refine iter_both (fun i s s'=>s=(a,a.C,wi i,())∧s'=s) 12 (fun o _=>o=Sum.inl (a,false,())∨o=Sum.inr (a,(),())) ?_ ?_ ⟨rfl,rfl⟩ (by decide)
  ·rintro i s s' hi ⟨rfl,rfl⟩
   have hlt:W.lt (wi i) (W.of .i64 12)=true:=(lt_small (m:=12) (by omega) (by omega)).trans (by simpa using hi)
   obtain ⟨k,hk⟩:=masked_some hi
   simp only [B_core_clean_5,ev_ite,ev_opt,ev_ret,hlt,if_true,wi_idx (sm (show i≤1000 by omega)),hi,bind_some',hk,add_small (show i < 1000 by omega)]
   split
   ·exact .inr ⟨_,_,rfl,rfl,.inl rfl⟩
   ·exact .inl ⟨_,_,rfl,rfl,rfl,rfl⟩
  ·rintro s s' ⟨rfl,rfl⟩
   exact ⟨_,_,rfl,rfl,.inr rfl⟩
 obtain ⟨o,_,k1,_,h⟩:=key
 unfold F_core_clean T_core_clean
 simp only [ev_opt,ev_ite,ev_ret,ev_sum,show L_core_clean_5 (a,a.C,W.of .i64 0,())=_ from k1,bind_some']
 rcases h with rfl | rfl
 ·exact ⟨_,rfl⟩
 ·exact ⟨_,rfl⟩
end Go.Proofs.YtkddkpmijhionaaGreatDoor
