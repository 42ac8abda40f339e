/- YtedhidchlfhegaaGreatDoorPureRunSplits: two runs, one behind the other, are one run. No statement of the seat is proved here. -/
import Derived.Test.YtedhidchlfhegaaGreatDoorRuns
set_option linter.unusedSimpArgs false
set_option linter.unusedVariables false
set_option maxRecDepth 100000
namespace Go.Proofs.YtedhidchlfhegaaGreatDoor
open Go Go.A2
theorem awake16:F_law16_awake=some true:=by kernel_rfl
theorem runs_fun {irqs:List TIrq} {i n:Nat} {m a:TMach} {l:List TEvent} (h:Runs irqs i m n a l):∀ {b:TMach} {x:List TEvent},Runs irqs i m n b x→a=b∧l=x:=by
 induction h with
 | zero i m=>intro b x h';cases h';exact ⟨rfl,rfl⟩
 | halt i m n h hk=>
  intro b x h'
  cases h' with
  | halt _ _ _ _ _=>exact ⟨rfl,rfl⟩
  | step _ _ _ h2 hk2 _ _=>rw [h] at h2;cases h2;rw [hk] at hk2;cases hk2
 | step i m n h hk _ _ ih=>
  intro b x h'
  cases h' with
  | halt _ _ _ h2 hk2=>rw [h] at h2;cases h2;rw [hk] at hk2;cases hk2
  | step _ _ _ h2 hk2 _ hr2=>
   rw [h] at h2;cases h2
   obtain ⟨e1,e2⟩:=ih hr2
   exact ⟨e1,by rw [e2]⟩
theorem runs_short {irqs:List TIrq} {i n:Nat} {m a:TMach} {l:List TEvent} (h:Runs irqs i m n a l) (hl:l.length < n) (k:Nat):Runs irqs i m (n+k) a l:=by
 induction h with
 | zero i m=>cases hl
 | halt i m n h hk=>rw [Nat.add_right_comm];exact .halt i m _ h hk
 | step i m n h hk hd _ ih=>rw [Nat.add_right_comm];exact .step i m _ h hk hd (ih (Nat.lt_of_succ_lt_succ hl))
theorem runs_append {irqs:List TIrq} {i n:Nat} {m b:TMach} {x:List TEvent} (h:Runs irqs i m n b x) (hx:x.length=n) {k:Nat} {c:TMach} {y:List TEvent} (h':Runs irqs (i+n) b k c y):Runs irqs i m (n+k) c (x++y):=by
 induction h with
 | zero i m=>rw [Nat.zero_add];exact h'
 | halt i m n h hk=>cases hx
 | step i m n h hk hd _ ih=>
  rw [Nat.add_right_comm]
  exact .step i m _ h hk hd (ih (Nat.succ.inj hx) (by rw [Nat.add_assoc,Nat.add_comm 1 n];exact h'))
theorem runs_shift {irqs left:List TIrq} {n:Nat} (hu:∀ j,n+j < 1000→∀ A,upA left (wi j) A=upA irqs (wi (n+j)) A) {j k:Nat} {b c:TMach} {y:List TEvent} (h:Runs left j b k c y):n+j+k < 1000→Runs irqs (n+j) b k c y:=by
 induction h with
 | zero i m=>exact fun _=>.zero _ _
 | halt i m k h hk=>
  intro hj
  have e:upM left i m=upM irqs (n+i) m:=by unfold upM;rw [hu i (by omega)]
  rw [e] at h ⊢
  exact .halt _ m k h hk
 | step i m k h hk hd _ ih=>
  intro hj
  have e:upM left i m=upM irqs (n+i) m:=by unfold upM;rw [hu i (by omega)]
  rw [e] at h hd
  exact .step _ m k h hk hd (ih (by omega))
def later (n:Nat) (l:List TIrq):List TIrq:=l.filterMap fun q=>if (n:Int)≤q.At.n then some (TIrq.mk (W.sub q.At (wi n)) q.Lines) else none
theorem later_cons (n:Nat) (q:TIrq) (l:List TIrq):later n (q :: l)=if (n:Int)≤q.At.n then TIrq.mk (W.sub q.At (wi n)) q.Lines :: later n l else later n l:=by
 unfold later
 rw [List.filterMap_cons]
 by_cases c:(n:Int)≤q.At.n
 ·rw [if_pos c,if_pos c]
 ·rw [if_neg c,if_neg c]
theorem upA_nil (k:W .i64) (A:TArch):upA [] k A=A:=rfl
theorem upA_cons (q:TIrq) (l:List TIrq) (k:W .i64) (A:TArch):upA (q :: l) k A=upA l k (if W.eq q.At k=true then (F_csr_Raise A q.Lines).getD A else A):=rfl
theorem at_later {n j:Nat} (hj:n+j < 1000) (x:W .i64) (c:(n:Int)≤x.n):W.eq (W.sub x (wi n)) (wi j)=W.eq x (wi (n+j)):=by
 have hn:(wi n).n=n:=wi_n (sm (by omega))
 have hj':(wi j).n=j:=wi_n (sm (by omega))
 have hnj:(wi (n+j)).n=((n+j:Nat):Int):=wi_n (sm (by omega))
 have h1:=W.r_i64 x
 refine iff_bool ?_
 rw [W.eq_n,W.eq_n,W.sub_n,hn,hj',hnj,wrap_i64]
 omega
theorem later_up {n j:Nat} (hj:n+j < 1000) (l:List TIrq):∀ A,upA (later n l) (wi j) A=upA l (wi (n+j)) A:=by
 induction l with
 | nil=>exact fun A=>by rw [show later n []=[] from rfl,upA_nil,upA_nil]
 | cons q l ih=>
  intro A
  rw [later_cons,upA_cons]
  by_cases c:(n:Int)≤q.At.n
  ·rw [if_pos c,upA_cons,ih,at_later hj _ c]
  ·have e:W.eq q.At (wi (n+j))=false:=by
    have hnj:(wi (n+j)).n=((n+j:Nat):Int):=wi_n (sm (by omega))
    have:¬ W.eq q.At (wi (n+j))=true:=by rw [W.eq_n,hnj];omega
    simpa using this
   rw [if_neg c,ih,e,if_neg (by simp)]
theorem later_snoc (n:Nat) (l:List TIrq) (q:TIrq):later n (l++[q])=later n l++if (n:Int)≤q.At.n then [TIrq.mk (W.sub q.At (wi n)) q.Lines] else []:=by
 unfold later
 rw [List.filterMap_append]
 congr 1
 by_cases c:(n:Int)≤q.At.n
 ·simp [c]
 ·simp [c]
theorem later_len (n:Nat) (l:List TIrq):(later n l).length≤l.length:=List.length_filterMap_le _ _
theorem same_machs (a b:TMach) (h:a=b) (h1:a.Mem.l.length < fuel) (h2:a.Shadow.l.length < fuel) (h3:a.Out.l.length < fuel):F_same_Mach a b=some true:=by subst h;exact same_mach a h1 h2 h3
theorem rem30 (b:W .u8):∃ n:Nat,n < 30∧W.rem (W.conv .i64 b) (W.of .i64 30)=wi n:=by
 have hv:b.v < 256:=u8_lt b
 have hb:(W.conv .i64 b).n=b.v:=by have:=b.r_u8;rw [W.conv_n,wrap_i64];unfold W.v;omega
 have h1:(W.conv .i64 b).n.tmod 30=((b.v % 30:Nat):Int):=by rw [hb,show ((30:Int))=((30:Nat):Int) from rfl,←Int.ofNat_tmod]
 refine ⟨b.v % 30,Nat.mod_lt _ (by decide),W.ext ?_⟩
 have:=Nat.mod_lt b.v (show 0 < 30 by decide)
 rw [W.rem_n,show (W.of .i64 30).n=30 from rfl,h1,wi_n (sm (by omega)),wrap_i64];omega
theorem leave (irqs:Sl 16 TIrq) (hq:irqs.l.length≤12) {n:Nat} (hn:n < 30) (k:W .i64) (a b:TMach) (l x:Sl 72 TEvent):
  ∃ left:Sl 16 TIrq,left.l=later n irqs.l∧L_law16_RunSplits_25 (irqs,wi n,k,a,l,b,x,Sl.nil,wi 0,())=some (k,a,l,b,x,left,()):=by
 have key:∃ o,L_law16_RunSplits_25 (irqs,wi n,k,a,l,b,x,Sl.nil,wi 0,())=some o∧∃ left:Sl 16 TIrq,left.l=later n irqs.l∧o=(k,a,l,b,x,left,()):=by
  unfold L_law16_RunSplits_25
  refine iter_out (fun j s=>∃ left:Sl 16 TIrq,left.l=later n (irqs.l.take j)∧s=(irqs,wi n,k,a,l,b,x,left,wi j,())) irqs.l.length _ ?_ ?_ ⟨_,rfl,rfl⟩ (by show _ < 1048576;omega)
  ·rintro j s hj ⟨left,h1,rfl⟩
   have hlen:left.l.length≤12:=by
    have h2:=later_len n (irqs.l.take j)
    rw [←h1,List.length_take] at h2;omega
   have hge:W.ge (nth irqs.l j).At (wi n)=decide ((n:Int)≤(nth irqs.l j).At.n):=iff_bool (by rw [W.ge_n,wi_n (sm (by omega)),decide_eq_true_eq])
   obtain ⟨r',e1,e2⟩:=app_lit (s:=left) (x:=TIrq.mk (W.sub (nth irqs.l j).At (wi n)) (nth irqs.l j).Lines) (hb:=rfl) (by unfold room;omega) (by unfold room;omega)
   rw [take_nth hj]
   simp only [B_law16_RunSplits_25,ev_ite,ev_opt,ev_ret,lt_len irqs hj,if_true,Sl.get_wi irqs hj,bind_some',hge,wi_next irqs hj,decide_eq_true_eq]
   by_cases c:(n:Int)≤(nth irqs.l j).At.n
   ·simp only [c,if_true,e1,bind_some']
    exact .inl ⟨_,rfl,r',by rw [e2,later_snoc,if_pos c,h1],rfl⟩
   ·simp only [c,if_false]
    exact .inl ⟨_,rfl,left,by rw [later_snoc,if_neg c,h1,List.append_nil],rfl⟩
  ·rintro s ⟨left,h1,rfl⟩
   simp only [B_law16_RunSplits_25,ev_ite,ev_ret,lt_end irqs,Bool.false_eq_true,if_false]
   exact ⟨_,rfl,left,by rw [h1,List.take_length],rfl⟩
 obtain ⟨o,k1,left,h1,rfl⟩:=key
 exact ⟨left,h1,k1⟩
theorem sl_ext {b:Nat} {α:Type} {x y:Sl b α} (h:x.l=y.l):x=y:=by cases x;cases y;cases h;rfl
theorem runSplits (m:TMach) (irqs:Sl 16 TIrq) (at_:Arr 2 (W .u8)):F_law16_RunSplits m irqs at_=some true:=by
 obtain ⟨b,hL,hl⟩:=light15 m
 unfold F_law16_RunSplits T_law16_RunSplits F_law16_few T_law16_few
 rw [ev_opt,hL,bind_some',ev_ite]
 cases b with
 | false=>simp only [Bool.not_false,if_true,ev_opt,awake16,bind_some',ev_ret]
 | true=>
  have hM:=hl.1 rfl
  have ho:=hM.out
  have hm:=hM.mem
  have hf:W.le (Sl.len irqs) (W.of .i64 12)=decide (irqs.l.length≤12):=len_le (n:=12) (sm (by omega))
  simp only [Bool.not_true,Bool.false_eq_true,if_false,ev_opt,ev_ret,bind_some',ev_ite,hf,awake16]
  by_cases c1:irqs.l.length≤12
  ·obtain ⟨n,hn,en⟩:=rem30 (at_.get 0)
   obtain ⟨k,hk,ek⟩:=rem30 (at_.get 1)
   have enk:W.add (wi n) (wi k)=wi (n+k):=add_wi (by omega) (by omega)
   have n1:(wi n).n=n:=wi_n (sm (by omega))
   have n2:(wi k).n=k:=wi_n (sm (by omega))
   have n3:(wi (n+k)).n=((n+k:Nat):Int):=wi_n (sm (by omega))
   simp only [c1,decide_true,Bool.not_true,Bool.false_eq_true,if_false,en,ek,enk]
   obtain ⟨a,l,i,r1,hi,hi',hR,hX⟩:=run_runs m hM.right.sh (by omega) irqs c1 (wi (n+k)) (by omega)
   obtain ⟨b,x,j,q1,hj,hj',hS,hY⟩:=run_runs m hM.right.sh (by omega) irqs c1 (wi n) (by omega)
   rw [n3,show (((n+k:Nat):Int)).toNat=n+k from rfl] at hX
   rw [n1,show ((n:Int)).toNat=n from rfl] at hY hj'
   have ho1:=hR.o
   have hm1:=hR.mem
   have hs1:=hR.sh
   have he1:=hR.ev
   have he2:=hS.ev
   have sm1:∀ c:TMach,a=c→F_same_Mach a c=some true:=fun c h=>same_machs a c h (by show _ < 1048576;omega) (by show _ < 1048576;omega) (by show _ < 1048576;omega)
   have se1:∀ z:Sl 72 TEvent,l.l=z.l→F_same_Events l z=some true:=fun z h=>by rw [←sl_ext h];exact self_same_Events l (by show _ < 1048576;omega)
   have hlt:W.lt (Sl.len x) (wi n)=decide (x.l.length < n):=iff_bool (by rw [W.lt_n,n1,Sl.len_n,decide_eq_true_eq];omega)
   simp only [r1,q1,bind_some',hlt,decide_eq_true_eq]
   by_cases c2:x.l.length < n
   ·obtain ⟨e1,e2⟩:=runs_fun hX (runs_short hY c2 k)
    simp only [c2,if_true,sm1 b e1,se1 x e2,bind_some']
   ·obtain ⟨left,l1,l2⟩:=leave irqs c1 hn (wi k) a b l x
    have hlen:left.l.length≤12:=by rw [l1];have:=later_len n irqs.l;omega
    have hS1:=hS.sh
    have hS2:=hS.mem
    have hS3:=hS.o
    obtain ⟨c,y,w,p1,hw,hw',hT,hZ⟩:=run_runs b (by omega) (by omega) left hlen (wi k) (by omega)
    have hT4:=hT.ev
    rw [n2,show ((k:Int)).toNat=k from rfl,l1] at hZ
    have hZ':=runs_shift (irqs:=irqs.l) (n:=n) (fun j hj A=>later_up hj irqs.l A) hZ (by omega)
    obtain ⟨e1,e2⟩:=runs_fun hX (runs_append hY (by omega) (by rw [Nat.zero_add];exact hZ'))
    obtain ⟨z,z1,z2⟩:=app_list (s:=x) (t:=y) (by unfold room;omega) (by unfold room;omega)
    simp only [c2,if_false,show L_law16_RunSplits_25 (irqs,wi n,wi k,a,l,b,x,Sl.nil,W.of .i64 0,())=_ from l2,bind_some',p1,sm1 c e1,z1,if_true,se1 z (by rw [e2,z2])]
  ·simp only [c1,decide_false,Bool.not_false,if_true]
end Go.Proofs.YtedhidchlfhegaaGreatDoor
