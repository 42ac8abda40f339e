/- YtkddkpmijhionaaGreatDoorKeep1: names and free registers keep their rules when a part is renamed. No statement of the seat is proved here. -/
import Derived.Test.YtkddkpmijhionaaGreatDoorOrder2
set_option linter.unusedSimpArgs false
set_option linter.unusedVariables false
set_option maxRecDepth 100000
namespace Go.Proofs.YtkddkpmijhionaaGreatDoor
open Go Go.A2
theorem nth_cons {α:Type} [Inhabited α] (a:α) (l:List α) (i:Nat):nth (a :: l) (i+1)=nth l i:=rfl
theorem take_full (f:TFree) (h:0 < freeN f):∃ g p,F_freel_Take f=some (g,p,true)∧ringB g=true∧ringL f=p :: ringL g∧g.Ring=f.Ring:=by
 unfold freeN at h
 have hB:ringB f=true:=by
  cases hb:ringB f with
  | true=>rfl
  | false=>rw [hb] at h;simp at h
 rw [if_pos hB] at h
 have hk:=ringOk hB
 have h0:¬ f.N=W.of .i64 0:=fun hh=>by rw [hh] at h;exact absurd h (by decide)
 have h1:=hk.n0
 have h2:=hk.n1
 have h3:=hk.len
 have h4:=hk.h0
 have h5:=hk.h1
 have hlen:0 < f.Ring.l.length:=by omega
 have e0:F_freel_ring_at f (W.of .i64 0)=some f.Head:=by
  have:=core_place' hk (k:=0) (by decide) hlen
  rw [Nat.add_zero,Nat.mod_eq_of_lt (by omega),←of_small h4] at this
  exact this
 have e1:=core_place' hk (k:=1) (by decide) hlen
 have hm:=Nat.mod_lt (f.Head.n.toNat+1) hlen
 have hn:(W.sub f.N (W.of .i64 1)).n=f.N.n - 1:=by
  rw [W.sub_n,show (W.of .i64 1).n=1 from rfl,wrap_i64];omega
 have hhd:(wi ((f.Head.n.toNat+1) % f.Ring.l.length)).n=(((f.Head.n.toNat+1) % f.Ring.l.length:Nat):Int):=wi_n (sm (by omega))
 refine ⟨{ f with Head:=wi ((f.Head.n.toNat+1) % f.Ring.l.length),N:=W.sub f.N (W.of .i64 1) },nth f.Ring.l f.Head.n.toNat,?_,?_,?_,rfl⟩
 ·unfold F_freel_Take T_freel_Take
  simp only [ev_opt,ev_ite,ev_ret,core_ring,hB,bind_some',Bool.not_true,Bool.false_eq_true,if_false,W.eq_dec,h0,decide_false,e0,get_at f.Ring h4 (show f.Head.n < _ by omega),show F_freel_ring_at f (W.of .i64 1)=_ from e1]
 ·unfold ringB
  rw [decide_eq_true_eq]
  simp only [hn,hhd]
  omega
 ·unfold ringL
  simp only [hn,hhd]
  rw [show f.N.n.toNat=(f.N.n - 1).toNat+1 by omega,List.range_succ_eq_map,List.map_cons,List.map_map,Nat.add_zero,Nat.mod_eq_of_lt (by omega)]
  congr 1
  refine List.map_congr_left fun k _=>?_
  show nth f.Ring.l ((f.Head.n.toNat+(k+1)) % f.Ring.l.length)=nth f.Ring.l (((((f.Head.n.toNat+1) % f.Ring.l.length:Nat):Int).toNat+k) % f.Ring.l.length)
  rw [show ((((f.Head.n.toNat+1) % f.Ring.l.length:Nat):Int).toNat)=(f.Head.n.toNat+1) % f.Ring.l.length from rfl,Nat.mod_add_mod,show f.Head.n.toNat+(k+1)=f.Head.n.toNat+1+k by omega]
theorem wr_same (u:TUop):wrB u=pWrites u:=by
 unfold wrB pWrites
 exact decide_eq_decide.2 (by omega)
structure Renamed (s:TNames) (u:TUop) (s':TNames) (r:TRen):Prop where
 uop:r.Uop=u
 rseq:r.Seq=s.Seq
 seq:s'.Seq=W.add s.Seq (W.of .u64 1)
 done:s'.Done=s.Done
 no:pWrites u=false→s'.Map=s.Map∧s'.Free=s.Free∧r.Out=W.of .i64 (-1)∧r.Old=W.of .i64 (-1)
 yes:pWrites u=true→∃ p,ringL s.Free=p :: ringL s'.Free∧ringB s'.Free=true∧s'.Free.Ring=s.Free.Ring∧r.Out=p∧r.Old=s.Map.get u.Dst.n.toNat∧s'.Map=s.Map.set u.Dst.n.toNat p
theorem rename_full (s:TNames) (u:TUop) (h:pWrites u=true→0 < freeN s.Free):∃ s' r,F_rename_One s u=some (s',r,true)∧Renamed s u s' r:=by
 have main:∀ (t4:TNames) (t5 r0:TRen),∃ r,L_rename_One_7 (s,u,t4,t5,r0,u.Src,wi 0,())=some (s,u,t4,t5,r,())∧r.Uop=r0.Uop∧r.Seq=r0.Seq∧r.Out=r0.Out∧r.Old=r0.Old:=fun t4 t5 r0=>by
  have key:∃ o,L_rename_One_7 (s,u,t4,t5,r0,u.Src,wi 0,())=some o∧∃ r,o=(s,u,t4,t5,r,())∧r.Uop=r0.Uop∧r.Seq=r0.Seq∧r.Out=r0.Out∧r.Old=r0.Old:=by
   unfold L_rename_One_7
   refine iter_acc (fun i a=>∃ r,a=(s,u,t4,t5,r,u.Src,wi i,())∧r.Uop=r0.Uop∧r.Seq=r0.Seq∧r.Out=r0.Out∧r.Old=r0.Old) 3 _ ?_ ?_ ⟨r0,rfl,rfl,rfl,rfl,rfl⟩ (by decide)
   ·rintro i a hi ⟨r,rfl,k⟩
    have hlt:W.lt (wi i) (W.of .i64 3)=true:=(lt_small (m:=3) (by omega) (by omega)).trans (by simpa using hi)
    obtain ⟨v,v1,_⟩:=rat_get s.Map (u.Src.get i)
    simp only [B_rename_One_7,ev_ite,ev_opt,ev_ret,hlt,if_true,wi_idx (sm (show i≤1000 by omega)),hi,bind_some',v1,add_small (show i < 1000 by omega)]
    exact ⟨_,rfl,_,rfl,k⟩
   ·rintro a ⟨r,rfl,k⟩
    exact ⟨_,rfl,r,rfl,k⟩
  obtain ⟨o,k1,r,rfl,k2⟩:=key
  exact ⟨r,k1,k2⟩
 unfold F_rename_One T_rename_One
 simp only [ev_opt,ev_ite,ev_ret]
 obtain ⟨r,k1,k2,k3,k4,k5⟩:=main (TNames.mk (Arr.rep 16 (W.of .i64 0)) (Arr.rep 16 (W.of .i64 0)) (TFree.mk Sl.nil (W.of .i64 0) (W.of .i64 0)) (W.of .u64 0)) (TRen.mk (TUop.mk (TInst.mk (W.of .i64 0) (W.of .i64 0) (W.of .i64 0) (W.of .i64 0) (W.of .i64 0)) (TSlot.mk (W.of .u32 0) (W.of .u32 0) (W.of .i64 0) (W.of .u32 0) (TGuess.mk false (W.of .u32 0) (TSave.mk (W.of .u32 0) (W.of .i64 0) (W.of .u32 0)))) (W.of .i64 0) (W.of .i64 0) false (Arr.rep 3 (W.of .i64 0)) (W.of .i64 0) (W.of .i64 0) (W.of .u32 0)) (W.of .u64 0) (Arr.rep 3 (W.of .i64 0)) (W.of .i64 0) (W.of .i64 0)) (TRen.mk u s.Seq (Arr.rep 3 (W.of .i64 0)) (W.of .i64 (-1)) (W.of .i64 (-1)))
 rw [show L_rename_One_7 (s,u,_,_,_,u.Src,W.of .i64 0,())=_ from k1]
 simp only [bind_some',(writes_r u).1]
 cases hw:pWrites u with
 | false=>
  simp only [Bool.false_eq_true,if_false]
  exact ⟨_,_,rfl,⟨k2,k3,rfl,rfl,fun _=>⟨rfl,rfl,k4,k5⟩,fun h=>by rw [hw] at h;cases h⟩⟩
 | true=>
  obtain ⟨g,p,t1,t2,t3,t4⟩:=take_full s.Free (h hw)
  have hd:1≤u.Dst.n∧u.Dst.n < 16:=by
   have:=of_decide_eq_true hw
   omega
  have v1:=rat_get_b s.Map hd
  have q1:=rat_set_b s.Map p hd
  simp only [if_true,t1,bind_some',Bool.not_true,Bool.false_eq_true,if_false,v1,q1]
  exact ⟨_,_,rfl,⟨k2,k3,rfl,rfl,fun h=>(by rw [hw] at h;cases h),fun _=>⟨p,t3,t2,t4,rfl,rfl,rfl⟩⟩⟩
theorem mAt_app {s s':TNames} (hd:s'.Done=s.Done) (l x:List TRen):∀ i,i≤l.length→mAt s' (l++x) i=mAt s l i
 | 0,_=>hd
 | i+1,h=>by
  unfold mAt
  rw [nth_app1 (show i < l.length by omega),mAt_app hd l x i (by omega)]
theorem lastR_app (l x:List TRen):∀ i,i≤l.length→lastR (l++x) i=lastR l i
 | 0,_=>rfl
 | i+1,h=>by
  show (nth (l++x) i).Seq=(nth l i).Seq
  rw [nth_app1 (show i < l.length by omega)]
theorem nth_end {α:Type} [Inhabited α] (l:List α) (x:α):nth (l++[x]) l.length=x:=by
 have:=nth_app2 (a:=l) (b:=[x]) (k:=0) (by simp)
 rw [Nat.add_zero] at this;exact this
theorem map_vals {s:TNames} {l:List TRen} (hst:∀ i,i < l.length→stP (fun x=>x ≠ W.of .i64 (-1)) s l i):∀ i,i≤l.length→∀ r,1≤r→r < 16→(mAt s l i).get r∈doneR s++outsL l
 | 0,_,r,h1,h2=>by
  refine List.mem_append_left _ (List.mem_map.2 ⟨r - 1,List.mem_range.2 (by omega),?_⟩)
  show s.Done.get (r - 1+1)=s.Done.get r
  rw [show r - 1+1=r by omega]
 | i+1,hi,r,h1,h2=>by
  have ih:=map_vals hst i (by omega) r h1 h2
  unfold mAt
  cases hw:wrB (nth l i).Uop with
  | false=>simp only [Bool.false_eq_true,if_false];exact ih
  | true=>
   simp only [if_true]
   have hd:=of_decide_eq_true hw
   rw [Arr.get_set (by omega)]
   by_cases c:(nth l i).Uop.Dst.n.toNat=r
   ·rw [if_pos c]
    have h3:=(hst i (by omega)).2.2
    rw [if_pos hw] at h3
    refine List.mem_append_right _ (List.mem_map.2 ⟨nth l i,List.mem_filter.2 ⟨nth_mem (by omega),?_⟩,rfl⟩)
    rw [W.eq_dec]
    simp [h3.1]
   ·rw [if_neg c];exact ih
theorem outs_snoc (l:List TRen) (r:TRen):outsL (l++[r])=outsL l++if r.Out=W.of .i64 (-1) then [] else [r.Out]:=by
 unfold outsL
 rw [List.filter_append,List.map_append]
 congr 1
 rw [List.filter_cons,W.eq_dec]
 by_cases c:r.Out=W.of .i64 (-1)
 ·simp [c]
 ·simp [c]
theorem cnt_in {L:List (W .i64)} {x:W .i64} (h:x∈L) {q:Nat} (hx:x=wi q):0 < cnt_b L q:=by
 unfold cnt_b
 exact List.countP_pos_iff.2 ⟨x,h,by rw [hx,W.eq_self]⟩
theorem done_same {s s':TNames} (h:s'.Done=s.Done):doneR s'=doneR s:=by unfold doneR;rw [h]
theorem names_keep {s s':TNames} {u:TUop} {r:TRen} (hR:Renamed s u s' r) {nn:Nat} {l:List TRen} (h:namesP s nn l) (hs1:1≤s.Seq.n) (hs2:s.Seq.n < 2305843009213693952):namesP s' nn (l++[r]):=by
 obtain ⟨n17,n96,mOk,dOk,fOk,⟨st,mEnd⟩,once,inr⟩:=h
 have hseq:s'.Seq.n=s.Seq.n+1:=by
  rw [hR.seq,W.add_n,show (W.of .u64 1).n=1 from rfl,wrap_u64];omega
 have hlast:(lastR l l.length).n < s.Seq.n:=by
  cases hl:l.length with
  | zero=>show (W.of .u64 0).n < _;rw [show (W.of .u64 0).n=0 from rfl];omega
  | succ k=>
   have:=(st k (by omega)).2.1
   have:¬ W.ge (nth l k).Seq s.Seq=true:=by rw [this];simp
   rw [W.ge_n] at this
   show (nth l k).Seq.n < _
   omega
 have hlen:(l++[r]).length=l.length+1:=by rw [List.length_append];rfl
 have old:∀ i,i < l.length→stP (fun x=>x ≠ W.of .i64 (-1)) s' (l++[r]) i:=fun i hi=>by
  obtain ⟨h1,h2,h3⟩:=st i hi
  unfold stP
  rw [nth_app1 hi,lastR_app l [r] i (by omega),mAt_app hR.done l [r] i (by omega)]
  refine ⟨h1,?_,h3⟩
  have:¬ W.ge (nth l i).Seq s.Seq=true:=by rw [h2];simp
  rw [W.ge_n] at this
  have:¬ W.ge (nth l i).Seq s'.Seq=true:=by rw [W.ge_n];omega
  simpa using this
 have new1:W.le (nth (l++[r]) l.length).Seq (lastR (l++[r]) l.length)=false:=by
  rw [nth_end,lastR_app l [r] _ (Nat.le_refl _),hR.rseq]
  have:¬ W.le s.Seq (lastR l l.length)=true:=by rw [W.le_n];omega
  simpa using this
 have new2:W.ge (nth (l++[r]) l.length).Seq s'.Seq=false:=by
  rw [nth_end,hR.rseq]
  have:¬ W.ge s.Seq s'.Seq=true:=by rw [W.ge_n];omega
  simpa using this
 cases hw:pWrites u with
 | false=>
  obtain ⟨m1,m2,m3,m4⟩:=hR.no hw
  have hall:allL s' (l++[r])=allL s l:=by
   unfold allL
   rw [m2,done_same hR.done,outs_snoc,if_pos m3,List.append_nil]
  refine ⟨n17,n96,by rw [m1];exact mOk,by rw [hR.done];exact dOk,by rw [m2];exact fOk,⟨fun i hi=>?_,?_⟩,by rw [hall];exact once,by rw [hall];exact inr⟩
  ·by_cases c:i < l.length
   ·exact old i c
   ·have:i=l.length:=by omega
    subst this
    refine ⟨new1,new2,?_⟩
    rw [nth_end,hR.uop,wr_same,hw]
    simp only [Bool.false_eq_true,if_false]
    exact ⟨m3,m4⟩
  ·rw [hlen]
   unfold mAt
   rw [nth_end,hR.uop,wr_same,hw,mAt_app hR.done l [r] _ (Nat.le_refl _),m1]
   simp only [Bool.false_eq_true,if_false]
   exact mEnd
 | true=>
  obtain ⟨p,p1,p2,p3,p4,p5,p6⟩:=hR.yes hw
  have hd:=of_decide_eq_true hw
  have hD:u.Dst.n.toNat < 16:=by omega
  have hpin:p∈allL s l:=by
   unfold allL
   rw [p1];simp
  have hp:=of_decide_eq_true (inr p hpin)
  have hpw:p=wi p.n.toNat:=of_small (by omega)
  have hp1:p ≠ W.of .i64 (-1):=fun h=>by rw [h] at hp;exact absurd hp.1 (by decide)
  have hnot:p ∉ doneR s++outsL l:=fun hin=>by
   have h1:=once p.n.toNat (by omega) (by omega)
   have h2:=cnt_in hin hpw
   unfold allL cnt_b at h1
   unfold cnt_b at h2
   rw [p1,List.append_assoc,List.countP_append,List.countP_cons,if_pos (by rw [←hpw,W.eq_self])] at h1
   omega
  have hval:∀ x,1≤x→x < 16→s.Map.get x ≠ p:=fun x h1 h2 he=>by
   have:=map_vals st l.length (Nat.le_refl _) x h1 h2
   rw [mEnd,he] at this
   exact hnot this
  have hall:allL s' (l++[r])=ringL s'.Free++doneR s++(outsL l++[p]):=by
   unfold allL
   rw [done_same hR.done,outs_snoc,p4,if_neg hp1]
  have hcnt:∀ q,cnt_b (allL s' (l++[r])) q=cnt_b (allL s l) q:=fun q=>by
   rw [hall]
   unfold allL cnt_b
   rw [p1]
   simp only [List.countP_append,List.countP_cons,List.countP_nil]
   omega
  refine ⟨n17,n96,⟨?_,fun x h1 h2=>?_⟩,by rw [hR.done];exact dOk,⟨p2,by rw [p3];exact fOk.2.1,fun i hi=>?_⟩,⟨fun i hi=>?_,?_⟩,fun q h1 h2=>by rw [hcnt];exact once q h1 h2,fun x hx=>?_⟩
  ·rw [p6,Arr.get_set hD,if_neg (by omega)];exact mOk.1
  ·have hm:=mOk.2 x h1 h2
   unfold ratP
   rw [p6,Arr.get_set hD]
   by_cases c:u.Dst.n.toNat=x
   ·rw [if_pos c]
    refine ⟨⟨hp.1,by rw [wi_n (sm (by omega))];exact hp.2⟩,fun q h3 h4=>?_⟩
    rw [Arr.get_set hD,if_neg (by omega)]
    exact hval q h3 (by omega)
   ·rw [if_neg c]
    refine ⟨hm.1,fun q h3 h4=>?_⟩
    rw [Arr.get_set hD]
    by_cases c2:u.Dst.n.toNat=q
    ·rw [if_pos c2];exact fun h=>hval x h1 h2 h.symm
    ·rw [if_neg c2];exact hm.2 q h3 h4
  ·have:=fOk.2.2 (i+1) (by rw [p1];simpa using hi)
   unfold freeP at this ⊢
   rw [p1,nth_cons] at this
   refine ⟨this.1,fun k hk=>?_⟩
   have h3:=this.2 (k+1) (by omega)
   rwa [nth_cons] at h3
  ·by_cases c:i < l.length
   ·exact old i c
   ·have:i=l.length:=by omega
    subst this
    refine ⟨new1,new2,?_⟩
    rw [nth_end,hR.uop,wr_same,hw]
    simp only [if_true]
    refine ⟨by rw [p4];exact hp1,?_⟩
    rw [mAt_app hR.done l [r] _ (Nat.le_refl _),mEnd,p5]
  ·rw [hlen]
   unfold mAt
   rw [nth_end,hR.uop,wr_same,hw,mAt_app hR.done l [r] _ (Nat.le_refl _),mEnd,p6,p4]
   simp only [if_true]
  ·rw [hall] at hx
   refine inr x ?_
   unfold allL
   rw [p1]
   simp only [List.mem_append,List.mem_cons,List.not_mem_nil,or_false] at hx ⊢
   rcases hx with (hx | hx) | hx | hx
   ·exact .inl (.inl (.inr hx))
   ·exact .inl (.inr hx)
   ·exact .inr hx
   ·exact .inl (.inl (.inl hx))
end Go.Proofs.YtkddkpmijhionaaGreatDoor
