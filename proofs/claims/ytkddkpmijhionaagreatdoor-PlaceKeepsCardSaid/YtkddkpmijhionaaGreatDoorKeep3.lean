/- YtkddkpmijhionaaGreatDoorKeep3: what holds of a core, part by part. No statement of the seat is proved here. -/
import Derived.Test.YtkddkpmijhionaaGreatDoorKeep2
set_option linter.unusedSimpArgs false
set_option linter.unusedVariables false
set_option maxRecDepth 100000
namespace Go.Proofs.YtkddkpmijhionaaGreatDoor
open Go Go.A2
structure Inv (nn:Nat) (c:TCore) (pt:W .i64):Prop where
 s1:1≤c.Names.Seq.n
 robs:∀ i,i < c.Rob.l.length→robP c.Rob.l i
 pt:nextP c.Rob.l c.Rob.l.length=pt
 names:namesP c.Names nn (c.Rob.l.map TRob.Ren)
 iq:∀ i,i < (c.Iq.l.map TIq.Ren).length→flyP c (c.Iq.l.map TIq.Ren) i
 un:∀ i,i < (c.Units.l.map TFlight.Ren).length→flyP c (c.Units.l.map TFlight.Ren) i
 ap:bothB (c.Iq.l.map TIq.Ren) (c.Units.l.map TFlight.Ren)=false
 mem:memP c
 view:F_prf_View c.Phys c.Names.Done=some c.A.R
 val:∀ e∈c.Rob.l,badV c e=false
theorem lastS_app (l x:List TRob):∀ i,i≤l.length→lastS (l++x) i=lastS l i
 | 0,_=>rfl
 | i+1,h=>by
  show (nth (l++x) i).Ren.Seq=(nth l i).Ren.Seq
  rw [nth_app1 (show i < l.length by omega)]
theorem nextP_app (l x:List TRob):∀ i,i≤l.length→nextP (l++x) i=nextP l i
 | 0,_=>rfl
 | i+1,h=>by
  show (if (nth (l++x) i).Ren.Uop.Last=true then W.of .i64 0 else W.add (nth (l++x) i).Ren.Uop.Part (W.of .i64 1))=if (nth l i).Ren.Uop.Last=true then W.of .i64 0 else W.add (nth l i).Ren.Uop.Part (W.of .i64 1)
  rw [nth_app1 (show i < l.length by omega)]
theorem seq_lt {nn:Nat} {c:TCore} {pt:W .i64} (h:Inv nn c pt) {e:TRob} (he:e∈c.Rob.l):e.Ren.Seq.n < c.Names.Seq.n:=by
 obtain ⟨i,hi,rfl⟩:=mem_nth he
 have:=(h.names.2.2.2.2.2.1.1 i (by rw [List.length_map];exact hi)).2.1
 rw [nth_map hi] at this
 have:¬ W.ge (nth c.Rob.l i).Ren.Seq c.Names.Seq=true:=by rw [this];simp
 rw [W.ge_n] at this;omega
theorem ren_eq {a b:TRen}:Tab.eq tab (.named .TRen) a b=true ↔ a=b:=eq_iff (X:=tab) tabOk (by rfl)
theorem waits_lt {nn:Nat} {c:TCore} {pt:W .i64} (h:Inv nn c pt) {r:TRen} (hw:waitsB c r=true):r.Seq.n < c.Names.Seq.n:=by
 unfold waitsB at hw
 obtain ⟨e,he,h2⟩:=List.any_eq_true.1 hw
 rw [Bool.and_eq_true] at h2
 rw [←ren_eq.1 h2.1]
 exact seq_lt h he
theorem waits_more {c d:TCore} {x:List TRob} (hd:d.Rob.l=c.Rob.l++x) {r:TRen} (h:waitsB c r=true):waitsB d r=true:=by
 unfold waitsB at h ⊢
 rw [hd,List.any_append,h,Bool.true_or]
theorem seqB_app (l x:List TRen) {i:Nat} (h:i < l.length):seqB (l++x) i=seqB l i:=by
 unfold seqB
 rw [nth_app1 h,List.take_append_of_le_length (by omega)]
theorem fly_more {c d:TCore} {x:List TRob} (hd:d.Rob.l=c.Rob.l++x) {l:List TRen} {i:Nat} (h:flyP c l i):flyP d l i:=⟨h.1,waits_more hd h.2⟩
theorem put_inv {nn:Nat} {c d:TCore} {pt:W .i64} (h:Inv nn c pt) {u:TUop} {s':TNames} {r:TRen} (hR:Renamed c.Names u s' r) (hP:PutD c u s' r d) (hu:u.Part=pt) (hs2:c.Names.Seq.n < 2305843009213693952):Inv nn d (if u.Last=true then W.of .i64 0 else W.add u.Part (W.of .i64 1)):=by
 have hrl:d.Rob.l.length=c.Rob.l.length+1:=by rw [hP.rob,List.length_append];rfl
 have hmap:d.Rob.l.map TRob.Ren=c.Rob.l.map TRob.Ren++[r]:=by rw [hP.rob,List.map_append];rfl
 have hseq:s'.Seq.n=c.Names.Seq.n+1:=by
  have:=h.s1
  rw [hR.seq,W.add_n,show (W.of .u64 1).n=1 from rfl,wrap_u64];omega
 have hend:nth d.Rob.l c.Rob.l.length=entR r:=by rw [hP.rob,nth_end]
 have hwr:waitsB d r=true:=by
  unfold waitsB
  rw [hP.rob,List.any_append]
  have:([entR r].any fun e=>Tab.eq tab (.named .TRen) e.Ren r&&!e.Done)=true:=by
   rw [List.any_cons]
   have:Tab.eq tab (.named .TRen) r r=true:=ren_eq.2 rfl
   show (Tab.eq tab (.named .TRen) r r&&!false || _)=true
   rw [this];rfl
  rw [this,Bool.or_true]
 have hne:∀ x:TRen,x.Seq.n < c.Names.Seq.n→W.eq x.Seq r.Seq=false:=fun x hx=>by
  have:¬ W.eq x.Seq r.Seq=true:=by rw [W.eq_n,hR.rseq];omega
  simpa using this
 have hne':∀ x:TRen,x.Seq.n < c.Names.Seq.n→W.eq r.Seq x.Seq=false:=fun x hx=>by rw [W.eq_comm];exact hne x hx
 have hnew:=out_new hR h.names
 have hlast:(lastS c.Rob.l c.Rob.l.length).n < c.Names.Seq.n:=by
  cases hl:c.Rob.l.length with
  | zero=>have:=h.s1;show (W.of .u64 0).n < _;rw [show (W.of .u64 0).n=0 from rfl];omega
  | succ k=>exact seq_lt h (nth_mem (show k < c.Rob.l.length by omega))
 refine ⟨?_,fun i hi=>?_,?_,?_,?_,?_,?_,?_,?_,?_⟩
 ·rw [hP.names,hseq];have:=h.s1;omega
 ·by_cases ci:i < c.Rob.l.length
  ·have h1:=h.robs i ci
   unfold robP
   rw [hP.rob,nth_app1 ci,lastS_app _ _ i (by omega),nextP_app _ _ i (by omega)]
   exact h1
  ·have:i=c.Rob.l.length:=by omega
   subst this
   unfold robP
   rw [hend,hP.rob,lastS_app _ _ _ (Nat.le_refl _),nextP_app _ _ _ (Nat.le_refl _),h.pt]
   refine ⟨?_,?_⟩
   ·show W.le r.Seq _=false
    have:¬ W.le r.Seq (lastS c.Rob.l c.Rob.l.length)=true:=by rw [W.le_n,hR.rseq];omega
    simpa using this
   ·show W.ne r.Uop.Part pt=false
    rw [hR.uop,hu,W.ne_self]
 ·rw [hrl]
  show (if (nth d.Rob.l c.Rob.l.length).Ren.Uop.Last=true then W.of .i64 0 else W.add (nth d.Rob.l c.Rob.l.length).Ren.Uop.Part (W.of .i64 1))=_
  rw [hend]
  show (if r.Uop.Last=true then W.of .i64 0 else W.add r.Uop.Part (W.of .i64 1))=_
  rw [hR.uop]
 ·rw [hP.names,hmap]
  exact names_keep hR h.names h.s1 hs2
 ·obtain ⟨rd,hiq⟩:=hP.iq
  have hold:∀ i,i < (c.Iq.l.map TIq.Ren).length→flyP d (c.Iq.l.map TIq.Ren) i:=fun i hi=>fly_more hP.rob (h.iq i hi)
  cases hU:W.ne u.Unit (W.of .i64 7) with
  | false=>
   rw [hU] at hiq
   simp only [Bool.false_eq_true,if_false] at hiq
   rw [hiq];exact hold
  | true=>
   rw [hU,if_pos rfl] at hiq
   rw [hiq,List.map_append]
   intro i hi
   rw [List.length_append] at hi
   by_cases ci:i < (c.Iq.l.map TIq.Ren).length
   ·obtain ⟨k1,k2⟩:=hold i ci
    exact ⟨by rw [seqB_app _ _ ci];exact k1,by rw [nth_app1 ci];exact k2⟩
   ·have:i=(c.Iq.l.map TIq.Ren).length:=by
     have:([TIq.mk r rd].map TIq.Ren).length=1:=rfl
     omega
    subst this
    refine ⟨?_,?_⟩
    ·unfold seqB
     rw [show [TIq.mk r rd].map TIq.Ren=[r] from rfl,nth_end,List.take_append_of_le_length (Nat.le_refl _),List.take_length,List.any_eq_false]
     intro x hx
     obtain ⟨j,hj,rfl⟩:=mem_nth hx
     rw [hne _ (waits_lt h (h.iq j hj).2)]
     simp
    ·rw [show [TIq.mk r rd].map TIq.Ren=[r] from rfl,nth_end];exact hwr
 ·rw [hP.units]
  exact fun i hi=>fly_more hP.rob (h.un i hi)
 ·rw [hP.units]
  obtain ⟨rd,hiq⟩:=hP.iq
  cases hU:W.ne u.Unit (W.of .i64 7) with
  | false=>
   rw [hU] at hiq
   simp only [Bool.false_eq_true,if_false] at hiq
   rw [hiq];exact h.ap
  | true=>
   rw [hU,if_pos rfl] at hiq
   rw [hiq,List.map_append]
   have h0:=h.ap
   unfold bothB at h0 ⊢
   rw [List.any_append,h0,Bool.false_or,show [TIq.mk r rd].map TIq.Ren=[r] from rfl,List.any_cons,List.any_nil,Bool.or_false,List.any_eq_false]
   intro x hx
   obtain ⟨j,hj,rfl⟩:=mem_nth hx
   rw [hne' _ (waits_lt h (h.un j hj).2)]
   simp
 ·obtain ⟨m1,m2⟩:=h.mem
  refine ⟨?_,?_⟩
  ·rw [hP.lq,m1,hP.rob,seqsL_next]
   show _=seqsL d _ _++if W.eq r.Uop.Unit (W.of .i64 5)=true then [r.Seq] else []
   rw [hR.uop];rfl
  ·rw [hP.sq,m2,hP.rob,seqsL_next]
   show _=seqsL d _ _++if W.eq r.Uop.Unit (W.of .i64 6)=true then [r.Seq] else []
   rw [hR.uop];rfl
 ·rw [hP.names,hR.done,hP.a,←h.view]
  refine view_congr fun x h1 h2=>(get_drop hP.phys (hnew _ (List.mem_append_left _ (List.mem_map.2 ⟨x - 1,List.mem_range.2 (by omega),?_⟩)))).1
  show c.Names.Done.get (x - 1+1)=_
  rw [show x - 1+1=x by omega]
 ·intro e he
  rw [hP.rob] at he
  rcases List.mem_append.1 he with he | he
  ·have h0:=h.val e he
   by_cases ho:e.Ren.Out=W.of .i64 (-1)
   ·unfold badV
    rw [show W.ne e.Ren.Out (W.of .i64 (-1))=false by rw [ho,W.ne_self]];simp
   ·have hin:e.Ren.Out∈outsL (c.Rob.l.map TRob.Ren):=by
     refine List.mem_map.2 ⟨e.Ren,List.mem_filter.2 ⟨List.mem_map.2 ⟨e,he,rfl⟩,?_⟩,rfl⟩
     rw [W.eq_dec];simp [ho]
    have hg:=(get_drop hP.phys (hnew _ (List.mem_append_right _ hin))).1
    unfold badV at h0 ⊢
    rw [hg];exact h0
  ·rw [List.mem_singleton] at he
   subst he
   rfl
end Go.Proofs.YtkddkpmijhionaaGreatDoor
