/- YtkddkpmijhionaaGreatDoorOrder2: what the stage takes out of the queue, and where it ends. No statement of the seat is proved here. -/
import Derived.Test.YtkddkpmijhionaaGreatDoorOrder
set_option linter.unusedSimpArgs false
set_option linter.unusedVariables false
set_option maxRecDepth 100000
namespace Go.Proofs.YtkddkpmijhionaaGreatDoor
open Go Go.A2
theorem list_len (f:TFree):∃ r,F_freel_List f=some r∧r.l.length=freeN f:=by
 unfold freeN
 cases hB:ringB f with
 | true=>
  have h:=ringOk hB
  obtain ⟨r,r1,r2⟩:=core_list h
  exact ⟨r,r1,by rw [r2,(ringL_len h).2,if_pos rfl]⟩
 | false=>
  refine ⟨Sl.nil,?_,rfl⟩
  unfold F_freel_List T_freel_List
  simp only [ev_opt,ev_ite,ev_ret,core_ring,hB,bind_some',Bool.not_false,if_true]
theorem fits_facts {c:TCore} {l:Sl 168 TUop} (hl:l.l.length≤400) (hr:c.Rob.l.length≤900) (h:F_place_Fits c l=some true):(c.Rob.l.length:Int)+l.l.length≤c.Conf.Rob.n∧cnt pWrites l.l≤freeN c.Names.Free:=by
 obtain ⟨r,r1,r2⟩:=list_len c.Names.Free
 have hc:=cnt_le pWrites l.l
 unfold F_place_Fits T_place_Fits F_place_of T_place_of at h
 simp only [ev_opt,ev_ite,ev_ret,bind_some',many0 l hl,many1 l hl,many2 l hl,r1] at h
 split at h
 ·rename_i h1
  have g1:(c.Rob.l.length:Int)+l.l.length≤c.Conf.Rob.n:=by
   rw [W.le_n,W.add_n,len_n',len_n',wrap_i64] at h1;omega
  refine ⟨g1,?_⟩
  split at h
  ·split at h
   ·split at h
    ·have h5:=Option.some.inj h
     rw [W.le_n,len_n',wi_n (sm (by omega)),r2] at h5;omega
    ·cases h
   ·cases h
  ·cases h
 ·cases h
noncomputable def parts (s:TSlot):List TUop:=match F_crack_Uops s with
 | some l=>l.l
 | none=>[]
theorem parts_some (s:TSlot):∃ l,F_crack_Uops s=some l∧l.l=parts s∧l.l.length≤2:=by
 obtain ⟨l,l1,_,l3⟩:=uops_eq s
 exact ⟨l,l1,by unfold parts;rw [l1],l3⟩
theorem inner_ord {c d:TCore} {P:List TUop} {ns:Sl 32 TNote} (h:Ord c d P ns) (hP:P.length≤50) (b1:c.Rob.l.length≤200) (b2:c.Iq.l.length≤200) (b3:c.Lq.l.length≤200) (b4:c.Sq.l.length≤200) (l:Sl 168 TUop) (hl:l.l.length≤2) (hroom:(d.Rob.l.length:Int)+l.l.length≤d.Conf.Rob.n) (hw:cnt pWrites l.l≤freeN d.Names.Free) (t4:TCore) (N i:W .i64):
  ∃ d' z,L_place_Stage_34 (d,t4,ns,N,i,l,Sl.len l,wi 0,())=some (d',t4,z,N,i,())∧Ord c d' (P++l.l) z∧d'.Queue=d.Queue:=by
 have key:∃ o,L_place_Stage_34 (d,t4,ns,N,i,l,Sl.len l,wi 0,())=some o∧∃ d' z,o=(d',t4,z,N,i,())∧Ord c d' (P++l.l) z∧d'.Queue=d.Queue:=by
  unfold L_place_Stage_34
  refine iter_acc (fun j s=>∃ e y,s=(e,t4,y,N,i,l,Sl.len l,wi j,())∧Ord c e (P++l.l.take j) y∧e.Queue=d.Queue∧e.Conf=d.Conf∧cnt pWrites (l.l.drop j)≤freeN e.Names.Free∧e.Rob.l.length=d.Rob.l.length+j) l.l.length _ ?_ ?_ ⟨d,ns,rfl,by rw [List.take_zero,List.append_nil];exact h,rfl,rfl,by rw [List.drop_zero];exact hw,rfl⟩ (by show _ < 281474976710656;omega)
  ·rintro j s hj ⟨e,y,rfl,ho,hq,hcf,hf,hr⟩
   have hd:l.l.drop j=nth l.l j :: l.l.drop (j+1):=by
    rw [←List.getElem_cons_drop hj,nth_elem hj]
   have hc:cnt pWrites (l.l.drop j)=cnt pWrites (l.l.drop (j+1))+if pWrites (nth l.l j)=true then 1 else 0:=by
    unfold cnt
    rw [hd,List.countP_cons]
   have hlt:(P++l.l.take j).length≤100:=by rw [List.length_append,List.length_take];omega
   obtain ⟨e',n,z,p1,p2,p3,p4,p5,p6⟩:=put_ord ho hlt b1 b2 b3 b4 (nth l.l j) (by rw [hcf];omega) (fun hp=>by rw [hp] at hc;rw [if_pos rfl] at hc;omega)
   simp only [B_place_Stage_34,ev_ite,ev_opt,ev_ret,lt_len l hj,if_true,Sl.get_wi l hj,bind_some',p1,p2,wi_next l hj]
   refine ⟨_,rfl,e',z,rfl,?_,p4.trans hq,p3.conf.trans (ho.conf.symm.trans hcf),by rw [p5];split at hc<;>(rename_i hx;simp only [hx,if_true,Bool.false_eq_true,if_false];omega),by omega⟩
   rw [take_nth hj,←List.append_assoc];exact p3
  ·rintro s ⟨e,y,rfl,ho,hq,hcf,hf,hr⟩
   simp only [B_place_Stage_34,ev_ite,ev_ret,lt_end l,Bool.false_eq_true,if_false]
   rw [List.take_length] at ho
   exact ⟨_,rfl,e,y,rfl,ho,hq⟩
 obtain ⟨o,k1,d',z,rfl,ho,hq⟩:=key
 exact ⟨d',z,k1,ho,hq⟩
structure Out (c d:TCore) (ns:Sl 32 TNote) (i:Nat):Prop where
 ord:Ord c d ((c.Queue.l.take i).flatMap parts) ns
 queue:d.Queue.l=c.Queue.l.drop i
 le:i≤c.Queue.l.length
 small:((c.Queue.l.take i).flatMap parts).length≤2*i
def Stops (d:TCore):Prop:=d.Queue.l=[]∨(0 < d.Queue.l.length∧∃ l,F_crack_Uops (nth d.Queue.l 0)=some l∧F_place_Fits d l=some false)
theorem ord_refl (c:TCore):Ord c c [] Sl.nil:=by
 refine ⟨⟨[],by rw [List.append_nil],rfl,fun k hk=>by cases hk⟩,?_,rfl,rfl,Nat.le_refl _,Nat.le_refl _,Nat.le_refl _⟩
 refine W.ext ?_
 have:=c.Names.Seq.r_u64
 rw [W.add_n,show (W.conv .u64 (wi ([]:List TUop).length)).n=0 from rfl,wrap_u64];omega
theorem stage_ord (c:TCore) (t:TTick) (hc:LightC c) (hw:1≤c.Conf.Wide.n∧c.Conf.Wide.n≤4):∃ d ns i,F_place_Stage c t=some (d,ns)∧Out c d ns i∧(i:Int)≤c.Conf.Wide.n∧(W.ne (W.and t.Stall (W.of .u32 2)) (W.of .u32 0)=true→i=0)∧(W.ne (W.and t.Stall (W.of .u32 2)) (W.of .u32 0)=false→(i:Int)=c.Conf.Wide.n∨Stops d):=by
 have b1:=hc.rob
 have b2:=hc.iq
 have b3:=hc.lq
 have b4:=hc.sq
 obtain ⟨w,hW,w1,w2⟩:=wi_of (a:=c.Conf.Wide) (lo:=1) (hi:=4) hw.1 hw.2
 have hwn:c.Conf.Wide.n=w:=by rw [hW,wi_n (sm (by omega))]
 have hN:W.min (W.max c.Conf.Wide (W.of .i64 0)) (W.of .i64 4)=wi w:=by
  refine W.ext ?_
  rw [W.min_n,W.max_n,show (W.of .i64 0).n=0 from rfl,show (W.of .i64 4).n=4 from rfl,wi_n (sm (by omega)),hwn]
  split<;>split<;>omega
 have main:∀ t4:TCore,∃ o o':TCore×TCore×Sl 32 TNote×Unit,L_place_Stage_13 (c,t4,Sl.nil,wi w,wi 0,())=some o∧L_place_Stage_13 (c,t4,Sl.nil,wi w,wi 0,())=some o'∧∃ d ns i,o=(d,t4,ns,())∧Out c d ns i∧i≤w∧(i=w∨Stops d):=fun t4=>by
  unfold L_place_Stage_13
  refine iter_both (fun i s s'=>s'=s∧∃ d ns,s=(d,t4,ns,wi w,wi i,())∧Out c d ns i) w (fun o _=>∃ d ns i,o=(d,t4,ns,())∧Out c d ns i∧i≤w∧(i=w∨Stops d)) ?_ ?_ ⟨rfl,c,Sl.nil,rfl,⟨by rw [List.take_zero];exact ord_refl c,by rw [List.drop_zero],Nat.zero_le _,by rw [List.take_zero];exact Nat.zero_le _⟩⟩ (by show _ < 281474976710656;omega)
  ·rintro i s s' hi ⟨rfl,d,ns,rfl,ho⟩
   have hlt:W.lt (wi i) (wi w)=true:=(lt_small (by omega) (by omega)).trans (by simpa using hi)
   have hz:W.eq (Sl.len d.Queue) (W.of .i64 0)=decide (d.Queue.l.length=0):=iff_bool (by rw [W.eq_n,len_n',show (W.of .i64 0).n=0 from rfl,decide_eq_true_eq];omega)
   simp only [B_place_Stage_13,ev_ite,ev_opt,ev_ret,hlt,if_true,hz,decide_eq_true_eq]
   by_cases h0:d.Queue.l.length=0
   ·rw [if_pos h0]
    exact .inr ⟨_,_,rfl,rfl,d,ns,i,rfl,ho,by omega,.inr (.inl (List.length_eq_zero_iff.1 h0))⟩
   ·rw [if_neg h0]
    have hpos:0 < d.Queue.l.length:=by omega
    have hqi:i < c.Queue.l.length:=by
     have:=congrArg List.length ho.queue
     rw [List.length_drop] at this;omega
    have hn0:nth d.Queue.l 0=nth c.Queue.l i:=by
     rw [nth_elem hpos,nth_elem hqi]
     have:d.Queue.l[0]=(c.Queue.l.drop i)[0]'(by rw [List.length_drop];omega):=by congr 1;exact ho.queue
     rw [this,List.getElem_drop]
     rfl
    have hg:Sl.get? d.Queue (W.of .i64 0)=some (nth d.Queue.l 0):=Sl.get_wi d.Queue (i:=0) hpos
    obtain ⟨q,hq,hq'⟩:∃ q,Sl.sub? d.Queue 1 (List.length d.Queue.l)=some q∧q.l=c.Queue.l.drop (i+1):=by
     unfold Sl.sub?
     rw [dif_pos ⟨by omega,Nat.le_refl _⟩]
     refine ⟨_,rfl,?_⟩
     show (d.Queue.l.take d.Queue.l.length).drop 1=_
     rw [List.take_length,ho.queue,List.drop_drop]
    obtain ⟨l,l1,l2,l3⟩:=parts_some (nth d.Queue.l 0)
    obtain ⟨f,f1,_⟩:=fits_eq d l (by omega)
    simp only [hg,bind_some',l1,f1,hq]
    cases f with
    | false=>
     simp only [Bool.not_false,if_true]
     exact .inr ⟨_,_,rfl,rfl,d,ns,i,rfl,ho,by omega,.inr (.inr ⟨hpos,l,l1,f1⟩)⟩
    | true=>
     obtain ⟨es,es1,es2⟩:=ho.ord.es
     have hsm:=ho.small
     have hrl:d.Rob.l.length=c.Rob.l.length+((c.Queue.l.take i).flatMap parts).length:=by rw [es1,List.length_append,es2.1]
     obtain ⟨g1,g2⟩:=fits_facts (by omega) (by omega) f1
     have ho':Ord c { d with Queue:=q } ((c.Queue.l.take i).flatMap parts) ns:=⟨ho.ord.es,ho.ord.seq,ho.ord.notes,ho.ord.conf,ho.ord.iq,ho.ord.lq,ho.ord.sq⟩
     obtain ⟨d',z,i1,i2,i3⟩:=inner_ord ho' (by omega) b1 b2 b3 b4 l l3 g1 g2 t4 (wi w) (wi i)
     have hfm:(c.Queue.l.take (i+1)).flatMap parts=(c.Queue.l.take i).flatMap parts++l.l:=by
      rw [take_nth hqi,List.flatMap_append,List.flatMap_singleton,l2,hn0]
     rw [show L_place_Stage_34 ({ d with Queue:=q },t4,ns,wi w,wi i,l,Sl.len l,W.of .i64 0,())=_ from i1]
     simp only [Bool.not_true,Bool.false_eq_true,if_false,bind_some',add_small (show i < 1000 by omega)]
     refine .inl ⟨_,_,rfl,rfl,rfl,d',z,rfl,⟨by rw [hfm];exact i2,by rw [i3];exact hq',hqi,by rw [hfm,List.length_append];omega⟩⟩
  ·rintro s s' ⟨rfl,d,ns,rfl,ho⟩
   have hlt:W.lt (wi w) (wi w)=false:=(lt_small (by omega) (by omega)).trans (by simp)
   simp only [B_place_Stage_13,ev_ite,ev_ret,hlt,Bool.false_eq_true,if_false]
   exact ⟨_,_,rfl,rfl,d,ns,w,rfl,ho,Nat.le_refl _,.inl rfl⟩
 unfold F_place_Stage T_place_Stage
 simp only [ev_opt,ev_ite,ev_ret,hN]
 cases hS:W.ne (W.and t.Stall (W.of .u32 2)) (W.of .u32 0) with
 | true=>exact ⟨c,Sl.nil,0,rfl,⟨by rw [List.take_zero];exact ord_refl c,by rw [List.drop_zero],Nat.zero_le _,by rw [List.take_zero];exact Nat.zero_le _⟩,by omega,fun _=>rfl,fun h=>by cases h⟩
 | false=>
  simp only [Bool.false_eq_true,if_false]
  obtain ⟨o,_,k1,_,d,ns,i,rfl,ho,hi,hs⟩:=main (TCore.mk (TConf.mk (W.of .i64 0) (W.of .i64 0) (W.of .i64 0) (W.of .i64 0) (W.of .i64 0) (W.of .i64 0) (W.of .i64 0) (W.of .i64 0) (W.of .i64 0) (W.of .i64 0) (W.of .i64 0) (W.of .i64 0) (W.of .i64 0) (W.of .i64 0) (W.of .i64 0) (W.of .i64 0) (W.of .i64 0) (W.of .i64 0) (W.of .i64 0) (W.of .i64 0) (W.of .i64 0) false) (TArch.mk (W.of .u32 0) (Arr.rep 16 (W.of .u32 0)) (Arr.rep 12 (W.of .u32 0)) false) Sl.nil Sl.nil (W.of .u32 0) false (TPred.mk (W.of .u32 0) Sl.nil Sl.nil (W.of .i64 0) Sl.nil (W.of .i64 0)) Sl.nil (W.of .i64 0) Sl.nil (TNames.mk (Arr.rep 16 (W.of .i64 0)) (Arr.rep 16 (W.of .i64 0)) (TFree.mk Sl.nil (W.of .i64 0) (W.of .i64 0)) (W.of .u64 0)) (TPhys.mk Sl.nil Sl.nil) Sl.nil Sl.nil Sl.nil Sl.nil Sl.nil Sl.nil Sl.nil (W.of .i64 0) (W.of .i64 0))
  rw [show L_place_Stage_13 (c,_,Sl.nil,wi w,W.of .i64 0,())=_ from k1]
  exact ⟨d,ns,i,rfl,ho,by omega,fun h=>(by cases h),fun _=>hs.imp_left fun h=>by omega⟩
end Go.Proofs.YtkddkpmijhionaaGreatDoor
