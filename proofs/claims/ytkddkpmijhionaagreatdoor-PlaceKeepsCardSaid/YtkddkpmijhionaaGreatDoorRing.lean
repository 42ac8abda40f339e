/- YtkddkpmijhionaaGreatDoorRing: rings of free registers. No statement of the seat is proved here. -/
import Derived.Test.YtkddkpmijhionaaGreatDoorTrees2
import Derived.Test.YtkddkpmijhionaaGreatDoorA2F
set_option linter.unusedSimpArgs false
set_option linter.unusedVariables false
set_option maxRecDepth 100000
namespace Go.Proofs.YtkddkpmijhionaaGreatDoor
open Go Go.A2
def ringB (f:TFree):Bool:=decide (f.Ring.l.length≤96∧0≤f.Head.n∧(f.Head.n < f.Ring.l.length∨f.Head.n=0)∧0≤f.N.n∧f.N.n≤f.Ring.l.length)
theorem n_0:(W.of .i64 0).n=0:=id rfl
theorem n_96:(W.of .i64 96).n=96:=id rfl
theorem core_ring (f:TFree):F_freel_ring_sound f=some (ringB f):=by
 unfold F_freel_ring_sound T_freel_ring_sound ringB
 simp only [ev_ite,ev_ret,W.le_n,W.ge_n,W.lt_n,W.eq_n,len_n',n_0,n_96]
 repeat' split
 all_goals first | (congr 1;apply Eq.symm;rw [decide_eq_false_iff_not];omega) | (congr 1;refine iff_bool ?_;rw [decide_eq_true_eq,W.le_n,len_n'];omega)
theorem ref_ring (f:TFree):F_ref25_Is f=some (ringB f):=by
 unfold F_ref25_Is T_ref25_Is ringB
 simp only [ev_ite,ev_ret,W.le_n,W.ge_n,W.lt_n,W.gt_n,W.eq_n,len_n',n_0,n_96]
 repeat' split
 all_goals first | (congr 1;apply Eq.symm;rw [decide_eq_false_iff_not];omega) | (congr 1;apply Eq.symm;rw [decide_eq_true_eq];omega) | (congr 1;refine iff_bool ?_;rw [decide_eq_true_eq,W.eq_n,n_0];omega)
def ringL (f:TFree):List (W .i64):=(List.range f.N.n.toNat).map fun k=>nth f.Ring.l ((f.Head.n.toNat+k) % f.Ring.l.length)
theorem ringL_nth {f:TFree} {i:Nat} (h:i < (ringL f).length):nth (ringL f) i=nth f.Ring.l ((f.Head.n.toNat+i) % f.Ring.l.length):=by
 have hi:i < (List.range f.N.n.toNat).length:=by unfold ringL at h;rwa [List.length_map] at h
 have:nth (ringL f) i=nth f.Ring.l ((f.Head.n.toNat+nth (List.range f.N.n.toNat) i) % f.Ring.l.length):=nth_map hi
 rw [this,show nth (List.range f.N.n.toNat) i=i by rw [nth_elem hi,List.getElem_range]]
structure RingOk (f:TFree):Prop where
 len:f.Ring.l.length≤96
 h0:0≤f.Head.n
 h1:f.Head.n < f.Ring.l.length∨f.Head.n=0
 n0:0≤f.N.n
 n1:f.N.n≤f.Ring.l.length
theorem ringOk {f:TFree} (h:ringB f=true):RingOk f:=by
 have:=of_decide_eq_true h
 exact ⟨this.1,this.2.1,this.2.2.1,this.2.2.2.1,this.2.2.2.2⟩
theorem ringL_len {f:TFree} (h:RingOk f):(ringL f).length≤96∧(ringL f).length=f.N.n.toNat:=by
 have:=h.len;have:=h.n1
 unfold ringL;rw [List.length_map,List.length_range];omega
theorem core_place' {f:TFree} (h:RingOk f) {k:Nat} (hk:k≤500) (hlen:0 < f.Ring.l.length):F_freel_ring_at f (wi k)=some (wi ((f.Head.n.toNat+k) % f.Ring.l.length)):=by
 obtain ⟨h1,h2,h3,h4,h5⟩:=h
 unfold F_freel_ring_at T_freel_ring_at
 have hm:=Nat.mod_lt (f.Head.n.toNat+k) hlen
 rw [ev_opt,of_small h2,Sl.len_wi]
 rw [show (wi f.Head.n.toNat).n.toNat=f.Head.n.toNat by rw [wi_n (sm (by omega))];rfl]
 rw [add_wi (by omega) (by omega),rem_small hlen (by omega) (by omega),bind_some',ev_opt,add_wi (by omega) (by omega),rem_small hlen (by omega) (by omega),bind_some',ev_ret]
 rw [Nat.add_mod_right,Nat.mod_mod]
theorem core_place {f:TFree} (h:RingOk f) {k:Nat} (hk:k < f.N.n.toNat):F_freel_ring_at f (wi k)=some (wi ((f.Head.n.toNat+k) % f.Ring.l.length)):=core_place' h (by have:=h.n1;have:=h.len;omega) (by have:=h.n1;omega)
theorem core_list {f:TFree} (h:RingOk f):∃ r,F_freel_List f=some r∧r.l=ringL f:=by
 obtain ⟨hl1,hl2⟩:=ringL_len h
 have key:∃ o,L_freel_List_15 (f,((f,()),()),Sl.nil,f.N,wi 0,())=some o∧o.1.l=ringL f:=by
  unfold L_freel_List_15
  refine iter_acc (fun i s=>∃ a:Sl 8 (W .i64),s=(f,((f,()),()),a,f.N,wi i,())∧a.l=(ringL f).take i) (ringL f).length _ ?_ ?_ ⟨Sl.nil,rfl,rfl⟩ (by show _ < 281474976710656;omega)
  ·rintro i s hi ⟨a,rfl,ha⟩
   have hlen:a.l.length=i:=by rw [ha,List.length_take];omega
   have hm:(f.Head.n.toNat+i) % f.Ring.l.length < f.Ring.l.length:=Nat.mod_lt _ (by have:=h.n1;omega)
   obtain ⟨r,hr1,hr2⟩:=app_lit (s:=a) (x:=nth f.Ring.l ((f.Head.n.toNat+i) % f.Ring.l.length)) (hb:=rfl) (by unfold room;omega) (by unfold room;omega)
   have hlt:W.lt (wi i) f.N=true:=by rw [lt_wi_of (by omega)];have:=h.n0;simp;omega
   simp only [B_freel_List_15,ev_ite,ev_opt,ev_ret,hlt,if_true,core_place h (show i < f.N.n.toNat by omega),bind_some',Sl.get_wi f.Ring hm,hr1,add_small (show i < 1000 by omega)]
   exact ⟨_,rfl,r,rfl,by rw [hr2,ha,take_nth hi,ringL_nth hi]⟩
  ·rintro s ⟨a,rfl,ha⟩
   have hlt:W.lt (wi (ringL f).length) f.N=false:=by rw [lt_wi_of (by omega)];have:=h.n0;simp;omega
   simp only [B_freel_List_15,ev_ite,ev_ret,hlt]
   exact ⟨_,rfl,by rw [←List.take_length (l:=ringL f)];exact ha⟩
 obtain ⟨o,h1,h2⟩:=key
 unfold F_freel_List T_freel_List
 have hs:ringB f=true:=decide_eq_true ⟨h.len,h.h0,h.h1,h.n0,h.n1⟩
 simp only [ev_opt,core_ring,hs,bind_some',ev_ite,Bool.not_true,Bool.false_eq_true,if_false,show L_freel_List_15 (f,((f,()),()),Sl.nil,f.N,W.of .i64 0,())=_ from h1,ev_ret]
 exact ⟨_,rfl,h2⟩
theorem ref_list {f:TFree} (h:RingOk f):∃ r,F_ref25_List f=some r∧r.l=ringL f:=by
 obtain ⟨hl1,hl2⟩:=ringL_len h
 have key:∃ o,L_ref25_List_13 (f,Sl.lit 8 [] rfl,wi 0,())=some o∧o.1.l=ringL f:=by
  unfold L_ref25_List_13
  refine iter_acc (fun i s=>∃ a:Sl 8 (W .i64),s=(f,a,wi i,())∧a.l=(ringL f).take i) (ringL f).length _ ?_ ?_ ⟨Sl.lit 8 [] rfl,rfl,rfl⟩ (by show _ < 281474976710656;omega)
  ·rintro i s hi ⟨a,rfl,ha⟩
   have hlen:a.l.length=i:=by rw [ha,List.length_take];omega
   have hpos:0 < f.Ring.l.length:=by have:=h.n1;omega
   have hm:(f.Head.n.toNat+i) % f.Ring.l.length < f.Ring.l.length:=Nat.mod_lt _ hpos
   obtain ⟨r,hr1,hr2⟩:=app_lit (s:=a) (x:=nth f.Ring.l ((f.Head.n.toNat+i) % f.Ring.l.length)) (hb:=rfl) (by unfold room;omega) (by unfold room;omega)
   have hlt:W.lt (wi i) f.N=true:=by rw [lt_wi_of (by omega)];have:=h.n0;simp;omega
   have hrem:W.rem? (W.add f.Head (wi i)) (Sl.len f.Ring)=some (wi ((f.Head.n.toNat+i) % f.Ring.l.length)):=by
    have:=h.h1;have:=h.len
    rw [Sl.len_wi,of_small h.h0,add_wi (by omega) (by omega),rem_small hpos (by omega) (by omega),←of_small h.h0]
   simp only [B_ref25_List_13,ev_ite,ev_opt,ev_ret,hlt,if_true,hrem,bind_some',Sl.get_wi f.Ring hm,hr1,add_small (show i < 1000 by omega)]
   exact ⟨_,rfl,r,rfl,by rw [hr2,ha,take_nth hi,ringL_nth hi]⟩
  ·rintro s ⟨a,rfl,ha⟩
   have hlt:W.lt (wi (ringL f).length) f.N=false:=by rw [lt_wi_of (by omega)];have:=h.n0;simp;omega
   simp only [B_ref25_List_13,ev_ite,ev_ret,hlt]
   exact ⟨_,rfl,by rw [←List.take_length (l:=ringL f)];exact ha⟩
 obtain ⟨o,h1,h2⟩:=key
 unfold F_ref25_List T_ref25_List
 have hs:ringB f=true:=decide_eq_true ⟨h.len,h.h0,h.h1,h.n0,h.n1⟩
 simp only [ev_opt,ref_ring,hs,bind_some',ev_ite,Bool.not_true,Bool.false_eq_true,if_false,show L_ref25_List_13 (f,Sl.lit 8 [] rfl,W.of .i64 0,())=_ from h1,ev_ret]
 exact ⟨_,rfl,h2⟩
end Go.Proofs.YtkddkpmijhionaaGreatDoor
