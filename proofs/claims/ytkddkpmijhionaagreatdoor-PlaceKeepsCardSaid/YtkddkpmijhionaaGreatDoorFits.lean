/- YtkddkpmijhionaaGreatDoorFits: room for parts: the program's answer is the document's. No statement of the seat is proved here. -/
import Derived.Test.YtkddkpmijhionaaGreatDoorRing
set_option linter.unusedSimpArgs false
set_option linter.unusedVariables false
set_option maxRecDepth 100000
namespace Go.Proofs.YtkddkpmijhionaaGreatDoor
open Go Go.A2
def cnt {α:Type} (p:α→Bool) (l:List α):Nat:=l.countP p
theorem cnt_snoc {α:Type} (p:α→Bool) (l:List α) (x:α):cnt p (l++[x])=if p x=true then cnt p l+1 else cnt p l:=by
 unfold cnt
 rw [List.countP_append,List.countP_singleton]
 split<;>rfl
theorem cnt_le {α:Type} (p:α→Bool) (l:List α):cnt p l≤l.length:=List.countP_le_length
theorem iter_cnt {S β:Type} {f:S→Option (Rnd S β)} (l:List TUop) (hl:l.length≤400) (p:TUop→Bool) (st:Nat→Nat→S) (fin:Nat→β)
  (step:∀ i k,i < l.length→k≤i→f (st i k)=some (.next (st (i+1) (if p (nth l i)=true then k+1 else k))))
  (last:∀ k,k≤l.length→f (st l.length k)=some (.out (fin k))):iter f fuel (st 0 0)=some (fin (cnt p l)):=by
 have key:∃ b,iter f fuel (st 0 0)=some b∧b=fin (cnt p l):=by
  refine iter_acc (fun i s=>s=st i (cnt p (l.take i))) l.length _ ?_ ?_ (by rw [List.take_zero];rfl) (by show _ < 281474976710656;omega)
  ·rintro i s hi rfl
   have hc:=cnt_le p (l.take i)
   rw [List.length_take] at hc
   refine ⟨_,step i _ hi (by omega),?_⟩
   rw [take_nth hi,cnt_snoc]
  ·rintro s rfl
   rw [List.take_length]
   exact ⟨_,last _ (cnt_le p l),rfl⟩
 obtain ⟨b,k1,rfl⟩:=key
 exact k1
def pWaits (u:TUop):Bool:=W.ne u.Unit (W.of .i64 7)
def pUnit (n:W .i64) (u:TUop):Bool:=W.eq u.Unit n
def pWrites (u:TUop):Bool:=decide (0 < u.Dst.n∧u.Dst.n < 16)
theorem waits_p (u:TUop):F_place_waits u=some (pWaits u):=rfl
theorem writes_p (u:TUop):F_place_writes u=some (pWrites u):=by
 have g1:W.gt u.Dst (W.of .i64 0)=decide (0 < u.Dst.n):=iff_bool (by rw [W.gt_n,show (W.of .i64 0).n=0 from rfl,decide_eq_true_eq])
 have g2:W.lt u.Dst (W.of .i64 16)=decide (u.Dst.n < 16):=rfl
 unfold F_place_writes T_place_writes pWrites
 simp only [ev_ite,ev_ret,g1,g2,decide_eq_true_eq]
 by_cases c:0 < u.Dst.n
 ·simp [c]
 ·simp [c]
theorem many0 (l:Sl 168 TUop) (hl:l.l.length≤400):F_place_many l=some (wi (cnt pWaits l.l)):=by
 have h:=iter_cnt (f:=fun a:((Unit)×(Unit))×W .i64×Sl 168 (TUop)×W .i64×W .i64×Unit=>(B_place_many_7 a.2.1 a.2.2.1 a.2.2.2.1 a.2.2.2.2.1).eval) l.l hl pWaits (fun i k=>(((),()),wi k,l,Sl.len l,wi i,())) (fun k=>(wi k,())) (fun i k hi hk=>by
  simp only [B_place_many_7,ev_ite,ev_opt,ev_ret,lt_len l hi,if_true,Sl.get_wi l hi,bind_some',waits_p,wi_next l hi,add_small (show k < 1000 by omega)]
  cases pWaits (nth l.l i)<;>rfl) (fun k hk=>by
  simp only [B_place_many_7,ev_ite,ev_ret,lt_end l,Bool.false_eq_true,if_false])
 unfold F_place_many T_place_many L_place_many_7
 simp only [ev_opt,ev_ret]
 rw [show iter _ fuel (((),()),W.of .i64 0,l,Sl.len l,W.of .i64 0,())=_ from h]
 rfl
theorem many1 (l:Sl 168 TUop) (hl:l.l.length≤400) (n:W .i64):F_place_many_v1 l n=some (wi (cnt (pUnit n) l.l)):=by
 have h:=iter_cnt (f:=fun a:((Unit)×(W .i64×Unit))×W .i64×Sl 168 (TUop)×W .i64×W .i64×Unit=>(B_place_many_v1_7 a.1.2.1 a.2.1 a.2.2.1 a.2.2.2.1 a.2.2.2.2.1).eval) l.l hl (pUnit n) (fun i k=>(((),(n,())),wi k,l,Sl.len l,wi i,())) (fun k=>(wi k,())) (fun i k hi hk=>by
  simp only [B_place_many_v1_7,F_place_of_1,T_place_of_1,ev_ite,ev_opt,ev_ret,lt_len l hi,if_true,Sl.get_wi l hi,bind_some',wi_next l hi,add_small (show k < 1000 by omega)]
  unfold pUnit
  cases W.eq (nth l.l i).Unit n<;>rfl) (fun k hk=>by
  simp only [B_place_many_v1_7,ev_ite,ev_ret,lt_end l,Bool.false_eq_true,if_false])
 unfold F_place_many_v1 T_place_many_v1 L_place_many_v1_7
 simp only [ev_opt,ev_ret]
 rw [show iter _ fuel (((),(n,())),W.of .i64 0,l,Sl.len l,W.of .i64 0,())=_ from h]
 rfl
theorem many2 (l:Sl 168 TUop) (hl:l.l.length≤400):F_place_many_v2 l=some (wi (cnt pWrites l.l)):=by
 have h:=iter_cnt (f:=fun a:((Unit)×(Unit))×W .i64×Sl 168 (TUop)×W .i64×W .i64×Unit=>(B_place_many_v2_7 a.2.1 a.2.2.1 a.2.2.2.1 a.2.2.2.2.1).eval) l.l hl pWrites (fun i k=>(((),()),wi k,l,Sl.len l,wi i,())) (fun k=>(wi k,())) (fun i k hi hk=>by
  simp only [B_place_many_v2_7,ev_ite,ev_opt,ev_ret,lt_len l hi,if_true,Sl.get_wi l hi,bind_some',writes_p,wi_next l hi,add_small (show k < 1000 by omega)]
  cases pWrites (nth l.l i)<;>rfl) (fun k hk=>by
  simp only [B_place_many_v2_7,ev_ite,ev_ret,lt_end l,Bool.false_eq_true,if_false])
 unfold F_place_many_v2 T_place_many_v2 L_place_many_v2_7
 simp only [ev_opt,ev_ret]
 rw [show iter _ fuel (((),()),W.of .i64 0,l,Sl.len l,W.of .i64 0,())=_ from h]
 rfl
theorem count_d (l:Sl 168 TUop) (hl:l.l.length≤400) (n:W .i64):F_ref45_count l n=some (wi (cnt (fun u=>W.eq u.Unit n || (W.eq n (W.of .i64 0)&&W.ne u.Unit (W.of .i64 7))) l.l)):=by
 have h:=iter_cnt (f:=fun a:Sl 168 (TUop)×W .i64×W .i64×W .i64×Unit=>(B_ref45_count_7 a.1 a.2.1 a.2.2.1 a.2.2.2.1).eval) l.l hl (fun u=>W.eq u.Unit n || (W.eq n (W.of .i64 0)&&W.ne u.Unit (W.of .i64 7))) (fun i k=>(l,n,wi k,wi i,())) (fun k=>(wi k,())) (fun i k hi hk=>by
  simp only [B_ref45_count_7,ev_ite,ev_opt,ev_ret,lt_len l hi,if_true,Sl.get_wi l hi,bind_some',wi_next l hi,add_small (show k < 1000 by omega)]
  cases W.eq (nth l.l i).Unit n<;>cases W.eq n (W.of .i64 0)<;>cases W.ne (nth l.l i).Unit (W.of .i64 7)<;>rfl) (fun k hk=>by
  simp only [B_ref45_count_7,ev_ite,ev_ret,lt_end l,Bool.false_eq_true,if_false])
 unfold F_ref45_count T_ref45_count L_ref45_count_7
 simp only [ev_opt,ev_ret]
 rw [show iter _ fuel (l,n,W.of .i64 0,W.of .i64 0,())=_ from h]
 rfl
theorem writers_d (l:Sl 168 TUop) (hl:l.l.length≤400):F_ref45_writers l=some (wi (cnt pWrites l.l)):=by
 have g1:∀ x:W .i64,W.ge x (W.of .i64 1)=decide (0 < x.n):=fun x=>iff_bool (by rw [W.ge_n,show (W.of .i64 1).n=1 from rfl,decide_eq_true_eq];omega)
 have g2:∀ x:W .i64,W.le x (W.of .i64 15)=decide (x.n < 16):=fun x=>iff_bool (by rw [W.le_n,show (W.of .i64 15).n=15 from rfl,decide_eq_true_eq];omega)
 have h:=iter_cnt (f:=fun a:Sl 168 (TUop)×W .i64×W .i64×Unit=>(B_ref45_writers_7 a.1 a.2.1 a.2.2.1).eval) l.l hl pWrites (fun i k=>(l,wi k,wi i,())) (fun k=>(wi k,())) (fun i k hi hk=>by
  simp only [B_ref45_writers_7,ev_ite,ev_opt,ev_ret,lt_len l hi,if_true,Sl.get_wi l hi,bind_some',g1,g2,decide_eq_true_eq,wi_next l hi,add_small (show k < 1000 by omega)]
  unfold pWrites
  by_cases c1:0 < (nth l.l i).Dst.n
  ·by_cases c2:(nth l.l i).Dst.n < 16
   ·simp [c1,c2]
   ·simp [c1,c2]
  ·simp [c1]) (fun k hk=>by
  simp only [B_ref45_writers_7,ev_ite,ev_ret,lt_end l,Bool.false_eq_true,if_false])
 unfold F_ref45_writers T_ref45_writers L_ref45_writers_7
 simp only [ev_opt,ev_ret]
 rw [show iter _ fuel (l,W.of .i64 0,W.of .i64 0,())=_ from h]
 rfl
theorem cnt_congr {α:Type} {p q:α→Bool} (h:∀ x,p x=q x) (l:List α):cnt p l=cnt q l:=by rw [show p=q from funext h]
theorem free_len (f:TFree):∃ r s,F_freel_List f=some r∧F_ref25_List f=some s∧Sl.len r=Sl.len s:=by
 cases hB:ringB f with
 | true=>
  have h:=ringOk hB
  obtain ⟨r,r1,r2⟩:=core_list h
  obtain ⟨s,s1,s2⟩:=ref_list h
  exact ⟨r,s,r1,s1,by rw [Sl.len_wi,Sl.len_wi,r2,s2]⟩
 | false=>
  refine ⟨Sl.nil,Sl.lit 8 [] rfl,?_,?_,rfl⟩
  ·unfold F_freel_List T_freel_List
   simp only [ev_opt,ev_ite,ev_ret,core_ring,hB,bind_some',Bool.not_false,if_true]
  ·unfold F_ref25_List T_ref25_List
   simp only [ev_opt,ev_ite,ev_ret,ref_ring,hB,bind_some',Bool.not_false,if_true]
theorem fits_eq (c:TCore) (l:Sl 168 TUop) (hl:l.l.length≤400):∃ b,F_place_Fits c l=some b∧F_ref45_Fits c l=some b:=by
 obtain ⟨r,s,f1,f2,f3⟩:=free_len c.Names.Free
 have e0:cnt (fun u=>W.eq u.Unit (W.of .i64 0) || (W.eq (W.of .i64 0) (W.of .i64 0)&&W.ne u.Unit (W.of .i64 7))) l.l=cnt pWaits l.l:=cnt_congr (fun u=>by
  unfold pWaits
  rw [W.eq_self,Bool.true_and,W.ne_eq,W.eq_dec,W.eq_dec]
  by_cases c1:u.Unit=W.of .i64 0
  ·rw [c1];rfl
  ·simp [c1]) l.l
 have e1:∀ n:W .i64,W.eq n (W.of .i64 0)=false→cnt (fun u=>W.eq u.Unit n || (W.eq n (W.of .i64 0)&&W.ne u.Unit (W.of .i64 7))) l.l=cnt (pUnit n) l.l:=fun n hn=>cnt_congr (fun u=>by
  unfold pUnit
  rw [hn,Bool.false_and,Bool.or_false]) l.l
 unfold F_place_Fits T_place_Fits F_ref45_Fits T_ref45_Fits F_place_of T_place_of
 simp only [ev_opt,ev_ite,ev_ret,bind_some',many0 l hl,many1 l hl,many2 l hl,count_d l hl,writers_d l hl,e0,e1 (W.of .i64 5) rfl,e1 (W.of .i64 6) rfl,f1,f2,f3,W.le_gt]
 cases W.gt (W.add (Sl.len c.Rob) (Sl.len l)) c.Conf.Rob with
 | true=>exact ⟨_,rfl,rfl⟩
 | false=>
  cases W.gt (W.add (Sl.len c.Iq) (wi (cnt pWaits l.l))) c.Conf.Iq with
  | true=>exact ⟨_,rfl,rfl⟩
  | false=>
   cases W.gt (W.add (Sl.len c.Lq) (wi (cnt (pUnit (W.of .i64 5)) l.l))) c.Conf.Lq with
   | true=>exact ⟨_,rfl,rfl⟩
   | false=>
    cases W.gt (W.add (Sl.len c.Sq) (wi (cnt (pUnit (W.of .i64 6)) l.l))) c.Conf.Sq with
    | true=>exact ⟨_,rfl,rfl⟩
    | false=>exact ⟨_,rfl,rfl⟩
structure LightC (c:TCore):Prop where
 queue:c.Queue.l.length≤200
 rob:c.Rob.l.length≤200
 iq:c.Iq.l.length≤200
 lq:c.Lq.l.length≤200
 sq:c.Sq.l.length≤200
 sb:c.Sb.l.length≤200
 units:c.Units.l.length≤200
 val:c.Phys.Val.l.length≤200
 ring:c.Names.Free.Ring.l.length≤200
theorem light45 (c:TCore):∃ b,F_law45_Light c=some b∧(b=true→LightC c):=by
 have le:∀ {b:Nat} {α:Type} (s:Sl b α),W.le (Sl.len s) (W.of .i64 200)=decide (s.l.length≤200):=fun s=>len_le (n:=200) (sm (by omega))
 unfold F_law45_Light T_law45_Light
 simp only [ev_ite,ev_ret,le,decide_eq_true_eq]
 by_cases c1:c.Queue.l.length≤200
 ·by_cases c2:c.Rob.l.length≤200
  ·by_cases c3:c.Iq.l.length≤200
   ·by_cases c4:c.Lq.l.length≤200
    ·by_cases c5:c.Sq.l.length≤200
     ·by_cases c6:c.Sb.l.length≤200
      ·by_cases c7:c.Units.l.length≤200
       ·by_cases c8:c.Phys.Val.l.length≤200
        ·rw [if_pos c1,if_pos c2,if_pos c3,if_pos c4,if_pos c5,if_pos c6,if_pos c7,if_pos c8]
         exact ⟨_,rfl,fun h=>⟨c1,c2,c3,c4,c5,c6,c7,c8,by simpa using h⟩⟩
        ·simp only [c1,c2,c3,c4,c5,c6,c7,c8,if_true,if_false];exact ⟨_,rfl,fun h=>by cases h⟩
       ·simp only [c1,c2,c3,c4,c5,c6,c7,if_true,if_false];exact ⟨_,rfl,fun h=>by cases h⟩
      ·simp only [c1,c2,c3,c4,c5,c6,if_true,if_false];exact ⟨_,rfl,fun h=>by cases h⟩
     ·simp only [c1,c2,c3,c4,c5,if_true,if_false];exact ⟨_,rfl,fun h=>by cases h⟩
    ·simp only [c1,c2,c3,c4,if_true,if_false];exact ⟨_,rfl,fun h=>by cases h⟩
   ·simp only [c1,c2,c3,if_true,if_false];exact ⟨_,rfl,fun h=>by cases h⟩
  ·simp only [c1,c2,if_true,if_false];exact ⟨_,rfl,fun h=>by cases h⟩
 ·simp only [c1,if_false];exact ⟨_,rfl,fun h=>by cases h⟩
end Go.Proofs.YtkddkpmijhionaaGreatDoor
