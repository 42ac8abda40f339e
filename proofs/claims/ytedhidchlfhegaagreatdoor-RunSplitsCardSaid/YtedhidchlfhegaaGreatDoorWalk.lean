/- YtedhidchlfhegaaGreatDoorWalk: tables of pages, and where an access goes: the program's are the document's. No statement of the seat is proved here. -/
import Derived.Test.YtedhidchlfhegaaGreatDoorMem
set_option linter.unusedSimpArgs false
set_option linter.unusedVariables false
set_option maxRecDepth 100000
namespace Go.Proofs.YtedhidchlfhegaaGreatDoor
open Go Go.A2
theorem and_all {x m:W .u32} (L:List Nat) (hL:∀ i,i < 32→m.v.testBit i=L.contains i) (h32:∀ i,i∈L→i < 32):W.eq (W.and x m) m=L.all (fun i=>x.v.testBit i):=by
 refine iff_bool ?_
 rw [W.eq_iff,List.all_eq_true]
 constructor
 ·intro h i hi
  have h1:(W.and x m).v.testBit i=m.v.testBit i:=by rw [h]
  have h2:L.contains i=true:=List.contains_iff_mem.2 hi
  rw [and_bits,hL i (h32 i hi),h2] at h1
  simpa using h1
 ·intro h
  refine bits_ext fun i hi=>?_
  rw [and_bits,hL i hi]
  cases hc:L.contains i with
  | true=>rw [h i (List.contains_iff_mem.1 hc)];rfl
  | false=>simp
theorem and_any {x m:W .u32} (L:List Nat) (hL:∀ i,i < 32→m.v.testBit i=L.contains i) (h32:∀ i,i∈L→i < 32):W.ne (W.and x m) (W.of .u32 0)=L.any (fun i=>x.v.testBit i):=by
 refine iff_bool ?_
 rw [W.ne_eq,Bool.not_eq_true',W.eq_dec,decide_eq_false_iff_not,List.any_eq_true]
 constructor
 ·intro h
  apply Classical.byContradiction
  intro hn
  apply h
  refine bits_ext fun i hi=>?_
  rw [and_bits,hL i hi,show (W.of .u32 0).v=0 from rfl,Nat.zero_testBit]
  cases hc:L.contains i with
  | true=>
   cases hx:x.v.testBit i with
   | true=>exact (hn ⟨i,List.contains_iff_mem.1 hc,hx⟩).elim
   | false=>rfl
  | false=>simp
 ·rintro ⟨i,hi,hx⟩ h
  have h1:(W.and x m).v.testBit i=false:=by rw [h,show (W.of .u32 0).v=0 from rfl,Nat.zero_testBit]
  have h2:L.contains i=true:=List.contains_iff_mem.2 hi
  rw [and_bits,hL i (h32 i hi),h2,hx] at h1
  cases h1
theorem field_eq {hi lo:W .i64} {m:W .u32} {l w:Nat} (hm:F_bits_mask hi lo=some (m,W.of .i64 (l:Nat))) (hv:m.v=(2 ^ w - 1)*2 ^ l) (hl:l≤31) (x:W .u32):∃ y,F_bits_Field x hi lo=some y∧y.v=x.v / 2 ^ l % 2 ^ w:=by
 unfold F_bits_Field T_bits_Field
 have hn:(wi l).n=l:=wi_n (by unfold room;omega)
 have hsh:W.shr? (W.and x m) (W.of .i64 ((l:Nat):Int))=some (W.shr (W.and x m) (wi l)):=by
  unfold W.shr?;rw [if_neg (by rw [hn];omega)]
 simp only [ev_opt,ev_ret,hm,bind_some',hsh]
 refine ⟨_,rfl,?_⟩
 have hlv:(wi l).v=l:=by unfold W.v;rw [hn];rfl
 rw [W.shr_v,hlv,W.and_v,hv]
 refine Nat.eq_of_testBit_eq fun i=>?_
 rw [Nat.testBit_div_two_pow,Nat.testBit_and,Nat.testBit_mod_two_pow,Nat.testBit_div_two_pow,Nat.mul_comm,Nat.testBit_two_pow_mul,Nat.testBit_two_pow_sub_one]
 rw [show i+l - l=i by omega,show decide (i+l ≥ l)=true by simp]
 cases x.v.testBit (i+l)<;>simp
theorem conv64_v (x:W .u32):(W.conv .i64 x).n=x.v:=W.conv_i64_v x
theorem of_eq (w:W .u32):∃ p,F_pte_Of w=some p∧F_ref12_Of w=some p∧p.Bits.v < 128∧0≤p.Page.n∧p.Page.n < 256:=by
 obtain ⟨y,e1,e2⟩:=field_eq (hi:=W.of .i64 15) (lo:=W.of .i64 8) (m:=W.of .u32 65280) (l:=8) (w:=8) (by kernel_rfl) (by rfl) (by omega) w
 unfold F_pte_Of T_pte_Of F_ref12_Of T_ref12_Of
 simp only [ev_opt,ev_ret,e1,bind_some']
 have h1:W.and w (W.of .u32 127)=W.rem w (W.of .u32 128):=W.ext_v (by rw [mask_and (k:=7) w (by omega) (by rfl),W.rem_v];rfl)
 have h2:y=W.rem (W.quo w (W.of .u32 256)) (W.of .u32 256):=W.ext_v (by rw [e2,W.rem_v,W.quo_v];rfl)
 refine ⟨_,rfl,by rw [h1,h2],?_,?_,?_⟩
 ·show (W.and w (W.of .u32 127)).v < 128
  rw [mask_and (k:=7) w (by omega) (by rfl)];exact Nat.mod_lt _ (by decide)
 ·show 0≤(W.conv .i64 y).n;rw [conv64_v];omega
 ·show (W.conv .i64 y).n < 256;rw [conv64_v,e2];have:=Nat.mod_lt (w.v / 2 ^ 8) (show 0 < 2 ^ 8 by decide);omega
theorem index_eq (va:W .u32) (k:W .i64):∃ y,F_pte_Index va k=some y∧F_ref12_Index va k=some y:=by
 obtain ⟨y,e1,e2⟩:=field_eq (hi:=W.of .i64 13) (lo:=W.of .i64 10) (m:=W.of .u32 15360) (l:=10) (w:=4) (by kernel_rfl) (by rfl) (by omega) va
 obtain ⟨z,e3,e4⟩:=field_eq (hi:=W.of .i64 9) (lo:=W.of .i64 6) (m:=W.of .u32 960) (l:=6) (w:=4) (by kernel_rfl) (by rfl) (by omega) va
 unfold F_pte_Index T_pte_Index F_ref12_Index T_ref12_Index
 simp only [ev_opt,ev_ite,ev_ret,e1,e3,bind_some']
 have h1:y=W.rem (W.quo va (W.of .u32 1024)) (W.of .u32 16):=W.ext_v (by rw [e2,W.rem_v,W.quo_v];rfl)
 have h2:z=W.rem (W.quo va (W.of .u32 64)) (W.of .u32 16):=W.ext_v (by rw [e4,W.rem_v,W.quo_v];rfl)
 cases W.eq k (W.of .i64 0)
 ·cases W.eq k (W.of .i64 1)
  ·exact ⟨_,rfl,rfl⟩
  ·exact ⟨_,rfl,by rw [h2];rfl⟩
 ·exact ⟨_,rfl,by rw [h1];rfl⟩
theorem bit12 (w:W .u32) {i:Nat} (hi:i≤31):F_ref12_bit w (wi i)=some (w.v.testBit i):=by
 have key:∃ o,L_ref12_bit_5 (w,wi i,wi 0,())=some o∧o.1.v=w.v / 2 ^ i:=by
  unfold L_ref12_bit_5
  refine iter_acc (fun k s=>∃ x:W .u32,s=(x,wi i,wi k,())∧x.v=w.v / 2 ^ k) i _ ?_ ?_ ⟨w,rfl,by simp⟩ (by show _ < 1048576;omega)
  ·rintro k s hk ⟨x,rfl,hx⟩
   simp only [B_ref12_bit_5,ev_ite,ev_ret,lt_small (show k≤1000 by omega) (show i≤1000 by omega),hk,decide_true,if_true,add_small (show k < 1000 by omega)]
   exact ⟨_,rfl,_,rfl,by rw [W.quo_v,hx,show (W.of .u32 2).v=2 from rfl,Nat.div_div_eq_div_mul,Nat.pow_succ]⟩
  ·rintro s ⟨x,rfl,hx⟩
   simp only [B_ref12_bit_5,ev_ite,ev_ret,lt_small (show i≤1000 by omega) (show i≤1000 by omega),Nat.lt_irrefl,decide_false,Bool.false_eq_true,if_false]
   exact ⟨_,rfl,hx⟩
 obtain ⟨o,h1,h2⟩:=key
 unfold F_ref12_bit T_ref12_bit
 simp only [ev_opt,ev_ret,show L_ref12_bit_5 (w,wi i,W.of .i64 0,())=_ from h1,bind_some',odd_bit]
 rw [h2,Nat.testBit_div_two_pow,Nat.zero_add]
theorem leaf_eq (p:TPte):∃ b,F_pte_Leaf p=some b∧F_ref12_Leaf p=some b:=by
 unfold F_pte_Leaf T_pte_Leaf F_ref12_Leaf T_ref12_Leaf
 have h1:=bit12 p.Bits (i:=1) (by omega)
 have h2:=bit12 p.Bits (i:=2) (by omega)
 have h3:=bit12 p.Bits (i:=3) (by omega)
 simp only [ev_opt,ev_ite,ev_ret,show F_ref12_bit p.Bits (W.of .i64 1)=_ from h1,show F_ref12_bit p.Bits (W.of .i64 2)=_ from h2,show F_ref12_bit p.Bits (W.of .i64 3)=_ from h3,bind_some',and_any (x:=p.Bits) (m:=W.of .u32 14) [1,2,3] (by decide) (by decide),List.any_cons,List.any_nil,Bool.or_false]
 cases p.Bits.v.testBit 1<;>cases p.Bits.v.testBit 2<;>cases p.Bits.v.testBit 3<;>exact ⟨_,rfl,rfl⟩
theorem allows_eq (p:TPte) (k:W .i64):∃ b,F_pte_Allows p k false=some b∧F_ref12_Allows p k false=some b:=by
 unfold F_pte_Allows T_pte_Allows F_ref12_Allows T_ref12_Allows
 have h0:=bit12 p.Bits (i:=0) (by omega)
 have h1:=bit12 p.Bits (i:=1) (by omega)
 have h2:=bit12 p.Bits (i:=2) (by omega)
 have h3:=bit12 p.Bits (i:=3) (by omega)
 have h4:=bit12 p.Bits (i:=4) (by omega)
 have h5:=bit12 p.Bits (i:=5) (by omega)
 have h6:=bit12 p.Bits (i:=6) (by omega)
 simp only [ev_opt,ev_ite,ev_ret,show F_ref12_bit p.Bits (W.of .i64 0)=_ from h0,show F_ref12_bit p.Bits (W.of .i64 1)=_ from h1,show F_ref12_bit p.Bits (W.of .i64 2)=_ from h2,show F_ref12_bit p.Bits (W.of .i64 3)=_ from h3,show F_ref12_bit p.Bits (W.of .i64 4)=_ from h4,show F_ref12_bit p.Bits (W.of .i64 5)=_ from h5,show F_ref12_bit p.Bits (W.of .i64 6)=_ from h6,bind_some',
  and_all (x:=p.Bits) (m:=W.of .u32 57) [0,3,4,5] (by decide) (by decide),and_all (x:=p.Bits) (m:=W.of .u32 51) [0,1,4,5] (by decide) (by decide),and_all (x:=p.Bits) (m:=W.of .u32 117) [0,2,4,5,6] (by decide) (by decide),List.all_cons,List.all_nil,Bool.and_true]
 cases p.Bits.v.testBit 0<;>cases p.Bits.v.testBit 5<;>cases p.Bits.v.testBit 4<;>cases W.eq k (W.of .i64 1)<;>cases W.eq k (W.of .i64 2)<;>cases W.eq k (W.of .i64 3)<;>first
  | exact ⟨_,rfl,rfl⟩
  | (cases p.Bits.v.testBit 1<;>cases p.Bits.v.testBit 2<;>cases p.Bits.v.testBit 3<;>cases p.Bits.v.testBit 6<;>exact ⟨_,rfl,rfl⟩)
theorem addr_eq (p:TPte) (va:W .u32):∃ y,F_pte_Addr p va=some y∧F_ref12_Addr p va=some y:=by
 have hp:F_ref12_page p.Page=some (W.and (W.conv .u32 p.Page) (W.of .u32 255)):=by
  have hv:(W.and (W.conv .u32 p.Page) (W.of .u32 255)).n=p.Page.n % 256:=by
   have hr:=p.Page.r_i64
   rw [W.n_v,mask_and (k:=8) _ (by omega) (by rfl)]
   have:((W.conv .u32 p.Page).v:Int)=p.Page.n % 4294967296:=by rw [←W.n_v,W.conv_n,wrap_u32]
   omega
  unfold F_ref12_page T_ref12_page
  simp only [ev_ite,ev_ret]
  have hr:=p.Page.r_i64
  have ht:(W.rem p.Page (W.of .i64 256)).n=p.Page.n.tmod 256:=by
   rw [W.rem_n,show (W.of .i64 256).n=256 from rfl,wrap_i64]
   have:=Int.tmod_lt_of_pos p.Page.n (show (0:Int) < 256 by decide)
   have:=Int.lt_tmod_of_pos p.Page.n (show (0:Int) < 256 by decide)
   omega
  have hd:p.Page.n.tmod 256=p.Page.n % 256∨(p.Page.n.tmod 256 < 0∧p.Page.n.tmod 256+256=p.Page.n % 256):=by
   have h1:=Int.tmod_lt_of_pos p.Page.n (show (0:Int) < 256 by decide)
   have h2:=Int.lt_tmod_of_pos p.Page.n (show (0:Int) < 256 by decide)
   have h3:p.Page.n=256*p.Page.n.tdiv 256+p.Page.n.tmod 256:=(Int.mul_tdiv_add_tmod p.Page.n 256).symm
   omega
  cases hlt:W.lt (W.rem p.Page (W.of .i64 256)) (W.of .i64 0) with
  | true=>
   have hl:=W.lt_n.1 hlt
   rw [ht,show (W.of .i64 0).n=0 from rfl] at hl
   simp only [if_true]
   congr 1
   refine W.ext ?_
   rw [hv,W.conv_n,W.add_n,ht,show (W.of .i64 256).n=256 from rfl,wrap_i64,wrap_u32]
   omega
  | false=>
   have hl:¬ p.Page.n.tmod 256 < 0:=fun h=>by
    have:=W.lt_n (a:=W.rem p.Page (W.of .i64 256)) (b:=W.of .i64 0).2 (by rw [ht];exact h)
    rw [hlt] at this;cases this
   simp only [Bool.false_eq_true,if_false]
   congr 1
   refine W.ext ?_
   rw [hv,W.conv_n,ht,wrap_u32]
   omega
 unfold F_pte_Addr T_pte_Addr F_ref12_Addr T_ref12_Addr F_pte_page T_pte_page
 simp only [ev_opt,ev_ret,hp,bind_some']
 refine ⟨_,rfl,?_⟩
 congr 2
 exact W.ext (by rw [W.mul_n,W.mul_n,Int.mul_comm])
theorem fault_eq (k:W .i64):F_ref13_Fault k=F_walk_Fault k:=rfl
theorem entry_p (w:TWalker) (a:W .u32) (hw:w.read.l.length≤4):(chkB w.shadow a (W.of .i64 4)=false∧F_walk_walker_entry w a=some (TPte.mk (W.of .u32 0) (W.of .i64 0),false,w))∨(chkB w.shadow a (W.of .i64 4)=true∧∃ p l,F_walk_walker_entry w a=some (p,true,{ w with read:=l })∧F_ref12_Of (W.of .u32 (ofB (bytesAt w.shadow.l a.v 4):Nat))=some p∧l.l.length=w.read.l.length+1):=by
 unfold F_walk_walker_entry T_walk_walker_entry
 rw [ev_opt,read_p]
 cases h:chkB w.shadow a (W.of .i64 4) with
 | false=>exact .inl ⟨rfl,rfl⟩
 | true=>
  obtain ⟨r,e1,e2⟩:=app_lit (s:=w.read) (x:=a) (hb:=rfl) (by unfold room;omega) (by unfold room;omega)
  obtain ⟨p,e3,e4,_⟩:=of_eq (W.of .u32 (ofB (bytesAt w.shadow.l a.v (W.of .i64 4).v):Nat))
  simp only [if_true,bind_some',ev_ite,W.ne_self,Bool.false_eq_true,if_false,ev_opt,e1,e3,ev_ret]
  exact .inr ⟨trivial,p,r,rfl,e4,by rw [e2,List.length_append];rfl⟩
theorem low_bit (x:W .u32):W.eq (W.and x (W.of .u32 1)) (W.of .u32 0)=W.eq (W.rem x (W.of .u32 2)) (W.of .u32 0):=by
 rw [eq_bit v1]
 refine iff_bool ?_
 rw [W.eq_n,W.n_v,W.rem_v,Nat.testBit_zero,show (W.of .u32 2).v=2 from rfl,show (W.of .u32 0).n=0 from rfl]
 simp only [Bool.not_eq_true',decide_eq_false_iff_not]
 omega
theorem walk_eq (sh:Sl 1 (W .u8)) (root va:W .u32):∃ p l l' ok,F_walk_Walk sh root va=some (p,l,ok)∧F_ref13_Walk sh root va=some (p,l',ok):=by
 obtain ⟨i0,a1,a2⟩:=index_eq va (W.of .i64 0)
 obtain ⟨i1,b1,b2⟩:=index_eq va (W.of .i64 1)
 unfold F_walk_Walk T_walk_Walk F_ref13_Walk T_ref13_Walk
 simp only [ev_ite,ev_ret,ev_opt,a1,a2,b1,b2,bind_some']
 cases W.ge va (W.of .u32 16384) with
 | true=>exact ⟨_,_,_,_,rfl,rfl⟩
 | false=>
  simp only [Bool.false_eq_true,if_false]
  generalize W.add root (W.mul (W.of .u32 4) (W.conv .u32 i0))=at0
  rw [read_d]
  rcases entry_p ⟨sh,Sl.nil⟩ at0 (by show 0≤4;omega) with ⟨h1,h2⟩ | ⟨h1,p,l,h2,h3,h4⟩
  ·have h1':chkB sh at0 (W.of .i64 4)=false:=h1
   rw [h2,h1']
   exact ⟨_,_,_,_,rfl,rfl⟩
  ·have h1':chkB sh at0 (W.of .i64 4)=true:=h1
   have h3':F_ref12_Of (W.of .u32 (ofB (bytesAt sh.l at0.v (W.of .i64 4).v):Nat))=some p:=h3
   obtain ⟨lf,g1,g2⟩:=leaf_eq p
   simp only [h2,h1',if_true,bind_some',Bool.not_true,Bool.false_eq_true,if_false,W.ne_self,h3',g1,g2,low_bit]
   cases W.eq (W.rem p.Bits (W.of .u32 2)) (W.of .u32 0) with
   | true=>exact ⟨_,_,_,_,rfl,rfl⟩
   | false=>
    cases lf with
    | true=>exact ⟨_,_,_,_,rfl,rfl⟩
    | false=>
     simp only [Bool.false_eq_true,if_false]
     generalize W.add (W.conv .u32 (W.mul (W.of .i64 64) p.Page)) (W.mul (W.of .u32 4) (W.conv .u32 i1))=at1
     rw [read_d]
     have hl:l.l.length≤4:=by rw [h4];show 0+1≤4;omega
     rcases entry_p ⟨sh,l⟩ at1 hl with ⟨k1,k2⟩ | ⟨k1,q,l2,k2,k3,k4⟩
     ·have k1':chkB sh at1 (W.of .i64 4)=false:=k1
      rw [k2,k1']
      exact ⟨_,_,_,_,rfl,rfl⟩
     ·have k1':chkB sh at1 (W.of .i64 4)=true:=k1
      have k3':F_ref12_Of (W.of .u32 (ofB (bytesAt sh.l at1.v (W.of .i64 4).v):Nat))=some q:=k3
      obtain ⟨lg,g3,g4⟩:=leaf_eq q
      obtain ⟨r,e1,e2⟩:=app_lit (s:=(Sl.lit 4 [at0] rfl:Sl 4 (W .u32))) (x:=at1) (hb:=rfl) (by show (1+1)*4≤room;unfold room;omega) (by show 1+1≤room;unfold room;omega)
      simp only [k2,k1',if_true,bind_some',Bool.not_true,Bool.false_eq_true,if_false,W.ne_self,e1,k3',g3,g4,low_bit]
      cases W.eq (W.rem q.Bits (W.of .u32 2)) (W.of .u32 0) with
      | true=>exact ⟨_,_,_,_,rfl,rfl⟩
      | false=>cases lg<;>exact ⟨_,_,_,_,rfl,rfl⟩
theorem trans_eq (a:TArch) (sh:Sl 1 (W .u8)) (va:W .u32) {k:W .i64} (hk:k=W.of .i64 1∨k=W.of .i64 2∨k=W.of .i64 3):∃ r,F_walk_Trans a sh va k=some r∧F_ref13_Trans a sh va k=some r:=by
 obtain ⟨pg,p1,p2⟩:=paged_eq a
 obtain ⟨p,l,l',ok,w1,w2⟩:=walk_eq sh (a.C.get 5) va
 obtain ⟨al,a1,a2⟩:=allows_eq p k
 obtain ⟨y,y1,y2⟩:=addr_eq p va
 have hf:∃ f,F_walk_Fault k=some f∧W.eq f (W.of .i64 9)=false:=by
  rcases hk with rfl | rfl | rfl<;>exact ⟨_,rfl,rfl⟩
 obtain ⟨f,f1,f2⟩:=hf
 have hb:W.lt k (W.of .i64 1)=false∧W.gt k (W.of .i64 3)=false:=by
  rcases hk with rfl | rfl | rfl<;>exact ⟨rfl,rfl⟩
 unfold F_walk_Trans T_walk_Trans F_ref13_Trans T_ref13_Trans
 simp only [ev_opt,ev_ite,ev_ret,p1,p2,bind_some',w1,w2,a1,a2,y1,y2,fault_eq,f1,f2,hb.1,hb.2]
 cases pg with
 | false=>exact ⟨_,rfl,rfl⟩
 | true=>cases ok<;>cases al<;>exact ⟨_,rfl,rfl⟩
theorem aligned_eq (a:W .u32) (s:W .i64):∃ b,F_bits_Aligned a s=some b∧F_ref01_Aligned a s=some b∧(b=true→sz s):=by
 unfold F_bits_Aligned T_bits_Aligned F_ref01_Aligned T_ref01_Aligned
 simp only [ev_ite,ev_ret,W.eq_dec]
 by_cases h1:s=W.of .i64 1
 ·subst h1
  refine ⟨true,?_,?_,fun _=>.inl rfl⟩
  ·simp only [decide_true,if_true]
   congr 1
   rw [decide_eq_true_eq]
   refine W.ext_v ?_
   rw [W.and_v,show (W.conv .u32 (W.sub (W.of .i64 1) (W.of .i64 1))).v=0 from rfl,Nat.and_zero];rfl
  ·simp only [decide_true,if_true]
 ·by_cases h2:s=W.of .i64 2
  ·subst h2
   have h21:¬ W.of .i64 2=W.of .i64 1:=h1
   have h24:¬ W.of .i64 2=W.of .i64 4:=by decide
   have e:W.and a (W.conv .u32 (W.sub (W.of .i64 2) (W.of .i64 1)))=W.rem a (W.of .u32 2):=W.ext_v (by rw [mask_and (k:=1) a (by omega) (by rfl),W.rem_v];rfl)
   simp only [h21,h24,decide_true,decide_false,Bool.false_eq_true,if_false,if_true,e]
   refine ⟨_,rfl,?_,fun _=>.inr (.inl rfl)⟩
   by_cases hz:W.rem a (W.of .u32 2)=W.of .u32 0<;>simp [hz]
  ·by_cases h4:s=W.of .i64 4
   ·subst h4
    have e:W.and a (W.conv .u32 (W.sub (W.of .i64 4) (W.of .i64 1)))=W.rem a (W.of .u32 4):=W.ext_v (by rw [mask_and (k:=2) a (by omega) (by rfl),W.rem_v];rfl)
    simp only [h1,h2,decide_true,decide_false,Bool.false_eq_true,if_false,if_true,e]
    exact ⟨_,rfl,rfl,fun _=>.inr (.inr rfl)⟩
   ·simp only [h1,h2,h4,decide_false,Bool.false_eq_true,if_false]
    exact ⟨false,rfl,rfl,fun h=>by cases h⟩
theorem reach_eq (m:TMach) (i:Sl 1 (W .u8)) (va:W .u32) (s:W .i64) {k:W .i64} (hk:k=W.of .i64 1∨k=W.of .i64 2∨k=W.of .i64 3):∃ r,F_step_reach m i va s k=some r∧F_ref15_Access m i va s k=some r∧(r.2=W.of .i64 0→chkB i r.1 s=true):=by
 obtain ⟨al,a1,a2,a3⟩:=aligned_eq va s
 obtain ⟨t,t1,t2⟩:=trans_eq m.A m.Shadow va hk
 unfold F_step_reach T_step_reach F_ref15_Access T_ref15_Access
 simp only [ev_opt,ev_ite,ev_ret,a1,a2,t1,t2,bind_some',check_p,check_d,W.ne_eq]
 cases al with
 | false=>exact ⟨_,rfl,rfl,fun h=>by cases (show W.of .i64 5 ≠ W.of .i64 0 by decide) h⟩
 | true=>
  cases ht:W.eq t.2 (W.of .i64 0) with
  | true=>
   cases hc:chkB i t.1 s with
   | true=>
    simp only [Bool.not_true,Bool.false_eq_true,if_false,if_true,W.eq_self]
    exact ⟨_,rfl,rfl,fun _=>hc⟩
   | false=>exact ⟨_,rfl,rfl,fun h=>by cases (show W.of .i64 9 ≠ W.of .i64 0 by decide) h⟩
  | false=>
   refine ⟨_,rfl,rfl,fun h=>?_⟩
   have h':t.2=W.of .i64 0:=h
   rw [h',W.eq_self] at ht;cases ht
theorem fetch_eq (m:TMach):∃ r,F_step_Fetch m=some r∧F_ref15_Fetch m=some r:=by
 obtain ⟨r,r1,r2,r3⟩:=reach_eq m m.Shadow m.A.PC (W.of .i64 4) (k:=W.of .i64 1) (.inl rfl)
 unfold F_step_Fetch T_step_Fetch F_ref15_Fetch T_ref15_Fetch
 simp only [ev_opt,ev_ite,ev_ret,r1,r2,bind_some',read_p,read_d,W.ne_eq]
 cases h:W.eq r.2 (W.of .i64 0) with
 | false=>exact ⟨_,rfl,rfl⟩
 | true=>
  rw [r3 (W.eq_iff.1 h)]
  exact ⟨_,rfl,rfl⟩
end Go.Proofs.YtedhidchlfhegaaGreatDoor
