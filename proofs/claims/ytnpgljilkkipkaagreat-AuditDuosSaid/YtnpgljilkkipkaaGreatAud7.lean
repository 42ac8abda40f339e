/- YtnpgljilkkipkaaGreatAud7: caches together that may be. No statement of the seat is proved here. -/
import Derived.Test.YtnpgljilkkipkaaGreatAud6
set_option linter.unusedSimpArgs false
set_option linter.unusedVariables false
set_option maxRecDepth 100000
namespace Go.Proofs.YtnpgljilkkipkaaGreat
open Go Go.A2
theorem zX {n m:Nat} (h:n+m≤aw):W.add (wi n) (wi m)=wi (n+m):=by
 refine W.ext ?_
 unfold aw at h
 rw [W.add_n,aQ (by unfold aw;omega),aQ (by unfold aw;omega),aQ (by unfold aw;omega),de]
 omega
theorem Hd {n:Nat} (h:n≤aw):ek (wi n)=some n:=by
 unfold ek;rw [aQ h,if_pos (by omega)];rfl
theorem lk {n i:Nat} (h:i < n) (hn:n≤aw):aI n (wi i)=some i:=by
 rw [jw (by rw [aQ (by omega)];omega),aQ (by omega)];rfl
theorem yI (t:W .u32):W.mul (W.conv .i64 t) (W.of .i64 16)=wi (t.v*16):=by
 have ht:=t.v_lt
 have hn:=t.n_v
 refine W.ext ?_
 rw [W.mul_n,W.conv_n,show (W.of .i64 16:W .i64).n=16 from rfl,aQ (by unfold aw;omega),de,de]
 omega
def eh (m:Sl 1 (W .u8)) (t:W .u32):Bool:=decide (t.v*16+16≤m.l.length)
theorem PU (m:Sl 1 (W .u8)) (t:W .u32):W.le (W.add (W.mul (W.conv .u64 t) (W.of .u64 16)) (W.of .u64 16)) (W.conv .u64 (Sl.len m))=eh m t:=by
 have ht:=t.v_lt
 have hn:=t.n_v
 have hm:=m.h.2
 unfold aw at hm
 have e0:(W.of .u64 16:W .u64).n=16:=rfl
 have e1:(W.add (W.mul (W.conv .u64 t) (W.of .u64 16)) (W.of .u64 16)).n=t.v*16+16:=by
  rw [W.add_n,W.mul_n,W.conv_n,e0,eP,eP,eP];omega
 have e2:(W.conv .u64 (Sl.len m)).n=m.l.length:=by rw [W.conv_n,Sl.len_n,eP];omega
 refine bQ ?_
 rw [W.le_n,e1,e2]
 unfold eh
 rw [decide_eq_true_eq];omega
theorem PW (m:Sl 1 (W .u8)) (t:W .u32):lY m t=some (eh m t):=by
 unfold lY DZ
 simp only [ae,PU]
theorem PV (m:TCoh) (t:W .u32):mE m t=some (eh m.Mem t):=by
 unfold mE E9
 simp only [ae,PU]
def kW (m:Sl 1 (W .u8)) (x:TWay):Bool:=(List.range 16).all fun i=>W.eq (nth x.Data.l i) (nth m.l (x.Tag.v*16+i))
theorem WH (s1 s2:Sl 1 (W .u8)) (h:s1.l.length=s2.l.length):mN s1 s2=some ((List.range s1.l.length).all fun i=>W.eq (nth s1.l i) (nth s2.l i)):=by
 have k:vd (s1,s2,Sl.len s1,wi 0,())=some (if (List.range s1.l.length).all (fun i=>W.eq (nth s1.l i) (nth s2.l i))=true then Sum.inr ((),()) else Sum.inl (false,())):=by
  unfold vd
  refine bS (fun i=>(s1,s2,Sl.len s1,wi i,())) _ _ (Sum.inl (false,())) (Sum.inr ((),())) (fun i hi _=>?_) (fun _=>?_) (bt _)
  ·simp only [sq,ak,an,ae,aK _ hi,Sl.get_wi _ hi,Sl.get_wi s2 (show i < s2.l.length by omega),if_true,aj,aN _ hi,W.ne_eq]
   cases W.eq (nth s1.l i) (nth s2.l i)<;>rfl
  ·simp only [sq,ak,ae,aO,Bool.false_eq_true,if_false]
 have e:W.ne (Sl.len s1) (Sl.len s2)=false:=by
  rw [W.ne_eq,Sl.len_wi,Sl.len_wi,di s1.h.2 s2.h.2,decide_eq_true h];rfl
 unfold mN FT
 simp only [ak,an,ae,aM,e,Bool.false_eq_true,if_false,aY,k,aj]
 cases (List.range s1.l.length).all (fun i=>W.eq (nth s1.l i) (nth s2.l i))<;>rfl
theorem Qf {l:List (W .u8)} {lo hi i:Nat} (h:lo+i < hi) (hl:hi≤l.length):nth ((l.take hi).drop lo) i=nth l (lo+i):=by
 rw [cC (by rw [List.length_drop,List.length_take];omega),cC (by omega)]
 simp
theorem Tu (m:Sl 1 (W .u8)) (x:TWay) (h:eh m x.Tag=true):∃ l,Sl.sub? m (x.Tag.v*16) (x.Tag.v*16+16)=some l∧mN (Sl.cut (Arr.sl 1 x.Data rfl) 0 16) l=some (kW m x):=by
 have h':x.Tag.v*16+16≤m.l.length:=of_decide_eq_true h
 have hd:=x.Data.h
 obtain ⟨l,l1,l2⟩:∃ l,Sl.sub? m (x.Tag.v*16) (x.Tag.v*16+16)=some l∧l.l=(m.l.take (x.Tag.v*16+16)).drop (x.Tag.v*16):=by
  unfold Sl.sub?
  rw [dif_pos ⟨by omega,h'⟩]
  exact ⟨_,rfl,rfl⟩
 have c1:(Sl.cut (Arr.sl 1 x.Data rfl) 0 16:Sl 1 (W .u8)).l=x.Data.l:=by
  show (x.Data.l.take 16).drop 0=x.Data.l
  rw [List.drop_zero,List.take_of_length_le (by omega)]
 refine ⟨l,l1,?_⟩
 rw [WH _ _ (by rw [c1,l2,List.length_drop,List.length_take,hd];omega),c1,hd]
 congr 1
 refine bQ ?_
 unfold kW
 rw [cJ,cJ]
 refine ⟨fun hh i hi=>?_,fun hh i hi=>?_⟩
 ·have:=hh i hi
  rwa [l2,Qf (by omega) h'] at this
 ·rw [l2,Qf (by omega) h'];exact hh i hi
theorem yJ {i:Nat} (h:i≤1000):W.lt (wi i) (W.of .i64 16)=decide (i < 16):=br (m:=16) (cg h) (cg (by omega))
theorem SA (m:TCoh) (t:W .u32) (h:eh m.Mem t=true):∃ r,mF m t=some r∧∀ i,i < 16→nth r.l i=nth m.Mem.l (t.v*16+i):=by
 have h':t.v*16+16≤m.Mem.l.length:=of_decide_eq_true h
 have hr:=m.Mem.h.2
 have ht:=t.v_lt
 have k:∃ o,nj (t,m,Arr.rep 16 (W.of .u8 0),Arr.rep 16 (W.of .u8 0),wi 0,())=some o∧∀ i,i < 16→nth o.2.1.l i=nth m.Mem.l (t.v*16+i):=by
  unfold nj
  refine bK (fun i st=>∃ r:Arr 16 (W .u8),st=(t,m,Arr.rep 16 (W.of .u8 0),r,wi i,())∧∀ j,j < i→nth r.l j=nth m.Mem.l (t.v*16+j)) 16 (fun o:Arr 16 (W .u8)×Arr 16 (W .u8)×Unit=>∀ i,i < 16→nth o.2.1.l i=nth m.Mem.l (t.v*16+i)) ?_ ?_ ⟨_,rfl,fun j hj=>absurd hj (Nat.not_lt_zero _)⟩ (show 16 < 281474976710656 by omega)
  ·rintro i st hi ⟨r,rfl,hj⟩
   simp only [rM,ak,an,ae,yJ (show i≤1000 by omega),decide_eq_true hi,if_true,yI,zX (show t.v*16+i≤aw by omega),Sl.get_wi m.Mem (show t.v*16+i < m.Mem.l.length by omega),aj,lk hi (cg (by omega)),dc (show i+1≤aw from cg (by omega))]
   refine ⟨_,rfl,_,rfl,fun j hjl=>?_⟩
   have hrl:=r.h
   show nth (r.l.set i _) j=_
   unfold nth
   rw [List.getD_eq_getElem?_getD,List.getElem?_set]
   by_cases e:i=j
   ·subst e
    rw [if_pos rfl,if_pos (by omega)];rfl
   ·rw [if_neg e,←List.getD_eq_getElem?_getD]
    exact hj j (by omega)
  ·rintro st ⟨r,rfl,hj⟩
   simp only [rM,ak,ae,yJ (show 16≤1000 by omega),show decide (16 < 16)=false from rfl,Bool.false_eq_true,if_false]
   exact ⟨_,rfl,hj⟩
 obtain ⟨o,k1,k2⟩:=k
 have k1':nj (t,m,(Arr.rep 16 (W.of .u8 0):Arr 16 (W .u8)),(Arr.lit 16 [(W.of .u8 0),(W.of .u8 0),(W.of .u8 0),(W.of .u8 0),(W.of .u8 0),(W.of .u8 0),(W.of .u8 0),(W.of .u8 0),(W.of .u8 0),(W.of .u8 0),(W.of .u8 0),(W.of .u8 0),(W.of .u8 0),(W.of .u8 0),(W.of .u8 0),(W.of .u8 0)] rfl:Arr 16 (W .u8)),W.of .i64 0,())=some o:=k1
 unfold mF Ff
 simp only [an,ae,k1',aj]
 exact ⟨_,rfl,k2⟩
theorem Ts (m:TCoh) (x:TWay) (h:eh m.Mem x.Tag=true):∃ r,mF m x.Tag=some r∧Tab.eq ab (.arr 16 (.int .u8)) x.Data r=kW m.Mem x:=by
 obtain ⟨r,r1,r2⟩:=SA m x.Tag h
 refine ⟨r,r1,bQ ?_⟩
 have e2:Tab.eq ab (.arr 16 (.int .u8)) x.Data r=true ↔ x.Data=r:=eq_iff (X:=ab) jO (by rfl)
 have h1:=x.Data.h
 have h2:=r.h
 rw [e2]
 unfold kW
 rw [cJ]
 refine ⟨fun hh i hi=>?_,fun hh=>Arr.ext (List.ext_getElem (by omega) fun i hi _=>?_)⟩
 ·rw [hh,r2 i hi];exact W.eq_self _
 ·have:=hh i (by omega)
  rw [←r2 i (by omega),W.eq_iff,cC (by omega),cC (by omega)] at this
  exact this
def cO (m:TCoh) (x:TWay):Bool:=W.eq x.State (W.of .i64 0) || (eh m.Mem x.Tag&&(fH (gz m x.Tag)&&(W.eq x.State (W.of .i64 3) || kW m.Mem x)))
theorem WL (m:TCoh) (x:TWay) (hn:m.Caches.l.length≤2) (hr:∀ j,j < m.Caches.l.length→0 < (nth m.Caches.l j).Sets.l.length):sJ m x=some (cO m x):=by
 obtain ⟨st,s1,s2⟩:=agx m x.Tag hn hr
 have hm:=m.Mem.h.2
 have ht:=x.Tag.v_lt
 unfold sJ DY cO
 simp only [an,ak,ae,PW,aj,s1,aab,s2]
 cases W.eq x.State (W.of .i64 0) with
 | true=>rfl
 | false=>
  cases hl:eh m.Mem x.Tag with
  | false=>rfl
  | true=>
   have h':x.Tag.v*16+16≤m.Mem.l.length:=of_decide_eq_true hl
   cases fH (gz m x.Tag) with
   | false=>rfl
   | true=>
    cases W.eq x.State (W.of .i64 3) with
    | true=>rfl
    | false=>
     obtain ⟨l,l1,l2⟩:=Tu m.Mem x hl
     have e1:W.add (wi (x.Tag.v*16)) (W.of .i64 16)=wi (x.Tag.v*16+16):=zX (m:=16) (by omega)
     simp only [Bool.false_eq_true,if_false,Bool.not_true,e1,yI,Hd (show x.Tag.v*16≤aw by omega),Hd (show x.Tag.v*16+16≤aw by omega),aj,l1,l2,Bool.false_or,Bool.true_and]
theorem agw (m:TCoh) (x:TWay) (k s w:W .i64) (hn:m.Caches.l.length≤2):∃ r,kq (m,k,s,w,x,Sl.lit 8 [] rfl,W.of .i64 0,())=some (m,k,s,w,r,())∧r.l=gz m x.Tag:=by
 have key:∃ o,kq (m,k,s,w,x,Sl.lit 8 [] rfl,wi 0,())=some o∧∃ r:Sl 8 (W .i64),o=(m,k,s,w,r,())∧r.l=gz m x.Tag:=by
  unfold kq
  refine bK (fun j st=>∃ r:Sl 8 (W .i64),st=(m,k,s,w,x,r,wi j,())∧r.l=(List.range j).map fun j=>eO (nth m.Caches.l j) x.Tag) m.Caches.l.length _ ?_ ?_ ⟨_,rfl,rfl⟩ (bt _)
  ·rintro j st hj ⟨r,rfl,hrl⟩
   have hlen:r.l.length=j:=by rw [hrl,List.length_map,List.length_range]
   obtain ⟨r',r1,r2⟩:∃ r':Sl 8 (W .i64),Sl.app? r (Sl.lit 8 [eO (nth m.Caches.l j) x.Tag] rfl:Sl 8 (W .i64))=some r'∧r'.l=r.l++[eO (nth m.Caches.l j) x.Tag]:=cy (by rw [hlen];unfold aw;omega) (by rw [hlen];unfold aw;omega)
   simp only [rI,ak,an,ae,aK _ hj,if_true,agv m x.Tag hj,aj,r1,aN _ hj]
   exact ⟨_,rfl,r',rfl,by rw [r2,hrl,List.range_succ,List.map_append];rfl⟩
  ·rintro st ⟨r,rfl,hrl⟩
   simp only [rI,ak,ae,aO,Bool.false_eq_true,if_false]
   exact ⟨_,rfl,r,rfl,hrl⟩
 obtain ⟨o,k1,r,rfl,k2⟩:=key
 exact ⟨r,k1,k2⟩
def n9 (m:TCoh) (l:List TWay):Bool:=(List.range l.length).all fun w=>cO m (nth l w)
def ig (m:TCoh) (l:List (Sl 40 TWay)):Bool:=(List.range l.length).all fun s=>n9 m (nth l s).l
def n8 (m:TCoh):Bool:=(List.range m.Caches.l.length).all fun k=>ig m (nth m.Caches.l k).Sets.l
theorem ags (m:TCoh) (hn:m.Caches.l.length≤2) {k s:Nat} (hk:k < m.Caches.l.length) (hs:s < (nth m.Caches.l k).Sets.l.length):uH (m,wi k,wi s,wi 0,())=some (if n9 m (nth (nth m.Caches.l k).Sets.l s).l=true then Sum.inr (m,(),wi k,wi s,()) else Sum.inl (m,false,wi k,wi s,())):=by
 unfold uH
 refine bS (fun w=>(m,wi k,wi s,wi w,())) _ _ (Sum.inl (m,false,wi k,wi s,())) (Sum.inr (m,(),wi k,wi s,())) (fun w hw _=>?_) (fun _=>?_) (bt _)
 ·generalize hx:nth (nth (nth m.Caches.l k).Sets.l s).l w=x
  obtain ⟨r,r1,r2⟩:=agw m x (wi k) (wi s) (wi w) hn
  simp only [rG,ak,an,ae,Sl.get_wi _ hk,Sl.get_wi _ hs,aj,aK _ hw,Sl.get_wi _ hw,hx,if_true,PV,r1,aaa,r2,aN _ hw]
  unfold cO
  cases W.eq x.State (W.of .i64 0) with
  | true=>rfl
  | false=>
   cases hl:eh m.Mem x.Tag with
   | false=>rfl
   | true=>
    obtain ⟨d,d1,d2⟩:=Ts m x hl
    rw [W.ne_eq]
    cases W.eq x.State (W.of .i64 3) with
    | true=>
     cases fH (gz m x.Tag)<;>rfl
    | false=>
     simp only [Bool.not_true,Bool.not_false,Bool.false_eq_true,if_false,if_true,d1,d2,aj,Bool.false_or,Bool.true_and]
     cases kW m.Mem x<;>cases fH (gz m x.Tag)<;>rfl
 ·simp only [rG,ak,an,ae,Sl.get_wi _ hk,Sl.get_wi _ hs,aj,aO,Bool.false_eq_true,if_false]
theorem agr (m:TCoh) (hn:m.Caches.l.length≤2) {k:Nat} (hk:k < m.Caches.l.length):uG (m,wi k,wi 0,())=some (if ig m (nth m.Caches.l k).Sets.l=true then Sum.inr (m,(),wi k,()) else Sum.inl (m,false,wi k,())):=by
 unfold uG
 refine bS (fun s=>(m,wi k,wi s,())) _ _ (Sum.inl (m,false,wi k,())) (Sum.inr (m,(),wi k,())) (fun s hs _=>?_) (fun _=>?_) (bt _)
 ·simp only [rF,ak,an,ae,aM,Sl.get_wi _ hk,aj,aK _ hs,if_true,aY,ags m hn hk hs]
  cases n9 m (nth (nth m.Caches.l k).Sets.l s).l
  ·rfl
  ·simp only [if_true,Sum.elim_inr,aN _ hs]
 ·simp only [rF,ak,an,ae,Sl.get_wi _ hk,aj,aO,Bool.false_eq_true,if_false]
theorem agt (m:TCoh) (hn:m.Caches.l.length≤2):tv m=some ((List.range m.Caches.l.length).all fun k=>ep (nth m.Caches.l k)&&ig m (nth m.Caches.l k).Sets.l):=by
 have k1:uI (m,wi 0,())=some (if ((List.range m.Caches.l.length).all fun k=>ep (nth m.Caches.l k)&&ig m (nth m.Caches.l k).Sets.l)=true then Sum.inr ((),()) else Sum.inl (false,())):=by
  unfold uI
  refine bS (fun k=>(m,wi k,())) _ _ (Sum.inl (false,())) (Sum.inr ((),())) (fun k hk _=>?_) (fun _=>?_) (bt _)
  ·simp only [rH,ak,an,ae,aM,aK _ hk,Sl.get_wi _ hk,aj,if_true,adM,aY,agr m hn hk]
   cases ep (nth m.Caches.l k)
   ·rfl
   ·cases ig m (nth m.Caches.l k).Sets.l
    ·rfl
    ·simp only [if_true,Sum.elim_inr,aN _ hk,Bool.not_true,Bool.false_eq_true,if_false,Bool.true_and]
  ·simp only [rH,ak,ae,aO,Bool.false_eq_true,if_false]
 unfold tv Fa
 simp only [an,ae,aM,aY,k1,aj]
 cases (List.range m.Caches.l.length).all fun k=>ep (nth m.Caches.l k)&&ig m (nth m.Caches.l k).Sets.l<;>rfl
section prog
variable (m:TCoh) (hn:m.Caches.l.length≤2) (hr:∀ j,j < m.Caches.l.length→0 < (nth m.Caches.l j).Sets.l.length)
include hn hr
theorem Wx (a:Sl 24 TCache) (b c:W .i64) (d:Sl 24 (Sl 40 TWay)) (e f:W .i64) (l:Sl 40 TWay):tY (((),(m,())),a,b,c,d,e,f,l,Sl.len l,wi 0,())=some (if n9 m l.l=true then Sum.inr (((),(m,())),(),a,b,c,d,e,f,()) else Sum.inl (((),(m,())),false,a,b,c,d,e,f,())):=by
 unfold tY
 refine bS (fun w=>(((),(m,())),a,b,c,d,e,f,l,Sl.len l,wi w,())) _ _ (Sum.inl (((),(m,())),false,a,b,c,d,e,f,())) (Sum.inr (((),(m,())),(),a,b,c,d,e,f,())) (fun w hw _=>?_) (fun _=>?_) (bt _)
 ·have h1:sF (nth l.l w) m=some (cO m (nth l.l w)):=by
   unfold sF DT
   simp only [an,ae,WL m _ hn hr,aj]
  simp only [qH,ak,an,ae,aK _ hw,Sl.get_wi _ hw,aj,if_true,h1,aN _ hw]
  cases cO m (nth l.l w)<;>rfl
 ·simp only [qH,ak,ae,aO,Bool.false_eq_true,if_false]
theorem Ww (a:Sl 24 TCache) (b c:W .i64) (l:Sl 24 (Sl 40 TWay)):tX (((),(m,())),a,b,c,l,Sl.len l,wi 0,())=some (if ig m l.l=true then Sum.inr (((),(m,())),(),a,b,c,()) else Sum.inl (((),(m,())),false,a,b,c,())):=by
 unfold tX
 refine bS (fun w=>(((),(m,())),a,b,c,l,Sl.len l,wi w,())) _ _ (Sum.inl (((),(m,())),false,a,b,c,())) (Sum.inr (((),(m,())),(),a,b,c,())) (fun w hw _=>?_) (fun _=>?_) (bt _)
 ·simp only [qG,ak,an,ae,aM,aK _ hw,Sl.get_wi _ hw,aj,if_true,aY,Wx m hn hr]
  cases n9 m (nth l.l w).l
  ·rfl
  ·simp only [if_true,Sum.elim_inr,aN _ hw]
 ·simp only [qG,ak,ae,aO,Bool.false_eq_true,if_false]
theorem Wy:sI m m=some (n8 m):=by
 have k:tZ (((),(m,())),m.Caches,Sl.len m.Caches,wi 0,())=some (if n8 m=true then Sum.inr ((),()) else Sum.inl (false,())):=by
  unfold tZ
  refine bS (fun w=>(((),(m,())),m.Caches,Sl.len m.Caches,wi w,())) _ _ (Sum.inl (false,())) (Sum.inr ((),())) (fun w hw _=>?_) (fun _=>?_) (bt _)
  ·simp only [qI,ak,an,ae,aM,aK _ hw,Sl.get_wi _ hw,aj,if_true,aY,Ww m hn hr]
   cases ig m (nth m.Caches.l w).Sets.l
   ·rfl
   ·simp only [if_true,Sum.elim_inr,aN _ hw]
  ·simp only [qI,ak,ae,aO,Bool.false_eq_true,if_false]
 unfold sI DW
 simp only [an,ae,aM,aY,k,aj]
 cases n8 m<;>rfl
end prog
theorem aaP (m:Sl 1 (W .u8)):∃ b,sY m=some b∧mr m=some b:=by
 unfold sY Ev mr EL
 simp only [ak,ae]
 cases W.ge (Sl.len m) (W.of .i64 64)<;>cases W.le (Sl.len m) (W.of .i64 16384)<;>cases W.eq (W.rem (Sl.len m) (W.of .i64 64)) (W.of .i64 0)<;>exact ⟨_,rfl,rfl⟩
theorem SV (m:TCoh):∃ b,sE m=some b∧mH m=some b:=by
 have hr:=m.Caches.h.2
 obtain ⟨b,b1,b2⟩:=aaP m.Mem
 have e1:W.lt (Sl.len m.Caches) (W.of .i64 1)=decide (m.Caches.l.length < 1):=by rw [Sl.len_wi];exact br (m:=1) hr (cg (by omega))
 have e2:W.gt (Sl.len m.Caches) (W.of .i64 2)=decide (2 < m.Caches.l.length):=by rw [Sl.len_wi];exact br (n:=2) (cg (by omega)) hr
 have e3:W.ge (Sl.len m.Caches) (W.of .i64 1)=decide (1≤m.Caches.l.length):=bQ (by rw [W.ge_n,Sl.len_n,show (W.of .i64 1:W .i64).n=1 from rfl,decide_eq_true_eq];omega)
 have e4:W.le (Sl.len m.Caches) (W.of .i64 2)=decide (m.Caches.l.length≤2):=bQ (by rw [W.le_n,Sl.len_n,show (W.of .i64 2:W .i64).n=2 from rfl,decide_eq_true_eq];omega)
 have k:tW (m,m.Caches,Sl.len m.Caches,wi 0,())=some (if ((List.range m.Caches.l.length).all fun k=>ep (nth m.Caches.l k))=true then Sum.inr (m,(),()) else Sum.inl (m,false,())):=by
  unfold tW
  refine bS (fun k=>(m,m.Caches,Sl.len m.Caches,wi k,())) _ _ (Sum.inl (m,false,())) (Sum.inr (m,(),())) (fun k hk _=>?_) (fun _=>?_) (bt _)
  ·simp only [qF,ak,an,ae,aK _ hk,Sl.get_wi _ hk,aj,if_true,adN,aN _ hk]
   cases ep (nth m.Caches.l k)<;>rfl
  ·simp only [qF,ak,ae,aO,Bool.false_eq_true,if_false]
 unfold sE DS mH Fj
 simp only [an,ak,ae,aM,b1,b2,aj,e1,e2,e3,e4,aY,k,decide_eq_true_eq]
 cases b with
 | false=>exact ⟨false,rfl,rfl⟩
 | true=>
  by_cases h1:m.Caches.l.length < 1
  ·exact ⟨false,by simp only [Bool.not_true,Bool.false_eq_true,if_false,if_pos h1],by simp only [if_true,if_neg (show ¬ 1≤m.Caches.l.length by omega)]⟩
  by_cases h2:2 < m.Caches.l.length
  ·exact ⟨false,by simp only [Bool.not_true,Bool.false_eq_true,if_false,if_neg h1,if_pos h2],by simp only [if_true,if_pos (show 1≤m.Caches.l.length by omega),if_neg (show ¬ m.Caches.l.length≤2 by omega)]⟩
  simp only [Bool.not_true,Bool.false_eq_true,if_false,if_neg h1,if_neg h2,if_true,if_pos (show 1≤m.Caches.l.length by omega),if_pos (show m.Caches.l.length≤2 by omega),agt m (by omega),aj]
  cases ha:(List.range m.Caches.l.length).all fun k=>ep (nth m.Caches.l k) with
  | false=>
   refine ⟨false,rfl,congrArg some (Bool.eq_false_iff.2 fun hh=>?_)⟩
   rw [cJ] at hh
   rw [cJ.2 fun k hk=>(Bool.and_eq_true _ _ ▸ hh k hk).1] at ha
   cases ha
  | true=>
   have hpos:∀ j,j < m.Caches.l.length→0 < (nth m.Caches.l j).Sets.l.length:=fun j hj=>adO (cJ.1 ha j hj)
   simp only [if_true,Sum.elim_inr,Wy m (by omega) hpos,aj]
   refine ⟨n8 m,rfl,congrArg some (bQ ?_)⟩
   unfold n8
   rw [cJ,cJ]
   exact ⟨fun hh k hk=>(Bool.and_eq_true _ _ ▸ hh k hk).2,fun hh k hk=>by rw [cJ.1 ha k hk,hh k hk];rfl⟩
end Go.Proofs.YtnpgljilkkipkaaGreat
