/- YtnpgljilkkipkaaGreatAud8: what memory looks like through the caches. No statement of the seat is proved here. -/
import Derived.Test.YtnpgljilkkipkaaGreatAud7
set_option linter.unusedSimpArgs false
set_option linter.unusedVariables false
set_option maxRecDepth 100000
namespace Go.Proofs.YtnpgljilkkipkaaGreat
open Go Go.A2
def fc (a:Sl 1 (W .u8)) (x:TWay):Sl 1 (W .u8):=if W.eq x.State (W.of .i64 3)=true∧eh a x.Tag=true then Sl.copy a (x.Tag.v*16) (Sl.cut (Arr.sl 1 x.Data rfl) 0 16) else a
theorem ahp (x:TWay) (a:Sl 1 (W .u8)):sH x a=some (true,fc a x):=by
 have ha:=a.h.2
 have ht:=x.Tag.v_lt
 unfold sH DV fc
 simp only [ak,an,ae,PW,aj,yI]
 cases W.eq x.State (W.of .i64 3) with
 | false=>rfl
 | true=>
  cases hl:eh a x.Tag with
  | false=>rfl
  | true=>
   have h':x.Tag.v*16+16≤a.l.length:=of_decide_eq_true hl
   have hv:vw? a.l.length (some (x.Tag.v*16)) none=some ():=by
    unfold vw?
    rw [if_pos (by simp only [Option.getD_some,Option.getD_none];omega)]
   simp only [if_true,Hd (show x.Tag.v*16≤aw by omega),aj,hv,and_self]
def vW (a:Sl 1 (W .u8)) (l:List TWay) (n:Nat):Sl 1 (W .u8):=(List.range n).foldl (fun a w=>fc a (nth l w)) a
def vS (a:Sl 1 (W .u8)) (l:List (Sl 40 TWay)) (n:Nat):Sl 1 (W .u8):=(List.range n).foldl (fun a s=>vW a (nth l s).l (nth l s).l.length) a
def vC (a:Sl 1 (W .u8)) (l:List TCache) (n:Nat):Sl 1 (W .u8):=(List.range n).foldl (fun a s=>vS a (nth l s).Sets.l (nth l s).Sets.l.length) a
theorem RA (a:Sl 1 (W .u8)) (l:List TWay) (n:Nat):vW a l (n+1)=fc (vW a l n) (nth l n):=by unfold vW;rw [List.range_succ,List.foldl_append];rfl
theorem Rz (a:Sl 1 (W .u8)) (l:List (Sl 40 TWay)) (n:Nat):vS a l (n+1)=vW (vS a l n) (nth l n).l (nth l n).l.length:=by unfold vS;rw [List.range_succ,List.foldl_append];rfl
theorem Ry (a:Sl 1 (W .u8)) (l:List TCache) (n:Nat):vC a l (n+1)=vS (vC a l n) (nth l n).Sets.l (nth l n).Sets.l.length:=by unfold vC;rw [List.range_succ,List.foldl_append];rfl
theorem lp {S β:Type} {f:S→Option (Rnd S β)} (st:Nat→S) (n:Nat) (b:β) (step:∀ i,i < n→f (st i)=some (.next (st (i+1)))) (last:f (st n)=some (.out b)) {N:Nat} (hN:n < N):az f N (st 0)=some b:=
 G0 st b step last (Nat.zero_le n) (by omega)
theorem v27 (a:Sl 1 (W .u8)) (p:Sl 24 TCache) (b c:W .i64) (d:Sl 24 (Sl 40 TWay)) (e f:W .i64) (l:Sl 40 TWay):ud (a,p,b,c,d,e,f,l,Sl.len l,wi 0,())=some (Sum.inr (vW a l.l l.l.length,(),p,b,c,d,e,f,())):=by
 unfold ud
 refine lp (fun w=>(vW a l.l w,p,b,c,d,e,f,l,Sl.len l,wi w,())) l.l.length (Sum.inr (vW a l.l l.l.length,(),p,b,c,d,e,f,())) (fun w hw=>?_) ?_ (bt _)
 ·simp only [qK,ak,an,ae,aK _ hw,Sl.get_wi _ hw,aj,if_true,ahp,Bool.not_true,Bool.false_eq_true,if_false,aN _ hw,RA]
 ·simp only [qK,ak,ae,aO,Bool.false_eq_true,if_false]
theorem v16 (a:Sl 1 (W .u8)) (p:Sl 24 TCache) (b c:W .i64) (l:Sl 24 (Sl 40 TWay)):uc (a,p,b,c,l,Sl.len l,wi 0,())=some (Sum.inr (vS a l.l l.l.length,(),p,b,c,())):=by
 unfold uc
 refine lp (fun w=>(vS a l.l w,p,b,c,l,Sl.len l,wi w,())) l.l.length (Sum.inr (vS a l.l l.l.length,(),p,b,c,())) (fun w hw=>?_) ?_ (bt _)
 ·simp only [qJ,ak,an,ae,aM,aK _ hw,Sl.get_wi _ hw,aj,if_true,aY,v27,Sum.elim_inr,aN _ hw,Rz]
 ·simp only [qJ,ak,ae,aO,Bool.false_eq_true,if_false]
theorem ahr (m:TCoh):sG m=some (vC m.Mem m.Caches.l m.Caches.l.length):=by
 have k:ue (m.Mem,m.Caches,Sl.len m.Caches,wi 0,())=some (Sum.inr (vC m.Mem m.Caches.l m.Caches.l.length,(),())):=by
  unfold ue
  refine lp (fun w=>(vC m.Mem m.Caches.l w,m.Caches,Sl.len m.Caches,wi w,())) m.Caches.l.length (Sum.inr (vC m.Mem m.Caches.l m.Caches.l.length,(),())) (fun w hw=>?_) ?_ (bt _)
  ·simp only [qL,ak,an,ae,aM,aK _ hw,Sl.get_wi _ hw,aj,if_true,aY,v16,Sum.elim_inr,aN _ hw,Ry]
  ·simp only [qL,ak,ae,aO,Bool.false_eq_true,if_false]
 unfold sG DU JK AG DX
 simp only [an,ae,aM,aj,aY,k,Sum.elim_inr]
theorem P3 {b b':Nat} {α β:Type} (x:α) (s:Sl b' β) (h:s.l.length*b≤aw):∃ r:Sl b α,Sl.make? b x (Sl.len s) (Sl.len s)=some r∧r.l=List.replicate s.l.length x:=by
 have hn:(Sl.len s).n=s.l.length:=cY s
 have hn2:(Sl.len s).n.toNat=s.l.length:=by rw [hn];rfl
 have hr:=s.h.2
 unfold Sl.make? Sl.mk?
 rw [if_pos ⟨by rw [hn];omega,Int.le_refl _,by rw [hn];exact_mod_cast h,by rw [hn];exact_mod_cast hr⟩,dif_pos (by rw [List.length_replicate,hn2];exact ⟨h,hr⟩)]
 exact ⟨_,rfl,congrArg (fun n=>List.replicate n x) hn2⟩
theorem O0 {α:Type} {l m:List α} (h:l.length=m.length):cpL l 0 m=m:=by
 unfold cpL
 rw [List.take_zero,List.nil_append,Nat.sub_zero,List.take_of_length_le (by omega),List.drop_of_length_le (by omega),List.append_nil]
theorem OS (m:TCoh):mG m=some m:=by
 obtain ⟨r,r1,r2⟩:=P3 (b:=1) (W.of .u8 0) m.Mem m.Mem.h.1
 obtain ⟨s,s1,s2⟩:=P3 (b:=24) (TCache.mk (Sl.nil:Sl 24 (Sl 40 (TWay)))) m.Caches m.Caches.h.1
 have e1:Sl.copy r 0 m.Mem=m.Mem:=Sl.ext (O0 (by rw [r2,List.length_replicate]))
 have e2:Sl.copy s 0 m.Caches=m.Caches:=Sl.ext (O0 (by rw [s2,List.length_replicate]))
 unfold mG Fg
 simp only [an,ae,r1,s1,aj,e1,e2]
theorem adm (a:Sl 1 (W .u8)) (x:TWay) (h:W.eq x.State (W.of .i64 3)=true):∃ r,tx (TCoh.mk a (Sl.nil:Sl 24 TCache)) x.Tag x.Data=some r∧r.Mem=fc a x:=by
 unfold tx Fh
 simp only [an,ak,ae,PV,OS,aj]
 cases hl:eh a x.Tag with
 | false=>exact ⟨_,rfl,by unfold fc;rw [if_neg (by rw [hl];simp)]⟩
 | true=>
  have h':x.Tag.v*16+16≤a.l.length:=of_decide_eq_true hl
  have hr:=a.h.2
  have hd:=x.Data.h
  obtain ⟨z,hz⟩:∃ z:TCoh,z=TCoh.mk (Sl.nil:Sl 1 (W .u8)) (Sl.nil:Sl 24 (TCache)):=⟨_,rfl⟩
  have k:∃ o,nk (x.Tag,x.Data,z,TCoh.mk a (Sl.nil:Sl 24 TCache),wi 0,())=some o∧o.2.1.Mem=fc a x:=by
   unfold nk
   refine bK (fun i st=>∃ out:TCoh,st=(x.Tag,x.Data,z,out,wi i,())∧out.Mem.l.length=a.l.length∧∀ j,out.Mem.l[j]?=if x.Tag.v*16≤j∧j < x.Tag.v*16+i then x.Data.l[j - x.Tag.v*16]? else a.l[j]?) 16 (fun o:TCoh×TCoh×Unit=>o.2.1.Mem=fc a x) ?_ ?_ ⟨_,rfl,rfl,fun j=>by rw [if_neg (by omega)]⟩ (show 16 < 281474976710656 by omega)
   ·rintro i st hi ⟨out,rfl,hlen,hj⟩
    simp only [rN,ak,an,ae,yJ (show i≤1000 by omega),decide_eq_true hi,if_true,yI,zX (show x.Tag.v*16+i≤aw by omega),aj,lk hi (cg (by omega)),lk (show x.Tag.v*16+i < out.Mem.l.length by omega) (by omega),dc (show i+1≤aw from cg (by omega))]
    refine ⟨_,rfl,_,rfl,?_,fun j=>?_⟩
    ·show (out.Mem.l.set _ _).length=_
     rw [List.length_set,hlen]
    ·show (out.Mem.l.set (x.Tag.v*16+i) (Arr.get x.Data i))[j]?=_
     rw [List.getElem?_set]
     by_cases e:x.Tag.v*16+i=j
     ·subst e
      rw [if_pos rfl,if_pos (by omega),if_pos (by omega),show x.Tag.v*16+i - x.Tag.v*16=i by omega]
      exact (jD (by omega)).symm
     ·rw [if_neg e,hj j]
      by_cases e2:x.Tag.v*16≤j∧j < x.Tag.v*16+i
      ·rw [if_pos e2,if_pos (by omega)]
      ·rw [if_neg e2,if_neg (by omega)]
   ·rintro st ⟨out,rfl,hlen,hj⟩
    simp only [rN,ak,ae,yJ (show 16≤1000 by omega),show decide (16 < 16)=false from rfl,Bool.false_eq_true,if_false]
    refine ⟨_,rfl,Sl.ext (List.ext_getElem? fun j=>?_)⟩
    unfold fc
    rw [if_pos ⟨h,hl⟩]
    show out.Mem.l[j]?=(cpL a.l (x.Tag.v*16) ((x.Data.l.take 16).drop 0))[j]?
    rw [hj,Gx (by omega),List.drop_zero,List.take_of_length_le (by omega),show x.Tag.v*16+min (a.l.length - x.Tag.v*16) x.Data.l.length=x.Tag.v*16+16 by omega]
  obtain ⟨o,k1,k2⟩:=k
  rw [hz] at k1
  have k1':nk (x.Tag,x.Data,TCoh.mk (Sl.nil:Sl 1 (W .u8)) (Sl.nil:Sl 24 (TCache)),TCoh.mk a (Sl.nil:Sl 24 TCache),W.of .i64 0,())=some o:=k1
  simp only [Bool.not_true,Bool.false_eq_true,if_false,k1',aj]
  exact ⟨_,rfl,k2⟩
theorem d25 (m:TCoh) (a:Sl 1 (W .u8)) {k s:Nat} (hk:k < m.Caches.l.length) (hs:s < (nth m.Caches.l k).Sets.l.length):uK (m,a,wi k,wi s,wi 0,())=some (m,vW a (nth (nth m.Caches.l k).Sets.l s).l (nth (nth m.Caches.l k).Sets.l s).l.length,wi k,wi s,()):=by
 unfold uK
 refine lp (fun w=>(m,vW a (nth (nth m.Caches.l k).Sets.l s).l w,wi k,wi s,wi w,())) (nth (nth m.Caches.l k).Sets.l s).l.length _ (fun w hw=>?_) ?_ (bt _)
 ·simp only [rK,ak,an,ae,Sl.get_wi _ hk,Sl.get_wi _ hs,aK _ hw,Sl.get_wi _ hw,aj,if_true,aN _ hw,RA]
  generalize nth (nth (nth m.Caches.l k).Sets.l s).l w=x
  generalize vW a (nth (nth m.Caches.l k).Sets.l s).l w=a'
  by_cases h:W.eq x.State (W.of .i64 3)=true
  ·obtain ⟨r,r1,r2⟩:=adm a' x h
   simp only [if_pos h,r1,aj,r2]
  ·rw [if_neg h]
   have:fc a' x=a':=by unfold fc;rw [if_neg fun hh=>h hh.1]
   rw [this]
 ·simp only [rK,ak,an,ae,Sl.get_wi _ hk,Sl.get_wi _ hs,aj,aO,Bool.false_eq_true,if_false]
theorem d16 (m:TCoh) (a:Sl 1 (W .u8)) {k:Nat} (hk:k < m.Caches.l.length):uJ (m,a,wi k,wi 0,())=some (m,vS a (nth m.Caches.l k).Sets.l (nth m.Caches.l k).Sets.l.length,wi k,()):=by
 unfold uJ
 refine lp (fun s=>(m,vS a (nth m.Caches.l k).Sets.l s,wi k,wi s,())) (nth m.Caches.l k).Sets.l.length _ (fun s hs=>?_) ?_ (bt _)
 ·simp only [rJ,ak,an,ae,Sl.get_wi _ hk,aK _ hs,aj,if_true,aY,d25 m _ hk hs,aN _ hs,Rz]
 ·simp only [rJ,ak,an,ae,Sl.get_wi _ hk,aj,aO,Bool.false_eq_true,if_false]
theorem ahq (m:TCoh):tA m=some (vC m.Mem m.Caches.l m.Caches.l.length):=by
 have k:uL (m,m.Mem,wi 0,())=some (vC m.Mem m.Caches.l m.Caches.l.length,()):=by
  unfold uL
  refine lp (fun k=>(m,vC m.Mem m.Caches.l k,wi k,())) m.Caches.l.length _ (fun k hk=>?_) ?_ (bt _)
  ·simp only [rL,ak,an,ae,aK _ hk,aj,if_true,aY,d16 m _ hk,aN _ hk,Ry]
  ·simp only [rL,ak,ae,aO,Bool.false_eq_true,if_false]
 unfold tA Fk AZ Fe
 simp only [an,ae,OS,aj,aY,k]
end Go.Proofs.YtnpgljilkkipkaaGreat
