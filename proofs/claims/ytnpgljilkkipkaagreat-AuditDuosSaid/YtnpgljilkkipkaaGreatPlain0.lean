/- YtnpgljilkkipkaaGreatPureAuditDuos: every pair's audit. No statement of the seat is proved here. -/
import Derived.Test.YtnpgljilkkipkaaGreatAud9
import Derived.Test.YtnpgljilkkipkaaGreatAwake
set_option linter.unusedSimpArgs false
set_option linter.unusedVariables false
set_option maxRecDepth 100000
namespace Go.Proofs.YtnpgljilkkipkaaGreat
open Go Go.A2
theorem P0 (d:TDuo) (l:Sl 8 (W .i64)) (i:W .i64) (a:Sl 1040 TCore) (b e:W .i64) (r:Sl 8 (W .i64)) (hl:l.l.length≤50) (hr:r.l.length≤14):∃ o,mQ (d,l,i,a,b,e,r,Sl.len r,W.of .i64 0,())=some (d,o,a,b,e,())∧o.l=l.l++(List.range r.l.length).map (fun k=>W.add (nth r.l k) (W.mul i (W.of .i64 100))):=by
 have key:∃ x,mQ (d,l,i,a,b,e,r,Sl.len r,wi 0,())=some x∧∃ o:Sl 8 (W .i64),x=(d,o,a,b,e,())∧o.l=l.l++(List.range r.l.length).map (fun k=>W.add (nth r.l k) (W.mul i (W.of .i64 100))):=by
  unfold mQ
  refine bK (fun j st=>∃ o:Sl 8 (W .i64),st=(d,o,i,a,b,e,r,Sl.len r,wi j,())∧o.l=l.l++(List.range j).map (fun k=>W.add (nth r.l k) (W.mul i (W.of .i64 100)))) r.l.length _ ?_ ?_ ⟨l,rfl,by simp⟩ (bt _)
  ·rintro j st hj ⟨o,rfl,ho⟩
   obtain ⟨o',o1,o2⟩:=fW o (W.add (nth r.l j) (W.mul i (W.of .i64 100))) (by rw [ho,List.length_append,List.length_map,List.length_range];omega)
   simp only [qC,ak,an,ae,aK _ hj,if_true,lk hj r.h.2,lh hj,aj,o1,aN _ hj]
   exact ⟨_,rfl,o',rfl,by rw [o2,ho,List.range_succ,List.map_append,List.append_assoc];rfl⟩
  ·rintro st ⟨o,rfl,ho⟩
   simp only [qC,ak,ae,aO,Bool.false_eq_true,if_false]
   exact ⟨_,rfl,o,rfl,ho⟩
 obtain ⟨x,k1,o,rfl,k2⟩:=key
 exact ⟨o,k1,k2⟩
theorem aaG (l r:Sl 8 (W .i64)) (hl:l.l.length≤14) (hr:r.l.length≤14):∃ o,nC (l,r,W.of .i64 0,())=some (o,())∧o.l=l.l++(List.range r.l.length).map (fun k=>W.add (W.of .i64 100) (nth r.l k)):=by
 have key:∃ x,nC (l,r,wi 0,())=some x∧∃ o:Sl 8 (W .i64),x=(o,())∧o.l=l.l++(List.range r.l.length).map (fun k=>W.add (W.of .i64 100) (nth r.l k)):=by
  unfold nC
  refine bK (fun j st=>∃ o:Sl 8 (W .i64),st=(o,r,wi j,())∧o.l=l.l++(List.range j).map (fun k=>W.add (W.of .i64 100) (nth r.l k))) r.l.length _ ?_ ?_ ⟨l,rfl,by simp⟩ (bt _)
  ·rintro j st hj ⟨o,rfl,ho⟩
   obtain ⟨o',o1,o2⟩:=fW o (W.add (W.of .i64 100) (nth r.l j)) (by rw [ho,List.length_append,List.length_map,List.length_range];omega)
   simp only [sb,ak,an,ae,aK _ hj,if_true,lk hj r.h.2,lh hj,aj,o1,aN _ hj]
   exact ⟨_,rfl,o',rfl,by rw [o2,ho,List.range_succ,List.map_append,List.append_assoc];rfl⟩
  ·rintro st ⟨o,rfl,ho⟩
   simp only [sb,ak,ae,aO,Bool.false_eq_true,if_false]
   exact ⟨_,rfl,o,rfl,ho⟩
 obtain ⟨x,k1,o,rfl,k2⟩:=key
 exact ⟨o,k1,k2⟩
theorem RP (x:W .i64):W.add x (W.mul (wi 0) (W.of .i64 100))=x:=by
 refine W.ext ?_
 have hx:=x.r_i64
 rw [W.add_n,show (W.mul (wi 0) (W.of .i64 100)).n=0 from rfl,de]
 omega
theorem RQ (x:W .i64):W.add x (W.mul (wi 1) (W.of .i64 100))=W.add (W.of .i64 100) x:=by
 refine W.ext ?_
 rw [W.add_n,W.add_n,show (W.mul (wi 1) (W.of .i64 100)).n=100 from rfl,show (W.of .i64 100:W .i64).n=100 from rfl,Int.add_comm]
theorem aaL {l:List (W .i64)}:(List.range l.length).map (fun k=>nth l k)=l:=by
 refine List.ext_getElem (by simp) fun i h1 h2=>?_
 rw [List.getElem_map,List.getElem_range,cC h2]
theorem TA (d:TDuo) (hd:∀ i,i < d.Cores.l.length→LightC (nth d.Cores.l i)):∃ r,lW d=some r∧tD d=some r:=by
 have e1:W.ne (Sl.len d.Cores) (W.of .i64 2)=!decide (d.Cores.l.length=2):=by rw [W.ne_eq,Sl.len_wi];exact congrArg _ (di (m:=2) d.Cores.h.2 (cg (by omega)))
 unfold lW DJ tD FA
 simp only [ak,an,ae,e1]
 by_cases h2:d.Cores.l.length=2
 ·cases W.ne (Sl.len d.Mem.Caches) (W.of .i64 2) with
  | true=>simp only [decide_eq_true h2,Bool.not_true,Bool.false_eq_true,if_false,if_true];exact ⟨_,rfl,rfl⟩
  | false=>
   obtain ⟨r0,a0,b0,c0⟩:=OY (nth d.Cores.l 0) d.Mem (hd 0 (by omega))
   obtain ⟨r1,a1,b1,c1⟩:=OY (nth d.Cores.l 1) d.Mem (hd 1 (by omega))
   obtain ⟨o,o1,o2⟩:=aaG r0 r1 c0 c1
   have g0:Sl.get? d.Cores (W.of .i64 0)=some (nth d.Cores.l 0):=Sl.get_wi d.Cores (i:=0) (by omega)
   have g1:Sl.get? d.Cores (W.of .i64 1)=some (nth d.Cores.l 1):=Sl.get_wi d.Cores (i:=1) (by omega)
   have key:∃ x,mP (d,Sl.nil,d.Cores,Sl.len d.Cores,wi 0,())=some x∧x.1=o:=by
    unfold mP
    refine bK (fun i st=>∃ l:Sl 8 (W .i64),st=(d,l,d.Cores,Sl.len d.Cores,wi i,())∧l.l=(if 1≤i then r0.l else [])++(if 2≤i then (List.range r1.l.length).map (fun k=>W.add (W.of .i64 100) (nth r1.l k)) else [])) 2 (fun x:Sl 8 (W .i64)×Unit=>x.1=o) ?_ ?_ ⟨Sl.nil,rfl,rfl⟩ (show 2 < 281474976710656 by omega)
    ·rintro i st hi ⟨l,rfl,hl⟩
     have hi':i < d.Cores.l.length:=by omega
     have hi2:i=0∨i=1:=by omega
     rcases hi2 with rfl | rfl
     ·have hll:l.l=[]:=hl
      obtain ⟨x,x1,x2⟩:=P0 d l (wi 0) d.Cores (Sl.len d.Cores) (wi 0) r0 (by rw [hll];simp) c0
      simp only [lO,ak,an,ae,aK _ hi',Sl.get_wi _ hi',if_true,aj,a0,x1,aN _ hi']
      refine ⟨_,rfl,x,rfl,?_⟩
      rw [x2,hll]
      simp only [RP,aaL]
      simp
     ·have hll:l.l=r0.l:=by rw [hl];simp
      obtain ⟨x,x1,x2⟩:=P0 d l (wi 1) d.Cores (Sl.len d.Cores) (wi 1) r1 (by rw [hll];omega) c1
      simp only [lO,ak,an,ae,aK _ hi',Sl.get_wi _ hi',if_true,aj,a1,x1,aN _ hi']
      refine ⟨_,rfl,x,rfl,?_⟩
      rw [x2,hll]
      simp only [RQ]
      simp
    ·rintro st ⟨l,rfl,hl⟩
     have hlt:W.lt (wi 2) (Sl.len d.Cores)=false:=by rw [←h2];exact aO d.Cores
     simp only [lO,ak,ae,hlt,Bool.false_eq_true,if_false]
     exact ⟨_,rfl,Sl.ext (by rw [hl,o2];simp)⟩
   obtain ⟨x,k1,k2⟩:=key
   have k1':mP (d,(Sl.nil:Sl 8 (W .i64)),d.Cores,Sl.len d.Cores,W.of .i64 0,())=some x:=k1
   simp only [decide_eq_true h2,Bool.not_true,Bool.false_eq_true,if_false,k1',g0,g1,b0,b1,o1,aj]
   exact ⟨o,congrArg some k2,rfl⟩
 ·simp only [decide_eq_false h2,Bool.not_false,if_true]
  exact ⟨_,rfl,rfl⟩
theorem auditDuos (d:TDuo):AK d=some true:=by
 unfold AK Er
 simp only [ak,an,ae,aM,Ow,aj]
 split
 ·rfl
 ·have key:∃ o,mT (d,wi 0,())=some o∧(((∀ i,i < d.Cores.l.length→gB (nth d.Cores.l i) d.Mem=some true)∧o=Sum.inr (d,(),()))∨((¬ ∀ i,i < d.Cores.l.length→gB (nth d.Cores.l i) d.Mem=some true)∧o=Sum.inl (d,true,()))):=by
   unfold mT
   refine cR (fun i st=>st=(d,wi i,())) d.Cores.l.length (fun i=>gB (nth d.Cores.l i) d.Mem=some true) (·=Sum.inl (d,true,())) (·=Sum.inr (d,(),())) ?_ ?_ rfl (bt _)
   ·rintro i st hi rfl _
    obtain ⟨b,b1,b2⟩:=PX (nth d.Cores.l i) d.Mem
    simp only [qV,ak,an,ae,aK _ hi,Sl.get_wi _ hi,if_true,aj,b1,Ow,aN _ hi]
    cases b
    ·exact Or.inr ⟨fun h=>(by cases h),_,rfl,rfl⟩
    ·exact Or.inl ⟨rfl,_,rfl,rfl⟩
   ·rintro st rfl _
    simp only [qV,ak,ae,aO,Bool.false_eq_true,if_false]
    exact ⟨_,rfl,rfl⟩
  obtain ⟨o,k1,k2⟩:=key
  have k1':mT (d,W.of .i64 0,())=some o:=k1
  simp only [k1',aj]
  rcases k2 with ⟨hall,rfl⟩ | ⟨_,rfl⟩
  ·obtain ⟨r,r1,r2⟩:=TA d fun i hi=>by
    obtain ⟨b,b1,b2⟩:=PX (nth d.Cores.l i) d.Mem
    rw [hall i hi] at b1
    exact b2 (Option.some.inj b1).symm
   simp only [Sum.elim_inr,r1,r2,aj,ago r (bt r),if_true]
  ·rfl
end Go.Proofs.YtnpgljilkkipkaaGreat
