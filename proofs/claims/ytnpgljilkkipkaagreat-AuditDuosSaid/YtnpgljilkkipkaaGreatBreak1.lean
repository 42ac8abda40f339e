/- YtnpgljilkkipkaaGreatBreak1: rules 1, 4 and 5 of a core. No statement of the seat is proved here. -/
import Derived.Test.YtnpgljilkkipkaaGreatConf
import Derived.Test.YtnpgljilkkipkaaGreatHas
import Derived.Test.YtnpgljilkkipkaaGreatA2F
set_option linter.unusedSimpArgs false
set_option linter.unusedVariables false
set_option maxRecDepth 100000
namespace Go.Proofs.YtnpgljilkkipkaaGreat
open Go Go.A2
theorem adQ (c:TCore):∃ b,sS c=some b∧tC c=some b∧(b=true→eK c.Conf=true):=by
 have hd3:W.ne (W.of .i64 3) (W.of .i64 0)=true:=rfl
 have hd0:W.ne (W.of .i64 0) (W.of .i64 0)=false:=rfl
 have he3:W.eq (W.of .i64 3) (W.of .i64 0)=false:=rfl
 have he0:W.eq (W.of .i64 0) (W.of .i64 0)=true:=rfl
 unfold sS Ef tC Fu
 simp only [an,ak,ae,S7,adt,aj,W.le_gt]
 cases eK c.Conf with
 | false=>exact ⟨false,by simp only [Bool.false_eq_true,if_false,hd3,if_true],by simp only [Bool.false_eq_true,if_false,he3],fun h=>by cases h⟩
 | true=>
  simp only [if_true,hd0,he0,Bool.false_eq_true,if_false]
  generalize W.gt (Sl.len c.Queue) c.Conf.Queue=g1
  generalize W.gt (Sl.len c.Rob) c.Conf.Rob=g2
  generalize W.gt (Sl.len c.Iq) c.Conf.Iq=g3
  generalize W.gt (Sl.len c.Lq) c.Conf.Lq=g4
  generalize W.gt (Sl.len c.Sq) c.Conf.Sq=g5
  generalize W.gt (Sl.len c.Sb) c.Conf.Sb=g6
  cases g1<;>first | exact ⟨_,rfl,rfl,fun _=>by trivial⟩ | skip
  cases g2<;>first | exact ⟨_,rfl,rfl,fun _=>by trivial⟩ | skip
  cases g3<;>first | exact ⟨_,rfl,rfl,fun _=>by trivial⟩ | skip
  cases g4<;>first | exact ⟨_,rfl,rfl,fun _=>by trivial⟩ | skip
  cases g5<;>first | exact ⟨_,rfl,rfl,fun _=>by trivial⟩ | skip
  cases g6<;>first | exact ⟨_,rfl,rfl,fun _=>by trivial⟩ | skip
  cases W.eq (Sl.len c.Phys.Val) c.Conf.Phys<;>first | exact ⟨_,rfl,rfl,fun _=>by trivial⟩ | skip
  cases W.eq (Sl.len c.Phys.Ready) c.Conf.Phys<;>first | exact ⟨_,rfl,rfl,fun _=>by trivial⟩ | skip
  cases W.eq (Sl.len c.Tlb) c.Conf.Tlb<;>exact ⟨_,rfl,rfl,fun _=>by trivial⟩
noncomputable def iE (c:TCore) (r:TRen):Bool:=c.Rob.l.any fun e=>Tab.eq ab (.named .TRen) e.Ren r&&!e.Done
theorem Tp (c:TCore) (r:TRen) (h:c.Rob.l.length < aa):sT c r=some (iE c r):=by
 have hp:∀ e∈c.Rob.l,mf e r=some (Tab.eq ab (.named .TRen) e.Ren r&&!e.Done):=fun e _=>by
  unfold mf Ek
  rw [ak]
  cases Tab.eq ab (.named .TRen) e.Ren r<;>rfl
 unfold sT Ej
 simp only [an,ae,ZY c.Rob r _ hp h,aj]
 rfl
theorem Qz (c:TCore) (r:TRen) (h:c.Rob.l.length < aa):mL c r=some (iE c r):=by
 have key:u4 (c,r,wi 0,())=some (if (List.range c.Rob.l.length).all (fun i=>!(Tab.eq ab (.named .TRen) (nth c.Rob.l i).Ren r&&!(nth c.Rob.l i).Done))=true then .inr ((),()) else .inl (true,())):=by
  unfold u4
  refine bS (fun i=>(c,r,wi i,())) c.Rob.l.length _ _ _ (fun i hi _=>?_) (fun _=>?_) h
  ·simp only [sa,ak,an,ae,aK c.Rob hi,if_true,Sl.get_wi c.Rob hi,aj,aN c.Rob hi]
   cases Tab.eq ab (.named .TRen) (nth c.Rob.l i).Ren r<;>cases (nth c.Rob.l i).Done<;>rfl
  ·simp only [sa,ak,ae,aO c.Rob]
   rfl
 have hw:iE c r=!((List.range c.Rob.l.length).all (fun i=>!(Tab.eq ab (.named .TRen) (nth c.Rob.l i).Ren r&&!(nth c.Rob.l i).Done))):=by
  unfold iE
  refine bQ ?_
  rw [List.any_eq_true,Bool.not_eq_true',List.all_eq_false]
  constructor
  ·rintro ⟨x,hx,h⟩
   obtain ⟨i,hi,rfl⟩:=yP hx
   exact ⟨i,List.mem_range.2 hi,by simp [h]⟩
  ·rintro ⟨i,hi,h⟩
   exact ⟨_,lv (List.mem_range.1 hi),by simpa using h⟩
 unfold mL Fx
 rw [hw]
 simp only [an,aY,key,aj,aM]
 cases (List.range c.Rob.l.length).all (fun i=>!(Tab.eq ab (.named .TRen) (nth c.Rob.l i).Ren r&&!(nth c.Rob.l i).Done))<;>rfl
end Go.Proofs.YtnpgljilkkipkaaGreat
