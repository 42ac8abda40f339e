/- YtnpgljilkkipkaaGreatBrk: core.Broken is the document's. No statement of the seat is proved here. -/
import Derived.Test.YtnpgljilkkipkaaGreatBreak7
set_option linter.unusedSimpArgs false
set_option linter.unusedVariables false
set_option maxRecDepth 100000
namespace Go.Proofs.YtnpgljilkkipkaaGreat
open Go Go.A2
structure LightC (c:TCore):Prop where
 Queue:c.Queue.l.length≤20
 Rob:c.Rob.l.length≤70
 Iq:c.Iq.l.length≤40
 Lq:c.Lq.l.length≤20
 Sq:c.Sq.l.length≤20
 Sb:c.Sb.l.length≤10
 Units:c.Units.l.length≤80
theorem ir {b:Nat} {α:Type} {s:Sl b α} {n:Nat} (hn:n≤1000):W.le (Sl.len s) (wi n)=decide (s.l.length≤n):=by
 refine bQ ?_
 rw [W.le_n,cY,aQ (sm hn),decide_eq_true_eq];omega
theorem im {c:Prop} [Decidable c] {x y:Option Bool} {P:Prop} (h1:c→∃ b,x=some b∧(b=true→P)) (h2:¬ c→∃ b,y=some b∧(b=true→P)):∃ b,(if c then x else y)=some b∧(b=true→P):=by
 by_cases h:c
 ·rw [if_pos h];exact h1 h
 ·rw [if_neg h];exact h2 h
theorem no {c P:Prop}:c→∃ b,(some false:Option Bool)=some b∧(b=true→P):=fun _=>⟨false,rfl,fun h=>by cases h⟩
theorem aaf (c:TCore):∃ b,sW c=some b∧(b=true→LightC c):=by
 unfold sW Ep
 simp only [ak,ae]
 have e1:W.le (Sl.len c.Queue) (W.of .i64 20)=decide (c.Queue.l.length≤20):=ir (n:=20) (by omega)
 have e2:W.le (Sl.len c.Rob) (W.of .i64 70)=decide (c.Rob.l.length≤70):=ir (n:=70) (by omega)
 have e3:W.le (Sl.len c.Iq) (W.of .i64 40)=decide (c.Iq.l.length≤40):=ir (n:=40) (by omega)
 have e4:W.le (Sl.len c.Lq) (W.of .i64 20)=decide (c.Lq.l.length≤20):=ir (n:=20) (by omega)
 have e5:W.le (Sl.len c.Sq) (W.of .i64 20)=decide (c.Sq.l.length≤20):=ir (n:=20) (by omega)
 have e6:W.le (Sl.len c.Sb) (W.of .i64 10)=decide (c.Sb.l.length≤10):=ir (n:=10) (by omega)
 have e7:W.le (Sl.len c.Units) (W.of .i64 80)=decide (c.Units.l.length≤80):=ir (n:=80) (by omega)
 simp only [e1,e2,e3,e4,e5,e6,e7,decide_eq_true_eq]
 refine im (fun q1=>im (fun q2=>im (fun q3=>im (fun q4=>im (fun q5=>im (fun q6=>im (fun q7=>?_) no) no) no) no) no) no) no
 repeat refine im (fun _=>?_) no
 exact ⟨_,rfl,fun _=>⟨q1,q2,q3,q4,q5,q6,q7⟩⟩
def fX (b2 b3 b4 b5 b6 b7 b8 b9:Bool):List (W .i64):=(if b2=true then [] else [W.of .i64 2])++(if b3=true then [] else [W.of .i64 3])++(if b4=true then [] else [W.of .i64 4])++(if b5=true then [] else [W.of .i64 5])++(if b6=true then [] else [W.of .i64 6])++(if b7=true then [] else [W.of .i64 7])++(if b8=true then [] else [W.of .i64 8])++(if b9=true then [] else [W.of .i64 9])
theorem OV (b2 b3 b4 b5 b6 b7 b8 b9:Bool):∃ r,ko (Sl.nil,Sl.lit 1 [b2,b3,b4,b5,b6,b7,b8,b9] rfl,W.of .i64 8,W.of .i64 0,())=some r∧r.1.l=fX b2 b3 b4 b5 b6 b7 b8 b9:=by
 have h:(ko (Sl.nil,Sl.lit 1 [b2,b3,b4,b5,b6,b7,b8,b9] rfl,W.of .i64 8,W.of .i64 0,())).map (fun r=>r.1.l)=some (fX b2 b3 b4 b5 b6 b7 b8 b9):=by
  cases b2<;>cases b3<;>cases b4<;>cases b5<;>cases b6<;>cases b7<;>cases b8<;>cases b9<;>kernel_rfl
 cases hL:ko (Sl.nil,Sl.lit 1 [b2,b3,b4,b5,b6,b7,b8,b9] rfl,W.of .i64 8,W.of .i64 0,()) with
 | none=>rw [hL] at h;cases h
 | some r=>rw [hL] at h;exact ⟨r,rfl,Option.some.inj h⟩
theorem Tj (c:TCore) (h:c.Rob.l.length < 1000):∃ a,sR c=some a∧a.l=c.Rob.l.map TRob.Ren:=by
 have key:∃ o,uj (Sl.nil,c.Rob,Sl.len c.Rob,wi 0,())=some o∧o.1.l=c.Rob.l.map TRob.Ren:=by
  unfold uj
  refine bK (fun i s=>∃ a:Sl 216 TRen,s=(a,c.Rob,Sl.len c.Rob,wi i,())∧a.l=(c.Rob.l.take i).map TRob.Ren) c.Rob.l.length _ ?_ ?_ ⟨Sl.nil,rfl,rfl⟩ (by show _ < 281474976710656;omega)
  ·rintro i s hi ⟨a,rfl,ha⟩
   have hlen:a.l.length=i:=by rw [ha,List.length_map,List.length_take];omega
   obtain ⟨r,hr1,hr2⟩:=cy (s:=a) (x:=(nth c.Rob.l i).Ren) (hb:=rfl) (by unfold aw;omega) (by unfold aw;omega)
   simp only [qR,ak,an,ae,aK c.Rob hi,Sl.get_wi c.Rob hi,if_true,aj,hr1,aN c.Rob hi]
   exact ⟨_,rfl,r,rfl,by rw [hr2,ha,dv hi,List.map_append];rfl⟩
  ·rintro s ⟨a,rfl,ha⟩
   simp only [qR,ak,ae,aO c.Rob]
   exact ⟨_,rfl,by rw [←List.take_length (l:=c.Rob.l)];exact ha⟩
 obtain ⟨o,h1,h2⟩:=key
 refine ⟨o.1,?_,h2⟩
 unfold sR Ee
 simp only [an,aY,h1,aj,ae]
theorem adC (c:TCore) (h:c.Rob.l.length < 1000) (out:Sl 8 (W .i64)):∃ a:Sl 216 TRen,nl (c,out,Sl.lit 216 [] rfl,wi 0,())=some (c,out,a,())∧a.l=c.Rob.l.map TRob.Ren:=by
 have key:∃ o,nl (c,out,Sl.lit 216 [] rfl,wi 0,())=some o∧∃ a:Sl 216 TRen,o=(c,out,a,())∧a.l=c.Rob.l.map TRob.Ren:=by
  unfold nl
  refine bK (fun i s=>∃ a:Sl 216 TRen,s=(c,out,a,wi i,())∧a.l=(c.Rob.l.take i).map TRob.Ren) c.Rob.l.length _ ?_ ?_ ⟨_,rfl,rfl⟩ (by show _ < 281474976710656;omega)
  ·rintro i s hi ⟨a,rfl,ha⟩
   have hlen:a.l.length=i:=by rw [ha,List.length_map,List.length_take];omega
   obtain ⟨r,hr1,hr2⟩:=cy (s:=a) (x:=(nth c.Rob.l i).Ren) (hb:=rfl) (by unfold aw;omega) (by unfold aw;omega)
   simp only [rO,Ba,Ab,ak,an,ae,aK c.Rob hi,Sl.get_wi c.Rob hi,if_true,aj,hr1,aN c.Rob hi]
   exact ⟨_,rfl,r,rfl,by rw [hr2,ha,dv hi,List.map_append];rfl⟩
  ·rintro s ⟨a,rfl,ha⟩
   simp only [rO,ak,ae,aO c.Rob]
   exact ⟨_,rfl,a,rfl,by rw [ha,List.take_length]⟩
 obtain ⟨o,h1,a,rfl,ha⟩:=key
 exact ⟨a,h1,ha⟩
theorem OO (out:Sl 8 (W .i64)):uN (out,())=some ((),out,()):=rfl
theorem ON (c:TCore) (out:Sl 8 (W .i64)) {b9:Bool} (h9:eA c=some b9) (hl:out.l.length≤7):∃ z:Sl 8 (W .i64),nw (c,out,())=some ((),z,())∧z.l=out.l++((if b9=true then [] else [W.of .i64 9])):=by
 unfold nw Al
 simp only [an,ak,ae,h9,aj]
 cases b9 with
 | true=>
  simp only [Bool.not_true,Bool.false_eq_true,if_false,if_true,OO,aj]
  exact ⟨out,rfl,by simp⟩
 | false=>
  obtain ⟨r,hr1,hr2⟩:=cy (s:=out) (x:=W.of .i64 9) (hb:=rfl) (by unfold aw;omega) (by unfold aw;omega)
  simp only [Bool.not_false,Bool.false_eq_true,if_false,if_true,hr1,OO,aj]
  exact ⟨r,rfl,by rw [hr2]⟩
theorem OM (c:TCore) (out:Sl 8 (W .i64)) {b8 b9:Bool} (h8:eT c.A=some b8) (h9:eA c=some b9) (hl:out.l.length≤6):∃ z:Sl 8 (W .i64),nv (c,out,())=some ((),z,())∧z.l=out.l++((if b8=true then [] else [W.of .i64 8])++(if b9=true then [] else [W.of .i64 9])):=by
 unfold nv Ak
 simp only [an,ak,ae,h8,aj]
 cases b8 with
 | true=>
  obtain ⟨z,hz1,hz2⟩:=ON c out h9 (by omega)
  simp only [Bool.not_true,Bool.false_eq_true,if_false,if_true,hz1,aj]
  exact ⟨z,rfl,by rw [hz2];simp⟩
 | false=>
  obtain ⟨r,hr1,hr2⟩:=cy (s:=out) (x:=W.of .i64 8) (hb:=rfl) (by unfold aw;omega) (by unfold aw;omega)
  obtain ⟨z,hz1,hz2⟩:=ON c r h9 (by rw [hr2,List.length_append];simp;omega)
  simp only [Bool.not_false,Bool.false_eq_true,if_false,if_true,hr1,hz1,aj]
  exact ⟨z,rfl,by rw [hz2,hr2];simp⟩
theorem OL (c:TCore) (out:Sl 8 (W .i64)) {b7 b8 b9:Bool} (h7:(fk c.Phys c.Names.Done).map (fun r=>Tab.eq ab (.arr 16 (.int .u32)) r c.A.R)=some b7) (h8:eT c.A=some b8) (h9:eA c=some b9) (hl:out.l.length≤5):∃ z:Sl 8 (W .i64),nu (c,out,())=some ((),z,())∧z.l=out.l++((if b7=true then [] else [W.of .i64 7])++(if b8=true then [] else [W.of .i64 8])++(if b9=true then [] else [W.of .i64 9])):=by
 unfold nu Aj
 cases hv:fk c.Phys c.Names.Done with
 | none=>rw [hv] at h7;cases h7
 | some r=>
 rw [hv] at h7
 have h7:Tab.eq ab (.arr 16 (.int .u32)) r c.A.R=b7:=Option.some.inj h7
 simp only [an,ak,ae,aj]
 rw [h7]
 cases b7 with
 | true=>
  obtain ⟨z,hz1,hz2⟩:=OM c out h8 h9 (by omega)
  simp only [Bool.not_true,Bool.false_eq_true,if_false,if_true,hz1,aj]
  exact ⟨z,rfl,by rw [hz2];simp⟩
 | false=>
  obtain ⟨r,hr1,hr2⟩:=cy (s:=out) (x:=W.of .i64 7) (hb:=rfl) (by unfold aw;omega) (by unfold aw;omega)
  obtain ⟨z,hz1,hz2⟩:=OM c r h8 h9 (by rw [hr2,List.length_append];simp;omega)
  simp only [Bool.not_false,Bool.false_eq_true,if_false,if_true,hr1,hz1,aj]
  exact ⟨z,rfl,by rw [hz2,hr2];simp⟩
theorem OK (c:TCore) (out:Sl 8 (W .i64)) {b6 b7 b8 b9:Bool} (h6:fS c=some b6) (h7:(fk c.Phys c.Names.Done).map (fun r=>Tab.eq ab (.arr 16 (.int .u32)) r c.A.R)=some b7) (h8:eT c.A=some b8) (h9:eA c=some b9) (hl:out.l.length≤4):∃ z:Sl 8 (W .i64),nr (c,out,())=some ((),z,())∧z.l=out.l++((if b6=true then [] else [W.of .i64 6])++(if b7=true then [] else [W.of .i64 7])++(if b8=true then [] else [W.of .i64 8])++(if b9=true then [] else [W.of .i64 9])):=by
 unfold nr Ai
 simp only [an,ak,ae,h6,aj]
 cases b6 with
 | true=>
  obtain ⟨z,hz1,hz2⟩:=OL c out h7 h8 h9 (by omega)
  simp only [Bool.not_true,Bool.false_eq_true,if_false,if_true,hz1,aj]
  exact ⟨z,rfl,by rw [hz2];simp⟩
 | false=>
  obtain ⟨r,hr1,hr2⟩:=cy (s:=out) (x:=W.of .i64 6) (hb:=rfl) (by unfold aw;omega) (by unfold aw;omega)
  obtain ⟨z,hz1,hz2⟩:=OL c r h7 h8 h9 (by rw [hr2,List.length_append];simp;omega)
  simp only [Bool.not_false,Bool.false_eq_true,if_false,if_true,hr1,hz1,aj]
  exact ⟨z,rfl,by rw [hz2,hr2];simp⟩
theorem OJ (c:TCore) (out:Sl 8 (W .i64)) {b5 b6 b7 b8 b9:Bool} (h5:gG c=some b5) (h6:fS c=some b6) (h7:(fk c.Phys c.Names.Done).map (fun r=>Tab.eq ab (.arr 16 (.int .u32)) r c.A.R)=some b7) (h8:eT c.A=some b8) (h9:eA c=some b9) (hl:out.l.length≤3):∃ z:Sl 8 (W .i64),nq (c,out,())=some ((),z,())∧z.l=out.l++((if b5=true then [] else [W.of .i64 5])++(if b6=true then [] else [W.of .i64 6])++(if b7=true then [] else [W.of .i64 7])++(if b8=true then [] else [W.of .i64 8])++(if b9=true then [] else [W.of .i64 9])):=by
 unfold nq Ah
 simp only [an,ak,ae,h5,aj]
 cases b5 with
 | true=>
  obtain ⟨z,hz1,hz2⟩:=OK c out h6 h7 h8 h9 (by omega)
  simp only [Bool.not_true,Bool.false_eq_true,if_false,if_true,hz1,aj]
  exact ⟨z,rfl,by rw [hz2];simp⟩
 | false=>
  obtain ⟨r,hr1,hr2⟩:=cy (s:=out) (x:=W.of .i64 5) (hb:=rfl) (by unfold aw;omega) (by unfold aw;omega)
  obtain ⟨z,hz1,hz2⟩:=OK c r h6 h7 h8 h9 (by rw [hr2,List.length_append];simp;omega)
  simp only [Bool.not_false,Bool.false_eq_true,if_false,if_true,hr1,hz1,aj]
  exact ⟨z,rfl,by rw [hz2,hr2];simp⟩
theorem OI (c:TCore) (out:Sl 8 (W .i64)) {b4 b5 b6 b7 b8 b9:Bool} (h4:iM c=some b4) (h5:gG c=some b5) (h6:fS c=some b6) (h7:(fk c.Phys c.Names.Done).map (fun r=>Tab.eq ab (.arr 16 (.int .u32)) r c.A.R)=some b7) (h8:eT c.A=some b8) (h9:eA c=some b9) (hl:out.l.length≤2):∃ z:Sl 8 (W .i64),nm (c,out,())=some ((),z,())∧z.l=out.l++((if b4=true then [] else [W.of .i64 4])++(if b5=true then [] else [W.of .i64 5])++(if b6=true then [] else [W.of .i64 6])++(if b7=true then [] else [W.of .i64 7])++(if b8=true then [] else [W.of .i64 8])++(if b9=true then [] else [W.of .i64 9])):=by
 unfold nm Ag
 simp only [an,ak,ae,h4,aj]
 cases b4 with
 | true=>
  obtain ⟨z,hz1,hz2⟩:=OJ c out h5 h6 h7 h8 h9 (by omega)
  simp only [Bool.not_true,Bool.false_eq_true,if_false,if_true,hz1,aj]
  exact ⟨z,rfl,by rw [hz2];simp⟩
 | false=>
  obtain ⟨r,hr1,hr2⟩:=cy (s:=out) (x:=W.of .i64 4) (hb:=rfl) (by unfold aw;omega) (by unfold aw;omega)
  obtain ⟨z,hz1,hz2⟩:=OJ c r h5 h6 h7 h8 h9 (by rw [hr2,List.length_append];simp;omega)
  simp only [Bool.not_false,Bool.false_eq_true,if_false,if_true,hr1,hz1,aj]
  exact ⟨z,rfl,by rw [hz2,hr2];simp⟩
theorem OH (c:TCore) (out:Sl 8 (W .i64)) (rens:Sl 216 TRen) {b3 b4 b5 b6 b7 b8 b9:Bool} (h3:ke c.Names c.Conf.Phys rens=some b3) (h4:iM c=some b4) (h5:gG c=some b5) (h6:fS c=some b6) (h7:(fk c.Phys c.Names.Done).map (fun r=>Tab.eq ab (.arr 16 (.int .u32)) r c.A.R)=some b7) (h8:eT c.A=some b8) (h9:eA c=some b9) (hl:out.l.length≤1):∃ z:Sl 8 (W .i64),ku (c,out,rens,())=some ((),z,())∧z.l=out.l++((if b3=true then [] else [W.of .i64 3])++(if b4=true then [] else [W.of .i64 4])++(if b5=true then [] else [W.of .i64 5])++(if b6=true then [] else [W.of .i64 6])++(if b7=true then [] else [W.of .i64 7])++(if b8=true then [] else [W.of .i64 8])++(if b9=true then [] else [W.of .i64 9])):=by
 unfold ku Af
 simp only [an,ak,ae,h3,aj]
 cases b3 with
 | true=>
  obtain ⟨z,hz1,hz2⟩:=OI c out h4 h5 h6 h7 h8 h9 (by omega)
  simp only [Bool.not_true,Bool.false_eq_true,if_false,if_true,hz1,aj]
  exact ⟨z,rfl,by rw [hz2];simp⟩
 | false=>
  obtain ⟨r,hr1,hr2⟩:=cy (s:=out) (x:=W.of .i64 3) (hb:=rfl) (by unfold aw;omega) (by unfold aw;omega)
  obtain ⟨z,hz1,hz2⟩:=OI c r h4 h5 h6 h7 h8 h9 (by rw [hr2,List.length_append];simp;omega)
  simp only [Bool.not_false,Bool.false_eq_true,if_false,if_true,hr1,hz1,aj]
  exact ⟨z,rfl,by rw [hz2,hr2];simp⟩
def yV (c:TCore):Prop:=qh c.Rob.l∧(match c.Rob.l.length with | 0=>True | i+1=>W.lt (nth c.Rob.l i).Ren.Seq c.Names.Seq=true)
theorem Te (c:TCore) (h:c.Rob.l.length < 1000):∃ b,sP c=some b∧(b=true ↔ yV c):=by
 obtain ⟨b,e,g⟩:=Tl c.Rob h
 have hroom:=c.Rob.h.2
 unfold sP Ec yV
 simp only [an,ak,ae,e,aj,aY]
 rw [←g]
 cases b with
 | false=>exact ⟨false,rfl,by simp⟩
 | true=>
  simp only [if_true,true_and]
  cases hn:c.Rob.l.length with
  | zero=>
   rw [show W.eq (Sl.len c.Rob) (wi 0)=true by rw [Sl.len_wi,hn];exact W.eq_self _]
   exact ⟨true,rfl,by simp⟩
  | succ i=>
   rw [show W.eq (Sl.len c.Rob) (wi 0)=false by rw [Sl.len_wi,di hroom (by omega),hn];simp,Sl.len_wi,hn,lL (by omega),Sl.get_wi c.Rob (show i < c.Rob.l.length by omega)]
   exact ⟨_,rfl,Iff.rfl⟩
theorem adz (c:TCore) (h:c.Rob.l.length < 1000) (out:Sl 8 (W .i64)) (hl:out.l=[]) (rens:Sl 216 TRen) {b3 b4 b5 b6 b7 b8 b9:Bool} (h3:ke c.Names c.Conf.Phys rens=some b3) (h4:iM c=some b4) (h5:gG c=some b5) (h6:fS c=some b6) (h7:(fk c.Phys c.Names.Done).map (fun r=>Tab.eq ab (.arr 16 (.int .u32)) r c.A.R)=some b7) (h8:eT c.A=some b8) (h9:eA c=some b9):∃ b2,(b2=true ↔ yV c)∧∃ z:Sl 8 (W .i64),uM (c,out,rens,())=some ((),z,())∧z.l=fX b2 b3 b4 b5 b6 b7 b8 b9:=by
 obtain ⟨b,e,g⟩:=adE c.Rob h
 have hroom:=c.Rob.h.2
 obtain ⟨r,hr1,hr2⟩:=cy (s:=out) (x:=W.of .i64 2) (hb:=rfl) (by rw [hl];unfold aw;simp) (by rw [hl];unfold aw;simp)
 obtain ⟨z1,y1,y2⟩:=OH c r rens h3 h4 h5 h6 h7 h8 h9 (by rw [hr2,hl];simp)
 obtain ⟨z2,y3,y4⟩:=OH c out rens h3 h4 h5 h6 h7 h8 h9 (by rw [hl];simp)
 have t1:iQ (c,out,rens,true,())=some (c,r,rens,()):=by
  unfold iQ Ae
  simp only [an,ak,ae,if_true,hr1,aj]
 have t2:iQ (c,out,rens,false,())=some (c,out,rens,()):=rfl
 have w1:z1.l=fX false b3 b4 b5 b6 b7 b8 b9:=by rw [y2,hr2,hl];simp [fX]
 have w2:z2.l=fX true b3 b4 b5 b6 b7 b8 b9:=by rw [y4,hl];simp [fX]
 unfold uM Ad yV
 simp only [an,ak,ae,e,aj,aY]
 rw [←g]
 cases b with
 | false=>
  simp only [Bool.not_false,if_true,t1,y1,aj]
  exact ⟨false,by simp,z1,rfl,w1⟩
 | true=>
  simp only [Bool.not_true,Bool.false_eq_true,if_false,true_and]
  cases hn:c.Rob.l.length with
  | zero=>
   rw [show W.gt (Sl.len c.Rob) (wi 0)=false by rw [Sl.len_wi,hn];rfl]
   simp only [Bool.false_eq_true,if_false,t2,y3,aj]
   exact ⟨true,by simp,z2,rfl,w2⟩
  | succ i=>
   rw [show W.gt (Sl.len c.Rob) (wi 0)=true by rw [Sl.len_wi,W.gt_lt,br (by omega) hroom,hn];simp,Sl.len_wi,hn,lL (by omega),Sl.get_wi c.Rob (show i < c.Rob.l.length by omega)]
   simp only [if_true,aj,W.ge_lt]
   cases W.lt (nth c.Rob.l i).Ren.Seq c.Names.Seq with
   | true=>
    simp only [Bool.not_true,t2,y3,aj]
    exact ⟨true,by simp,z2,rfl,w2⟩
   | false=>
    simp only [Bool.not_false,t1,y1,aj]
    exact ⟨false,by simp,z1,rfl,w1⟩
theorem adg {c:TConf} (h:eK c=true):∃ nn,c.Phys=wi nn∧nn≤1000:=by
 unfold eK qi at h
 simp only [Bool.and_eq_true] at h
 have h1:=h.1.1.2.2
 unfold inB at h1
 rw [Bool.and_eq_true,W.ge_n,W.le_n,show (W.of .i64 18).n=18 from rfl,show (W.of .i64 96).n=96 from rfl] at h1
 exact ⟨c.Phys.n.toNat,iw (by omega),by omega⟩
theorem Sy (c:TCore) (hc:LightC c):∃ r,sL c=some r∧tB c=some r∧r.l.length≤8∧(r.l=[W.of .i64 1]∨(eK c.Conf=true∧r.l.all (fun x=>W.ne x (W.of .i64 1))=true)):=by
 obtain ⟨l1,l2,l3,l4,l5,l6,l7⟩:=hc
 have f2:c.Rob.l.length < aa:=by show _ < 281474976710656;omega
 have f3:c.Iq.l.length < aa:=by show _ < 281474976710656;omega
 have f4:c.Lq.l.length < aa:=by show _ < 281474976710656;omega
 have f5:c.Sq.l.length < aa:=by show _ < 281474976710656;omega
 have f7:c.Units.l.length < aa:=by show _ < 281474976710656;omega
 obtain ⟨b1,e1,e1',g1⟩:=adQ c
 unfold sL D3 tB Fl
 simp only [an,ak,ae,e1,e1',aj]
 cases b1 with
 | false=>exact ⟨_,rfl,rfl,by simp [Sl.lit],.inl rfl⟩
 | true=>
  obtain ⟨nn,hP,hnn⟩:=adg (g1 rfl)
  obtain ⟨iq,un,eq,hiq,hun⟩:=Th c (by omega) (by omega)
  obtain ⟨b2,e2,g2⟩:=Te c (by omega)
  obtain ⟨fl,er,hfl⟩:=Tj c (by omega)
  obtain ⟨b3,e3,g3⟩:=Td c.Names hnn fl (by rw [hfl,List.length_map];omega)
  obtain ⟨b4,e4,g4⟩:=OT c iq f2 (by rw [hiq,List.length_map];exact f3)
  obtain ⟨b5,e5,g5⟩:=OT c un f2 (by rw [hun,List.length_map];exact f7)
  have e5a:=S5 iq un (by rw [hiq,List.length_map];exact f3) (by rw [hun,List.length_map];exact f7)
  obtain ⟨b6,e6,g6⟩:=Tc c (by omega) f4 f5
  obtain ⟨r7,e7⟩:=aht c.Phys c.Names.Done
  obtain ⟨b8,e8,g8⟩:=S6 c.A
  have e9:=To c f2
  obtain ⟨fl',er',hfl'⟩:=adC c (by omega) (Sl.lit 8 [] rfl)
  have hff:fl'=fl:=Sl.ext (by rw [hfl,hfl'])
  subst hff
  obtain ⟨b3',e3',g3'⟩:=ady c.Names hnn fl' (by rw [hfl,List.length_map];omega)
  obtain ⟨b4',e4',g4'⟩:=adB c f2 f3
  obtain ⟨b5',e5',g5'⟩:=adv c f2 f3 f7
  obtain ⟨b6',e6',g6'⟩:=adx c (by omega) f4 f5
  obtain ⟨b8',e8',g8'⟩:=adu c.A
  have e9':=adH c f2
  have hb3:b3'=b3:=bQ (g3'.trans ((aaR c.Names fl'.l (by rw [hfl,List.length_map];omega)).symm.trans g3.symm))
  have hb4:b4'=b4:=bQ (g4'.trans (by rw [g4,hiq]))
  have hb5:b5'=(b5&&!bothB iq.l un.l):=bQ (g5'.trans (by rw [Bool.and_eq_true,g5,hun,hiq,Bool.not_eq_true']))
  have hb6:b6'=b6:=bQ (g6'.trans g6.symm)
  have hb8:b8'=b8:=bQ (g8'.trans g8.symm)
  obtain ⟨b2',g2',z,ez,hz⟩:=adz c (by omega) (Sl.lit 8 [] rfl) rfl fl' (by rw [hP];exact e3') e4' e5' e6' (b7:=Tab.eq ab (.arr 16 (.int .u32)) r7 c.A.R) (by rw [ahs,e7];rfl) e8' e9'
  have hb2:b2'=b2:=bQ (g2'.trans g2.symm)
  subst hb2 hb3 hb4 hb6 hb8
  have hL:uO (c,())=some ((),z,()):=by
   unfold uO Am
   simp only [an,ae,aY,er',aj,ez]
  rw [hP]
  simp only [Bool.not_true,Bool.false_eq_true,if_false,eq,e2,er,e3,e4,e5,aj,hL]
  rw [hb5] at hz
  have hlen:∀ b2 b3 b4 b5 b6 b7 b8 b9:Bool,(fX b2 b3 b4 b5 b6 b7 b8 b9).length≤8:=by decide
  have hno:∀ b2 b3 b4 b5 b6 b7 b8 b9:Bool,(fX b2 b3 b4 b5 b6 b7 b8 b9).all (fun x=>W.ne x (W.of .i64 1))=true:=by decide
  cases b5 with
  | true=>
   simp only [if_true,e5a,e6,e7,e8,e9,aj]
   obtain ⟨r,hr1,hr2⟩:=OV b2' b3' b4' (!bothB iq.l un.l) b6' (Tab.eq ab (.arr 16 (.int .u32)) r7 c.A.R) b8' (!(c.Rob.l.any (badV c)))
   rw [hr1,aj]
   have:r.1=z:=Sl.ext (by rw [hr2,hz];rfl)
   exact ⟨z,by rw [this],rfl,by rw [hz];exact hlen ..,.inr ⟨g1 rfl,by rw [hz];exact hno ..⟩⟩
  | false=>
   simp only [Bool.false_eq_true,if_false,e6,e7,e8,e9,aj]
   obtain ⟨r,hr1,hr2⟩:=OV b2' b3' b4' false b6' (Tab.eq ab (.arr 16 (.int .u32)) r7 c.A.R) b8' (!(c.Rob.l.any (badV c)))
   rw [hr1,aj]
   have:r.1=z:=Sl.ext (by rw [hr2,hz];rfl)
   exact ⟨z,by rw [this],rfl,by rw [hz];exact hlen ..,.inr ⟨g1 rfl,by rw [hz];exact hno ..⟩⟩
end Go.Proofs.YtnpgljilkkipkaaGreat
