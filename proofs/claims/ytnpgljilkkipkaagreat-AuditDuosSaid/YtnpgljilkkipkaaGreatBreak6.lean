/- YtnpgljilkkipkaaGreatBreak6: rule 3 of a core: names. No statement of the seat is proved here. -/
import Derived.Test.YtnpgljilkkipkaaGreatBreak5
set_option linter.unusedSimpArgs false
set_option linter.unusedVariables false
set_option maxRecDepth 100000
namespace Go.Proofs.YtnpgljilkkipkaaGreat
open Go Go.A2
def fQ (u:TUop):Bool:=decide (1≤u.Dst.n∧u.Dst.n < 16)
theorem Tr (u:TUop):tG u=some (fQ u):=by
 unfold tG FF fQ
 simp only [ak,ae,W.ge,W.lt,show (W.of .i64 1).n=1 from rfl,show (W.of .i64 16).n=16 from rfl,decide_eq_true_eq]
 split
 ·congr 1;exact decide_eq_decide.2 (by omega)
 ·congr 1;apply Eq.symm;rw [decide_eq_false_iff_not];omega
theorem adI (u:TUop):tn u=some (fQ u):=by
 unfold tn EX fQ
 simp only [ak,ae,W.ge,W.le,show (W.of .i64 1).n=1 from rfl,show (W.of .i64 15).n=15 from rfl,decide_eq_true_eq]
 split
 ·congr 1;exact decide_eq_decide.2 (by omega)
 ·congr 1;apply Eq.symm;rw [decide_eq_false_iff_not];omega
theorem Qu {r:W .i64} (h:1≤r.n∧r.n < 16):mq r=some true:=by
 unfold mq EJ
 have h1:W.gt r (W.of .i64 0)=true:=W.gt_n.2 (by rw [show (W.of .i64 0).n=0 from rfl];omega)
 have h2:W.lt r (W.of .i64 16)=true:=W.lt_n.2 (by rw [show (W.of .i64 16).n=16 from rfl];omega)
 simp only [ak,ae,h1,h2,if_true]
theorem ado (m:Arr 16 (W .i64)) {r:W .i64} (h:1≤r.n∧r.n < 16):tf m r=some (m.get r.n.toNat):=by
 unfold tf EG
 simp only [an,Qu h,aj,ak,Bool.not_true,Bool.false_eq_true,if_false,jw (n:=16) (i:=r) (by omega),ae]
theorem adp (m:Arr 16 (W .i64)) {r:W .i64} (p:W .i64) (h:1≤r.n∧r.n < 16):th m r p=some (m.set r.n.toNat p):=by
 unfold th EI
 simp only [an,Qu h,aj,ak,if_true,jw (n:=16) (i:=r) (by omega),ae]
def cS (s:TNames) (l:List TRen):Nat→Arr 16 (W .i64)
 | 0=>s.Done
 | i+1=>if fQ (nth l i).Uop=true then (cS s l i).set (nth l i).Uop.Dst.n.toNat (nth l i).Out else cS s l i
def gq (l:List TRen):Nat→W .u64
 | 0=>W.of .u64 0
 | i+1=>(nth l i).Seq
def dV (g:W .i64→Prop) (s:TNames) (l:List TRen) (i:Nat):Prop:=
 W.le (nth l i).Seq (gq l i)=false∧W.ge (nth l i).Seq s.Seq=false ∧
  if fQ (nth l i).Uop=true then g (nth l i).Out∧(nth l i).Old=(cS s l i).get (nth l i).Uop.Dst.n.toNat else (nth l i).Out=W.of .i64 (-1)∧(nth l i).Old=W.of .i64 (-1)
theorem Gc {a b:Arr 16 (W .i64)}:Tab.eq ab (.arr 16 (.int .i64)) a b=true ↔ a=b:=eq_iff (X:=ab) jO (by rfl)
theorem Tm (s:TNames) (l:Sl 216 TRen) (hl:l.l.length < 1000):∃ b,tF s l=some b∧(b=true ↔ (∀ i,i < l.l.length→dV (fun x=>x ≠ W.of .i64 (-1)) s l.l i)∧cS s l.l l.l.length=s.Map):=by
 have key:∃ o,kF (s,s.Done,W.of .u64 0,l,Sl.len l,wi 0,())=some o∧(((∀ i,i < l.l.length→dV (fun x=>x ≠ W.of .i64 (-1)) s l.l i)∧o=.inr (s,(),cS s l.l l.l.length,()))∨((¬ ∀ i,i < l.l.length→dV (fun x=>x ≠ W.of .i64 (-1)) s l.l i)∧∃ m,o=.inl (s,false,m,()))):=by
  unfold kF
  refine cR (fun i z=>z=(s,cS s l.l i,gq l.l i,l,Sl.len l,wi i,())) l.l.length (dV (fun x=>x ≠ W.of .i64 (-1)) s l.l) (fun o=>∃ m,o=Sum.inl (s,false,m,())) (fun o=>o=Sum.inr (s,(),cS s l.l l.l.length,())) ?_ ?_ rfl (by show _ < 281474976710656;omega)
  ·rintro i z hi rfl hP
   simp only [sf,ak,an,ae,aK l hi,Sl.get_wi l hi,if_true,aj,aN l hi,Tr,W.ne_eq]
   unfold dV
   cases h1:W.le (nth l.l i).Seq (gq l.l i) with
   | true=>exact .inr ⟨fun h=>(by cases h.1),_,rfl,_,rfl⟩
   | false=>
    cases h2:W.ge (nth l.l i).Seq s.Seq with
    | true=>exact .inr ⟨fun h=>(by cases h.2.1),_,rfl,_,rfl⟩
    | false=>
     cases hw:fQ (nth l.l i).Uop with
     | false=>
      simp only [Bool.not_false,Bool.false_eq_true,if_false,if_true,W.eq_dec]
      by_cases h3:(nth l.l i).Out=W.of .i64 (-1)
      ·by_cases h4:(nth l.l i).Old=W.of .i64 (-1)
       ·simp only [h3,h4,decide_true,Bool.not_true,Bool.false_eq_true,if_false]
        exact .inl ⟨⟨trivial,trivial,trivial,trivial⟩,_,rfl,by simp only [cS,gq,hw,Bool.false_eq_true,if_false]⟩
       ·simp only [h3,h4,decide_true,decide_false,Bool.not_true,Bool.not_false,Bool.false_eq_true,if_false,if_true]
        exact .inr ⟨fun h=>h.2.2.2.elim,_,rfl,_,rfl⟩
      ·simp only [h3,decide_false,Bool.not_false,if_true]
       exact .inr ⟨fun h=>h.2.2.1.elim,_,rfl,_,rfl⟩
     | true=>
      have hd:=of_decide_eq_true hw
      simp only [Bool.not_true,Bool.false_eq_true,if_false,if_true,W.eq_dec,ado _ hd,adp _ _ hd,aj]
      by_cases h3:(nth l.l i).Out=W.of .i64 (-1)
      ·simp only [h3,decide_true,if_true]
       exact .inr ⟨fun h=>h.2.2.1 rfl,_,rfl,_,rfl⟩
      ·by_cases h4:(nth l.l i).Old=(cS s l.l i).get (nth l.l i).Uop.Dst.n.toNat
       ·simp only [h3,h4,decide_true,decide_false,Bool.not_true,Bool.false_eq_true,if_false]
        exact .inl ⟨⟨trivial,trivial,by simpa using h3,trivial⟩,_,rfl,by simp only [cS,gq,hw,if_true]⟩
       ·simp only [h3,h4,decide_false,Bool.not_false,Bool.false_eq_true,if_false,if_true]
        exact .inr ⟨fun h=>h.2.2.2.elim,_,rfl,_,rfl⟩
  ·rintro z rfl hP
   simp only [sf,ak,ae,aO l]
   exact ⟨_,rfl,rfl⟩
 obtain ⟨o,h1,h2⟩:=key
 unfold tF FE
 rcases h2 with ⟨h3,rfl⟩ | ⟨h3,m,rfl⟩
 ·simp only [an,show kF (s,s.Done,W.of .u64 0,l,Sl.len l,W.of .i64 0,())=_ from h1,aj,aM,Sum.elim_inr,ae]
  exact ⟨_,rfl,by rw [Gc];exact ⟨fun h=>⟨h3,h⟩,fun h=>h.2⟩⟩
 ·simp only [an,show kF (s,s.Done,W.of .u64 0,l,Sl.len l,W.of .i64 0,())=_ from h1,aj,aM,Sum.elim_inl,ae]
  exact ⟨false,rfl,fun h=>(by cases h),fun h=>(h3 h.1).elim⟩
def bP (L:List (W .i64)) (p:Nat):Nat:=L.countP fun x=>W.eq x (wi p)
def inR (nn:Nat) (x:W .i64):Bool:=decide (1≤x.n∧x.n < nn)
def rel (nn:Nat) (L:List (W .i64)) (st:Bool) (t:Arr 96 (W .i64)):Prop:=st=L.any (fun x=>!inR nn x)∧∀ p,1≤p→p < nn→t.get p=wi (bP L p)
theorem Im {nn:Nat} (hn:nn≤96) {L:List (W .i64)} (hL:L.length < 900) {st:Bool} {t:Arr 96 (W .i64)} (h:rel nn L st t) (x:W .i64):∃ st' t',kl x (wi nn) st t=some (wi nn,st',t')∧rel nn (L++[x]) st' t':=by
 obtain ⟨h1,h2⟩:=h
 have hwn:(wi nn).n=nn:=aQ (sm (by omega))
 have hany:(L++[x]).any (fun x=>!inR nn x)=(st || !inR nn x):=by rw [List.any_append,h1];simp
 have hc:∀ p,bP (L++[x]) p=bP L p+if W.eq x (wi p)=true then 1 else 0:=fun p=>by
  unfold bP;rw [List.countP_append,List.countP_cons,List.countP_nil,Nat.zero_add]
 unfold kl FC
 simp only [ak,ae,an]
 by_cases hx:1≤x.n∧x.n < nn
 ·have e1:W.lt x (W.of .i64 1)=false:=by unfold W.lt;rw [show (W.of .i64 1).n=1 from rfl];simp;omega
  have e2:W.ge x (wi nn)=false:=by unfold W.ge;rw [hwn];simp;omega
  have e3:aI 96 x=some x.n.toNat:=jw (by omega)
  have e4:inR nn x=true:=decide_eq_true hx
  simp only [e1,e2,e3,Bool.false_eq_true,if_false,aj]
  refine ⟨_,_,rfl,by rw [hany,e4];simp,fun p hp hp'=>?_⟩
  rw [Arr.get_set (by omega),hc]
  have hw:x=wi x.n.toNat:=iw (by omega)
  by_cases hpe:x.n.toNat=p
  ·have:bP L p≤L.length:=List.countP_le_length
   rw [if_pos hpe,h2 _ (by omega) (by omega),hpe,if_pos (by rw [W.eq_iff,←hpe];exact hw),dn (by omega)]
  ·rw [if_neg hpe,h2 p hp hp',if_neg (by rw [W.eq_iff];intro he;apply hpe;rw [he,aQ (sm (by omega))];rfl)]
   rfl
 ·have e4:inR nn x=false:=decide_eq_false hx
  have hout:(if W.lt x (W.of .i64 1)=true then some (wi nn,true,t) else if W.ge x (wi nn)=true then some (wi nn,true,t) else Option.bind (aI 96 x) fun j1=>Option.bind (aI 96 x) fun j2=>some (wi nn,st,t.set j2 (W.add (t.get j1) (W.of .i64 1))))=some (wi nn,true,t):=by
   by_cases h3:x.n < 1
   ·rw [if_pos (W.lt_n.2 (by rw [show (W.of .i64 1).n=1 from rfl];exact h3))]
   ·rw [if_neg (fun h=>h3 (by have:=W.lt_n.1 h;rw [show (W.of .i64 1).n=1 from rfl] at this;exact this)),if_pos (W.ge_n.2 (by rw [hwn];omega))]
  rw [hout]
  refine ⟨_,_,rfl,by rw [hany,e4];simp,fun p hp hp'=>?_⟩
  have he:W.eq x (wi p)=false:=by
   rw [W.eq_dec,decide_eq_false_iff_not];intro he
   apply hx;rw [he,aQ (sm (by omega))];omega
  rw [h2 p hp hp',hc,he]
  rfl
def ch (l:List TRen):List (W .i64):=(l.filter fun r=>!W.eq r.Out (W.of .i64 (-1))).map TRen.Out
def cz (s:TNames):List (W .i64):=(List.range 15).map fun r=>s.Done.get (r+1)
theorem Qi (l:List TRen) (x:TRen):ch (l++[x])=ch l++if W.eq x.Out (W.of .i64 (-1))=true then [] else [x.Out]:=by
 unfold ch
 rw [List.filter_append,List.map_append]
 cases h:W.eq x.Out (W.of .i64 (-1))<;>simp [h]
theorem pX (l:List TRen):(ch l).length≤l.length:=by unfold ch;rw [List.length_map];exact List.length_filter_le ..
theorem adb (l:List TRen):ch l.reverse=(ch l).reverse:=by unfold ch;rw [List.filter_reverse,List.map_reverse]
theorem O4 (s:TNames) {i:Nat} (hi:i < 15):(cz s).take (i+1)=(cz s).take i++[s.Done.get (i+1)]:=by
 have hlen:(cz s).length=15:=by unfold cz;simp
 rw [dv (by rw [hlen];exact hi)]
 congr 2
 unfold cz
 rw [cC (by simpa using hi),List.getElem_map,List.getElem_range]
theorem Tk (s:TNames) {nn:Nat} (hn:nn≤96) (fl:Sl 216 TRen) (r4:Sl 8 (W .i64)) (hr:r4.l.length≤96):∃ st t,kB (s,wi nn,fl,false,Arr.rep 96 (W.of .i64 0),false,((),((),(),(),())),((),((),((),((),(),(),())),(),(),(),(),())),r4,Sl.len r4,wi 0,())=some (s,wi nn,fl,false,t,st,((),((),(),(),())),((),((),((),((),(),(),())),(),(),(),(),())),())∧rel nn r4.l st t:=by
 have key:∃ o,kB (s,wi nn,fl,false,Arr.rep 96 (W.of .i64 0),false,((),((),(),(),())),((),((),((),((),(),(),())),(),(),(),(),())),r4,Sl.len r4,wi 0,())=some o∧∃ st t,o=(s,wi nn,fl,false,t,st,((),((),(),(),())),((),((),((),((),(),(),())),(),(),(),(),())),())∧rel nn r4.l st t:=by
  unfold kB
  refine bK (fun i z=>∃ st t,z=(s,wi nn,fl,false,t,st,((),((),(),(),())),((),((),((),((),(),(),())),(),(),(),(),())),r4,Sl.len r4,wi i,())∧rel nn (r4.l.take i) st t) r4.l.length _ ?_ ?_ ⟨false,_,rfl,rfl,fun p hp hp'=>by rw [Arr.get_rep (by omega)];rfl⟩ (by show _ < 281474976710656;omega)
  ·rintro i z hi ⟨st,t,rfl,hrel⟩
   obtain ⟨st',t',h1,h2⟩:=Im hn (by rw [List.length_take];omega) hrel (nth r4.l i)
   simp only [sc,ak,an,ae,aK r4 hi,Sl.get_wi r4 hi,if_true,aj,aN r4 hi,h1]
   exact ⟨_,rfl,st',t',rfl,by rw [dv hi];exact h2⟩
  ·rintro z ⟨st,t,rfl,hrel⟩
   simp only [sc,ak,ae,aO r4]
   exact ⟨_,rfl,st,t,rfl,by rw [List.take_length] at hrel;exact hrel⟩
 obtain ⟨o,h1,st,t,rfl,h2⟩:=key
 exact ⟨st,t,h1,h2⟩
theorem S8 (s:TNames) {nn:Nat} (hn:nn≤96) (fl:Sl 216 TRen) {L:List (W .i64)} (hL:L.length≤96) {st0:Bool} {t0:Arr 96 (W .i64)} (h0:rel nn L st0 t0):∃ st t,kE (s,wi nn,fl,false,t0,st0,((),((),(),(),())),wi (0+1),((),((),((),((),(),(),())),(),(),(),(),())),())=some (s,wi nn,fl,false,t,st,((),((),((),((),(),(),())),(),(),(),(),())),())∧rel nn (L++cz s) st t:=by
 have hlen:(cz s).length=15:=by unfold cz;simp
 have key:∃ o,kE (s,wi nn,fl,false,t0,st0,((),((),(),(),())),wi (0+1),((),((),((),((),(),(),())),(),(),(),(),())),())=some o∧∃ st t,o=(s,wi nn,fl,false,t,st,((),((),((),((),(),(),())),(),(),(),(),())),())∧rel nn (L++cz s) st t:=by
  unfold kE
  refine bK (fun i z=>∃ st t,z=(s,wi nn,fl,false,t,st,((),((),(),(),())),wi (i+1),((),((),((),((),(),(),())),(),(),(),(),())),())∧rel nn (L++(cz s).take i) st t) 15 _ ?_ ?_ ⟨st0,t0,rfl,by rw [List.take_zero,List.append_nil];exact h0⟩ (by decide)
  ·rintro i z hi ⟨st,t,rfl,hrel⟩
   obtain ⟨st',t',h1,h2⟩:=Im hn (by rw [List.length_append,List.length_take];omega) hrel (s.Done.get (i+1))
   have hlt:W.lt (wi (i+1)) (W.of .i64 16)=true:=(du (m:=16) (by omega) (by omega)).trans (by simp;omega)
   simp only [AB,ak,an,ae,hlt,if_true,dJ (sm (show i+1≤1000 by omega)),show i+1 < 16 by omega,aj,dn (show i+1 < 1000 by omega),h1]
   exact ⟨_,rfl,st',t',rfl,by rw [O4 s hi,←List.append_assoc];exact h2⟩
  ·rintro z ⟨st,t,rfl,hrel⟩
   exact ⟨_,rfl,st,t,rfl,by rw [←hlen,List.take_length] at hrel;exact hrel⟩
 obtain ⟨o,h1,st,t,rfl,h2⟩:=key
 exact ⟨st,t,h1,h2⟩
theorem W.of_small_n {x:Int} (h:-1000≤x) (h':x≤1000):(W.of .i64 x).n=x:=by rw [W.of_n,de];omega
theorem Tf {nn:Nat} (hn:nn≤96) (fl:Sl 216 TRen) (hfl:fl.l.length≤100) (ok:Bool) {L:List (W .i64)} (hL:L.length≤200) {st0:Bool} {t0:Arr 96 (W .i64)} (h0:rel nn L st0 t0):∃ st t,kD (fl,((),((),(),(),())),wi nn,ok,t0,st0,W.of .i64 ((fl.l.length:Int) - 1 - (0:Nat)),())=some (fl,wi nn,ok,t,st,())∧rel nn (L++(ch fl.l).reverse) st t:=by
 have key:∃ o,kD (fl,((),((),(),(),())),wi nn,ok,t0,st0,W.of .i64 ((fl.l.length:Int) - 1 - (0:Nat)),())=some o∧∃ st t,o=(fl,wi nn,ok,t,st,())∧rel nn (L++ch fl.l.reverse) st t:=by
  unfold kD
  refine bK (fun i z=>∃ st t,z=(fl,((),((),(),(),())),wi nn,ok,t,st,W.of .i64 ((fl.l.length:Int) - 1 - (i:Nat)),())∧rel nn (L++ch (fl.l.reverse.take i)) st t) fl.l.length _ ?_ ?_ ⟨st0,t0,rfl,by rw [List.take_zero,show ch []=[] from rfl,List.append_nil];exact h0⟩ (by show _ < 281474976710656;omega)
  ·rintro i z hi ⟨st,t,rfl,hrel⟩
   have hin:=W.of_small_n (x:=(fl.l.length:Int) - 1 - (i:Nat)) (by omega) (by omega)
   have hge:W.ge (W.of .i64 ((fl.l.length:Int) - 1 - (i:Nat))) (W.of .i64 0)=true:=W.ge_n.2 (by rw [hin,show (W.of .i64 0).n=0 from rfl];omega)
   have hrl:fl.l.reverse.length=fl.l.length:=List.length_reverse
   have hget:Sl.get? fl (W.of .i64 ((fl.l.length:Int) - 1 - (i:Nat)))=some (nth fl.l.reverse i):=by
    rw [yA fl (by rw [hin];omega) (by rw [hin];omega),cC (by rw [hin];omega),cC (by omega),List.getElem_reverse]
    congr 1
    simp only [hin]
    congr 1
    omega
   have hsub:W.sub (W.of .i64 ((fl.l.length:Int) - 1 - (i:Nat))) (W.of .i64 1)=W.of .i64 ((fl.l.length:Int) - 1 - ((i+1:Nat):Int)):=by
    refine W.ext ?_
    rw [W.sub_n,hin,show (W.of .i64 1).n=1 from rfl,W.of_n]
    congr 1;omega
   have hnx:ch (fl.l.reverse.take (i+1))=ch (fl.l.reverse.take i)++if W.eq (nth fl.l.reverse i).Out (W.of .i64 (-1))=true then [] else [(nth fl.l.reverse i).Out]:=by rw [dv (by omega)];exact Qi ..
   have hlen:(ch (fl.l.reverse.take i)).length≤100:=by refine Nat.le_trans (pX _) ?_;rw [List.length_take];omega
   obtain ⟨st',t',h1,h2⟩:=Im hn (by rw [List.length_append];omega) hrel (nth fl.l.reverse i).Out
   simp only [se,ak,an,ae,hge,if_true,hget,aj,hsub,h1,W.ne_eq]
   cases ho:W.eq (nth fl.l.reverse i).Out (W.of .i64 (-1)) with
   | true=>exact ⟨_,rfl,st,t,rfl,by rw [hnx,if_pos ho,List.append_nil];exact hrel⟩
   | false=>exact ⟨_,rfl,st',t',rfl,by rw [hnx,if_neg (by rw [ho];simp),←List.append_assoc];exact h2⟩
  ·rintro z ⟨st,t,rfl,hrel⟩
   have hin:=W.of_small_n (x:=(fl.l.length:Int) - 1 - (fl.l.length:Nat)) (by omega) (by omega)
   have hge:W.ge (W.of .i64 ((fl.l.length:Int) - 1 - (fl.l.length:Nat))) (W.of .i64 0)=false:=by
    unfold W.ge;rw [hin,show (W.of .i64 0).n=0 from rfl];simp;omega
   simp only [se,ak,ae,hge,Bool.false_eq_true,if_false]
   refine ⟨_,rfl,st,t,rfl,?_⟩
   rw [←List.length_reverse,List.take_length] at hrel
   exact hrel
 obtain ⟨o,h1,st,t,rfl,h2⟩:=key
 exact ⟨st,t,h1,by rw [←adb];exact h2⟩
theorem Tn {nn:Nat} (hn:nn≤96) (h1n:1≤nn) (fl:Sl 216 TRen) (ok st:Bool) (t:Arr 96 (W .i64)):kC (fl,wi nn,ok,t,st,wi (0+1),())=some (fl,wi nn,ok&&(List.range (nn - 1)).all (fun i=>W.eq (t.get (i+1)) (W.of .i64 1)),t,st,()):=by
 have key:∃ o,kC (fl,wi nn,ok,t,st,wi (0+1),())=some o∧o=(fl,wi nn,ok&&(List.range (nn - 1)).all (fun i=>W.eq (t.get (i+1)) (W.of .i64 1)),t,st,()):=by
  unfold kC
  refine bK (fun i z=>z=(fl,wi nn,ok&&(List.range i).all (fun i=>W.eq (t.get (i+1)) (W.of .i64 1)),t,st,wi (i+1),())) (nn - 1) _ ?_ ?_ (by simp) (by show _ < 281474976710656;omega)
  ·rintro i z hi rfl
   simp only [sd,ak,an,ae,du (show i+1≤1000 by omega) (show nn≤1000 by omega),show i+1 < nn by omega,decide_true,if_true,dJ (sm (show i+1≤1000 by omega)),show i+1 < 96 by omega,aj,dn (show i+1 < 1000 by omega),List.range_succ,List.all_append]
   have hb:(ok&&((List.range i).all (fun i=>W.eq (t.get (i+1)) (W.of .i64 1))&&[i].all fun i=>W.eq (t.get (i+1)) (W.of .i64 1)))=((ok&&(List.range i).all (fun i=>W.eq (t.get (i+1)) (W.of .i64 1)))&&W.eq (t.get (i+1)) (W.of .i64 1)):=by
    rw [Bool.and_assoc];simp
   rw [hb]
   cases ok&&(List.range i).all (fun i=>W.eq (t.get (i+1)) (W.of .i64 1)) with
   | true=>exact ⟨_,rfl,rfl⟩
   | false=>exact ⟨_,rfl,rfl⟩
  ·rintro z rfl
   simp only [sd,ak,ae,du (show nn - 1+1≤1000 by omega) (show nn≤1000 by omega),show ¬ nn - 1+1 < nn by omega,decide_false,Bool.false_eq_true,if_false]
   exact ⟨_,rfl,rfl⟩
 obtain ⟨o,h1,rfl⟩:=key
 exact h1
def lx (nn:Nat) (L:List (W .i64)):Prop:=∀ p,1≤p→p < nn→bP L p=1
theorem Ql {nn:Nat} {L:List (W .i64)} (hL:L.length≤1000) (hn:nn≤1000) (h1n:1≤nn) (h:lx nn L):L.length=nn - 1 ↔ ∀ x∈L,inR nn x=true:=by
 have hK:((L.filter (inR nn)).map fun x=>x.n.toNat).Perm (List.range' 1 (nn - 1)):=by
  rw [List.perm_iff_count]
  intro a
  rw [(List.nodup_range' (s:=1) (n:=nn - 1)).count,List.count,List.countP_map,List.countP_filter]
  by_cases ha:1≤a∧a < nn
  ·rw [if_pos (by rw [List.mem_range'_1];omega),←h a ha.1 ha.2]
   unfold bP
   refine List.countP_congr fun x _=>?_
   simp only [Function.comp,Bool.and_eq_true,beq_iff_eq,W.eq_iff,inR,decide_eq_true_eq]
   constructor
   ·rintro ⟨h1,h2⟩;rw [←h1];exact iw (by omega)
   ·rintro rfl
    rw [aQ (sm (by omega))];exact ⟨rfl,by omega⟩
  ·rw [if_neg (by rw [List.mem_range'_1];omega),List.countP_eq_zero]
   intro x _
   simp only [Function.comp,Bool.and_eq_true,beq_iff_eq,inR,decide_eq_true_eq]
   rintro ⟨h1,h2⟩
   apply ha;omega
 have hlen:=hK.length_eq
 rw [List.length_map,List.length_range'] at hlen
 rw [←hlen]
 constructor
 ·intro he
  have:=List.length_filter_eq_length_iff.1 he.symm
  exact this
 ·intro he
  exact (List.length_filter_eq_length_iff.2 he).symm
def cw (s:TNames) (l:List TRen):List (W .i64):=cr s.Free++cz s++ch l
theorem SU {A B:List (W .i64)} (p:Nat):bP (A++B.reverse) p=bP (A++B) p:=by unfold bP;rw [List.countP_append,List.countP_append,List.countP_reverse]
theorem RX {A B:List (W .i64)} (q:W .i64→Bool):(A++B.reverse).any q=(A++B).any q:=by rw [List.any_append,List.any_append,List.any_reverse]
def yR (s:TNames) (nn:Nat) (l:List TRen):Prop:=17≤nn∧nn≤96∧iA s.Map (wi nn)∧iA s.Done (wi nn)∧jf s.Free (wi nn)∧((∀ i,i < l.length→dV (fun x=>x ≠ W.of .i64 (-1)) s l i)∧cS s l l.length=s.Map)∧lx nn (cw s l)∧∀ x∈cw s l,inR nn x=true
theorem Td (s:TNames) {nn:Nat} (hnn:nn≤1000) (fl:Sl 216 TRen) (hfl:fl.l.length≤100):∃ b,tE s (wi nn) fl=some b∧(b=true ↔ yR s nn fl.l):=by
 unfold tE FB yR
 have c1:W.le (wi nn) (W.of .i64 16)=decide (nn≤16):=by unfold W.le;rw [aQ (sm hnn),show (W.of .i64 16).n=16 from rfl];exact decide_eq_decide.2 (by omega)
 have c2:W.gt (wi nn) (W.of .i64 96)=decide (96 < nn):=by unfold W.gt;rw [aQ (sm hnn),show (W.of .i64 96).n=96 from rfl];exact decide_eq_decide.2 (by omega)
 obtain ⟨b1,e1,g1⟩:=OW s.Map (wi nn)
 obtain ⟨b2,e2,g2⟩:=OW s.Done (wi nn)
 obtain ⟨b3,e3,g3⟩:=Ta s.Free (wi nn)
 simp only [ak,ae,an,c1,c2,e1,e2,e3,aj,decide_eq_true_eq]
 by_cases h1:nn≤16
 ·rw [if_pos h1];exact ⟨false,rfl,fun h=>(by cases h),fun h=>by omega⟩
 by_cases h2:96 < nn
 ·rw [if_neg h1,if_pos h2];exact ⟨false,rfl,fun h=>(by cases h),fun h=>by omega⟩
 rw [if_neg h1,if_neg h2]
 cases b1 with
 | false=>exact ⟨false,rfl,fun h=>(by cases h),fun h=>(by have:=g1.2 h.2.2.1;cases this)⟩
 | true=>
  cases b2 with
  | false=>exact ⟨false,rfl,fun h=>(by cases h),fun h=>(by have:=g2.2 h.2.2.2.1;cases this)⟩
  | true=>
   cases b3 with
   | false=>exact ⟨false,rfl,fun h=>(by cases h),fun h=>(by have:=g3.2 h.2.2.2.2.1;cases this)⟩
   | true=>
    have hfree:=g3.1 rfl
    have hring:=qg hfree.1
    obtain ⟨r4,e4,l4⟩:=OU hring
    have hl4:r4.l.length≤96:=by rw [l4];exact (jJ hring).1
    obtain ⟨st1,t1,e5,rel1⟩:=Tk s (nn:=nn) (by omega) fl r4 hl4
    obtain ⟨st2,t2,e6,rel2⟩:=S8 s (nn:=nn) (by omega) fl hl4 rel1
    obtain ⟨b4,e7,g4⟩:=Tm s fl (by omega)
    have hlen2:(r4.l++cz s).length≤200:=by rw [List.length_append,show (cz s).length=15 by unfold cz;simp];omega
    obtain ⟨st3,t3,e8,rel3⟩:=Tf (nn:=nn) (by omega) fl hfl b4 hlen2 rel2
    have e8':kD (fl,((),((),(),(),())),wi nn,b4,t2,st2,W.sub (Sl.len fl) (W.of .i64 1),())=some (fl,wi nn,b4,t3,st3,()):=by
     rw [←e8,show W.sub (Sl.len fl) (W.of .i64 1)=W.of .i64 ((fl.l.length:Int) - 1 - (0:Nat)) from W.ext (by
      rw [W.sub_n,Sl.len_n,show (W.of .i64 1).n=1 from rfl,W.of_n]
      congr 1;omega)]
    simp only [Bool.not_true,Bool.false_eq_true,if_false,e4,aj,show kB (s,wi nn,fl,false,Arr.rep 96 (W.of .i64 0),false,((),((),(),(),())),((),((),((),((),(),(),())),(),(),(),(),())),r4,Sl.len r4,W.of .i64 0,())=_ from e5,show kE (s,wi nn,fl,false,t1,st1,((),((),(),(),())),W.of .i64 1,((),((),((),((),(),(),())),(),(),(),(),())),())=_ from e6,e7]
    unfold A1 FD
    simp only [ak,ae,an,e8',aj,show kC (fl,wi nn,b4,t3,st3,W.of .i64 1,())=_ from Tn (by omega) (by omega) fl b4 st3 t3]
    obtain ⟨hst,hcnt⟩:=rel3
    rw [RX] at hst
    have hrl:(r4.l++cz s++ch fl.l)=cw s fl.l:=by unfold cw;rw [l4]
    rw [hrl] at hst
    have honce:(List.range (nn - 1)).all (fun i=>W.eq (t3.get (i+1)) (W.of .i64 1))=true ↔ lx nn (cw s fl.l):=by
     rw [List.all_eq_true]
     have hlenL:(cw s fl.l).length≤1000:=by
      rw [←hrl,List.length_append];have:=pX fl.l;omega
     have hc:∀ p,1≤p→p < nn→t3.get p=wi (bP (cw s fl.l) p):=fun p hp hp'=>by rw [hcnt p hp hp',SU,hrl]
     have hle:∀ p,bP (cw s fl.l) p≤1000:=fun p=>Nat.le_trans List.countP_le_length hlenL
     constructor
     ·intro h p hp hp'
      have:=h (p - 1) (List.mem_range.2 (by omega))
      rw [show p - 1+1=p by omega,hc p hp hp',W.eq_iff] at this
      exact RC (sm (hle p)) (sm (by omega)) this
     ·intro h i hi
      have hi:=List.mem_range.1 hi
      rw [hc _ (by omega) (by omega),h (i+1) (by omega) (by omega)]
      exact W.eq_self _
    have hstr:st3=false ↔ ∀ x∈cw s fl.l,inR nn x=true:=by
     rw [hst,List.any_eq_false]
     exact ⟨fun h x hx=>by simpa using h x hx,fun h x hx=>by simp [h x hx]⟩
    refine ⟨(b4&&(List.range (nn - 1)).all (fun i=>W.eq (t3.get (i+1)) (W.of .i64 1)))&&!st3,?_,?_⟩
    ·cases b4&&(List.range (nn - 1)).all (fun i=>W.eq (t3.get (i+1)) (W.of .i64 1))<;>rfl
    ·rw [Bool.and_eq_true,Bool.and_eq_true,g4,honce,Bool.not_eq_true',hstr]
     exact ⟨fun h=>⟨by omega,by omega,g1.1 rfl,g2.1 rfl,hfree,h.1.1,h.1.2,h.2⟩,fun h=>⟨⟨h.2.2.2.2.2.1,h.2.2.2.2.2.2.1⟩,h.2.2.2.2.2.2.2⟩⟩
end Go.Proofs.YtnpgljilkkipkaaGreat
