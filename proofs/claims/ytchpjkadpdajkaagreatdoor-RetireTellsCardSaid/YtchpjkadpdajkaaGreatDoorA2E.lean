/- YtchpjkadpdajkaaGreatDoorA2E: parts of the machine and its laws, in one text. No statement of the seat is proved here. -/
import Derived.Test.YtchpjkadpdajkaaGreatDoorA2D
import Derived.SizedLaws
import Derived.ProofKit
import Derived.WideKeyArgs
import Derived.LaidMore
import Derived.OpenShut
import Derived.MakeChecks
set_option linter.unusedSimpArgs false
set_option linter.unusedVariables false
namespace Go.A2
open Go.ChangeShapes Go.WideShapes Go.ChangeAt Go.RowKit
section
variable (P:Program) (Γ:Cx)
def fitFs (fs:Array Field) (i:Γ.X.ι) (f:TypeId→Γ.X.Ty→Bool):List Γ.X.Ty→Nat→Bool
 | [],j=>decide (j=fs.size)
 | T :: l,j=>(match fs[j]? with | some q=>f q.type T | none=>false)&&fldOk P Γ fs i j&&fitFs fs i f l (j+1)
def fitB:Nat→TypeId→Γ.X.Ty→Bool
 | 0,_,_=>false
 | d+1,t,T=>(match tyC P Γ t with | some T'=>decide (T'=T) | none=>false)&&match P.underlying t,T with
  | some (.int k),.int k'=>decide (k=k')
  | some .bool,.bool=>true
  | some .string,.str=>true
  | some (.struct fs),.named i=>fitFs P Γ fs i (fitB d) (Γ.X.fields i) 0
  | some (.array n el),.arr m T=>decide (n=m)&&fitB d el T
  | some (.slice el),.slice b T=>decide (bytesO P el=some b∧0 < b)&&decide (0 < Γ.X.sz T)&&fitB d el T
  | _,_=>false
end
section
variable {P:Program} {Γ:Cx}
theorem fitFs_spec {fs:Array Field} {i:Γ.X.ι} {f:TypeId→Γ.X.Ty→Bool}:∀ {l:List Γ.X.Ty} {j:Nat},fitFs P Γ fs i f l j=true→fs.size=j+l.length∧∀ (k:Nat) T,l[k]?=some T→fldOk P Γ fs i (j+k)=true∧∃ q,fs[j+k]?=some q∧f q.type T=true
 | [],j,h=>by
  simp only [fitFs,decide_eq_true_eq] at h
  exact ⟨by simp [h],fun k T hk=>by simp at hk⟩
 | T :: l,j,h=>by
  simp only [fitFs,Bool.and_eq_true] at h
  obtain ⟨⟨h1,h2⟩,h3⟩:=h
  obtain ⟨h4,h5⟩:=fitFs_spec h3
  refine ⟨by simp only [List.length_cons];omega,fun k T' hk=>?_⟩
  cases k with
  | zero=>
   simp at hk;subst hk
   refine ⟨h2,?_⟩
   split at h1
   ·rename_i q hq;exact ⟨q,hq,h1⟩
   ·cases h1
  | succ k=>
   have:=h5 k T' (by simpa using hk)
   rw [show j+(k+1)=j+1+k by omega];exact this
theorem tup_exists {X:Tab}:∀ {ts:List X.Ty} {Q:Nat→(t:X.Ty)→X.den t→Prop},(∀ (j:Nat) t,ts[j]?=some t→∃ y,Q j t y)→∃ x:X.Tup ts,∀ j t y,getT ts x j=some ⟨t,y⟩→Q j t y
 | [],Q,h=>⟨(),fun j t y hj=>by cases hj⟩
 | t :: ts,Q,h=>by
  obtain ⟨y,hy⟩:=h 0 t rfl
  obtain ⟨x,hx⟩:=tup_exists (ts:=ts) (Q:=fun j=>Q (j+1)) fun j t hj=>h (j+1) t (by simpa using hj)
  refine ⟨(y,x),fun j t' y' hj=>?_⟩
  cases j with
  | zero=>
   simp only [getT,Option.some.injEq,Sigma.mk.injEq] at hj
   obtain ⟨rfl,hj⟩:=hj
   rw [←eq_of_heq hj];exact hy
  | succ j=>exact hx j t' y' hj
theorem list_exists {α:Type} {Q:Nat→α→Prop}:∀ {n:Nat},(∀ i,i < n→∃ y,Q i y)→∃ l:List α,l.length=n∧∀ (i:Nat) x,l[i]?=some x→Q i x
 | 0,_=>⟨[],rfl,fun i x h=>by simp at h⟩
 | n+1,h=>by
  obtain ⟨l,h1,h2⟩:=list_exists (n:=n) fun i hi=>h i (by omega)
  obtain ⟨y,hy⟩:=h n (by omega)
  refine ⟨l++[y],by simp [h1],fun i x hx=>?_⟩
  by_cases hi:i < n
  ·rw [List.getElem?_append_left (by omega)] at hx;exact h2 i x hx
  ·rw [List.getElem?_append_right (by omega)] at hx
   have hi':i=n:=by
    have:=(List.getElem?_eq_some_iff.1 hx).1
    simp at this;omega
   subst hi'
   simp [h1] at hx;subst hx;exact hy
theorem weightsAll_mem {H:Type} {e:TypeId} {n:Nat}:∀ {ds:List (DataW H)} {d:DataW H},d∈ds→n∈d.weights P e→n∈DataW.weightsAll P e ds
 | x :: ds,d,hd,hn=>by
  simp only [DataW.weightsAll,List.mem_append]
  rcases List.mem_cons.1 hd with rfl | hd
  ·exact .inl hn
  ·exact .inr (weightsAll_mem hd hn)
theorem cat_cut {cs:List Value} {off:Nat→Nat} {sz:Nat→Nat}:∀ {n:Nat},off 0=0→(∀ j,j < n→off (j+1)=off j+sz j)→off n≤cs.length→cat (fun j=>(cs.drop (off j)).take (sz j)) n=cs.take (off n)
 | 0,h0,_,_=>by simp [cat,h0]
 | n+1,h0,hs,hl=>by
  have h1:=hs n (by omega)
  rw [cat_succ,cat_cut h0 (fun j hj=>hs j (by omega)) (by omega),h1,List.take_add]
theorem cells_size {t:TypeId} {T:Γ.X.Ty} (h:tyC P Γ t=some T):P.cellsOf t=Γ.X.sz T:=by
 have:=(tyC_some h).2.1
 unfold sizeO at this
 unfold Program.cellsOf
 cases hi:P.info? t with
 | none=>rw [hi] at this;cases this
 | some i=>rw [hi] at this;simpa using this
theorem fit_ty {d:Nat} {t:TypeId} {T:Γ.X.Ty} (h:fitB P Γ d t T=true):tyC P Γ t=some T:=by
 cases d with
 | zero=>cases h
 | succ d=>
  simp only [fitB,Bool.and_eq_true] at h
  have h1:=h.1
  split at h1
  ·rename_i T' hT;rw [hT,of_decide_eq_true h1]
  ·cases h1
theorem fit_size {d:Nat} {t:TypeId} {T:Γ.X.Ty} (h:fitB P Γ d t T=true):P.cellsOf t=Γ.X.sz T:=cells_size (fit_ty h)
variable {w:World} {H:Type} {enc:TypeId×Value→H} {sp:Nat→Bool} {hd:Bool}
theorem trod_fit (hX:TabOk Γ.X):∀ (d:Nat) {t:TypeId} {T:Γ.X.Ty},fitB P Γ d t T=true→∀ {fuel:Nat} {cs:List Value} {dd:DataW H} {ps:List MemPlace},DataW.trod enc P w 0 sp hd fuel t cs=some (dd,ps)→(∀ n∈dd.weights P t,n≤reachBytes)→
  ∃ v,PRep w (· < w.heap.size) T v cs
 | 0,t,T,h,fuel,cs,dd,ps,ht,hw=>by cases h
 | d+1,t,T,h,0,cs,dd,ps,ht,hw=>by cases ht
 | d+1,t,T,h,fuel+1,cs,dd,ps,ht,hw=>by
  simp only [fitB,Bool.and_eq_true] at h
  obtain ⟨h1,h2⟩:=h
  have hty:tyC P Γ t=some T:=by
   split at h1
   ·rename_i T' hT;rw [hT,of_decide_eq_true h1]
   ·cases h1
  have hsz:=cells_size hty
  unfold DataW.trod at ht
  split at h2
  ·
   rename_i k k' hu
   have:=of_decide_eq_true h2;subst this
   rw [hu] at ht
   simp only [] at ht
   cases cs with
   | nil=>cases ht
   | cons c cs=>cases cs with
    | cons c2 cs=>cases c<;>cases ht
    | nil=>cases c with
     | int k' n=>
      simp only [] at ht
      split at ht
      ·rename_i hq
       obtain ⟨rfl,hwf⟩:=hq
       have hh:k'.has n:=by simpa [Lit.wf,IntKind.has] using hwf
       exact ⟨(⟨n,hh⟩:W k'),.int k' ⟨n,hh⟩⟩
      ·cases ht
     | _=>cases ht
  ·rename_i hu
   rw [hu] at ht
   cases cs with
   | nil=>cases ht
   | cons c cs=>cases cs with
    | cons c2 cs=>cases c<;>cases ht
    | nil=>cases c with
     | bool b=>exact ⟨b,.bool b⟩
     | _=>cases ht
  ·rename_i hu
   rw [hu] at ht
   cases cs with
   | nil=>cases ht
   | cons c cs=>cases cs with
    | cons c2 cs=>cases c<;>cases ht
    | nil=>cases c with
     | string s0=>
      simp only [] at ht
      split at ht
      ·cases ht
       have hr:s0.data.toList.length≤room:=by
        have:=hw s0.data.toList.length (by simp [DataW.weights])
        simp only [reachBytes] at this
        unfold room;omega
       refine ⟨(⟨s0.data.toList,hr⟩:Str),?_⟩
       have:=PRep.str (X:=Γ.X) (w:=w) (F:=(· < w.heap.size)) ⟨s0.data.toList,hr⟩
       simpa using this
      ·cases ht
     | _=>cases ht
  ·
   rename_i fs i hu
   rw [hu] at ht
   simp only [] at ht
   split at ht
   ·rename_i hcl
    obtain ⟨xs,hxs,hx⟩:=Option.map_eq_some_iff.1 ht
    cases hx
    obtain ⟨f1,f2⟩:=fitFs_spec h2
    have hlen:=mapM_some_length hxs
    have hget:=mapM_some_get hxs
    have hoff:∀ (j:Nat),j < (Γ.X.fields i).length→∃ q T',fs[j]?=some q∧(Γ.X.fields i)[j]?=some T'∧q.offset=Γ.X.off i j∧P.cellsOf q.type=Γ.X.sz T'∧fitB P Γ d q.type T'=true:=fun j hj=>by
     obtain ⟨T',hT'⟩:∃ T',(Γ.X.fields i)[j]?=some T':=⟨_,List.getElem?_eq_getElem hj⟩
     obtain ⟨g1,q,g2,g3⟩:=f2 j T' hT'
     rw [Nat.zero_add] at g1 g2
     obtain ⟨q',T'',k1,k2,k3,k4,k5⟩:=fldOk_some g1
     rw [g2] at k1;cases k1
     rw [hT'] at k2;cases k2
     exact ⟨q,T',g2,hT',k3,cells_size k4,g3⟩
    have hw':∀ (j:Nat) q y,fs[j]?=some q→xs[j]?=some y→∀ n∈y.1.weights P q.type,n≤reachBytes:=fun j q y hq hy n hn=>by
     refine hw n ?_
     simp only [DataW.weights,hu]
     exact DataW.weights_mem_each (j:=j) (by simp [hq]) (by simp [hy]) n hn
    obtain ⟨x,hx⟩:=tup_exists (ts:=Γ.X.fields i) (Q:=fun j T' y=>PRep w (· < w.heap.size) T' y ((cs.drop (Γ.X.off i j)).take (Γ.X.sz T'))) fun j T' hj=>by
     obtain ⟨q,T'',g1,g2,g3,g4,g5⟩:=hoff j (List.getElem?_eq_some_iff.1 hj).1
     rw [hj] at g2;cases g2
     have hj':fs.toList[j]?=some q:=by simpa using g1
     have hgj:=hget j q hj'
     have hjx:j < xs.length:=by
      rw [hlen];exact (List.getElem?_eq_some_iff.1 hj').1
     rw [List.getElem?_eq_getElem hjx,g3,g4] at hgj
     exact trod_fit hX d g5 (dd:=xs[j].1) (ps:=xs[j].2) hgj (hw' j q xs[j] g1 (List.getElem?_eq_getElem hjx))
    let sz:Nat→Nat:=fun j=>match (Γ.X.fields i)[j]? with | some T'=>Γ.X.sz T' | none=>0
    have hcut:=cat_cut (cs:=cs) (off:=fun j=>Γ.X.off i j) (sz:=sz) (n:=(Γ.X.fields i).length) (by simp [Tab.off,Tab.szs]) (fun j hj=>by
      have hT:(Γ.X.fields i)[j]?=some (Γ.X.fields i)[j]:=List.getElem?_eq_getElem hj
      show Γ.X.szs _=Γ.X.szs _+sz j
      rw [szs_take _ hT]
      show _=_+(match (Γ.X.fields i)[j]? with | some T'=>Γ.X.sz T' | none=>0)
      rw [hT]) (by
      show Γ.X.szs ((Γ.X.fields i).take _)≤_
      rw [List.take_length,hcl,hsz]
      exact Nat.le_of_eq (hX.sz i).symm)
    refine ⟨Γ.X.of i x,?_⟩
    have hcs:cat (fun j=>(cs.drop (Γ.X.off i j)).take (sz j)) (Γ.X.fields i).length=cs:=by
     rw [hcut]
     show cs.take (Γ.X.szs ((Γ.X.fields i).take _))=cs
     rw [List.take_length,←hX.sz i]
     refine List.take_of_length_le ?_
     rw [hcl,hsz];exact Nat.le_refl _
    rw [←hcs]
    refine .named i _ _ fun j T' y hj=>?_
    rw [hX.to_of] at hj
    have hTj:=getT_type hj
    have:=hx j T' y hj
    show PRep w _ T' y ((cs.drop (Γ.X.off i j)).take (match (Γ.X.fields i)[j]? with | some T'=>Γ.X.sz T' | none=>0))
    rw [hTj]
    exact this
   ·cases ht
  ·
   rename_i n el m T' hu
   rw [hu] at ht
   simp only [] at ht
   simp only [Bool.and_eq_true,decide_eq_true_eq] at h2
   obtain ⟨rfl,h3⟩:=h2
   split at ht
   ·rename_i hcl
    obtain ⟨xs,hxs,hx⟩:=Option.map_eq_some_iff.1 ht
    cases hx
    have hlen:=mapM_some_length hxs
    have hget:=mapM_some_get hxs
    rw [List.length_range] at hlen
    have hel:P.cellsOf el=Γ.X.sz T':=fit_size h3
    obtain ⟨l,g1,g2⟩:=list_exists (n:=n) (Q:=fun j y=>PRep w (· < w.heap.size) T' y ((cs.drop (j*Γ.X.sz T')).take (Γ.X.sz T'))) fun j hj=>by
     have hgj:=hget j j (by simp [hj])
     rw [List.getElem?_eq_getElem (by omega),hel] at hgj
     refine trod_fit hX d h3 (dd:=(xs[j]'(by omega)).1) (ps:=(xs[j]'(by omega)).2) hgj fun n hn=>hw n ?_
     simp only [DataW.weights,hu]
     exact weightsAll_mem (List.mem_map.2 ⟨_,List.getElem_mem (by omega),rfl⟩) hn
    have hcut:=cat_cut (cs:=cs) (off:=fun j=>j*Γ.X.sz T') (sz:=fun _=>Γ.X.sz T') (n:=n) (by simp) (fun j hj=>Nat.succ_mul j _) (by rw [hcl,hsz];exact Nat.le_refl _)
    refine ⟨(⟨l,g1⟩:Arr n (Γ.X.den T')),?_⟩
    have hcs:cat (fun j=>(cs.drop (j*Γ.X.sz T')).take (Γ.X.sz T')) n=cs:=by
     rw [hcut]
     refine List.take_of_length_le ?_
     rw [hcl,hsz];exact Nat.le_refl _
    rw [←hcs]
    exact .arr n T' _ _ fun j y hj=>g2 j y hj
   ·cases ht
  ·
   rename_i el b T' hu
   rw [hu] at ht
   simp only [] at ht
   simp only [Bool.and_eq_true,decide_eq_true_eq] at h2
   obtain ⟨⟨⟨hb1,hb2⟩,hs0⟩,h3⟩:=h2
   have hel:P.cellsOf el=Γ.X.sz T':=fit_size h3
   have hby:P.bytesOf el=b:=by
    unfold bytesO at hb1
    unfold Program.bytesOf
    rw [hb1];rfl
   cases cs with
   | nil=>cases ht
   | cons c cs=>cases cs with
    | cons c2 cs=>cases c with
     | slice a l c=>cases a with
      | none=>cases l<;>cases c<;>cases ht
      | some _=>cases ht
     | _=>cases ht
    | nil=>cases c with
     | slice a len cap=>
      cases a with
      | none=>
       cases len with
       | succ _=>cases ht
       | zero=>cases cap with
        | succ _=>cases ht
        | zero=>
         refine ⟨(Sl.nil:Sl b (Γ.X.den T')),?_⟩
         exact .slice b T' Sl.nil none 0 (fun _=>[]) (Nat.le_refl _) (fun h=>absurd rfl h) fun i x hi=>by simp [Sl.nil] at hi
      | some ad=>
       simp only [] at ht
       split at ht
       ·rename_i hcond
        obtain ⟨xs,hxs,ht⟩:=Option.bind_eq_some_iff.1 ht
        obtain ⟨rest,hrest,hx⟩:=Option.map_eq_some_iff.1 ht
        cases hx
        have hlen:=mapM_some_length hxs
        have hget:=mapM_some_get hxs
        rw [List.length_range] at hlen
        have hwt:(len+rest.length)*b≤reachBytes:=by
         have:=hw ((len+rest.length)*b) (by simp [DataW.weights,hu,hlen,hby])
         exact this
        have hroom:len*b≤room∧len≤room:=by
         have h1:len*b≤(len+rest.length)*b:=Nat.mul_le_mul_right _ (by omega)
         have h2:len*1≤len*b:=Nat.mul_le_mul_left _ hb2
         simp only [reachBytes] at hwt
         unfold room
         constructor<;>omega
        have each:∀ j,j < len→∃ cj,w.cells? 0 (ad.add (j*P.cellsOf el)) (P.cellsOf el)=some cj∧∃ y,PRep w (· < w.heap.size) T' y cj:=fun j hj=>by
         have hgj:=hget j j (by simp [hj])
         rw [List.getElem?_eq_getElem (by omega)] at hgj
         obtain ⟨cj,hc1,hc2⟩:=Option.bind_eq_some_iff.1 hgj
         refine ⟨cj,hc1,?_⟩
         refine trod_fit hX d h3 (dd:=(xs[j]'(by omega)).1) (ps:=(xs[j]'(by omega)).2) hc2 fun n hn=>hw n ?_
         simp only [DataW.weights,hu]
         exact List.mem_cons_of_mem _ (List.mem_append_left _ (weightsAll_mem (List.mem_map.2 ⟨_,List.getElem_mem (by omega),rfl⟩) hn))
        obtain ⟨css,hcss⟩:∃ css:Nat→List Value,∀ j,j < len→w.cells? 0 (ad.add (j*P.cellsOf el)) (P.cellsOf el)=some (css j)∧∃ y,PRep w (· < w.heap.size) T' y (css j):=by
         classical
         refine ⟨fun j=>if hj:j < len then (each j hj).choose else [],fun j hj=>?_⟩
         simp only [dif_pos hj];exact (each j hj).choose_spec
        obtain ⟨l,g1,g2⟩:=list_exists (n:=len) (Q:=fun j y=>PRep w (· < w.heap.size) T' y (css j)) fun j hj=>(hcss j hj).2
        refine ⟨(⟨l,by rw [g1];exact hroom⟩:Sl b (Γ.X.den T')),?_⟩
        obtain ⟨blk,off,spot⟩:=ad
        have:=PRep.slice (w:=w) (F:=(· < w.heap.size)) b T' (⟨l,by rw [g1];exact hroom⟩:Sl b (Γ.X.den T')) (some ⟨blk,off,spot⟩) cap css (by show l.length≤cap;rw [g1];exact hcond.2.1) (fun hne=>by
         have hpos:0 < len:=by
          rw [←g1];exact List.length_pos_iff.2 hne
         obtain ⟨c1,c2,c3⟩:=World.cells?_some (hcss 0 hpos).1
         have hlt:=World.cells?_block (hcss 0 hpos).1 (by rw [hel];exact hs0)
         have hsp:spot=none:=by
          have h0:=c3 0 (by rw [hel];exact hs0)
          rw [List.getElem?_eq_getElem (by rw [c2,hel];exact hs0)] at h0
          have:=World.cell?_spot h0
          simpa [Addr.add] using this
         subst hsp
         refine ⟨blk,off,rfl,by simpa [Addr.add] using hlt,fun i j u hi hj=>?_⟩
         have hi':i < len:=by rw [←g1];exact hi
         obtain ⟨d1,d2,d3⟩:=World.cells?_some (hcss i hi').1
         have:=d3 j (by rw [←d2];exact (List.getElem?_eq_some_iff.1 hj).1)
         rw [hj] at this
         rw [←this]
         simp [addr_add,hel]) fun i x hi=>g2 i x hi
        have hl:(⟨l,by rw [g1];exact hroom⟩:Sl b (Γ.X.den T')).l.length=len:=g1
        have key:∀ n,n=len→PRep w (· < w.heap.size) (.slice b T') (⟨l,by rw [g1];exact hroom⟩:Sl b (Γ.X.den T')) [.slice (some ⟨blk,off,spot⟩) n cap]→PRep w (· < w.heap.size) (.slice b T') (⟨l,by rw [g1];exact hroom⟩:Sl b (Γ.X.den T')) [.slice (some ⟨blk,off,spot⟩) len cap]:=fun n hn h=>hn ▸ h
        exact key _ hl this
       ·cases ht
     | _=>cases ht
  ·cases h2
def fitAll (P:Program) (Γ:Cx):List TypeId→List (Sk Γ.X)→Bool
 | [],[]=>true
 | t :: ts,.val T .no :: ks=>fitB P Γ depthC t T&&fitAll P Γ ts ks
 | _,_=>false
theorem arg_val {d:Nat} {t:TypeId} {T:Γ.X.Ty} (h:fitB P Γ d t T=true) {r:Reach} {b:Nat} {v:Value} (hv:Value.okWide P w r b t v) {F:Nat→Prop} {y:Γ.X.den T} (hy:PRep w F T y v.cells.toList):URep w F (.val T y .no) v []:=by
 refine .val T y .no v v.cells.toList [] (.pure hy) ?_
 cases d with
 | zero=>cases h
 | succ d=>
  simp only [fitB,Bool.and_eq_true] at h
  have h2:=h.2
  unfold valOk
  unfold Value.okWide at hv
  split at h2
  ·rename_i hu;rw [hu] at hv;rw [if_neg (by simp [aggB])]
   cases v<;>simp [Cell.okWide,Cell.ok,hu] at hv ⊢<;>rfl
  ·rename_i hu;rw [hu] at hv;rw [if_neg (by simp [aggB])]
   cases v<;>simp [Cell.okWide,Cell.ok,hu] at hv ⊢<;>rfl
  ·rename_i hu;rw [hu] at hv;rw [if_neg (by simp [aggB])]
   cases v<;>simp [Cell.okWide,Cell.ok,hu] at hv ⊢<;>rfl
  ·rename_i hu;rw [hu] at hv;rw [if_pos (by rfl)]
   obtain ⟨cs,rfl,_⟩:=hv
   show Value.agg cs=.agg cs.toList.toArray
   rw [Array.toArray_toList]
  ·rename_i hu;rw [hu] at hv;rw [if_pos (by rfl)]
   obtain ⟨cs,rfl,_⟩:=hv
   show Value.agg cs=.agg cs.toList.toArray
   rw [Array.toArray_toList]
  ·rename_i hu;rw [hu] at hv;rw [if_neg (by simp [aggB])]
   cases v<;>first | rfl | simp [Cell.okWide,Cell.ok,hu] at hv
  ·cases h2
theorem args_fit (hX:TabOk Γ.X) {r:Reach} {b:Nat}:∀ {ts:List TypeId} {ks:List (Sk Γ.X)} (_:fitAll P Γ ts ks=true) {vs:List Value} {ds:List (DataW H)} {ps:List MemPlace} (_:DataW.TrodAll enc P w 0 sp hd ts vs ds ps)
  (_:∀ (i:Nat) t v,ts[i]?=some t→vs[i]?=some v→Value.okWide P w r b t v) (_:∀ n∈DataW.weightsEach P ts ds,n≤reachBytes),
  ∃ d:SkA ks,(SkA.put ks d).length=vs.length∧∀ (i:Nat) x v,(SkA.put ks d)[i]?=some x→vs[i]?=some v→FRep w (· < w.heap.size) x v []
 | [],ks,h,vs,ds,ps,ht,hv,hw=>by
  obtain ⟨rfl,rfl,rfl⟩:=trodAll_nil ht
  cases ks with
  | nil=>exact ⟨(),rfl,fun i x v hx=>by simp [SkA.put] at hx⟩
  | cons k ks=>cases h
 | t :: ts,ks,h,vs,ds,ps,ht,hv,hw=>by
  obtain ⟨v,vs1,d,ds1,p1,p2,rfl,rfl,rfl,h1,h2⟩:=trodAll_cons ht
  cases ks with
  | nil=>cases h
  | cons k ks=>
   cases k with
   | val T o=>
    cases o with
    | no=>
     simp only [fitAll,Bool.and_eq_true] at h
     obtain ⟨g1,g2⟩:=h
     obtain ⟨fuel,h1⟩:=h1
     obtain ⟨y,hy⟩:=trod_fit hX depthC g1 h1 fun n hn=>hw n (by simp only [DataW.weightsEach,List.mem_append];exact .inl hn)
     obtain ⟨dd,k1,k2⟩:=args_fit hX g2 h2 (fun i t' v' ht hv'=>hv (i+1) t' v' (by simpa using ht) (by simpa using hv')) fun n hn=>hw n (by simp only [DataW.weightsEach,List.mem_append];exact .inr hn)
     refine ⟨(y,dd),by show (_ :: SkA.put ks dd).length=_;simp [k1],fun i x u hx hu=>?_⟩
     cases i with
     | zero=>
      simp at hu;subst hu
      have hx:some (AV.val T y .no)=some x:=hx
      cases hx
      exact .u (arg_val g1 (hv 0 t v rfl rfl) hy)
     | succ i=>exact k2 i x u (by simpa [SkA.put] using hx) (by simpa using hu)
    | _=>cases h
   | _=>cases h
end
theorem trodAll_length {H:Type} {enc:TypeId×Value→H} {P:Program} {w:World} {base:Nat} {sp:Nat→Bool} {hd:Bool}:∀ {ts:List TypeId} {vs:List Value} {ds:List (DataW H)} {ps:List MemPlace},DataW.TrodAll enc P w base sp hd ts vs ds ps→vs.length=ts.length∧ds.length=ts.length
 | [],_,_,_,h=>by
  obtain ⟨rfl,rfl,rfl⟩:=trodAll_nil h
  exact ⟨rfl,rfl⟩
 | _ :: _,_,_,_,h=>by
  obtain ⟨v,vs1,d,ds1,a,b,rfl,rfl,rfl,h1,h2⟩:=trodAll_cons h
  obtain ⟨g1,g2⟩:=trodAll_length h2
  exact ⟨by simp [g1],by simp [g2]⟩
theorem trodAll_below {H:Type} {enc:TypeId×Value→H} {P:Program} (hl:laidOutB P=true) {W W':World} (hb:Below W.heap.size W W'):
  ∀ {ts:List TypeId} {vs:List Value} {ds:List (DataW H)} {ps:List MemPlace},(∀ t∈ts,P.readableRec t=true∧t < P.types.size)→DataW.TrodAll enc P W 0 (fun _=>true) true ts vs ds ps→(∀ x∈ps,x.block < W.heap.size)→
  DataW.TrodAll enc P W' 0 (fun b=>decide (b < W.heap.size)) true ts vs ds ps
 | [],_,_,_,_,h,_=>by
  obtain ⟨rfl,rfl,rfl⟩:=trodAll_nil h
  exact rfl
 | t :: _,_,_,_,ht,h,hlt=>by
  obtain ⟨v,vs1,d,ds1,a,b,rfl,rfl,rfl,h1,h2⟩:=trodAll_cons h
  have:=ht t (by simp)
  exact ⟨a,b,Below.trod hl this.1 this.2 h1 hb fun x hx=>hlt x (by simp [hx]),trodAll_below hl hb (fun t h=>ht t (by simp [h])) h2 fun x hx=>hlt x (by simp [hx]),rfl⟩
theorem lift_law {C:Checked} {Γ:Cx} (hX:TabOk Γ.X) {f:Nat} {fn:Func} {s:ChangeSpec} (hl:laidOutB C.prog=true) (hvars:s.vars=[])
  (hs:∀ (H:Type) (ds:List (DataW H)),ds.length=fn.params.size→s.fn H ds={ results:=[.lit (.bool true)],args:=ds })
  {tb:TypeId} (hres:fn.resultTypes=#[tb]) (hbool:C.prog.underlying tb=some .bool) (hread:(fn.params.toList.all fun t=>C.prog.readableRec t&&decide (t < C.prog.types.size))=true)
  {K:FnK Γ.X} (hfit:fitAll C.prog Γ fn.params.toList K.sk=true) (hok:FnOk C.prog f K) (htrue:∀ d,∃ r,K.f d=some r∧(K.enc r).1=.val .bool true .no)
  {H:Type} {enc:TypeId×Value→H} {W:World} {base:Nat} {args:Array Value} {ds gs:List (DataW H)} {before:List MemPlace}
  (hval:∀ (j:Nat) t v,fn.params[j]?=some t→args[j]?=some v→Value.okWide C.prog W .any base t v)
  (hW:DataW.Whole enc C.prog fn.params.toList s.vars false W args.toList ds gs before)
  (hz:(DataW.weightsEach C.prog (fn.params.toList++s.plain.varTypes C.prog) (ds++gs)).all (·≤reachBytes)=true) (hgl:GlobIn Γ.X (· < W.heap.size) W):
  Calls C.prog f args W fun e W'=>∃ v,e=.returned v∧s.post enc C.prog fn false true false false W args v W':=by
 have hWW:=hW
 obtain ⟨p,q,hA,hV,hpq,hnf,hnd⟩:=hW
 rw [hvars] at hV
 obtain ⟨rfl,rfl⟩:=trodVars_none hV
 have hlen:=trodAll_length hA
 obtain ⟨d,hdl,hrep⟩:=args_fit (w:=W) hX hfit hA (r:=.any) (b:=base) (fun i t v ht hv=>hval i t v (by simpa using ht) (by simpa using hv)) fun n hn=>by
  have:=List.all_eq_true.1 hz n (by
   rw [List.append_nil]
   have each:∀ {ts us:List TypeId} {ds:List (DataW H)},ds.length=ts.length→DataW.weightsEach C.prog (ts++us) ds=DataW.weightsEach C.prog ts ds:=fun {ts}=>by
    induction ts with
    | nil=>
     intro us ds hd
     have:ds=[]:=List.eq_nil_of_length_eq_zero (by simpa using hd)
     subst this
     cases us<;>rfl
    | cons t ts ih=>
     intro us ds hd
     cases ds with
     | nil=>cases hd
     | cons x ds=>
      simp only [List.cons_append,DataW.weightsEach]
      rw [ih (by simpa using hd)]
   rw [each hlen.2];exact hn)
  exact of_decide_eq_true this
 obtain ⟨rr,hr,htr⟩:=htrue d
 obtain ⟨hk,hcall⟩:=hok d rr hr
 have:=hcall.1 W (· < W.heap.size) args.toList (fun _=>[]) (fun _ h=>h) hgl hdl (fun i x v h1 h2=>.f (hrep i x v h1 h2)) (fun _=>List.nodup_nil) (fun _ _ _ _ h=>by cases h) (fun _ _ h=>by cases h)
 rw [Array.toArray_toList] at this
 refine this.mono fun e W' ⟨v,F',R,So,he,hbelow,ht,_⟩=>?_
 have hv:v=.bool true:=by
  rw [htr] at ht
  cases ht with
  | u h=>cases h with
   | val T v o u cs S h hu=>
    have:=h.boolInv
    subst this
    unfold valOk at hu
    rw [if_neg (by simp [aggB])] at hu
    exact (List.cons.inj hu).1.symm
 subst hv
 have hb:Below W.heap.size W W':=⟨hbelow.os,hbelow.tape,hbelow.output,hbelow.size,fun k hk=>hbelow.block k hk fun h=>by
  rcases h with h | ⟨i,h⟩
  ·omega
  ·cases h⟩
 have hlt:∀ x∈p,x.block < W.heap.size:=fun x hx=>by
  have:=hWW.lt x (by rw [hpq];simp [hx])
  exact this
 have hfn:=hs H (ds++[]) (by simp [hlen.2])
 refine ⟨.bool true,he,ds,[],before,[],p,[],hWW,?_,?_,?_,hb.frame _,fun h=>by cases h⟩
 ·rw [hfn,hres]
  exact ⟨[],[],⟨1,by simp [DataW.trod,hbool,Value.cells]⟩,rfl,rfl⟩
 ·rw [hfn]
  simp only [List.append_nil]
  refine trodAll_below hl hb (fun t ht=>?_) hA hlt
  have:=List.all_eq_true.1 hread t ht
  simpa using this
 ·rw [hfn,hvars]
  exact rfl
end Go.A2
namespace Go.A2
open Go
theorem cell_lt {w:World} {b o:Nat} {u:Value} (h:w.cell? ⟨b,o,none⟩=some u):b < w.heap.size:=by
 apply Classical.byContradiction
 intro hb
 have:w.heap[b]?=none:=Array.getElem?_eq_none (by omega)
 unfold World.cell? at h
 rw [this] at h
 cases h
theorem glob_arr {P:Program} {W:World} {name:String} {g t e n:Nat} {k:IntKind} {ks:List Int} (hg:P.globalNamed name=some g) (ht:(P.globals[g]?).map (·.type)=some t)
  (hu:P.underlying t=some (.array n e)) (he:P.underlying e=some (.int k)) (hc:P.cellsOf e=1) (hn:ks.length=n) (h0:0 < n)
  (h:laidMetH P [(name,.agg (ks.map fun z=>.lit (.int k z)))] W) (hp:([(name,(.agg (ks.map fun z=>.lit (.int k z)):DataW Unit))].all fun x=>x.2.handleName?.isNone)=true):
  g < W.heap.size∧∀ (j:Nat) u,(ks.map (Value.int k))[j]?=some u→W.cell? ⟨g,j,none⟩=some u:=by
 rw [MakeChecks.laidMetH_plain _ _ _ hp] at h
 obtain ⟨ps,⟨g',t',cs,f,p,q,hg',ht',hv,hd,_,_⟩,_,_⟩:=h
 obtain rfl:=Option.some.inj (hg.symm.trans hg')
 obtain rfl:=Option.some.inj (ht.symm.trans ht')
 obtain ⟨xs,m,rfl,hx,_,hlen,hel⟩:=DataW.trod_array hu hd
 have hx1:ks.map (fun z=>(DataW.lit (Lit.int k z):DataW Unit))=xs.map (·.1):=by
  have:=congrArg Prod.fst hx
  simpa using this
 have cell:∀ (j:Nat) u,(ks.map (Value.int k))[j]?=some u→W.cell? ⟨g,j,none⟩=some u:=fun j u hj=>by
  obtain ⟨hjl,rfl⟩:=List.getElem?_eq_some_iff.1 hj
  rw [List.length_map] at hjl
  have hxj:xs[j]?=some xs[j]:=List.getElem?_eq_getElem (by omega)
  have h1:=(hel j (by omega)).trans hxj
  rw [hc,Nat.mul_one] at h1
  obtain ⟨z,e1,e2,_⟩:=DataW.trod_int he h1
  have e3:(ks.map (fun z=>(DataW.lit (Lit.int k z):DataW Unit)))[j]?=(xs.map (·.1))[j]?:=by rw [hx1]
  rw [List.getElem?_map,List.getElem?_map,hxj,List.getElem?_eq_getElem hjl,e2] at e3
  have hz:ks[j]=z:=by
   simp only [Option.map_some,Option.some.injEq,DataW.lit.injEq,Lit.int.injEq,true_and] at e3
   exact e3
  rw [World.var?_cell hg hv j,List.getElem_map,hz]
  have e4:cs.toList[j]?=some (.int k z):=by
   have:(cs.toList.drop j)[0]?=some (.int k z):=by
    cases hl:cs.toList.drop j with
    | nil=>rw [hl] at e1;simp at e1
    | cons a l=>
     rw [hl] at e1
     simp at e1
     rw [e1];rfl
   rwa [List.getElem?_drop,Nat.add_zero] at this
  simpa using e4
 have h00:=cell 0 (.int k (ks[0]'(by omega))) (by rw [List.getElem?_map,List.getElem?_eq_getElem (by omega)];rfl)
 exact ⟨cell_lt h00,cell⟩
end Go.A2
