/- YtchpjkadpdajkaaGreatDoorA2B: parts of the machine and its laws, in one text. No statement of the seat is proved here. -/
import Derived.Test.YtchpjkadpdajkaaGreatDoorA2Take
import Derived.Laws.Entries
import Derived.Laws.Small
import Derived.Laws.StructEq
import Derived.Laws.Strings
import Derived.Laws.Tables
set_option linter.unusedSimpArgs false
set_option linter.unusedVariables false
namespace Go.A2
section
variable {P:Program} {Γ:Cx}
section runs
variable {w:World}
theorem run_underlying' {t:TypeId} {d:TypeDesc} (h:P.underlying t=some d):(underlying t).run P w=.ok d w:=by
 simp [underlying,h]
theorem run_typeInfo' {t:TypeId} {i:TypeInfo} (h:P.info? t=some i):(typeInfo t).run P w=.ok i w:=by
 simp [typeInfo,h]
theorem run_sizeO {t:TypeId} {n:Nat} (h:sizeO P t=some n):(sizeOf t).run P w=.ok n w:=by
 unfold sizeO at h
 cases hi:P.info? t with
 | none=>simp [hi] at h
 | some i=>simp [hi] at h;simp [sizeOf,run_typeInfo' hi,h]
theorem run_isAggT {t:TypeId} {b:Bool} (h:isAggT P t=some b):(isAgg t).run P w=.ok b w:=by
 unfold isAggT at h
 split at h
 ·rename_i fs hu;simp at h;subst h;simp [isAgg,run_underlying' hu]
 ·rename_i n e hu;simp at h;subst h;simp [isAgg,run_underlying' hu]
 ·rename_i d h1 h2 hu
  simp at h;subst h
  simp only [isAgg,Sem.run_bind,run_underlying' hu,Result.andThen_ok]
  rfl
 ·cases h
theorem tyC_some {t:TypeId} {T:Γ.X.Ty} (h:tyC P Γ t=some T):Γ.ty t=some T∧sizeO P t=some (Γ.X.sz T)∧isAggT P t=some (aggB T):=by
 unfold tyC at h
 split at h
 ·rename_i T' n b h1 h2 h3
  split at h
  ·rename_i hc
   simp only [Option.some.injEq] at h;subst h
   exact ⟨h1,by rw [h2,hc.1],by rw [h3,hc.2]⟩
  ·cases h
 ·cases h
theorem run_loadCells' {b o m:Nat} {vs:List Value} (hl:vs.length=m) (h:∀ (j:Nat) v,vs[j]?=some v→w.cell? ⟨b,o+j,none⟩=some v):(loadCells ⟨b,o,none⟩ m).run P w=.ok vs.toArray w:=by
 subst hl
 have hadd:∀ j,(⟨b,o,none⟩:Addr).add j=⟨b,o+j,none⟩:=fun j=>by unfold Addr.add;split<;>simp_all
 rw [run_loadCells_list (P:=P) w ⟨b,o,none⟩ vs fun j v hj=>by rw [hadd];exact h j v hj]
theorem addr_add (b o k:Nat):(⟨b,o,none⟩:Addr).add k=⟨b,o+k,none⟩:=by unfold Addr.add;split<;>simp_all
theorem run_loadVar' {t:TypeId} {T:Γ.X.Ty} (ht:tyC P Γ t=some T) {b o:Nat} {cs:List Value} (hl:cs.length=Γ.X.sz T) (h:∀ (j:Nat) v,cs[j]?=some v→w.cell? ⟨b,o+j,none⟩=some v):
  ∃ u,(loadVar t ⟨b,o,none⟩).run P w=.ok u w∧valOk T cs u:=by
 obtain ⟨_,h2,h3⟩:=tyC_some ht
 unfold loadVar
 cases hb:aggB T with
 | true=>
  rw [hb] at h3
  refine ⟨.agg cs.toArray,?_,by unfold valOk;rw [if_pos hb]⟩
  simp [run_isAggT h3,run_sizeO h2,run_loadCells' (P:=P) hl h]
 | false=>
  rw [hb] at h3
  have hs1:Γ.X.sz T=1:=by cases T<;>first | rfl | simp [aggB] at hb
  rw [hs1] at hl
  cases cs with
  | nil=>cases hl
  | cons c cs=>
   cases cs with
   | cons=>simp at hl
   | nil=>
    refine ⟨c,?_,by unfold valOk;rw [if_neg (by simp [hb])]⟩
    have:=h 0 c rfl
    simp [run_isAggT h3,run_load,show w.cell? ⟨b,o,none⟩=some c from this]
end runs
section
variable {K:List Nat} {N:Slots} {F0 B U:Nat→Prop} {w0:World} {F:Nat→Prop} {S:Nat→List Nat} {e:Env Γ.X} {a:Act} {w:World}
def Sim (N:Slots) (F0 B U:Nat→Prop) (w0:World) (e:Env Γ.X) (a:Act) (w:World):Prop:=∃ F S,EnvRel N F0 B U w0 F S e a w
def withG (U:Nat→Prop) (g:Nat):Nat→Prop:=fun x=>U x∨x=g
theorem EnvRel.out (h:EnvRel N F0 B U w0 F S e a w) {d:Option Nat} (hd:∀ k,d=some k→N.ok k) {g:Nat} (hg:¬ U g) {x:AV Γ.X} {u:Value} {T:List Nat} (hh:Hand B U F S e a w x u T) (hx:OwnsG (·=g) x):
  Sim N F0 B (withG U g) w0 (applyU e (outU d x)) (a.put d u) w:=by
 cases d with
 | none=>exact ⟨F,S,h.weakU fun _ h=>.inl h⟩
 | some d=>exact ⟨F,_,h.set (hd d rfl) hg hh hx⟩
theorem OwnsG_pure {g:Nat} {T:Γ.X.Ty} {v:Γ.X.den T} {o:Own} (h:o.pure=true):OwnsG (·=g) (.val T v o:AV Γ.X):=OGen_pure h
theorem EnvRel.outV (h:EnvRel N F0 B U w0 F S e a w) {d:Option Nat} (hd:∀ k,d=some k→N.ok k) {g:Nat} (hg:¬ U g) {T:Γ.X.Ty} {v:Γ.X.den T} {o:Own} {u:Value} {cs:List Value} (ho:o.pure=true) (hv:VRep w F T v o cs []) (hu:valOk T cs u):
  Sim N F0 B (withG U g) w0 (applyU e (outU d (.val T v o))) (a.put d u) w:=
 h.out hd hg (Hand.ofPure (.u (.val T v o u cs [] hv hu)) trivial) (OwnsG_pure ho)
def Looks (N:Slots) (F0 B U:Nat→Prop) (w0:World) (P:Program) (e:Env Γ.X) (a:Act) (w:World) (g:Nat) (o:Oper) (u:Ups Γ.X):Prop:=
 ∃ v,(execOp a.eval o).run P w=.ok (.value v) w∧Sim N F0 B (withG U g) w0 (applyU e u) (a.put o.dst v) w
theorem Looks.wp {g:Nat} {o:Oper} {u:Ups Γ.X} (h:Looks N F0 B U w0 P e a w g o u) {next:Act→World→Prop} {Q:Exit→Act→World→Prop} (hnext:∀ a' w',Sim N F0 B (withG U g) w0 (applyU e u) a' w'→next a' w'):o.wp P a w next Q:=by
 obtain ⟨v,h1,h2⟩:=h
 unfold Oper.wp
 rw [h1]
 exact hnext _ _ h2
theorem EnvRel.rdBool (hX:TabOk Γ.X) (h:EnvRel N F0 B U w0 F S e a w) {T0:Option Γ.X.Ty} {Y:Operand} {x:AX Γ.X} (hx:compX Γ K T0 Y=some x) {b:Bool} {o:Own} (hr:Go.A2.rd e x=.val .bool b o):a.eval Y=.bool b:=by
 obtain ⟨cs,R,h1,h2⟩:=h.rdVal hX hx hr
 unfold valOk at h2
 rw [if_neg (by simp [aggB])] at h2
 subst h2
 have:=h1.boolInv
 simpa using this
theorem EnvRel.rdInt (hX:TabOk Γ.X) (h:EnvRel N F0 B U w0 F S e a w) {T0:Option Γ.X.Ty} {Y:Operand} {x:AX Γ.X} (hx:compX Γ K T0 Y=some x) {k:IntKind} {n:W k} {o:Own} (hr:Go.A2.rd e x=.val (.int k) n o):a.eval Y=.int k n.n:=by
 obtain ⟨cs,R,h1,h2⟩:=h.rdVal hX hx hr
 unfold valOk at h2
 rw [if_neg (by simp [aggB])] at h2
 subst h2
 have:=h1.intInv
 simpa using this
theorem EnvRel.rdStr (hX:TabOk Γ.X) (h:EnvRel N F0 B U w0 F S e a w) {T0:Option Γ.X.Ty} {Y:Operand} {x:AX Γ.X} (hx:compX Γ K T0 Y=some x) {s:Str} {o:Own} (hr:Go.A2.rd e x=.val .str s o):a.eval Y=.string ⟨s.l.toArray⟩:=by
 obtain ⟨cs,R,h1,h2⟩:=h.rdVal hX hx hr
 unfold valOk at h2
 rw [if_neg (by simp [aggB])] at h2
 subst h2
 have:=h1.strInv
 simpa using this
theorem EnvRel.outInt (h:EnvRel N F0 B U w0 F S e a w) {d:Option Nat} (hd:∀ k,d=some k→N.ok k) {g:Nat} (hg:¬ U g) (k:IntKind) (n:W k):Sim N F0 B (withG U g) w0 (applyU e (outU d (.val (.int k) n .no))) (a.put d (.int k n.n)) w:=
 h.outV hd hg rfl (.pure (.int k n)) rfl
theorem EnvRel.outBool (h:EnvRel N F0 B U w0 F S e a w) {d:Option Nat} (hd:∀ k,d=some k→N.ok k) {g:Nat} (hg:¬ U g) (b:Bool):Sim N F0 B (withG U g) w0 (applyU e (outU d (.val .bool b .no))) (a.put d (.bool b)) w:=
 h.outV hd hg rfl (.pure (.bool b)) rfl
theorem tyB_tyQ:∀ {q:List PS} {T T':Γ.X.Ty},(tyQ q T).isSome=true→tyB q T=some T'→tyQ q T=some T'
 | [],T,T',_,h=>h
 | .fld j :: q,T,T',h,h'=>by
  cases T with
  | named i=>
   simp only [tyQ,tyB] at h h' ⊢
   cases hf:(Γ.X.fields i)[j]? with
   | none=>simp [hf] at h
   | some t=>simp only [hf] at h h' ⊢;exact tyB_tyQ h h'
  | _=>simp [tyQ] at h
 | .idx k :: q,T,T',h,h'=>by
  cases T with
  | arr n t=>
   simp only [tyQ,tyB] at h h' ⊢
   split at h
   ·rename_i hk;rw [if_pos hk];exact tyB_tyQ h h'
   ·simp at h
  | _=>simp [tyQ] at h
theorem tyQ_append:∀ {q r:List PS} {T T':Γ.X.Ty},tyQ q T=some T'→tyQ (q++r) T=tyQ r T'∧offQ (q++r) T=offQ q T+offQ r T'
 | [],r,T,T',h=>by simp only [tyQ,Option.some.injEq] at h;subst h;simp [offQ]
 | .fld j :: q,r,T,T',h=>by
  cases T with
  | named i=>
   simp only [tyQ] at h
   cases hf:(Γ.X.fields i)[j]? with
   | none=>simp [hf] at h
   | some t=>
    simp only [hf] at h
    obtain ⟨h1,h2⟩:=tyQ_append (r:=r) h
    simp only [List.cons_append,tyQ,offQ,hf,h1,h2,true_and]
    exact (Nat.add_assoc _ _ _).symm
  | _=>simp [tyQ] at h
 | .idx k :: q,r,T,T',h=>by
  cases T with
  | arr n t=>
   simp only [tyQ] at h
   split at h
   ·rename_i hk
    obtain ⟨h1,h2⟩:=tyQ_append (r:=r) h
    simp only [List.cons_append,tyQ,offQ,if_pos hk,h1,h2,true_and]
    omega
   ·cases h
  | _=>simp [tyQ] at h
theorem ptr_nil {b:Base} {q:List PS} {u:Value} {R:List Nat} (h:SRep e a w F (.ptr b q) u R):R=[]:=by
 cases h with
 | u h=>cases h
 | ptrB=>rfl
 | ptrE=>rfl
theorem ptr_some {b:Base} {q:List PS} {u:Value} {R:List Nat} (h:SRep e a w F (.ptr b q) u R) (hok:(ptrTy e b q).isSome=true):∃ ad,u=.pointer (some ad):=by
 cases h with
 | u h=>cases h
 | ptrB s g q u h=>
  simp only [ptrTy] at hok
  cases hes:e s with
  | box g' T v o=>
   simp only [hes] at hok
   split at hok
   ·rename_i hg;subst hg
    obtain ⟨b,_,hu,_⟩:=h T v o hes
    exact ⟨_,hu⟩
   ·simp at hok
  | _=>simp [hes] at hok
 | ptrE s p g i q u hp h=>
  simp only [ptrTy] at hok
  cases hc:cont e s p g with
  | none=>simp [hc] at hok
  | some x=>
   obtain ⟨b,t,l⟩:=x
   obtain ⟨_,_,blk,n,c,_,hu⟩:=h b t l hc
   exact ⟨_,hu⟩
theorem ptr_step {b:Base} {q:List PS} {u:Value} {R:List Nat} {p:PS} {T T':Γ.X.Ty} (h:SRep e a w F (.ptr b q) u R) (hok:ptrTy e b q=some T) (ht:tyQ [p] T=some T'):
  ∃ b' o',u=.pointer (some ⟨b',o',none⟩)∧SRep e a w F (.ptr b (q++[p])) (.pointer (some ⟨b',o'+offQ [p] T,none⟩)) []:=by
 cases h with
 | u h=>cases h
 | ptrB s g q u h=>
  simp only [ptrTy] at hok
  cases hes:e s with
  | box g' T1 v o=>
   simp only [hes] at hok
   split at hok
   ·rename_i hg;subst hg
    obtain ⟨b,h1,hu,h3⟩:=h T1 v o hes
    have h4:=tyB_tyQ h3 hok
    obtain ⟨h5,h6⟩:=tyQ_append (r:=[p]) h4
    refine ⟨b,_,hu,.ptrB s g _ _ fun T2 v2 o2 he2=>?_⟩
    rw [hes] at he2;cases he2
    exact ⟨b,h1,by rw [h6],by rw [h5,ht];rfl⟩
   ·cases hok
  | _=>simp [hes] at hok
 | ptrE s p' g i q u hp h=>
  simp only [ptrTy] at hok
  cases hc:cont e s p' g with
  | none=>simp [hc] at hok
  | some x=>
   obtain ⟨b,t,l⟩:=x
   simp only [hc] at hok
   obtain ⟨h1,h2,blk,n,c,h3,hu⟩:=h b t l hc
   have h4:=tyB_tyQ h2 hok
   obtain ⟨h5,h6⟩:=tyQ_append (r:=[p]) h4
   refine ⟨blk,_,hu,.ptrE s p' g i _ _ hp fun b2 t2 l2 hc2=>?_⟩
   rw [hc] at hc2;cases hc2
   exact ⟨h1,by rw [h5,ht];rfl,blk,n,c,h3,by rw [h6,Nat.add_assoc]⟩
theorem fldOk_some {fs:Array Field} {i:Γ.X.ι} {j:Nat} (h:fldOk P Γ fs i j=true):∃ f T,fs[j]?=some f∧(Γ.X.fields i)[j]?=some T∧f.offset=Γ.X.off i j∧tyC P Γ f.type=some T∧0 < Γ.X.sz T:=by
 unfold fldOk at h
 split at h
 ·rename_i f T h1 h2
  simp only [Bool.and_eq_true,decide_eq_true_eq] at h
  obtain ⟨⟨h3,h4⟩,h5⟩:=h
  split at h4
  ·rename_i T' hT
   simp only [decide_eq_true_eq] at h4;subst h4
   exact ⟨f,_,h1,h2,h3,hT,h5⟩
  ·cases h4
 ·cases h
section looks
variable {T0 T1 T2:Option Γ.X.Ty} {g:Nat} {o:Oper} {us:Ups Γ.X} {ans:Ret Γ.X} (hX:TabOk Γ.X) (h:EnvRel N F0 B U w0 F S e a w) (hg:¬ U g) (hd:∀ k,o.dst=some k→N.ok k)
include hX h hg hd
theorem look_pick {c x y:Operand} {c' x' y':AX Γ.X} (ho:o.op=.pick c x y) (hc:compX Γ K T0 c=some c') (hx:compX Γ K T1 x=some x') (hy:compX Γ K T2 y=some y') (hs:eff ans g e o.dst (.pick c' x' y')=some us):
  Looks N F0 B U w0 P e a w g o us:=by
 simp only [eff] at hs
 have bo:∀ {z:AV Γ.X} {b:Bool},boolOf z=some b→∃ o,z=.val .bool b o:=fun {z b} hz=>by
  unfold boolOf at hz
  split at hz
  ·cases hz;exact ⟨_,rfl⟩
  ·cases hz
 split at hs
 ·rename_i hcb
  obtain ⟨oc,hcb⟩:=bo hcb
  obtain ⟨z,hb,hs⟩:=Option.bind_eq_some_iff.1 hs
  cases hs
  obtain ⟨ox,hb⟩:=bo hb
  refine ⟨.bool z,?_,h.outBool hd hg z⟩
  simp only [execOp,ho,h.rdBool hX hc hcb,h.rdBool hX hx hb]
  rfl
 ·rename_i hcb
  obtain ⟨oc,hcb⟩:=bo hcb
  obtain ⟨z,hb,hs⟩:=Option.bind_eq_some_iff.1 hs
  cases hs
  obtain ⟨ox,hb⟩:=bo hb
  refine ⟨.bool z,?_,h.outBool hd hg z⟩
  simp only [execOp,ho,h.rdBool hX hc hcb,h.rdBool hX hy hb]
  rfl
 ·cases hs
theorem look_idxStr {t:TypeId} {Y I:Operand} {x i:AX Γ.X} (ho:o.op=.index t Y I) (ht:P.underlying t=some .string) (hx:compX Γ K T0 Y=some x) (hi:compX Γ K T1 I=some i) (hs:eff ans g e o.dst (.idxStr x i)=some us):
  Looks N F0 B U w0 P e a w g o us:=by
 simp only [eff] at hs
 split at hs
 ·rename_i s os k j oi hy hj
  obtain ⟨z,hb,hs⟩:=Option.bind_eq_some_iff.1 hs
  cases hs
  unfold Str.get? at hb
  split at hb
  ·rename_i hj0
   obtain ⟨b,hs',hb⟩:=Option.map_eq_some_iff.1 hb
   subst hb
   ·skip
    refine ⟨.int .u8 (W.of .u8 b.toNat).n,?_,h.outInt hd hg _ _⟩
    have hlt:=(List.getElem?_eq_some_iff.1 hs').1
    have hgb:(⟨s.l.toArray⟩:ByteArray)[j.n.toNat]?=some b:=by
     have hsz:j.n.toNat < (⟨s.l.toArray⟩:ByteArray).size:=by simpa [ByteArray.size] using hlt
     rw [getElem?_pos (⟨s.l.toArray⟩:ByteArray) j.n.toNat hsz]
     rw [List.getElem?_eq_getElem hlt] at hs'
     simpa [ByteArray.getElem_eq_getElem_data] using hs'
    have hw:(W.of .u8 b.toNat).n=b.toNat:=by
     have:=b.toNat_lt
     simp only [W.of,IntKind.wrap,IntKind.bits,IntKind.signed]
     simp
     omega
    rw [hw]
    simp only [execOp,ho,Instr.index,h.rdStr hX hx hy,h.rdInt hX hi hj]
    simp [asIntOf,run_underlying' ht,hj0,hgb]
  ·cases hb
 ·cases hs
theorem look_un {q:UnOp} {t:TypeId} {Y:Operand} {x:AX Γ.X} (ho:o.op=.unOp q t Y) (hx:compX Γ K T0 Y=some x) (hs:eff ans g e o.dst (.un q x)=some us):Looks N F0 B U w0 P e a w g o us:=by
 simp only [eff] at hs
 obtain ⟨z,hv,hs⟩:=Option.bind_eq_some_iff.1 hs
 cases hs
 unfold unV at hv
 split at hv
 ·rename_i k n ox hr
  simp only [Option.some.injEq] at hv;subst hv
  refine ⟨_,?_,h.outInt hd hg _ _⟩
  simp only [execOp,ho,h.rdInt hX hx hr]
  rfl
 ·rename_i k n ox hr
  simp only [Option.some.injEq] at hv;subst hv
  refine ⟨_,?_,h.outInt hd hg _ _⟩
  simp only [execOp,ho,h.rdInt hX hx hr]
  rfl
 ·rename_i b ox hr
  simp only [Option.some.injEq] at hv;subst hv
  refine ⟨_,?_,h.outBool hd hg _⟩
  simp only [execOp,ho,h.rdBool hX hx hr]
  rfl
 ·cases hv
theorem look_conv {s d:TypeId} {k k0:IntKind} {Y:Operand} {x:AX Γ.X} (ho:o.op=.convert s d Y) (hs0:P.underlying s=some (.int k0)) (hd0:P.underlying d=some (.int k)) (hx:compX Γ K T0 Y=some x) (hs:eff ans g e o.dst (.conv k x)=some us):
  Looks N F0 B U w0 P e a w g o us:=by
 simp only [eff] at hs
 split at hs
 ·rename_i k' n ox hr
  simp only [Option.some.injEq] at hs;subst hs
  refine ⟨_,?_,h.outInt hd hg _ _⟩
  simp only [execOp,ho,h.rdInt hX hx hr,convert]
  simp [run_underlying' hs0,run_underlying' hd0,Conv.intToInt,W.conv,W.of]
 ·cases hs
theorem look_cat {t u:TypeId} {Y Z:Operand} {x y:AX Γ.X} (ho:o.op=.binOp .add t Y Z u) (hx:compX Γ K T0 Y=some x) (hy:compX Γ K T1 Z=some y) (hs:eff ans g e o.dst (.cat x y)=some us):Looks N F0 B U w0 P e a w g o us:=by
 simp only [eff] at hs
 split at hs
 ·rename_i s1 o1 s2 o2 h1 h2
  obtain ⟨z,hz,hs⟩:=Option.bind_eq_some_iff.1 hs
  cases hs
  have e1:=h.rdStr hX hx h1
  have e2:=h.rdStr hX hy h2
  unfold Str.cat? at hz
  split at hz
  ·rename_i hlen
   cases hz
   have happ:(⟨s1.l.toArray⟩++⟨s2.l.toArray⟩:ByteArray)=⟨(s1.l++s2.l).toArray⟩:=ByteArray.ext (by simp)
   have hno:¬ (IntKind.i64.max < ((((⟨s1.l.toArray⟩:ByteArray).size+(⟨s2.l.toArray⟩:ByteArray).size:Nat)):Int)):=by
    rw [List.length_append] at hlen
    have hr:room=140737488355328:=by unfold room;rfl
    simp only [ByteArray.size,List.size_toArray,IntKind.max,IntKind.signed,IntKind.bits]
    simp
    omega
   refine ⟨.string ⟨(s1.l++s2.l).toArray⟩,?_,h.outV hd hg rfl (.pure (.str ⟨s1.l++s2.l,hlen⟩)) (by unfold valOk;rw [if_neg (by simp [aggB])])⟩
   have guard:(eqGuard .add t Y Z (.string ⟨s1.l.toArray⟩) (.string ⟨s2.l.toArray⟩)).run P w=.ok () w:=by unfold eqGuard;rfl
   have hb:(binOp .add t (.string ⟨s1.l.toArray⟩) (.string ⟨s2.l.toArray⟩)).run P w=.ok (.string ⟨(s1.l++s2.l).toArray⟩) w:=by
    show (Op.stringOp .add ⟨s1.l.toArray⟩ ⟨s2.l.toArray⟩).run P w=_
    simp only [Op.stringOp]
    rw [if_neg hno,happ]
    rfl
   simp only [execOp,ho,e1,e2]
   simp [guard,hb]
  ·cases hz
 ·cases hs
theorem look_bin {q:BinOp} {t u:TypeId} {Y Z:Operand} {x y:AX Γ.X} (ho:o.op=.binOp q t Y Z u) (hx:compX Γ K T0 Y=some x) (hy:compX Γ K T1 Z=some y) (hs:eff ans g e o.dst (.bin q x y)=some us):Looks N F0 B U w0 P e a w g o us:=by
 simp only [eff] at hs
 obtain ⟨z,hv,hs⟩:=Option.bind_eq_some_iff.1 hs
 cases hs
 unfold binV at hv
 split at hv
 ·rename_i k n ox k' m oy hr hr'
  have e1:=h.rdInt hX hx hr
  have e2:=h.rdInt hX hy hr'
  have guard:(eqGuard q t Y Z (.int k n.n) (.int k' m.n)).run P w=.ok () w:=by unfold eqGuard;cases q<;>rfl
  have run:∀ v,(binOp q t (.int k n.n) (.int k' m.n)).run P w=.ok v w→(execOp a.eval o).run P w=.ok (.value v) w:=fun v hv=>by
   simp only [execOp,ho,e1,e2]
   simp [guard,hv]
  split at hv
  ·rename_i hsh
   unfold shiftV at hv
   split at hv
   ·split at hv
    ·unfold W.shl? at hv
     split at hv
     ·cases hv
     ·rename_i hm
      cases hv
      refine ⟨_,run _ ?_,h.outInt hd hg _ _⟩
      simp only [binOp,Op.shift,if_neg hm];rfl
    ·rename_i hsg
     simp only [Option.some.injEq] at hv;subst hv
     have hm:¬ m.n < 0:=by
      have:=m.h.1
      simp only [IntKind.min] at this
      rw [if_neg hsg] at this
      omega
     refine ⟨_,run _ ?_,h.outInt hd hg _ _⟩
     simp only [binOp,Op.shift,if_neg hm];rfl
   ·have shr_has:∀ j:Nat,k.wrap (n.n.fdiv (2 ^ j))=n.n.fdiv (2 ^ j):=fun j=>by
     have hh:=n.h
     have hp:(0:Int) < 2 ^ j:=Int.pow_pos (by omega)
     have h1:n.n.fdiv (2 ^ j)=n.n / (2 ^ j):=Int.fdiv_eq_ediv_of_nonneg _ (Int.le_of_lt hp)
     rw [h1]
     have hpos:0≤n.n→0≤n.n / 2 ^ j∧n.n / 2 ^ j≤n.n:=fun h0=>⟨Int.ediv_nonneg h0 (Int.le_of_lt hp),Int.ediv_le_self _ h0⟩
     have hneg:n.n < 0→n.n≤n.n / 2 ^ j∧n.n / 2 ^ j < 0:=fun h0=>by
      refine ⟨?_,Int.ediv_neg_of_neg_of_pos h0 hp⟩
      have h2:=Int.mul_ediv_self_le (x:=n.n) (k:=(2 ^ j:Int)) (by omega)
      have h3:(2 ^ j:Int) ≥ 1:=hp
      have h4:=Int.ediv_neg_of_neg_of_pos h0 hp
      rw [Int.le_ediv_iff_mul_le hp]
      have:n.n*(2 ^ j:Int)≤n.n*1:=Int.mul_le_mul_of_nonpos_left (by omega) h3
      omega
     have hrange:k.min≤n.n / 2 ^ j∧n.n / 2 ^ j≤k.max:=by
      have h1:=hh.1
      have h2:=hh.2
      have hmin:k.min≤0:=by cases k<;>decide
      have hmax:0≤k.max:=by cases k<;>decide
      rcases Int.lt_or_le n.n 0 with h0 | h0
      ·obtain ⟨a1,a2⟩:=hneg h0;omega
      ·obtain ⟨a1,a2⟩:=hpos h0;omega
     generalize n.n / 2 ^ j=z at hrange
     cases k<;>simp only [IntKind.min,IntKind.max,IntKind.wrap,IntKind.signed,IntKind.bits,if_true,Bool.true_and,Bool.false_and,Bool.false_eq_true,if_false,decide_eq_true_eq,ge_iff_le] at hrange ⊢<;>first | omega | (split<;>omega)
    split at hv
    ·unfold W.shr? at hv
     split at hv
     ·cases hv
     ·rename_i hm
      cases hv
      refine ⟨_,run _ ?_,h.outInt hd hg _ _⟩
      simp only [binOp,Op.shift,if_neg hm,W.shr,W.of,shr_has];rfl
    ·rename_i hsg
     simp only [Option.some.injEq] at hv;subst hv
     have hm:¬ m.n < 0:=by
      have:=m.h.1
      simp only [IntKind.min] at this
      rw [if_neg hsg] at this
      omega
     refine ⟨_,run _ ?_,h.outInt hd hg _ _⟩
     simp only [binOp,Op.shift,if_neg hm,W.shr,W.of,shr_has];rfl
   ·cases hv
  ·rename_i hsh
   split at hv
   ·rename_i m' hm'
    obtain ⟨hk,hmm⟩:=castT_some hm'
    cases hk
    simp only at hmm
    subst hmm
    unfold W.bin at hv
    have rem_has:∀ x y:W k,y.n ≠ 0→k.wrap (x.n.tmod y.n)=x.n.tmod y.n:=fun x y hy=>by
     have hh:=x.h
     have hb:(x.n.tmod y.n).natAbs≤x.n.natAbs:=by
      rw [Int.natAbs_tmod];exact Nat.mod_le _ _
     have hsgn:(0≤x.n→0≤x.n.tmod y.n)∧(x.n≤0→x.n.tmod y.n≤0):=⟨fun h=>Int.tmod_nonneg _ h,fun h=>by
      have:=Int.tmod_nonneg (a:=-x.n) y.n (by omega)
      rw [Int.neg_tmod] at this
      omega⟩
     generalize x.n.tmod y.n=z at hb hsgn
     have hrange:k.min≤z∧z≤k.max:=by
      have h1:=hh.1
      have h2:=hh.2
      have hmin:k.min≤0:=by cases k<;>decide
      have hmax:0≤k.max:=by cases k<;>decide
      omega
     cases k<;>simp only [IntKind.min,IntKind.max,IntKind.wrap,IntKind.signed,IntKind.bits,if_true,Bool.true_and,Bool.false_and,Bool.false_eq_true,if_false,decide_eq_true_eq,ge_iff_le] at hrange ⊢<;>first | omega | (split<;>omega)
    split at hv
    ·simp only [Option.some.injEq] at hv;subst hv
     exact ⟨_,run _ (by simp only [binOp,ne_eq,not_true_eq_false,if_false];rfl),h.outInt hd hg _ _⟩
    ·simp only [Option.some.injEq] at hv;subst hv
     exact ⟨_,run _ (by simp only [binOp,ne_eq,not_true_eq_false,if_false];rfl),h.outInt hd hg _ _⟩
    ·simp only [Option.some.injEq] at hv;subst hv
     exact ⟨_,run _ (by simp only [binOp,ne_eq,not_true_eq_false,if_false];rfl),h.outInt hd hg _ _⟩
    ·unfold W.quo? at hv
     split at hv
     ·cases hv
     ·rename_i hm0
      cases hv
      exact ⟨_,run _ (by simp only [binOp,Op.intDiv,ne_eq,not_true_eq_false,if_false,if_neg hm0];rfl),h.outInt hd hg _ _⟩
    ·unfold W.rem? at hv
     split at hv
     ·cases hv
     ·rename_i hm0
      cases hv
      refine ⟨_,run _ ?_,h.outInt hd hg _ _⟩
      simp only [binOp,Op.intDiv,ne_eq,not_true_eq_false,if_false,if_neg hm0,W.rem,W.of,rem_has n m hm0];rfl
    ·simp only [Option.some.injEq] at hv;subst hv
     exact ⟨_,run _ (by simp only [binOp,ne_eq,not_true_eq_false,if_false];rfl),h.outInt hd hg _ _⟩
    ·simp only [Option.some.injEq] at hv;subst hv
     exact ⟨_,run _ (by simp only [binOp,ne_eq,not_true_eq_false,if_false];rfl),h.outInt hd hg _ _⟩
    ·simp only [Option.some.injEq] at hv;subst hv
     exact ⟨_,run _ (by simp only [binOp,ne_eq,not_true_eq_false,if_false];rfl),h.outInt hd hg _ _⟩
    ·simp only [Option.some.injEq] at hv;subst hv
     exact ⟨_,run _ (by simp only [binOp,ne_eq,not_true_eq_false,if_false];rfl),h.outInt hd hg _ _⟩
    ·simp only [Option.some.injEq] at hv;subst hv
     exact ⟨_,run _ (by simp only [binOp,ne_eq,not_true_eq_false,if_false];rfl),h.outBool hd hg _⟩
    ·simp only [Option.some.injEq] at hv;subst hv
     exact ⟨_,run _ (by simp only [binOp,ne_eq,not_true_eq_false,if_false];rfl),h.outBool hd hg _⟩
    ·simp only [Option.some.injEq] at hv;subst hv
     exact ⟨_,run _ (by simp only [binOp,ne_eq,not_true_eq_false,if_false];rfl),h.outBool hd hg _⟩
    ·simp only [Option.some.injEq] at hv;subst hv
     exact ⟨_,run _ (by simp only [binOp,ne_eq,not_true_eq_false,if_false];rfl),h.outBool hd hg _⟩
    ·simp only [Option.some.injEq] at hv;subst hv
     exact ⟨_,run _ (by simp only [binOp,ne_eq,not_true_eq_false,if_false];rfl),h.outBool hd hg _⟩
    ·simp only [Option.some.injEq] at hv;subst hv
     exact ⟨_,run _ (by simp only [binOp,ne_eq,not_true_eq_false,if_false];rfl),h.outBool hd hg _⟩
    ·cases hv
   ·cases hv
 ·cases hv
theorem look_nilCheck {Y:Operand} {x:AX Γ.X} (ho:o.op=.nilCheck Y) (hx:compX Γ K T0 Y=some x) (hs:eff ans g e o.dst (.nilCheck x)=some us):Looks N F0 B U w0 P e a w g o us:=by
 obtain ⟨R,h1,h2,_⟩:=h.rd hX hx
 have run:∀ ad,a.eval Y=.pointer (some ad)→(execOp a.eval o).run P w=.ok (.value (.pointer (some ad))) w:=fun ad hu=>by
  simp only [execOp,ho,hu];rfl
 simp only [eff] at hs
 split at hs
 ·rename_i b q hr
  split at hs
  ·rename_i hok
   cases hs
   rw [hr] at h1 h2
   obtain ⟨ad,hu⟩:=ptr_some h1 hok
   have hR:=ptr_nil h1
   subst hR
   rw [hu] at h1
   exact ⟨_,run ad hu,h.out hd hg (Hand.ofPure h1 h2) (by cases b<;>trivial)⟩
  ·cases hs
 ·rename_i T v hr
  cases hs
  rw [hr] at h1 h2
  cases h1 with
  | u h1=>
   generalize hu:a.eval Y=u at h1
   cases h1 with
   | rptr _ _ b o' cs hb hc hp=>exact ⟨_,run _ hu,h.out hd hg (Hand.ofPure (.u (.rptr T v b o' cs hb hc hp)) trivial) trivial⟩
 ·cases hs
theorem look_fld {t:TypeId} {Y:Operand} {x:AX Γ.X} {i:Γ.X.ι} {j:Nat} {fs:Array Field} (ho:o.op=.fieldAddr t Y j) (ht:P.underlying t=some (.struct fs)) (hf:fldOk P Γ fs i j=true) (hx:compX Γ K T0 Y=some x)
  (hs:eff ans g e o.dst (.fld i j x)=some us):Looks N F0 B U w0 P e a w g o us:=by
 obtain ⟨f,T,k1,k2,k3,k4,k5⟩:=fldOk_some hf
 obtain ⟨_,k6,_⟩:=tyC_some k4
 obtain ⟨R,h1,h2,_⟩:=h.rd hX hx
 have run:∀ b o',a.eval Y=.pointer (some ⟨b,o',none⟩)→(execOp a.eval o).run P w=.ok (.value (.pointer (some ⟨b,o'+Γ.X.off i j,none⟩))) w:=fun b o' hu=>by
  have h0:Γ.X.sz T ≠ 0:=by omega
  simp only [execOp,ho,Instr.fieldAt,hu]
  simp [run_underlying' ht,k1,Instr.sureAddr,fieldPlace,run_sizeO k6,addr_add,k3,h0]
 simp only [eff] at hs
 split at hs
 ·rename_i b q hr
  split at hs
  ·rename_i hok
   cases hs
   rw [hr] at h1 h2
   obtain ⟨b',o',hu,hnew⟩:=ptr_step (p:=.fld j) (T':=T) h1 hok.1 (by simp only [tyQ,k2])
   refine ⟨_,run b' o' hu,h.out hd hg (Hand.ofPure ?_ (by cases b<;>exact h2)) (by cases b<;>trivial)⟩
   have:offQ [.fld j] (.named i:Γ.X.Ty)=Γ.X.off i j:=by simp [offQ,k2]
   rw [this] at hnew
   exact hnew
  ·cases hs
 ·rename_i T1 v hr
  split at hs
  ·rename_i v1 hv1
   obtain ⟨rfl,hv1⟩:=castT_some hv1
   simp only at hv1;subst hv1
   split at hs
   ·rename_i T' y hy
    cases hs
    rw [hr] at h1
    have hT':=getT_type hy
    rw [k2] at hT';cases hT'
    cases h1 with
    | u h1=>
     generalize hu:a.eval Y=u at h1
     cases h1 with
     | rptr _ _ b o' cs hb hc hp=>
      obtain ⟨c1,cx,c2,S1,Sx,S2,e1,e2,e3,e4,_⟩:=(VRep.pure hp).lens hX (q:=[.fld j]) (T':=T) (x:=y) (by simp [tyQ,k2]) (by simp only [getQ];rw [hy])
      have hcx:PRep w F T y cx:=(e4.toPure rfl).1
      have ho2:offQ [.fld j] (.named i:Γ.X.Ty)=Γ.X.off i j:=by simp [offQ,k2]
      refine ⟨_,run b o' hu,h.out hd hg (Hand.ofPure (.u (.rptr T y b (o'+Γ.X.off i j) cx hb (fun m u' hm=>?_) hcx)) trivial) trivial⟩
      have:=hc (Γ.X.off i j+m) u' (by rw [e1,←ho2,←e2,List.append_assoc,List.getElem?_append_right (by omega)];simp [List.getElem?_append_left (List.getElem?_eq_some_iff.1 hm).1,hm])
      rw [Nat.add_assoc];exact this
   ·cases hs
  ·cases hs
 ·cases hs
theorem look_idxA {t el:TypeId} {Y I:Operand} {x i:AX Γ.X} {n:Nat} {T:Γ.X.Ty} (ho:o.op=.indexAddr t Y I) (ht:P.underlying t=some (.array n el)) (hsz:sizeO P el=some (Γ.X.sz T)) (hx:compX Γ K T0 Y=some x) (hi:compX Γ K T1 I=some i)
  (hs:eff ans g e o.dst (.idxA n T x i)=some us):Looks N F0 B U w0 P e a w g o us:=by
 obtain ⟨R,h1,h2,_⟩:=h.rd hX hx
 have run:∀ b o' (k:IntKind) (j:Int),a.eval Y=.pointer (some ⟨b,o',none⟩)→a.eval I=.int k j→0≤j∧j < n→(execOp a.eval o).run P w=.ok (.value (.pointer (some ⟨b,o'+j.toNat*Γ.X.sz T,none⟩))) w:=fun b o' k j hu hI hj=>by
  simp only [execOp,ho,Instr.indexAt,hu,hI]
  simp [asIntOf,run_underlying' ht,Instr.sureAddr,run_sizeO hsz,addr_add,hj.1,hj.2]
 have idx:∀ {k:IntKind} {z:W k} {m:Nat},idx? n z=some m→(0≤z.n∧z.n < n)∧m=z.n.toNat∧m < n:=fun {k z m} hz=>by
  unfold idx? at hz
  split at hz
  ·rename_i hc
   cases hz
   exact ⟨hc,rfl,by omega⟩
  ·cases hz
 simp only [eff] at hs
 split at hs
 ·rename_i b q k z oz hr hrz
  split at hs
  ·rename_i hok
   obtain ⟨m,hm,hs⟩:=Option.bind_eq_some_iff.1 hs
   cases hs
   obtain ⟨m1,rfl,m3⟩:=idx hm
   rw [hr] at h1 h2
   obtain ⟨b',o',hu,hnew⟩:=ptr_step (p:=.idx z.n.toNat) (T':=T) h1 hok (by simp only [tyQ,m3,if_true])
   refine ⟨_,run b' o' _ _ hu (h.rdInt hX hi hrz) m1,h.out hd hg (Hand.ofPure ?_ (by cases b<;>exact h2)) (by cases b<;>trivial)⟩
   have:offQ [.idx z.n.toNat] (.arr n T:Γ.X.Ty)=z.n.toNat*Γ.X.sz T:=by simp [offQ]
   rw [this] at hnew
   exact hnew
  ·cases hs
 ·rename_i T1 v k z oz hr hrz
  split at hs
  ·rename_i v1 hv1
   obtain ⟨rfl,hv1⟩:=castT_some hv1
   simp only at hv1;subst hv1
   obtain ⟨m,hm,hs⟩:=Option.bind_eq_some_iff.1 hs
   cases hs
   obtain ⟨m1,rfl,m3⟩:=idx hm
   rw [hr] at h1
   cases h1 with
   | u h1=>
    generalize hu:a.eval Y=u at h1
    cases h1 with
    | rptr _ _ b o' cs hb hc hp=>
     obtain ⟨c1,cx,c2,S1,Sx,S2,e1,e2,e3,e4,_⟩:=(VRep.pure hp).lens hX (q:=[.idx z.n.toNat]) (T':=T) (x:=v.l.getD z.n.toNat (Γ.X.zero T)) (by simp [tyQ,m3]) rfl
     have hcx:PRep w F T _ cx:=(e4.toPure rfl).1
     have ho2:offQ [.idx z.n.toNat] (.arr n T:Γ.X.Ty)=z.n.toNat*Γ.X.sz T:=by simp [offQ]
     refine ⟨_,run b o' _ _ hu (h.rdInt hX hi hrz) m1,h.out hd hg (Hand.ofPure (.u (.rptr T _ b (o'+z.n.toNat*Γ.X.sz T) cx hb (fun m u' hm=>?_) hcx)) trivial) trivial⟩
     have:=hc (z.n.toNat*Γ.X.sz T+m) u' (by rw [e1,←ho2,←e2,List.append_assoc,List.getElem?_append_right (by omega)];simp [List.getElem?_append_left (List.getElem?_eq_some_iff.1 hm).1,hm])
     rw [Nat.add_assoc];exact this
  ·cases hs
 ·cases hs
end looks
end
end
end Go.A2
namespace Go.A2
section
variable {P:Program} {Γ:Cx}
section
variable {K:List Nat} {N:Slots} {F0 B U:Nat→Prop} {w0:World} {F:Nat→Prop} {S:Nat→List Nat} {e:Env Γ.X} {a:Act} {w:World}
theorem cell_of {b i:Nat} {cells:Array Value} {ty:TypeId} {fr:Nat×Nat} (hg:w.heap[b]?=some (.cells cells ty fr)):w.cell? ⟨b,i,none⟩=cells[i]?:=by
 simp [World.cell?,hg]
theorem cat_get {α:Type} {f:Nat→List α} {n m i j:Nat} (h:∀ i,i < n→(f i).length=m) (hi:i < n) (hj:j < m):(cat f n)[i*m+j]?=(f i)[j]?:=by
 obtain ⟨r,h1,_⟩:=cat_split f hi
 have hl:(cat f i).length=i*m:=cat_length fun k hk=>h k (by omega)
 have hfi:=h i hi
 rw [h1,List.append_assoc,List.getElem?_append_right (by omega),List.getElem?_append_left (by omega)]
 congr 1;omega
theorem cat_at {α:Type} {f:Nat→List α} {m:Nat}:∀ {n j:Nat} {v:α},(∀ i,i < n→(f i).length=m)→(cat f n)[j]?=some v→∃ i r,i < n∧j=i*m+r∧(f i)[r]?=some v
 | 0,j,v,_,hv=>by simp [cat] at hv
 | n+1,j,v,h,hv=>by
  have hl:(cat f n).length=n*m:=cat_length fun k hk=>h k (by omega)
  rw [cat_succ] at hv
  by_cases hj:j < n*m
  ·rw [List.getElem?_append_left (by omega)] at hv
   obtain ⟨i,r,h1,h2,h3⟩:=cat_at (fun i hi=>h i (by omega)) hv
   exact ⟨i,r,by omega,h2,h3⟩
  ·rw [List.getElem?_append_right (by omega),hl] at hv
   exact ⟨n,j - n*m,by omega,by omega,hv⟩
theorem EnvRel.place (hX:TabOk Γ.X) (h:EnvRel N F0 B U w0 F S e a w) {s:Nat} {T T':Γ.X.Ty} {v:Γ.X.den T} {o:Own} {q:List PS} {x:Γ.X.den T'} (hs:slotC (e s)=some ⟨T,v,o⟩) (ht:tyQ q T=some T') (hx:getQ q T v=some ⟨T',x⟩):
  ∃ cx Sx,VRep w F T' x (ownAt o q) cx Sx∧(∀ b∈Sx,b∈S s)∧(∀ u,cx=[u]→hdr e a w s q=some u):=by
 rcases slotC_some hs with hes | ⟨g,hes⟩
 ·obtain ⟨cs,k1,k2⟩:=h.valAt hes
  obtain ⟨c1,cx,c2,S1,Sx,S2,e1,e2,e3,e4,_⟩:=k1.lens hX ht hx
  refine ⟨cx,Sx,e4,fun b hb=>by rw [e3];simp [hb],fun u hu=>?_⟩
  unfold hdr
  rw [hes]
  have:(a.tmps.getD s Go.undef).cells.toList=cs:=valOk_cells k2 k1.one
  show (a.tmps.getD s Go.undef).cells[offQ q T]?=some u
  rw [←Array.getElem?_toList,this,e1,hu,←e2]
  simp
 ·obtain ⟨b0,cells,ty,S',k1,k2,k3,k4⟩:=h.boxAt hes
  obtain ⟨c1,cx,c2,S1,Sx,S2,e1,e2,e3,e4,_⟩:=k3.lens hX ht hx
  refine ⟨cx,Sx,e4,fun b hb=>by rw [k4,e3];simp [hb],fun u hu=>?_⟩
  unfold hdr
  rw [hes]
  simp only [k1]
  show w.cell? ⟨b0,offQ q T,none⟩=some u
  simp only [World.cell?,k2]
  show cells[offQ q T]?=some u
  rw [←Array.getElem?_toList,e1,hu,←e2]
  simp
theorem EnvRel.ownSl (hX:TabOk Γ.X) (h:EnvRel N F0 B U w0 F S e a w) {s:Nat} {q:List PS} {g b:Nat} {t:Γ.X.Ty} {l:Sl b (Γ.X.den t)} (hc:cont e s q g=some ⟨b,t,l⟩) (hq:onlyFld q=true):
  ∃ u Sx,VRep w F (.slice b t) l (.yes g) [u] Sx∧hdr e a w s q=some u∧∀ b∈Sx,b∈S s:=by
 obtain ⟨T,v,o,h1,h2,h3⟩:=cont_some hc
 obtain ⟨cx,Sx,k1,k2,k3⟩:=h.place hX h1 (tyQ_of_getQ hq h2) h2
 rw [h3] at k1
 have hl:=k1.length hX
 simp only [Tab.sz] at hl
 cases cx with
 | nil=>simp at hl
 | cons c cx=>
  cases cx with
  | cons=>simp at hl
  | nil=>exact ⟨c,Sx,k1,k3 c rfl,k2⟩
theorem EnvRel.ownElem (hX:TabOk Γ.X) (h:EnvRel N F0 B U w0 F S e a w) {s:Nat} {q:List PS} {g b:Nat} {t:Γ.X.Ty} {l:Sl b (Γ.X.den t)} (hc:cont e s q g=some ⟨b,t,l⟩) (hq:onlyFld q=true) {i:Nat} (hi:i < l.l.length):
  ∃ blk cap cells ty cs,hdr e a w s q=some (.slice (some ⟨blk,0,none⟩) l.l.length cap)∧w.heap[blk]?=some (.cells cells ty (0,0))∧blk∈S s∧PRep w F t (l.l.getD i (Γ.X.zero t)) cs∧∀ (j:Nat) u,cs[j]?=some u→w.cell? ⟨blk,i*Γ.X.sz t+j,none⟩=some u:=by
 obtain ⟨u,Sx,k1,k2,k3⟩:=h.ownSl hX hc hq
 have key:∀ {T:Γ.X.Ty} {v:Γ.X.den T} {o:Own} {cs:List Value} {S:List Nat},VRep w F T v o cs S→T=.slice b t→HEq v l→o=.yes g→cs=[u]→S=Sx→
   ∃ blk cap cells ty cs,u=.slice (some ⟨blk,0,none⟩) l.l.length cap∧w.heap[blk]?=some (.cells cells ty (0,0))∧blk∈Sx∧PRep w F t (l.l.getD i (Γ.X.zero t)) cs∧∀ (j:Nat) u,cs[j]?=some u→w.cell? ⟨blk,i*Γ.X.sz t+j,none⟩=some u:=fun hv hT hvl ho hcs hS=>by
  cases hv with
  | ownNil b' t' v g' ad hv=>
   cases hT;cases hvl
   rw [hv] at hi;simp at hi
  | own b' t' v g' blk cap cells ty css hg hsz hcap hmx hcc hp=>
   cases hT;cases hvl
   simp only [List.cons.injEq,and_true] at hcs
   refine ⟨blk,cap,cells,ty,css i,hcs.symm,hg,by rw [←hS];simp,hp i _ (getD_dflt _ hi),fun j u hj=>?_⟩
   rw [cell_of hg]
   exact hcc i j u hi hj
  | pure=>cases ho
  | full=>cases ho
  | st=>cases ho
  | dead=>cases ho
  | ownM=>cases hT
 obtain ⟨blk,cap,cells,ty,cs,g1,g2,g3,g4,g5⟩:=key k1 rfl HEq.rfl rfl rfl rfl
 exact ⟨blk,cap,cells,ty,cs,by rw [k2,g1],g2,k3 blk g3,g4,g5⟩
def ReadsSl (w:World) (F:Nat→Prop) {b:Nat} (t:Γ.X.Ty) (l:Sl b (Γ.X.den t)) (u:Value):Prop:=
 ∃ (ad:Option Addr) (cap:Nat) (css:Nat→List Value),u=.slice ad l.l.length cap∧l.l.length≤cap ∧
  (l.l ≠ []→∃ blk o,ad=some ⟨blk,o,none⟩∧blk < w.heap.size∧∀ (i j:Nat) u,i < l.l.length→(css i)[j]?=some u→w.cell? ⟨blk,o+i*Γ.X.sz t+j,none⟩=some u) ∧
  ∀ (i:Nat) x,l.l[i]?=some x→PRep w F t x (css i)
theorem ReadsSl.cut {w:World} {F:Nat→Prop} {b:Nat} {t:Γ.X.Ty} {l:Sl b (Γ.X.den t)} {ad m:Option Addr} {c c' off hi:Nat} (h:ReadsSl w F t l (.slice ad l.l.length c)) (h1:off≤hi) (h2:hi≤l.l.length) (hc:hi - off≤c') (hm:off < hi→m=ad.map (·.add (off*Γ.X.sz t))):
  ReadsSl w F t (l.cut off hi) (.slice m (hi - off) c'):=by
 obtain ⟨ad',cap,css,k1,k2,k3,k4⟩:=h
 cases k1
 have hlen:(l.cut off hi).l.length=hi - off:=by simp only [Sl.cut,List.length_drop,List.length_take];omega
 have hget:∀ i,i < hi - off→(l.cut off hi).l[i]?=l.l[off+i]?:=fun i hi'=>by
  simp only [Sl.cut]
  rw [List.getElem?_drop,List.getElem?_take_of_lt (by omega)]
 refine ⟨m,c',fun i=>css (off+i),by rw [hlen],by omega,fun hne=>?_,fun i x hx=>?_⟩
 ·have hpos:0 < (l.cut off hi).l.length:=List.length_pos_iff.2 hne
  obtain ⟨blk,o,q1,q2,q3⟩:=k3 (by intro hn;rw [hn] at h2;simp at h2;omega)
  refine ⟨blk,o+off*Γ.X.sz t,?_,q2,fun i j u hi' hj=>?_⟩
  ·rw [hm (by omega),q1]
   simp [addr_add]
  ·have:=q3 (off+i) j u (by omega) hj
   rw [←this];congr 2;rw [Nat.add_mul];omega
 ·have hi':i < hi - off:=by rw [←hlen];exact (List.getElem?_eq_some_iff.1 hx).1
  rw [hget i hi'] at hx
  exact k4 _ x hx
theorem EnvRel.arrAt (hX:TabOk Γ.X) (h:EnvRel N F0 B U w0 F S e a w) {bs:Base} {q:List PS} {n:Nat} {t:Γ.X.Ty} {v:Arr n (Γ.X.den t)} (hd:derefA e bs q n t=some v) {blk o:Nat} (hr:SRep e a w F (.ptr bs q) (.pointer (some ⟨blk,o,none⟩)) []):
  ∃ cells ty css,w.heap[blk]?=some (.cells cells ty (0,0))∧blk < w.heap.size∧(∀ (j:Nat) u,(cat css n)[j]?=some u→cells[o+j]?=some u)∧∀ (i:Nat) x,v.l[i]?=some x→PRep w F t x (css i):=by
 have arr:∀ {T:Γ.X.Ty} {x:Γ.X.den T} {cs:List Value},PRep w F T x cs→castT x (.arr n t)=some v→∃ css,cs=cat css n∧∀ (i:Nat) x,v.l[i]?=some x→PRep w F t x (css i):=fun {T x cs} hp hc=>by
  obtain ⟨rfl,hv⟩:=castT_some hc
  simp only at hv;subst hv
  cases hp with
  | arr _ _ _ css hcss=>exact ⟨css,rfl,hcss⟩
 have own:∀ {s b:Nat},b∈S s→b < w.heap.size:=fun {s b} hb=>(h.own s b hb).2.1
 cases bs with
 | box s g=>
  simp only [derefA] at hd
  split at hd
  ·rename_i g' T v0 o0 hes
   split at hd
   ·rename_i hgg
    obtain ⟨rfl,hno⟩:=hgg
    split at hd
    ·rename_i T' x hx
     cases hr with
     | u h=>cases h
     | ptrB _ _ _ _ hh=>
      obtain ⟨b,q1,q2,q3⟩:=hh _ _ _ hes
      cases q2
      obtain ⟨b',cells,ty,S',k1,k2,k3,k4⟩:=h.boxAt hes
      rw [q1] at k1;cases k1
      have htq:tyQ q T=some T':=by
       cases hq:tyQ q T with
       | none=>rw [hq] at q3;cases q3
       | some T2=>
        obtain ⟨y,hy⟩:=getQ_of_tyQ v0 hq
        rw [hx] at hy;cases hy;rfl
      obtain ⟨c1,cx,c2,S1,Sx,S2,e1,e2,e3,e4,_⟩:=k3.lens hX htq hx
      rw [isNo_eq hno] at e4
      obtain ⟨css,rfl,hcss⟩:=arr (e4.toPure rfl).1 hd
      refine ⟨cells,ty,css,k2,own (s:=s) (by rw [k4];simp),fun j u hj=>?_,hcss⟩
      rw [←Array.getElem?_toList,e1,←e2,List.append_assoc,List.getElem?_append_right (by omega)]
      simp [List.getElem?_append_left (List.getElem?_eq_some_iff.1 hj).1,hj]
    ·cases hd
   ·cases hd
  ·cases hd
 | elem s p g i=>
  simp only [derefA] at hd
  split at hd
  ·rename_i b t' l hc
   split at hd
   ·rename_i T' x hx
    cases hr with
    | u h=>cases h
    | ptrE _ _ _ _ _ _ hpf hh=>
     obtain ⟨q1,q2,blk',n',c,q3,q4⟩:=hh _ _ _ hc
     cases q4
     obtain ⟨blk2,cap,cells,ty,cs,r1,r2,r3,r4,r5⟩:=h.ownElem hX hc hpf q1
     rw [q3] at r1;cases r1
     have htq:tyQ q t'=some T':=by
      cases hq:tyQ q t' with
      | none=>rw [hq] at q2;cases q2
      | some T2=>
       obtain ⟨y,hy⟩:=getQ_of_tyQ (l.l.getD i (Γ.X.zero t')) hq
       rw [hx] at hy;cases hy;rfl
     obtain ⟨c1,cx,c2,S1,Sx,S2,e1,e2,e3,e4,_⟩:=(VRep.pure (w:=w) (F:=F) r4).lens hX htq hx
     have hop:ownAt .no q=.no∨True:=.inr trivial
     have e5:PRep w F T' x cx:=by
      have hpz:∀ (q:List PS),ownAt .no q=.no:=fun q=>by
       induction q with
       | nil=>rfl
       | cons p q ih=>cases p<;>first | exact ih | rfl
      rw [hpz] at e4
      exact (e4.toPure rfl).1
     obtain ⟨css,rfl,hcss⟩:=arr e5 hd
     refine ⟨cells,ty,css,r2,own r3,fun j u hj=>?_,hcss⟩
     have:=r5 (offQ q t'+j) u (by
      rw [e1,←e2,List.append_assoc,List.getElem?_append_right (by omega)]
      simp [List.getElem?_append_left (List.getElem?_eq_some_iff.1 hj).1,hj])
     rw [cell_of r2] at this
     rw [←this];congr 1;omega
   ·cases hd
  ·cases hd
theorem EnvRel.rdSl (hX:TabOk Γ.X) (h:EnvRel N F0 B U w0 F S e a w) {T0:Option Γ.X.Ty} {Y:Operand} {x:AX Γ.X} (hx:compX Γ K T0 Y=some x) {b:Nat} {t:Γ.X.Ty} {l:Sl b (Γ.X.den t)} (hs:slOf e (Go.A2.rd e x)=some ⟨b,t,l⟩):
  ReadsSl w F t l (a.eval Y):=by
 obtain ⟨R,h1,h2,h3⟩:=h.rd hX hx
 have pure:∀ {o:Own},o.pure=true→Go.A2.rd e x=.val (.slice b t) l o→ReadsSl w F t l (a.eval Y):=fun {o} ho hr=>by
  rw [hr] at h1
  obtain ⟨cs,k1,k2⟩:=SRep.valInv h1
  obtain ⟨k3,_⟩:=k1.toPure ho
  unfold valOk at k2
  rw [if_neg (by simp [aggB])] at k2
  subst k2
  generalize hu:a.eval Y=u at k3
  cases k3 with
  | slice _ _ _ ad cap css hcap ha hp=>
   refine ⟨ad,cap,css,rfl,hcap,fun hne=>?_,hp⟩
   obtain ⟨blk,o',q1,q2,q3⟩:=ha hne
   exact ⟨blk,o',q1,h.free blk q2,q3⟩
 have own:∀ {s g:Nat} {b:Nat} {t:Γ.X.Ty} {l:Sl b (Γ.X.den t)} {u:Value} {Sx:List Nat},VRep w F (.slice b t) l (.yes g) [u] Sx→(∀ b∈Sx,b∈S s)→ReadsSl w F t l u:=fun {s g b t l u Sx} k1 k3=>by
  have key:∀ {T:Γ.X.Ty} {v:Γ.X.den T} {o:Own} {cs:List Value} {S':List Nat},VRep w F T v o cs S'→T=.slice b t→HEq v l→o=.yes g→cs=[u]→S'=Sx→
    ReadsSl w F t l u:=fun hv hT hvl ho hcs hS=>by
   cases hv with
   | ownNil b' t' v g' ad hv=>
    cases hT;cases hvl
    simp only [List.cons.injEq,and_true] at hcs
    exact ⟨ad,0,fun _=>[],by rw [←hcs,hv];rfl,by rw [hv];simp,fun hne=>absurd hv hne,fun i x hi=>by rw [hv] at hi;simp at hi⟩
   | own b' t' v g' blk cap cells ty css hg hsz hcap hmx hcc hp=>
    cases hT;cases hvl
    simp only [List.cons.injEq,and_true] at hcs
    refine ⟨_,cap,css,hcs.symm,hcap,fun _=>⟨blk,0,rfl,(h.own s blk (k3 blk (by rw [←hS];simp))).2.1,fun i j u hi hj=>?_⟩,hp⟩
    rw [cell_of hg,Nat.zero_add]
    exact hcc i j u hi hj
   | pure=>cases ho
   | full=>cases ho
   | st=>cases ho
   | dead=>cases ho
   | ownM=>cases hT
  exact key k1 rfl HEq.rfl rfl rfl rfl
 unfold slOf at hs
 split at hs
 ·rename_i hr;cases hs;exact pure rfl hr
 ·rename_i hr;cases hs;exact pure rfl hr
 ·rename_i s q g hr
  rw [hr] at h1
  obtain ⟨hq,hh⟩:=h.refAt hs h1
  obtain ⟨u,Sx,k1,k2,k3⟩:=h.ownSl hX hs hq
  rw [hh] at k2;cases k2
  exact own k1 k3
 ·rename_i s q g off hi hr
  split at hs
  ·rename_i b' t' l0 hc0
   cases hs
   rw [hr] at h1
   generalize a.eval Y=uu at h1
   cases h1 with
   | u h=>cases h
   | view _ _ _ _ _ _ hq hh=>
    obtain ⟨p1,p2,ad,c,m,c',p3,rfl,p4,p5⟩:=hh _ _ _ hc0
    obtain ⟨u,Sx,k1,k2,k3⟩:=h.ownSl hX hc0 hq
    rw [p3] at k2;cases k2
    exact (own k1 k3).cut p1 p2 p4 p5
  ·cases hs
 ·rename_i bs q b' n t' off hi hr
  split at hs
  ·rename_i v hd
   split at hs
   ·rename_i hok
    cases hs
    rw [hr] at h1
    generalize a.eval Y=uu at h1
    cases h1 with
    | u h=>cases h
    | aview _ _ _ _ _ _ _ blk o c m hp p1 p2 p3 p4=>
     obtain ⟨cells,ty,css,r1,r2,r3,r4⟩:=h.arrAt hX hd hp
     have hl:(Arr.sl b v hok).l=v.l:=rfl
     have hln:(Arr.sl b v hok).l.length=n:=v.h
     have cl:∀ i,i < n→(css i).length=Γ.X.sz t:=fun i hi=>(r4 i _ (List.getElem?_eq_getElem (by rw [v.h];exact hi))).length hX
     have:ReadsSl w F t (Arr.sl b v hok) (.slice (some ⟨blk,o,none⟩) (Arr.sl b v hok).l.length n):=by
      refine ⟨_,n,css,rfl,by omega,fun _=>⟨blk,o,rfl,r2,fun i j u hi hj=>?_⟩,r4⟩
      rw [hln] at hi
      have hjl:j < Γ.X.sz t:=by rw [←cl i hi];exact (List.getElem?_eq_some_iff.1 hj).1
      rw [cell_of r1,Nat.add_assoc]
      exact r3 _ u (by rw [cat_get cl hi hjl];exact hj)
     exact this.cut p1 (by omega) p3 fun hlt=>by rw [p4 hlt];simp [addr_add]
   ·cases hs
  ·cases hs
 ·cases hs
section looks
variable {T0 T1 T2:Option Γ.X.Ty} {g:Nat} {o:Oper} {us:Ups Γ.X} {ans:Ret Γ.X} (hX:TabOk Γ.X) (h:EnvRel N F0 B U w0 F S e a w) (hg:¬ U g) (hd:∀ k,o.dst=some k→N.ok k)
include hX h hg hd
theorem look_idxS {t el:TypeId} {Y I:Operand} {x i:AX Γ.X} {b:Nat} {T:Γ.X.Ty} (ho:o.op=.indexAddr t Y I) (ht:P.underlying t=some (.slice el)) (hsz:sizeO P el=some (Γ.X.sz T)) (hx:compX Γ K T0 Y=some x) (hi:compX Γ K T1 I=some i)
  (hs:eff ans g e o.dst (.idxS b T x i)=some us):Looks N F0 B U w0 P e a w g o us:=by
 have run:∀ blk o' len cap (k:IntKind) (j:Int),a.eval Y=.slice (some ⟨blk,o',none⟩) len cap→a.eval I=.int k j→0≤j∧j < len→
   (execOp a.eval o).run P w=.ok (.value (.pointer (some ⟨blk,o'+j.toNat*Γ.X.sz T,none⟩))) w:=fun blk o' len cap k j h1 h2 h3=>by
  simp only [execOp,ho,Instr.indexAt,h1,h2]
  simp [asIntOf,run_underlying' ht,run_sizeO hsz,addr_add,h3.1,h3.2]
 simp only [eff] at hs
 split at hs
 ·rename_i s q g' k z oz hr hrz
  split at hs
  ·rename_i b' t' l hc
   split at hs
   ·rename_i hbt
    obtain ⟨rfl,rfl⟩:=hbt
    obtain ⟨m,hm,hs⟩:=Option.bind_eq_some_iff.1 hs
    cases hs
    unfold idx? at hm
    split at hm
    ·rename_i hc1
     cases hm
     obtain ⟨R,h1,h2,_⟩:=h.rd hX hx
     rw [hr] at h1 h2
     obtain ⟨hq,hh⟩:=h.refAt hc h1
     have hlt:z.n.toNat < l.l.length:=by omega
     obtain ⟨blk,cap,cells,ty,cs,g1,g2,g3,g4,g5⟩:=h.ownElem hX hc hq hlt
     rw [hh] at g1
     simp only [Option.some.injEq] at g1
     refine ⟨_,run blk 0 _ cap k z.n g1 (h.rdInt hX hi hrz) hc1,h.out hd hg (Hand.ofPure ?_ h2) trivial⟩
     refine .ptrE s q g' _ [] _ hq fun b2 t2 l2 hc2=>?_
     rw [hc] at hc2;cases hc2
     exact ⟨hlt,rfl,blk,_,cap,by rw [hh,g1],by simp [offQ]⟩
    ·cases hm
   ·cases hs
  ·cases hs
 ·rename_i T1' l ol k z oz hr hrz
  split at hs
  ·rename_i hpo
   split at hs
   ·rename_i l1 hl1
    obtain ⟨rfl,hl1⟩:=castT_some hl1
    simp only at hl1;subst hl1
    obtain ⟨y,hy,hs⟩:=Option.bind_eq_some_iff.1 hs
    cases hs
    unfold Sl.get? at hy
    split at hy
    ·rename_i hz0
     obtain ⟨cs,R,k1,k2⟩:=h.rdVal hX hx hr
     obtain ⟨k3,_⟩:=k1.toPure hpo
     unfold valOk at k2
     rw [if_neg (by simp [aggB])] at k2
     subst k2
     generalize hu:a.eval Y=u at k3
     have hlt:=(List.getElem?_eq_some_iff.1 hy).1
     cases k3 with
     | slice _ _ _ ad cap css hcap ha hp=>
      obtain ⟨blk,o',q1,q2,q3⟩:=ha (by intro hne;rw [hne] at hlt;simp at hlt)
      subst q1
      refine ⟨_,run blk o' _ cap k z.n hu (h.rdInt hX hi hrz) ⟨hz0,by omega⟩,h.out hd hg (Hand.ofPure (.u (.rptr T y blk _ (css z.n.toNat) q2 (fun j u hj=>q3 _ j u hlt hj) (hp _ y hy))) trivial) trivial⟩
    ·cases hy
   ·cases hs
  ·cases hs
 ·cases hs
theorem look_part {t:TypeId} {Y:Operand} {x:AX Γ.X} {i:Γ.X.ι} {j:Nat} {fs:Array Field} (ho:o.op=.field t Y j) (ht:P.underlying t=some (.struct fs)) (hf:fldOk P Γ fs i j=true) (hx:compX Γ K T0 Y=some x)
  (hs:eff ans g e o.dst (.part i j x)=some us):Looks N F0 B U w0 P e a w g o us:=by
 obtain ⟨f,T,k1,k2,k3,k4,k5⟩:=fldOk_some hf
 obtain ⟨_,k6,k7⟩:=tyC_some k4
 simp only [eff] at hs
 split at hs
 ·rename_i T1 v ov hr
  split at hs
  ·rename_i hpo
   split at hs
   ·rename_i v1 hv1
    obtain ⟨rfl,hv1⟩:=castT_some hv1
    simp only at hv1;subst hv1
    split at hs
    ·rename_i T' y hy
     cases hs
     have hT':=getT_type hy
     rw [k2] at hT';cases hT'
     obtain ⟨cs,R,q1,q2⟩:=h.rdVal hX hx hr
     obtain ⟨q3,_⟩:=q1.toPure hpo
     unfold valOk at q2
     rw [if_pos (by simp [aggB])] at q2
     obtain ⟨c1,cx,c2,S1,Sx,S2,e1,e2,e3,e4,_⟩:=(VRep.pure q3).lens hX (q:=[.fld j]) (T':=T) (x:=y) (by simp [tyQ,k2]) (by simp only [getQ];rw [hy])
     have hcx:PRep w F T y cx:=(e4.toPure rfl).1
     have ho2:offQ [.fld j] (.named i:Γ.X.Ty)=Γ.X.off i j:=by simp [offQ,k2]
     have hl:=hcx.length hX
     cases hb:aggB T with
     | true=>
      refine ⟨.agg cx.toArray,?_,h.outV hd hg rfl (.pure hcx) (by unfold valOk;rw [if_pos hb])⟩
      rw [hb] at k7
      simp only [execOp,ho,Instr.field,q2]
      simp only [run_underlying' ht,k1,asAgg,part,Sem.run_bind,Result.andThen_ok,Sem.run_pure]
      simp only [run_isAggT k7,run_sizeO k6,Result.andThen_ok,if_true,Sem.run_bind,Sem.run_pure]
      have:cs.toArray.extract f.offset (f.offset+Γ.X.sz T)=cx.toArray:=by
       rw [k3,←ho2,←e2,←hl,e1]
       simp
      rw [this]
     | false=>
      have hs1:Γ.X.sz T=1:=by cases T<;>first | rfl | simp [aggB] at hb
      rw [hs1] at hl
      cases cx with
      | nil=>cases hl
      | cons c cx=>
       cases cx with
       | cons=>simp at hl
       | nil=>
        refine ⟨c,?_,h.outV hd hg rfl (.pure hcx) (by unfold valOk;rw [if_neg (by simp [hb])])⟩
        rw [hb] at k7
        have hat:cs[f.offset]?=some c:=by rw [k3,←ho2,←e2,e1];simp
        simp only [execOp,ho,Instr.field,q2]
        simp [run_underlying' ht,k1,asAgg,part,run_isAggT k7,hat]
    ·cases hs
   ·cases hs
  ·cases hs
 ·cases hs
theorem look_idxV {t el:TypeId} {Y I:Operand} {x i:AX Γ.X} {n:Nat} {T:Γ.X.Ty} (ho:o.op=.index t Y I) (ht:P.underlying t=some (.array n el)) (hel:tyC P Γ el=some T) (hx:compX Γ K T0 Y=some x) (hi:compX Γ K T1 I=some i)
  (hs:eff ans g e o.dst (.idxV n T x i)=some us):Looks N F0 B U w0 P e a w g o us:=by
 obtain ⟨_,k6,k7⟩:=tyC_some hel
 simp only [eff] at hs
 split at hs
 ·rename_i T1' v ov k z oz hr hrz
  split at hs
  ·rename_i hpo
   split at hs
   ·rename_i v1 hv1
    obtain ⟨rfl,hv1⟩:=castT_some hv1
    simp only at hv1;subst hv1
    obtain ⟨m,hm,hs⟩:=Option.bind_eq_some_iff.1 hs
    cases hs
    unfold idx? at hm
    split at hm
    ·rename_i hc1
     cases hm
     have hmn:z.n.toNat < n:=by omega
     obtain ⟨cs,R,q1,q2⟩:=h.rdVal hX hx hr
     obtain ⟨q3,_⟩:=q1.toPure hpo
     unfold valOk at q2
     rw [if_pos (by simp [aggB])] at q2
     obtain ⟨c1,cx,c2,S1,Sx,S2,e1,e2,e3,e4,_⟩:=(VRep.pure q3).lens hX (q:=[.idx z.n.toNat]) (T':=T) (x:=v.l.getD z.n.toNat (Γ.X.zero T)) (by simp [tyQ,hmn]) rfl
     have hcx:PRep w F T _ cx:=(e4.toPure rfl).1
     have ho2:offQ [.idx z.n.toNat] (.arr n T:Γ.X.Ty)=z.n.toNat*Γ.X.sz T:=by simp [offQ]
     have hl:=hcx.length hX
     have eI:=h.rdInt hX hi hrz
     cases hb:aggB T with
     | true=>
      refine ⟨.agg cx.toArray,?_,h.outV hd hg rfl (.pure hcx) (by unfold valOk;rw [if_pos hb])⟩
      rw [hb] at k7
      simp only [execOp,ho,Instr.index,q2,eI]
      simp only [asIntOf,run_underlying' ht,part,Sem.run_bind,Result.andThen_ok,Sem.run_pure,hc1,and_self,if_true]
      simp only [run_isAggT k7,run_sizeO k6,Result.andThen_ok,if_true,Sem.run_bind,Sem.run_pure]
      have:cs.toArray.extract (z.n.toNat*Γ.X.sz T) (z.n.toNat*Γ.X.sz T+Γ.X.sz T)=cx.toArray:=by
       rw [←ho2,←e2,←hl,e1]
       simp
      rw [this]
     | false=>
      have hs1:Γ.X.sz T=1:=by cases T<;>first | rfl | simp [aggB] at hb
      rw [hs1] at hl
      cases cx with
      | nil=>cases hl
      | cons c cx=>
       cases cx with
       | cons=>simp at hl
       | nil=>
        refine ⟨c,?_,h.outV hd hg rfl (.pure hcx) (by unfold valOk;rw [if_neg (by simp [hb])])⟩
        rw [hb] at k7
        have hat:cs[z.n.toNat*Γ.X.sz T]?=some c:=by rw [←ho2,←e2,e1];simp
        simp only [execOp,ho,Instr.index,q2,eI]
        simp [asIntOf,run_underlying' ht,part,run_isAggT k7,run_sizeO k6,hat,hc1.1,hc1.2]
    ·cases hm
   ·cases hs
  ·cases hs
 ·cases hs
theorem look_load {t:TypeId} {Y:Operand} {x:AX Γ.X} {T:Γ.X.Ty} (ho:o.op=.load t Y) (ht:tyC P Γ t=some T) (hx:compX Γ K T0 Y=some x) (hs:eff ans g e o.dst (.load T x)=some us):Looks N F0 B U w0 P e a w g o us:=by
 obtain ⟨R,h1,h2,_⟩:=h.rd hX hx
 have run:∀ {b o':Nat} {cs:List Value},a.eval Y=.pointer (some ⟨b,o',none⟩)→cs.length=Γ.X.sz T→(∀ (j:Nat) v,cs[j]?=some v→w.cell? ⟨b,o'+j,none⟩=some v)→
   ∃ u,(execOp a.eval o).run P w=.ok (.value u) w∧valOk T cs u:=fun {b o' cs} hu hl hc=>by
  obtain ⟨u,h1,h2⟩:=run_loadVar' (P:=P) ht hl hc
  refine ⟨u,?_,h2⟩
  simp only [execOp,ho,Instr.loadAt,Instr.sureAddr,hu]
  simp [h1]
 simp only [eff] at hs
 unfold loadV at hs
 split at hs
 ·rename_i T1 v hr
  obtain ⟨v1,hv1,hs⟩:=Option.map_eq_some_iff.1 hs
  subst hs
  obtain ⟨rfl,hv1⟩:=castT_some hv1
  simp only at hv1;subst hv1
  rw [hr] at h1
  cases h1 with
  | u h1=>
   generalize hu:a.eval Y=u at h1
   cases h1 with
   | rptr _ _ b o' cs hb hc hp=>
    obtain ⟨u,q1,q2⟩:=run hu (hp.length hX) hc
    exact ⟨u,q1,h.outV hd hg rfl (.pure hp) q2⟩
 ·rename_i s g' q hr
  rw [hr] at h1 h2
  split at hs
  ·rename_i gb Tb v0 o0 hes
   split at hs
   ·rename_i hgg
    subst hgg
    split at hs
    ·rename_i T1 v hv
     split at hs
     ·rename_i v1 hv1
      obtain ⟨rfl,hv1⟩:=castT_some hv1
      simp only at hv1;subst hv1
      obtain ⟨b,cells,ty,S',k1,k2,k3,k4⟩:=h.boxAt hes
      have hptr:∃ b',a.tmps.getD s Go.undef=.pointer (some ⟨b',0,none⟩)∧a.eval Y=.pointer (some ⟨b',offQ q Tb,none⟩)∧(tyQ q Tb).isSome=true:=by
       generalize a.eval Y=u at h1
       cases h1 with
       | u h=>cases h
       | ptrB _ _ _ _ hh=>exact hh Tb v0 o0 hes
      obtain ⟨b',p1,p2,p3⟩:=hptr
      rw [k1] at p1;cases p1
      have htq:tyQ q Tb=some T1:=by
       cases hq:tyQ q Tb with
       | none=>rw [hq] at p3;cases p3
       | some T2=>
        obtain ⟨y,hy⟩:=getQ_of_tyQ v0 hq
        rw [hv] at hy;cases hy;rfl
      obtain ⟨c1,cx,c2,S1,Sx,S2,e1,e2,e3,e4,_⟩:=k3.lens hX htq hv
      have hcell:∀ (j:Nat) u,cx[j]?=some u→w.cell? ⟨b,offQ q Tb+j,none⟩=some u:=fun j u hj=>by
       rw [cell_of k2,←Array.getElem?_toList,e1,←e2,List.append_assoc,List.getElem?_append_right (by omega)]
       simp [List.getElem?_append_left (List.getElem?_eq_some_iff.1 hj).1,hj]
      obtain ⟨u,q1,q2⟩:=run p2 (e4.length hX) hcell
      split at hs
      ·rename_i hown
       cases hs
       rw [hown] at e4
       exact ⟨u,q1,h.outV hd hg rfl (.pure (e4.toPure rfl).1) q2⟩
      ·rename_i hown
       cases hs
       rw [hown] at e4
       obtain ⟨_,hSx⟩:=e4.toPure rfl
       subst hSx
       exact ⟨u,q1,h.outV hd hg rfl e4 q2⟩
      ·rename_i g1 hown
       split at hs
       ·rename_i hfl
        cases hs
        refine ⟨u,q1,h.out hd hg (Hand.ofPure (.ref s q g1 u hfl fun hcn=>?_) ?_) trivial⟩
        ·obtain ⟨cx',Sx',m1,m2,m3⟩:=h.place hX (s:=s) (by rw [hes];rfl) htq hv
         have hsl:∃ b t,T1=.slice b t:=by
          rw [hown] at e4
          cases e4 with
          | ownNil b t=>exact ⟨b,t,rfl⟩
          | own b t=>exact ⟨b,t,rfl⟩
          | ownM k t=>exfalso;unfold cont at hcn;rw [hes] at hcn;simp only [slotC,hv] at hcn;cases hcn
         obtain ⟨b2,t2,rfl⟩:=hsl
         have hu:cx=[u]:=by unfold valOk at q2;rw [if_neg (by simp [aggB])] at q2;exact q2
         unfold hdr
         rw [hes]
         simp only [k1]
         have:=hcell 0 u (by rw [hu];rfl)
         simpa using this
        ·have:=h.owns s
         rw [hes] at this
         exact ownAt_gen this.2 hown
       ·cases hs
      ·cases hs
      ·rename_i l hown
       split at hs
       ·rename_i hpl
        cases hs
        rw [hown] at e4
        exact ⟨u,q1,h.outV hd hg rfl (.pure (e4.toPure hpl).1) q2⟩
       ·split at hs
        ·rename_i hal
         obtain ⟨m,hm,hs⟩:=Option.map_eq_some_iff.1 hs
         subst hs
         obtain ⟨F1,S1',cx',m1,m2,m3,m4,m5⟩:=h.freezeAt hX (s:=s) (by rw [hes];rfl) htq hv hm (by rw [hown];exact hal)
         rw [hes] at m1
         have hcx:cx'=cx:=by
          have l1:=m3.length hX
          have l2:=e4.length hX
          refine List.ext_getElem? fun j=>?_
          rcases Nat.lt_or_ge j cx.length with hj | hj
          ·have a1:=hcell j cx[j] (List.getElem?_eq_getElem hj)
           have a2:=m5 g' b hes k1 j cx'[j] (List.getElem?_eq_getElem (by omega))
           rw [a1] at a2
           rw [List.getElem?_eq_getElem hj,List.getElem?_eq_getElem (by omega)]
           simpa using a2.symm
          ·rw [List.getElem?_eq_none hj,List.getElem?_eq_none (by omega)]
         rw [hcx] at m3
         exact ⟨u,q1,m1.outV hd hg rfl (.pure m3) q2⟩
        ·cases hs
     ·cases hs
    ·cases hs
   ·cases hs
  ·cases hs
 ·rename_i s p g' i q hr
  rw [hr] at h1 h2
  split at hs
  ·rename_i b t2 l hc
   split at hs
   ·rename_i T1 v hv
    obtain ⟨v1,hv1,hs⟩:=Option.map_eq_some_iff.1 hs
    subst hs
    obtain ⟨rfl,hv1⟩:=castT_some hv1
    simp only at hv1;subst hv1
    generalize hu:a.eval Y=u at h1
    cases h1 with
    | u h=>cases h
    | ptrE _ _ _ _ _ _ hp hh=>
     obtain ⟨hi,hty,blk,n,c,p1,p2⟩:=hh b t2 l hc
     obtain ⟨blk',cap,cells,ty,cs,g1,g2,g3,g4,g5⟩:=h.ownElem hX hc hp hi
     rw [p1] at g1;cases g1
     have htq:tyQ q t2=some T1:=by
      cases hq:tyQ q t2 with
      | none=>rw [hq] at hty;cases hty
      | some T2=>
       obtain ⟨y,hy⟩:=getQ_of_tyQ (l.l.getD i (Γ.X.zero t2)) hq
       rw [hv] at hy;cases hy;rfl
     obtain ⟨c1,cx,c2,S1,Sx,S2,e1,e2,e3,e4,_⟩:=(VRep.pure g4).lens hX htq hv
     have hno:∀ q,ownAt .no q=.no:=fun q=>by
      induction q with
      | nil=>rfl
      | cons p q ih=>cases p<;>simp only [ownAt,Own.fldD];exact ih
     rw [hno] at e4
     have hcell:∀ (j:Nat) u,cx[j]?=some u→w.cell? ⟨blk,i*Γ.X.sz t2+offQ q t2+j,none⟩=some u:=fun j u hj=>by
      have:=g5 (offQ q t2+j) u (by rw [e1,←e2,List.append_assoc,List.getElem?_append_right (by omega)];simp [List.getElem?_append_left (List.getElem?_eq_some_iff.1 hj).1,hj])
      rw [Nat.add_assoc];exact this
     obtain ⟨u',q1,q2⟩:=run (hu.trans p2) (e4.length hX) hcell
     exact ⟨u',q1,h.outV hd hg rfl (.pure (e4.toPure rfl).1) q2⟩
   ·cases hs
  ·cases hs
 ·cases hs
theorem look_loadM {t:TypeId} {Y:Operand} {x:AX Γ.X} {T:Γ.X.Ty} (ho:o.op=.load t Y) (ht:tyC P Γ t=some T) (hx:compX Γ K T0 Y=some x) (hs:eff ans g e o.dst (.loadM T x)=some us):Looks N F0 B U w0 P e a w g o us:=by
 obtain ⟨R,h1,h2,_⟩:=h.rd hX hx
 simp only [eff] at hs
 split at hs
 ·rename_i s g' hr
  split at hs
  ·rename_i g2 T1 v0 o0 hes
   split at hs
   ·rename_i hgg
    obtain ⟨rfl,hal⟩:=hgg
    split at hs
    ·rename_i v hv
     obtain ⟨rfl,hv⟩:=castT_some hv
     simp only at hv;subst hv
     cases hs
     rw [hr] at h1
     obtain ⟨b,cells,ty,S',k1,k2,k3,k4⟩:=h.boxAt hes
     have hptr:a.eval Y=.pointer (some ⟨b,0,none⟩):=by
      generalize a.eval Y=u at h1
      cases h1 with
      | u h=>cases h
      | ptrB _ _ _ _ hh=>
       obtain ⟨b',p1,p2,_⟩:=hh _ _ _ hes
       rw [k1] at p1;cases p1
       simpa [offQ] using p2
     obtain ⟨u,q1,q2⟩:=run_loadVar' (P:=P) (w:=w) (b:=b) (o:=0) ht (k3.length hX) fun j v hj=>by
      rw [cell_of k2,Nat.zero_add,←Array.getElem?_toList];exact hj
     refine ⟨u,?_,?_⟩
     ·simp only [execOp,ho,Instr.loadAt,Instr.sureAddr,hptr]
      simp [q1]
     ·have hnd:=h.nodup s
      rw [k4] at hnd
      have hin:∀ b'∈S',b'∈S s:=fun b' hb=>by rw [k4];exact List.mem_cons_of_mem _ hb
      have hh:Hand B U F (updS S s []) (upd e s .undef) a w (.val T1 v0 (o0.gen g)) u S':=⟨.u (.val T1 v0 _ u _ S' (k3.gen g) q2),trivial,(List.nodup_cons.1 hnd).2,fun b' hb=>h.own s b' (hin b' hb),fun b' hb t ht=>by
       by_cases hts:t=s
       ·subst hts;rw [updS_same] at ht;cases ht
       ·rw [updS_ne S _ hts] at ht;exact h.apart s t b' (Ne.symm hts) (hin b' hb) ht⟩
      have:=(h.drop s).out hd hg hh (OGen_gen g o0)
      exact this
    ·cases hs
   ·cases hs
  ·cases hs
 ·cases hs
theorem look_moveT {Y:Operand} {x:AX Γ.X} (ho:o.op=.move Y∨o.op=.assign Y) (hx:compX Γ K T0 Y=some x) (hs:eff ans g e o.dst (.moveT x)=some us):Looks N F0 B U w0 P e a w g o us:=by
 simp only [eff] at hs
 split at hs
 ·rename_i T v m u hta
  obtain ⟨us2,h2,rfl⟩:=Option.map_eq_some_iff.1 hs
  cases h2
  obtain ⟨F1,S1,cs,R,k1,k2,k3,k4,k5,k6,k7,_⟩:=h.take hX hx hta
  refine ⟨a.eval Y,by rcases ho with ho | ho<;>simp [execOp,ho],?_⟩
  rw [applyU_append]
  exact k1.out hd hg ⟨.u (.val T v _ _ cs R (k3.gen g) k4),trivial,k5,k6,k7⟩ (OGen_gen g m)
 ·cases hs
end looks
end
end
end Go.A2
namespace Go.A2
section
variable {P:Program} {Γ:Cx}
theorem allO_spec {α β:Type} {f:α→Option β}:∀ {l:List α} {r:List β},allO f l=some r→r.length=l.length∧(∀ (i:Nat) x,l[i]?=some x→∃ y,r[i]?=some y∧f x=some y)
 | [],r,h=>by simp [allO] at h;subst h;simp
 | x :: l,r,h=>by
  simp only [allO] at h
  split at h
  ·rename_i y ys h1 h2
   simp only [Option.some.injEq] at h;subst h
   obtain ⟨h3,h4⟩:=allO_spec h2
   refine ⟨by simp [h3],fun i z hz=>?_⟩
   cases i with
   | zero=>simp at hz;subst hz;exact ⟨y,rfl,h1⟩
   | succ i=>simpa using h4 i z (by simpa using hz)
  ·cases h
theorem allO_get' {α β:Type} {f:α→Option β} {l:List α} {r:List β} (h:allO f l=some r) {i:Nat} {y:β} (hy:r[i]?=some y):∃ x,l[i]?=some x∧f x=some y:=by
 obtain ⟨h1,h2⟩:=allO_spec h
 have hi:i < l.length:=by rw [←h1];exact (List.getElem?_eq_some_iff.1 hy).1
 obtain ⟨z,hz,hf⟩:=h2 i l[i] (List.getElem?_eq_getElem hi)
 rw [hy] at hz;cases hz
 exact ⟨_,List.getElem?_eq_getElem hi,hf⟩
theorem cat_flatten {α:Type} (ls:List (List α)):cat (fun j=>ls.getD j []) ls.length=ls.flatten:=by
 induction ls with
 | nil=>rfl
 | cons x ls ih=>
  have gen:∀ n,cat (fun j=>(x :: ls).getD j []) (n+1)=x++cat (fun j=>ls.getD j []) n:=fun n=>by
   induction n with
   | zero=>simp [cat]
   | succ n ih=>rw [cat_succ,ih,cat_succ,List.append_assoc];rfl
  rw [List.length_cons,gen,ih];rfl
theorem zc_sound (hX:TabOk Γ.X) (w:World) (F:Nat→Prop):∀ (d:Nat) (T:Γ.X.Ty) (cs:List Value),zc Γ d T=some cs→PRep w F T (Γ.X.zero T) cs
 | 0,T,cs,h=>by simp [zc] at h
 | d+1,T,cs,h=>by
  cases T with
  | int k=>
   simp only [zc] at h;cases h
   have:=PRep.int (X:=Γ.X) (w:=w) (F:=F) k (W.of k 0)
   have e:(W.of k 0).n=0:=by cases k<;>rfl
   rw [e] at this
   exact this
  | bool=>simp only [zc] at h;cases h;exact .bool false
  | str=>simp only [zc] at h;cases h;exact .str ⟨[],Nat.zero_le _⟩
  | named i=>
   simp only [zc] at h
   obtain ⟨ls,h1,h2⟩:=Option.map_eq_some_iff.1 h
   subst h2
   obtain ⟨h3,h4⟩:=allO_spec h1
   rw [←cat_flatten,h3]
   refine .named i (Γ.X.zeroD i) _ fun j t x hj=>?_
   have:=hX.zero i j t x hj
   subst this
   obtain ⟨c,hc,hz⟩:=h4 j t (getT_type hj)
   have:ls.getD j []=c:=by simp [List.getD_eq_getElem?_getD,hc]
   rw [this]
   exact zc_sound hX w F d t c hz
  | arr n t=>
   simp only [zc] at h
   obtain ⟨c,h1,h2⟩:=Option.map_eq_some_iff.1 h
   subst h2
   have:(List.replicate n c).flatten=cat (fun _=>c) n:=by
    clear h
    induction n with
    | zero=>rfl
    | succ n ih=>rw [cat_succ,←ih,List.replicate_succ'];simp
   rw [this]
   refine .arr n t _ _ fun j x hj=>?_
   have hx:x=Γ.X.zero t:=by
    have:(List.replicate n (Γ.X.zero t))[j]?=some x:=hj
    rw [List.getElem?_replicate] at this
    split at this
    ·simpa using this.symm
    ·cases this
   rw [hx]
   exact zc_sound hX w F d t c h1
  | slice b t=>
   simp only [zc] at h;cases h
   exact .slice b t Sl.nil none 0 (fun _=>[]) (Nat.le_refl _) (fun h=>absurd rfl h) fun i x hi=>by simp [Sl.nil] at hi
  | map k t=>simp only [zc] at h;cases h;exact .mapNil k t
theorem eqZ_eq {x y:Value} (h:eqZ x y=true):x=y:=by
 unfold eqZ at h
 split at h
 ·simp at h;obtain ⟨rfl,rfl⟩:=h;rfl
 ·simp at h;subst h;rfl
 ·rename_i s t
  simp at h
  cases s;cases t;simp at h;rw [h]
 ·rfl
 ·rfl
 ·cases h
theorem eqZs_eq:∀ {l l':List Value},eqZs l l'=true→l=l'
 | [],[],_=>rfl
 | x :: l,y :: l',h=>by
  simp only [eqZs,Bool.and_eq_true] at h
  rw [eqZ_eq h.1,eqZs_eq h.2]
 | [],_ :: _,h=>by simp [eqZs] at h
 | _ :: _,[],h=>by simp [eqZs] at h
theorem zeroOk_some (hX:TabOk Γ.X) {t:TypeId} {T:Γ.X.Ty} (h:zeroOk P Γ t T=true) (w:World) (F:Nat→Prop):∃ i z,P.info? t=some i∧i.zero=some z∧PRep w F T (Γ.X.zero T) z.cells.toList:=by
 unfold zeroOk at h
 split at h
 ·rename_i l l' h1 h2
  have:=eqZs_eq h
  subst this
  unfold zeroO at h1
  cases hi:P.info? t with
  | none=>simp [hi] at h1
  | some i=>
   simp [hi] at h1
   obtain ⟨z,hz,rfl⟩:=h1
   exact ⟨i,z,rfl,hz,zc_sound hX w F _ _ _ h2⟩
 ·cases h
theorem zcF_sound (hX:TabOk Γ.X) (w:World) (F:Nat→Prop) (g:Nat) {d:Nat} {T:Γ.X.Ty} {cs:List Value} (h:zc Γ d T=some cs):VRep w F T (Γ.X.zero T) (zmF g T) cs []:=by
 cases T with
 | slice b t=>
  cases d with
  | zero=>simp [zc] at h
  | succ d=>
   simp only [zc] at h;cases h
   exact .ownNil b t Sl.nil g none rfl
 | _=>exact .pure (zc_sound hX w F _ _ _ h)
theorem zcO_sound (hX:TabOk Γ.X) (w:World) (F:Nat→Prop) (g:Nat) {d:Nat} {T:Γ.X.Ty} {cs:List Value} (h:zc Γ d T=some cs):VRep w F T (Γ.X.zero T) (zm g T) cs []:=by
 cases T with
 | slice b t=>exact zcF_sound hX w F g h
 | named i=>
  cases d with
  | zero=>simp [zc] at h
  | succ d=>
   show VRep w F (.named i) (Γ.X.zeroD i) (if (Γ.X.fields i).any isSl then .st ((Γ.X.fields i).map (zmF g)) else .no) cs []
   split
   ·simp only [zc] at h
    obtain ⟨ls,h1,h2⟩:=Option.map_eq_some_iff.1 h
    subst h2
    obtain ⟨h3,h4⟩:=allO_spec h1
    rw [←cat_flatten,h3]
    have:=VRep.st (w:=w) (F:=F) i (Γ.X.zeroD i) ((Γ.X.fields i).map (zmF g)) (fun j=>ls.getD j []) (fun _=>[]) fun j t x hj=>by
     have:=hX.zero i j t x hj
     subst this
     obtain ⟨c,hc,hz⟩:=h4 j t (getT_type hj)
     have e1:ls.getD j []=c:=by simp [List.getD_eq_getElem?_getD,hc]
     have e2:((Γ.X.fields i).map (zmF g)).getD j .no=zmF g t:=by simp [List.getD_eq_getElem?_getD,getT_type hj]
     rw [e1,e2]
     exact zcF_sound hX w F g hz
    rwa [cat_nil (f:=fun _=>([]:List Nat)) fun _ _=>rfl] at this
   ·exact .pure (zc_sound hX w F _ _ _ h)
 | _=>exact .pure (zc_sound hX w F _ _ _ h)
theorem zeroOk_own (hX:TabOk Γ.X) {t:TypeId} {T:Γ.X.Ty} (h:zeroOk P Γ t T=true) (w:World) (F:Nat→Prop) (g:Nat):∃ i z,P.info? t=some i∧i.zero=some z∧VRep w F T (Γ.X.zero T) (zm g T) z.cells.toList []:=by
 unfold zeroOk at h
 split at h
 ·rename_i l l' h1 h2
  have:=eqZs_eq h
  subst this
  unfold zeroO at h1
  cases hi:P.info? t with
  | none=>simp [hi] at h1
  | some i=>
   simp [hi] at h1
   obtain ⟨z,hz,rfl⟩:=h1
   exact ⟨i,z,rfl,hz,zcO_sound hX w F g h2⟩
 ·cases h
theorem OGenL_map {P:Nat→Prop} {α:Type} {f:α→Own} {l:List α} (h:∀ x,OGen P (f x)):OGenL P (l.map f):=by
 induction l with
 | nil=>trivial
 | cons x l ih=>exact ⟨h x,ih⟩
theorem zmL_same {X:Tab} (g:Nat):∀ l:List X.Ty,Own.genL g (l.map (zmF g))=l.map (zmF g)
 | []=>rfl
 | x :: l=>by
  simp only [List.map_cons,Own.genL,zmL_same g l]
  congr 1
  unfold zmF;split<;>rfl
theorem zm_same {X:Tab} (g:Nat) (T:X.Ty):(zm (X:=X) g T).gen g=zm g T:=by
 unfold zm
 split
 ·rfl
 ·split
  ·show Own.st (Own.genL g _)=_
   rw [zmL_same]
  ·rfl
 ·rfl
theorem zm_gen {X:Tab} (g:Nat) (T:X.Ty):OGen (·=g) (zm (X:=X) g T):=by
 unfold zm
 split
 ·rfl
 ·split
  ·exact OGenL_map fun x=>by unfold zmF;split;rfl;trivial
  ·trivial
 ·trivial
section
variable {K:List Nat} {N:Slots} {F0 B U:Nat→Prop} {w0:World} {F:Nat→Prop} {S:Nat→List Nat} {e:Env Γ.X} {a:Act} {w:World}
theorem belowP_alloc {B:Nat→Prop} (w:World) (o:Obj):BelowP B w (w.alloc o):=
 ⟨rfl,rfl,rfl,by simp,fun k hk _=>heap_alloc_old w o k hk⟩
theorem EnvRel.newBox (h:EnvRel N F0 B U w0 F S e a w) {T:Γ.X.Ty} {v:Γ.X.den T} {o:Own} {cells:Array Value} {R:List Nat} (ty:TypeId) (g:Nat) (hv:VRep w F T v o cells.toList R) (hnd:R.Nodup)
  (hR:∀ b∈R,B b∧b < w.heap.size∧¬ F b) (hap:∀ b∈R,∀ s,b ∉ S s):
  EnvRel N F0 B U w0 F S e a (w.alloc (.cells cells ty))∧Hand B U F S e a (w.alloc (.cells cells ty)) (.box g T v (o.gen g)) (.pointer (some ⟨w.heap.size,0,none⟩)) (w.heap.size :: R):=by
 have h1:=h.world (w':=w.alloc (.cells cells ty)) (F':=F) (fun _ h=>h) (fun b hb=>heap_alloc_old w _ b (h.free b hb)) (fun t b hb=>heap_alloc_old w _ b (h.own t b hb).2.1) (belowP_alloc w _) fun b hb=>.inl hb
 refine ⟨h1,?_,trivial,?_,?_,?_⟩
 ·exact .box g T v _ w.heap.size cells ty R (heap_alloc_new w _) ((hv.gen g).mono (fun _ h=>h) (fun b hb=>heap_alloc_old w _ b (h.free b hb)) fun b hb=>heap_alloc_old w _ b (hR b hb).2.1)
 ·exact List.nodup_cons.2 ⟨fun hb=>by have:=(hR _ hb).2.1;omega,hnd⟩
 ·intro b hb
  rcases List.mem_cons.1 hb with rfl | hb
  ·exact ⟨h.base _ (Nat.le_refl _),by simp,fun hf=>by have:=h.free _ hf;omega⟩
  ·obtain ⟨h2,h3,h4⟩:=hR b hb
   exact ⟨h2,by simp;omega,h4⟩
 ·intro b hb s hs
  rcases List.mem_cons.1 hb with rfl | hb
  ·have:=(h.own s _ hs).2.1;omega
  ·exact hap b hb s hs
theorem valOk_cells' {T:Γ.X.Ty} {cs:List Value} {u:Value} (h:valOk T cs u) (h1:∀ c∈cs,c.oneCell'=true):u.cells=cs.toArray:=by
 rw [←Array.toList_inj,valOk_cells h h1]
theorem genVL_length (g:Nat):∀ l:List (AV Γ.X),(genVL g l).length=l.length
 | []=>rfl
 | x :: l=>by simp only [genVL,List.length_cons,genVL_length g l]
theorem genVL_get (g:Nat):∀ (l:List (AV Γ.X)) (i:Nat) (y:AV Γ.X),(genVL g l)[i]?=some y→∃ x,l[i]?=some x∧y=genV g x
 | [],i,y,h=>by simp [genVL] at h
 | x :: l,0,y,h=>by simp [genVL] at h;exact ⟨x,rfl,h.symm⟩
 | x :: l,i+1,y,h=>by simpa using genVL_get g l i y (by simpa [genVL] using h)
theorem SRep.gen {x:AV Γ.X} {u:Value} {R:List Nat} (h:SRep e a w F x u R) (g:Nat):SRep e a w F (genV g x) u R:=by
 induction h with
 | u h=>cases h with
  | undef=>exact .u (.undef _)
  | val T v o _ cs _ h hu=>exact .u (.val T v _ _ cs _ (h.gen g) hu)
  | rptr T v b o cs hb hc h=>exact .u (.rptr T v b o cs hb hc h)
 | tup l us Ss hl _ ih=>
  have:=SRep.tup (e:=e) (a:=a) (w:=w) (F:=F) (genVL g l) us Ss (by rw [genVL_length];exact hl) fun i y u hy hu=>by
   obtain ⟨x,hx,rfl⟩:=genVL_get g l i y hy
   exact ih i x u hx hu
  rw [genVL_length] at this
  exact this
 | fn f as bs us vs hl hl' h h'=>exact .fn f as bs us vs hl hl' h h'
 | box g' T v o b cells ty S hg h=>exact .box g T v _ b cells ty S hg (h.gen g)
 | ref s q g u hq h=>exact .ref s q g u hq h
 | ptrB s g q u h=>exact .ptrB s g q u h
 | ptrE s p g i q u hp h=>exact .ptrE s p g i q u hp h
 | view s q g off hi u hq h=>exact .view s q g off hi u hq h
 | mref s g u h=>exact .mref s g u h
 | aview bs q b n t off hi blk o c m hp h1 h2 hc hm ih=>exact .aview bs q b n t off hi blk o c m hp h1 h2 hc hm
 | fnb f g' T v o b cells ty S hg h=>exact .fnb f g T v _ b cells ty S hg (h.gen g)
 | fref s g u h=>exact .fref s g u h
 | rfn f as bs us vs blk hb hc hl hl' h h'=>exact .rfn f as bs us vs blk hb hc hl hl' h h'
 | fnew g' blk c ty hg=>exact .fnew g blk c ty hg
mutual
theorem OwnsG_gen (g:Nat):∀ x:AV Γ.X,OwnsG (·=g) (genV g x)
 | .val _ _ o=>OGen_gen g o
 | .box _ _ _ o=>⟨rfl,OGen_gen g o⟩
 | .tup l=>OwnsGL_gen g l
 | .undef=>trivial
 | .ref _ _ _=>trivial
 | .ptr _ _=>trivial
 | .rptr _ _=>trivial
 | .fn _ _ _=>trivial
 | .view _ _ _ _ _=>trivial
 | .mref _ _=>trivial
 | .aview _ _ _ _ _ _ _=>trivial
 | .fnb _ _ _ _ o=>⟨rfl,OGen_gen g o⟩
 | .fref _ _=>trivial
 | .rfn _ _ _=>trivial
 | .fnew _=>rfl
theorem OwnsGL_gen (g:Nat):∀ l:List (AV Γ.X),OwnsGL (·=g) (genVL g l)
 | []=>trivial
 | x :: l=>⟨OwnsG_gen g x,OwnsGL_gen g l⟩
end
mutual
theorem RefG_gen {Q:Nat→Prop} (g:Nat):∀ {x:AV Γ.X},RefG Q x→RefG Q (genV g x)
 | .val _ _ _,_=>trivial
 | .box _ _ _ _,_=>trivial
 | .tup _,h=>RefGL_gen g h
 | .undef,h=>h
 | .ref _ _ _,h=>h
 | .view _ _ _ _ _,h=>h
 | .mref _ _,h=>h
 | .aview _ _ _ _ _ _ _,h=>h
 | .fnb _ _ _ _ _,_=>trivial
 | .fref _ _,h=>h
 | .rfn _ _ _,h=>h
 | .fnew _,h=>h
 | .ptr _ _,h=>h
 | .rptr _ _,h=>h
 | .fn _ _ _,h=>h
theorem RefGL_gen {Q:Nat→Prop} (g:Nat):∀ {l:List (AV Γ.X)},RefGL Q l→RefGL Q (genVL g l)
 | [],_=>trivial
 | _ :: _,h=>⟨RefG_gen g h.1,RefGL_gen g h.2⟩
end
theorem put_self {a:Act} {d:Nat} (hd:d < a.tmps.size):a.put (some d) (a.tmps.getD d Go.undef)=a:=by
 have:a.tmps.setIfInBounds d (a.tmps.getD d Go.undef)=a.tmps:=by
  apply Array.ext_getElem?
  intro i
  rw [Array.getElem?_setIfInBounds]
  split
  ·rename_i h;subst h;simp [Array.getD,hd]
  ·rfl
 show ({ a with tmps:=a.tmps.setIfInBounds d (a.tmps.getD d Go.undef) }:Act)=a
 rw [this]
section steps
variable {T0 T1 T2:Option Γ.X.Ty} {g:Nat} {o:Oper} {us:Ups Γ.X} {ans:Ret Γ.X} (hX:TabOk Γ.X) (h:EnvRel N F0 B U w0 F S e a w) (hg:¬ U g) (hd:∀ k,o.dst=some k→N.ok k)
 {next:Act→World→Prop} {Q:Exit→Act→World→Prop} (hnext:∀ a' w',Sim N F0 B (withG U g) w0 (applyU e us) a' w'→next a' w')
include hX h hg hd hnext
theorem step_alloc {t:TypeId} {T:Γ.X.Ty} (ho:o.op=.alloc t) (hz:zeroOk P Γ t T=true) (hs:eff ans g e o.dst (.alloc T)=some us):o.wp P a w next Q:=by
 obtain ⟨i,z,h1,h2,h3⟩:=zeroOk_own hX hz w F g
 have hrun:(execOp a.eval o).run P w=.ok (.value (.pointer (some ⟨w.heap.size,0,none⟩))) (w.alloc (.cells z.cells t)):=by
  simp only [execOp,ho,Instr.alloc]
  simp [zeroValue,run_typeInfo' h1,h2,newVar,newRow]
 unfold Oper.wp
 rw [hrun]
 simp only [eff] at hs
 cases hs
 obtain ⟨k1,k2⟩:=h.newBox t g h3 List.nodup_nil (by simp) (by simp)
 rw [zm_same] at k2
 exact hnext _ _ (k1.out hd hg k2 ⟨rfl,zm_gen g T⟩)
theorem step_box {t:TypeId} {T:Γ.X.Ty} {Y:Operand} {x:AX Γ.X} (ho:o.op=.box t Y) (hx:compX Γ K T0 Y=some x) (hs:eff ans g e o.dst (.box T x)=some us):o.wp P a w next Q:=by
 have hrun:(execOp a.eval o).run P w=.ok (.value (.pointer (some ⟨w.heap.size,0,none⟩))) (w.alloc (.cells (a.eval Y).cells t)):=by
  simp only [execOp,ho,Instr.box]
  simp [newVar,newRow]
 unfold Oper.wp
 rw [hrun]
 simp only [eff] at hs
 split at hs
 ·rename_i T1 v m u ht
  split at hs
  ·rename_i v1 hv1
   obtain ⟨rfl,hv1⟩:=castT_some hv1
   simp only at hv1;subst hv1
   cases hs
   obtain ⟨F1,S1,cs,R,k1,k2,k3,k4,k5,k6,k7,_⟩:=h.take hX hx ht
   rw [valOk_cells' k4 k3.one]
   obtain ⟨q1,q2⟩:=k1.newBox t g (cells:=cs.toArray) k3 k5 k6 k7
   refine hnext _ _ ?_
   have:=q1.out hd hg q2 ⟨rfl,OGen_gen g m⟩
   rw [applyU_append]
   exact this
  ·cases hs
 ·cases hs
omit hX in
theorem step_junk {t:TypeId} {Y:Operand} (ho:o.op=.box t Y) (hs:eff ans g e o.dst .junk=some us):o.wp P a w next Q:=by
 have hrun:(execOp a.eval o).run P w=.ok (.value (.pointer (some ⟨w.heap.size,0,none⟩))) (w.alloc (.cells (a.eval Y).cells t)):=by
  simp only [execOp,ho,Instr.box]
  simp [newVar,newRow]
 unfold Oper.wp
 rw [hrun]
 simp only [eff] at hs
 cases hs
 have h1:=h.world (w':=w.alloc (.cells (a.eval Y).cells t)) (F':=F) (fun _ h=>h) (fun b hb=>heap_alloc_old w _ b (h.free b hb)) (fun t b hb=>heap_alloc_old w _ b (h.own t b hb).2.1) (belowP_alloc w _) fun b hb=>.inl hb
 exact hnext _ _ (h1.out hd hg (x:=.undef) (Hand.ofPure (.u (.undef _)) trivial) trivial)
theorem step_move {Y:Operand} {x:AX Γ.X} (ho:o.op=.move Y∨o.op=.assign Y) (hx:compX Γ K T0 Y=some x) (hs:eff ans g e o.dst (.move x)=some us):o.wp P a w next Q:=by
 have hrun:(execOp a.eval o).run P w=.ok (.value (a.eval Y)) w:=by
  rcases ho with ho | ho<;>(simp only [execOp,ho];rfl)
 unfold Oper.wp
 rw [hrun]
 show next (a.put o.dst (a.eval Y)) w
 simp only [eff] at hs
 obtain ⟨R,h1,h2,_⟩:=h.rd hX hx
 have soft:(∀ l,Go.A2.rd e x ≠ .tup l)→(∀ T v o,Go.A2.rd e x=.val T v o→o.pure=true)→((∀ g T v o,Go.A2.rd e x ≠ .box g T v o)∧(∀ g,Go.A2.rd e x ≠ .fnew g)∧∀ f g T v o,Go.A2.rd e x ≠ .fnb f g T v o)→some (outU o.dst (Go.A2.rd e x))=some us→next (a.put o.dst (a.eval Y)) w:=fun htup hval hnbf hout=>by
  obtain ⟨hnb,hnf,hnc⟩:=hnbf
  cases hout
  have hR:R=[]∧OwnsG (·=g) (Go.A2.rd e x):=by
   generalize Go.A2.rd e x=y at h1 htup hval hnb hnf hnc
   generalize a.eval Y=u at h1
   cases h1 with
   | u h1=>cases h1 with
    | undef=>exact ⟨rfl,trivial⟩
    | val T v o' u' cs S' hv hu=>
     have hp:=hval T v o' rfl
     exact ⟨(hv.toPure hp).2,OGen_pure hp⟩
    | rptr=>exact ⟨rfl,trivial⟩
   | tup l=>exact absurd rfl (htup l)
   | fn=>exact ⟨rfl,trivial⟩
   | box g' T v o'=>exact absurd rfl (hnb g' T v o')
   | ref=>exact ⟨rfl,trivial⟩
   | ptrB=>exact ⟨rfl,trivial⟩
   | ptrE=>exact ⟨rfl,trivial⟩
   | view=>exact ⟨rfl,trivial⟩
   | mref=>exact ⟨rfl,trivial⟩
   | aview=>exact ⟨rfl,trivial⟩
   | fref=>exact ⟨rfl,trivial⟩
   | fnb f g' T v o'=>exact absurd rfl (hnc f g' T v o')
   | rfn=>exact ⟨rfl,trivial⟩
   | fnew g'=>exact absurd rfl (hnf g')
  rw [hR.1] at h1
  exact hnext _ _ (h.out hd hg (Hand.ofPure h1 h2) hR.2)
 have hand:∀ {s:Nat},Y=.tmp s→some ([(s,.undef)]++outU o.dst (genV g (e s)))=some us→next (a.put o.dst (a.eval Y)) w:=fun {s} hY hout=>by
  subst hY
  cases hout
  have hh:=h.handOf s
  have hh':Hand B U F (updS S s []) (upd e s .undef) a w (genV g (e s)) (a.tmps.getD s Go.undef) (S s):=⟨hh.rep.gen g,RefG_gen g hh.refs,hh.nodup,hh.own,hh.apart⟩
  have:=(h.drop s).out hd hg hh' (OwnsG_gen g _)
  refine hnext _ _ ?_
  rw [applyU_append]
  exact this
 cases x with
 | c y=>
  obtain ⟨T',v',o',hy⟩ | ⟨f,hy⟩ | ⟨T',v',hy⟩ | hy:(∃ T v o,y=.val T v o∧o.pure=true)∨(∃ f,y=.fn f [] [])∨(∃ T v,y=.rptr T v)∨y=.undef:=by
   cases Y with
   | tmp s=>simp only [compX,Option.some.injEq] at hx;split at hx<;>cases hx
   | const cv=>
    simp only [compX] at hx
    cases hc:cvX Γ T0 cv with
    | none=>simp [hc] at hx
    | some q=>
     simp [hc] at hx;subst hx
     unfold cvX at hc
     split at hc
     ·cases hc;exact .inr (.inr (.inr rfl))
     ·obtain ⟨T',y',o',cs,he,hp,_⟩:=cvC_sound hX hc w F
      exact .inl ⟨T',y',o',he,hp⟩
   | func f=>simp [compX] at hx;subst hx;exact .inr (.inl ⟨f,rfl⟩)
   | global gg=>
    simp only [compX,glC] at hx
    split at hx
    ·split at hx
     ·simp only [Option.map_some,Option.some.injEq] at hx
      cases hx
      exact .inr (.inr (.inl ⟨_,_,rfl⟩))
     ·simp at hx
    ·simp at hx
  ·obtain ⟨hy,hp⟩:=hy
   exact soft (by simp [Go.A2.rd,hy]) (fun T v o' he=>by simp only [Go.A2.rd] at he;rw [hy] at he;cases he;exact hp) (by simp [Go.A2.rd,hy]) hs
  ·exact soft (by simp [Go.A2.rd,hy]) (by simp [Go.A2.rd,hy]) (by simp [Go.A2.rd,hy]) hs
  ·exact soft (by simp [Go.A2.rd,hy]) (by simp [Go.A2.rd,hy]) (by simp [Go.A2.rd,hy]) hs
  ·exact soft (by simp [Go.A2.rd,hy]) (by simp [Go.A2.rd,hy]) (by simp [Go.A2.rd,hy]) hs
 | t s=>
  have hY:=compX_slot (.inl hx)
  simp only [] at hs
  cases hes:e s with
  | val T v ov=>
   simp only [hes] at hs
   split at hs
   ·rename_i hp
    have hrd:Go.A2.rd e (.t s)=.val T v ov:=by
     simp only [Go.A2.rd,hes]
     cases T<;>cases ov<;>first | rfl | cases hp
    exact soft (by simp [hrd]) (fun T' v' o' he=>by rw [hrd] at he;cases he;exact hp) (by simp [hrd]) (by rw [hrd];exact hs)
   ·exact hand hY (by rw [hes];exact hs)
  | tup l=>simp only [hes] at hs;exact hand hY (by rw [hes];exact hs)
  | ref r q g'=>
   simp only [hes] at hs
   split at hs
   ·rename_i hsm
    cases hs
    unfold selfMv at hsm
    split at hsm
    ·rename_i d' b t l g1 hdd her
     rw [Bool.and_eq_true,beq_iff_eq,beq_iff_eq] at hsm
     obtain ⟨rfl,rfl⟩:=hsm
     have hrd:Go.A2.rd e (.t s)=.ref d' [] g':=by simp only [Go.A2.rd,hes]
     rw [hrd] at h1
     obtain ⟨cs,k1,k2⟩:=h.valAt her
     unfold valOk at k2;rw [if_neg (by simp [aggB])] at k2
     have hu:a.eval Y=a.tmps.getD d' Go.undef:=by
      generalize a.eval Y=u at h1
      cases h1 with
      | u h=>cases h
      | ref _ _ _ _ hq hh=>
       have hh:=hh (by simp [cont,her,slotC,getQ,ownAt])
       unfold hdr at hh
       rw [her] at hh
       have hcs:(a.tmps.getD d' Go.undef).cells.toList=cs:=valOk_cells (T:=.slice b t) (by unfold valOk;rw [if_neg (by simp [aggB])];exact k2) k1.one
       have hh:(a.tmps.getD d' Go.undef).cells[0]?=some u:=hh
       rw [←Array.getElem?_toList,hcs,k2] at hh
       simpa using hh.symm
     rw [hdd,hu,put_self (by rw [h.size];exact (hd d' hdd).1)]
     exact hnext _ _ ⟨F,S,h.weakU fun _ h=>.inl h⟩
    ·cases hsm
   ·exact soft (by simp [Go.A2.rd,hes]) (by simp [Go.A2.rd,hes]) (by simp [Go.A2.rd,hes]) (by rw [show Go.A2.rd e (.t s)=.ref r q g' by simp only [Go.A2.rd,hes]];exact hs)
  | fnew g'=>simp only [hes] at hs;cases hs
  | _=>
   simp only [hes] at hs
   exact soft (by simp [Go.A2.rd,hes]) (by simp [Go.A2.rd,hes]) (by simp [Go.A2.rd,hes]) hs
 | v s=>
  have hY:=compX_slot (.inr hx)
  simp only [] at hs
  cases hes:e s with
  | val T v ov=>
   have other:(if ov.pure=true then some (outU o.dst (.val T v ov)) else if ov.alive=true then some ([(s,.val T v .no)]++outU o.dst (.val T v .no)) else none)=some us→(ov.pure=true→Go.A2.rd e (.v s)=.val T v ov)→next (a.put o.dst (a.eval Y)) w:=fun hs hrd=>by
    split at hs
    ·rename_i hp
     have hrd:=hrd hp
     exact soft (by simp [hrd]) (fun T' v' o' he=>by rw [hrd] at he;cases he;exact hp) (by simp [hrd]) (by rw [hrd];exact hs)
    ·split at hs
     ·rename_i hal
      cases hs
      subst hY
      obtain ⟨F1,S1,cx,g1,g2,g3,g4,_⟩:=h.freezeAt hX (s:=s) (q:=[]) (by rw [hes];rfl) rfl rfl rfl hal
      rw [hes] at g1
      obtain ⟨cs,k1,k2⟩:=g1.valAt (s:=s) (by rw [upd_same];rfl)
      obtain ⟨k3,_⟩:=k1.toPure rfl
      refine hnext _ _ ?_
      rw [applyU_append]
      exact g1.outV hd hg rfl (.pure k3) k2
     ·cases hs
   have hpr:ov.pure=true→Go.A2.rd e (.v s)=.val T v ov:=fun hp=>by
    simp only [Go.A2.rd,hes]
    cases T<;>cases ov<;>first | rfl | cases hp
   simp only [hes] at hs
   cases T with
   | slice b t=>
    cases ov with
    | yes g'=>
     simp only [] at hs
     have hrd:Go.A2.rd e (.v s)=.ref s [] g':=by simp only [Go.A2.rd,hes]
     exact soft (by simp [hrd]) (by simp [hrd]) (by simp [hrd]) (by rw [hrd];exact hs)
    | _=>exact other hs hpr
   | map k t=>
    cases ov with
    | yes g'=>
     simp only [] at hs
     have hrd:Go.A2.rd e (.v s)=.mref s g':=by simp only [Go.A2.rd,hes]
     exact soft (by simp [hrd]) (by simp [hrd]) (by simp [hrd]) (by rw [hrd];exact hs)
    | _=>exact other hs hpr
   | _=>exact other hs hpr
  | tup l=>simp only [hes] at hs;cases hs
  | fnew g'=>simp only [hes] at hs;cases hs
  | _=>
   simp only [hes] at hs
   exact soft (by simp [Go.A2.rd,hes]) (by simp [Go.A2.rd,hes]) (by simp [Go.A2.rd,hes]) hs
end steps
end
end
end Go.A2
namespace Go.A2
section
variable {P:Program} {Γ:Cx}
theorem OwnsGL_set {Q:Nat→Prop}:∀ {l:List (AV Γ.X)} (_:OwnsGL Q l) (i:Nat),OwnsGL Q (l.set i .undef)
 | [],_,_=>trivial
 | _ :: _,h,0=>⟨trivial,h.2⟩
 | _ :: _,h,i+1=>⟨h.1,OwnsGL_set h.2 i⟩
theorem RefGL_set {Q:Nat→Prop}:∀ {l:List (AV Γ.X)} (_:RefGL Q l) (i:Nat),RefGL Q (l.set i .undef)
 | [],_,_=>trivial
 | _ :: _,h,0=>⟨trivial,h.2⟩
 | _ :: _,h,i+1=>⟨h.1,RefGL_set h.2 i⟩
section
variable {K:List Nat} {N:Slots} {F0 B U:Nat→Prop} {w0:World} {F:Nat→Prop} {S:Nat→List Nat} {e:Env Γ.X} {a:Act} {w:World}
theorem EnvRel.keptT (h:EnvRel N F0 B U w0 F S e a w) {s:Nat} {x:AV Γ.X} (hx:slotC x=none) (hx':∀ f g T v o,x ≠ .fnb f g T v o):Kept U e a w (upd e s x) a w:=by
 have h0:=h.kept (e':=upd e s .undef) (a':=a) (w':=w) fun t=>by
  by_cases ht:t=s
  ·subst ht;exact .inr (by rw [upd_same];trivial)
  ·exact .inl ⟨upd_ne e _ ht,rfl,fun _ _=>rfl⟩
 refine ⟨fun t q g b ty l' hqf hg hc=>?_,fun t g T1 v1 o1 hg hb=>?_,fun t f g T1 v1 o1 hg hb=>?_,fun t g k ty l hg hb=>?_⟩
 ·by_cases ht:t=s
  ·subst ht
   unfold cont at hc
   rw [upd_same,hx] at hc
   cases hc
  ·obtain ⟨l,k1,k2,k3⟩:=h0.ref t q g b ty l' hqf hg (by rw [cont_congr (e:=upd e s x) (by rw [upd_ne e _ ht,upd_ne e _ ht])];exact hc)
   refine ⟨l,k1,k2,?_⟩
   rw [←k3]
   unfold hdr
   rw [upd_ne e _ ht,upd_ne e _ ht]
 ·by_cases ht:t=s
  ·subst ht
   rw [upd_same] at hb
   rw [hb] at hx;cases hx
  ·rw [upd_ne e _ ht] at hb
   exact h0.box t g T1 v1 o1 hg (by rw [upd_ne e _ ht];exact hb)
 ·by_cases ht:t=s
  ·subst ht
   rw [upd_same] at hb
   exact absurd hb (hx' _ _ _ _ _)
  ·rw [upd_ne e _ ht] at hb
   exact h0.fb t f g T1 v1 o1 hg (by rw [upd_ne e _ ht];exact hb)
 ·by_cases ht:t=s
  ·subst ht
   rw [upd_same] at hb
   rw [hb] at hx;cases hx
  ·rw [upd_ne e _ ht] at hb
   exact h0.mp t g k ty l hg (by rw [upd_ne e _ ht];exact hb)
section steps
variable {T0 T1 T2:Option Γ.X.Ty} {g:Nat} {o:Oper} {us:Ups Γ.X} {ans:Ret Γ.X} (hX:TabOk Γ.X) (h:EnvRel N F0 B U w0 F S e a w) (hg:¬ U g) (hd:∀ k,o.dst=some k→N.ok k)
section
variable {next:Act→World→Prop} {Q:Exit→Act→World→Prop} (hnext:∀ a' w',Sim N F0 B (withG U g) w0 (applyU e us) a' w'→next a' w')
include hX h hg hd hnext
theorem step_extract {Y:Operand} {x:AX Γ.X} {i:Nat} (ho:o.op=.extract Y i) (hx:compX Γ K T0 Y=some x) (hs:eff ans g e o.dst (.extract x i)=some us):o.wp P a w next Q:=by
 have _:=hX
 simp only [eff] at hs
 cases x with
 | t s=>
  simp only [] at hs
  have hY:=compX_slot (.inl hx)
  subst hY
  cases hes:e s with
  | tup l=>
   simp only [hes] at hs
   have hr:=h.rep s
   have hrf:=h.refs s
   have how:=h.owns s
   rw [hes] at hr hrf how
   have hev:a.eval (.tmp s)=a.tmps.getD s Go.undef:=rfl
   generalize hu:a.tmps.getD s Go.undef=u at hr
   generalize hS:S s=R at hr
   cases hr with
   | u h=>cases h
   | tup _ us' Ss hl hp=>
    cases hli:l[i]? with
    | none=>simp [hli] at hs
    | some y=>
     have hil:i < l.length:=(List.getElem?_eq_some_iff.1 hli).1
     obtain ⟨q,hq⟩:∃ q,us'[i]?=some q:=⟨us'[i]'(by omega),List.getElem?_eq_getElem (by omega)⟩
     have hrun:(execOp a.eval o).run P w=.ok (.value q) w:=by
      simp only [execOp,ho,Instr.extract,hev,hu]
      simp [hq]
     have hyr:=hp i y q hli hq
     have hyf:=RefGL_get hrf hli
     unfold Oper.wp
     rw [hrun]
     show next (a.put o.dst q) w
     cases y with
     | val T v m=>
      simp only [hli] at hs
      split at hs
      ·rename_i hpo
       cases hs
       obtain ⟨cs,k1,k2⟩:=SRep.valInv hyr
       obtain ⟨_,hSi⟩:=k1.toPure hpo
       rw [hSi] at k1
       exact hnext _ _ (h.outV hd hg hpo k1 k2)
      ·cases hs
       obtain ⟨r,hr1,hr2⟩:=cat_split Ss hil
       have hnd:=h.nodup s
       rw [hS,hr1] at hnd
       obtain ⟨n1,n2,n3⟩:=nodup_parts hnd
       have hk:Kept U e a w (upd e s (.tup (l.set i .undef))) a w:=h.keptT rfl (by simp)
       have hturn:=h.turn (s:=s) (x:=.tup (l.set i .undef)) (T:=cat Ss i++r) (w':=w) (F':=F) (U':=U) (a':=a) rfl rfl (fun _ _=>rfl) (fun _ _=>rfl) hk (fun _ h=>h) (fun _ h=>h) (fun _ _=>rfl) (fun _ _ _ _=>rfl) (.refl _ _) (fun b hb=>.inl hb)
        (by
         rw [hu]
         have:=SRep.tup (e:=upd e s (.tup (l.set i .undef))) (a:=a) (w:=w) (F:=F) (l.set i .undef) us' (fun k=>if k=i then [] else Ss k) (by rw [List.length_set];exact hl) fun k x u hx hu=>by
          by_cases hki:k=i
          ·subst hki
           rw [List.getElem?_set_self hil] at hx
           cases hx
           simp only [if_true]
           exact .u (.undef u)
          ·rw [List.getElem?_set_ne (Ne.symm hki)] at hx
           simp only [hki,if_false]
           exact (hp k x u hx hu).step (fun _ h=>h) (fun _ _=>rfl) hk (RefGL_get hrf hx) fun _ _=>rfl
         rw [List.length_set,hr2 _ fun k hk=>by simp [show k ≠ i by omega],cat_congr (g:=Ss) fun k hk=>by simp [show k ≠ i by omega]] at this
         simpa using this)
        (OwnsGL_set how i) (RefGL_set hrf i) n1
        (fun b hb=>h.own s b (by rw [hS,hr1];rcases List.mem_append.1 hb with hb | hb<;>simp [hb]))
        (fun b hb t ht=>h.apart s t b (Ne.symm ht) (by rw [hS,hr1];rcases List.mem_append.1 hb with hb | hb<;>simp [hb]))
       have hh:Hand B U F (updS S s (cat Ss i++r)) (upd e s (.tup (l.set i .undef))) a w (.val T v (m.gen g)) q (Ss i):=by
        refine ⟨(hyr.step (fun _ h=>h) (fun _ _=>rfl) hk hyf fun _ _=>rfl).gen g,trivial,n2,fun b hb=>h.own s b (by rw [hS,hr1];simp [hb]),fun b hb t=>?_⟩
        by_cases hts:t=s
        ·subst hts;rw [updS_same];exact n3 b hb
        ·rw [updS_ne S _ hts]
         exact h.apart s t b (Ne.symm hts) (by rw [hS,hr1];simp [hb])
       refine hnext _ _ ?_
       rw [applyU_append]
       exact hturn.out hd hg hh (OGen_gen g m)
     | fn f as bs=>
      simp only [hli] at hs
      cases hs
      have hSi:Ss i=[]:=by
       generalize Ss i=R at hyr
       cases hyr with
       | u h=>cases h
       | fn=>rfl
      rw [hSi] at hyr
      exact hnext _ _ (h.out hd hg (Hand.ofPure hyr hyf) trivial)
     | _=>simp [hli] at hs
  | _=>simp [hes] at hs
 | v s=>simp at hs
 | c y=>simp at hs
end
section
include hX h hg hd
omit hX h hg hd in
theorem capRef_some {y z:AV Γ.X} (hz:capRef y=some z) {u:Value} {R:List Nat} (hr:SRep e a w F y u R) (hrf:RefG U y):SRep e a w F z u []∧RefG U z:=by
 cases y with
 | ptr b q=>
  simp only [capRef,Option.some.injEq] at hz;subst hz
  have:=ptr_nil hr
  subst this
  exact ⟨hr,hrf⟩
 | rptr T v=>
  simp only [capRef,Option.some.injEq] at hz;subst hz
  cases hr with
  | u h=>cases h with
   | rptr T v b o cs hb hc hp=>exact ⟨.u (.rptr T v b o cs hb hc hp),trivial⟩
 | val T v m=>
  simp only [capRef] at hz
  split at hz
  ·rename_i hpo
   cases hz
   obtain ⟨cs,k1,k2⟩:=SRep.valInv hr
   exact ⟨.u (.val T v .no u cs [] (.pure (k1.toPure hpo).1) k2),trivial⟩
  ·cases hz
 | rfn f as bs=>
  simp only [capRef,Option.some.injEq] at hz;subst hz
  cases hr with
  | u h=>cases h
  | rfn _ _ _ us vs blk hb hc hl hl' k k'=>exact ⟨.rfn f as bs us vs blk hb hc hl hl' k k',hrf⟩
 | undef=>
  simp only [capRef,Option.some.injEq] at hz;subst hz
  exact ⟨.u (.undef u),trivial⟩
 | _=>simp [capRef] at hz
omit hg hd in
theorem caps_some {Ys:List Operand} {xs:List (AX Γ.X)} (hx:allO (compX Γ K none) Ys=some xs) {zs:List (AV Γ.X)} (hz:allO (fun x=>capRef (Go.A2.rd e x)) xs=some zs):
  zs.length=(Ys.map a.eval).length∧(∀ (i:Nat) z u,zs[i]?=some z→(Ys.map a.eval)[i]?=some u→SRep e a w F z u [])∧RefGL U zs:=by
 obtain ⟨h1,h2⟩:=allO_spec hx
 obtain ⟨h3,h4⟩:=allO_spec hz
 have key:∀ (i:Nat) z,zs[i]?=some z→∃ Y,Ys[i]?=some Y∧SRep e a w F z (a.eval Y) []∧RefG U z:=fun i z hi=>by
  obtain ⟨x,hxi,hcr⟩:=allO_get' hz hi
  obtain ⟨Y,hYi,hcx⟩:=allO_get' hx hxi
  obtain ⟨R,k1,k2,_⟩:=h.rd hX hcx
  obtain ⟨k3,k4⟩:=capRef_some hcr k1 k2
  exact ⟨Y,hYi,k3,k4⟩
 refine ⟨by simp [h3,h1],fun i z u hi hu=>?_,RefGL_mk fun z hz'=>?_⟩
 ·obtain ⟨Y,hYi,k1,_⟩:=key i z hi
  rw [List.getElem?_map,hYi] at hu
  simp at hu;subst hu
  exact k1
 ·obtain ⟨i,hi,rfl⟩:=List.mem_iff_getElem.1 hz'
  obtain ⟨_,_,_,k2⟩:=key i _ (List.getElem?_eq_getElem hi)
  exact k2
theorem look_makeFunc {f:Nat} {first caps:Array Operand} {xs ys:List (AX Γ.X)} (ho:o.op=.makeFunc (.func f) first caps) (hx:allO (compX Γ K none) first.toList=some xs) (hy:allO (compX Γ K none) caps.toList=some ys)
  (hs:eff ans g e o.dst (.makeFunc f xs ys)=some us):Looks N F0 B U w0 P e a w g o us:=by
 simp only [eff] at hs
 split at hs
 ·rename_i as bs h1 h2
  cases hs
  obtain ⟨k1,k2,k3⟩:=caps_some hX h hx h1
  obtain ⟨q1,q2,q3⟩:=caps_some hX h hy h2
  refine ⟨.func (.func f) (first.toList.map a.eval).toArray (caps.toList.map a.eval).toArray,?_,h.out hd hg (Hand.ofPure (.fn f as bs _ _ k1 q1 k2 q2) ⟨k3,q3⟩) trivial⟩
  simp only [execOp,ho,Instr.makeFunc]
  have e1:∀ A:Array Operand,A.map a.eval=(A.toList.map a.eval).toArray:=fun A=>by rw [←Array.toList_inj];simp
  rw [e1 first,e1 caps]
  rfl
 ·cases hs
omit hX h hg hd in
theorem mm_run (isMax:Bool) {k:IntKind}:∀ {l:List (AV Γ.X)} {us:List Value} {x z:W k},mmI k isMax x l=some z→us.length=l.length→(∀ (i:Nat) y u,l[i]?=some y→us[i]?=some u→∀ n:W k,valOf y (.int k)=some n→u=.int k n.n)→
  (us.foldlM (if isMax then Builtin.max2 else Builtin.min2) (.int k x.n)).run P w=.ok (.int k z.n) w
 | [],us,x,z,hz,hl,_=>by
  have:us=[]:=List.eq_nil_of_length_eq_zero (by simpa using hl)
  subst this
  simp only [mmI,Option.some.injEq] at hz;subst hz;rfl
 | y :: l,us,x,z,hz,hl,hu=>by
  cases us with
  | nil=>cases hl
  | cons u us=>
   simp only [mmI] at hz
   cases hy:valOf y (.int k) with
   | none=>simp [hy] at hz
   | some n=>
    simp only [hy] at hz
    have hu0:u=.int k n.n:=hu 0 y u rfl rfl n hy
    subst hu0
    have ih:=mm_run isMax hz (by simpa using hl) fun i y u hi hui=>hu (i+1) y u (by simpa using hi) (by simpa using hui)
    simp only [List.foldlM_cons,Sem.run_bind]
    cases isMax
    ·have:(Builtin.min2 (.int k x.n) (.int k n.n)).run P w=.ok (.int k (W.min x n).n) w:=by
      show Result.ok (Value.int k (if n.n < x.n then n.n else x.n)) w=_
      unfold W.min
      by_cases hlt:n.n < x.n<;>simp [hlt]
     simp only [Bool.false_eq_true,if_false] at ih ⊢
     rw [this]
     simpa using ih
    ·have:(Builtin.max2 (.int k x.n) (.int k n.n)).run P w=.ok (.int k (W.max x n).n) w:=by
      show Result.ok (Value.int k (if n.n > x.n then n.n else x.n)) w=_
      unfold W.max
      by_cases hlt:x.n < n.n<;>simp [hlt]
     simp only [if_true] at ih ⊢
     rw [this]
     simpa using ih
omit hX h hg hd in
theorem argsC_spec:∀ {ts:List TypeId} {Ys:List Operand} {xs:List (AX Γ.X)},argsC Γ K ts Ys=some xs→xs.length=Ys.length∧∀ (i:Nat) x,xs[i]?=some x→∃ T Y,Ys[i]?=some Y∧compX Γ K T Y=some x
 | ts,[],xs,hh=>by simp [argsC] at hh;subst hh;simp
 | ts,Y :: Ys,xs,hh=>by
  simp only [argsC] at hh
  split at hh
  ·rename_i y ys h1 h2
   simp only [Option.some.injEq] at hh;subst hh
   obtain ⟨h3,h4⟩:=argsC_spec h2
   refine ⟨by simp [h3],fun i x hi=>?_⟩
   cases i with
   | zero=>simp at hi;subst hi;exact ⟨_,Y,rfl,h1⟩
   | succ i=>simpa using h4 i x (by simpa using hi)
  ·cases hh
omit hg hd in
theorem valOf_int {Y:Operand} {T:Option Γ.X.Ty} {x:AX Γ.X} (hx:compX Γ K T Y=some x) {k:IntKind} {n:W k} (hv:valOf (Go.A2.rd e x) (.int k)=some n):a.eval Y=.int k n.n:=by
 unfold valOf at hv
 split at hv
 ·rename_i T' v m hr
  obtain ⟨rfl,hv⟩:=castT_some hv
  simp only at hv;subst hv
  exact h.rdInt hX hx hr
 ·cases hv
theorem look_mm {c:Call} {isMax:Bool} {ts:List TypeId} {xs:List (AX Γ.X)} (ho:o.op=.call c) (hc:c.callee=.builtin (if isMax then .max else .min)) (hx:argsC Γ K ts c.args.toList=some xs)
  (hs:eff ans g e o.dst (.mm isMax xs)=some us):Looks N F0 B U w0 P e a w g o us:=by
 obtain ⟨h1,h2⟩:=argsC_spec hx
 simp only [eff] at hs
 split at hs
 ·rename_i k n on l hl
  obtain ⟨z,hz,hs⟩:=Option.bind_eq_some_iff.1 hs
  cases hs
  cases xs with
  | nil=>cases hl
  | cons x xs=>
   simp only [List.map_cons,List.cons.injEq] at hl
   obtain ⟨hx0,rfl⟩:=hl
   cases hY:c.args.toList with
   | nil=>rw [hY] at h1;cases h1
   | cons Y Ys=>
    rw [hY] at h1 h2
    obtain ⟨TT,Y',hY',hcx⟩:=h2 0 x rfl
    simp at hY';subst hY'
    have e0:=h.rdInt hX hcx hx0
    have hrun:=mm_run (P:=P) (w:=w) isMax hz (us:=Ys.map a.eval) (by simpa using h1.symm) fun i y u hi hu n hn=>by
     rw [List.getElem?_map] at hi hu
     cases hxi:xs[i]? with
     | none=>simp [hxi] at hi
     | some xi=>
      simp [hxi] at hi;subst hi
      obtain ⟨Ti,Yi,hYi,hcxi⟩:=h2 (i+1) xi (by simpa using hxi)
      simp at hYi
      rw [hYi] at hu
      simp at hu;subst hu
      exact valOf_int hX h hcxi hn
    refine ⟨.int k z.n,?_,h.outInt hd hg _ _⟩
    simp only [execOp,ho,resolve,hc]
    have hargs:c.args.toList.map a.eval=.int k n.n :: Ys.map a.eval:=by rw [hY];simp [e0]
    cases isMax
    ·simp only [Bool.false_eq_true,if_false] at hrun ⊢
     simp [invoke,builtin,Builtin.min_,hargs,hrun]
    ·simp only [if_true] at hrun ⊢
     simp [invoke,builtin,Builtin.max_,hargs,hrun]
 ·cases hs
omit hX h hg hd in
theorem len_arg {c:Call} {ts:List TypeId} {x:AX Γ.X} (hx:argsC Γ K ts c.args.toList=some [x]):∃ T Y,c.args=#[Y]∧compX Γ K T Y=some x:=by
 obtain ⟨h1,h2⟩:=argsC_spec hx
 obtain ⟨TT,Y,hY,hcx⟩:=h2 0 x rfl
 refine ⟨TT,Y,?_,hcx⟩
 rw [←Array.toList_inj]
 cases hl:c.args.toList with
 | nil=>rw [hl] at h1;cases h1
 | cons Z Zs=>
  rw [hl] at h1 hY
  simp at h1 hY
  rw [hY,←h1]
theorem look_lenStr {c:Call} {t:TypeId} {ts:List TypeId} {x:AX Γ.X} (ho:o.op=.call c) (hc:c.callee=.builtin .len) (hx:argsC Γ K ts c.args.toList=some [x]) (hty:c.argTypes[0]?=some t) (ht:P.underlying t=some .string)
  (hs:eff ans g e o.dst (.len true x)=some us):Looks N F0 B U w0 P e a w g o us:=by
 obtain ⟨TT,Y,ha,hcx⟩:=len_arg hx
 simp only [eff] at hs
 split at hs
 ·rename_i s os hr
  cases hs
  have e0:=h.rdStr hX hcx hr
  refine ⟨.int .i64 (Str.len s).n,?_,h.outInt hd hg _ _⟩
  have hsz:(⟨s.l.toArray⟩:ByteArray).size=s.l.length:=by simp [ByteArray.size]
  simp only [execOp,ho,resolve,hc,ha]
  simp [invoke,builtin,Builtin.len_,hty,run_underlying' ht,e0,goInt,hsz,Str.len]
 ·cases hs
theorem look_lenS {c:Call} {t el:TypeId} {ts:List TypeId} {x:AX Γ.X} (ho:o.op=.call c) (hc:c.callee=.builtin .len) (hx:argsC Γ K ts c.args.toList=some [x]) (hty:c.argTypes[0]?=some t) (ht:P.underlying t=some (.slice el))
  (hs:eff ans g e o.dst (.len false x)=some us):Looks N F0 B U w0 P e a w g o us:=by
 obtain ⟨TT,Y,ha,hcx⟩:=len_arg hx
 simp only [eff] at hs
 obtain ⟨⟨b,t',l⟩,hl,hs⟩:=Option.bind_eq_some_iff.1 hs
 cases hs
 obtain ⟨ad,cap,css,hu,_⟩:=h.rdSl hX hcx hl
 refine ⟨.int .i64 l.len.n,?_,h.outInt hd hg _ _⟩
 simp only [execOp,ho,resolve,hc,ha]
 simp [invoke,builtin,Builtin.len_,hty,run_underlying' ht,hu,goInt,Sl.len]
end
end steps
end
end
end Go.A2
namespace Go.A2
section
variable {P:Program} {Γ:Cx}
theorem tyQ_of_setQ:∀ {q:List PS} {T0 T T':Γ.X.Ty} {v0 v1:Γ.X.den T0} {v:Γ.X.den T},setQ q T0 v0 T v=some v1→tyQ q T0=some T'→T'=T
 | [],T0,T,T',v0,v1,v,h,ht=>by
  simp only [tyQ,Option.some.injEq] at ht;subst ht
  simp only [setQ] at h
  obtain ⟨rfl,_⟩:=castT_some h
  rfl
 | .fld j :: q,.named i,T,T',v0,v1,v,h,ht=>by
  simp only [tyQ] at ht
  simp only [setQ] at h
  split at h
  ·rename_i t x hg
   rw [getT_type hg] at ht
   split at h
   ·rename_i y hy
    exact tyQ_of_setQ hy ht
   ·cases h
  ·cases h
 | .idx k :: q,.arr n t,T,T',v0,v1,v,h,ht=>by
  simp only [tyQ] at ht
  simp only [setQ] at h
  split at ht
  ·cases hy:setQ q t (v0.l.getD k (Γ.X.zero t)) T v with
   | none=>rw [hy] at h;cases h
   | some y=>exact tyQ_of_setQ hy ht
  ·cases ht
 | .fld _ :: _,.int _,_,_,_,_,_,h,_ | .fld _ :: _,.bool,_,_,_,_,_,h,_ | .fld _ :: _,.str,_,_,_,_,_,h,_ | .fld _ :: _,.arr _ _,_,_,_,_,_,h,_ | .fld _ :: _,.slice _ _,_,_,_,_,_,h,_=>by simp [setQ] at h
 | .idx _ :: _,.int _,_,_,_,_,_,h,_ | .idx _ :: _,.bool,_,_,_,_,_,h,_ | .idx _ :: _,.str,_,_,_,_,_,h,_ | .idx _ :: _,.named _,_,_,_,_,_,h,_ | .idx _ :: _,.slice _ _,_,_,_,_,_,h,_=>by simp [setQ] at h
theorem putL_self:∀ {l:List Own} {j:Nat} {g:Nat},l.getD j .no=.yes g∨(∃ m,l.getD j .no=.st m)→putL l j (l.getD j .no)=l
 | [],j,g,h=>by simp at h
 | o :: l,0,g,h=>rfl
 | o :: l,j+1,g,h=>by
  simp only [putL,List.getD_cons_succ] at h ⊢
  rw [putL_self (g:=g) h]
theorem setO_self:∀ {q:List PS} {o:Own} {g:Nat},onlyFld q=true→ownAt o q=.yes g→setO o q (.yes g)=some o
 | [],o,g,_,h=>by simp only [ownAt] at h;subst h;rfl
 | .idx _ :: _,_,_,h,_=>by simp [onlyFld] at h
 | .fld j :: q,o,g,hf,h=>by
  simp only [ownAt] at h
  have hf:onlyFld q=true:=by simpa [onlyFld] using hf
  have ih:=setO_self hf h
  cases o with
  | st l=>
   simp only [setO,Own.fldD] at ih ⊢
   rw [ih]
   have hcase:l.getD j .no=.yes g∨∃ m,l.getD j .no=.st m:=by
    simp only [Own.fldD] at h
    generalize l.getD j .no=x at h
    cases x with
    | st m=>exact .inr ⟨m,rfl⟩
    | yes g'=>
     cases q with
     | nil=>simp only [ownAt] at h;exact .inl h
     | cons p q=>cases p with
      | fld k=>exact (ownAt_gen (P:=fun _=>False) (o:=.no) trivial h).elim
      | idx k=>simp [onlyFld] at hf
    | full=>
     cases q with
     | nil=>cases h
     | cons p q=>cases p with
      | fld k=>exact (ownAt_gen (P:=fun _=>False) (o:=.no) trivial h).elim
      | idx k=>simp [onlyFld] at hf
    | no=>exact (ownAt_gen (P:=fun _=>False) (o:=.no) trivial h).elim
    | dead=>exact (ownAt_gen (P:=fun _=>False) (o:=.dead) trivial h).elim
   have hn:(l.getD j .no).isNo=false:=by rcases hcase with h | ⟨m,h⟩<;>rw [h]<;>rfl
   simp only [hn,Bool.false_and,Bool.false_eq_true,if_false,Own.list,putL_self hcase]
   split
   ·rename_i hall
    have:=all_isNo hall j
    rw [this] at hn;cases hn
   ·rfl
  | dead=>exact (ownAt_gen (P:=fun _=>False) (o:=.dead) trivial h).elim
  | _=>exact (ownAt_gen (P:=fun _=>False) (o:=.no) trivial h).elim
theorem setO_no:∀ {q:List PS},setO .no q .no=some .no
 | []=>rfl
 | .fld j :: q=>by simp only [setO,Own.fldD];rw [setO_no (q:=q)];rfl
 | .idx j :: q=>rfl
section
variable {K:List Nat} {N:Slots} {F0 B U:Nat→Prop} {w0:World} {F:Nat→Prop} {S:Nat→List Nat} {e:Env Γ.X} {a:Act} {w:World}
theorem run_storeVar2 {t:TypeId} {T:Γ.X.Ty} {b o:Nat} {v:Value} {cs:List Value} {cells:Array Value} {ty:TypeId} (ht:tyC P Γ t=some T) (hv:valOk T cs v) (hlen:cs.length=Γ.X.sz T) (h1:∀ u∈cs,u.oneCell'=true) (hg:w.heap[b]?=some (.cells cells ty (0,0)))
  (hfit:o+cs.length≤cells.size):
  (storeVar t ⟨b,o,none⟩ v).run P w=.ok () (w.setRow b (cells.toList.take o++cs++cells.toList.drop (o+cs.length)).toArray):=by
 have hc:v.cells=cs.toArray:=valOk_cells' hv h1
 have hm:v.cells.size=Γ.X.sz T:=by rw [hc];simpa using hlen
 unfold storeVar
 simp only [Sem.run_bind,run_sizeO (tyC_some ht).2.1,Result.andThen_ok,hm,ne_eq,not_true_eq_false,if_false]
 have:=run_storeCells_at (P:=P) b o ty v.cells.toList 0 cells w hg (by rw [hc];simpa using hfit) (by rw [hc];simpa using h1)
 rw [hc] at this ⊢
 simpa using this
theorem row_other {w:World} {b:Nat} {cs:Array Value} {k:Nat} (h:k ≠ b):(w.setRow b cs).heap[k]?=w.heap[k]?:=setRow_other w b k cs h
theorem belowP_setRow {B:Nat→Prop} {b:Nat} (h:B b) (w:World) (cs:Array Value):BelowP B w (w.setRow b cs):=
 ⟨rfl,rfl,rfl,by simp,fun k _ hk=>setRow_other w b k cs fun hkb=>hk (hkb ▸ h)⟩
theorem EnvRel.writeBox (hX:TabOk Γ.X) (h:EnvRel N F0 B U w0 F S e a w) {s g g0:Nat} (hg0:¬ U g0) {T0 T:Γ.X.Ty} {v0 v1:Γ.X.den T0} {o0 o1:Own} {q:List PS} {v:Γ.X.den T} {o':Own} {cs:List Value} {R:List Nat}
  (hes:e s=.box g T0 v0 o0) (ht:tyQ q T0=some T) (hset:setQ q T0 v0 T v=some v1) (hO:setO o0 q o'=some o1) (hgen:OGen (·=g0) o') (hv:VRep w F T v o' cs R) (hnd:R.Nodup)
  (hR:∀ b∈R,B b∧b < w.heap.size∧¬ F b) (hap:∀ b∈R,∀ s,b ∉ S s):
  ∃ b cells ty S',a.tmps.getD s Go.undef=.pointer (some ⟨b,0,none⟩)∧w.heap[b]?=some (.cells cells ty (0,0))∧offQ q T0+cs.length≤cells.size ∧
   EnvRel N F0 B (withG U g0) w0 F S' (upd e s (.box g T0 v1 o1)) a (w.setRow b (cells.toList.take (offQ q T0)++cs++cells.toList.drop (offQ q T0+cs.length)).toArray):=by
 obtain ⟨b,cells,ty,S',k1,k2,k3,k4⟩:=h.boxAt hes
 obtain ⟨x,hx⟩:=getQ_of_tyQ v0 ht
 obtain ⟨c1,cx,c2,S1,Sx,S2,e1,e2,e3,e4,e5⟩:=k3.lens hX ht hx
 have hlx:=e4.length hX
 have hlv:=hv.length hX
 have hall:=k3.length hX
 have hfit:offQ q T0+cs.length≤cells.size:=by
  rw [←Array.length_toList,e1,←e2,hlv,←hlx]
  simp
 refine ⟨b,cells,ty,updS S s (b :: (S1++R++S2)),k1,k2,hfit,?_⟩
 have hcs:cells.toList.take (offQ q T0)++cs++cells.toList.drop (offQ q T0+cs.length)=c1++cs++c2:=by
  rw [e1,←e2,hlv,←hlx]
  simp
 rw [hcs]
 have hbS:b∈S s:=by rw [k4];simp
 obtain ⟨hBb,hbw,hbF⟩:=h.own s b hbS
 have hnS:=h.nodup s
 rw [k4] at hnS
 obtain ⟨hbS',hnS'⟩:=List.nodup_cons.1 hnS
 have hbR:b ∉ R:=fun hb=>hap b hb s hbS
 have hF':∀ b',F b'→(w.setRow b (c1++cs++c2).toArray).heap[b']?=w.heap[b']?:=fun b' hb'=>row_other fun he=>hbF (he ▸ hb')
 have hoth:∀ t,t ≠ s→∀ b'∈S t,(w.setRow b (c1++cs++c2).toArray).heap[b']?=w.heap[b']?:=fun t hts b' hb'=>row_other fun he=>h.apart t s b' hts hb' (he ▸ hbS)
 have hnew:(w.setRow b (c1++cs++c2).toArray).heap[b]?=some (.cells (c1++cs++c2).toArray ty (0,0)):=setRow_heap w b cells _ ty (0,0) k2
 have hne:∀ g',U g'→OGen (· ≠ g') o':=fun g' hg=>hgen.imp (Q:=fun x=>x ≠ g') fun x (hx:x=g0) (hxg:x=g')=>hg0 (by rw [show g0=g' from hx.symm.trans hxg];exact hg)
 have hk:Kept U e a w (upd e s (.box g T0 v1 o1)) a (w.setRow b (c1++cs++c2).toArray):=by
  refine h.keptSlot (v':=v1) (o':=o1) (.inr ⟨g,hes,rfl⟩) hoth (fun q' g' bb t l' hf hg ho hgq=>?_) (fun q' g' hf hg ho hgq=>?_) (fun _ hn=>by rw [hes] at hn;cases hn)
  ·obtain ⟨_,h2,h3⟩:=turned hX ht hset hO hf hgq ho (hne g' hg)
   exact ⟨l',h2,h3,rfl⟩
  ·obtain ⟨bb,t,l,hy⟩:=hgq
   obtain ⟨hd,h2,h3⟩:=turned hX ht hset hO hf hy ho (hne g' hg)
   have hoff:=off_div hX hd ht (tyQ_of_getQ hf h3)
   simp only [Tab.sz] at hoff
   unfold hdr
   rw [upd_same,hes,k1]
   simp only []
   rw [cell_of hnew,cell_of k2]
   simp only [List.getElem?_toArray]
   rw [←Array.getElem?_toList,e1]
   rcases hoff with hoff | hoff
   ·rw [List.append_assoc,List.append_assoc,List.getElem?_append_left (by omega),List.getElem?_append_left (by omega)]
   ·rw [List.getElem?_append_right (by simp;omega),List.getElem?_append_right (by simp;omega)]
    simp [hlv,hlx]
 have hSp:∀ b',b'∈S1++R++S2→b'∈S'∨b'∈R:=fun b' hb'=>by
  rw [e3]
  simp only [List.mem_append] at hb' ⊢
  rcases hb' with (hb' | hb') | hb'
  ·exact .inl (.inl (.inl hb'))
  ·exact .inr hb'
  ·exact .inl (.inr hb')
 have hSs:∀ b',b'∈S'→b'∈S s:=fun b' hb'=>by rw [k4];simp [hb']
 refine h.turn (F':=F) rfl rfl (fun _ _=>rfl) (fun _ _=>rfl) hk (fun g hg=>.inl hg) (fun _ h=>h) hF' hoth (belowP_setRow hBb w _) (fun b' hb'=>.inl hb') ?_ ?_ trivial ?_ ?_ ?_
 ·rw [k1]
  refine .box g T0 v1 o1 b _ ty _ hnew ?_
  simp only
  refine e5 _ F v o' o1 cs R v1 (fun _ h=>h) hF' (fun b' hb' _=>row_other fun he=>hbS' (he ▸ hb')) hnS' (hv.mono (fun _ h=>h) hF' fun b' hb'=>row_other fun he=>hbR (he ▸ hb')) hset hO
 ·have:=h.owns s
  rw [hes] at this
  exact ⟨.inl this.1,OGen_setO hO (this.2.imp fun _ h=>.inl h) (hgen.imp fun _ h=>.inr h)⟩
 ·refine List.nodup_cons.2 ⟨fun hb=>?_,?_⟩
  ·rcases hSp b hb with hb | hb
   ·exact hbS' hb
   ·exact hbR hb
  ·rw [e3] at hnS'
   obtain ⟨n1,n2,n3⟩:=nodup_parts hnS'
   obtain ⟨m1,m2,m3⟩:=List.nodup_append.1 n1
   have hRS:∀ x∈R,x ∉ S':=fun x hx hxs=>hap x hx s (hSs x hxs)
   refine List.nodup_append.2 ⟨List.nodup_append.2 ⟨m1,hnd,fun x hx y hy hxy=>?_⟩,m2,fun x hx y hy hxy=>?_⟩
   ·subst hxy;exact hRS x hy (by rw [e3];simp [hx])
   ·subst hxy
    rcases List.mem_append.1 hx with hx | hx
    ·exact m3 x hx x hy rfl
    ·exact hRS x hx (by rw [e3];simp [hy])
 ·intro b' hb'
  rcases List.mem_cons.1 hb' with rfl | hb'
  ·exact ⟨hBb,by simpa using hbw,hbF⟩
  ·rcases hSp b' hb' with hb' | hb'
   ·obtain ⟨q1,q2,q3⟩:=h.own s b' (hSs b' hb');exact ⟨q1,by simpa using q2,q3⟩
   ·obtain ⟨q1,q2,q3⟩:=hR b' hb';exact ⟨q1,by simpa using q2,q3⟩
 ·intro b' hb' t hts
  rcases List.mem_cons.1 hb' with rfl | hb'
  ·exact h.apart s t _ (Ne.symm hts) hbS
  ·rcases hSp b' hb' with hb' | hb'
   ·exact h.apart s t b' (Ne.symm hts) (hSs b' hb')
   ·exact hap b' hb' t
theorem own_inv {w:World} {F:Nat→Prop} {b g:Nat} {t:Γ.X.Ty} {l:Sl b (Γ.X.den t)} {u:Value} {Sx:List Nat} (h:VRep w F (.slice b t) l (.yes g) [u] Sx) (hne:l.l ≠ []):
  ∃ (blk cap:Nat) (cells:Array Value) (ty:TypeId) (css:Nat→List Value),u=.slice (some ⟨blk,0,none⟩) l.l.length cap∧Sx=[blk]∧w.heap[blk]?=some (.cells cells ty (0,0))∧cells.size=cap*Γ.X.sz t∧l.l.length≤cap∧cap≤maxLen ∧
   (∀ (i j:Nat) u,i < l.l.length→(css i)[j]?=some u→cells[i*Γ.X.sz t+j]?=some u)∧∀ (i:Nat) x,l.l[i]?=some x→PRep w F t x (css i):=by
 have key:∀ {T:Γ.X.Ty} {v:Γ.X.den T} {o:Own} {cs:List Value} {S:List Nat},VRep w F T v o cs S→T=.slice b t→HEq v l→o=.yes g→cs=[u]→S=Sx→
   ∃ (blk cap:Nat) (cells:Array Value) (ty:TypeId) (css:Nat→List Value),u=.slice (some ⟨blk,0,none⟩) l.l.length cap∧Sx=[blk]∧w.heap[blk]?=some (.cells cells ty (0,0))∧cells.size=cap*Γ.X.sz t∧l.l.length≤cap∧cap≤maxLen ∧
    (∀ (i j:Nat) u,i < l.l.length→(css i)[j]?=some u→cells[i*Γ.X.sz t+j]?=some u)∧∀ (i:Nat) x,l.l[i]?=some x→PRep w F t x (css i):=fun hv hT hvl ho hcs hS=>by
  cases hv with
  | ownNil b' t' v g' ad hv=>
   cases hT;cases hvl
   exact absurd hv hne
  | own b' t' v g' blk cap cells ty css hg hsz hcap hmx hcc hp=>
   cases hT;cases hvl
   simp only [List.cons.injEq,and_true] at hcs
   exact ⟨blk,cap,cells,ty,css,hcs.symm,hS.symm,hg,hsz,hcap,hmx,hcc,hp⟩
  | pure=>cases ho
  | full=>cases ho
  | st=>cases ho
  | dead=>cases ho
  | ownM=>cases hT
 exact key h rfl HEq.rfl rfl rfl rfl
theorem EnvRel.writeSl (hX:TabOk Γ.X) (h:EnvRel N F0 B U w0 F S e a w) {s g:Nat} {p:List PS} {b:Nat} {t T0:Γ.X.Ty} {v0 v1:Γ.X.den T0} {o0:Own} {l l':Sl b (Γ.X.den t)} (hp:onlyFld p=true) (hes:slotC (e s)=some ⟨T0,v0,o0⟩)
  (h2:getQ p T0 v0=some ⟨.slice b t,l⟩) (h3:ownAt o0 p=.yes g) (hne:l.l ≠ []) (hll:l'.l.length=l.l.length) (hset':setQ p T0 v0 (.slice b t) l'=some v1) {blk cap:Nat} {cells nc:Array Value} {ty:TypeId} (k2:hdr e a w s p=some (.slice (some ⟨blk,0,none⟩) l.l.length cap))
  (e3:w.heap[blk]?=some (.cells cells ty (0,0))) (hblk:blk∈S s) (hsl:VRep (w.setRow blk nc) F (.slice b t) l' (.yes g) [.slice (some ⟨blk,0,none⟩) l.l.length cap] [blk]):
  EnvRel N F0 B U w0 F S (upd e s (withV (e s) T0 v1 o0)) a (w.setRow blk nc):=by
 have htp:=tyQ_of_getQ hp h2
 obtain ⟨hBb,hbw,hbF⟩:=h.own s blk hblk
 have hF':∀ b',F b'→(w.setRow blk nc).heap[b']?=w.heap[b']?:=fun b' hb'=>row_other fun he=>hbF (he ▸ hb')
 have hoth:∀ t,t ≠ s→∀ b'∈S t,(w.setRow blk nc).heap[b']?=w.heap[b']?:=fun t hts b' hb'=>row_other fun he=>h.apart t s b' hts hb' (he ▸ hblk)
 have hms:setO o0 p (.yes g)=some o0:=setO_self hp h3
 have hsl2:∀ q' g' b' t' l',onlyFld q'=true→ownAt o0 q'=.yes g'→getQ q' T0 v1=some ⟨.slice b' t',l'⟩→∃ l0:Sl b' (Γ.X.den t'),getQ q' T0 v0=some ⟨.slice b' t',l0⟩∧l0.l.length=l'.l.length:=fun q' g' b' t' l' hf ho hgq=>by
  rcases path_cases htp hf (tyQ_of_getQ hf hgq) with ⟨r,rfl,hr⟩ | hd
  ·have hap:∀ {p:List PS} {T0 T1:Γ.X.Ty} {v0 v1:Γ.X.den T0} {x:Γ.X.den T1},onlyFld p=true→setQ p T0 v0 T1 x=some v1→getQ p T0 v1=some ⟨T1,x⟩:=fun {p}=>by
    induction p with
    | nil=>intro T0 T1 v0 v1 x _ h;simp only [setQ] at h;obtain ⟨rfl,h⟩:=castT_some h;simp only at h;subst h;rfl
    | cons c p ih=>
     intro T0 T1 v0 v1 x hf h
     cases c with
     | idx=>simp [onlyFld] at hf
     | fld j=>
      cases T0 with
      | named i=>
       obtain ⟨t,x',z,_,z2,z3,_⟩:=setQ_fld hX h
       simp only [getQ];rw [z3]
       exact ih (by simpa [onlyFld] using hf) z2
      | _=>simp [setQ] at h
   have hgp:=hap hp hset'
   have happ:∀ {p r:List PS} {T0 T1:Γ.X.Ty} {v0:Γ.X.den T0} {x:Γ.X.den T1},getQ p T0 v0=some ⟨T1,x⟩→getQ (p++r) T0 v0=getQ r T1 x:=fun {p r}=>by
    induction p with
    | nil=>intro T0 T1 v0 x h;simp only [getQ,Option.some.injEq,Sigma.mk.injEq] at h;obtain ⟨rfl,h⟩:=h;cases h;rfl
    | cons c p ih=>
     intro T0 T1 v0 x h
     cases c with
     | fld j=>cases T0 with
      | named i=>
       simp only [List.cons_append,getQ] at h ⊢
       split at h
       ·rename_i t z hz
        exact ih h
       ·cases h
      | _=>simp [getQ] at h
     | idx k=>cases T0 with
      | arr n t'=>simp only [List.cons_append,getQ] at h ⊢;exact ih h
      | _=>simp [getQ] at h
   rw [happ hgp] at hgq
   cases r with
   | nil=>
    simp only [getQ] at hgq
    cases hgq
    exact ⟨l,by rw [List.append_nil];exact h2,hll.symm⟩
   | cons c r=>cases c<;>simp [getQ] at hgq
  ·exact ⟨l',(getQ_div hX hd hset').symm.trans hgq,rfl⟩
 have hSsub:∀ b',b'∈S s→b' ≠ blk→(w.setRow blk nc).heap[b']?=w.heap[b']?:=fun b' _ hne=>row_other hne
 have own':∀ b'∈S s,B b'∧b' < (w.setRow blk nc).heap.size∧¬ F b':=fun b' hb'=>by
  obtain ⟨z1,z2,z3⟩:=h.own s b' hb';exact ⟨z1,by simpa using z2,z3⟩
 have hS':updS S s (S s)=S:=by funext z;unfold updS;split<;>simp_all
 rw [←hS']
 rcases slotC_some hes with hv0 | ⟨gb,hv0⟩
 ·
  have hwv:withV (e s) T0 v1 o0=.val T0 v1 o0:=by rw [hv0];rfl
  rw [hwv]
  have hk:Kept U e a w (upd e s (.val T0 v1 o0)) a (w.setRow blk nc):=by
   refine h.keptSlot (v':=v1) (o':=o0) (.inl ⟨hv0,rfl⟩) hoth (fun q' g' bb t' l' hf hg ho hgq=>?_) (fun q' g' hf hg ho hgq=>?_) (fun _ _ _ h _=>h)
   ·obtain ⟨l0,z1,z2⟩:=hsl2 q' g' bb t' l' hf ho hgq
    exact ⟨l0,ho,z1,z2⟩
   ·unfold hdr;rw [upd_same,hv0]
  obtain ⟨cs0,z1,z2⟩:=h.valAt hv0
  obtain ⟨d1,dx,d2,D1,Dx,D2,y1,y2,y3,y4,y5⟩:=z1.lens hX htp h2
  have hdx:dx=[.slice (some ⟨blk,0,none⟩) l.l.length cap]:=by
   have hl:=y4.length hX
   simp only [Tab.sz] at hl
   cases dx with
   | nil=>simp at hl
   | cons c dx=>cases dx with
    | cons=>simp at hl
    | nil=>
     have hcs:(a.tmps.getD s Go.undef).cells.toList=cs0:=valOk_cells z2 z1.one
     unfold hdr at k2
     rw [hv0] at k2
     simp only [] at k2
     rw [←Array.getElem?_toList,hcs,y1,←y2] at k2
     simp at k2
     rw [k2]
  have hDx:Dx=[blk]:=by
   rw [h3,hdx] at y4
   obtain ⟨blk',_,_,_,_,w1,w2,_⟩:=own_inv y4 hne
   cases w1;exact w2
  have hnd:=h.nodup s
  refine h.turn (F':=F) rfl rfl (fun _ _=>rfl) (fun _ _=>rfl) hk (fun g hg=>hg) (fun _ h=>h) hF' hoth (belowP_setRow hBb w _) (fun b' hb'=>.inl hb') ?_ ?_ trivial hnd own' (fun b' hb' t hts=>h.apart s t b' (Ne.symm hts) hb')
  ·have:=y5 (w.setRow blk nc) F l' (.yes g) o0 [.slice (some ⟨blk,0,none⟩) l.l.length cap] [blk] v1 (fun _ h=>h) hF' (fun b' hb' hn=>row_other fun he=>hn (by rw [hDx,he];simp)) hnd hsl hset' hms
   rw [←hdx,←y1] at this
   rw [←hDx,←y3] at this
   exact .u (.val T0 v1 o0 _ cs0 _ this z2)
  ·have:=h.owns s
   rw [hv0] at this
   exact this
 ·
  have hwv:withV (e s) T0 v1 o0=.box gb T0 v1 o0:=by rw [hv0];rfl
  rw [hwv]
  obtain ⟨bb,bc,bty,S',z1,z2,z3,z4⟩:=h.boxAt hv0
  have hnd:=h.nodup s
  have hnd0:=hnd
  rw [z4] at hnd0
  obtain ⟨hbn,hnd1⟩:=List.nodup_cons.1 hnd0
  obtain ⟨d1,dx,d2,D1,Dx,D2,y1,y2,y3,y4,y5⟩:=z3.lens hX htp h2
  have hdx:dx=[.slice (some ⟨blk,0,none⟩) l.l.length cap]:=by
   have hl:=y4.length hX
   simp only [Tab.sz] at hl
   cases dx with
   | nil=>simp at hl
   | cons c dx=>cases dx with
    | cons=>simp at hl
    | nil=>
     unfold hdr at k2
     rw [hv0] at k2
     simp only [z1] at k2
     rw [cell_of z2,←Array.getElem?_toList,y1,←y2] at k2
     simp at k2
     rw [k2]
  have hDx:Dx=[blk]:=by
   rw [h3,hdx] at y4
   obtain ⟨blk',_,_,_,_,w1,w2,_⟩:=own_inv y4 hne
   cases w1;exact w2
  have hbb:bb ≠ blk:=fun he=>hbn (by rw [he,y3,hDx];simp)
  have hkeep:(w.setRow blk nc).heap[bb]?=w.heap[bb]?:=row_other hbb
  have hk:Kept U e a w (upd e s (.box gb T0 v1 o0)) a (w.setRow blk nc):=by
   refine h.keptSlot (v':=v1) (o':=o0) (.inr ⟨gb,hv0,rfl⟩) hoth (fun q' g' bb t' l' hf hg ho hgq=>?_) (fun q' g' hf hg ho hgq=>?_) (fun _ _ _ h _=>h)
   ·obtain ⟨l0,z1,z2⟩:=hsl2 q' g' bb t' l' hf ho hgq
    exact ⟨l0,ho,z1,z2⟩
   ·unfold hdr;rw [upd_same,hv0]
    simp only [z1]
    exact World.cell?_of_block (w:=w) hkeep
  refine h.turn (F':=F) rfl rfl (fun _ _=>rfl) (fun _ _=>rfl) hk (fun g hg=>hg) (fun _ h=>h) hF' hoth (belowP_setRow hBb w _) (fun b' hb'=>.inl hb') ?_ ?_ trivial hnd own' (fun b' hb' t hts=>h.apart s t b' (Ne.symm hts) hb')
  ·have:=y5 (w.setRow blk nc) F l' (.yes g) o0 [.slice (some ⟨blk,0,none⟩) l.l.length cap] [blk] v1 (fun _ h=>h) hF' (fun b' hb' hn=>row_other fun he=>hn (by rw [hDx,he];simp)) hnd1 hsl hset' hms
   rw [←hdx,←y1] at this
   rw [←hDx,←y3] at this
   rw [z1,z4]
   exact .box gb T0 v1 o0 bb bc bty S' (hkeep.trans z2) this
  ·have:=h.owns s
   rw [hv0] at this
   exact this
theorem EnvRel.writeElem (hX:TabOk Γ.X) (h:EnvRel N F0 B U w0 F S e a w) {s g g0:Nat} {p q:List PS} {b i:Nat} {t T0 T:Γ.X.Ty} {v0 v1:Γ.X.den T0} {o0:Own} {l:Sl b (Γ.X.den t)} {v:Γ.X.den T} {y:Γ.X.den t} {cs:List Value}
  (hp:onlyFld p=true) (hc:cont e s p g=some ⟨b,t,l⟩) (hes:slotC (e s)=some ⟨T0,v0,o0⟩) (hi:i < l.l.length) (ht:tyQ q t=some T) (hset:setQ q t (l.l.getD i (Γ.X.zero t)) T v=some y)
  (hset':setQ p T0 v0 (.slice b t) (l.set i y)=some v1) (hv:PRep w F T v cs):
  ∃ blk n c cells ty S',hdr e a w s p=some (.slice (some ⟨blk,0,none⟩) n c)∧w.heap[blk]?=some (.cells cells ty (0,0))∧(i*Γ.X.sz t+offQ q t)+cs.length≤cells.size ∧
   EnvRel N F0 B (withG U g0) w0 F S' (upd e s (withV (e s) T0 v1 o0)) a (w.setRow blk (cells.toList.take (i*Γ.X.sz t+offQ q t)++cs++cells.toList.drop (i*Γ.X.sz t+offQ q t+cs.length)).toArray):=by
 obtain ⟨T',v',o',h1,h2,h3⟩:=cont_some hc
 rw [hes] at h1;cases h1
 have htp:=tyQ_of_getQ hp h2
 obtain ⟨u,Sx,k1,k2,k3⟩:=h.ownSl hX hc hp
 obtain ⟨blk,cap,cells,ty,css,e1,e2,e3,e4,e5,e6,e7,e8⟩:=own_inv k1 (by intro hn;rw [hn] at hi;simp at hi)
 subst e1 e2
 have hblk:blk∈S s:=k3 blk (by simp)
 obtain ⟨hBb,hbw,hbF⟩:=h.own s blk hblk
 obtain ⟨x,hx⟩:=getQ_of_tyQ (l.l.getD i (Γ.X.zero t)) ht
 obtain ⟨c1,cx,c2,S1,Sx,S2,q1,q2,q3,q4,q5⟩:=(VRep.pure (e8 i _ (getD_dflt _ hi))).lens hX ht hx
 have hlx:=q4.length hX
 have hlv:=hv.length hX
 have hli:=(e8 i _ (getD_dflt (Γ.X.zero t) hi)).length hX
 rw [q1] at hli
 simp only [List.length_append,q2,hlx] at hli
 have hrow:(i+1)*Γ.X.sz t≤cap*Γ.X.sz t:=Nat.mul_le_mul_right _ (by omega)
 rw [Nat.succ_mul] at hrow
 have hfit:(i*Γ.X.sz t+offQ q t)+cs.length≤cells.size:=by rw [e4,hlv];omega
 generalize hnc:cells.toList.take (i*Γ.X.sz t+offQ q t)++cs++cells.toList.drop (i*Γ.X.sz t+offQ q t+cs.length)=nc
 have hncl:nc.length=cells.size:=by rw [←hnc];simp;omega
 have hnin:∀ (j:Nat) u,cs[j]?=some u→nc[i*Γ.X.sz t+offQ q t+j]?=some u:=fun j u hj=>by
  have hjl:j < cs.length:=(List.getElem?_eq_some_iff.1 hj).1
  rw [←hnc,List.append_assoc,List.getElem?_append_right (by simp;omega),List.getElem?_append_left (by simp;omega)]
  rw [←hj];congr 1;simp;omega
 have hnout:∀ m,m < i*Γ.X.sz t+offQ q t∨i*Γ.X.sz t+offQ q t+cs.length≤m→nc[m]?=cells[m]?:=fun m hm=>by
  rw [←hnc]
  rcases hm with hm | hm
  ·rw [List.append_assoc,List.getElem?_append_left (by simp;omega),List.getElem?_take_of_lt hm,Array.getElem?_toList]
  ·rw [List.getElem?_append_right (by simp;omega),List.getElem?_drop,←Array.getElem?_toList]
   congr 1;simp;omega
 have hnew:(w.setRow blk nc.toArray).heap[blk]?=some (.cells nc.toArray ty (0,0)):=setRow_heap w blk cells _ ty (0,0) e3
 have hF':∀ b',F b'→(w.setRow blk nc.toArray).heap[b']?=w.heap[b']?:=fun b' hb'=>row_other fun he=>hbF (he ▸ hb')
 have hoth:∀ t,t ≠ s→∀ b'∈S t,(w.setRow blk nc.toArray).heap[b']?=w.heap[b']?:=fun t hts b' hb'=>row_other fun he=>h.apart t s b' hts hb' (he ▸ hblk)
 have hy:PRep (w.setRow blk nc.toArray) F t y (c1++cs++c2):=by
  have:=q5 (w.setRow blk nc.toArray) F v .no .no cs [] y (fun _ h=>h) hF' (by simp) List.nodup_nil (.pure (hv.mono (fun _ h=>h) hF')) hset setO_no
  exact (this.toPure rfl).1
 have hsl:VRep (w.setRow blk nc.toArray) F (.slice b t) (l.set i y) (.yes g) [.slice (some ⟨blk,0,none⟩) l.l.length cap] [blk]:=by
  have hll:(l.set i y).l.length=l.l.length:=List.length_set
  have:=VRep.own (w:=w.setRow blk nc.toArray) (F:=F) b t (l.set i y) g blk cap nc.toArray ty (fun k=>if k=i then c1++cs++c2 else css k) hnew (by simpa [hncl] using e4) (by rw [hll];exact e5) e6
   (fun k j u hk hj=>by
    rw [hll] at hk
    simp only [List.getElem?_toArray]
    by_cases hki:k=i
    ·subst hki
     simp only [if_true] at hj
     have old:∀ u',(c1++cx++c2)[j]?=some u'→cells[k*Γ.X.sz t+j]?=some u':=fun u' hu'=>e7 k j u' hk (by rw [q1];exact hu')
     by_cases hj1:j < c1.length
     ·rw [List.append_assoc,List.getElem?_append_left hj1] at hj
      rw [hnout _ (.inl (by omega))]
      exact old u (by rw [List.append_assoc,List.getElem?_append_left hj1];exact hj)
     ·by_cases hj2:j < c1.length+cs.length
      ·rw [List.append_assoc,List.getElem?_append_right (by omega),List.getElem?_append_left (by omega)] at hj
       have:=hnin _ _ hj
       rw [←this];congr 1;omega
      ·rw [List.getElem?_append_right (by simp;omega)] at hj
       rw [hnout _ (.inr (by omega))]
       refine old u ?_
       rw [List.getElem?_append_right (by simp;omega),←hj]
       congr 1;simp;omega
    ·simp only [hki,if_false] at hj
     have hkl:(css k).length=Γ.X.sz t:=(e8 k _ (getD_dflt (Γ.X.zero t) hk)).length hX
     have hjl:j < (css k).length:=(List.getElem?_eq_some_iff.1 hj).1
     rw [hnout _ ?_]
     ·exact e7 k j u hk hj
     ·rcases Nat.lt_or_gt_of_ne hki with hlt | hgt
      ·have:(k+1)*Γ.X.sz t≤i*Γ.X.sz t:=Nat.mul_le_mul_right _ hlt
       rw [Nat.succ_mul] at this
       exact .inl (by omega)
      ·have:(i+1)*Γ.X.sz t≤k*Γ.X.sz t:=Nat.mul_le_mul_right _ hgt
       rw [Nat.succ_mul] at this
       exact .inr (by omega))
   (fun k x hk=>by
    by_cases hki:k=i
    ·subst hki
     rw [show (l.set k y).l=l.l.set k y from rfl,List.getElem?_set_self hi] at hk
     cases hk
     simp only [if_true]
     exact hy
    ·rw [show (l.set i y).l=l.l.set i y from rfl,List.getElem?_set_ne (Ne.symm hki)] at hk
     simp only [hki,if_false]
     exact (e8 k x hk).mono (fun _ h=>h) hF')
  rw [hll] at this
  exact this
 refine ⟨blk,l.l.length,cap,cells,ty,S,k2,e3,hfit,?_⟩
 rw [hnc]
 exact (h.writeSl hX hp hes h2 h3 (by intro hn;rw [hn] at hi;simp at hi) (by simp [Sl.set]) hset' k2 e3 hblk hsl).weakU fun _ h=>.inl h
end
end
end Go.A2
namespace Go.A2
section
variable {P:Program} {Γ:Cx}
section
variable {K:List Nat} {N:Slots} {F0 B U:Nat→Prop} {w0:World} {F:Nat→Prop} {S:Nat→List Nat} {e:Env Γ.X} {a:Act} {w:World}
theorem EnvRel.storeV (hX:TabOk Γ.X) (h:EnvRel N F0 B U w0 F S e a w) {g:Nat} (hg:¬ U g) {T':Γ.X.Ty} {x:AV Γ.X} {v':Γ.X.den T'} {m:Own} {us:Ups Γ.X} {u:Value} {Rp R:List Nat} {cs:List Value} (hst:Go.A2.storeV e g T' x v' m=some us) (p1:SRep e a w F x u Rp)
  (k3:VRep w F T' v' m cs R) (k5:R.Nodup) (k6:∀ b∈R,B b∧b < w.heap.size∧¬ F b) (k7:∀ b∈R,∀ s,b ∉ S s):
  ∃ b off cells ty S2,u=.pointer (some ⟨b,off,none⟩)∧w.heap[b]?=some (.cells cells ty (0,0))∧off+cs.length≤cells.size∧EnvRel N F0 B (withG U g) w0 F S2 (applyU e us) a (w.setRow b (cells.toList.take off++cs++cells.toList.drop (off+cs.length)).toArray):=by
 unfold Go.A2.storeV at hst
 split at hst
 ·rename_i s g' q
  split at hst
  ·rename_i g2 T0 v0 o0 hes
   split at hst
   ·rename_i hgg
    subst hgg
    split at hst
    ·rename_i v1 o1 hset hO
     cases hst
     cases p1 with
     | u h=>cases h
     | ptrB _ _ _ _ hh=>
      obtain ⟨b,q1,q2,q3⟩:=hh _ _ _ hes
      obtain ⟨Tq,hTq⟩:=Option.isSome_iff_exists.1 q3
      have:=tyQ_of_setQ hset hTq
      subst this
      obtain ⟨b',cells,ty,S2,r1,r2,r3,r4⟩:=h.writeBox hX hg hes hTq hset hO (OGen_gen g m) (k3.gen g) k5 k6 k7
      rw [q1] at r1;cases r1
      exact ⟨_,_,cells,ty,S2,q2,r2,r3,r4⟩
    ·cases hst
   ·cases hst
  ·cases hst
 ·rename_i s p g' i q
  split at hst
  ·rename_i hpo
   obtain ⟨hvp,rfl⟩:=k3.toPure hpo
   split at hst
   ·rename_i b t' l hc
    cases p1 with
    | u h=>cases h
    | ptrE _ _ _ _ _ _ hpf hh=>
     obtain ⟨q1,q2,blk,n,c,q3,q4⟩:=hh _ _ _ hc
     obtain ⟨Tq,hTq⟩:=Option.isSome_iff_exists.1 q2
     have key:∀ {T0:Γ.X.Ty} {v0 v1:Γ.X.den T0} {o0:Own} {y:Γ.X.den t'},slotC (e s)=some ⟨T0,v0,o0⟩→setQ q t' (l.l.getD i (Γ.X.zero t')) T' v'=some y→setQ p T0 v0 (.slice b t') (l.set i y)=some v1→
       applyU e us=upd e s (withV (e s) T0 v1 o0)→∃ b off cells ty S2,u=.pointer (some ⟨b,off,none⟩)∧w.heap[b]?=some (.cells cells ty (0,0))∧off+cs.length≤cells.size∧EnvRel N F0 B (withG U g) w0 F S2 (applyU e us) a (w.setRow b (cells.toList.take off++cs++cells.toList.drop (off+cs.length)).toArray):=fun {T0 v0 v1 o0 y} hes hset hset' hus=>by
      obtain rfl:=tyQ_of_setQ hset hTq
      obtain ⟨blk',n',c',cells,ty,S2,r1,r2,r3,r4⟩:=h.writeElem hX (g0:=g) hpf hc hes q1 hTq hset hset' hvp
      rw [q3] at r1;cases r1
      exact ⟨_,_,cells,ty,S2,q4,r2,r3,by rw [hus];exact r4⟩
     split at hst
     ·rename_i y T0 v0 o0 hset hes
      cases hset':setQ p T0 v0 (.slice b t') (l.set i y) with
      | none=>rw [hset'] at hst;simp at hst
      | some v1=>
       rw [hset'] at hst;cases hst
       exact key (by rw [hes];rfl) hset hset' (by rw [hes,applyU_one];rfl)
     ·rename_i y g3 T0 v0 o0 hset hes
      cases hset':setQ p T0 v0 (.slice b t') (l.set i y) with
      | none=>rw [hset'] at hst;simp at hst
      | some v1=>
       rw [hset'] at hst;cases hst
       exact key (by rw [hes];rfl) hset hset' (by rw [hes,applyU_one];rfl)
     ·cases hst
   ·cases hst
  ·cases hst
 ·cases hst
section steps
variable {T0 T1 T2:Option Γ.X.Ty} {g:Nat} {o:Oper} {us:Ups Γ.X} {ans:Ret Γ.X} (hX:TabOk Γ.X) (h:EnvRel N F0 B U w0 F S e a w) (hg:¬ U g) (hd:∀ k,o.dst=some k→N.ok k)
variable {next:Act→World→Prop} {Q:Exit→Act→World→Prop} (hnext:∀ a' w',Sim N F0 B (withG U g) w0 (applyU e us) a' w'→next a' w')
include hX h hg hd hnext
omit hd in
theorem step_store {t:TypeId} {T:Γ.X.Ty} {Y V:Operand} {x v:AX Γ.X} (ho:o.op=.store t Y V) (ht:tyC P Γ t=some T) (hx:compX Γ K T0 Y=some x) (hv:compX Γ K T1 V=some v) (hdn:o.dst=none)
  (hs:eff ans g e o.dst (.store T x v)=some us):o.wp P a w next Q:=by
 simp only [eff] at hs
 split at hs
 ·rename_i T' v' m u hta
  split at hs
  ·rename_i v1 hv1
   obtain ⟨rfl,hv1⟩:=castT_some hv1
   simp only at hv1;subst hv1
   cases hst:storeV (applyU e u) g T' (Go.A2.rd (applyU e u) x) v' m with
   | none=>simp [hst] at hs
   | some us'=>
    simp only [hst,Option.map_some,Option.some.injEq] at hs
    obtain ⟨F1,S1,cs,R,k1,k2,k3,k4,k5,k6,k7,_⟩:=h.take hX hv hta
    generalize he1:applyU e u=e1 at hst k1
    have hlen:=k3.length hX
    have hone:=k3.one
    obtain ⟨Rp,p1,p2,_⟩:=k1.rd hX hx
    obtain ⟨b,off',cells,ty,S2,h2,h4,h5,h6⟩:=k1.storeV hX hg hst p1 k3 k5 k6 k7
    have hrun:(execOp a.eval o).run P w=.ok .skip (w.setRow b (cells.toList.take off'++cs++cells.toList.drop (off'+cs.length)).toArray):=by
     have:=run_storeVar2 (P:=P) (o:=off') ht k4 hlen hone h4 h5
     simp only [execOp,ho,Instr.storeAt,Instr.sureAddr,h2]
     simp [this]
    unfold Oper.wp
    rw [hrun]
    show next (a.put o.dst Go.undef) _
    rw [hdn]
    refine hnext a _ (show Sim N F0 B (withG U g) w0 (applyU e us) a _ from ⟨F1,S2,?_⟩)
    rw [←hs,applyU_append,he1]
    exact h6
  ·cases hs
 ·cases hs
end steps
end
end
end Go.A2
namespace Go.A2
section
variable {P:Program} {Γ:Cx}
theorem run_part' {w:World} {w':World} {F:Nat→Prop} (hX:TabOk Γ.X) {t:TypeId} {T:Γ.X.Ty} (ht:tyC P Γ t=some T) {x:Γ.X.den T} {c1 cx c2:List Value} {off:Nat} (h:PRep w' F T x cx) (ho:c1.length=off):
  ∃ u,(part t (c1++cx++c2).toArray off).run P w=.ok u w∧valOk T cx u:=by
 obtain ⟨_,k6,k7⟩:=tyC_some ht
 have hl:=h.length hX
 unfold part
 cases hb:aggB T with
 | true=>
  rw [hb] at k7
  refine ⟨.agg cx.toArray,?_,by unfold valOk;rw [if_pos hb]⟩
  simp only [Sem.run_bind,Sem.run_pure,run_isAggT k7,run_sizeO k6,Result.andThen_ok,if_true]
  have:(c1++cx++c2).toArray.extract off (off+Γ.X.sz T)=cx.toArray:=by rw [←ho,←hl];simp
  rw [this]
 | false=>
  have hs1:Γ.X.sz T=1:=by cases T<;>first | rfl | simp [aggB] at hb
  rw [hs1] at hl
  cases cx with
  | nil=>cases hl
  | cons c cx=>
   cases cx with
   | cons=>simp at hl
   | nil=>
    refine ⟨c,?_,by unfold valOk;rw [if_neg (by simp [hb])]⟩
    rw [hb] at k7
    have hat:(c1++[c]++c2).toArray[off]?=some c:=by rw [←ho];simp
    simp only [Sem.run_bind,run_isAggT k7,Result.andThen_ok,Bool.false_eq_true,if_false,hat,Sem.run_pure]
theorem getT_ext {X:Tab}:∀ {ts:List X.Ty} {x y:X.Tup ts},(∀ j t a b,getT ts x j=some ⟨t,a⟩→getT ts y j=some ⟨t,b⟩→a=b)→x=y
 | [],x,y,_=>rfl
 | t :: ts,x,y,h=>by
  have h1:x.1=y.1:=h 0 t x.1 y.1 rfl rfl
  have h2:x.2=y.2:=getT_ext fun j t a b h3 h4=>h (j+1) t a b h3 h4
  exact Prod.ext h1 h2
theorem listEq_iff {α:Type} {f:α→α→Bool}:∀ {l m:List α},(∀ a∈l,∀ b,f a b=true ↔ a=b)→l.length=m.length→(listEq f l m=true ↔ l=m)
 | [],[],_,_=>by simp [listEq]
 | [],_ :: _,_,h=>by cases h
 | _ :: _,[],_,h=>by cases h
 | x :: l,y :: m,hf,hl=>by
  simp only [listEq,Bool.and_eq_true,List.cons.injEq]
  rw [hf x (by simp) y,listEq_iff (fun a ha b=>hf a (by simp [ha]) b) (by simpa using hl)]
theorem eq_iff {X:Tab} (hX:TabOk X):∀ {T:X.Ty} {a b:X.den T},X.comparable T=true→(X.eq T a b=true ↔ a=b)
 | .int k,a,b,_=>by
  show W.eq a b=true ↔ a=b
  unfold W.eq
  constructor
  ·intro h;exact W.ext (by simpa using h)
  ·intro h;rw [h];simp
 | .bool,a,b,_=>by
  show beqB a b=true ↔ a=b
  exact beq_iff_eq (α:=Bool)
 | .str,a,b,_=>by
  show (Str.l a==Str.l b)=true ↔ a=b
  constructor
  ·intro h;exact Str.ext (by simpa using h)
  ·intro h;rw [h];simp
 | .named i,a,b,h=>hX.eq i h a b
 | .arr n t,a,b,h=>by
  show listEq (X.eq t) (Arr.l a) (Arr.l b)=true ↔ a=b
  rw [listEq_iff (fun x _ y=>eq_iff hX (T:=t) h) (by rw [Arr.h a,Arr.h b])]
  constructor
  ·exact fun h=>Arr.ext h
  ·intro h;rw [h]
 | .slice _ _,_,_,h=>by cases h
 | .map _ _,_,_,h=>by cases h
theorem eqIn_sound (hX:TabOk Γ.X) {w':World} {F:Nat→Prop}:∀ (d:Nat) (t:TypeId) (T:Γ.X.Ty) (a b:Γ.X.den T) (cs ds:List Value) (u v:Value) (D:Nat) (w:World),eqFit P Γ d t T=true→PRep w' F T a cs→PRep w' F T b ds→valOk T cs u→valOk T ds v→d≤D→
  ∃ r,(Op.equalIn D t u v).run P w=.ok r w∧(r=true ↔ a=b)
 | 0,_,_,_,_,_,_,_,_,_,_,h,_,_,_,_,_=>by simp [eqFit] at h
 | d+1,t,T,a,b,cs,ds,u,v,D,w,h,ha,hb,hu,hv,hD=>by
  obtain ⟨D,rfl⟩:∃ D',D=D'+1:=⟨D - 1,by omega⟩
  simp only [eqFit,Bool.and_eq_true] at h
  obtain ⟨hty,h⟩:=h
  have hty:tyC P Γ t=some T:=by
   cases hc:tyC P Γ t with
   | none=>simp [hc] at hty
   | some T'=>simp [hc] at hty;rw [hty]
  cases hud:P.underlying t with
  | none=>rw [hud] at h;simp at h
  | some dd=>
   rw [hud] at h
   cases T with
   | int k=>
    cases dd<;>simp at h
    have e1:=ha.intInv;have e2:=hb.intInv
    subst e1 e2
    unfold valOk at hu hv
    rw [if_neg (by simp [aggB])] at hu hv
    cases hu;cases hv
    refine ⟨_,run_equalIn_int w D t k _ _ _ hud,?_⟩
    constructor
    ·intro hh;exact W.ext (by simpa using hh)
    ·intro hh;rw [hh];simp
   | bool=>
    cases dd<;>simp at h
    have e1:=ha.boolInv;have e2:=hb.boolInv
    subst e1 e2
    unfold valOk at hu hv
    rw [if_neg (by simp [aggB])] at hu hv
    cases hu;cases hv
    exact ⟨_,run_equalIn_bool' w D t _ _ hud,beq_iff_eq (α:=Bool)⟩
   | str=>
    cases dd<;>simp at h
    have e1:=ha.strInv;have e2:=hb.strInv
    subst e1 e2
    unfold valOk at hu hv
    rw [if_neg (by simp [aggB])] at hu hv
    cases hu;cases hv
    refine ⟨_,run_equalIn_string w D t _ _ hud,?_⟩
    constructor
    ·intro hh
     have:(⟨(Str.l a).toArray⟩:ByteArray).toList=(⟨(Str.l b).toArray⟩:ByteArray).toList:=by simpa using hh
     rw [ByteArray.toList_eq,ByteArray.toList_eq] at this
     exact Str.ext (by simpa using this)
    ·intro hh;rw [hh];simp
   | named i=>
    cases dd with
    | struct fs=>
     simp only [Bool.and_eq_true,Bool.not_eq_true'] at h
     obtain ⟨⟨hst,hfl⟩,hf⟩:=h
     unfold valOk at hu hv
     rw [if_pos (by simp [aggB])] at hu hv
     subst hu hv
     have hfo:P.fieldsOf t=fs:=by unfold Program.fieldsOf;rw [hud]
     have hrun:∀ r,(Op.eqFields D cs.toArray ds.toArray fs.toList).run P w=.ok r w→(Op.equalIn (D+1) t (.agg cs.toArray) (.agg ds.toArray)).run P w=.ok r w:=fun r hr=>by
      rw [run_equalIn_struct w D t cs.toArray ds.toArray (by rw [hfo];exact hud) hst,hfo,hr]
     cases ha with
     | named _ _ css hca=>
      cases hb with
      | named _ _ dss hcb=>
       have key:∀ (l:List Γ.X.Ty) (j:Nat),(∀ k,l[k]?=(Γ.X.fields i)[j+k]?)→eqFlds P Γ fs i (eqFit P Γ d) l j=true→∃ r,(Op.eqFields D (cat css (Γ.X.fields i).length).toArray (cat dss (Γ.X.fields i).length).toArray (fs.toList.drop j)).run P w=.ok r w ∧
         (r=true ↔ ∀ k,j≤k→∀ t x y,getT (Γ.X.fields i) (Γ.X.to i a) k=some ⟨t,x⟩→getT (Γ.X.fields i) (Γ.X.to i b) k=some ⟨t,y⟩→x=y):=fun l=>by
        induction l with
        | nil=>
         intro j hl hq
         simp only [eqFlds,decide_eq_true_eq] at hq
         refine ⟨true,?_,?_⟩
         ·rw [List.drop_eq_nil_of_le (by simp [hq])];rfl
         ·refine ⟨fun _ k hk t x y hx _=>?_,fun _=>rfl⟩
          exfalso
          have h1:=getT_type hx
          have h2:=hl (k - j)
          rw [show j+(k - j)=k by omega,h1] at h2
          simp at h2
        | cons T l ih=>
         intro j hl hq
         simp only [eqFlds,Bool.and_eq_true] at hq
         obtain ⟨⟨hq1,hq2⟩,hq3⟩:=hq
         obtain ⟨f,T',f1,f2,f3,f4,f5⟩:=fldOk_some hq2
         have hT:=hl 0
         simp only [List.getElem?_cons_zero,Nat.add_zero] at hT
         rw [f2] at hT;cases hT
         rw [f1] at hq1
         simp only [Bool.and_eq_true] at hq1
         obtain ⟨hnm,hfit⟩:=hq1
         obtain ⟨xa,hxa⟩:=getT_some (Γ.X.to i a) f2
         obtain ⟨xb,hxb⟩:=getT_some (Γ.X.to i b) f2
         have hjl:j < (Γ.X.fields i).length:=(List.getElem?_eq_some_iff.1 f2).1
         obtain ⟨ra,hra,_⟩:=cat_split css hjl
         obtain ⟨rb,hrb,_⟩:=cat_split dss hjl
         have offa:(cat css j).length=f.offset:=by
          rw [f3]
          exact cat_szs (fun k t' hk=>by
           obtain ⟨y,hy⟩:=getT_some (Γ.X.to i a) hk
           exact (hca k t' y hy).length hX) (Nat.le_of_lt hjl)
         have offb:(cat dss j).length=f.offset:=by
          rw [f3]
          exact cat_szs (fun k t' hk=>by
           obtain ⟨y,hy⟩:=getT_some (Γ.X.to i b) hk
           exact (hcb k t' y hy).length hX) (Nat.le_of_lt hjl)
         obtain ⟨ua,ra1,ra2⟩:=run_part' (P:=P) (w:=w) (c2:=ra) hX f4 (hca j T xa hxa) offa
         obtain ⟨ub,rb1,rb2⟩:=run_part' (P:=P) (w:=w) (c2:=rb) hX f4 (hcb j T xb hxb) offb
         obtain ⟨r1,r2,r3⟩:=eqIn_sound hX d f.type T xa xb _ _ ua ub D w hfit (hca j T xa hxa) (hcb j T xb hxb) ra2 rb2 (by omega)
         obtain ⟨q1,q2,q3⟩:=ih (j+1) (fun k=>by have:=hl (k+1);rw [List.getElem?_cons_succ] at this;rw [this];congr 1;omega) hq3
         have hdrop:fs.toList.drop j=f :: fs.toList.drop (j+1):=by
          have hjs:j < fs.size:=(Array.getElem?_eq_some_iff.1 f1).1
          rw [List.drop_eq_getElem_cons (by simpa using hjs)]
          congr 1
          have:=(Array.getElem?_eq_some_iff.1 f1).2
          simpa using this
         rw [hdrop]
         refine ⟨r1&&q1,?_,?_⟩
         ·simp only [Op.eqFields]
          rw [if_pos (by simpa using hnm)]
          simp only [Sem.run_bind]
          rw [hra,hrb,ra1]
          simp only [Result.andThen_ok]
          rw [rb1]
          simp only [Result.andThen_ok]
          rw [r2]
          simp only [Result.andThen_ok]
          cases r1 with
          | true=>
           simp only [Bool.not_true,Bool.false_eq_true,if_false,Bool.true_and]
           rw [←hra,←hrb];exact q2
          | false=>simp
         ·rw [Bool.and_eq_true,r3,q3]
          constructor
          ·rintro ⟨h1,h2⟩ k hk t x y hx hy
           by_cases hkj:k=j
           ·subst hkj
            rw [hxa] at hx;cases hx
            rw [hxb] at hy;cases hy
            exact h1
           ·exact h2 k (by omega) t x y hx hy
          ·intro hh
           exact ⟨hh j (Nat.le_refl _) T xa xb hxa hxb,fun k hk=>hh k (by omega)⟩
       obtain ⟨r,k1,k2⟩:=key (Γ.X.fields i) 0 (fun k=>by rw [Nat.zero_add]) hf
       refine ⟨r,hrun r (by simpa using k1),k2.trans ?_⟩
       constructor
       ·intro hh
        have:Γ.X.to i a=Γ.X.to i b:=getT_ext fun j t x y hx hy=>hh j (Nat.zero_le _) t x y hx hy
        exact (hX.of_to i a).symm.trans ((congrArg (Γ.X.of i) this).trans (hX.of_to i b))
       ·rintro rfl k _ t x y hx hy
        rw [hx] at hy;cases hy;rfl
    | _=>simp at h
   | arr m T=>
    cases dd with
    | array n el=>
     simp only [Bool.and_eq_true,decide_eq_true_eq] at h
     obtain ⟨rfl,hf⟩:=h
     unfold valOk at hu hv
     rw [if_pos (by simp [aggB])] at hu hv
     subst hu hv
     have hel:∃ T',tyC P Γ el=some T'∧T'=T:=by
      cases d with
      | zero=>simp [eqFit] at hf
      | succ d=>
       simp only [eqFit,Bool.and_eq_true] at hf
       cases hc:tyC P Γ el with
       | none=>simp [hc] at hf
       | some T'=>simp [hc] at hf;exact ⟨T',rfl,hf.1⟩
     obtain ⟨T',hel,rfl⟩:=hel
     cases ha with
     | arr _ _ _ css hca=>
      cases hb with
      | arr _ _ _ dss hcb=>
       have key:∀ (k j:Nat),j+k=n→∃ r:Bool,(forIn (List.range' j k) ((none,()):Option Bool×Unit) fun i r=>do
           let a ←part el (cat css n).toArray (i*Γ.X.sz T')
           let b ←part el (cat dss n).toArray (i*Γ.X.sz T')
           let q ←Op.equalIn D el a b
           if (!q)=true then pure (ForInStep.done (some false,())) else pure (ForInStep.yield (none,()))).run P w=.ok (if r then none else some false,()) w ∧
         (r=true ↔ ∀ m x y,j≤m→(Arr.l a)[m]?=some x→(Arr.l b)[m]?=some y→x=y):=fun k=>by
        induction k with
        | zero=>
         intro j hj
         refine ⟨true,by simp,fun _ m x y hm hx _=>?_,fun _=>rfl⟩
         have:=(List.getElem?_eq_some_iff.1 hx).1
         rw [Arr.h a] at this;omega
        | succ k ih=>
         intro j hj
         have hjl:j < n:=by omega
         obtain ⟨xa,hxa⟩:∃ x,(Arr.l a)[j]?=some x:=⟨_,List.getElem?_eq_getElem (by rw [Arr.h a];exact hjl)⟩
         obtain ⟨xb,hxb⟩:∃ x,(Arr.l b)[j]?=some x:=⟨_,List.getElem?_eq_getElem (by rw [Arr.h b];exact hjl)⟩
         obtain ⟨ra,hra,_⟩:=cat_split css hjl
         obtain ⟨rb,hrb,_⟩:=cat_split dss hjl
         have offa:(cat css j).length=j*Γ.X.sz T':=cat_length fun m hm=>(hca m _ (List.getElem?_eq_getElem (by rw [Arr.h a];omega))).length hX
         have offb:(cat dss j).length=j*Γ.X.sz T':=cat_length fun m hm=>(hcb m _ (List.getElem?_eq_getElem (by rw [Arr.h b];omega))).length hX
         obtain ⟨ua,ra1,ra2⟩:=run_part' (P:=P) (w:=w) (c2:=ra) hX hel (hca j xa hxa) offa
         obtain ⟨ub,rb1,rb2⟩:=run_part' (P:=P) (w:=w) (c2:=rb) hX hel (hcb j xb hxb) offb
         obtain ⟨r1,r2,r3⟩:=eqIn_sound hX d el T' xa xb _ _ ua ub D w hf (hca j xa hxa) (hcb j xb hxb) ra2 rb2 (by omega)
         obtain ⟨q1,q2,q3⟩:=ih (j+1) (by omega)
         refine ⟨r1&&q1,?_,?_⟩
         ·rw [List.range'_succ,List.forIn_cons]
          simp only [Sem.run_bind]
          rw [hra,hrb,ra1]
          simp only [Result.andThen_ok]
          rw [rb1]
          simp only [Result.andThen_ok]
          rw [r2]
          simp only [Result.andThen_ok]
          cases r1 with
          | true=>
           simp only [Bool.not_true,Bool.false_eq_true,if_false,Bool.true_and,Sem.run_pure,Result.andThen_ok]
           rw [←hra,←hrb];exact q2
          | false=>simp
         ·rw [Bool.and_eq_true,r3,q3]
          constructor
          ·rintro ⟨h1,h2⟩ m x y hm hx hy
           by_cases hmj:m=j
           ·subst hmj
            rw [hxa] at hx;cases hx
            rw [hxb] at hy;cases hy
            exact h1
           ·exact h2 m x y (by omega) hx hy
          ·intro hh
           exact ⟨hh j xa xb (Nat.le_refl _) hxa hxb,fun m x y hm=>hh m x y (by omega)⟩
       obtain ⟨r,k1,k2⟩:=key n 0 (by omega)
       refine ⟨r,?_,k2.trans ?_⟩
       ·simp only [Op.equalIn,Sem.run_bind,run_underlying' hud,Result.andThen_ok,run_sizeO (tyC_some hel).2.1]
        rw [Std.Legacy.Range.forIn_eq_forIn_range']
        simp only [Std.Legacy.Range.size,Nat.sub_zero,Nat.add_sub_cancel,Nat.div_one]
        rw [k1]
        cases r<;>simp
       ·constructor
        ·intro hh
         refine Arr.ext (List.ext_getElem? fun m=>?_)
         by_cases hm:m < n
         ·obtain ⟨xa,hxa⟩:∃ x,(Arr.l a)[m]?=some x:=⟨_,List.getElem?_eq_getElem (by rw [Arr.h a];exact hm)⟩
          obtain ⟨xb,hxb⟩:∃ x,(Arr.l b)[m]?=some x:=⟨_,List.getElem?_eq_getElem (by rw [Arr.h b];exact hm)⟩
          rw [hxa,hxb,hh m xa xb (Nat.zero_le _) hxa hxb]
         ·rw [List.getElem?_eq_none (by rw [Arr.h a];omega),List.getElem?_eq_none (by rw [Arr.h b];omega)]
        ·rintro rfl m x y _ hx hy
         rw [hx] at hy;cases hy;rfl
    | _=>simp at h
   | slice b t'=>cases dd<;>simp at h
   | map k' t'=>cases dd<;>simp at h
section
variable {K:List Nat} {N:Slots} {F0 B U:Nat→Prop} {w0:World} {F:Nat→Prop} {S:Nat→List Nat} {e:Env Γ.X} {a:Act} {w:World}
section steps
variable {T0 T1 T2:Option Γ.X.Ty} {g:Nat} {o:Oper} {us:Ups Γ.X} {ans:Ret Γ.X} (hX:TabOk Γ.X) (h:EnvRel N F0 B U w0 F S e a w) (hg:¬ U g) (hd:∀ k,o.dst=some k→N.ok k)
include hX h
theorem rdP {Y:Operand} {x:AX Γ.X} (hx:compX Γ K T0 Y=some x) {T:Γ.X.Ty} {v:Γ.X.den T} (hv:valP (Go.A2.rd e x) T=some v):∃ cs,PRep w F T v cs∧valOk T cs (a.eval Y):=by
 unfold valP at hv
 split at hv
 ·rename_i T' v' m hr
  split at hv
  ·rename_i hp
   obtain ⟨rfl,hv⟩:=castT_some hv
   simp only at hv;subst hv
   obtain ⟨cs,R,k1,k2⟩:=h.rdVal hX hx hr
   exact ⟨cs,(k1.toPure hp).1,k2⟩
  ·cases hv
 ·cases hv
include hg hd
theorem look_eq {neg:Bool} {t u:TypeId} {T:Γ.X.Ty} {Y Z:Operand} {x y:AX Γ.X} (ho:o.op=.binOp (if neg then .neq else .eql) t Y Z u) (hf:eqFit P Γ depthC t T=true) (hni:isIntT P t=false) (hgd:P.eqGuardType P.depth t=false) (hx:compX Γ K T0 Y=some x) (hy:compX Γ K T1 Z=some y)
  (hs:eff ans g e o.dst (.eq T neg x y)=some us):Looks N F0 B U w0 P e a w g o us:=by
 simp only [eff] at hs
 split at hs
 ·rename_i va vb h1 h2
  split at hs
  ·rename_i hcmp
   cases hs
   obtain ⟨cs,a1,a2⟩:=rdP hX h hx h1
   obtain ⟨ds,b1,b2⟩:=rdP hX h hy h2
   obtain ⟨r,r1,r2⟩:=eqIn_sound (P:=P) hX depthC t T va vb cs ds _ _ Op.maxDepth w hf a1 b1 a2 b2 (by decide)
   have hr:r=Γ.X.eq T va vb:=by
    rw [Bool.eq_iff_iff,r2,eq_iff hX hcmp]
   refine ⟨.bool (if neg then !(Γ.X.eq T va vb) else Γ.X.eq T va vb),?_,h.outBool hd hg _⟩
   have fin:∀ uY uZ,a.eval Y=uY→a.eval Z=uZ→(eqGuard (if neg then .neq else .eql) t Y Z uY uZ).run P w=.ok () w→((binOp (if neg then .neq else .eql) t uY uZ).run P w=.ok (.bool (if neg then !(Γ.X.eq T va vb) else Γ.X.eq T va vb)) w)→
     (execOp a.eval o).run P w=.ok (.value (.bool (if neg then !(Γ.X.eq T va vb) else Γ.X.eq T va vb))) w:=fun uY uZ e1 e2 e3 e4=>by
    simp only [execOp,ho,e1,e2]
    simp [e3,e4]
   rw [hr] at r1
   have hfit:=hf
   simp only [depthC,eqFit,Bool.and_eq_true] at hfit
   have hfit:=hfit.2
   cases hud:P.underlying t with
   | none=>rw [hud] at hfit;simp at hfit
   | some dd=>
    rw [hud] at hfit
    generalize a.eval Y=uY at a2 r1 fin
    generalize a.eval Z=uZ at b2 r1 fin
    have agg:∀ xs ys,uY=.agg xs→uZ=.agg ys→(eqGuard (if neg then .neq else .eql) t Y Z uY uZ).run P w=.ok () w∧((binOp (if neg then .neq else .eql) t uY uZ).run P w=.ok (.bool (if neg then !(Γ.X.eq T va vb) else Γ.X.eq T va vb)) w):=fun xs ys e1 e2=>by
     subst e1 e2
     refine ⟨run_eqGuard_agg w _ t Y Z xs ys hgd,?_⟩
     have r1':(Op.equalIn 10000 t (.agg xs) (.agg ys)).run P w=.ok (Γ.X.eq T va vb) w:=r1
     cases neg
     ·simp only [Bool.false_eq_true,if_false]
      rw [run_eql_struct,r1'];rfl
     ·simp only [if_true]
      rw [run_neq_struct,r1'];rfl
    refine fin uY uZ rfl rfl ?_ ?_
    ·cases T with
     | int k=>cases dd<;>first | (simp at hfit;done) | (simp [isIntT,hud] at hni)
     | bool=>
      have e1:=a1.boolInv;have e2:=b1.boolInv
      subst e1 e2
      unfold valOk at a2 b2;rw [if_neg (by simp [aggB])] at a2 b2
      cases a2;cases b2
      cases neg<;>rfl
     | str=>
      have e1:=a1.strInv;have e2:=b1.strInv
      subst e1 e2
      unfold valOk at a2 b2;rw [if_neg (by simp [aggB])] at a2 b2
      cases a2;cases b2
      cases neg<;>rfl
     | slice=>cases dd<;>simp at hfit
     | map=>cases dd<;>simp at hfit
     | _=>
      unfold valOk at a2 b2;rw [if_pos (by simp [aggB])] at a2 b2
      exact (agg _ _ a2 b2).1
    ·cases T with
     | int k=>cases dd<;>first | (simp at hfit;done) | (simp [isIntT,hud] at hni)
     | bool=>
      have e1:=a1.boolInv;have e2:=b1.boolInv
      subst e1 e2
      unfold valOk at a2 b2;rw [if_neg (by simp [aggB])] at a2 b2
      cases a2;cases b2
      cases neg
      ·simp only [Bool.false_eq_true,if_false,binOp,Sem.run_bind,Sem.run_pure,Op.equal]
       rw [r1];rfl
      ·simp only [if_true,binOp,Sem.run_bind,Sem.run_pure,Op.equal]
       rw [r1];rfl
     | str=>
      have e1:=a1.strInv;have e2:=b1.strInv
      subst e1 e2
      unfold valOk at a2 b2;rw [if_neg (by simp [aggB])] at a2 b2
      cases a2;cases b2
      have hb:∀ l m:List UInt8,((⟨l.toArray⟩:ByteArray).toList==(⟨m.toArray⟩:ByteArray).toList)=(l==m):=fun l m=>by
       rw [ByteArray.toList_eq,ByteArray.toList_eq]
      cases neg
      ·simp only [Bool.false_eq_true,if_false,binOp,Op.stringOp,hb]
       rfl
      ·simp only [if_true,binOp,Op.stringOp,hb]
       rfl
     | slice=>cases dd<;>simp at hfit
     | map=>cases dd<;>simp at hfit
     | _=>
      unfold valOk at a2 b2;rw [if_pos (by simp [aggB])] at a2 b2
      exact (agg _ _ a2 b2).2
  ·cases hs
 ·cases hs
end steps
end
end
end Go.A2
