/- A2Rep: how typed values stand in the model's memory. No statement of the seat is proved here. -/
import Derived.Test.YtchpjkadpdajkaaGreatDoorA2Comp
import Derived.Below
import Derived.Laws.Cells
set_option linter.unusedSimpArgs false
set_option linter.unusedVariables false
namespace Go.A2
structure TabOk (X:Tab):Prop where
 to_of:∀ i x,X.to i (X.of i x)=x
 of_to:∀ i v,X.of i (X.to i v)=v
 sz:∀ i,X.szD i=X.szs (X.fields i)
 eq:∀ i,X.flatD i=true→∀ a b,X.eqD i a b=true ↔ a=b
 flat:∀ i,X.flatD i=true→∀ t∈X.fields i,X.flat t=true
 zero:∀ i j t x,getT (X.fields i) (X.to i (X.zeroD i)) j=some ⟨t,x⟩→x=X.zero t
def cat {α:Type} (f:Nat→List α) (n:Nat):List α:=(List.range n).flatMap f
theorem cat_zero {α:Type} (f:Nat→List α):cat f 0=[]:=rfl
theorem cat_succ {α:Type} (f:Nat→List α) (n:Nat):cat f (n+1)=cat f n++f n:=by
 simp [cat,List.range_succ]
theorem cat_congr {α:Type} {f g:Nat→List α} {n:Nat} (h:∀ i,i < n→f i=g i):cat f n=cat g n:=by
 induction n with
 | zero=>rfl
 | succ n ih=>rw [cat_succ,cat_succ,ih fun i hi=>h i (by omega),h n (by omega)]
theorem cat_split {α:Type} (f:Nat→List α) {j n:Nat} (h:j < n):∃ r,cat f n=cat f j++f j++r∧∀ (g:Nat→List α),(∀ i,j < i→g i=f i)→cat g n=cat g j++g j++r:=by
 induction n with
 | zero=>omega
 | succ n ih=>
  by_cases hj:j=n
  ·subst hj
   exact ⟨[],by rw [cat_succ,List.append_nil],fun g _=>by rw [cat_succ,List.append_nil]⟩
  ·obtain ⟨r,h1,h2⟩:=ih (by omega)
   refine ⟨r++f n,by rw [cat_succ,h1,List.append_assoc],fun g hg=>?_⟩
   rw [cat_succ,h2 g hg,hg n (by omega),List.append_assoc]
theorem mem_cat {α:Type} {f:Nat→List α} {n:Nat} {x:α}:x∈cat f n ↔ ∃ i,i < n∧x∈f i:=by
 simp [cat,List.mem_flatMap]
theorem cat_nil {α:Type} {f:Nat→List α} {n:Nat} (h:∀ i,i < n→f i=[]):cat f n=[]:=by
 induction n with
 | zero=>rfl
 | succ n ih=>rw [cat_succ,ih fun i hi=>h i (by omega),h n (by omega)];rfl
theorem cat_length {α:Type} {f:Nat→List α} {n m:Nat} (h:∀ i,i < n→(f i).length=m):(cat f n).length=n*m:=by
 induction n with
 | zero=>simp [cat]
 | succ n ih=>rw [cat_succ,List.length_append,ih fun i hi=>h i (by omega),h n (by omega),Nat.succ_mul]
section
variable {X:Tab}
theorem getT_type {ts:List X.Ty} {x:X.Tup ts} {j:Nat} {t:X.Ty} {y:X.den t} (h:getT ts x j=some ⟨t,y⟩):ts[j]?=some t:=by
 induction ts generalizing j with
 | nil=>simp [getT] at h
 | cons t' ts ih=>
  cases j with
  | zero=>simp only [getT,Option.some.injEq,Sigma.mk.injEq] at h;simp [h.1]
  | succ j=>simp only [getT] at h;simpa using ih h
theorem getT_some {ts:List X.Ty} (x:X.Tup ts) {j:Nat} {t:X.Ty} (h:ts[j]?=some t):∃ y,getT ts x j=some ⟨t,y⟩:=by
 induction ts generalizing j with
 | nil=>simp at h
 | cons t' ts ih=>
  cases j with
  | zero=>simp at h;subst h;exact ⟨x.1,rfl⟩
  | succ j=>exact ih x.2 (by simpa using h)
theorem castT_self {T:X.Ty} (v:X.den T):castT v T=some v:=by simp [castT]
theorem castT_some {T T':X.Ty} {v:X.den T} {u:X.den T'} (h:castT v T'=some u):∃ e:T=T',e ▸ v=u:=by
 unfold castT at h
 split at h
 ·rename_i e;simp at h;exact ⟨e,h⟩
 ·cases h
theorem getT_set {ts:List X.Ty} {x x':X.Tup ts} {j:Nat} {T:X.Ty} {v:X.den T} (h:setT ts x j T v=some x'):
  getT ts x' j=some ⟨T,v⟩∧∀ k,k ≠ j→getT ts x' k=getT ts x k:=by
 induction ts generalizing j with
 | nil=>simp [setT] at h
 | cons t ts ih=>
  cases j with
  | zero=>
   simp only [setT] at h
   cases hc:castT v t with
   | none=>rw [hc] at h;cases h
   | some y=>
    rw [hc] at h;cases h
    obtain ⟨rfl,rfl⟩:=castT_some hc
    refine ⟨rfl,fun k hk=>?_⟩
    cases k with
    | zero=>exact absurd rfl hk
    | succ k=>rfl
  | succ j=>
   simp only [setT] at h
   cases hc:setT ts x.2 j T v with
   | none=>rw [hc] at h;cases h
   | some y=>
    rw [hc] at h;cases h
    obtain ⟨h1,h2⟩:=ih hc
    refine ⟨h1,fun k hk=>?_⟩
    cases k with
    | zero=>rfl
    | succ k=>exact h2 k (by omega)
def valOk (T:X.Ty) (cs:List Value) (u:Value):Prop:=if aggB T=true then u=.agg cs.toArray else cs=[u]
inductive PRep (w:World) (F:Nat→Prop):(T:X.Ty)→X.den T→List Value→Prop where
 | int (k:IntKind) (v:W k):PRep w F (.int k) v [.int k v.n]
 | bool (b:Bool):PRep w F .bool b [.bool b]
 | str (s:Str):PRep w F .str s [.string ⟨s.l.toArray⟩]
 | named (i:X.ι) (v:X.D i) (css:Nat→List Value) (h:∀ j t x,getT (X.fields i) (X.to i v) j=some ⟨t,x⟩→PRep w F t x (css j)):
   PRep w F (.named i) v (cat css (X.fields i).length)
 | arr (n:Nat) (t:X.Ty) (v:Arr n (X.den t)) (css:Nat→List Value) (h:∀ (j:Nat) x,v.l[j]?=some x→PRep w F t x (css j)):PRep w F (.arr n t) v (cat css n)
 | slice (b:Nat) (t:X.Ty) (v:Sl b (X.den t)) (a:Option Addr) (cap:Nat) (css:Nat→List Value) (hcap:v.l.length≤cap)
   (ha:v.l ≠ []→∃ blk o,a=some ⟨blk,o,none⟩∧F blk∧∀ (i j:Nat) u,i < v.l.length→(css i)[j]?=some u→w.cell? ⟨blk,o+i*X.sz t+j,none⟩=some u)
   (h:∀ (i:Nat) x,v.l[i]?=some x→PRep w F t x (css i)):PRep w F (.slice b t) v [.slice a v.l.length cap]
 | mapNil (k t:X.Ty):PRep w F (.map k t) ([]:List (X.den k×X.den t)) [.map none]
 | map (k t:X.Ty) (v:List (X.den k×X.den t)) (blk:Nat) (es:Array MapEntry) (ck:Nat) (kss vss:Nat→List Value) (hF:F blk) (hg:w.heap[blk]?=some (.map es ck)) (hl:es.size=v.length)
   (he:∀ (i:Nat) en,es.toList[i]?=some en→valOk k (kss i) en.key∧valOk t (vss i) en.val)
   (hk:∀ (i:Nat) x,v[i]?=some x→PRep w F k x.1 (kss i)) (ht:∀ (i:Nat) x,v[i]?=some x→PRep w F t x.2 (vss i)):PRep w F (.map k t) v [.map (some blk)]
theorem PRep.mono {w w':World} {F F':Nat→Prop} (hF:∀ b,F b→F' b) (hw:∀ b,F b→w'.heap[b]?=w.heap[b]?) {T:X.Ty} {v:X.den T} {cs:List Value} (h:PRep w F T v cs):PRep w' F' T v cs:=by
 induction h with
 | int k v=>exact .int k v
 | bool b=>exact .bool b
 | str s=>exact .str s
 | named i v css _ ih=>exact .named i v css ih
 | arr n t v css _ ih=>exact .arr n t v css ih
 | slice b t v a cap css hcap ha _ ih=>
  refine .slice b t v a cap css hcap (fun hne=>?_) ih
  obtain ⟨blk,o,h1,h2,h3⟩:=ha hne
  exact ⟨blk,o,h1,hF _ h2,fun i j u hi hj=>(World.cell?_of_block (w:=w) (hw blk h2)).trans (h3 i j u hi hj)⟩
 | mapNil k t=>exact .mapNil k t
 | map k t v blk es ck kss vss h1 hg hl he _ _ ih ih'=>exact .map k t v blk es ck kss vss (hF _ h1) ((hw blk h1).trans hg) hl he ih ih'
theorem szs_take (ts:List X.Ty):∀ {j:Nat} {t:X.Ty},ts[j]?=some t→X.szs (ts.take (j+1))=X.szs (ts.take j)+X.sz t:=by
 induction ts with
 | nil=>intro j t h;simp at h
 | cons t' ts ih=>
  intro j t h
  cases j with
  | zero=>simp at h;subst h;simp [Tab.szs]
  | succ j=>simp only [List.take_succ_cons,Tab.szs];rw [ih (by simpa using h)];omega
theorem cat_szs {css:Nat→List Value} {ts:List X.Ty} (h:∀ (j:Nat) t,ts[j]?=some t→(css j).length=X.sz t):∀ {j:Nat},j≤ts.length→(cat css j).length=X.szs (ts.take j)
 | 0,_=>by simp [cat,Tab.szs]
 | j+1,hj=>by
  have ht:ts[j]?=some ts[j]:=List.getElem?_eq_getElem (by omega)
  rw [cat_succ,List.length_append,cat_szs h (by omega),szs_take ts ht,h j _ ht]
theorem PRep.length (hX:TabOk X) {w:World} {F:Nat→Prop} {T:X.Ty} {v:X.den T} {cs:List Value} (h:PRep w F T v cs):cs.length=X.sz T:=by
 induction h with
 | named i v css _ ih=>
  have:=cat_szs (X:=X) (css:=css) (ts:=X.fields i) (fun j t hj=>by
   obtain ⟨y,hy⟩:=getT_some (X.to i v) hj
   exact ih j t y hy) (Nat.le_refl _)
  rw [this,List.take_length]
  simp [Tab.sz,hX.sz]
 | arr n t v css _ ih=>
  rw [cat_length (m:=X.sz t) fun i hi=>ih i (v.l[i]'(by rw [v.h];exact hi)) (List.getElem?_eq_getElem _)]
  rfl
 | _=>rfl
theorem PRep.one {w:World} {F:Nat→Prop} {T:X.Ty} {v:X.den T} {cs:List Value} (h:PRep w F T v cs):∀ c∈cs,c.oneCell'=true:=by
 induction h with
 | named i v css _ ih=>
  intro c hc
  obtain ⟨j,hj,hc⟩:=mem_cat.1 hc
  obtain ⟨y,hy⟩:=getT_some (X.to i v) (List.getElem?_eq_getElem hj)
  exact ih j _ y hy c hc
 | arr n t v css _ ih=>
  intro c hc
  obtain ⟨j,hj,hc⟩:=mem_cat.1 hc
  exact ih j _ (List.getElem?_eq_getElem (by rw [v.h];exact hj)) c hc
 | _=>intro c hc;simp at hc;subst hc;rfl
inductive VRep (w:World) (F:Nat→Prop):(T:X.Ty)→X.den T→Own→List Value→List Nat→Prop where
 | pure {T:X.Ty} {v:X.den T} {cs:List Value} (h:PRep w F T v cs):VRep w F T v .no cs []
 | full (b:Nat) (t:X.Ty) (v:Sl b (X.den t)) (a:Option Addr) (h:PRep w F (.slice b t) v [.slice a v.l.length v.l.length]):VRep w F (.slice b t) v .full [.slice a v.l.length v.l.length] []
 | ownNil (b:Nat) (t:X.Ty) (v:Sl b (X.den t)) (g:Nat) (a:Option Addr) (hv:v.l=[]):VRep w F (.slice b t) v (.yes g) [.slice a 0 0] []
 | own (b:Nat) (t:X.Ty) (v:Sl b (X.den t)) (g:Nat) (blk cap:Nat) (cells:Array Value) (ty:TypeId) (css:Nat→List Value) (hg:w.heap[blk]?=some (.cells cells ty (0,0)))
   (hsz:cells.size=cap*X.sz t) (hcap:v.l.length≤cap) (hmx:cap≤maxLen)
   (hc:∀ (i j:Nat) u,i < v.l.length→(css i)[j]?=some u→cells[i*X.sz t+j]?=some u) (h:∀ (i:Nat) x,v.l[i]?=some x→PRep w F t x (css i)):
   VRep w F (.slice b t) v (.yes g) [.slice (some ⟨blk,0,none⟩) v.l.length cap] [blk]
 | st (i:X.ι) (v:X.D i) (l:List Own) (css:Nat→List Value) (Ss:Nat→List Nat)
   (h:∀ j t x,getT (X.fields i) (X.to i v) j=some ⟨t,x⟩→VRep w F t x (l.getD j .no) (css j) (Ss j)):VRep w F (.named i) v (.st l) (cat css (X.fields i).length) (cat Ss (X.fields i).length)
 | dead (b:Nat) (t:X.Ty) (v:Sl b (X.den t)) (c:Value) (h1:c.oneCell'=true):VRep w F (.slice b t) v .dead [c] []
 | ownM (k t:X.Ty) (v:List (X.den k×X.den t)) (g blk:Nat) (es:Array MapEntry) (ck:Nat) (kss vss:Nat→List Value) (hg:w.heap[blk]?=some (.map es ck)) (hl:es.size=v.length)
   (he:∀ (i:Nat) en,es.toList[i]?=some en→valOk k (kss i) en.key∧valOk t (vss i) en.val)
   (hk:∀ (i:Nat) x,v[i]?=some x→PRep w F k x.1 (kss i)) (ht:∀ (i:Nat) x,v[i]?=some x→PRep w F t x.2 (vss i)):VRep w F (.map k t) v (.yes g) [.map (some blk)] [blk]
theorem VRep.mono {w w':World} {F F':Nat→Prop} (hF:∀ b,F b→F' b) (hw:∀ b,F b→w'.heap[b]?=w.heap[b]?) {T:X.Ty} {v:X.den T} {o:Own} {cs:List Value} {S:List Nat} (h:VRep w F T v o cs S)
  (hS:∀ b∈S,w'.heap[b]?=w.heap[b]?):VRep w' F' T v o cs S:=by
 induction h with
 | pure h=>exact .pure (h.mono hF hw)
 | full b t v a h=>exact .full b t v a (h.mono hF hw)
 | ownNil b t v g a hv=>exact .ownNil b t v g a hv
 | own b t v g blk cap cells ty css hg hsz hcap hmx hc h=>exact .own b t v g blk cap cells ty css ((hS blk (by simp)).trans hg) hsz hcap hmx hc fun i x hi=>(h i x hi).mono hF hw
 | st i v l css Ss _ ih=>
  refine .st i v l css Ss fun j t x hj=>ih j t x hj fun b hb=>hS b (mem_cat.2 ⟨j,?_,hb⟩)
  exact (List.getElem?_eq_some_iff.1 (getT_type hj)).1
 | dead b t v c h1=>exact .dead b t v c h1
 | ownM k t v g blk es ck kss vss hg hl he hk ht=>exact .ownM k t v g blk es ck kss vss ((hS blk (by simp)).trans hg) hl he (fun i x hi=>(hk i x hi).mono hF hw) fun i x hi=>(ht i x hi).mono hF hw
theorem VRep.length (hX:TabOk X) {w:World} {F:Nat→Prop} {T:X.Ty} {v:X.den T} {o:Own} {cs:List Value} {S:List Nat} (h:VRep w F T v o cs S):cs.length=X.sz T:=by
 induction h with
 | pure h=>exact h.length hX
 | st i v l css Ss _ ih=>
  have:=cat_szs (X:=X) (css:=css) (ts:=X.fields i) (fun j t hj=>by
   obtain ⟨y,hy⟩:=getT_some (X.to i v) hj
   exact ih j t y hy) (Nat.le_refl _)
  rw [this,List.take_length]
  simp [Tab.sz,hX.sz]
 | _=>rfl
theorem VRep.one {w:World} {F:Nat→Prop} {T:X.Ty} {v:X.den T} {o:Own} {cs:List Value} {S:List Nat} (h:VRep w F T v o cs S):∀ c∈cs,c.oneCell'=true:=by
 induction h with
 | pure h=>exact h.one
 | st i v l css Ss _ ih=>
  intro c hc
  obtain ⟨j,hj,hc⟩:=mem_cat.1 hc
  obtain ⟨y,hy⟩:=getT_some (X.to i v) (List.getElem?_eq_getElem hj)
  exact ih j _ y hy c hc
 | dead b t v c h1=>intro c' hc;simp at hc;subst hc;exact h1
 | _=>intro c hc;simp at hc;subst hc;rfl
theorem pureL_getD {l:List Own} (h:Own.pureL l=true) (j:Nat):(l.getD j .no).pure=true:=by
 induction l generalizing j with
 | nil=>rfl
 | cons o l ih=>
  simp only [Own.pureL,Bool.and_eq_true] at h
  cases j with
  | zero=>exact h.1
  | succ j=>simpa using ih h.2 j
theorem aliveL_getD {l:List Own} (h:Own.aliveL l=true) (j:Nat):(l.getD j .no).alive=true:=by
 induction l generalizing j with
 | nil=>rfl
 | cons o l ih=>
  simp only [Own.aliveL,Bool.and_eq_true] at h
  cases j with
  | zero=>exact h.1
  | succ j=>simpa using ih h.2 j
theorem VRep.toPure {w:World} {F:Nat→Prop} {T:X.Ty} {v:X.den T} {o:Own} {cs:List Value} {S:List Nat} (h:VRep w F T v o cs S) (ho:o.pure=true):PRep w F T v cs∧S=[]:=by
 induction h with
 | pure h=>exact ⟨h,rfl⟩
 | full b t v a h=>exact ⟨h,rfl⟩
 | st i v l css Ss _ ih=>
  have hl:Own.pureL l=true:=ho
  refine ⟨.named i v css fun j t x hj=>(ih j t x hj (pureL_getD hl j)).1,cat_nil fun j hj=>?_⟩
  obtain ⟨y,hy⟩:=getT_some (X.to i v) (List.getElem?_eq_getElem hj)
  exact (ih j _ y hy (pureL_getD hl j)).2
 | _=>cases ho
theorem VRep.freeze {w:World} {F F':Nat→Prop} (hF:∀ b,F b→F' b) {T:X.Ty} {v:X.den T} {o:Own} {cs:List Value} {S:List Nat} (h:VRep w F T v o cs S) (hS:∀ b∈S,F' b) (hd:o.alive=true):
  PRep w F' T v cs:=by
 induction h with
 | pure h=>exact h.mono hF fun _ _=>rfl
 | full b t v a h=>exact h.mono hF fun _ _=>rfl
 | ownNil b t v g a hv=>
  have:=PRep.slice (w:=w) (F:=F') b t v a 0 (fun _=>[]) (by simp [hv]) (fun h=>absurd hv h) (fun i x hi=>by simp [hv] at hi)
  simpa [hv] using this
 | own b t v g blk cap cells ty css hg hsz hcap hmx hc h=>
  exact .slice b t v _ cap css hcap (fun _=>⟨blk,0,rfl,hS blk (by simp),fun i j u hi hj=>by simpa [World.cell?,hg] using hc i j u hi hj⟩) fun i x hi=>(h i x hi).mono hF fun _ _=>rfl
 | st i v l css Ss _ ih=>
  exact .named i v css fun j t x hj=>ih j t x hj (fun b hb=>hS b (mem_cat.2 ⟨j,(List.getElem?_eq_some_iff.1 (getT_type hj)).1,hb⟩)) (aliveL_getD hd j)
 | dead b t v c h1=>cases hd
 | ownM k t v g blk es ck kss vss hg hl he hk ht=>exact .map k t v blk es ck kss vss (hS blk (by simp)) hg hl he (fun i x hi=>(hk i x hi).mono hF fun _ _=>rfl) fun i x hi=>(ht i x hi).mono hF fun _ _=>rfl
theorem PRep.intInv {w:World} {F:Nat→Prop} {k:IntKind} {v:W k} {cs:List Value} (h:PRep (X:=X) w F (.int k) v cs):cs=[.int k v.n]:=by
 cases h;rfl
theorem PRep.boolInv {w:World} {F:Nat→Prop} {b:Bool} {cs:List Value} (h:PRep (X:=X) w F .bool b cs):cs=[.bool b]:=by
 cases h;rfl
theorem PRep.strInv {w:World} {F:Nat→Prop} {s:Str} {cs:List Value} (h:PRep (X:=X) w F .str s cs):cs=[.string ⟨s.l.toArray⟩]:=by
 cases h;rfl
theorem VRep.intInv {w:World} {F:Nat→Prop} {k:IntKind} {v:W k} {o:Own} {cs:List Value} {S:List Nat} (h:VRep (X:=X) w F (.int k) v o cs S):cs=[.int k v.n]:=by
 cases h with | pure h=>exact h.intInv
theorem VRep.boolInv {w:World} {F:Nat→Prop} {b:Bool} {o:Own} {cs:List Value} {S:List Nat} (h:VRep (X:=X) w F .bool b o cs S):cs=[.bool b]:=by
 cases h with | pure h=>exact h.boolInv
theorem VRep.strInv {w:World} {F:Nat→Prop} {s:Str} {o:Own} {cs:List Value} {S:List Nat} (h:VRep (X:=X) w F .str s o cs S):cs=[.string ⟨s.l.toArray⟩]:=by
 cases h with | pure h=>exact h.strInv
end
end Go.A2
