/- YtpofngmiepljeaaDoorHalt: which instruction halts, and what word an event tells. No statement of the seat is proved here. -/
import Derived.Test.YtpofngmiepljeaaDoorRight
set_option linter.unusedSimpArgs false
set_option linter.unusedVariables false
set_option maxRecDepth 100000
set_option maxHeartbeats 1000000
namespace Go.Proofs.YtpofngmiepljeaaDoor
open Go Go.A2
def allT {R:Type} (P:R→Prop):Tree R→Prop
 | .ret r=>P r
 | .fail=>True
 | .ite c a b=>(c=true→allT P a)∧(c=false→allT P b)
 | .opt o f=>∀ x,o=some x→allT P (f x)
 | .sum o f g=>(∀ x,o=.inl x→allT P (f x))∧(∀ x,o=.inr x→allT P (g x))
theorem all_eval {R:Type} {P:R→Prop} {t:Tree R} {r:R} (ha:allT P t) (h:t.eval=some r):P r:=by
 induction t with
 | ret x=>cases h;exact ha
 | fail=>cases h
 | ite c a b iha ihb=>
  cases c with
  | true=>exact iha (ha.1 rfl) h
  | false=>exact ihb (ha.2 rfl) h
 | opt o f ih=>
  cases o with
  | none=>cases h
  | some x=>exact ih x (ha x rfl) h
 | sum o f g ihf ihg=>
  cases o with
  | inl x=>exact ihf x (ha.1 x rfl) h
  | inr x=>exact ihg x (ha.2 x rfl) h
theorem h_put {w:TWork} {r:W .i64} {v:W .u32} {w':TWork} (h:F_step_work_put w r v=some w'):w'.m.A.Halt=w.m.A.Halt:=
 all_eval (P:=fun w':TWork=>w'.m.A.Halt=w.m.A.Halt) (show allT _ (T_step_work_put w r v) from ⟨fun _ _ _=>rfl,fun _=>rfl⟩) h
theorem h_fails {w:TWork} {c:W .i64} {v:W .u32} {w':TWork} (h:F_step_work_fails w c v=some w'):w'.m.A.Halt=w.m.A.Halt:=
 all_eval (P:=fun w':TWork=>w'.m.A.Halt=w.m.A.Halt) (show allT _ (T_step_work_fails w c v) from rfl) h
theorem h_stores {w:TWork} {p:W .u32} {s:W .i64} {v:W .u32} {w':TWork} (h:F_step_work_stores w p s v=some w'):w'.m.A.Halt=w.m.A.Halt:=
 all_eval (P:=fun w':TWork=>w'.m.A.Halt=w.m.A.Halt) (show allT _ (T_step_work_stores w p s v) from fun _ _=>⟨fun _ _ _=>rfl,fun _ _ _=>rfl⟩) h
theorem h_r3 {a} {o} (h:L_step_work_reckon_3 a=some o):o.1=a.1:=by
 refine all_eval (P:=fun o=>o.1=a.1) ?_ h
 unfold B_step_work_reckon_3
 exact ⟨fun _=>rfl,fun _=>rfl⟩
theorem h_r17 {a} {o} (h:L_step_work_reckon_17 a=some o):o.1=a.1:=by
 refine all_eval (P:=fun o=>o.1=a.1) ?_ h
 unfold B_step_work_reckon_17
 exact ⟨fun _ _ _ _ _=>rfl,fun _=>rfl⟩
theorem h_r19 {a} {o} (h:L_step_work_reckon_19 a=some o):o.1.m.A.Halt=a.1.m.A.Halt:=by
 refine all_eval (P:=fun o=>o.1.m.A.Halt=a.1.m.A.Halt) ?_ h
 unfold B_step_work_reckon_19
 exact fun _ h=>h_put h
theorem h_r15 {a} {o} (h:L_step_work_reckon_15 a=some o):o.1.m.A.Halt=a.1.m.A.Halt:=by
 refine all_eval (P:=fun o=>o.1.m.A.Halt=a.1.m.A.Halt) ?_ h
 unfold B_step_work_reckon_15
 have key:∀ {b x c y},L_step_work_reckon_17 b=some x→b.1=a.1→L_step_work_reckon_19 c=some y→c.1=x.1→y.1.m.A.Halt=a.1.m.A.Halt:=fun h1 h2 h3 h4=>by rw [h_r19 h3,h4,h_r17 h1,h2]
 exact ⟨fun _ _ h1 _ h2=>key h1 rfl h2 rfl,fun _ _ h1 _ h2=>key h1 rfl h2 rfl⟩
theorem h_r11 {a} {o} (h:L_step_work_reckon_11 a=some o):o.1.m.A.Halt=a.1.m.A.Halt:=by
 refine all_eval (P:=fun o=>o.1.m.A.Halt=a.1.m.A.Halt) ?_ h
 unfold B_step_work_reckon_11
 exact ⟨fun _ _ _ _ h=>by have:=h_r15 h;exact this,fun _ _ h=>by have:=h_r15 h;exact this⟩
theorem h_r5 {a} {o} (h:L_step_work_reckon_5 a=some o):o.1.m.A.Halt=a.1.m.A.Halt:=by
 refine all_eval (P:=fun o=>o.1.m.A.Halt=a.1.m.A.Halt) ?_ h
 unfold B_step_work_reckon_5
 exact fun _ _=>⟨fun _ _ _ _ h=>by have:=h_r11 h;exact this,fun _ _ h=>by have:=h_r11 h;exact this⟩
theorem h_reckon {w:TWork} {i:TInst} {a b:W .u32} {w':TWork} (h:F_step_work_reckon w i a b=some w'):w'.m.A.Halt=w.m.A.Halt:=by
 refine all_eval (P:=fun w':TWork=>w'.m.A.Halt=w.m.A.Halt) (t:=T_step_work_reckon w i a b) ?_ h
 unfold T_step_work_reckon
 have key:∀ {b x c y},L_step_work_reckon_3 b=some x→b.1=w→L_step_work_reckon_5 c=some y→c.1=x.1→y.1.m.A.Halt=w.m.A.Halt:=fun h1 h2 h3 h4=>by rw [h_r5 h3,h4,h_r3 h1,h2]
 exact ⟨fun _ _ h1 _ h2=>key h1 rfl h2 rfl,fun _ _ h1 _ h2=>key h1 rfl h2 rfl⟩
theorem h_loads {w:TWork} {i:TInst} {a:W .u32} {w':TWork} (h:F_step_work_loads w i a=some w'):w'.m.A.Halt=w.m.A.Halt:=by
 refine all_eval (P:=fun w':TWork=>w'.m.A.Halt=w.m.A.Halt) (t:=T_step_work_loads w i a) ?_ h
 unfold T_step_work_loads
 simp only [allT]
 repeat' first | apply And.intro | intro _
 all_goals (rename_i h;first | exact h_fails h | exact (h_put h).trans rfl)
theorem h_keeps {w:TWork} {i:TInst} {a b:W .u32} {w':TWork} (h:F_step_work_keeps w i a b=some w'):w'.m.A.Halt=w.m.A.Halt:=by
 refine all_eval (P:=fun w':TWork=>w'.m.A.Halt=w.m.A.Halt) (t:=T_step_work_keeps w i a b) ?_ h
 unfold T_step_work_keeps
 simp only [allT]
 repeat' first | apply And.intro | intro _
 all_goals first | exact h_fails (by assumption) | exact h_stores (by assumption)
theorem h_goes {w:TWork} {i:TInst} {a b:W .u32} {w':TWork} (h:F_step_work_goes w i a b=some w'):w'.m.A.Halt=w.m.A.Halt:=by
 refine all_eval (P:=fun w':TWork=>w'.m.A.Halt=w.m.A.Halt) (t:=T_step_work_goes w i a b) ?_ h
 unfold T_step_work_goes
 simp only [allT]
 repeat' first | apply And.intro | intro _
 all_goals (rename_i h;first | exact (h_put h).trans rfl | trivial)
theorem h_once {w:TWork} {i:TInst} {a b:W .u32} {w':TWork} (h:F_step_work_atOnce w i a b=some w'):w'.m.A.Halt=w.m.A.Halt:=by
 refine all_eval (P:=fun w':TWork=>w'.m.A.Halt=w.m.A.Halt) (t:=T_step_work_atOnce w i a b) ?_ h
 unfold T_step_work_atOnce
 simp only [allT]
 repeat' first | apply And.intro | intro _
 all_goals (rename_i h;first | exact h_fails h | exact h_put h | exact (h_put h).trans (h_stores (by assumption)))
theorem h_csrw {a:TArch} {n:W .i64} {v:W .u32} {r:TArch×W .i64} (h:F_csr_Write a n v=some r) (hr:W.ne r.2 (W.of .i64 0)=false):r.1.Halt=a.Halt:=by
 unfold F_csr_Write T_csr_Write F_csr_may T_csr_may at h
 simp only [ev_opt,ev_ite,ev_ret,kernel_p,bind_some'] at h
 rcases csr_in (n:=n) with ⟨h1,h2,h3,h4,h5⟩ | h1 | ⟨h1,h2,h3⟩
 ·obtain ⟨m,m1,m2⟩:=masked_eq n ⟨h4,h5⟩
  simp only [h1,h2,h3,idx?_some (n:=12) (i:=n) (by omega),bind_some',m1,m2] at h
  cases hk:kern a with
  | false=>rw [hk] at h;cases h;cases hr
  | true=>rw [hk] at h;cases h;rfl
 ·simp only [h1] at h
  cases hk:kern a<;>(rw [hk] at h;cases h;cases hr)
 ·simp only [h1,h2] at h
  cases hk:kern a<;>(rw [hk] at h;cases h;cases hr)
theorem h_tret {a:TArch} {r:TArch×W .i64} (h:F_trap_Return a=some r) (hr:W.ne r.2 (W.of .i64 0)=false):r.1.Halt=a.Halt:=by
 unfold F_trap_Return T_trap_Return at h
 simp only [ev_opt,ev_ite,ev_ret,kernel_p,bind_some',moved_p _ _ _ v4,moved_p _ _ _ v8] at h
 cases hk:kern a with
 | false=>rw [hk] at h;cases h;cases hr
 | true=>rw [hk] at h;cases h;rfl
def HP (i:TInst) (c:W .i64) (w':TWork):Prop:=w'.m.A.Halt=W.eq i.Op (W.of .i64 61)∧(W.eq i.Op (W.of .i64 61)=true→w'.cause=c)
theorem hp_not {i:TInst} {c:W .i64} {w w':TWork} (h:W.eq i.Op (W.of .i64 61)=false) (hw:w'.m.A.Halt=w.m.A.Halt) (h0:w.m.A.Halt=false):HP i c w':=⟨by rw [hw,h0,h],fun hh=>by rw [h] at hh;cases hh⟩
theorem op_not {x:W .i64} {k:W .i64} (h:W.eq x k=true) (hk:W.eq k (W.of .i64 61)=false):W.eq x (W.of .i64 61)=false:=by rw [W.eq_iff.1 h];exact hk
theorem h_system {w:TWork} {i:TInst} {a:W .u32} {w':TWork} (hw:w.m.A.Halt=false) (h:F_step_work_system w i a=some w'):HP i w.cause w':=by
 refine all_eval (P:=fun w':TWork=>HP i w.cause w') (t:=T_step_work_system w i a) ?_ h
 unfold T_step_work_system
 refine ⟨fun c _ h=>hp_not (op_not c rfl) (h_fails h) hw,fun _=>?_⟩
 refine ⟨fun c r hr=>⟨fun _ _ h=>hp_not (op_not c rfl) (h_fails h) hw,fun h=>hp_not (w:=w) (op_not c rfl) (h_tret hr h) hw⟩,fun _=>?_⟩
 refine ⟨fun c r hr=>⟨fun _ _ h=>hp_not (op_not c rfl) (h_fails h) hw,fun _ _ h=>hp_not (op_not c rfl) (h_put h) hw⟩,fun _=>?_⟩
 refine ⟨fun c r hr=>⟨fun _ _ h=>hp_not (op_not c rfl) (h_fails h) hw,fun h=>hp_not (w:=w) (op_not c rfl) (h_csrw hr h) hw⟩,fun _=>?_⟩
 refine ⟨fun c=>hp_not (w:=w) (op_not c rfl) rfl hw,fun _=>?_⟩
 refine ⟨fun c _ _ _ _ _ _ _ _=>hp_not (w:=w) (op_not c rfl) rfl hw,fun _=>?_⟩
 refine ⟨fun c=>⟨c.symm,fun _=>rfl⟩,fun c61=>?_⟩
 exact ⟨fun c=>hp_not (w:=w) (op_not c rfl) rfl hw,fun _=>hp_not (w:=w) c61 rfl hw⟩
theorem h_does {m:TMach} {word:W .u32} {i:TInst} {w':TWork} (hH:m.A.Halt=false) (h:F_step_does m word i=some w'):HP i (W.of .i64 0) w':=by
 have le:∀ {k:W .i64},W.le i.Op k=true→k.n≤53→W.eq i.Op (W.of .i64 61)=false:=fun {k} h hk=>by
  have h1:=W.le_n.1 h
  cases e:W.eq i.Op (W.of .i64 61) with
  | false=>rfl
  | true=>have:=W.eq_n.1 e;rw [show (W.of .i64 61).n=61 from rfl] at this;omega
 refine all_eval (P:=fun w':TWork=>HP i (W.of .i64 0) w') (t:=T_step_does m word i) ?_ h
 unfold T_step_does
 intro j1 _ j2 _
 refine ⟨fun c _ h=>hp_not (le c (by decide)) (h_reckon h) hH,fun _=>?_⟩
 refine ⟨fun c _ h=>hp_not (le c (by decide)) (h_loads h) hH,fun _=>?_⟩
 refine ⟨fun c _ h=>hp_not (le c (by decide)) (h_keeps h) hH,fun _=>?_⟩
 refine ⟨fun c _ h=>hp_not (le c (by decide)) (h_goes h) hH,fun _=>?_⟩
 refine ⟨fun c _ h=>hp_not (le c (by decide)) (h_once h) hH,fun _=>?_⟩
 exact fun _ h=>h_system (by exact hH) h
end Go.Proofs.YtpofngmiepljeaaDoor
