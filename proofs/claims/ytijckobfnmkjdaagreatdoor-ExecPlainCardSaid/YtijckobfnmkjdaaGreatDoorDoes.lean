/- YtijckobfnmkjdaaGreatDoorDoes: what an instruction does: the program's is the document's. No statement of the seat is proved here. -/
import Derived.Test.YtijckobfnmkjdaaGreatDoorInst2
set_option linter.unusedSimpArgs false
set_option linter.unusedVariables false
set_option maxRecDepth 100000
namespace Go.Proofs.YtijckobfnmkjdaaGreatDoor
open Go Go.A2
section lits
variable {a b:Int}
theorem n_lit (h:-1000≤a∧a≤1000):(W.of .i64 a).n=a:=by rw [W.of_n,wrap_i64];omega
theorem eq_lit (ha:-1000≤a∧a≤1000) (hb:-1000≤b∧b≤1000):W.eq (W.of .i64 a) (W.of .i64 b)=decide (a=b):=iff_bool (by rw [W.eq_n,n_lit ha,n_lit hb,decide_eq_true_eq])
end lits
def putW (w:TWork) (r:W .i64) (v:W .u32):TWork:=if 0 < r.n then { w with m:={ w.m with A:={ w.m.A with R:=w.m.A.R.set r.n.toNat v } },ev:={ w.ev with Rd:=r,Val:=v } } else w
theorem put_p {w:TWork} {r:W .i64} {v:W .u32} (h0:0≤r.n) (h:r.n < 16):F_step_work_put w r v=some (putW w r v):=by
 unfold F_step_work_put T_step_work_put putW
 rw [ev_ite]
 by_cases hr:0 < r.n
 ·rw [if_pos hr,if_pos (W.ne_n.2 (by rw [show (W.of .i64 0).n=0 from rfl];omega)),ev_opt,idx?_some (n:=16) (i:=r) (by omega)]
  rfl
 ·rw [if_neg hr,if_neg (fun hh=>by have:=W.ne_n.1 hh;rw [show (W.of .i64 0).n=0 from rfl] at this;omega)]
  rfl
def ev0 (m:TMach) (word:W .u32):TEvent:=TEvent.mk m.A.PC word (W.of .i64 (-1)) (W.of .u32 0) (W.of .i64 (-1)) (W.of .u32 0) (W.of .i64 0) (W.of .u32 0) (W.of .u32 0) (W.of .i64 0) (W.of .u32 0) (W.of .u32 0)
def w0 (m:TMach) (word:W .u32):TWork:=TWork.mk m (ev0 m word) (W.add m.A.PC (W.of .u32 4)) (W.of .i64 0) (W.of .u32 0)
structure Eff (m:TMach) (word:W .u32) (w:TWork):Prop where
 regs:∀ r,r < 16→w.m.A.R.get r=if 0 < r∧w.ev.Rd.n=r then w.ev.Val else if 0 < r∧w.ev.Rd2.n=r then w.ev.Val2 else m.A.R.get r
 rd:w.ev.Rd.n=-1∨(1≤w.ev.Rd.n∧w.ev.Rd.n < 16)
 rd2:w.ev.Rd2.n=-1∨(1≤w.ev.Rd2.n∧w.ev.Rd2.n < 16)
 mem:(w.ev.Size.n=0∧w.m.Mem=m.Mem)∨(chkB m.Mem w.ev.Addr w.ev.Size=true∧w.m.Mem.l=cpL m.Mem.l w.ev.Addr.v (bytesL w.ev.Data.v w.ev.Size.v))
 shadow:w.m.Shadow=m.Shadow∨w.m.Shadow=m.Mem
 out:w.m.Out=m.Out∨∃ x,w.m.Out.l=m.Out.l++[x]
 csr:w.m.A.C=m.A.C∨∃ (n:Nat) (v k:W .u32),n < 12∧F_ref11_Masked (wi n)=some k∧w.m.A.C=m.A.C.set n (W.and v k)∨∃ v:W .u32,kern m.A=true∧w.m.A.C=m.A.C.set 0 (mv (mv (m.A.C.get 0) (W.of .u32 1) ((m.A.C.get 0).v.testBit 2)) (W.of .u32 2) ((m.A.C.get 0).v.testBit 3))
 pc:w.ev.PC=m.A.PC
 word_:w.ev.Word=word
 cause0:w.ev.Cause=W.of .i64 0
theorem nc {c:W .i64} (hc:W.ne c (W.of .i64 0)=true) {P:Prop}:c=W.of .i64 0→P:=fun h=>by rw [h,W.ne_self] at hc;cases hc
theorem alu_three (op:W .i64) (a b:W .u32) (hop:1≤op.n∧op.n≤33):∃ r1 r2 r3,F_alu_Do op a b=some r1∧F_mul_Do op a b=some r2∧F_div_Do op a b=some r3∧F_ref03_Do op a b=some r1∧F_ref04_Do op a b=some r2∧F_ref05_Do op a b=some r3 ∧
  r1.2=decide (¬ (11≤op.n∧op.n≤17)∧op.n ≠ 24)∧r2.2=decide (11≤op.n∧op.n≤13)∧r3.2=decide (14≤op.n∧op.n≤17):=by
 obtain ⟨r1,h1,k1⟩:=alu_eq op a b
 obtain ⟨r2,h2,k2⟩:=mul_eq op a b
 obtain ⟨r3,h3,k3⟩:=div_eq op a b
 refine ⟨r1,r2,r3,h1,h2,h3,k1,k2,k3,?_,ref04_ok op a b k2,div_ok op a b h3⟩
 obtain ⟨k,rfl,hk1,hk2⟩:=wi_of (a:=op) (lo:=1) (hi:=33) (by omega) (by omega)
 have hn:(wi k).n=k:=wi_n (sm (by omega))
 have clz:=clz_eq a
 obtain ⟨c,hc,_⟩:=clz
 obtain ⟨p,hp,_⟩:=pop_eq a
 obtain ⟨re,hre,_⟩:=rev_eq a
 obtain ⟨lo,hlo,hlv⟩:=low_v b
 obtain ⟨ro,hro,_⟩:=rot_eq a b lo hlv
 have one:∀ t,∃ y,F_alu_one t=some y:=fun t=>by cases t<;>exact ⟨_,rfl⟩
 obtain ⟨o1,ho1⟩:=one (W.lt (W.conv .i32 a) (W.conv .i32 b))
 obtain ⟨o2,ho2⟩:=one (W.lt a b)
 rw [hn]
 have hcases:k=1∨k=2∨k=3∨k=4∨k=5∨k=6∨k=7∨k=8∨k=9∨k=10∨k=11∨k=12∨k=13∨k=14∨k=15∨k=16∨k=17∨k=18∨k=19∨k=20∨k=21∨k=22∨k=23∨k=24∨k=25∨k=26∨k=27∨k=28∨k=29∨k=30∨k=31∨k=32∨k=33:=by omega
 unfold F_alu_Do T_alu_Do at h1
 rcases hcases with rfl | rfl | rfl | rfl | rfl | rfl | rfl | rfl | rfl | rfl | rfl | rfl | rfl | rfl | rfl | rfl | rfl | rfl | rfl | rfl | rfl | rfl | rfl | rfl | rfl | rfl | rfl | rfl | rfl | rfl | rfl | rfl | rfl <;>
  (simp (disch:=omega) only [F_alu_logic,T_alu_logic,F_alu_single,T_alu_single,↓ev_ite,↓ev_opt,wi,Int.cast_ofNat_Int,eq_lit,hlo,hro,hc,hp,hre,ho1,ho2,bind_some',ev_ret,Int.reduceEq,decide_false,decide_true,Bool.false_eq_true,if_false,if_true] at h1;cases h1;rfl)
end Go.Proofs.YtijckobfnmkjdaaGreatDoor
