/- YtijckobfnmkjdaaGreatDoorInst2: a word as an instruction: the program's answer is the document's. No statement of the seat is proved here. -/
import Derived.Test.YtijckobfnmkjdaaGreatDoorInst
set_option linter.unusedSimpArgs false
set_option linter.unusedVariables false
set_option maxRecDepth 100000
namespace Go.Proofs.YtijckobfnmkjdaaGreatDoor
open Go Go.A2
def zeroI:TInst:=TInst.mk (W.of .i64 0) (W.of .i64 0) (W.of .i64 0) (W.of .i64 0) (W.of .i64 0)
structure InstOk (i:TInst):Prop where
 op0:1≤i.Op.n
 op1:i.Op.n < 64
 rd0:0≤i.Rd.n
 rd1:i.Rd.n < 16
 ra0:0≤i.Ra.n
 ra1:i.Ra.n < 16
 rb0:0≤i.Rb.n
 rb1:i.Rb.n < 16
theorem conv_nat {x:W .u32}:W.conv .i64 x=wi x.v:=by
 have:=x.v_lt
 refine W.ext ?_
 rw [conv64_v,wi_n (by unfold room;omega)]
theorem dec_p {w:W .u32} {k rd ra rb:Nat} (hk64:k < 64) (h0:k ≠ 0) {yk yd ya yb:W .u32} {n:W .i64} (k1:F_bits_Field w (W.of .i64 31) (W.of .i64 26)=some yk) (d1:F_bits_Field w (W.of .i64 25) (W.of .i64 22)=some yd) (a1:F_bits_Field w (W.of .i64 21) (W.of .i64 18)=some ya) (b1:F_bits_Field w (W.of .i64 17) (W.of .i64 14)=some yb)
  (vk:W.conv .i64 yk=wi k) (vd:W.conv .i64 yd=wi rd) (va:W.conv .i64 ya=wi ra) (vb:W.conv .i64 yb=wi rb) (hnum:F_inst_number (wi k) w=some n):
  F_inst_Dec w=(F_inst_Enc (TInst.mk (wi k) (wi (if hasN k 1=true then rd else 0)) (wi (if hasN k 2=true then ra else 0)) (wi (if hasN k 4=true then rb else 0)) (if hasN k 8=true then n else W.of .i64 0))).bind fun r=>if W.ne r.2 (W.of .i64 0)=true then some (zeroI,W.of .i64 2) else if W.ne r.1 w=true then some (zeroI,W.of .i64 2) else some (TInst.mk (wi k) (wi (if hasN k 1=true then rd else 0)) (wi (if hasN k 2=true then ra else 0)) (wi (if hasN k 4=true then rb else 0)) (if hasN k 8=true then n else W.of .i64 0),W.of .i64 0):=by
 have ok:=op_ok hk64
 have heqk:W.eq (wi k) (W.of .i64 0)=decide (k=0):=eq_small (b:=0) (by omega) (by omega)
 have q1:F_inst_has (wi k) (W.of .i64 1)=some (hasN k 1):=ok.h1
 have q2:F_inst_has (wi k) (W.of .i64 2)=some (hasN k 2):=ok.h2
 have q4:F_inst_has (wi k) (W.of .i64 4)=some (hasN k 4):=ok.h4
 have q8:F_inst_has (wi k) (W.of .i64 8)=some (hasN k 8):=ok.h8
 have z0:(wi 0:W .i64)=W.of .i64 0:=rfl
 clear ok
 generalize hasN k 1=g1 at q1 ⊢
 generalize hasN k 2=g2 at q2 ⊢
 generalize hasN k 4=g4 at q4 ⊢
 generalize hasN k 8=g8 at q8 ⊢
 unfold F_inst_Dec T_inst_Dec zeroI
 rw [ev_opt,k1,bind_some',ev_ite,vk,heqk,if_neg (by simpa using h0)]
 cases g1<;>cases g2<;>cases g4<;>cases g8 <;>
  simp only [↓ev_opt,↓ev_ite,q1,q2,q4,q8,bind_some',Bool.false_eq_true,if_false,if_true,d1,a1,b1,vd,va,vb,hnum,ev_ret,z0]
theorem instOk_mk {k rd ra rb:Nat} {n:W .i64} (h0:k ≠ 0) (hk:k < 64) (h1:rd < 16) (h2:ra < 16) (h3:rb < 16):InstOk (TInst.mk (wi k) (wi rd) (wi ra) (wi rb) n):=by
 have w1:∀ a,a < 1000→(wi a).n=a:=fun a h=>wi_n (sm (by omega))
 have e0:=w1 k (by omega)
 have e1:=w1 rd (by omega)
 have e2:=w1 ra (by omega)
 have e3:=w1 rb (by omega)
 constructor<;>simp only [e0,e1,e2,e3]<;>omega
end Go.Proofs.YtijckobfnmkjdaaGreatDoor
