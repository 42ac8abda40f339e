/- YtnpgljilkkipkaaGreatEq0: the functions' runs are their trees. No statement of the seat is proved here. -/
import Derived.Test.YtnpgljilkkipkaaGreatTabs
set_option linter.unusedSimpArgs false
set_option linter.unusedVariables false
set_option maxRecDepth 100000
namespace Go.Proofs.YtnpgljilkkipkaaGreat
open Go Go.A2
theorem e1:FnE t0 q0 aa g1 N1 (fun d:Y0=>Ee d.1):=fun d k=>by kernel_rfl
theorem acE:Mo t5 q5 g5 11 [(113,.any)] (mOf g5 11):=bQ (ax _) (m:=Ly) rfl (by kernel_rfl) (by kernel_rfl) (ah (by kernel_rfl) ai) (B:=fun a:Y1=>Jc a.1) (fun a=>by kernel_rfl) (fun a kx=>by kernel_rfl)
theorem acF:Mo t5 q5 g5 15 [] (mOf g5 15):=bQ (ax _) (m:=Lz) rfl (by kernel_rfl) (by kernel_rfl) (ah (by kernel_rfl) ai) (B:=fun a:Unit=>Jd) (fun a=>by kernel_rfl) (fun a kx=>by kernel_rfl)
theorem acJ:Mo t5 q5 g5 9 [(3,.any),(4,.any),(5,.any),(6,.any)] (mOf g5 9):=bQ (ax _) (m:=LD) rfl (by kernel_rfl) (by kernel_rfl) (ah (by kernel_rfl) (ay acE (ay acF ai))) (B:=fun a:Y2=>Af a.1 a.2.1 a.2.2.1 a.2.2.2.1) (fun a=>by kernel_rfl) (fun a kx=>by kernel_rfl)
theorem acI:Mo t5 q5 g5 7 [(1,.any),(3,.any),(4,.any),(5,.any)] (mOf g5 7):=bQ (ax _) (m:=LC) rfl (by kernel_rfl) (by kernel_rfl) (ah (by kernel_rfl) (ay acJ ai)) (B:=fun a:Y3=>Ae a.1 a.2.1 a.2.2.1 a.2.2.2.1) (fun a=>by kernel_rfl) (fun a kx=>by kernel_rfl)
theorem acH:Mo t5 q5 g5 5 [(1,.any),(3,.any),(4,.any)] (mOf g5 5):=bQ (ax _) (m:=LB) rfl (by kernel_rfl) (by kernel_rfl) (ah (by kernel_rfl) (ay acI ai)) (B:=fun a:Y4=>Ad a.1 a.2.1 a.2.2.1) (fun a=>by kernel_rfl) (fun a kx=>by kernel_rfl)
theorem acG:Mo t5 q5 g5 3 [(1,.any),(3,.any)] (mOf g5 3):=bQ (ax _) (m:=LA) rfl (by kernel_rfl) (by kernel_rfl) (ah (by kernel_rfl) (ay acH ai)) (B:=fun a:TConf×Bool×Unit=>Ab a.1 a.2.1) (fun a=>by kernel_rfl) (fun a kx=>by kernel_rfl)
theorem h5:aF t5 q5 aa g5.keep g5.body:=(ah (by kernel_rfl) (ay acG ai))
theorem e5:FnE t5 q5 aa g5 N5 (fun d:Y5=>E9 d.1):=fun d k=>by kernel_rfl
theorem e9:FnE t0 q0 aa g9 N9 (fun d:Y5=>EC d.1):=fun d k=>by kernel_rfl
theorem aaU:Mo t11 Ha nZ 7 [(0,.any),(3,.any),(4,.any)] (.trim [(3,.any)] (.loop (.mark 9 [(0,.any),(3,.any),(4,.any)] (mOf nZ 9)))):=aE (ax _) (m:=JN) rfl (by kernel_rfl) (by kernel_rfl) (fun a=>by kernel_rfl) (ah (by kernel_rfl) ai) (B:=fun a:Y6=>I2 a.1 a.2.1 a.2.2.1) (fun a=>by kernel_rfl) (fun a kn kx=>by kernel_rfl)
theorem Yo:aF t11 Ha aa nZ.keep nZ.body:=(ah (by kernel_rfl) (ay aaU ai))
theorem TG:FnE t11 Ha aa nZ u4 (fun d:Y7=>MO d.1):=fun d k=>by kernel_rfl
theorem T7:FnE t0 q0 aa W7 Bv (fun d:Y6=>MQ d.1 d.2.1 d.2.2.1):=fun d k=>by kernel_rfl
theorem UE:FnE t16 q0 aa Xi vg (fun d:Y5=>ED d.1):=fun d k=>by kernel_rfl
theorem acf:Mo t22 HF oV 11 [(4,.any),(6,.any),(7,.any),(8,.any)] (.trim [(4,.any),(7,.any)] (.loop (.mark 13 [(4,.any),(6,.any),(7,.any),(8,.any)] (mOf oV 13)))):=aE (ax _) (m:=K7) rfl (by kernel_rfl) (by kernel_rfl) (fun a=>by kernel_rfl) (ah (by kernel_rfl) ai) (B:=fun a:Y8=>I4 a.1 a.2.1 a.2.2.1 a.2.2.2.1) (fun a=>by kernel_rfl) (fun a kn kx=>by kernel_rfl)
theorem Zh:aF t22 HF aa oV.keep oV.body:=(ah (by kernel_rfl) (ay acf ai))
theorem U4:FnE t22 HF aa oV Cj (fun d:Y9=>MU d.1 d.2.1):=fun d k=>by kernel_rfl
theorem ach:Mo t28 HH oY 29 [(3,.any),(4,.any),(6,.any),(7,.any)] (.trim [(4,.any),(6,.any)] (.loop (.mark 31 [(3,.any),(4,.any),(6,.any),(7,.any)] (mOf oY 31)))):=aE (ax _) (m:=K9) rfl (by kernel_rfl) (by kernel_rfl) (fun a=>by kernel_rfl) (ah (by kernel_rfl) ai) (B:=fun a:vD=>Je a.1 a.2.1 a.2.2.1 a.2.2.2.1) (fun a=>by kernel_rfl) (fun a kn kx=>by kernel_rfl)
theorem Zj:aF t28 HH aa oY.keep oY.body:=(ah (by kernel_rfl) (ay ach ai))
theorem Va:FnE t28 HH aa oY Cp (fun d:TConf×TMach×Unit=>M7 d.1 d.2.1):=fun d k=>by kernel_rfl
theorem Vd:FnE t0 q0 aa Xy Cs (fun d:Y5=>DV d.1):=fun d k=>by kernel_rfl
theorem Ve:FnE t0 q0 aa Xz Ct (fun d:TBound×Unit=>DS d.1):=fun d k=>by kernel_rfl
theorem Vi:FnE t36 q0 aa XC Cy (fun d:Y0=>D4 d.1):=fun d k=>by kernel_rfl
theorem acw:Mo t45 HM pe 13 [(1,.any),(5,.any),(19,.any),(20,.any),(21,.any)] (.trim [(4,.any)] (.loop (.mark 15 [(1,.any),(5,.any),(19,.any),(20,.any),(21,.any)] (mOf pe 15)))):=aE (ax _) (m:=Ln) rfl (by kernel_rfl) (by kernel_rfl) (fun a=>by kernel_rfl) (ah (by kernel_rfl) ai) (B:=fun a:vL=>qL a.1 a.2.1 a.2.2.1 a.2.2.2.1 a.2.2.2.2.1) (fun a=>by kernel_rfl) (fun a kn kx=>by kernel_rfl)
theorem Zr:aF t45 HM aa pe.keep pe.body:=(ah (by kernel_rfl) (ay acw ai))
theorem Vr:FnE t45 HM aa pe CF (fun d:kI=>Eb d.1 d.2.1):=fun d k=>by kernel_rfl
theorem Vs:FnE t0 q0 aa XG vo (fun d:Ni=>Fo d.1 d.2.1 d.2.2.1 d.2.2.2.1):=fun d k=>by kernel_rfl
theorem Vv:FnE t49 q0 aa XJ CH (fun d:kJ=>Ev d.1 d.2.1):=fun d k=>by kernel_rfl
theorem acz:Mo t52 za js 3 [(0,.any),(1,.any),(2,.any),(3,.any),(4,.any),(5,.any),(6,.any)] (.trim [(0,.any),(2,.any),(3,.any),(4,.any),(5,.any)] (.loop (.mark 5 [(0,.any),(1,.any),(2,.any),(3,.any),(4,.any),(5,.any),(6,.any)] (mOf js 5)))):=aE (ax _) (m:=Ls) rfl (by kernel_rfl) (by kernel_rfl) (fun a=>by kernel_rfl) (ah (by kernel_rfl) ai) (B:=fun a:wx=>rR a.1 a.2.2.1 a.2.2.2.1 a.2.2.2.2.1 a.2.2.2.2.2.1 a.2.2.2.2.2.2.1) (fun a=>by kernel_rfl) (fun a kn kx=>by kernel_rfl)
theorem acy:Mo t52 za js 18 [(0,.any),(2,.any),(3,.any),(4,.any),(5,.any),(7,.any)] (.trim [(0,.any),(2,.any),(3,.any),(4,.any),(5,.any)] (.loop (.mark 20 [(0,.any),(2,.any),(3,.any),(4,.any),(5,.any),(7,.any)] (mOf js 20)))):=aE (ax _) (m:=Lr) rfl (by kernel_rfl) (by kernel_rfl) (fun a=>by kernel_rfl) (ah (by kernel_rfl) ai) (B:=fun a:wF=>rQ a.1 a.2.1 a.2.2.1 a.2.2.2.1 a.2.2.2.2.1 a.2.2.2.2.2.1) (fun a=>by kernel_rfl) (fun a kn kx=>by kernel_rfl)
theorem Zu:aF t52 za aa js.keep js.body:=(ah (by kernel_rfl) (ay acz (ay acy ai)))
theorem Vy:FnE t52 za aa js CL (fun d:Nw=>Fp d.1 d.2.2.1 d.2.2.2.1 d.2.2.2.2.1 d.2.2.2.2.2.1):=fun d k=>by kernel_rfl
theorem acA:Mo t53 zb jt 19 [(3,.any),(4,.any),(5,.any),(6,.any),(7,.any),(8,.any),(9,.any),(41,.any),(44,.any),(45,.any),(46,.any)] (.trim [(3,.any),(4,.any),(5,.any),(6,.any),(7,.any),(8,.any),(9,.any),(41,.any)] (.loop (.mark 21 [(3,.any),(4,.any),(5,.any),(6,.any),(7,.any),(8,.any),(9,.any),(41,.any),(44,.any),(45,.any),(46,.any)] (mOf jt 21)))):=aE (ax _) (m:=Lu) rfl (by kernel_rfl) (by kernel_rfl) (fun a=>by kernel_rfl) (ah (by kernel_rfl) ai) (B:=fun a:wN=>rP a.1 a.2.1 a.2.2.1 a.2.2.2.1 a.2.2.2.2.1 a.2.2.2.2.2.1 a.2.2.2.2.2.2.2.2.1 a.2.2.2.2.2.2.2.2.2.1 a.2.2.2.2.2.2.2.2.2.2.1) (fun a=>by kernel_rfl) (fun a kn kx=>by kernel_rfl)
theorem acB:Mo t53 zb jt 34 [(3,.any),(4,.any),(5,.any),(6,.any),(7,.any),(8,.any),(9,.any),(12,.any),(41,.any)] (.trim [(3,.any),(4,.any),(5,.any),(6,.any),(7,.any),(8,.any),(41,.any)] (.loop (.mark 36 [(3,.any),(4,.any),(5,.any),(6,.any),(7,.any),(8,.any),(9,.any),(12,.any),(41,.any)] (mOf jt 36)))):=aE (ax _) (m:=Lv) rfl (by kernel_rfl) (by kernel_rfl) (fun a=>by kernel_rfl) (ah (by kernel_rfl) ai) (B:=fun a:wP=>Ap a.1 a.2.1 a.2.2.1 a.2.2.2.1 a.2.2.2.2.1 a.2.2.2.2.2.1 a.2.2.2.2.2.2.2.1) (fun a=>by kernel_rfl) (fun a kn kx=>by kernel_rfl)
theorem Zv:aF t53 zb aa jt.keep jt.body:=(ah (by kernel_rfl) (ay acA (ay acB ai)))
theorem Vz:FnE t53 zb aa jt CM (fun d:kK=>Fm d.1 d.2.1 d.2.2.1):=fun d k=>by kernel_rfl
theorem acC:Mo t55 HO pg 5 [(0,.any),(1,.any),(7,.any),(8,.any)] (.trim [(4,.any)] (.loop (.mark 7 [(0,.any),(1,.any),(7,.any),(8,.any)] (mOf pg 7)))):=aE (ax _) (m:=Lw) rfl (by kernel_rfl) (by kernel_rfl) (fun a=>by kernel_rfl) (ah (by kernel_rfl) ai) (B:=fun a:wQ=>sd a.1 a.2.1.2.1 a.2.2.1 a.2.2.2.1) (fun a=>by kernel_rfl) (fun a kn kx=>by kernel_rfl)
theorem Zw:aF t55 HO aa pg.keep pg.body:=(ah (by kernel_rfl) (ay acC ai))
theorem VB:FnE t55 HO aa pg CO (fun d:wR=>FK d.1 d.2.1.2.1):=fun d k=>by kernel_rfl
theorem VD:FnE t57 q0 aa XN CQ (fun d:wS=>D8 d.1 d.2.1):=fun d k=>by kernel_rfl
theorem acD:Mo t58 HP ph 7 [(2,.any),(5,.any),(9,.any),(10,.any),(11,.any)] (.trim [(4,.any)] (.loop (.mark 9 [(2,.any),(5,.any),(9,.any),(10,.any),(11,.any)] (mOf ph 9)))):=aE (ax _) (m:=Lx) rfl (by kernel_rfl) (by kernel_rfl) (fun a=>by kernel_rfl) (ah (by kernel_rfl) ai) (B:=fun a:wT=>qF a.1 a.2.1 a.2.2.1 a.2.2.2.1 a.2.2.2.2.1) (fun a=>by kernel_rfl) (fun a kn kx=>by kernel_rfl)
theorem Zx:aF t58 HP aa ph.keep ph.body:=(ah (by kernel_rfl) (ay acD ai))
theorem VE:FnE t58 HP aa ph CR (fun d:NZ=>DX d.1 d.2.1):=fun d k=>by kernel_rfl
theorem VK:FnE t64 q0 aa XR CX (fun d:wU=>Fw d.1 d.2.1.2.1):=fun d k=>by kernel_rfl
theorem acO:Mo t70 HU pq 11 [(1,.any),(2,.any),(15,.any),(16,.any),(17,.any)] (.trim [(6,.any)] (.loop (.mark 13 [(1,.any),(2,.any),(15,.any),(16,.any),(17,.any)] (mOf pq 13)))):=aE (ax _) (m:=LJ) rfl (by kernel_rfl) (by kernel_rfl) (fun a=>by kernel_rfl) (ah (by kernel_rfl) ai) (B:=fun a:wV=>rZ a.1 a.2.2.1 a.2.2.2.1 a.2.2.2.2.1) (fun a=>by kernel_rfl) (fun a kn kx=>by kernel_rfl)
theorem ZB:aF t70 HU aa pq.keep pq.body:=(ah (by kernel_rfl) (ay acO ai))
theorem VQ:FnE t70 HU aa pq C3 (fun d:N0=>FF d.1 d.2.1):=fun d k=>by kernel_rfl
theorem VV:FnE t0 q0 aa XY C7 (fun d:Y7=>MB d.1):=fun d k=>by kernel_rfl
theorem VX:FnE t77 q0 aa XZ C9 (fun d:TRob×TCore×Unit=>D7 d.1 d.2.1):=fun d k=>by kernel_rfl
theorem VZ:FnE t79 q0 aa X0 Db (fun d:wW=>Fy d.1 d.2.1.2.1):=fun d k=>by kernel_rfl
theorem V5:FnE t0 q0 aa X4 nB (fun d:eB=>DE d.1 d.2.1):=fun d k=>by kernel_rfl
theorem We:FnE t0 q0 aa X9 Dn (fun d:Y7=>Em d.1):=fun d k=>by kernel_rfl
theorem Wf:FnE t95 q0 aa Ya Dp (fun d:Y7=>El d.1):=fun d k=>by kernel_rfl
theorem acZ:Mo t96 H5 pC 5 [(0,.any),(1,.any),(7,.any),(8,.any)] (.trim [(4,.any)] (.loop (.mark 7 [(0,.any),(1,.any),(7,.any),(8,.any)] (mOf pC 7)))):=aE (ax _) (m:=LW) rfl (by kernel_rfl) (by kernel_rfl) (fun a=>by kernel_rfl) (ah (by kernel_rfl) ai) (B:=fun a:wX=>sf a.1 a.2.2.1 a.2.2.2.1) (fun a=>by kernel_rfl) (fun a kn kx=>by kernel_rfl)
theorem ZL:aF t96 H5 aa pC.keep pC.body:=(ah (by kernel_rfl) (ay acZ ai))
theorem Wg:FnE t96 H5 aa pC Dq (fun d:wY=>FN d.1):=fun d k=>by kernel_rfl
theorem TB:FnE t0 q0 aa WR A7 (fun d:wZ=>Mv d.1 d.2.1):=fun d k=>by kernel_rfl
theorem TH:FnE t0 q0 aa WV Bc (fun d:Y7=>MI d.1):=fun d k=>by kernel_rfl
theorem TK:FnE agT q0 aa WX Bf (fun d:cU=>En d.1):=fun d k=>by kernel_rfl
theorem TO:FnE agV q0 aa W1 Bj (fun d:w8=>Ep d.1 d.2.1):=fun d k=>by kernel_rfl
theorem TS:FnE agW q0 aa W2 Bo (fun d:Oa=>DJ d.1 d.2.1):=fun d k=>by kernel_rfl
theorem aaW:Mo qk pV gi 27 [(1,.any),(12,.any),(13,.any),(14,.any),(19,.any),(20,.any),(21,.any),(25,.any),(26,.any),(27,.any)] (.trim [(1,.any),(4,.any),(12,.any),(13,.any),(14,.any),(19,.any),(20,.any),(21,.any)] (.loop (.mark 29 [(1,.any),(12,.any),(13,.any),(14,.any),(19,.any),(20,.any),(21,.any),(25,.any),(26,.any),(27,.any)] (mOf gi 29)))):=aE (ax _) (m:=JP) rfl (by kernel_rfl) (by kernel_rfl) (fun a=>by kernel_rfl) (ah (by kernel_rfl) ai) (B:=fun a:w9=>qB a.1 a.2.1 a.2.2.1 a.2.2.2.1 a.2.2.2.2.1 a.2.2.2.2.2.1 a.2.2.2.2.2.2.1 a.2.2.2.2.2.2.2.1 a.2.2.2.2.2.2.2.2.1 a.2.2.2.2.2.2.2.2.2.1) (fun a=>by kernel_rfl) (fun a kn kx=>by kernel_rfl)
theorem aaV:Mo qk pV gi 16 [(1,.any),(12,.any),(13,.any),(14,.any),(19,.any),(20,.any),(21,.any)] (.trim [(1,.any),(4,.any),(12,.any),(13,.any),(14,.any)] (.loop (.mark 18 [(1,.any),(12,.any),(13,.any),(14,.any),(19,.any),(20,.any),(21,.any)] (mOf gi 18)))):=aE (ax _) (m:=JO) rfl (by kernel_rfl) (by kernel_rfl) (fun a=>by kernel_rfl) (ah (by kernel_rfl) (ay aaW ai)) (B:=fun a:xd=>qA a.1 a.2.1 a.2.2.1 a.2.2.2.1 a.2.2.2.2.1 a.2.2.2.2.2.1 a.2.2.2.2.2.2.1) (fun a=>by kernel_rfl) (fun a kn kx=>by kernel_rfl)
theorem aaX:Mo qk pV gi 5 [(1,.any),(12,.any),(13,.any),(14,.any)] (.trim [(1,.any),(4,.any)] (.loop (.mark 7 [(1,.any),(12,.any),(13,.any),(14,.any)] (mOf gi 7)))):=aE (ax _) (m:=JQ) rfl (by kernel_rfl) (by kernel_rfl) (fun a=>by kernel_rfl) (ah (by kernel_rfl) (ay aaV ai)) (B:=fun a:xe=>qC a.1 a.2.1 a.2.2.1 a.2.2.2.1) (fun a=>by kernel_rfl) (fun a kn kx=>by kernel_rfl)
theorem Yt:aF qk pV aa gi.keep gi.body:=(ah (by kernel_rfl) (ay aaX ai))
theorem TU:FnE qk pV aa gi Bp (fun d:Ob=>DL d.1 d.2.1):=fun d k=>by kernel_rfl
theorem TV:FnE agX q0 aa W3 Bq (fun d:dM=>DI d.1):=fun d k=>by kernel_rfl
theorem aaZ:Mo Iw Hg oh 15 [(5,.any),(50,.any),(51,.any),(52,.any)] (.trim [(5,.any)] (.loop (.mark 17 [(5,.any),(50,.any),(51,.any),(52,.any)] (mOf oh 17)))):=aE (ax _) (m:=JS) rfl (by kernel_rfl) (by kernel_rfl) (fun a=>by kernel_rfl) (ah (by kernel_rfl) ai) (B:=fun a:gM=>qt a.1 a.2.1 a.2.2.1 a.2.2.2.1) (fun a=>by kernel_rfl) (fun a kn kx=>by kernel_rfl)
theorem Yv:aF Iw Hg aa oh.keep oh.body:=(ah (by kernel_rfl) (ay aaZ ai))
theorem T4:FnE Iw Hg aa oh nA (fun d:gN=>Dy d.1 d.2.1):=fun d k=>by kernel_rfl
theorem abh:Mo qm pX gk 22 [(1,.any),(3,.any),(4,.any),(5,.any)] (.trim [(1,.any),(2,.any),(3,.any),(4,.any)] (.loop (.mark 24 [(1,.any),(3,.any),(4,.any),(5,.any)] (mOf gk 24)))):=aE (ax _) (m:=Ka) rfl (by kernel_rfl) (by kernel_rfl) (fun a=>by kernel_rfl) (ah (by kernel_rfl) ai) (B:=fun a:gP=>rF a.1 a.2.1 a.2.2.1 a.2.2.2.1) (fun a=>by kernel_rfl) (fun a kn kx=>by kernel_rfl)
theorem abi:Mo qm pX gk 39 [(1,.any),(3,.any),(4,.any),(6,.any)] (.trim [(1,.any),(2,.any),(3,.any)] (.loop (.mark 41 [(1,.any),(3,.any),(4,.any),(6,.any)] (mOf gk 41)))):=aE (ax _) (m:=Kb) rfl (by kernel_rfl) (by kernel_rfl) (fun a=>by kernel_rfl) (ah (by kernel_rfl) ai) (B:=fun a:gP=>rG a.1 a.2.1 a.2.2.1 a.2.2.2.1) (fun a=>by kernel_rfl) (fun a kn kx=>by kernel_rfl)
theorem abj:Mo qm pX gk 5 [(1,.any),(3,.any)] (.trim [(2,.any)] (.loop (.mark 7 [(1,.any),(3,.any)] (mOf gk 7)))):=aE (ax _) (m:=Kc) rfl (by kernel_rfl) (by kernel_rfl) (fun a=>by kernel_rfl) (ah (by kernel_rfl) (ay abh (ay abi ai))) (B:=fun a:dk=>rH a.1 a.2.1) (fun a=>by kernel_rfl) (fun a kn kx=>by kernel_rfl)
theorem YG:aF qm pX aa gk.keep gk.body:=(ah (by kernel_rfl) (ay abj ai))
theorem Ul:FnE qm pX aa gk BH (fun d:Y0=>Fc d.1):=fun d k=>by kernel_rfl
theorem abk:Mo t0 Hn oC 7 [(1,.any),(2,.any),(5,.any),(6,.any)] (.trim [(5,.any)] (.loop (.mark 9 [(1,.any),(2,.any),(5,.any),(6,.any)] (mOf oC 9)))):=aE (ax _) (m:=Kd) rfl (by kernel_rfl) (by kernel_rfl) (fun a=>by kernel_rfl) (ah (by kernel_rfl) ai) (B:=fun a:xf=>rM a.1 a.2.1 a.2.2.1 a.2.2.2.1) (fun a=>by kernel_rfl) (fun a kn kx=>by kernel_rfl)
theorem YH:aF t0 Hn aa oC.keep oC.body:=(ah (by kernel_rfl) (ay abk ai))
theorem Um:FnE t0 Hn aa oC BI (fun d:dk=>Fi d.1 d.2.1):=fun d k=>by kernel_rfl
theorem abp:Mo IB Hq oF 5 [(1,.any),(3,.any)] (.trim [(2,.any)] (.loop (.mark 7 [(1,.any),(3,.any)] (mOf oF 7)))):=aE (ax _) (m:=Ki) rfl (by kernel_rfl) (by kernel_rfl) (fun a=>by kernel_rfl) (ah (by kernel_rfl) ai) (B:=fun a:dk=>rN a.1 a.2.1) (fun a=>by kernel_rfl) (fun a kn kx=>by kernel_rfl)
theorem YL:aF IB Hq aa oF.keep oF.body:=(ah (by kernel_rfl) (ay abp ai))
theorem Ur:FnE IB Hq aa oF BM (fun d:Y0=>Fj d.1):=fun d k=>by kernel_rfl
theorem abE:Mo t0 yU jl 18 [(5,.any),(6,.any),(7,.any),(8,.any)] (.trim [(5,.any),(6,.any),(7,.any)] (.loop (.mark 20 [(5,.any),(6,.any),(7,.any),(8,.any)] (mOf jl 20)))):=aE (ax _) (m:=Kw) rfl (by kernel_rfl) (by kernel_rfl) (fun a=>by kernel_rfl) (ah (by kernel_rfl) ai) (B:=fun a:xg=>rk a.1 a.2.1 a.2.2.1 a.2.2.2.1) (fun a=>by kernel_rfl) (fun a kn kx=>by kernel_rfl)
theorem abF:Mo t0 yU jl 7 [(5,.any),(6,.any)] (.trim [(4,.any)] (.loop (.mark 9 [(5,.any),(6,.any)] (mOf jl 9)))):=aE (ax _) (m:=Kx) rfl (by kernel_rfl) (by kernel_rfl) (fun a=>by kernel_rfl) (ah (by kernel_rfl) (ay abE ai)) (B:=fun a:xh=>rl a.1 a.2.1) (fun a=>by kernel_rfl) (fun a kn kx=>by kernel_rfl)
theorem YO:aF t0 yU aa jl.keep jl.body:=(ah (by kernel_rfl) (ay abF ai))
theorem Uu:FnE t0 yU aa jl BP (fun d:fw=>EV d.1 d.2.1):=fun d k=>by kernel_rfl
theorem UA:FnE t0 q0 aa Xf BT (fun d:fx=>EX d.1 d.2.1):=fun d k=>by kernel_rfl
theorem abX:Mo zy yW jn 7 [(0,.any),(3,.any),(4,.any)] (.trim [(0,.any),(3,.any)] (.loop (.mark 9 [(0,.any),(3,.any),(4,.any)] (mOf jn 9)))):=aE (ax _) (m:=KP) rfl (by kernel_rfl) (by kernel_rfl) (fun a=>by kernel_rfl) (ah (by kernel_rfl) ai) (B:=fun a:gQ=>qS a.1 a.2.1 a.2.2.1) (fun a=>by kernel_rfl) (fun a kn kx=>by kernel_rfl)
theorem abW:Mo zy yW jn 20 [(0,.any),(3,.any),(5,.any)] (.trim [(3,.any)] (.loop (.mark 22 [(0,.any),(3,.any),(5,.any)] (mOf jn 22)))):=aE (ax _) (m:=KO) rfl (by kernel_rfl) (by kernel_rfl) (fun a=>by kernel_rfl) (ah (by kernel_rfl) ai) (B:=fun a:gQ=>jS a.1 a.2.1 a.2.2.1) (fun a=>by kernel_rfl) (fun a kn kx=>by kernel_rfl)
theorem YY:aF zy yW aa jn.keep jn.body:=(ah (by kernel_rfl) (ay abX (ay abW ai)))
theorem UO:FnE zy yW aa jn B6 (fun d:cU=>EB d.1):=fun d k=>by kernel_rfl
theorem UQ:FnE t0 q0 aa Xo B8 (fun d:Y9=>EF d.1 d.2.1):=fun d k=>by kernel_rfl
theorem aca:Mo II HB oQ 15 [(3,.any),(4,.any),(5,.any)] (.trim [(3,.any)] (.loop (.mark 17 [(3,.any),(4,.any),(5,.any)] (mOf oQ 17)))):=aE (ax _) (m:=K3) rfl (by kernel_rfl) (by kernel_rfl) (fun a=>by kernel_rfl) (ah (by kernel_rfl) ai) (B:=fun a:gR=>Jf a.1 a.2.1 a.2.2.1) (fun a=>by kernel_rfl) (fun a kn kx=>by kernel_rfl)
theorem Zd:aF II HB aa oQ.keep oQ.body:=(ah (by kernel_rfl) (ay aca ai))
theorem UY:FnE II HB aa oQ Cd (fun d:kL=>M9 d.1):=fun d k=>by kernel_rfl
end Go.Proofs.YtnpgljilkkipkaaGreat
