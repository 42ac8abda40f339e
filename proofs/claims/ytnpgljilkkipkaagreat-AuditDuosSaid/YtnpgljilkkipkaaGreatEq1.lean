/- YtnpgljilkkipkaaGreatEq1: the functions' runs are their trees. No statement of the seat is proved here. -/
import Derived.Test.YtnpgljilkkipkaaGreatTabs
set_option linter.unusedSimpArgs false
set_option linter.unusedVariables false
set_option maxRecDepth 100000
namespace Go.Proofs.YtnpgljilkkipkaaGreat
open Go Go.A2
theorem acu:Mo t2 q2 g2 26 [(3,.any),(5,.any),(6,.any)] (.trim [(3,.any),(4,.any),(5,.any)] (.loop (.mark 28 [(3,.any),(5,.any),(6,.any)] (mOf g2 28)))):=aE (ax _) (m:=Ll) rfl (by kernel_rfl) (by kernel_rfl) (fun a=>by kernel_rfl) (ah (by kernel_rfl) ai) (B:=fun a:gV=>qX a.1 a.2.1 a.2.2.1) (fun a=>by kernel_rfl) (fun a kn kx=>by kernel_rfl)
theorem acs:Mo t2 q2 g2 11 [(3,.any),(5,.any)] (.trim [(4,.any)] (.loop (.mark 13 [(3,.any),(5,.any)] (mOf g2 13)))):=aE (ax _) (m:=Lk) rfl (by kernel_rfl) (by kernel_rfl) (fun a=>by kernel_rfl) (ah (by kernel_rfl) (ay acu ai)) (B:=fun a:fx=>qW a.1 a.2.1) (fun a=>by kernel_rfl) (fun a kn kx=>by kernel_rfl)
theorem h2:aF t2 q2 aa g2.keep g2.body:=(ah (by kernel_rfl) (ay acs ai))
theorem e2:FnE t2 q2 aa g2 N2 (fun d:gQ=>Es d.1 d.2.1):=fun d k=>by kernel_rfl
theorem e7:FnE t0 q0 aa g7 N7 (fun d:Y7=>MM d.1):=fun d k=>by kernel_rfl
theorem TB:FnE t0 q0 aa WT Bb (fun d:Y7=>MP d.1):=fun d k=>by kernel_rfl
theorem abS:Mo t0 HD oO 7 [(0,.any),(3,.any),(4,.any)] (.trim [(3,.any)] (.loop (.mark 9 [(0,.any),(3,.any),(4,.any)] (mOf oO 9)))):=aE (ax _) (m:=KK) rfl (by kernel_rfl) (by kernel_rfl) (fun a=>by kernel_rfl) (ah (by kernel_rfl) ai) (B:=fun a:xz=>Jc a.1 a.2.1 a.2.2.1) (fun a=>by kernel_rfl) (fun a kn kx=>by kernel_rfl)
theorem YT:aF t0 HD aa oO.keep oO.body:=(ah (by kernel_rfl) (ay abS ai))
theorem Uz:FnE t0 HD aa oO BZ (fun d:Y7=>MT d.1):=fun d k=>by kernel_rfl
theorem UW:FnE t0 q0 aa Xt Ch (fun d:Y6=>MV d.1 d.2.1 d.2.2.1):=fun d k=>by kernel_rfl
theorem U6:FnE t18 q0 aa Xx Cq (fun d:Y7=>MU d.1):=fun d k=>by kernel_rfl
theorem Ve:FnE t0 q0 aa XB vA (fun d:gW=>M4 d.1 d.2.1):=fun d k=>by kernel_rfl
theorem acq:Mo t0 zk jq 18 [(0,.any),(1,.any),(4,.any),(5,.any),(6,.any),(7,.own),(8,.any)] (.trim [(0,.any),(1,.any),(4,.any),(5,.any),(6,.any),(7,.any)] (.loop (.mark 20 [(0,.any),(1,.any),(4,.any),(5,.any),(6,.any),(7,.own),(8,.any)] (mOf jq 20)))):=aE (ax _) (m:=Li) rfl (by kernel_rfl) (by kernel_rfl) (fun a=>by kernel_rfl) (ah (by kernel_rfl) ai) (B:=fun a:xB=>Ji a.1 a.2.1 a.2.2.1 a.2.2.2.1 a.2.2.2.2.1 a.2.2.2.2.2.1 a.2.2.2.2.2.2.1) (fun a=>by kernel_rfl) (fun a kn kx=>by kernel_rfl)
theorem acr:Mo t0 zk jq 7 [(0,.any),(1,.any),(4,.any),(5,.any),(6,.any)] (.trim [(4,.any),(5,.any)] (.loop (.mark 9 [(0,.any),(1,.any),(4,.any),(5,.any),(6,.any)] (mOf jq 9)))):=aE (ax _) (m:=Lj) rfl (by kernel_rfl) (by kernel_rfl) (fun a=>by kernel_rfl) (ah (by kernel_rfl) (ay acq ai)) (B:=fun a:xC=>Jj a.1 a.2.1 a.2.2.1 a.2.2.2.1 a.2.2.2.2.1) (fun a=>by kernel_rfl) (fun a kn kx=>by kernel_rfl)
theorem Zq:aF t0 zk aa jq.keep jq.body:=(ah (by kernel_rfl) (ay acr ai))
theorem Vh:FnE t0 zk aa jq CB (fun d:Y9=>M7 d.1 d.2.1):=fun d k=>by kernel_rfl
theorem Vm:FnE t34 q0 aa XG CG (fun d:xD=>FN d.1):=fun d k=>by kernel_rfl
theorem Vn:FnE t35 q0 aa XH CH (fun d:Y5=>D4 d.1):=fun d k=>by kernel_rfl
theorem acC:Mo t44 HX po 15 [(1,.any),(3,.any),(4,.own),(12,.any),(13,.any)] (.trim [(4,.any)] (.loop (.mark 17 [(1,.any),(3,.any),(4,.own),(12,.any),(13,.any)] (mOf po 17)))):=aE (ax _) (m:=Lw) rfl (by kernel_rfl) (by kernel_rfl) (fun a=>by kernel_rfl) (ah (by kernel_rfl) ai) (B:=fun a:xE=>qT a.1 a.2.1.1.1 a.2.2.1 a.2.2.2.1 a.2.2.2.2.1) (fun a=>by kernel_rfl) (fun a kn kx=>by kernel_rfl)
theorem Zx:aF t44 HX aa po.keep po.body:=(ah (by kernel_rfl) (ay acC ai))
theorem Vw:FnE t44 HX aa po vD (fun d:gX=>El d.1):=fun d k=>by kernel_rfl
theorem VC:FnE t50 q0 aa XQ CT (fun d:Od=>EI d.1 d.2.1 d.2.2.1):=fun d k=>by kernel_rfl
theorem acE:Mo t51 HZ pr 7 [(2,.any),(5,.any),(6,.any),(11,.any),(12,.any),(13,.any)] (.trim [(2,.any),(4,.any),(5,.any)] (.loop (.mark 9 [(2,.any),(5,.any),(6,.any),(11,.any),(12,.any),(13,.any)] (mOf pr 9)))):=aE (ax _) (m:=Ly) rfl (by kernel_rfl) (by kernel_rfl) (fun a=>by kernel_rfl) (ah (by kernel_rfl) ai) (B:=fun a:xF=>sf a.1 a.2.1 a.2.2.1 a.2.2.2.1 a.2.2.2.2.1 a.2.2.2.2.2.1) (fun a=>by kernel_rfl) (fun a kn kx=>by kernel_rfl)
theorem Zz:aF t51 HZ aa pr.keep pr.body:=(ah (by kernel_rfl) (ay acE ai))
theorem VD:FnE t51 HZ aa pr CU (fun d:Oe=>FE d.1 d.2.1):=fun d k=>by kernel_rfl
theorem VL:FnE t0 q0 aa XU C2 (fun d:TRen×TRen×Unit=>MA d.1 d.2.1):=fun d k=>by kernel_rfl
theorem acR:Mo t60 H3 pw 5 [(0,.any),(1,.any),(7,.any),(8,.any)] (.trim [(4,.any)] (.loop (.mark 7 [(0,.any),(1,.any),(7,.any),(8,.any)] (mOf pw 7)))):=aE (ax _) (m:=LN) rfl (by kernel_rfl) (by kernel_rfl) (fun a=>by kernel_rfl) (ah (by kernel_rfl) ai) (B:=fun a:xG=>sr a.1 a.2.1.2.1 a.2.2.1 a.2.2.2.1) (fun a=>by kernel_rfl) (fun a kn kx=>by kernel_rfl)
theorem ZE:aF t60 H3 aa pw.keep pw.body:=(ah (by kernel_rfl) (ay acR ai))
theorem VM:FnE t60 H3 aa pw C3 (fun d:xH=>FV d.1 d.2.1.2.1):=fun d k=>by kernel_rfl
theorem VR:FnE t65 q0 aa XY C8 (fun d:xI=>D6 d.1 d.2.1):=fun d k=>by kernel_rfl
theorem acU:Mo t68 H6 pz 11 [(1,.any),(2,.any),(15,.any),(16,.any),(17,.any)] (.trim [(6,.any)] (.loop (.mark 13 [(1,.any),(2,.any),(15,.any),(16,.any),(17,.any)] (mOf pz 13)))):=aE (ax _) (m:=LQ) rfl (by kernel_rfl) (by kernel_rfl) (fun a=>by kernel_rfl) (ah (by kernel_rfl) ai) (B:=fun a:xJ=>sn a.1 a.2.2.1 a.2.2.2.1 a.2.2.2.2.1) (fun a=>by kernel_rfl) (fun a kn kx=>by kernel_rfl)
theorem ZG:aF t68 H6 aa pz.keep pz.body:=(ah (by kernel_rfl) (ay acU ai))
theorem VU:FnE t68 H6 aa pz Db (fun d:Of=>FQ d.1 d.2.1):=fun d k=>by kernel_rfl
theorem VY:FnE t0 q0 aa X2 Df (fun d:gW=>EF d.1 d.2.1):=fun d k=>by kernel_rfl
theorem acY:Mo t78 Ia pD 5 [(0,.any),(1,.any),(7,.any),(8,.any)] (.trim [(4,.any)] (.loop (.mark 7 [(0,.any),(1,.any),(7,.any),(8,.any)] (mOf pD 7)))):=aE (ax _) (m:=LV) rfl (by kernel_rfl) (by kernel_rfl) (fun a=>by kernel_rfl) (ah (by kernel_rfl) ai) (B:=fun a:xK=>su a.1 a.2.1.2.1 a.2.2.1 a.2.2.2.1) (fun a=>by kernel_rfl) (fun a kn kx=>by kernel_rfl)
theorem ZK:aF t78 Ia aa pD.keep pD.body:=(ah (by kernel_rfl) (ay acY ai))
theorem V4:FnE t78 Ia aa pD Dk (fun d:xl=>FW d.1 d.2.1.2.1):=fun d k=>by kernel_rfl
theorem V6:FnE t80 q0 aa X7 Dm (fun d:Y0=>Eh d.1):=fun d k=>by kernel_rfl
theorem acZ:Mo t81 Ib pE 15 [(5,.own),(55,.any),(56,.any),(57,.any)] (.trim [(5,.any)] (.loop (.mark 17 [(5,.own),(55,.any),(56,.any),(57,.any)] (mOf pE 17)))):=aE (ax _) (m:=LW) rfl (by kernel_rfl) (by kernel_rfl) (fun a=>by kernel_rfl) (ah (by kernel_rfl) ai) (B:=fun a:gP=>I8 a.1 a.2.1 a.2.2.1 a.2.2.2.1) (fun a=>by kernel_rfl) (fun a kn kx=>by kernel_rfl)
theorem ZL:aF t81 Ib aa pE.keep pE.body:=(ah (by kernel_rfl) (ay acZ ai))
theorem V7:FnE t81 Ib aa pE Dn (fun d:Y0=>D3 d.1):=fun d k=>by kernel_rfl
theorem Wa:FnE t0 q0 aa X9 Dr (fun d:cV=>Ev d.1):=fun d k=>by kernel_rfl
theorem Wc:FnE t86 q0 aa Yb Ds (fun d:eB=>DR d.1 d.2.1):=fun d k=>by kernel_rfl
theorem ac4:Mo t91 Ih pI 11 [(1,.any),(16,.any),(17,.any)] (.trim [(2,.any)] (.loop (.mark 13 [(1,.any),(16,.any),(17,.any)] (mOf pI 13)))):=aE (ax _) (m:=L1) rfl (by kernel_rfl) (by kernel_rfl) (fun a=>by kernel_rfl) (ah (by kernel_rfl) ai) (B:=fun a:xL=>qD a.1 a.2.1 a.2.2.1) (fun a=>by kernel_rfl) (fun a kn kx=>by kernel_rfl)
theorem ZP:aF t91 Ih aa pI.keep pI.body:=(ah (by kernel_rfl) (ay ac4 ai))
theorem Wh:FnE t91 Ih aa pI Dw (fun d:xM=>DN d.1):=fun d k=>by kernel_rfl
theorem Wn:FnE t97 q0 aa Yh DC (fun d:xo=>FO d.1):=fun d k=>by kernel_rfl
theorem TC:FnE agV q0 aa WU Bc (fun d:TCoh×TWay×Unit=>DY d.1 d.2.1):=fun d k=>by kernel_rfl
theorem TI:FnE agX q0 aa WY Bi (fun d:xp=>Mw d.1 d.2.1):=fun d k=>by kernel_rfl
theorem TO:FnE agZ q0 aa W2 Bo (fun d:Y5=>EA d.1):=fun d k=>by kernel_rfl
theorem TU:FnE t0 q0 aa W6 Bu (fun d:Y9=>EC d.1 d.2.1):=fun d k=>by kernel_rfl
theorem aa0:Mo t0 Hq oB 7 [(3,.any),(6,.any),(7,.any),(8,.any)] (.trim [(2,.any)] (.loop (.mark 9 [(3,.any),(6,.any),(7,.any),(8,.any)] (mOf oB 9)))):=aE (ax _) (m:=JT) rfl (by kernel_rfl) (by kernel_rfl) (fun a=>by kernel_rfl) (ah (by kernel_rfl) ai) (B:=fun a:xN=>sB a.1 a.2.1 a.2.2.1 a.2.2.2.1) (fun a=>by kernel_rfl) (fun a kn kx=>by kernel_rfl)
theorem Yy:aF t0 Hq aa oB.keep oB.body:=(ah (by kernel_rfl) (ay aa0 ai))
theorem TX:FnE t0 Hq aa oB Bx (fun d:xO=>F6 d.1):=fun d k=>by kernel_rfl
theorem T7:FnE t0 q0 aa Xa BD (fun d:W .u32×W .i64×Unit=>DK d.1 d.2.1):=fun d k=>by kernel_rfl
theorem aa8:Mo zE za jg 24 [(1,.any),(3,.own),(4,.any),(21,.any),(22,.any),(23,.any),(31,.any),(32,.any),(33,.any)] (.trim [(1,.any),(3,.any),(21,.any),(22,.any),(23,.any)] (.loop (.mark 26 [(1,.any),(3,.own),(4,.any),(21,.any),(22,.any),(23,.any),(31,.any),(32,.any),(33,.any)] (mOf jg 26)))):=aE (ax _) (m:=J1) rfl (by kernel_rfl) (by kernel_rfl) (fun a=>by kernel_rfl) (ah (by kernel_rfl) ai) (B:=fun a:xP=>qC a.1 a.2.1 a.2.2.1 a.2.2.2.1 a.2.2.2.2.1 a.2.2.2.2.2.1 a.2.2.2.2.2.2.1 a.2.2.2.2.2.2.2.1 a.2.2.2.2.2.2.2.2.1) (fun a=>by kernel_rfl) (fun a kn kx=>by kernel_rfl)
theorem aa7:Mo zE za jg 13 [(1,.any),(3,.own),(21,.any),(22,.any),(23,.any)] (.trim [(3,.own)] (.loop (.mark 15 [(1,.any),(3,.own),(21,.any),(22,.any),(23,.any)] (mOf jg 15)))):=aE (ax _) (m:=J0) rfl (by kernel_rfl) (by kernel_rfl) (fun a=>by kernel_rfl) (ah (by kernel_rfl) (ay aa8 ai)) (B:=fun a:kN=>lO a.1 a.2.1 a.2.2.1 a.2.2.2.1 a.2.2.2.2.1) (fun a=>by kernel_rfl) (fun a kn kx=>by kernel_rfl)
theorem YC:aF zE za aa jg.keep jg.body:=(ah (by kernel_rfl) (ay aa7 ai))
theorem Ub:FnE zE za aa jg vl (fun d:kM=>DJ d.1):=fun d k=>by kernel_rfl
theorem aba:Mo t0 Hu oF 5 [(0,.any),(3,.any)] (.trim [(0,.any),(2,.any)] (.loop (.mark 7 [(0,.any),(3,.any)] (mOf oF 7)))):=aE (ax _) (m:=J3) rfl (by kernel_rfl) (by kernel_rfl) (fun a=>by kernel_rfl) (ah (by kernel_rfl) ai) (B:=fun a:xQ=>lP a.1 a.2.1) (fun a=>by kernel_rfl) (fun a kn kx=>by kernel_rfl)
theorem YD:aF t0 Hu aa oF.keep oF.body:=(ah (by kernel_rfl) (ay aba ai))
theorem Uf:FnE t0 Hu aa oF BI (fun d:xR=>E0 d.1):=fun d k=>by kernel_rfl
theorem abc:Mo t0 zb jh 26 [(1,.any),(2,.any),(5,.any),(6,.any)] (.trim [(1,.any),(2,.any),(4,.any),(5,.any)] (.loop (.mark 28 [(1,.any),(2,.any),(5,.any),(6,.any)] (mOf jh 28)))):=aE (ax _) (m:=J5) rfl (by kernel_rfl) (by kernel_rfl) (fun a=>by kernel_rfl) (ah (by kernel_rfl) ai) (B:=fun a:gY=>rk a.1 a.2.1 a.2.2.1 a.2.2.2.1) (fun a=>by kernel_rfl) (fun a kn kx=>by kernel_rfl)
theorem abb:Mo t0 zb jh 11 [(1,.any),(2,.any),(5,.any)] (.trim [(4,.any)] (.loop (.mark 13 [(1,.any),(2,.any),(5,.any)] (mOf jh 13)))):=aE (ax _) (m:=J4) rfl (by kernel_rfl) (by kernel_rfl) (fun a=>by kernel_rfl) (ah (by kernel_rfl) (ay abc ai)) (B:=fun a:gZ=>z9 a.1 a.2.1 a.2.2.1) (fun a=>by kernel_rfl) (fun a kn kx=>by kernel_rfl)
theorem YE:aF t0 zb aa jh.keep jh.body:=(ah (by kernel_rfl) (ay abb ai))
theorem Ug:FnE t0 zb aa jh BJ (fun d:kK=>EV d.1 d.2.1):=fun d k=>by kernel_rfl
theorem abj:Mo qv qd gk 7 [(1,.any),(2,.any),(3,.any),(7,.any),(8,.any)] (.trim [(1,.any),(2,.any),(7,.any)] (.loop (.mark 9 [(1,.any),(2,.any),(3,.any),(7,.any),(8,.any)] (mOf gk 9)))):=aE (ax _) (m:=Kc) rfl (by kernel_rfl) (by kernel_rfl) (fun a=>by kernel_rfl) (ah (by kernel_rfl) ai) (B:=fun a:xS=>Aa a.1 a.2.1 a.2.2.1 a.2.2.2.1 a.2.2.2.2.1) (fun a=>by kernel_rfl) (fun a kn kx=>by kernel_rfl)
theorem abh:Mo qv qd gk 20 [(1,.any),(2,.any),(7,.any),(9,.any)] (.trim [(1,.any),(7,.any)] (.loop (.mark 22 [(1,.any),(2,.any),(7,.any),(9,.any)] (mOf gk 22)))):=aE (ax _) (m:=Ka) rfl (by kernel_rfl) (by kernel_rfl) (fun a=>by kernel_rfl) (ah (by kernel_rfl) ai) (B:=fun a:xT=>rm a.1 a.2.1 a.2.2.1 a.2.2.2.1) (fun a=>by kernel_rfl) (fun a kn kx=>by kernel_rfl)
theorem abi:Mo qv qd gk 35 [(1,.any),(7,.any),(10,.any)] (.trim [(1,.any),(6,.any),(7,.any)] (.loop (.mark 37 [(1,.any),(7,.any),(10,.any)] (mOf gk 37)))):=aE (ax _) (m:=Kb) rfl (by kernel_rfl) (by kernel_rfl) (fun a=>by kernel_rfl) (ah (by kernel_rfl) ai) (B:=fun a:hE=>rn a.1 a.2.1 a.2.2.1) (fun a=>by kernel_rfl) (fun a kn kx=>by kernel_rfl)
theorem YI:aF qv qd aa gk.keep gk.body:=(ah (by kernel_rfl) (ay abj (ay abh (ay abi ai))))
theorem Um:FnE qv qd aa gk BN (fun d:kL=>EY d.1 d.2.1 d.2.2.1):=fun d k=>by kernel_rfl
theorem Uu:FnE ag7 q0 aa Xi vr (fun d:gW=>MZ d.1 d.2.1):=fun d k=>by kernel_rfl
theorem abz:Mo dI dD bH 20 [(1,.any),(3,.any),(4,.any),(5,.any)] (mOf bH 20):=bR (ax _) (m:=Kr) rfl (by kernel_rfl) (by kernel_rfl) (ah (by kernel_rfl) ai) (B:=fun a:hH=>Ab a.1 a.2.1 a.2.2.1 a.2.2.2.1) (fun a=>by kernel_rfl) (fun a kx=>by kernel_rfl)
theorem aby:Mo dI dD bH 15 [(1,.any),(3,.any),(4,.any),(5,.any)] (.trim [(1,.any),(3,.any),(4,.any)] (.loop (.mark 17 [(1,.any),(3,.any),(4,.any),(5,.any)] (mOf bH 17)))):=aE (ax _) (m:=Kq) rfl (by kernel_rfl) (by kernel_rfl) (fun a=>by kernel_rfl) (ah (by kernel_rfl) (ay abz ai)) (B:=fun a:hH=>rO a.1 a.2.1 a.2.2.1 a.2.2.2.1) (fun a=>by kernel_rfl) (fun a kn kx=>by kernel_rfl)
theorem abB:Mo dI dD bH 26 [(1,.any),(3,.any),(4,.any),(53,.any)] (mOf bH 26):=bR (ax _) (m:=Kt) rfl (by kernel_rfl) (by kernel_rfl) (ah (by kernel_rfl) ai) (B:=fun a:Og=>Ae a.1 a.2.1 a.2.2.1 a.2.2.2.1) (fun a=>by kernel_rfl) (fun a kx=>by kernel_rfl)
theorem abJ:Mo dI dD bH 56 [(3,.any)] (mOf bH 56):=bR (ax _) (m:=KB) rfl (by kernel_rfl) (by kernel_rfl) (ah (by kernel_rfl) ai) (B:=fun a:cq=>Jk a.1) (fun a=>by kernel_rfl) (fun a kx=>by kernel_rfl)
theorem abI:Mo dI dD bH 52 [(1,.any),(3,.any)] (mOf bH 52):=bR (ax _) (m:=KA) rfl (by kernel_rfl) (by kernel_rfl) (ah (by kernel_rfl) (ay abJ ai)) (B:=fun a:cH=>Al a.1 a.2.1) (fun a=>by kernel_rfl) (fun a kx=>by kernel_rfl)
theorem abH:Mo dI dD bH 48 [(1,.any),(3,.any)] (mOf bH 48):=bR (ax _) (m:=Kz) rfl (by kernel_rfl) (by kernel_rfl) (ah (by kernel_rfl) (ay abI ai)) (B:=fun a:cH=>Ak a.1 a.2.1) (fun a=>by kernel_rfl) (fun a kx=>by kernel_rfl)
theorem abG:Mo dI dD bH 44 [(1,.any),(3,.any)] (mOf bH 44):=bR (ax _) (m:=Ky) rfl (by kernel_rfl) (by kernel_rfl) (ah (by kernel_rfl) (ay abH ai)) (B:=fun a:cH=>Aj a.1 a.2.1) (fun a=>by kernel_rfl) (fun a kx=>by kernel_rfl)
theorem abF:Mo dI dD bH 40 [(1,.any),(3,.any)] (mOf bH 40):=bR (ax _) (m:=Kx) rfl (by kernel_rfl) (by kernel_rfl) (ah (by kernel_rfl) (ay abG ai)) (B:=fun a:cH=>Ai a.1 a.2.1) (fun a=>by kernel_rfl) (fun a kx=>by kernel_rfl)
theorem abE:Mo dI dD bH 36 [(1,.any),(3,.any)] (mOf bH 36):=bR (ax _) (m:=Kw) rfl (by kernel_rfl) (by kernel_rfl) (ah (by kernel_rfl) (ay abF ai)) (B:=fun a:cH=>Ah a.1 a.2.1) (fun a=>by kernel_rfl) (fun a kx=>by kernel_rfl)
theorem abD:Mo dI dD bH 32 [(1,.any),(3,.any)] (mOf bH 32):=bR (ax _) (m:=Kv) rfl (by kernel_rfl) (by kernel_rfl) (ah (by kernel_rfl) (ay abE ai)) (B:=fun a:cH=>Ag a.1 a.2.1) (fun a=>by kernel_rfl) (fun a kx=>by kernel_rfl)
theorem abC:Mo dI dD bH 28 [(1,.any),(3,.any),(4,.any)] (mOf bH 28):=bR (ax _) (m:=Ku) rfl (by kernel_rfl) (by kernel_rfl) (ah (by kernel_rfl) (ay abD ai)) (B:=fun a:hJ=>Af a.1 a.2.1 a.2.2.1) (fun a=>by kernel_rfl) (fun a kx=>by kernel_rfl)
theorem abA:Mo dI dD bH 24 [(1,.any),(3,.any),(4,.any)] (mOf bH 24):=bR (ax _) (m:=Ks) rfl (by kernel_rfl) (by kernel_rfl) (ah (by kernel_rfl) (ay abB (ay abC ai))) (B:=fun a:hJ=>Ad a.1 a.2.1 a.2.2.1) (fun a=>by kernel_rfl) (fun a kx=>by kernel_rfl)
theorem abK:Mo dI dD bH 7 [(1,.any)] (mOf bH 7):=bR (ax _) (m:=KC) rfl (by kernel_rfl) (by kernel_rfl) (ah (by kernel_rfl) (ay aby (ay abA ai))) (B:=fun a:Y0=>Am a.1) (fun a=>by kernel_rfl) (fun a kx=>by kernel_rfl)
theorem YS:aF dI dD aa bH.keep bH.body:=(ah (by kernel_rfl) (ay abK ai))
theorem Uy:FnE dI dD aa bH BX (fun d:Y0=>Fl d.1):=fun d k=>by kernel_rfl
theorem UE:FnE t0 q0 aa Xk vu (fun d:kO=>E9 d.1 d.2.1):=fun d k=>by kernel_rfl
theorem UI:FnE ag8 q0 aa Xm B6 (fun d:eB=>Fi d.1 d.2.1):=fun d k=>by kernel_rfl
theorem UN:FnE aha q0 aa Xp Ca (fun d:dM=>Fj d.1):=fun d k=>by kernel_rfl
theorem ab0:Mo qx qf gn 25 [(1,.any),(3,.any),(4,.any),(5,.any),(6,.any)] (.trim [(1,.any),(3,.any),(4,.any),(5,.any)] (.loop (.mark 27 [(1,.any),(3,.any),(4,.any),(5,.any),(6,.any)] (mOf gn 27)))):=aE (ax _) (m:=KS) rfl (by kernel_rfl) (by kernel_rfl) (fun a=>by kernel_rfl) (ah (by kernel_rfl) ai) (B:=fun a:xU=>rK a.1 a.2.1 a.2.2.1 a.2.2.2.1 a.2.2.2.2.1) (fun a=>by kernel_rfl) (fun a kn kx=>by kernel_rfl)
theorem abZ:Mo qx qf gn 16 [(1,.any),(3,.any),(4,.any),(5,.any)] (.trim [(1,.any),(3,.any),(4,.any)] (.loop (.mark 18 [(1,.any),(3,.any),(4,.any),(5,.any)] (mOf gn 18)))):=aE (ax _) (m:=KR) rfl (by kernel_rfl) (by kernel_rfl) (fun a=>by kernel_rfl) (ah (by kernel_rfl) (ay ab0 ai)) (B:=fun a:kP=>rJ a.1 a.2.1 a.2.2.1 a.2.2.2.1) (fun a=>by kernel_rfl) (fun a kn kx=>by kernel_rfl)
theorem ab1:Mo qx qf gn 7 [(1,.any),(3,.any),(4,.any)] (.trim [(3,.any)] (.loop (.mark 9 [(1,.any),(3,.any),(4,.any)] (mOf gn 9)))):=aE (ax _) (m:=KT) rfl (by kernel_rfl) (by kernel_rfl) (fun a=>by kernel_rfl) (ah (by kernel_rfl) (ay abZ ai)) (B:=fun a:kQ=>rL a.1 a.2.1 a.2.2.1) (fun a=>by kernel_rfl) (fun a kn kx=>by kernel_rfl)
theorem Zc:aF qx qf aa gn.keep gn.body:=(ah (by kernel_rfl) (ay ab1 ai))
theorem UQ:FnE qx qf aa gn Cc (fun d:dM=>Fe d.1):=fun d k=>by kernel_rfl
theorem ab2:Mo IY HJ oV 11 [(0,.any),(1,.any),(5,.any)] (.trim [(4,.any)] (.loop (.mark 13 [(0,.any),(1,.any),(5,.any)] (mOf oV 13)))):=aE (ax _) (m:=KU) rfl (by kernel_rfl) (by kernel_rfl) (fun a=>by kernel_rfl) (ah (by kernel_rfl) ai) (B:=fun a:xV=>ry a.1 a.2.1 a.2.2.1) (fun a=>by kernel_rfl) (fun a kn kx=>by kernel_rfl)
theorem Zd:aF IY HJ aa oV.keep oV.body:=(ah (by kernel_rfl) (ay ab2 ai))
theorem UT:FnE IY HJ aa oV Cf (fun d:xW=>E3 d.1 d.2.1):=fun d k=>by kernel_rfl
theorem UY:FnE ahc q0 aa Xv Cj (fun d:xq=>EP d.1 d.2.1):=fun d k=>by kernel_rfl
theorem U3:FnE ahd q0 aa Xw Cn (fun d:gQ=>MG d.1 d.2.1):=fun d k=>by kernel_rfl
end Go.Proofs.YtnpgljilkkipkaaGreat
