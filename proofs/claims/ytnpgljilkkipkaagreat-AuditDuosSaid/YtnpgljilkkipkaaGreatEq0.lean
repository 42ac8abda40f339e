/- YtnpgljilkkipkaaGreatEq0: the functions' runs are their trees. No statement of the seat is proved here. -/
import Derived.Test.YtnpgljilkkipkaaGreatTabs
set_option linter.unusedSimpArgs false
set_option linter.unusedVariables false
set_option maxRecDepth 100000
namespace Go.Proofs.YtnpgljilkkipkaaGreat
open Go Go.A2
theorem e1:FnE t0 q0 aa g1 N1 (fun d:Y0=>Ep d.1):=fun d k=>by kernel_rfl
theorem acL:Mo t5 q5 g5 11 [(113,.any)] (mOf g5 11):=bR (ax _) (m:=LG) rfl (by kernel_rfl) (by kernel_rfl) (ah (by kernel_rfl) ai) (B:=fun a:Y1=>Jl a.1) (fun a=>by kernel_rfl) (fun a kx=>by kernel_rfl)
theorem acM:Mo t5 q5 g5 15 [] (mOf g5 15):=bR (ax _) (m:=LH) rfl (by kernel_rfl) (by kernel_rfl) (ah (by kernel_rfl) ai) (B:=fun a:Unit=>Jm) (fun a=>by kernel_rfl) (fun a kx=>by kernel_rfl)
theorem acQ:Mo t5 q5 g5 9 [(3,.any),(4,.any),(5,.any),(6,.any)] (mOf g5 9):=bR (ax _) (m:=LM) rfl (by kernel_rfl) (by kernel_rfl) (ah (by kernel_rfl) (ay acL (ay acM ai))) (B:=fun a:Y2=>Aq a.1 a.2.1 a.2.2.1 a.2.2.2.1) (fun a=>by kernel_rfl) (fun a kx=>by kernel_rfl)
theorem acP:Mo t5 q5 g5 7 [(1,.any),(3,.any),(4,.any),(5,.any)] (mOf g5 7):=bR (ax _) (m:=LL) rfl (by kernel_rfl) (by kernel_rfl) (ah (by kernel_rfl) (ay acQ ai)) (B:=fun a:Y3=>Ap a.1 a.2.1 a.2.2.1 a.2.2.2.1) (fun a=>by kernel_rfl) (fun a kx=>by kernel_rfl)
theorem acO:Mo t5 q5 g5 5 [(1,.any),(3,.any),(4,.any)] (mOf g5 5):=bR (ax _) (m:=LJ) rfl (by kernel_rfl) (by kernel_rfl) (ah (by kernel_rfl) (ay acP ai)) (B:=fun a:Y4=>Ao a.1 a.2.1 a.2.2.1) (fun a=>by kernel_rfl) (fun a kx=>by kernel_rfl)
theorem acN:Mo t5 q5 g5 3 [(1,.any),(3,.any)] (mOf g5 3):=bR (ax _) (m:=LI) rfl (by kernel_rfl) (by kernel_rfl) (ah (by kernel_rfl) (ay acO ai)) (B:=fun a:TConf×Bool×Unit=>An a.1 a.2.1) (fun a=>by kernel_rfl) (fun a kx=>by kernel_rfl)
theorem h5:aF t5 q5 aa g5.keep g5.body:=(ah (by kernel_rfl) (ay acN ai))
theorem e5:FnE t5 q5 aa g5 N5 (fun d:Y5=>Fm d.1):=fun d k=>by kernel_rfl
theorem e9:FnE t0 q0 aa g9 N9 (fun d:Y5=>EN d.1):=fun d k=>by kernel_rfl
theorem aa1:Mo t11 Hn ot 7 [(0,.any),(3,.any),(4,.any)] (.trim [(3,.any)] (.loop (.mark 9 [(0,.any),(3,.any),(4,.any)] (mOf ot 9)))):=aE (ax _) (m:=JU) rfl (by kernel_rfl) (by kernel_rfl) (fun a=>by kernel_rfl) (ah (by kernel_rfl) ai) (B:=fun a:Y6=>Jb a.1 a.2.1 a.2.2.1) (fun a=>by kernel_rfl) (fun a kn kx=>by kernel_rfl)
theorem Yv:aF t11 Hn aa ot.keep ot.body:=(ah (by kernel_rfl) (ay aa1 ai))
theorem TM:FnE t11 Hn aa ot vk (fun d:Y7=>MQ d.1):=fun d k=>by kernel_rfl
theorem Ud:FnE t0 q0 aa Xd BG (fun d:Y6=>MS d.1 d.2.1 d.2.2.1):=fun d k=>by kernel_rfl
theorem UK:FnE t16 q0 aa Xo vw (fun d:Y5=>EO d.1):=fun d k=>by kernel_rfl
theorem acn:Mo t22 HR pf 11 [(4,.any),(6,.any),(7,.any),(8,.any)] (.trim [(4,.any),(7,.any)] (.loop (.mark 13 [(4,.any),(6,.any),(7,.any),(8,.any)] (mOf pf 13)))):=aE (ax _) (m:=Lf) rfl (by kernel_rfl) (by kernel_rfl) (fun a=>by kernel_rfl) (ah (by kernel_rfl) ai) (B:=fun a:Y8=>Jd a.1 a.2.1 a.2.2.1 a.2.2.2.1) (fun a=>by kernel_rfl) (fun a kn kx=>by kernel_rfl)
theorem Zn:aF t22 HR aa pf.keep pf.body:=(ah (by kernel_rfl) (ay acn ai))
theorem Va:FnE t22 HR aa pf Cu (fun d:Y9=>MW d.1 d.2.1):=fun d k=>by kernel_rfl
theorem acp:Mo t28 HT ph 29 [(3,.any),(4,.any),(6,.any),(7,.any)] (.trim [(4,.any),(6,.any)] (.loop (.mark 31 [(3,.any),(4,.any),(6,.any),(7,.any)] (mOf ph 31)))):=aE (ax _) (m:=Lh) rfl (by kernel_rfl) (by kernel_rfl) (fun a=>by kernel_rfl) (ah (by kernel_rfl) ai) (B:=fun a:vQ=>Jn a.1 a.2.1 a.2.2.1 a.2.2.2.1) (fun a=>by kernel_rfl) (fun a kn kx=>by kernel_rfl)
theorem Zp:aF t28 HT aa ph.keep ph.body:=(ah (by kernel_rfl) (ay acp ai))
theorem Vg:FnE t28 HT aa ph CA (fun d:TConf×TMach×Unit=>M9 d.1 d.2.1):=fun d k=>by kernel_rfl
theorem Vj:FnE t0 q0 aa XE CD (fun d:Y5=>D8 d.1):=fun d k=>by kernel_rfl
theorem Vk:FnE t0 q0 aa XF CE (fun d:TBound×Unit=>D5 d.1):=fun d k=>by kernel_rfl
theorem Vo:FnE t36 q0 aa XI CI (fun d:Y0=>Ef d.1):=fun d k=>by kernel_rfl
theorem acD:Mo t45 HY pq 13 [(1,.any),(5,.any),(19,.any),(20,.any),(21,.any)] (.trim [(4,.any)] (.loop (.mark 15 [(1,.any),(5,.any),(19,.any),(20,.any),(21,.any)] (mOf pq 15)))):=aE (ax _) (m:=Lx) rfl (by kernel_rfl) (by kernel_rfl) (fun a=>by kernel_rfl) (ah (by kernel_rfl) ai) (B:=fun a:v3=>qU a.1 a.2.1 a.2.2.1 a.2.2.2.1 a.2.2.2.2.1) (fun a=>by kernel_rfl) (fun a kn kx=>by kernel_rfl)
theorem Zy:aF t45 HY aa pq.keep pq.body:=(ah (by kernel_rfl) (ay acD ai))
theorem Vx:FnE t45 HY aa pq CQ (fun d:kJ=>Em d.1 d.2.1):=fun d k=>by kernel_rfl
theorem Vy:FnE t0 q0 aa XM vE (fun d:Nj=>FC d.1 d.2.1 d.2.2.1 d.2.2.2.1):=fun d k=>by kernel_rfl
theorem VB:FnE t49 q0 aa XP CS (fun d:kK=>EG d.1 d.2.1):=fun d k=>by kernel_rfl
theorem acG:Mo t52 zo jt 3 [(0,.any),(1,.any),(2,.any),(3,.any),(4,.any),(5,.any),(6,.any)] (.trim [(0,.any),(2,.any),(3,.any),(4,.any),(5,.any)] (.loop (.mark 5 [(0,.any),(1,.any),(2,.any),(3,.any),(4,.any),(5,.any),(6,.any)] (mOf jt 5)))):=aE (ax _) (m:=LA) rfl (by kernel_rfl) (by kernel_rfl) (fun a=>by kernel_rfl) (ah (by kernel_rfl) ai) (B:=fun a:wK=>se a.1 a.2.2.1 a.2.2.2.1 a.2.2.2.2.1 a.2.2.2.2.2.1 a.2.2.2.2.2.2.1) (fun a=>by kernel_rfl) (fun a kn kx=>by kernel_rfl)
theorem acF:Mo t52 zo jt 18 [(0,.any),(2,.any),(3,.any),(4,.any),(5,.any),(7,.any)] (.trim [(0,.any),(2,.any),(3,.any),(4,.any),(5,.any)] (.loop (.mark 20 [(0,.any),(2,.any),(3,.any),(4,.any),(5,.any),(7,.any)] (mOf jt 20)))):=aE (ax _) (m:=Lz) rfl (by kernel_rfl) (by kernel_rfl) (fun a=>by kernel_rfl) (ah (by kernel_rfl) ai) (B:=fun a:wS=>sd a.1 a.2.1 a.2.2.1 a.2.2.2.1 a.2.2.2.2.1 a.2.2.2.2.2.1) (fun a=>by kernel_rfl) (fun a kn kx=>by kernel_rfl)
theorem ZA:aF t52 zo aa jt.keep jt.body:=(ah (by kernel_rfl) (ay acG (ay acF ai)))
theorem VE:FnE t52 zo aa jt CV (fun d:Nx=>FD d.1 d.2.2.1 d.2.2.2.1 d.2.2.2.2.1 d.2.2.2.2.2.1):=fun d k=>by kernel_rfl
theorem acH:Mo t53 zp ju 19 [(3,.any),(4,.any),(5,.any),(6,.any),(7,.any),(8,.any),(9,.any),(41,.any),(44,.any),(45,.any),(46,.any)] (.trim [(3,.any),(4,.any),(5,.any),(6,.any),(7,.any),(8,.any),(9,.any),(41,.any)] (.loop (.mark 21 [(3,.any),(4,.any),(5,.any),(6,.any),(7,.any),(8,.any),(9,.any),(41,.any),(44,.any),(45,.any),(46,.any)] (mOf ju 21)))):=aE (ax _) (m:=LB) rfl (by kernel_rfl) (by kernel_rfl) (fun a=>by kernel_rfl) (ah (by kernel_rfl) ai) (B:=fun a:w8=>sc a.1 a.2.1 a.2.2.1 a.2.2.2.1 a.2.2.2.2.1 a.2.2.2.2.2.1 a.2.2.2.2.2.2.2.2.1 a.2.2.2.2.2.2.2.2.2.1 a.2.2.2.2.2.2.2.2.2.2.1) (fun a=>by kernel_rfl) (fun a kn kx=>by kernel_rfl)
theorem acI:Mo t53 zp ju 34 [(3,.any),(4,.any),(5,.any),(6,.any),(7,.any),(8,.any),(9,.any),(12,.any),(41,.any)] (.trim [(3,.any),(4,.any),(5,.any),(6,.any),(7,.any),(8,.any),(41,.any)] (.loop (.mark 36 [(3,.any),(4,.any),(5,.any),(6,.any),(7,.any),(8,.any),(9,.any),(12,.any),(41,.any)] (mOf ju 36)))):=aE (ax _) (m:=LC) rfl (by kernel_rfl) (by kernel_rfl) (fun a=>by kernel_rfl) (ah (by kernel_rfl) ai) (B:=fun a:xd=>AB a.1 a.2.1 a.2.2.1 a.2.2.2.1 a.2.2.2.2.1 a.2.2.2.2.2.1 a.2.2.2.2.2.2.2.1) (fun a=>by kernel_rfl) (fun a kn kx=>by kernel_rfl)
theorem ZB:aF t53 zp aa ju.keep ju.body:=(ah (by kernel_rfl) (ay acH (ay acI ai)))
theorem VF:FnE t53 zp aa ju CW (fun d:kL=>FB d.1 d.2.1 d.2.2.1):=fun d k=>by kernel_rfl
theorem acJ:Mo t55 H0 pt 5 [(0,.any),(1,.any),(7,.any),(8,.any)] (.trim [(4,.any)] (.loop (.mark 7 [(0,.any),(1,.any),(7,.any),(8,.any)] (mOf pt 7)))):=aE (ax _) (m:=LD) rfl (by kernel_rfl) (by kernel_rfl) (fun a=>by kernel_rfl) (ah (by kernel_rfl) ai) (B:=fun a:xe=>sv a.1 a.2.1.2.1 a.2.2.1 a.2.2.2.1) (fun a=>by kernel_rfl) (fun a kn kx=>by kernel_rfl)
theorem ZC:aF t55 H0 aa pt.keep pt.body:=(ah (by kernel_rfl) (ay acJ ai))
theorem VH:FnE t55 H0 aa pt CY (fun d:xf=>FX d.1 d.2.1.2.1):=fun d k=>by kernel_rfl
theorem VJ:FnE t57 q0 aa XT C0 (fun d:xg=>Ej d.1 d.2.1):=fun d k=>by kernel_rfl
theorem acK:Mo t58 H2 pv 7 [(2,.any),(5,.any),(9,.any),(10,.any),(11,.any)] (.trim [(4,.any)] (.loop (.mark 9 [(2,.any),(5,.any),(9,.any),(10,.any),(11,.any)] (mOf pv 9)))):=aE (ax _) (m:=LF) rfl (by kernel_rfl) (by kernel_rfl) (fun a=>by kernel_rfl) (ah (by kernel_rfl) ai) (B:=fun a:xh=>qO a.1 a.2.1 a.2.2.1 a.2.2.2.1 a.2.2.2.2.1) (fun a=>by kernel_rfl) (fun a kn kx=>by kernel_rfl)
theorem ZD:aF t58 H2 aa pv.keep pv.body:=(ah (by kernel_rfl) (ay acK ai))
theorem VK:FnE t58 H2 aa pv C1 (fun d:N0=>Ea d.1 d.2.1):=fun d k=>by kernel_rfl
theorem VQ:FnE t64 q0 aa XX C7 (fun d:xj=>FJ d.1 d.2.1.2.1):=fun d k=>by kernel_rfl
theorem acV:Mo t70 H7 pA 11 [(1,.any),(2,.any),(15,.any),(16,.any),(17,.any)] (.trim [(6,.any)] (.loop (.mark 13 [(1,.any),(2,.any),(15,.any),(16,.any),(17,.any)] (mOf pA 13)))):=aE (ax _) (m:=LR) rfl (by kernel_rfl) (by kernel_rfl) (fun a=>by kernel_rfl) (ah (by kernel_rfl) ai) (B:=fun a:xk=>so a.1 a.2.2.1 a.2.2.2.1 a.2.2.2.2.1) (fun a=>by kernel_rfl) (fun a kn kx=>by kernel_rfl)
theorem ZH:aF t70 H7 aa pA.keep pA.body:=(ah (by kernel_rfl) (ay acV ai))
theorem VW:FnE t70 H7 aa pA Dd (fun d:Oa=>FR d.1 d.2.1):=fun d k=>by kernel_rfl
theorem V1:FnE t0 q0 aa X4 Dh (fun d:Y7=>MD d.1):=fun d k=>by kernel_rfl
theorem V3:FnE t77 q0 aa X5 Dj (fun d:TRob×TCore×Unit=>Ei d.1 d.2.1):=fun d k=>by kernel_rfl
theorem V5:FnE t79 q0 aa X6 Dl (fun d:xl=>FL d.1 d.2.1.2.1):=fun d k=>by kernel_rfl
theorem Wb:FnE t0 q0 aa Ya nK (fun d:eB=>DQ d.1 d.2.1):=fun d k=>by kernel_rfl
theorem Wk:FnE t0 q0 aa Yf Dz (fun d:Y7=>Ey d.1):=fun d k=>by kernel_rfl
theorem Wl:FnE t95 q0 aa Yg DA (fun d:Y7=>Ex d.1):=fun d k=>by kernel_rfl
theorem ac6:Mo t96 Ij pK 5 [(0,.any),(1,.any),(7,.any),(8,.any)] (.trim [(4,.any)] (.loop (.mark 7 [(0,.any),(1,.any),(7,.any),(8,.any)] (mOf pK 7)))):=aE (ax _) (m:=L3) rfl (by kernel_rfl) (by kernel_rfl) (fun a=>by kernel_rfl) (ah (by kernel_rfl) ai) (B:=fun a:xn=>sx a.1 a.2.2.1 a.2.2.2.1) (fun a=>by kernel_rfl) (fun a kn kx=>by kernel_rfl)
theorem ZR:aF t96 Ij aa pK.keep pK.body:=(ah (by kernel_rfl) (ay ac6 ai))
theorem Wm:FnE t96 Ij aa pK DB (fun d:xo=>F3 d.1):=fun d k=>by kernel_rfl
theorem TH:FnE t0 q0 aa WX Bh (fun d:xp=>My d.1 d.2.1):=fun d k=>by kernel_rfl
theorem TN:FnE t0 q0 aa W1 Bn (fun d:Y7=>ML d.1):=fun d k=>by kernel_rfl
theorem TQ:FnE ag0 q0 aa W3 Bq (fun d:cV=>Ez d.1):=fun d k=>by kernel_rfl
theorem TV:FnE ag2 q0 aa W7 Bv (fun d:xq=>EB d.1 d.2.1):=fun d k=>by kernel_rfl
theorem T4:FnE ag3 q0 aa W8 BA (fun d:Ob=>DV d.1 d.2.1):=fun d k=>by kernel_rfl
theorem aa3:Mo qu qc gj 27 [(1,.any),(12,.any),(13,.any),(14,.any),(19,.any),(20,.any),(21,.any),(25,.any),(26,.any),(27,.any)] (.trim [(1,.any),(4,.any),(12,.any),(13,.any),(14,.any),(19,.any),(20,.any),(21,.any)] (.loop (.mark 29 [(1,.any),(12,.any),(13,.any),(14,.any),(19,.any),(20,.any),(21,.any),(25,.any),(26,.any),(27,.any)] (mOf gj 29)))):=aE (ax _) (m:=JW) rfl (by kernel_rfl) (by kernel_rfl) (fun a=>by kernel_rfl) (ah (by kernel_rfl) ai) (B:=fun a:xr=>qK a.1 a.2.1 a.2.2.1 a.2.2.2.1 a.2.2.2.2.1 a.2.2.2.2.2.1 a.2.2.2.2.2.2.1 a.2.2.2.2.2.2.2.1 a.2.2.2.2.2.2.2.2.1 a.2.2.2.2.2.2.2.2.2.1) (fun a=>by kernel_rfl) (fun a kn kx=>by kernel_rfl)
theorem aa2:Mo qu qc gj 16 [(1,.any),(12,.any),(13,.any),(14,.any),(19,.any),(20,.any),(21,.any)] (.trim [(1,.any),(4,.any),(12,.any),(13,.any),(14,.any)] (.loop (.mark 18 [(1,.any),(12,.any),(13,.any),(14,.any),(19,.any),(20,.any),(21,.any)] (mOf gj 18)))):=aE (ax _) (m:=JV) rfl (by kernel_rfl) (by kernel_rfl) (fun a=>by kernel_rfl) (ah (by kernel_rfl) (ay aa3 ai)) (B:=fun a:xt=>qJ a.1 a.2.1 a.2.2.1 a.2.2.2.1 a.2.2.2.2.1 a.2.2.2.2.2.1 a.2.2.2.2.2.2.1) (fun a=>by kernel_rfl) (fun a kn kx=>by kernel_rfl)
theorem aa4:Mo qu qc gj 5 [(1,.any),(12,.any),(13,.any),(14,.any)] (.trim [(1,.any),(4,.any)] (.loop (.mark 7 [(1,.any),(12,.any),(13,.any),(14,.any)] (mOf gj 7)))):=aE (ax _) (m:=JX) rfl (by kernel_rfl) (by kernel_rfl) (fun a=>by kernel_rfl) (ah (by kernel_rfl) (ay aa2 ai)) (B:=fun a:xu=>qL a.1 a.2.1 a.2.2.1 a.2.2.2.1) (fun a=>by kernel_rfl) (fun a kn kx=>by kernel_rfl)
theorem Yz:aF qu qc aa gj.keep gj.body:=(ah (by kernel_rfl) (ay aa4 ai))
theorem T5:FnE qu qc aa gj BB (fun d:Oc=>DX d.1 d.2.1):=fun d k=>by kernel_rfl
theorem T6:FnE ag4 q0 aa W9 BC (fun d:dM=>DU d.1):=fun d k=>by kernel_rfl
theorem aa6:Mo IK Ht oE 15 [(5,.any),(50,.any),(51,.any),(52,.any)] (.trim [(5,.any)] (.loop (.mark 17 [(5,.any),(50,.any),(51,.any),(52,.any)] (mOf oE 17)))):=aE (ax _) (m:=JZ) rfl (by kernel_rfl) (by kernel_rfl) (fun a=>by kernel_rfl) (ah (by kernel_rfl) ai) (B:=fun a:gP=>qB a.1 a.2.1 a.2.2.1 a.2.2.2.1) (fun a=>by kernel_rfl) (fun a kn kx=>by kernel_rfl)
theorem YB:aF IK Ht aa oE.keep oE.body:=(ah (by kernel_rfl) (ay aa6 ai))
theorem Ua:FnE IK Ht aa oE nJ (fun d:gQ=>DI d.1 d.2.1):=fun d k=>by kernel_rfl
theorem abo:Mo qw qe gm 22 [(1,.any),(3,.any),(4,.any),(5,.any)] (.trim [(1,.any),(2,.any),(3,.any),(4,.any)] (.loop (.mark 24 [(1,.any),(3,.any),(4,.any),(5,.any)] (mOf gm 24)))):=aE (ax _) (m:=Kh) rfl (by kernel_rfl) (by kernel_rfl) (fun a=>by kernel_rfl) (ah (by kernel_rfl) ai) (B:=fun a:gR=>rP a.1 a.2.1 a.2.2.1 a.2.2.2.1) (fun a=>by kernel_rfl) (fun a kn kx=>by kernel_rfl)
theorem abp:Mo qw qe gm 39 [(1,.any),(3,.any),(4,.any),(6,.any)] (.trim [(1,.any),(2,.any),(3,.any)] (.loop (.mark 41 [(1,.any),(3,.any),(4,.any),(6,.any)] (mOf gm 41)))):=aE (ax _) (m:=Ki) rfl (by kernel_rfl) (by kernel_rfl) (fun a=>by kernel_rfl) (ah (by kernel_rfl) ai) (B:=fun a:gR=>rQ a.1 a.2.1 a.2.2.1 a.2.2.2.1) (fun a=>by kernel_rfl) (fun a kn kx=>by kernel_rfl)
theorem abq:Mo qw qe gm 5 [(1,.any),(3,.any)] (.trim [(2,.any)] (.loop (.mark 7 [(1,.any),(3,.any)] (mOf gm 7)))):=aE (ax _) (m:=Kj) rfl (by kernel_rfl) (by kernel_rfl) (fun a=>by kernel_rfl) (ah (by kernel_rfl) (ay abo (ay abp ai))) (B:=fun a:dm=>rR a.1 a.2.1) (fun a=>by kernel_rfl) (fun a kn kx=>by kernel_rfl)
theorem YM:aF qw qe aa gm.keep gm.body:=(ah (by kernel_rfl) (ay abq ai))
theorem Ur:FnE qw qe aa gm BR (fun d:Y0=>Fp d.1):=fun d k=>by kernel_rfl
theorem abr:Mo t0 Hz oK 7 [(1,.any),(2,.any),(5,.any),(6,.any)] (.trim [(5,.any)] (.loop (.mark 9 [(1,.any),(2,.any),(5,.any),(6,.any)] (mOf oK 9)))):=aE (ax _) (m:=Kk) rfl (by kernel_rfl) (by kernel_rfl) (fun a=>by kernel_rfl) (ah (by kernel_rfl) ai) (B:=fun a:xv=>rY a.1 a.2.1 a.2.2.1 a.2.2.2.1) (fun a=>by kernel_rfl) (fun a kn kx=>by kernel_rfl)
theorem YN:aF t0 Hz aa oK.keep oK.body:=(ah (by kernel_rfl) (ay abr ai))
theorem Us:FnE t0 Hz aa oK BS (fun d:dm=>Fv d.1 d.2.1):=fun d k=>by kernel_rfl
theorem abx:Mo IU HC oN 5 [(1,.any),(3,.any)] (.trim [(2,.any)] (.loop (.mark 7 [(1,.any),(3,.any)] (mOf oN 7)))):=aE (ax _) (m:=Kp) rfl (by kernel_rfl) (by kernel_rfl) (fun a=>by kernel_rfl) (ah (by kernel_rfl) ai) (B:=fun a:dm=>rZ a.1 a.2.1) (fun a=>by kernel_rfl) (fun a kn kx=>by kernel_rfl)
theorem YR:aF IU HC aa oN.keep oN.body:=(ah (by kernel_rfl) (ay abx ai))
theorem Ux:FnE IU HC aa oN BW (fun d:Y0=>Fw d.1):=fun d k=>by kernel_rfl
theorem abL:Mo t0 zh jm 18 [(5,.any),(6,.any),(7,.any),(8,.any)] (.trim [(5,.any),(6,.any),(7,.any)] (.loop (.mark 20 [(5,.any),(6,.any),(7,.any),(8,.any)] (mOf jm 20)))):=aE (ax _) (m:=KD) rfl (by kernel_rfl) (by kernel_rfl) (fun a=>by kernel_rfl) (ah (by kernel_rfl) ai) (B:=fun a:xw=>rB a.1 a.2.1 a.2.2.1 a.2.2.2.1) (fun a=>by kernel_rfl) (fun a kn kx=>by kernel_rfl)
theorem abM:Mo t0 zh jm 7 [(5,.any),(6,.any)] (.trim [(4,.any)] (.loop (.mark 9 [(5,.any),(6,.any)] (mOf jm 9)))):=aE (ax _) (m:=KE) rfl (by kernel_rfl) (by kernel_rfl) (fun a=>by kernel_rfl) (ah (by kernel_rfl) (ay abL ai)) (B:=fun a:xy=>rC a.1 a.2.1) (fun a=>by kernel_rfl) (fun a kn kx=>by kernel_rfl)
theorem YU:aF t0 zh aa jm.keep jm.body:=(ah (by kernel_rfl) (ay abM ai))
theorem UA:FnE t0 zh aa jm B0 (fun d:fw=>E6 d.1 d.2.1):=fun d k=>by kernel_rfl
theorem UG:FnE t0 q0 aa Xl B4 (fun d:fx=>E8 d.1 d.2.1):=fun d k=>by kernel_rfl
theorem ab4:Mo zJ zj jo 7 [(0,.any),(3,.any),(4,.any)] (.trim [(0,.any),(3,.any)] (.loop (.mark 9 [(0,.any),(3,.any),(4,.any)] (mOf jo 9)))):=aE (ax _) (m:=KW) rfl (by kernel_rfl) (by kernel_rfl) (fun a=>by kernel_rfl) (ah (by kernel_rfl) ai) (B:=fun a:gS=>rf a.1 a.2.1 a.2.2.1) (fun a=>by kernel_rfl) (fun a kn kx=>by kernel_rfl)
theorem ab3:Mo zJ zj jo 20 [(0,.any),(3,.any),(5,.any)] (.trim [(3,.any)] (.loop (.mark 22 [(0,.any),(3,.any),(5,.any)] (mOf jo 22)))):=aE (ax _) (m:=KV) rfl (by kernel_rfl) (by kernel_rfl) (fun a=>by kernel_rfl) (ah (by kernel_rfl) ai) (B:=fun a:gS=>jT a.1 a.2.1 a.2.2.1) (fun a=>by kernel_rfl) (fun a kn kx=>by kernel_rfl)
theorem Ze:aF zJ zj aa jo.keep jo.body:=(ah (by kernel_rfl) (ay ab4 (ay ab3 ai)))
theorem UU:FnE zJ zj aa jo Cg (fun d:cV=>EM d.1):=fun d k=>by kernel_rfl
theorem UX:FnE t0 q0 aa Xu Ci (fun d:Y9=>ER d.1 d.2.1):=fun d k=>by kernel_rfl
theorem aci:Mo IZ HN pa 15 [(3,.any),(4,.any),(5,.any)] (.trim [(3,.any)] (.loop (.mark 17 [(3,.any),(4,.any),(5,.any)] (mOf pa 17)))):=aE (ax _) (m:=La) rfl (by kernel_rfl) (by kernel_rfl) (fun a=>by kernel_rfl) (ah (by kernel_rfl) ai) (B:=fun a:gU=>sb a.1 a.2.1 a.2.2.1) (fun a=>by kernel_rfl) (fun a kn kx=>by kernel_rfl)
theorem Zj:aF IZ HN aa pa.keep pa.body:=(ah (by kernel_rfl) (ay aci ai))
theorem U4:FnE IZ HN aa pa Co (fun d:kM=>FA d.1):=fun d k=>by kernel_rfl
end Go.Proofs.YtnpgljilkkipkaaGreat
