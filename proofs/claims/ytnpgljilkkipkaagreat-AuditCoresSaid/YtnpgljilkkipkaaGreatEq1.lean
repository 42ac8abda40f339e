/- YtnpgljilkkipkaaGreatEq1: the functions' runs are their trees. No statement of the seat is proved here. -/
import Derived.Test.YtnpgljilkkipkaaGreatTabs
set_option linter.unusedSimpArgs false
set_option linter.unusedVariables false
set_option maxRecDepth 100000
namespace Go.Proofs.YtnpgljilkkipkaaGreat
open Go Go.A2
theorem acm:Mo t2 q2 g2 26 [(3,.any),(5,.any),(6,.any)] (.trim [(3,.any),(4,.any),(5,.any)] (.loop (.mark 28 [(3,.any),(5,.any),(6,.any)] (mOf g2 28)))):=aE (ax _) (m:=Ld) rfl (by kernel_rfl) (by kernel_rfl) (fun a=>by kernel_rfl) (ah (by kernel_rfl) ai) (B:=fun a:gS=>qN a.1 a.2.1 a.2.2.1) (fun a=>by kernel_rfl) (fun a kn kx=>by kernel_rfl)
theorem ack:Mo t2 q2 g2 11 [(3,.any),(5,.any)] (.trim [(4,.any)] (.loop (.mark 13 [(3,.any),(5,.any)] (mOf g2 13)))):=aE (ax _) (m:=Lc) rfl (by kernel_rfl) (by kernel_rfl) (fun a=>by kernel_rfl) (ah (by kernel_rfl) (ay acm ai)) (B:=fun a:fx=>qM a.1 a.2.1) (fun a=>by kernel_rfl) (fun a kn kx=>by kernel_rfl)
theorem h2:aF t2 q2 aa g2.keep g2.body:=(ah (by kernel_rfl) (ay ack ai))
theorem e2:FnE t2 q2 aa g2 N2 (fun d:gN=>Eg d.1 d.2.1):=fun d k=>by kernel_rfl
theorem e7:FnE t0 q0 aa g7 N7 (fun d:Y7=>MJ d.1):=fun d k=>by kernel_rfl
theorem Tu:FnE t0 q0 aa WM AZ (fun d:Y7=>MN d.1):=fun d k=>by kernel_rfl
theorem abL:Mo t0 Hr oG 7 [(0,.any),(3,.any),(4,.any)] (.trim [(3,.any)] (.loop (.mark 9 [(0,.any),(3,.any),(4,.any)] (mOf oG 9)))):=aE (ax _) (m:=KD) rfl (by kernel_rfl) (by kernel_rfl) (fun a=>by kernel_rfl) (ah (by kernel_rfl) ai) (B:=fun a:xj=>I3 a.1 a.2.1 a.2.2.1) (fun a=>by kernel_rfl) (fun a kn kx=>by kernel_rfl)
theorem YN:aF t0 Hr aa oG.keep oG.body:=(ah (by kernel_rfl) (ay abL ai))
theorem Ut:FnE t0 Hr aa oG BO (fun d:Y7=>MR d.1):=fun d k=>by kernel_rfl
theorem UP:FnE t0 q0 aa Xn B7 (fun d:Y6=>MT d.1 d.2.1 d.2.2.1):=fun d k=>by kernel_rfl
theorem U0:FnE t18 q0 aa Xr Cf (fun d:Y7=>MS d.1):=fun d k=>by kernel_rfl
theorem U8:FnE t0 q0 aa Xv vk (fun d:gU=>M2 d.1 d.2.1):=fun d k=>by kernel_rfl
theorem aci:Mo t0 yX jo 18 [(0,.any),(1,.any),(4,.any),(5,.any),(6,.any),(7,.own),(8,.any)] (.trim [(0,.any),(1,.any),(4,.any),(5,.any),(6,.any),(7,.any)] (.loop (.mark 20 [(0,.any),(1,.any),(4,.any),(5,.any),(6,.any),(7,.own),(8,.any)] (mOf jo 20)))):=aE (ax _) (m:=La) rfl (by kernel_rfl) (by kernel_rfl) (fun a=>by kernel_rfl) (ah (by kernel_rfl) ai) (B:=fun a:xk=>I9 a.1 a.2.1 a.2.2.1 a.2.2.2.1 a.2.2.2.2.1 a.2.2.2.2.2.1 a.2.2.2.2.2.2.1) (fun a=>by kernel_rfl) (fun a kn kx=>by kernel_rfl)
theorem acj:Mo t0 yX jo 7 [(0,.any),(1,.any),(4,.any),(5,.any),(6,.any)] (.trim [(4,.any),(5,.any)] (.loop (.mark 9 [(0,.any),(1,.any),(4,.any),(5,.any),(6,.any)] (mOf jo 9)))):=aE (ax _) (m:=Lb) rfl (by kernel_rfl) (by kernel_rfl) (fun a=>by kernel_rfl) (ah (by kernel_rfl) (ay aci ai)) (B:=fun a:xl=>Ja a.1 a.2.1 a.2.2.1 a.2.2.2.1 a.2.2.2.2.1) (fun a=>by kernel_rfl) (fun a kn kx=>by kernel_rfl)
theorem Zk:aF t0 yX aa jo.keep jo.body:=(ah (by kernel_rfl) (ay acj ai))
theorem Vb:FnE t0 yX aa jo Cq (fun d:Y9=>M5 d.1 d.2.1):=fun d k=>by kernel_rfl
theorem Vg:FnE t34 q0 aa XA Cv (fun d:xn=>FB d.1):=fun d k=>by kernel_rfl
theorem Vh:FnE t35 q0 aa XB Cw (fun d:Y5=>DR d.1):=fun d k=>by kernel_rfl
theorem acv:Mo t44 HL pc 15 [(1,.any),(3,.any),(4,.own),(12,.any),(13,.any)] (.trim [(4,.any)] (.loop (.mark 17 [(1,.any),(3,.any),(4,.own),(12,.any),(13,.any)] (mOf pc 17)))):=aE (ax _) (m:=Lm) rfl (by kernel_rfl) (by kernel_rfl) (fun a=>by kernel_rfl) (ah (by kernel_rfl) ai) (B:=fun a:xo=>qK a.1 a.2.1.1.1 a.2.2.1 a.2.2.2.1 a.2.2.2.2.1) (fun a=>by kernel_rfl) (fun a kn kx=>by kernel_rfl)
theorem Zq:aF t44 HL aa pc.keep pc.body:=(ah (by kernel_rfl) (ay acv ai))
theorem Vq:FnE t44 HL aa pc vm (fun d:gV=>Ea d.1):=fun d k=>by kernel_rfl
theorem Vw:FnE t50 q0 aa XK CI (fun d:Oc=>Ex d.1 d.2.1 d.2.2.1):=fun d k=>by kernel_rfl
theorem acx:Mo t51 HN pf 7 [(2,.any),(5,.any),(6,.any),(11,.any),(12,.any),(13,.any)] (.trim [(2,.any),(4,.any),(5,.any)] (.loop (.mark 9 [(2,.any),(5,.any),(6,.any),(11,.any),(12,.any),(13,.any)] (mOf pf 9)))):=aE (ax _) (m:=Lp) rfl (by kernel_rfl) (by kernel_rfl) (fun a=>by kernel_rfl) (ah (by kernel_rfl) ai) (B:=fun a:xp=>rT a.1 a.2.1 a.2.2.1 a.2.2.2.1 a.2.2.2.2.1 a.2.2.2.2.2.1) (fun a=>by kernel_rfl) (fun a kn kx=>by kernel_rfl)
theorem Zt:aF t51 HN aa pf.keep pf.body:=(ah (by kernel_rfl) (ay acx ai))
theorem Vx:FnE t51 HN aa pf CJ (fun d:Od=>Fq d.1 d.2.1):=fun d k=>by kernel_rfl
theorem VF:FnE t0 q0 aa XO CS (fun d:TRen×TRen×Unit=>My d.1 d.2.1):=fun d k=>by kernel_rfl
theorem acK:Mo t60 HQ pj 5 [(0,.any),(1,.any),(7,.any),(8,.any)] (.trim [(4,.any)] (.loop (.mark 7 [(0,.any),(1,.any),(7,.any),(8,.any)] (mOf pj 7)))):=aE (ax _) (m:=LF) rfl (by kernel_rfl) (by kernel_rfl) (fun a=>by kernel_rfl) (ah (by kernel_rfl) ai) (B:=fun a:xq=>sa a.1 a.2.1.2.1 a.2.2.1 a.2.2.2.1) (fun a=>by kernel_rfl) (fun a kn kx=>by kernel_rfl)
theorem Zy:aF t60 HQ aa pj.keep pj.body:=(ah (by kernel_rfl) (ay acK ai))
theorem VG:FnE t60 HQ aa pj CT (fun d:xr=>FI d.1 d.2.1.2.1):=fun d k=>by kernel_rfl
theorem VL:FnE t65 q0 aa XS CY (fun d:xt=>DT d.1 d.2.1):=fun d k=>by kernel_rfl
theorem acN:Mo t68 HT po 11 [(1,.any),(2,.any),(15,.any),(16,.any),(17,.any)] (.trim [(6,.any)] (.loop (.mark 13 [(1,.any),(2,.any),(15,.any),(16,.any),(17,.any)] (mOf po 13)))):=aE (ax _) (m:=LI) rfl (by kernel_rfl) (by kernel_rfl) (fun a=>by kernel_rfl) (ah (by kernel_rfl) ai) (B:=fun a:xu=>rY a.1 a.2.2.1 a.2.2.2.1 a.2.2.2.2.1) (fun a=>by kernel_rfl) (fun a kn kx=>by kernel_rfl)
theorem ZA:aF t68 HT aa po.keep po.body:=(ah (by kernel_rfl) (ay acN ai))
theorem VO:FnE t68 HT aa po C1 (fun d:Oe=>FE d.1 d.2.1):=fun d k=>by kernel_rfl
theorem VS:FnE t0 q0 aa XW C5 (fun d:gU=>Eu d.1 d.2.1):=fun d k=>by kernel_rfl
theorem acR:Mo t78 HX pv 5 [(0,.any),(1,.any),(7,.any),(8,.any)] (.trim [(4,.any)] (.loop (.mark 7 [(0,.any),(1,.any),(7,.any),(8,.any)] (mOf pv 7)))):=aE (ax _) (m:=LN) rfl (by kernel_rfl) (by kernel_rfl) (fun a=>by kernel_rfl) (ah (by kernel_rfl) ai) (B:=fun a:xv=>sc a.1 a.2.1.2.1 a.2.2.1 a.2.2.2.1) (fun a=>by kernel_rfl) (fun a kn kx=>by kernel_rfl)
theorem ZE:aF t78 HX aa pv.keep pv.body:=(ah (by kernel_rfl) (ay acR ai))
theorem VY:FnE t78 HX aa pv Da (fun d:wW=>FJ d.1 d.2.1.2.1):=fun d k=>by kernel_rfl
theorem V0:FnE t80 q0 aa X1 Dc (fun d:Y0=>D6 d.1):=fun d k=>by kernel_rfl
theorem acS:Mo t81 HY pw 15 [(5,.own),(55,.any),(56,.any),(57,.any)] (.trim [(5,.any)] (.loop (.mark 17 [(5,.own),(55,.any),(56,.any),(57,.any)] (mOf pw 17)))):=aE (ax _) (m:=LO) rfl (by kernel_rfl) (by kernel_rfl) (fun a=>by kernel_rfl) (ah (by kernel_rfl) ai) (B:=fun a:gM=>IY a.1 a.2.1 a.2.2.1 a.2.2.2.1) (fun a=>by kernel_rfl) (fun a kn kx=>by kernel_rfl)
theorem ZF:aF t81 HY aa pw.keep pw.body:=(ah (by kernel_rfl) (ay acS ai))
theorem V1:FnE t81 HY aa pw Dd (fun d:Y0=>DQ d.1):=fun d k=>by kernel_rfl
theorem V4:FnE t0 q0 aa X3 Dg (fun d:cU=>Ej d.1):=fun d k=>by kernel_rfl
theorem V6:FnE t86 q0 aa X5 Dh (fun d:eB=>DF d.1 d.2.1):=fun d k=>by kernel_rfl
theorem acX:Mo t91 H3 pA 11 [(1,.any),(16,.any),(17,.any)] (.trim [(2,.any)] (.loop (.mark 13 [(1,.any),(16,.any),(17,.any)] (mOf pA 13)))):=aE (ax _) (m:=LU) rfl (by kernel_rfl) (by kernel_rfl) (fun a=>by kernel_rfl) (ah (by kernel_rfl) ai) (B:=fun a:xw=>qu a.1 a.2.1 a.2.2.1) (fun a=>by kernel_rfl) (fun a kn kx=>by kernel_rfl)
theorem ZJ:aF t91 H3 aa pA.keep pA.body:=(ah (by kernel_rfl) (ay acX ai))
theorem Wb:FnE t91 H3 aa pA Dl (fun d:xy=>DC d.1):=fun d k=>by kernel_rfl
theorem Wh:FnE t97 q0 aa Yb Dr (fun d:wY=>FC d.1):=fun d k=>by kernel_rfl
theorem Tv:FnE agO q0 aa WN A1 (fun d:TCoh×TWay×Unit=>DM d.1 d.2.1):=fun d k=>by kernel_rfl
theorem TC:FnE agQ q0 aa WS A8 (fun d:wZ=>Mu d.1 d.2.1):=fun d k=>by kernel_rfl
theorem TI:FnE agS q0 aa WW Bd (fun d:Y5=>Eo d.1):=fun d k=>by kernel_rfl
theorem TN:FnE t0 q0 aa W0 Bi (fun d:Y9=>Er d.1 d.2.1):=fun d k=>by kernel_rfl
theorem aaT:Mo t0 Hd n9 7 [(3,.any),(6,.any),(7,.any),(8,.any)] (.trim [(2,.any)] (.loop (.mark 9 [(3,.any),(6,.any),(7,.any),(8,.any)] (mOf n9 9)))):=aE (ax _) (m:=JM) rfl (by kernel_rfl) (by kernel_rfl) (fun a=>by kernel_rfl) (ah (by kernel_rfl) ai) (B:=fun a:xz=>sj a.1 a.2.1 a.2.2.1 a.2.2.2.1) (fun a=>by kernel_rfl) (fun a kn kx=>by kernel_rfl)
theorem Yr:aF t0 Hd aa n9.keep n9.body:=(ah (by kernel_rfl) (ay aaT ai))
theorem TQ:FnE t0 Hd aa n9 Bm (fun d:xB=>FQ d.1):=fun d k=>by kernel_rfl
theorem TW:FnE t0 q0 aa W4 Br (fun d:W .u32×W .i64×Unit=>Dz d.1 d.2.1):=fun d k=>by kernel_rfl
theorem aa1:Mo zr yP jf 24 [(1,.any),(3,.own),(4,.any),(21,.any),(22,.any),(23,.any),(31,.any),(32,.any),(33,.any)] (.trim [(1,.any),(3,.any),(21,.any),(22,.any),(23,.any)] (.loop (.mark 26 [(1,.any),(3,.own),(4,.any),(21,.any),(22,.any),(23,.any),(31,.any),(32,.any),(33,.any)] (mOf jf 26)))):=aE (ax _) (m:=JU) rfl (by kernel_rfl) (by kernel_rfl) (fun a=>by kernel_rfl) (ah (by kernel_rfl) ai) (B:=fun a:xC=>IX a.1 a.2.1 a.2.2.1 a.2.2.2.1 a.2.2.2.2.1 a.2.2.2.2.2.1 a.2.2.2.2.2.2.1 a.2.2.2.2.2.2.2.1 a.2.2.2.2.2.2.2.2.1) (fun a=>by kernel_rfl) (fun a kn kx=>by kernel_rfl)
theorem aa0:Mo zr yP jf 13 [(1,.any),(3,.own),(21,.any),(22,.any),(23,.any)] (.trim [(3,.own)] (.loop (.mark 15 [(1,.any),(3,.own),(21,.any),(22,.any),(23,.any)] (mOf jf 15)))):=aE (ax _) (m:=JT) rfl (by kernel_rfl) (by kernel_rfl) (fun a=>by kernel_rfl) (ah (by kernel_rfl) (ay aa1 ai)) (B:=fun a:kM=>IW a.1 a.2.1 a.2.2.1 a.2.2.2.1 a.2.2.2.2.1) (fun a=>by kernel_rfl) (fun a kn kx=>by kernel_rfl)
theorem Yw:aF zr yP aa jf.keep jf.body:=(ah (by kernel_rfl) (ay aa0 ai))
theorem T5:FnE zr yP aa jf u5 (fun d:kL=>Mt d.1):=fun d k=>by kernel_rfl
theorem aa3:Mo t0 Hh oq 5 [(0,.any),(3,.any)] (.trim [(0,.any),(2,.any)] (.loop (.mark 7 [(0,.any),(3,.any)] (mOf oq 7)))):=aE (ax _) (m:=JW) rfl (by kernel_rfl) (by kernel_rfl) (fun a=>by kernel_rfl) (ah (by kernel_rfl) ai) (B:=fun a:xD=>lL a.1 a.2.1) (fun a=>by kernel_rfl) (fun a kn kx=>by kernel_rfl)
theorem Yx:aF t0 Hh aa oq.keep oq.body:=(ah (by kernel_rfl) (ay aa3 ai))
theorem T9:FnE t0 Hh aa oq Bx (fun d:xE=>EO d.1):=fun d k=>by kernel_rfl
theorem aa5:Mo t0 yQ jg 26 [(1,.any),(2,.any),(5,.any),(6,.any)] (.trim [(1,.any),(2,.any),(4,.any),(5,.any)] (.loop (.mark 28 [(1,.any),(2,.any),(5,.any),(6,.any)] (mOf jg 28)))):=aE (ax _) (m:=JY) rfl (by kernel_rfl) (by kernel_rfl) (fun a=>by kernel_rfl) (ah (by kernel_rfl) ai) (B:=fun a:gW=>qW a.1 a.2.1 a.2.2.1 a.2.2.2.1) (fun a=>by kernel_rfl) (fun a kn kx=>by kernel_rfl)
theorem aa4:Mo t0 yQ jg 11 [(1,.any),(2,.any),(5,.any)] (.trim [(4,.any)] (.loop (.mark 13 [(1,.any),(2,.any),(5,.any)] (mOf jg 13)))):=aE (ax _) (m:=JX) rfl (by kernel_rfl) (by kernel_rfl) (fun a=>by kernel_rfl) (ah (by kernel_rfl) (ay aa5 ai)) (B:=fun a:gX=>zQ a.1 a.2.1 a.2.2.1) (fun a=>by kernel_rfl) (fun a kn kx=>by kernel_rfl)
theorem Yy:aF t0 yQ aa jg.keep jg.body:=(ah (by kernel_rfl) (ay aa4 ai))
theorem Ua:FnE t0 yQ aa jg Bz (fun d:kJ=>EJ d.1 d.2.1):=fun d k=>by kernel_rfl
theorem abc:Mo ql pW gj 7 [(1,.any),(2,.any),(3,.any),(7,.any),(8,.any)] (.trim [(1,.any),(2,.any),(7,.any)] (.loop (.mark 9 [(1,.any),(2,.any),(3,.any),(7,.any),(8,.any)] (mOf gj 9)))):=aE (ax _) (m:=J5) rfl (by kernel_rfl) (by kernel_rfl) (fun a=>by kernel_rfl) (ah (by kernel_rfl) ai) (B:=fun a:xF=>zR a.1 a.2.1 a.2.2.1 a.2.2.2.1 a.2.2.2.2.1) (fun a=>by kernel_rfl) (fun a kn kx=>by kernel_rfl)
theorem aba:Mo ql pW gj 20 [(1,.any),(2,.any),(7,.any),(9,.any)] (.trim [(1,.any),(7,.any)] (.loop (.mark 22 [(1,.any),(2,.any),(7,.any),(9,.any)] (mOf gj 22)))):=aE (ax _) (m:=J3) rfl (by kernel_rfl) (by kernel_rfl) (fun a=>by kernel_rfl) (ah (by kernel_rfl) ai) (B:=fun a:xG=>qY a.1 a.2.1 a.2.2.1 a.2.2.2.1) (fun a=>by kernel_rfl) (fun a kn kx=>by kernel_rfl)
theorem abb:Mo ql pW gj 35 [(1,.any),(7,.any),(10,.any)] (.trim [(1,.any),(6,.any),(7,.any)] (.loop (.mark 37 [(1,.any),(7,.any),(10,.any)] (mOf gj 37)))):=aE (ax _) (m:=J4) rfl (by kernel_rfl) (by kernel_rfl) (fun a=>by kernel_rfl) (ah (by kernel_rfl) ai) (B:=fun a:gY=>qZ a.1 a.2.1 a.2.2.1) (fun a=>by kernel_rfl) (fun a kn kx=>by kernel_rfl)
theorem YC:aF ql pW aa gj.keep gj.body:=(ah (by kernel_rfl) (ay abc (ay aba (ay abb ai))))
theorem Ug:FnE ql pW aa gj BD (fun d:kK=>EM d.1 d.2.1 d.2.2.1):=fun d k=>by kernel_rfl
theorem Uo:FnE ag0 q0 aa Xc vd (fun d:gU=>MX d.1 d.2.1):=fun d k=>by kernel_rfl
theorem abr:Mo dI dD bH 20 [(1,.any),(3,.any),(4,.any),(5,.any)] (mOf bH 20):=bQ (ax _) (m:=Kk) rfl (by kernel_rfl) (by kernel_rfl) (ah (by kernel_rfl) ai) (B:=fun a:gZ=>zS a.1 a.2.1 a.2.2.1 a.2.2.2.1) (fun a=>by kernel_rfl) (fun a kx=>by kernel_rfl)
theorem abq:Mo dI dD bH 15 [(1,.any),(3,.any),(4,.any),(5,.any)] (.trim [(1,.any),(3,.any),(4,.any)] (.loop (.mark 17 [(1,.any),(3,.any),(4,.any),(5,.any)] (mOf bH 17)))):=aE (ax _) (m:=Kj) rfl (by kernel_rfl) (by kernel_rfl) (fun a=>by kernel_rfl) (ah (by kernel_rfl) (ay abr ai)) (B:=fun a:gZ=>rE a.1 a.2.1 a.2.2.1 a.2.2.2.1) (fun a=>by kernel_rfl) (fun a kn kx=>by kernel_rfl)
theorem abu:Mo dI dD bH 26 [(1,.any),(3,.any),(4,.any),(53,.any)] (mOf bH 26):=bQ (ax _) (m:=Km) rfl (by kernel_rfl) (by kernel_rfl) (ah (by kernel_rfl) ai) (B:=fun a:Of=>zU a.1 a.2.1 a.2.2.1 a.2.2.2.1) (fun a=>by kernel_rfl) (fun a kx=>by kernel_rfl)
theorem abC:Mo dI dD bH 56 [(3,.any)] (mOf bH 56):=bQ (ax _) (m:=Ku) rfl (by kernel_rfl) (by kernel_rfl) (ah (by kernel_rfl) ai) (B:=fun a:ch=>Jb a.1) (fun a=>by kernel_rfl) (fun a kx=>by kernel_rfl)
theorem abB:Mo dI dD bH 52 [(1,.any),(3,.any)] (mOf bH 52):=bQ (ax _) (m:=Kt) rfl (by kernel_rfl) (by kernel_rfl) (ah (by kernel_rfl) (ay abC ai)) (B:=fun a:cG=>z9 a.1 a.2.1) (fun a=>by kernel_rfl) (fun a kx=>by kernel_rfl)
theorem abA:Mo dI dD bH 48 [(1,.any),(3,.any)] (mOf bH 48):=bQ (ax _) (m:=Ks) rfl (by kernel_rfl) (by kernel_rfl) (ah (by kernel_rfl) (ay abB ai)) (B:=fun a:cG=>z8 a.1 a.2.1) (fun a=>by kernel_rfl) (fun a kx=>by kernel_rfl)
theorem abz:Mo dI dD bH 44 [(1,.any),(3,.any)] (mOf bH 44):=bQ (ax _) (m:=Kr) rfl (by kernel_rfl) (by kernel_rfl) (ah (by kernel_rfl) (ay abA ai)) (B:=fun a:cG=>zZ a.1 a.2.1) (fun a=>by kernel_rfl) (fun a kx=>by kernel_rfl)
theorem aby:Mo dI dD bH 40 [(1,.any),(3,.any)] (mOf bH 40):=bQ (ax _) (m:=Kq) rfl (by kernel_rfl) (by kernel_rfl) (ah (by kernel_rfl) (ay abz ai)) (B:=fun a:cG=>zY a.1 a.2.1) (fun a=>by kernel_rfl) (fun a kx=>by kernel_rfl)
theorem abx:Mo dI dD bH 36 [(1,.any),(3,.any)] (mOf bH 36):=bQ (ax _) (m:=Kp) rfl (by kernel_rfl) (by kernel_rfl) (ah (by kernel_rfl) (ay aby ai)) (B:=fun a:cG=>zX a.1 a.2.1) (fun a=>by kernel_rfl) (fun a kx=>by kernel_rfl)
theorem abw:Mo dI dD bH 32 [(1,.any),(3,.any)] (mOf bH 32):=bQ (ax _) (m:=Ko) rfl (by kernel_rfl) (by kernel_rfl) (ah (by kernel_rfl) (ay abx ai)) (B:=fun a:cG=>zW a.1 a.2.1) (fun a=>by kernel_rfl) (fun a kx=>by kernel_rfl)
theorem abv:Mo dI dD bH 28 [(1,.any),(3,.any),(4,.any)] (mOf bH 28):=bQ (ax _) (m:=Kn) rfl (by kernel_rfl) (by kernel_rfl) (ah (by kernel_rfl) (ay abw ai)) (B:=fun a:hE=>zV a.1 a.2.1 a.2.2.1) (fun a=>by kernel_rfl) (fun a kx=>by kernel_rfl)
theorem abt:Mo dI dD bH 24 [(1,.any),(3,.any),(4,.any)] (mOf bH 24):=bQ (ax _) (m:=Kl) rfl (by kernel_rfl) (by kernel_rfl) (ah (by kernel_rfl) (ay abu (ay abv ai))) (B:=fun a:hE=>zT a.1 a.2.1 a.2.2.1) (fun a=>by kernel_rfl) (fun a kx=>by kernel_rfl)
theorem abD:Mo dI dD bH 7 [(1,.any)] (mOf bH 7):=bQ (ax _) (m:=Kv) rfl (by kernel_rfl) (by kernel_rfl) (ah (by kernel_rfl) (ay abq (ay abt ai))) (B:=fun a:Y0=>Aa a.1) (fun a=>by kernel_rfl) (fun a kx=>by kernel_rfl)
theorem YM:aF dI dD aa bH.keep bH.body:=(ah (by kernel_rfl) (ay abD ai))
theorem Us:FnE dI dD aa bH BN (fun d:Y0=>E8 d.1):=fun d k=>by kernel_rfl
theorem Uy:FnE t0 q0 aa Xe vf (fun d:kN=>EY d.1 d.2.1):=fun d k=>by kernel_rfl
theorem UC:FnE ag1 q0 aa Xg BV (fun d:eB=>E5 d.1 d.2.1):=fun d k=>by kernel_rfl
theorem UH:FnE ag3 q0 aa Xj B0 (fun d:dM=>E6 d.1):=fun d k=>by kernel_rfl
theorem abT:Mo qn pY gm 25 [(1,.any),(3,.any),(4,.any),(5,.any),(6,.any)] (.trim [(1,.any),(3,.any),(4,.any),(5,.any)] (.loop (.mark 27 [(1,.any),(3,.any),(4,.any),(5,.any),(6,.any)] (mOf gm 27)))):=aE (ax _) (m:=KL) rfl (by kernel_rfl) (by kernel_rfl) (fun a=>by kernel_rfl) (ah (by kernel_rfl) ai) (B:=fun a:xH=>rA a.1 a.2.1 a.2.2.1 a.2.2.2.1 a.2.2.2.2.1) (fun a=>by kernel_rfl) (fun a kn kx=>by kernel_rfl)
theorem abS:Mo qn pY gm 16 [(1,.any),(3,.any),(4,.any),(5,.any)] (.trim [(1,.any),(3,.any),(4,.any)] (.loop (.mark 18 [(1,.any),(3,.any),(4,.any),(5,.any)] (mOf gm 18)))):=aE (ax _) (m:=KK) rfl (by kernel_rfl) (by kernel_rfl) (fun a=>by kernel_rfl) (ah (by kernel_rfl) (ay abT ai)) (B:=fun a:kO=>rz a.1 a.2.1 a.2.2.1 a.2.2.2.1) (fun a=>by kernel_rfl) (fun a kn kx=>by kernel_rfl)
theorem abU:Mo qn pY gm 7 [(1,.any),(3,.any),(4,.any)] (.trim [(3,.any)] (.loop (.mark 9 [(1,.any),(3,.any),(4,.any)] (mOf gm 9)))):=aE (ax _) (m:=KM) rfl (by kernel_rfl) (by kernel_rfl) (fun a=>by kernel_rfl) (ah (by kernel_rfl) (ay abS ai)) (B:=fun a:kP=>rB a.1 a.2.1 a.2.2.1) (fun a=>by kernel_rfl) (fun a kn kx=>by kernel_rfl)
theorem YW:aF qn pY aa gm.keep gm.body:=(ah (by kernel_rfl) (ay abU ai))
theorem UK:FnE qn pY aa gm B2 (fun d:dM=>E1 d.1):=fun d k=>by kernel_rfl
theorem abV:Mo IH Hx oM 11 [(0,.any),(1,.any),(5,.any)] (.trim [(4,.any)] (.loop (.mark 13 [(0,.any),(1,.any),(5,.any)] (mOf oM 13)))):=aE (ax _) (m:=KN) rfl (by kernel_rfl) (by kernel_rfl) (fun a=>by kernel_rfl) (ah (by kernel_rfl) ai) (B:=fun a:xI=>rh a.1 a.2.1 a.2.2.1) (fun a=>by kernel_rfl) (fun a kn kx=>by kernel_rfl)
theorem YX:aF IH Hx aa oM.keep oM.body:=(ah (by kernel_rfl) (ay abV ai))
theorem UN:FnE IH Hx aa oM B5 (fun d:xJ=>ES d.1 d.2.1):=fun d k=>by kernel_rfl
theorem UR:FnE ag5 q0 aa Xp B9 (fun d:w8=>EE d.1 d.2.1):=fun d k=>by kernel_rfl
theorem UX:FnE ag6 q0 aa Xq Cc (fun d:gN=>Ef d.1 d.2.1):=fun d k=>by kernel_rfl
end Go.Proofs.YtnpgljilkkipkaaGreat
