/- YtnpgljilkkipkaaGreatEq3: the functions' runs are their trees. No statement of the seat is proved here. -/
import Derived.Test.YtnpgljilkkipkaaGreatTabs
set_option linter.unusedSimpArgs false
set_option linter.unusedVariables false
set_option maxRecDepth 100000
namespace Go.Proofs.YtnpgljilkkipkaaGreat
open Go Go.A2
theorem e3:FnE t0 q0 aa g3 N3 (fun d:Unit=>Na):=fun d k=>by kernel_rfl
theorem e6:FnE t0 q0 aa g6 N6 (fun d:cV=>EL d.1):=fun d k=>by kernel_rfl
theorem aa9:Mo t12 Hr oC 7 [(0,.any),(3,.own),(4,.any)] (.trim [(3,.any)] (.loop (.mark 9 [(0,.any),(3,.own),(4,.any)] (mOf oC 9)))):=aE (ax _) (m:=J2) rfl (by kernel_rfl) (by kernel_rfl) (fun a=>by kernel_rfl) (ah (by kernel_rfl) ai) (B:=fun a:hM=>Ja a.1 a.2.1 a.2.2.1) (fun a=>by kernel_rfl) (fun a kn kx=>by kernel_rfl)
theorem jv:aF t12 Hr aa oC.keep oC.body:=(ah (by kernel_rfl) (ay aa9 ai))
theorem T3:FnE t12 Hr aa oC Bz (fun d:Y7=>MO d.1):=fun d k=>by kernel_rfl
theorem Uo:FnE t14 q0 aa Xh BP (fun d:Y7=>MR d.1):=fun d k=>by kernel_rfl
theorem U9:FnE t0 q0 aa Xy Ct (fun d:Y6=>MX d.1 d.2.1 d.2.2.1):=fun d k=>by kernel_rfl
theorem aco:Mo t0 HS pg 7 [(0,.any),(2,.any),(3,.any),(4,.any)] (.trim [(2,.any),(3,.any)] (.loop (.mark 9 [(0,.any),(2,.any),(3,.any),(4,.any)] (mOf pg 9)))):=aE (ax _) (m:=Lg) rfl (by kernel_rfl) (by kernel_rfl) (fun a=>by kernel_rfl) (ah (by kernel_rfl) ai) (B:=fun a:wq=>Jf a.1 a.2.1 a.2.2.1 a.2.2.2.1) (fun a=>by kernel_rfl) (fun a kn kx=>by kernel_rfl)
theorem Zo:aF t0 HS aa pg.keep pg.body:=(ah (by kernel_rfl) (ay aco ai))
theorem Vc:FnE t0 HS aa pg Cw (fun d:Y7=>M0 d.1):=fun d k=>by kernel_rfl
theorem Vd:FnE t0 q0 aa XA Cy (fun d:TPhys×Unit=>M3 d.1):=fun d k=>by kernel_rfl
theorem Vi:FnE t30 q0 aa XD CC (fun d:Nk=>M8 d.1 d.2.1 d.2.2.1 d.2.2.2.1):=fun d k=>by kernel_rfl
theorem acx:Mo t0 zl jr 5 [(1,.any),(2,.own),(3,.own),(9,.any),(10,.any),(11,.any)] (.trim [(1,.any),(2,.any),(3,.own)] (.loop (.mark 7 [(1,.any),(2,.own),(3,.own),(9,.any),(10,.any),(11,.any)] (mOf jr 7)))):=aE (ax _) (m:=Lp) rfl (by kernel_rfl) (by kernel_rfl) (fun a=>by kernel_rfl) (ah (by kernel_rfl) ai) (B:=fun a:wu=>qQ a.1 a.2.1 a.2.2.1 a.2.2.2.1 a.2.2.2.2.1 a.2.2.2.2.2.1) (fun a=>by kernel_rfl) (fun a kn kx=>by kernel_rfl)
theorem acw:Mo t0 zl jr 20 [(2,.any),(3,.own),(22,.any),(23,.any),(24,.any)] (.trim [(2,.any),(3,.any)] (.loop (.mark 22 [(2,.any),(3,.own),(22,.any),(23,.any),(24,.any)] (mOf jr 22)))):=aE (ax _) (m:=Ln) rfl (by kernel_rfl) (by kernel_rfl) (fun a=>by kernel_rfl) (ah (by kernel_rfl) ai) (B:=fun a:wv=>qP a.1 a.2.1 a.2.2.1 a.2.2.2.1 a.2.2.2.2.1) (fun a=>by kernel_rfl) (fun a kn kx=>by kernel_rfl)
theorem Zt:aF t0 zl aa jr.keep jr.body:=(ah (by kernel_rfl) (ay acx (ay acw ai)))
theorem Vp:FnE t0 zl aa jr CJ (fun d:Y0=>Ed d.1):=fun d k=>by kernel_rfl
theorem acz:Mo t0 HW pn 7 [(3,.own),(7,.any),(8,.any),(9,.any)] (.trim [(3,.any)] (.loop (.mark 9 [(3,.own),(7,.any),(8,.any),(9,.any)] (mOf pn 9)))):=aE (ax _) (m:=Ls) rfl (by kernel_rfl) (by kernel_rfl) (fun a=>by kernel_rfl) (ah (by kernel_rfl) ai) (B:=fun a:wx=>qR a.1 a.2.1 a.2.2.1 a.2.2.2.1) (fun a=>by kernel_rfl) (fun a kn kx=>by kernel_rfl)
theorem Zv:aF t0 HW aa pn.keep pn.body:=(ah (by kernel_rfl) (ay acz ai))
theorem Vs:FnE t0 HW aa pn CN (fun d:Y0=>Ee d.1):=fun d k=>by kernel_rfl
theorem acB:Mo t0 zn js 20 [(1,.any),(2,.any),(5,.any),(6,.any)] (.trim [(1,.any),(2,.any),(4,.any),(5,.any)] (.loop (.mark 22 [(1,.any),(2,.any),(5,.any),(6,.any)] (mOf js 22)))):=aE (ax _) (m:=Lv) rfl (by kernel_rfl) (by kernel_rfl) (fun a=>by kernel_rfl) (ah (by kernel_rfl) ai) (B:=fun a:gY=>re a.1 a.2.1 a.2.2.1 a.2.2.2.1) (fun a=>by kernel_rfl) (fun a kn kx=>by kernel_rfl)
theorem acA:Mo t0 zn js 11 [(1,.any),(2,.any),(5,.any)] (.trim [(4,.any)] (.loop (.mark 13 [(1,.any),(2,.any),(5,.any)] (mOf js 13)))):=aE (ax _) (m:=Lu) rfl (by kernel_rfl) (by kernel_rfl) (fun a=>by kernel_rfl) (ah (by kernel_rfl) (ay acB ai)) (B:=fun a:gZ=>z8 a.1 a.2.1 a.2.2.1) (fun a=>by kernel_rfl) (fun a kn kx=>by kernel_rfl)
theorem Zw:aF t0 zn aa js.keep js.body:=(ah (by kernel_rfl) (ay acA ai))
theorem Vt:FnE t0 zn aa js CO (fun d:kK=>EH d.1 d.2.1):=fun d k=>by kernel_rfl
theorem Vu:FnE t0 q0 aa XK vB (fun d:gX=>Eo d.1):=fun d k=>by kernel_rfl
theorem VA:FnE t0 q0 aa XO vF (fun d:Y7=>EJ d.1):=fun d k=>by kernel_rfl
theorem VI:FnE t56 q0 aa XS CZ (fun d:xf=>FM d.1 d.2.1.2.1):=fun d k=>by kernel_rfl
theorem VO:FnE t62 q0 aa XW C5 (fun d:Nl=>D7 d.1 d.2.1):=fun d k=>by kernel_rfl
theorem VV:FnE t0 q0 aa X0 Dc (fun d:TSq×W .u64×Unit=>MC d.1 d.2.1):=fun d k=>by kernel_rfl
theorem VX:FnE t71 q0 aa X1 De (fun d:Y0=>Eb d.1):=fun d k=>by kernel_rfl
theorem acW:Mo t74 H8 pB 7 [(2,.any),(3,.any),(4,.any),(5,.any),(6,.any)] (.trim [(4,.any),(5,.any)] (.loop (.mark 9 [(2,.any),(3,.any),(4,.any),(5,.any),(6,.any)] (mOf pB 9)))):=aE (ax _) (m:=LS) rfl (by kernel_rfl) (by kernel_rfl) (fun a=>by kernel_rfl) (ah (by kernel_rfl) ai) (B:=fun a:gN=>q9 a.1 a.2.1 a.2.2.1 a.2.2.2.1 a.2.2.2.2.1) (fun a=>by kernel_rfl) (fun a kn kx=>by kernel_rfl)
theorem ZI:aF t74 H8 aa pB.keep pB.body:=(ah (by kernel_rfl) (ay acW ai))
theorem V0:FnE t74 H8 aa pB Dg (fun d:wg=>EE d.1 d.2.1):=fun d k=>by kernel_rfl
theorem acX:Mo t76 H9 pC 5 [(1,.any),(6,.any),(7,.any)] (.trim [(1,.any),(2,.any)] (.loop (.mark 7 [(1,.any),(6,.any),(7,.any)] (mOf pC 7)))):=aE (ax _) (m:=LU) rfl (by kernel_rfl) (by kernel_rfl) (fun a=>by kernel_rfl) (ah (by kernel_rfl) ai) (B:=fun a:wy=>qN a.1 a.2.1 a.2.2.1) (fun a=>by kernel_rfl) (fun a kn kx=>by kernel_rfl)
theorem ZJ:aF t76 H9 aa pC.keep pC.body:=(ah (by kernel_rfl) (ay acX ai))
theorem V2:FnE t76 H9 aa pC Di (fun d:wz=>D9 d.1):=fun d k=>by kernel_rfl
theorem ac1:Mo t88 Ie pG 5 [(0,.any),(1,.any),(7,.any),(8,.any)] (.trim [(4,.any)] (.loop (.mark 7 [(0,.any),(1,.any),(7,.any),(8,.any)] (mOf pG 7)))):=aE (ax _) (m:=LY) rfl (by kernel_rfl) (by kernel_rfl) (fun a=>by kernel_rfl) (ah (by kernel_rfl) ai) (B:=fun a:wA=>sw a.1 a.2.1.2.1 a.2.2.1 a.2.2.2.1) (fun a=>by kernel_rfl) (fun a kn kx=>by kernel_rfl)
theorem ZN:aF t88 Ie aa pG.keep pG.body:=(ah (by kernel_rfl) (ay ac1 ai))
theorem We:FnE t88 Ie aa pG Du (fun d:Nm=>FY d.1 d.2.1.2.1):=fun d k=>by kernel_rfl
theorem Wf:FnE t89 q0 aa Yd vH (fun d:eB=>DL d.1 d.2.1):=fun d k=>by kernel_rfl
theorem Wi:FnE t0 q0 aa Ye vI (fun d:Nn=>DZ d.1 d.2.1):=fun d k=>by kernel_rfl
theorem ac5:Mo t93 Ii pJ 7 [(1,.any),(5,.own),(13,.any),(14,.any),(15,.any)] (.trim [(5,.any)] (.loop (.mark 9 [(1,.any),(5,.own),(13,.any),(14,.any),(15,.any)] (mOf pJ 9)))):=aE (ax _) (m:=L2) rfl (by kernel_rfl) (by kernel_rfl) (fun a=>by kernel_rfl) (ah (by kernel_rfl) ai) (B:=fun a:wB=>qM a.1 a.2.1 a.2.2.1 a.2.2.2.1 a.2.2.2.2.1) (fun a=>by kernel_rfl) (fun a kn kx=>by kernel_rfl)
theorem ZQ:aF t93 Ii aa pJ.keep pJ.body:=(ah (by kernel_rfl) (ay ac5 ai))
theorem Wj:FnE t93 Ii aa pJ Dy (fun d:kO=>D0 d.1 d.2.1):=fun d k=>by kernel_rfl
theorem ac7:Mo t98 Ik pL 7 [(0,.any),(3,.any),(4,.any),(7,.any),(8,.any),(9,.any)] (.trim [(0,.any),(3,.any),(4,.any)] (.loop (.mark 9 [(0,.any),(3,.any),(4,.any),(7,.any),(8,.any),(9,.any)] (mOf pL 9)))):=aE (ax _) (m:=L4) rfl (by kernel_rfl) (by kernel_rfl) (fun a=>by kernel_rfl) (ah (by kernel_rfl) ai) (B:=fun a:wC=>qZ a.1 a.2.1 a.2.2.1 a.2.2.2.1 a.2.2.2.2.1 a.2.2.2.2.2.1) (fun a=>by kernel_rfl) (fun a kn kx=>by kernel_rfl)
theorem ZS:aF t98 Ik aa pL.keep pL.body:=(ah (by kernel_rfl) (ay ac7 ai))
theorem Wo:FnE t98 Ik aa pL DD (fun d:cq=>Ew d.1):=fun d k=>by kernel_rfl
theorem TG:FnE t0 q0 aa WW Bg (fun d:Y7=>MJ d.1):=fun d k=>by kernel_rfl
theorem TL:FnE t0 q0 aa W0 Bm (fun d:Y7=>Mz d.1):=fun d k=>by kernel_rfl
theorem aaY:Mo t0 Ho ou 11 [(0,.any),(3,.any),(4,.any)] (.trim [(3,.any)] (.loop (.mark 13 [(0,.any),(3,.any),(4,.any)] (mOf ou 13)))):=aE (ax _) (m:=JR) rfl (by kernel_rfl) (by kernel_rfl) (fun a=>by kernel_rfl) (ah (by kernel_rfl) ai) (B:=fun a:wD=>sA a.1 a.2.1 a.2.2.1) (fun a=>by kernel_rfl) (fun a kn kx=>by kernel_rfl)
theorem Yw:aF t0 Ho aa ou.keep ou.body:=(ah (by kernel_rfl) (ay aaY ai))
theorem TP:FnE t0 Ho aa ou Bp (fun d:cV=>F5 d.1):=fun d k=>by kernel_rfl
theorem TS:FnE ag1 q0 aa W5 Bt (fun d:Y7=>ME d.1):=fun d k=>by kernel_rfl
theorem aaZ:Mo t0 Hp oA 7 [(3,.any),(6,.any),(7,.any),(8,.any)] (.trim [(2,.any)] (.loop (.mark 9 [(3,.any),(6,.any),(7,.any),(8,.any)] (mOf oA 9)))):=aE (ax _) (m:=JS) rfl (by kernel_rfl) (by kernel_rfl) (fun a=>by kernel_rfl) (ah (by kernel_rfl) ai) (B:=fun a:wE=>qY a.1 a.2.1 a.2.2.1 a.2.2.2.1) (fun a=>by kernel_rfl) (fun a kn kx=>by kernel_rfl)
theorem Yx:aF t0 Hp aa oA.keep oA.body:=(ah (by kernel_rfl) (ay aaZ ai))
theorem TW:FnE t0 Hp aa oA Bw (fun d:wF=>Et d.1):=fun d k=>by kernel_rfl
theorem aa5:Mo IJ Hs oD 11 [(1,.any),(10,.any),(11,.any),(12,.any)] (.trim [(4,.any)] (.loop (.mark 13 [(1,.any),(10,.any),(11,.any),(12,.any)] (mOf oD 13)))):=aE (ax _) (m:=JY) rfl (by kernel_rfl) (by kernel_rfl) (fun a=>by kernel_rfl) (ah (by kernel_rfl) ai) (B:=fun a:wG=>sj a.1 a.2.1 a.2.2.1 a.2.2.2.1) (fun a=>by kernel_rfl) (fun a kn kx=>by kernel_rfl)
theorem YA:aF IJ Hs aa oD.keep oD.body:=(ah (by kernel_rfl) (ay aa5 ai))
theorem T9:FnE IJ Hs aa oD BF (fun d:xW=>FI d.1 d.2.1):=fun d k=>by kernel_rfl
theorem Ue:FnE ag6 q0 aa Xe BH (fun d:Y0=>Fu d.1):=fun d k=>by kernel_rfl
theorem Uh:FnE t0 q0 aa Xf vo (fun d:gX=>ES d.1):=fun d k=>by kernel_rfl
theorem abg:Mo t0 Hw oH 7 [(0,.any),(1,.any),(5,.any),(6,.any)] (.trim [(5,.any)] (.loop (.mark 9 [(0,.any),(1,.any),(5,.any),(6,.any)] (mOf oH 9)))):=aE (ax _) (m:=J9) rfl (by kernel_rfl) (by kernel_rfl) (fun a=>by kernel_rfl) (ah (by kernel_rfl) ai) (B:=fun a:gM=>rp a.1 a.2.1 a.2.2.1 a.2.2.2.1) (fun a=>by kernel_rfl) (fun a kn kx=>by kernel_rfl)
theorem YH:aF t0 Hw aa oH.keep oH.body:=(ah (by kernel_rfl) (ay abg ai))
theorem Ul:FnE t0 Hw aa oH BM (fun d:kH=>EZ d.1 d.2.1):=fun d k=>by kernel_rfl
theorem abl:Mo t0 Hy oJ 5 [(2,.any),(3,.any),(5,.any)] (.trim [(4,.any)] (.loop (.mark 7 [(2,.any),(3,.any),(5,.any)] (mOf oJ 7)))):=aE (ax _) (m:=Ke) rfl (by kernel_rfl) (by kernel_rfl) (fun a=>by kernel_rfl) (ah (by kernel_rfl) ai) (B:=fun a:wH=>sa a.1 a.2.1 a.2.2.1) (fun a=>by kernel_rfl) (fun a kn kx=>by kernel_rfl)
theorem YK:aF t0 Hy aa oJ.keep oJ.body:=(ah (by kernel_rfl) (ay abl ai))
theorem Up:FnE t0 Hy aa oJ vq (fun d:xg=>Fx d.1 d.2.1):=fun d k=>by kernel_rfl
theorem abt:Mo zH zg jl 13 [(1,.any),(3,.any),(4,.any),(5,.any)] (.trim [(1,.any),(2,.any),(4,.any)] (.loop (.mark 15 [(1,.any),(3,.any),(4,.any),(5,.any)] (mOf jl 15)))):=aE (ax _) (m:=Kl) rfl (by kernel_rfl) (by kernel_rfl) (fun a=>by kernel_rfl) (ah (by kernel_rfl) ai) (B:=fun a:wI=>rT a.1 a.2.1 a.2.2.1 a.2.2.2.1) (fun a=>by kernel_rfl) (fun a kn kx=>by kernel_rfl)
theorem abu:Mo zH zg jl 30 [(1,.any),(4,.any),(6,.any)] (.trim [(2,.any)] (.loop (.mark 32 [(1,.any),(4,.any),(6,.any)] (mOf jl 32)))):=aE (ax _) (m:=Km) rfl (by kernel_rfl) (by kernel_rfl) (fun a=>by kernel_rfl) (ah (by kernel_rfl) ai) (B:=fun a:wJ=>rU a.1 a.2.1 a.2.2.1) (fun a=>by kernel_rfl) (fun a kn kx=>by kernel_rfl)
theorem YO:aF zH zg aa jl.keep jl.body:=(ah (by kernel_rfl) (ay abt (ay abu ai)))
theorem Ut:FnE zH zg aa jl BT (fun d:Y0=>Fs d.1):=fun d k=>by kernel_rfl
theorem abw:Mo IQ HB oM 5 [(1,.any),(3,.any)] (.trim [(1,.any),(2,.any)] (.loop (.mark 7 [(1,.any),(3,.any)] (mOf oM 7)))):=aE (ax _) (m:=Ko) rfl (by kernel_rfl) (by kernel_rfl) (fun a=>by kernel_rfl) (ah (by kernel_rfl) ai) (B:=fun a:wL=>Ar a.1 a.2.1) (fun a=>by kernel_rfl) (fun a kn kx=>by kernel_rfl)
theorem YQ:aF IQ HB aa oM.keep oM.body:=(ah (by kernel_rfl) (ay abw ai))
theorem Uw:FnE IQ HB aa oM BV (fun d:wz=>Fo d.1):=fun d k=>by kernel_rfl
theorem UB:FnE t0 q0 aa Xj vt (fun d:eB=>vP d.1 d.2.1):=fun d k=>by kernel_rfl
theorem abQ:Mo t0 HF oQ 7 [(1,.any),(2,.any),(4,.any),(5,.any),(6,.any)] (.trim [(4,.any),(5,.any)] (.loop (.mark 9 [(1,.any),(2,.any),(4,.any),(5,.any),(6,.any)] (mOf oQ 9)))):=aE (ax _) (m:=KI) rfl (by kernel_rfl) (by kernel_rfl) (fun a=>by kernel_rfl) (ah (by kernel_rfl) ai) (B:=fun a:wM=>rM a.1 a.2.1 a.2.2.1 a.2.2.2.1 a.2.2.2.2.1) (fun a=>by kernel_rfl) (fun a kn kx=>by kernel_rfl)
theorem YX:aF t0 HF aa oQ.keep oQ.body:=(ah (by kernel_rfl) (ay abQ ai))
theorem UF:FnE t0 HF aa oQ B3 (fun d:kO=>Ff d.1 d.2.1):=fun d k=>by kernel_rfl
theorem abX:Mo lI lA eX 52 [(1,.any),(3,.any),(4,.any),(5,.any),(6,.any),(7,.any),(8,.any)] (.trim [(1,.any),(3,.any),(4,.any),(5,.any),(7,.any)] (.loop (.mark 54 [(1,.any),(3,.any),(4,.any),(5,.any),(6,.any),(7,.any),(8,.any)] (mOf eX 54)))):=aE (ax _) (m:=KP) rfl (by kernel_rfl) (by kernel_rfl) (fun a=>by kernel_rfl) (ah (by kernel_rfl) ai) (B:=fun a:wN=>rI a.1 a.2.1 a.2.2.1 a.2.2.2.1 a.2.2.2.2.1 a.2.2.2.2.2.1 a.2.2.2.2.2.2.1) (fun a=>by kernel_rfl) (fun a kn kx=>by kernel_rfl)
theorem abV:Mo lI lA eX 29 [(1,.any),(3,.any),(4,.any),(5,.any)] (.trim [(1,.any),(2,.any),(3,.any),(4,.any)] (.loop (.mark 31 [(1,.any),(3,.any),(4,.any),(5,.any)] (mOf eX 31)))):=aE (ax _) (m:=KN) rfl (by kernel_rfl) (by kernel_rfl) (fun a=>by kernel_rfl) (ah (by kernel_rfl) (ay abX ai)) (B:=fun a:wO=>rG a.1 a.2.1 a.2.2.1 a.2.2.2.1) (fun a=>by kernel_rfl) (fun a kn kx=>by kernel_rfl)
theorem abU:Mo lI lA eX 20 [(1,.any),(3,.any),(4,.any)] (.trim [(1,.any),(2,.any),(3,.any)] (.loop (.mark 22 [(1,.any),(3,.any),(4,.any)] (mOf eX 22)))):=aE (ax _) (m:=KM) rfl (by kernel_rfl) (by kernel_rfl) (fun a=>by kernel_rfl) (ah (by kernel_rfl) (ay abV ai)) (B:=fun a:gV=>rF a.1 a.2.1 a.2.2.1) (fun a=>by kernel_rfl) (fun a kn kx=>by kernel_rfl)
theorem abW:Mo lI lA eX 5 [(1,.any),(3,.any)] (.trim [(2,.any)] (.loop (.mark 7 [(1,.any),(3,.any)] (mOf eX 7)))):=aE (ax _) (m:=KO) rfl (by kernel_rfl) (by kernel_rfl) (fun a=>by kernel_rfl) (ah (by kernel_rfl) (ay abU ai)) (B:=fun a:fx=>rH a.1 a.2.1) (fun a=>by kernel_rfl) (fun a kn kx=>by kernel_rfl)
theorem Za:aF lI lA aa eX.keep eX.body:=(ah (by kernel_rfl) (ay abW ai))
theorem UM:FnE lI lA aa eX B9 (fun d:dM=>Fa d.1):=fun d k=>by kernel_rfl
theorem UR:FnE ahb q0 aa Xr Cd (fun d:dM=>Fk d.1):=fun d k=>by kernel_rfl
theorem US:FnE t0 q0 aa Xs Ce (fun d:v9=>EK d.1 d.2.1 d.2.2.1):=fun d k=>by kernel_rfl
theorem ab5:Mo t0 HK oW 5 [(0,.any),(3,.any)] (.trim [(2,.any)] (.loop (.mark 7 [(0,.any),(3,.any)] (mOf oW 7)))):=aE (ax _) (m:=KX) rfl (by kernel_rfl) (by kernel_rfl) (fun a=>by kernel_rfl) (ah (by kernel_rfl) ai) (B:=fun a:wP=>ru a.1 a.2.1) (fun a=>by kernel_rfl) (fun a kn kx=>by kernel_rfl)
theorem Zf:aF t0 HK aa oW.keep oW.body:=(ah (by kernel_rfl) (ay ab5 ai))
theorem UZ:FnE t0 HK aa oW Ck (fun d:wF=>E2 d.1):=fun d k=>by kernel_rfl
theorem ab6:Mo t0 HL oY 7 [(0,.any),(3,.any),(4,.any)] (.trim [(2,.any)] (.loop (.mark 9 [(0,.any),(3,.any),(4,.any)] (mOf oY 9)))):=aE (ax _) (m:=KY) rfl (by kernel_rfl) (by kernel_rfl) (fun a=>by kernel_rfl) (ah (by kernel_rfl) ai) (B:=fun a:wQ=>rq a.1 a.2.1 a.2.2.1) (fun a=>by kernel_rfl) (fun a kn kx=>by kernel_rfl)
theorem Zg:aF t0 HL aa oY.keep oY.body:=(ah (by kernel_rfl) (ay ab6 ai))
theorem U0:FnE t0 HL aa oY Cm (fun d:xO=>E1 d.1):=fun d k=>by kernel_rfl
theorem acf:Mo fh fe cB 5 [(2,.any),(3,.any),(5,.any),(18,.any)] (mOf cB 5):=bR (ax _) (m:=K7) rfl (by kernel_rfl) (by kernel_rfl) (ah (by kernel_rfl) ai) (B:=fun a:Np=>lR a.1 a.2.1 a.2.2.1 a.2.2.2.1) (fun a=>by kernel_rfl) (fun a kx=>by kernel_rfl)
theorem ab9:Mo fh fe cB 23 [(2,.any),(5,.any),(50,.any)] (mOf cB 23):=bR (ax _) (m:=K2) rfl (by kernel_rfl) (by kernel_rfl) (ah (by kernel_rfl) ai) (B:=fun a:Nq=>Av a.1 a.2.1 a.2.2.1) (fun a=>by kernel_rfl) (fun a kx=>by kernel_rfl)
theorem ace:Mo fh fe cB 37 [(5,.any)] (mOf cB 37):=bR (ax _) (m:=K6) rfl (by kernel_rfl) (by kernel_rfl) (ah (by kernel_rfl) ai) (B:=fun a:cq=>Az a.1) (fun a=>by kernel_rfl) (fun a kx=>by kernel_rfl)
theorem acd:Mo fh fe cB 33 [(2,.any),(5,.any)] (mOf cB 33):=bR (ax _) (m:=K5) rfl (by kernel_rfl) (by kernel_rfl) (ah (by kernel_rfl) (ay ace ai)) (B:=fun a:cH=>Ay a.1 a.2.1) (fun a=>by kernel_rfl) (fun a kx=>by kernel_rfl)
theorem acb:Mo fh fe cB 29 [(2,.any),(5,.any)] (mOf cB 29):=bR (ax _) (m:=K4) rfl (by kernel_rfl) (by kernel_rfl) (ah (by kernel_rfl) (ay acd ai)) (B:=fun a:cH=>Ax a.1 a.2.1) (fun a=>by kernel_rfl) (fun a kx=>by kernel_rfl)
theorem aca:Mo fh fe cB 25 [(2,.any),(5,.any)] (mOf cB 25):=bR (ax _) (m:=K3) rfl (by kernel_rfl) (by kernel_rfl) (ah (by kernel_rfl) (ay acb ai)) (B:=fun a:cH=>Aw a.1 a.2.1) (fun a=>by kernel_rfl) (fun a kx=>by kernel_rfl)
theorem ab8:Mo fh fe cB 21 [(2,.any),(3,.any),(5,.any),(6,.any),(7,.any)] (mOf cB 21):=bR (ax _) (m:=K1) rfl (by kernel_rfl) (by kernel_rfl) (ah (by kernel_rfl) (ay ab9 (ay aca ai))) (B:=fun a:wR=>Au a.1 a.2.1 a.2.2.1 a.2.2.2.1 a.2.2.2.2.1) (fun a=>by kernel_rfl) (fun a kx=>by kernel_rfl)
theorem ab7:Mo fh fe cB 17 [(2,.any),(3,.any),(5,.any),(6,.any),(7,.any)] (mOf cB 17):=bR (ax _) (m:=KZ) rfl (by kernel_rfl) (by kernel_rfl) (ah (by kernel_rfl) (ay ab8 ai)) (B:=fun a:wR=>As a.1 a.2.1 a.2.2.1 a.2.2.2.1 a.2.2.2.2.1) (fun a=>by kernel_rfl) (fun a kx=>by kernel_rfl)
theorem acg:Mo fh fe cB 9 [(2,.any),(3,.any),(5,.any)] (mOf cB 9):=bR (ax _) (m:=K8) rfl (by kernel_rfl) (by kernel_rfl) (ah (by kernel_rfl) (ay ab7 ai)) (B:=fun a:Nr=>AA a.1 a.2.1 a.2.2.1) (fun a=>by kernel_rfl) (fun a kx=>by kernel_rfl)
theorem Zh:aF fh fe aa cB.keep cB.body:=(ah (by kernel_rfl) (ay acf (ay acg ai)))
theorem U1:FnE fh fe aa cB vy (fun d:gQ=>Fy d.1 d.2.1):=fun d k=>by kernel_rfl
theorem acj:Mo I0 HO pb 11 [(1,.any),(3,.any)] (.trim [(1,.any),(2,.any)] (.loop (.mark 13 [(1,.any),(3,.any)] (mOf pb 13)))):=aE (ax _) (m:=Lb) rfl (by kernel_rfl) (by kernel_rfl) (fun a=>by kernel_rfl) (ah (by kernel_rfl) ai) (B:=fun a:wT=>qV a.1 a.2.1) (fun a=>by kernel_rfl) (fun a kn kx=>by kernel_rfl)
theorem Zk:aF I0 HO aa pb.keep pb.body:=(ah (by kernel_rfl) (ay acj ai))
theorem U5:FnE I0 HO aa pb Cp (fun d:kM=>Er d.1):=fun d k=>by kernel_rfl
end Go.Proofs.YtnpgljilkkipkaaGreat
