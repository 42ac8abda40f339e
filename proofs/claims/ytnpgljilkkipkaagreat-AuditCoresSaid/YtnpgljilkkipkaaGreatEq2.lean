/- YtnpgljilkkipkaaGreatEq2: the functions' runs are their trees. No statement of the seat is proved here. -/
import Derived.Test.YtnpgljilkkipkaaGreatTabs
set_option linter.unusedSimpArgs false
set_option linter.unusedVariables false
set_option maxRecDepth 100000
namespace Go.Proofs.YtnpgljilkkipkaaGreat
open Go Go.A2
theorem e4:FnE t0 q0 aa g4 N4 (fun d:Y6=>Fe d.1 d.2.1 d.2.2.1):=fun d k=>by kernel_rfl
theorem acV:Mo t8 q8 g8 11 [(1,.any),(3,.any)] (.trim [(2,.any)] (.loop (.mark 13 [(1,.any),(3,.any)] (mOf g8 13)))):=aE (ax _) (m:=LR) rfl (by kernel_rfl) (by kernel_rfl) (fun a=>by kernel_rfl) (ah (by kernel_rfl) ai) (B:=fun a:xK=>I0 a.1 a.2.1) (fun a=>by kernel_rfl) (fun a kn kx=>by kernel_rfl)
theorem h8:aF t8 q8 aa g8.keep g8.body:=(ah (by kernel_rfl) (ay acV ai))
theorem e8:FnE t8 q8 aa g8 N8 (fun d:TMach×Unit=>ML d.1):=fun d k=>by kernel_rfl
theorem acd:Mo t0 HD oT 7 [(0,.any),(3,.own),(4,.any)] (.trim [(3,.any)] (.loop (.mark 9 [(0,.any),(3,.own),(4,.any)] (mOf oT 9)))):=aE (ax _) (m:=K5) rfl (by kernel_rfl) (by kernel_rfl) (fun a=>by kernel_rfl) (ah (by kernel_rfl) ai) (B:=fun a:hH=>I8 a.1 a.2.1 a.2.2.1) (fun a=>by kernel_rfl) (fun a kn kx=>by kernel_rfl)
theorem Zf:aF t0 HD aa oT.keep oT.body:=(ah (by kernel_rfl) (ay acd ai))
theorem U1:FnE t0 HD aa oT Cg (fun d:Y7=>M4 d.1):=fun d k=>by kernel_rfl
theorem ace:Mo t0 HE oU 7 [(0,.any),(1,.any),(2,.any)] (.trim [(0,.any),(1,.any)] (.loop (.mark 9 [(0,.any),(1,.any),(2,.any)] (mOf oU 9)))):=aE (ax _) (m:=K6) rfl (by kernel_rfl) (by kernel_rfl) (fun a=>by kernel_rfl) (ah (by kernel_rfl) ai) (B:=fun a:xL=>I5 a.1 a.2.1 a.2.2.1) (fun a=>by kernel_rfl) (fun a kn kx=>by kernel_rfl)
theorem Zg:aF t0 HE aa oU.keep oU.body:=(ah (by kernel_rfl) (ay ace ai))
theorem U2:FnE t0 HE aa oU Ch (fun d:Unit=>MW):=fun d k=>by kernel_rfl
theorem U5:FnE t23 q0 aa Xt Ck (fun d:Y7=>M3 d.1):=fun d k=>by kernel_rfl
theorem U9:FnE t27 q0 aa Xw Co (fun d:Og=>MZ d.1 d.2.1 d.2.2.1):=fun d k=>by kernel_rfl
theorem acn:Mo t33 HI oZ 5 [(0,.any),(1,.any),(7,.any),(8,.any)] (.trim [(4,.any)] (.loop (.mark 7 [(0,.any),(1,.any),(7,.any),(8,.any)] (mOf oZ 7)))):=aE (ax _) (m:=Lf) rfl (by kernel_rfl) (by kernel_rfl) (fun a=>by kernel_rfl) (ah (by kernel_rfl) ai) (B:=fun a:xM=>lO a.1 a.2.2.1 a.2.2.2.1) (fun a=>by kernel_rfl) (fun a kn kx=>by kernel_rfl)
theorem Zl:aF t33 HI aa oZ.keep oZ.body:=(ah (by kernel_rfl) (ay acn ai))
theorem Vf:FnE t33 HI aa oZ Cu (fun d:xn=>FM d.1):=fun d k=>by kernel_rfl
theorem acq:Mo t0 HJ pa 7 [(3,.any),(4,.any),(7,.any),(8,.any),(9,.any)] (.trim [(2,.any),(4,.any)] (.loop (.mark 9 [(3,.any),(4,.any),(7,.any),(8,.any),(9,.any)] (mOf pa 9)))):=aE (ax _) (m:=Li) rfl (by kernel_rfl) (by kernel_rfl) (fun a=>by kernel_rfl) (ah (by kernel_rfl) ai) (B:=fun a:vE=>rU a.1 a.2.1 a.2.2.1 a.2.2.2.1 a.2.2.2.2.1) (fun a=>by kernel_rfl) (fun a kn kx=>by kernel_rfl)
theorem Zn:aF t0 HJ aa pa.keep pa.body:=(ah (by kernel_rfl) (ay acq ai))
theorem Vk:FnE t0 HJ aa pa CA (fun d:xE=>Ft d.1):=fun d k=>by kernel_rfl
theorem Vl:FnE t39 q0 aa XD CB (fun d:Y0=>DZ d.1):=fun d k=>by kernel_rfl
theorem Vp:FnE t0 q0 aa XF CE (fun d:kI=>Ec d.1 d.2.1):=fun d k=>by kernel_rfl
theorem Vt:FnE t0 q0 aa XH CG (fun d:vF=>Fs d.1):=fun d k=>by kernel_rfl
theorem VA:FnE t0 q0 aa XL CN (fun d:TRob×TRen×Unit=>D9 d.1 d.2.1):=fun d k=>by kernel_rfl
theorem VH:FnE t61 q0 aa XP CU (fun d:xr=>Fx d.1 d.2.1.2.1):=fun d k=>by kernel_rfl
theorem acL:Mo t63 HR pk 5 [(0,.any),(1,.any),(7,.any),(8,.any)] (.trim [(4,.any)] (.loop (.mark 7 [(0,.any),(1,.any),(7,.any),(8,.any)] (mOf pk 7)))):=aE (ax _) (m:=LG) rfl (by kernel_rfl) (by kernel_rfl) (fun a=>by kernel_rfl) (ah (by kernel_rfl) ai) (B:=fun a:vG=>sb a.1 a.2.1.2.1 a.2.2.1 a.2.2.2.1) (fun a=>by kernel_rfl) (fun a kn kx=>by kernel_rfl)
theorem ef:aF t63 HR aa pk.keep pk.body:=(ah (by kernel_rfl) (ay acL ai))
theorem VJ:FnE t63 HR aa pk CW (fun d:wU=>FH d.1 d.2.1.2.1):=fun d k=>by kernel_rfl
theorem acM:Mo t0 HS pn 7 [(1,.any),(5,.own),(9,.any),(10,.any),(11,.any)] (.trim [(5,.any)] (.loop (.mark 9 [(1,.any),(5,.own),(9,.any),(10,.any),(11,.any)] (mOf pn 9)))):=aE (ax _) (m:=LH) rfl (by kernel_rfl) (by kernel_rfl) (fun a=>by kernel_rfl) (ah (by kernel_rfl) ai) (B:=fun a:vH=>qJ a.1 a.2.1 a.2.2.1 a.2.2.2.1 a.2.2.2.2.1) (fun a=>by kernel_rfl) (fun a kn kx=>by kernel_rfl)
theorem Zz:aF t0 HS aa pn.keep pn.body:=(ah (by kernel_rfl) (ay acM ai))
theorem VM:FnE t0 HS aa pn CZ (fun d:dk=>D5 d.1 d.2.1):=fun d k=>by kernel_rfl
theorem VN:FnE t0 q0 aa XT C0 (fun d:TLq×W .u64×Unit=>Mz d.1 d.2.1):=fun d k=>by kernel_rfl
theorem VT:FnE t73 q0 aa XX vq (fun d:gU=>Es d.1 d.2.1):=fun d k=>by kernel_rfl
theorem acT:Mo t0 HZ px 5 [(0,.any),(1,.any),(7,.any),(8,.any)] (.trim [(4,.any)] (.loop (.mark 7 [(0,.any),(1,.any),(7,.any),(8,.any)] (mOf px 7)))):=aE (ax _) (m:=LP) rfl (by kernel_rfl) (by kernel_rfl) (fun a=>by kernel_rfl) (ah (by kernel_rfl) ai) (B:=fun a:gK=>sg a.1 a.2.1 a.2.2.1 a.2.2.2.1) (fun a=>by kernel_rfl) (fun a kn kx=>by kernel_rfl)
theorem ZG:aF t0 HZ aa px.keep px.body:=(ah (by kernel_rfl) (ay acT ai))
theorem V2:FnE t0 HZ aa px De (fun d:kG=>FO d.1 d.2.1):=fun d k=>by kernel_rfl
theorem V3:FnE t83 q0 aa X2 Df (fun d:kG=>FD d.1 d.2.1):=fun d k=>by kernel_rfl
theorem V7:FnE t0 q0 aa X6 Di (fun d:TWay×W .u32×Unit=>DB d.1 d.2.1):=fun d k=>by kernel_rfl
theorem acW:Mo t90 H2 pz 15 [(1,.any),(2,.any),(5,.any),(6,.any),(28,.any),(29,.any),(30,.any)] (.trim [(4,.any)] (.loop (.mark 17 [(1,.any),(2,.any),(5,.any),(6,.any),(28,.any),(29,.any),(30,.any)] (mOf pz 17)))):=aE (ax _) (m:=LS) rfl (by kernel_rfl) (by kernel_rfl) (fun a=>by kernel_rfl) (ah (by kernel_rfl) ai) (B:=fun a:vI=>qv a.1 a.2.1 a.2.2.1 a.2.2.2.1 a.2.2.2.2.1 a.2.2.2.2.2.1 a.2.2.2.2.2.2.1) (fun a=>by kernel_rfl) (fun a kn kx=>by kernel_rfl)
theorem ZI:aF t90 H2 aa pz.keep pz.body:=(ah (by kernel_rfl) (ay acW ai))
theorem Wa:FnE t90 H2 aa pz Dk (fun d:fw=>DD d.1 d.2.1):=fun d k=>by kernel_rfl
theorem ac1:Mo t0 H7 pE 11 [(0,.any),(1,.any),(12,.any),(13,.any)] (.trim [(4,.any)] (.loop (.mark 13 [(0,.any),(1,.any),(12,.any),(13,.any)] (mOf pE 13)))):=aE (ax _) (m:=LY) rfl (by kernel_rfl) (by kernel_rfl) (fun a=>by kernel_rfl) (ah (by kernel_rfl) ai) (B:=fun a:vJ=>r0 a.1 a.2.1 a.2.2.1 a.2.2.2.1) (fun a=>by kernel_rfl) (fun a kn kx=>by kernel_rfl)
theorem ZN:aF t0 H7 aa pE.keep pE.body:=(ah (by kernel_rfl) (ay ac1 ai))
theorem Wj:FnE t0 H7 aa pE Dt (fun d:Nb=>FG d.1 d.2.1):=fun d k=>by kernel_rfl
theorem Tw:FnE agP q0 aa WO A3 (fun d:TWay×TCoh×Unit=>DH d.1 d.2.1):=fun d k=>by kernel_rfl
theorem aaN:Mo qj pU gh 27 [(1,.any),(12,.any),(13,.any),(14,.any),(19,.any),(20,.any),(21,.any),(25,.any),(26,.any),(27,.any)] (.trim [(1,.any),(4,.any),(12,.any),(13,.any),(14,.any),(19,.any),(20,.any),(21,.any)] (.loop (.mark 29 [(1,.any),(12,.any),(13,.any),(14,.any),(19,.any),(20,.any),(21,.any),(25,.any),(26,.any),(27,.any)] (mOf gh 29)))):=aE (ax _) (m:=JG) rfl (by kernel_rfl) (by kernel_rfl) (fun a=>by kernel_rfl) (ah (by kernel_rfl) ai) (B:=fun a:vK=>qy a.1.2.1 a.2.1 a.2.2.1 a.2.2.2.1 a.2.2.2.2.1 a.2.2.2.2.2.1 a.2.2.2.2.2.2.1 a.2.2.2.2.2.2.2.1 a.2.2.2.2.2.2.2.2.1 a.2.2.2.2.2.2.2.2.2.1) (fun a=>by kernel_rfl) (fun a kn kx=>by kernel_rfl)
theorem aaM:Mo qj pU gh 16 [(1,.any),(12,.any),(13,.any),(14,.any),(19,.any),(20,.any),(21,.any)] (.trim [(1,.any),(4,.any),(12,.any),(13,.any),(14,.any)] (.loop (.mark 18 [(1,.any),(12,.any),(13,.any),(14,.any),(19,.any),(20,.any),(21,.any)] (mOf gh 18)))):=aE (ax _) (m:=JF) rfl (by kernel_rfl) (by kernel_rfl) (fun a=>by kernel_rfl) (ah (by kernel_rfl) (ay aaN ai)) (B:=fun a:vM=>qx a.1.2.1 a.2.1 a.2.2.1 a.2.2.2.1 a.2.2.2.2.1 a.2.2.2.2.2.1 a.2.2.2.2.2.2.1) (fun a=>by kernel_rfl) (fun a kn kx=>by kernel_rfl)
theorem aaO:Mo qj pU gh 5 [(1,.any),(12,.any),(13,.any),(14,.any)] (.trim [(4,.any)] (.loop (.mark 7 [(1,.any),(12,.any),(13,.any),(14,.any)] (mOf gh 7)))):=aE (ax _) (m:=JH) rfl (by kernel_rfl) (by kernel_rfl) (fun a=>by kernel_rfl) (ah (by kernel_rfl) (ay aaM ai)) (B:=fun a:vN=>qz a.1.2.1 a.2.1 a.2.2.1 a.2.2.2.1) (fun a=>by kernel_rfl) (fun a kn kx=>by kernel_rfl)
theorem Yl:aF qj pU aa gh.keep gh.body:=(ah (by kernel_rfl) (ay aaO ai))
theorem Tx:FnE qj pU aa gh A4 (fun d:Nc=>DK d.1 d.2.1.2.1):=fun d k=>by kernel_rfl
theorem aaP:Mo It G8 nX 11 [(1,.any),(22,.any),(23,.any),(24,.any)] (.trim [(1,.any),(2,.any)] (.loop (.mark 13 [(1,.any),(22,.any),(23,.any),(24,.any)] (mOf nX 13)))):=aE (ax _) (m:=JI) rfl (by kernel_rfl) (by kernel_rfl) (fun a=>by kernel_rfl) (ah (by kernel_rfl) ai) (B:=fun a:vO=>qw a.1 a.2.1 a.2.2.1 a.2.2.2.1) (fun a=>by kernel_rfl) (fun a kn kx=>by kernel_rfl)
theorem Ym:aF It G8 aa nX.keep nX.body:=(ah (by kernel_rfl) (ay aaP ai))
theorem Tz:FnE It G8 aa nX A5 (fun d:dM=>DG d.1):=fun d k=>by kernel_rfl
theorem aaQ:Mo Iu G9 nY 17 [(7,.any),(8,.any)] (.trim [(7,.any)] (.loop (.mark 19 [(7,.any),(8,.any)] (mOf nY 19)))):=aE (ax _) (m:=JJ) rfl (by kernel_rfl) (by kernel_rfl) (fun a=>by kernel_rfl) (ah (by kernel_rfl) ai) (B:=fun a:kH=>Jg a.1 a.2.1) (fun a=>by kernel_rfl) (fun a kn kx=>by kernel_rfl)
theorem Yn:aF Iu G9 aa nY.keep nY.body:=(ah (by kernel_rfl) (ay aaQ ai))
theorem TD:FnE Iu G9 aa nY A9 (fun d:kH=>Na d.1 d.2.1):=fun d k=>by kernel_rfl
theorem TE:FnE agR q0 aa WT Ba (fun d:Y7=>MG d.1):=fun d k=>by kernel_rfl
theorem TL:FnE t0 q0 aa WY Bg (fun d:Y7=>MD d.1):=fun d k=>by kernel_rfl
theorem TX:FnE t0 q0 aa W5 Bt (fun d:vP=>Ei d.1 d.2.1 d.2.2.1):=fun d k=>by kernel_rfl
theorem T6:FnE agY q0 aa W6 u6 (fun d:Unit=>MF):=fun d k=>by kernel_rfl
theorem aa6:Mo Ix Hj ot 13 [(1,.any),(3,.any),(4,.any)] (.trim [(3,.any)] (.loop (.mark 15 [(1,.any),(3,.any),(4,.any)] (mOf ot 15)))):=aE (ax _) (m:=JZ) rfl (by kernel_rfl) (by kernel_rfl) (fun a=>by kernel_rfl) (ah (by kernel_rfl) ai) (B:=fun a:vQ=>qT a.1 a.2.1 a.2.2.1) (fun a=>by kernel_rfl) (fun a kn kx=>by kernel_rfl)
theorem Yz:aF Ix Hj aa ot.keep ot.body:=(ah (by kernel_rfl) (ay aa6 ai))
theorem Uc:FnE Ix Hj aa ot u9 (fun d:gV=>EH d.1):=fun d k=>by kernel_rfl
theorem aa8:Mo zt yR jh 28 [(1,.any),(5,.any),(6,.any),(7,.any)] (.trim [(1,.any),(4,.any),(5,.any),(6,.any)] (.loop (.mark 30 [(1,.any),(5,.any),(6,.any),(7,.any)] (mOf jh 30)))):=aE (ax _) (m:=J1) rfl (by kernel_rfl) (by kernel_rfl) (fun a=>by kernel_rfl) (ah (by kernel_rfl) ai) (B:=fun a:vR=>qV a.1 a.2.1 a.2.2.1 a.2.2.2.1) (fun a=>by kernel_rfl) (fun a kn kx=>by kernel_rfl)
theorem aa7:Mo zt yR jh 13 [(1,.any),(5,.any),(6,.any)] (.trim [(4,.any)] (.loop (.mark 15 [(1,.any),(5,.any),(6,.any)] (mOf jh 15)))):=aE (ax _) (m:=J0) rfl (by kernel_rfl) (by kernel_rfl) (fun a=>by kernel_rfl) (ah (by kernel_rfl) (ay aa8 ai)) (B:=fun a:gY=>qU a.1 a.2.1 a.2.2.1) (fun a=>by kernel_rfl) (fun a kn kx=>by kernel_rfl)
theorem YA:aF zt yR aa jh.keep jh.body:=(ah (by kernel_rfl) (ay aa7 ai))
theorem Ud:FnE zt yR aa jh BA (fun d:kI=>EI d.1 d.2.1):=fun d k=>by kernel_rfl
theorem Ue:FnE t0 q0 aa Xa BB (fun d:vF=>EL d.1):=fun d k=>by kernel_rfl
theorem abd:Mo Iy Hl oA 15 [(1,.any),(2,.any),(3,.any),(7,.any),(8,.any),(9,.any)] (.trim [(1,.any),(2,.any),(3,.any),(6,.any),(7,.any)] (.loop (.mark 17 [(1,.any),(2,.any),(3,.any),(7,.any),(8,.any),(9,.any)] (mOf oA 17)))):=aE (ax _) (m:=J6) rfl (by kernel_rfl) (by kernel_rfl) (fun a=>by kernel_rfl) (ah (by kernel_rfl) ai) (B:=fun a:vT=>qX a.1 a.2.1 a.2.2.1 a.2.2.2.1 a.2.2.2.2.1 a.2.2.2.2.2.1) (fun a=>by kernel_rfl) (fun a kn kx=>by kernel_rfl)
theorem YD:aF Iy Hl aa oA.keep oA.body:=(ah (by kernel_rfl) (ay abd ai))
theorem Uh:FnE Iy Hl aa oA BE (fun d:kK=>EK d.1 d.2.1 d.2.2.1):=fun d k=>by kernel_rfl
theorem abf:Mo zu yS ji 20 [(1,.any),(3,.any),(4,.any)] (.trim [(1,.any),(2,.any),(3,.any)] (.loop (.mark 22 [(1,.any),(3,.any),(4,.any)] (mOf ji 22)))):=aE (ax _) (m:=J8) rfl (by kernel_rfl) (by kernel_rfl) (fun a=>by kernel_rfl) (ah (by kernel_rfl) ai) (B:=fun a:vU=>rK a.1 a.2.1 a.2.2.1) (fun a=>by kernel_rfl) (fun a kn kx=>by kernel_rfl)
theorem abg:Mo zu yS ji 5 [(1,.any),(3,.any)] (.trim [(2,.any)] (.loop (.mark 7 [(1,.any),(3,.any)] (mOf ji 7)))):=aE (ax _) (m:=J9) rfl (by kernel_rfl) (by kernel_rfl) (fun a=>by kernel_rfl) (ah (by kernel_rfl) (ay abf ai)) (B:=fun a:dk=>rL a.1 a.2.1) (fun a=>by kernel_rfl) (fun a kn kx=>by kernel_rfl)
theorem YF:aF zu yS aa ji.keep ji.body:=(ah (by kernel_rfl) (ay abg ai))
theorem Uk:FnE zu yS aa ji BG (fun d:Y0=>Fg d.1):=fun d k=>by kernel_rfl
theorem abn:Mo Iz Ho oD 7 [(2,.any),(3,.any),(4,.any),(5,.any),(6,.any)] (.trim [(4,.any),(5,.any)] (.loop (.mark 9 [(2,.any),(3,.any),(4,.any),(5,.any),(6,.any)] (mOf oD 9)))):=aE (ax _) (m:=Kg) rfl (by kernel_rfl) (by kernel_rfl) (fun a=>by kernel_rfl) (ah (by kernel_rfl) ai) (B:=fun a:gL=>I7 a.1 a.2.1 a.2.2.1 a.2.2.2.1 a.2.2.2.2.1) (fun a=>by kernel_rfl) (fun a kn kx=>by kernel_rfl)
theorem YJ:aF Iz Ho aa oD.keep oD.body:=(ah (by kernel_rfl) (ay abn ai))
theorem Up:FnE Iz Ho aa oD BK (fun d:vV=>M0 d.1 d.2.1):=fun d k=>by kernel_rfl
theorem abG:Mo zx yV jm 28 [(1,.any),(2,.any),(5,.any),(6,.any),(7,.any)] (.trim [(1,.any),(2,.any),(4,.any),(5,.any),(6,.any)] (.loop (.mark 30 [(1,.any),(2,.any),(5,.any),(6,.any),(7,.any)] (mOf jm 30)))):=aE (ax _) (m:=Ky) rfl (by kernel_rfl) (by kernel_rfl) (fun a=>by kernel_rfl) (ah (by kernel_rfl) ai) (B:=fun a:vX=>rm a.1 a.2.1 a.2.2.1 a.2.2.2.1 a.2.2.2.2.1) (fun a=>by kernel_rfl) (fun a kn kx=>by kernel_rfl)
theorem abH:Mo zx yV jm 7 [(1,.any),(2,.any),(5,.any),(6,.any)] (.trim [(4,.any)] (.loop (.mark 9 [(1,.any),(2,.any),(5,.any),(6,.any)] (mOf jm 9)))):=aE (ax _) (m:=Kz) rfl (by kernel_rfl) (by kernel_rfl) (fun a=>by kernel_rfl) (ah (by kernel_rfl) (ay abG ai)) (B:=fun a:vY=>rn a.1 a.2.1 a.2.2.1 a.2.2.2.1) (fun a=>by kernel_rfl) (fun a kn kx=>by kernel_rfl)
theorem YP:aF zx yV aa jm.keep jm.body:=(ah (by kernel_rfl) (ay abH ai))
theorem Uw:FnE zx yV aa jm BQ (fun d:fw=>EW d.1 d.2.1):=fun d k=>by kernel_rfl
theorem abI:Mo IC Hs oH 11 [(1,.any),(3,.any)] (.trim [(2,.any)] (.loop (.mark 13 [(1,.any),(3,.any)] (mOf oH 13)))):=aE (ax _) (m:=KA) rfl (by kernel_rfl) (by kernel_rfl) (fun a=>by kernel_rfl) (ah (by kernel_rfl) ai) (B:=fun a:fw=>rj a.1 a.2.1) (fun a=>by kernel_rfl) (fun a kn kx=>by kernel_rfl)
theorem YQ:aF IC Hs aa oH.keep oH.body:=(ah (by kernel_rfl) (ay abI ai))
theorem Ux:FnE IC Hs aa oH BR (fun d:xy=>EU d.1):=fun d k=>by kernel_rfl
theorem abK:Mo IE Hu oJ 13 [(1,.any),(2,.any),(7,.any),(8,.any)] (.trim [(4,.any),(5,.any),(6,.any)] (.loop (.mark 15 [(1,.any),(2,.any),(7,.any),(8,.any)] (mOf oJ 15)))):=aE (ax _) (m:=KC) rfl (by kernel_rfl) (by kernel_rfl) (fun a=>by kernel_rfl) (ah (by kernel_rfl) ai) (B:=fun a:vZ=>lM a.1 a.2.1 a.2.2.1 a.2.2.2.1) (fun a=>by kernel_rfl) (fun a kn kx=>by kernel_rfl)
theorem YS:aF IE Hu aa oJ.keep oJ.body:=(ah (by kernel_rfl) (ay abK ai))
theorem UB:FnE IE Hu aa oJ BU (fun d:eB=>vA d.1 d.2.1):=fun d k=>by kernel_rfl
theorem UD:FnE ag2 q0 aa Xh BW (fun d:Nd=>E0 d.1 d.2.1 d.2.2.1):=fun d k=>by kernel_rfl
theorem abM:Mo t0 Hv oK 7 [(0,.any),(3,.any),(4,.any),(5,.any)] (.trim [(2,.any),(3,.any),(4,.any)] (.loop (.mark 9 [(0,.any),(3,.any),(4,.any),(5,.any)] (mOf oK 9)))):=aE (ax _) (m:=KE) rfl (by kernel_rfl) (by kernel_rfl) (fun a=>by kernel_rfl) (ah (by kernel_rfl) ai) (B:=fun a:v3=>ri a.1 a.2.1 a.2.2.1 a.2.2.2.1) (fun a=>by kernel_rfl) (fun a kn kx=>by kernel_rfl)
theorem YT:aF t0 Hv aa oK.keep oK.body:=(ah (by kernel_rfl) (ay abM ai))
theorem UF:FnE t0 Hv aa oK BX (fun d:ch=>ET d.1):=fun d k=>by kernel_rfl
theorem UI:FnE t0 q0 aa Xk vh (fun d:dM=>E3 d.1):=fun d k=>by kernel_rfl
theorem abR:Mo IG Hw oL 13 [(1,.any),(5,.any),(6,.any),(7,.any),(8,.any)] (.trim [(6,.any),(7,.any)] (.loop (.mark 15 [(1,.any),(5,.any),(6,.any),(7,.any),(8,.any)] (mOf oL 15)))):=aE (ax _) (m:=KJ) rfl (by kernel_rfl) (by kernel_rfl) (fun a=>by kernel_rfl) (ah (by kernel_rfl) ai) (B:=fun a:v5=>rD a.1 a.2.1 a.2.2.1 a.2.2.2.1 a.2.2.2.2.1) (fun a=>by kernel_rfl) (fun a kn kx=>by kernel_rfl)
theorem YV:aF IG Hw aa oL.keep oL.body:=(ah (by kernel_rfl) (ay abR ai))
theorem UJ:FnE IG Hw aa oL B1 (fun d:Ng=>E4 d.1 d.2.1 d.2.2.1):=fun d k=>by kernel_rfl
theorem ab9:Mo t0 HA oP 11 [(0,.any),(1,.any),(5,.any)] (.trim [(4,.any)] (.loop (.mark 13 [(0,.any),(1,.any),(5,.any)] (mOf oP 13)))):=aE (ax _) (m:=K2) rfl (by kernel_rfl) (by kernel_rfl) (fun a=>by kernel_rfl) (ah (by kernel_rfl) ai) (B:=fun a:gR=>rV a.1 a.2.1 a.2.2.1) (fun a=>by kernel_rfl) (fun a kn kx=>by kernel_rfl)
theorem Zc:aF t0 HA aa oP.keep oP.body:=(ah (by kernel_rfl) (ay ab9 ai))
theorem UW:FnE t0 HA aa oP vj (fun d:Nh=>Fu d.1 d.2.1):=fun d k=>by kernel_rfl
end Go.Proofs.YtnpgljilkkipkaaGreat
