/- YtnpgljilkkipkaaGreatEq3: the functions' runs are their trees. No statement of the seat is proved here. -/
import Derived.Test.YtnpgljilkkipkaaGreatTabs
set_option linter.unusedSimpArgs false
set_option linter.unusedVariables false
set_option maxRecDepth 100000
namespace Go.Proofs.YtnpgljilkkipkaaGreat
open Go Go.A2
theorem e3:FnE t0 q0 aa g3 N3 (fun d:Unit=>M8):=fun d k=>by kernel_rfl
theorem e6:FnE t0 q0 aa g6 N6 (fun d:cU=>EA d.1):=fun d k=>by kernel_rfl
theorem aa2:Mo t12 He od 7 [(0,.any),(3,.own),(4,.any)] (.trim [(3,.any)] (.loop (.mark 9 [(0,.any),(3,.own),(4,.any)] (mOf od 9)))):=aE (ax _) (m:=JV) rfl (by kernel_rfl) (by kernel_rfl) (fun a=>by kernel_rfl) (ah (by kernel_rfl) ai) (B:=fun a:hH=>I1 a.1 a.2.1 a.2.2.1) (fun a=>by kernel_rfl) (fun a kn kx=>by kernel_rfl)
theorem ju:aF t12 He aa od.keep od.body:=(ah (by kernel_rfl) (ay aa2 ai))
theorem TR:FnE t12 He aa od Bn (fun d:Y7=>MM d.1):=fun d k=>by kernel_rfl
theorem Ui:FnE t14 q0 aa Xb BF (fun d:Y7=>MP d.1):=fun d k=>by kernel_rfl
theorem U3:FnE t0 q0 aa Xs Ci (fun d:Y6=>MV d.1 d.2.1 d.2.2.1):=fun d k=>by kernel_rfl
theorem acg:Mo t0 HG oW 7 [(0,.any),(2,.any),(3,.any),(4,.any)] (.trim [(2,.any),(3,.any)] (.loop (.mark 9 [(0,.any),(2,.any),(3,.any),(4,.any)] (mOf oW 9)))):=aE (ax _) (m:=K8) rfl (by kernel_rfl) (by kernel_rfl) (fun a=>by kernel_rfl) (ah (by kernel_rfl) ai) (B:=fun a:v7=>I6 a.1 a.2.1 a.2.2.1 a.2.2.2.1) (fun a=>by kernel_rfl) (fun a kn kx=>by kernel_rfl)
theorem Zi:aF t0 HG aa oW.keep oW.body:=(ah (by kernel_rfl) (ay acg ai))
theorem U6:FnE t0 HG aa oW Cm (fun d:Y7=>MY d.1):=fun d k=>by kernel_rfl
theorem U7:FnE t0 q0 aa Xu Cn (fun d:TPhys×Unit=>M1 d.1):=fun d k=>by kernel_rfl
theorem Vc:FnE t30 q0 aa Xx Cr (fun d:Nj=>M6 d.1 d.2.1 d.2.2.1 d.2.2.2.1):=fun d k=>by kernel_rfl
theorem acp:Mo t0 yY jq 5 [(1,.any),(2,.own),(3,.own),(9,.any),(10,.any),(11,.any)] (.trim [(1,.any),(2,.any),(3,.own)] (.loop (.mark 7 [(1,.any),(2,.own),(3,.own),(9,.any),(10,.any),(11,.any)] (mOf jq 7)))):=aE (ax _) (m:=Lh) rfl (by kernel_rfl) (by kernel_rfl) (fun a=>by kernel_rfl) (ah (by kernel_rfl) ai) (B:=fun a:v8=>qH a.1 a.2.1 a.2.2.1 a.2.2.2.1 a.2.2.2.2.1 a.2.2.2.2.2.1) (fun a=>by kernel_rfl) (fun a kn kx=>by kernel_rfl)
theorem aco:Mo t0 yY jq 20 [(2,.any),(3,.own),(22,.any),(23,.any),(24,.any)] (.trim [(2,.any),(3,.any)] (.loop (.mark 22 [(2,.any),(3,.own),(22,.any),(23,.any),(24,.any)] (mOf jq 22)))):=aE (ax _) (m:=Lg) rfl (by kernel_rfl) (by kernel_rfl) (fun a=>by kernel_rfl) (ah (by kernel_rfl) ai) (B:=fun a:v9=>qG a.1 a.2.1 a.2.2.1 a.2.2.2.1 a.2.2.2.2.1) (fun a=>by kernel_rfl) (fun a kn kx=>by kernel_rfl)
theorem Zm:aF t0 yY aa jq.keep jq.body:=(ah (by kernel_rfl) (ay acp (ay aco ai)))
theorem Vj:FnE t0 yY aa jq Cz (fun d:Y0=>D0 d.1):=fun d k=>by kernel_rfl
theorem acr:Mo t0 HK pb 7 [(3,.own),(7,.any),(8,.any),(9,.any)] (.trim [(3,.any)] (.loop (.mark 9 [(3,.own),(7,.any),(8,.any),(9,.any)] (mOf pb 9)))):=aE (ax _) (m:=Lj) rfl (by kernel_rfl) (by kernel_rfl) (fun a=>by kernel_rfl) (ah (by kernel_rfl) ai) (B:=fun a:wa=>qI a.1 a.2.1 a.2.2.1 a.2.2.2.1) (fun a=>by kernel_rfl) (fun a kn kx=>by kernel_rfl)
theorem Zo:aF t0 HK aa pb.keep pb.body:=(ah (by kernel_rfl) (ay acr ai))
theorem Vm:FnE t0 HK aa pb CC (fun d:Y0=>D3 d.1):=fun d k=>by kernel_rfl
theorem acu:Mo t0 yZ jr 20 [(1,.any),(2,.any),(5,.any),(6,.any)] (.trim [(1,.any),(2,.any),(4,.any),(5,.any)] (.loop (.mark 22 [(1,.any),(2,.any),(5,.any),(6,.any)] (mOf jr 22)))):=aE (ax _) (m:=Ll) rfl (by kernel_rfl) (by kernel_rfl) (fun a=>by kernel_rfl) (ah (by kernel_rfl) ai) (B:=fun a:gW=>qR a.1 a.2.1 a.2.2.1 a.2.2.2.1) (fun a=>by kernel_rfl) (fun a kn kx=>by kernel_rfl)
theorem acs:Mo t0 yZ jr 11 [(1,.any),(2,.any),(5,.any)] (.trim [(4,.any)] (.loop (.mark 13 [(1,.any),(2,.any),(5,.any)] (mOf jr 13)))):=aE (ax _) (m:=Lk) rfl (by kernel_rfl) (by kernel_rfl) (fun a=>by kernel_rfl) (ah (by kernel_rfl) (ay acu ai)) (B:=fun a:gX=>zP a.1 a.2.1 a.2.2.1) (fun a=>by kernel_rfl) (fun a kn kx=>by kernel_rfl)
theorem Zp:aF t0 yZ aa jr.keep jr.body:=(ah (by kernel_rfl) (ay acs ai))
theorem Vn:FnE t0 yZ aa jr CD (fun d:kJ=>Ew d.1 d.2.1):=fun d k=>by kernel_rfl
theorem Vo:FnE t0 q0 aa XE vl (fun d:gV=>Ed d.1):=fun d k=>by kernel_rfl
theorem Vu:FnE t0 q0 aa XI vp (fun d:Y7=>Ey d.1):=fun d k=>by kernel_rfl
theorem VC:FnE t56 q0 aa XM CP (fun d:wR=>FA d.1 d.2.1.2.1):=fun d k=>by kernel_rfl
theorem VI:FnE t62 q0 aa XQ CV (fun d:Nk=>DU d.1 d.2.1):=fun d k=>by kernel_rfl
theorem VP:FnE t0 q0 aa XU C2 (fun d:TSq×W .u64×Unit=>MA d.1 d.2.1):=fun d k=>by kernel_rfl
theorem VR:FnE t71 q0 aa XV C4 (fun d:Y0=>DY d.1):=fun d k=>by kernel_rfl
theorem acP:Mo t74 HV pr 7 [(2,.any),(3,.any),(4,.any),(5,.any),(6,.any)] (.trim [(4,.any),(5,.any)] (.loop (.mark 9 [(2,.any),(3,.any),(4,.any),(5,.any),(6,.any)] (mOf pr 9)))):=aE (ax _) (m:=LL) rfl (by kernel_rfl) (by kernel_rfl) (fun a=>by kernel_rfl) (ah (by kernel_rfl) ai) (B:=fun a:gL=>qQ a.1 a.2.1 a.2.2.1 a.2.2.2.1 a.2.2.2.2.1) (fun a=>by kernel_rfl) (fun a kn kx=>by kernel_rfl)
theorem ZC:aF t74 HV aa pr.keep pr.body:=(ah (by kernel_rfl) (ay acP ai))
theorem VU:FnE t74 HV aa pr C6 (fun d:vV=>Et d.1 d.2.1):=fun d k=>by kernel_rfl
theorem acQ:Mo t76 HW pt 5 [(1,.any),(6,.any),(7,.any)] (.trim [(1,.any),(2,.any)] (.loop (.mark 7 [(1,.any),(6,.any),(7,.any)] (mOf pt 7)))):=aE (ax _) (m:=LM) rfl (by kernel_rfl) (by kernel_rfl) (fun a=>by kernel_rfl) (ah (by kernel_rfl) ai) (B:=fun a:wb=>qE a.1 a.2.1 a.2.2.1) (fun a=>by kernel_rfl) (fun a kn kx=>by kernel_rfl)
theorem ZD:aF t76 HW aa pt.keep pt.body:=(ah (by kernel_rfl) (ay acQ ai))
theorem VW:FnE t76 HW aa pt C8 (fun d:wc=>DW d.1):=fun d k=>by kernel_rfl
theorem acU:Mo t88 H0 py 5 [(0,.any),(1,.any),(7,.any),(8,.any)] (.trim [(4,.any)] (.loop (.mark 7 [(0,.any),(1,.any),(7,.any),(8,.any)] (mOf py 7)))):=aE (ax _) (m:=LQ) rfl (by kernel_rfl) (by kernel_rfl) (fun a=>by kernel_rfl) (ah (by kernel_rfl) ai) (B:=fun a:we=>se a.1 a.2.1.2.1 a.2.2.1 a.2.2.2.1) (fun a=>by kernel_rfl) (fun a kn kx=>by kernel_rfl)
theorem ZH:aF t88 H0 aa py.keep py.body:=(ah (by kernel_rfl) (ay acU ai))
theorem V8:FnE t88 H0 aa py Dj (fun d:Nl=>FL d.1 d.2.1.2.1):=fun d k=>by kernel_rfl
theorem V9:FnE t89 q0 aa X7 vr (fun d:eB=>DA d.1 d.2.1):=fun d k=>by kernel_rfl
theorem Wc:FnE t0 q0 aa X8 vt (fun d:Nm=>DN d.1 d.2.1):=fun d k=>by kernel_rfl
theorem acY:Mo t93 H4 pB 7 [(1,.any),(5,.own),(13,.any),(14,.any),(15,.any)] (.trim [(5,.any)] (.loop (.mark 9 [(1,.any),(5,.own),(13,.any),(14,.any),(15,.any)] (mOf pB 9)))):=aE (ax _) (m:=LV) rfl (by kernel_rfl) (by kernel_rfl) (fun a=>by kernel_rfl) (ah (by kernel_rfl) ai) (B:=fun a:wg=>qD a.1 a.2.1 a.2.2.1 a.2.2.2.1 a.2.2.2.2.1) (fun a=>by kernel_rfl) (fun a kn kx=>by kernel_rfl)
theorem ZK:aF t93 H4 aa pB.keep pB.body:=(ah (by kernel_rfl) (ay acY ai))
theorem Wd:FnE t93 H4 aa pB Dm (fun d:kN=>DP d.1 d.2.1):=fun d k=>by kernel_rfl
theorem ac0:Mo t98 H6 pD 7 [(0,.any),(3,.any),(4,.any),(7,.any),(8,.any),(9,.any)] (.trim [(0,.any),(3,.any),(4,.any)] (.loop (.mark 9 [(0,.any),(3,.any),(4,.any),(7,.any),(8,.any),(9,.any)] (mOf pD 9)))):=aE (ax _) (m:=LX) rfl (by kernel_rfl) (by kernel_rfl) (fun a=>by kernel_rfl) (ah (by kernel_rfl) ai) (B:=fun a:wh=>qP a.1 a.2.1 a.2.2.1 a.2.2.2.1 a.2.2.2.2.1 a.2.2.2.2.2.1) (fun a=>by kernel_rfl) (fun a kn kx=>by kernel_rfl)
theorem ZM:aF t98 H6 aa pD.keep pD.body:=(ah (by kernel_rfl) (ay ac0 ai))
theorem Wi:FnE t98 H6 aa pD Ds (fun d:ch=>Ek d.1):=fun d k=>by kernel_rfl
theorem TA:FnE t0 q0 aa WQ A6 (fun d:Y7=>MH d.1):=fun d k=>by kernel_rfl
theorem TF:FnE t0 q0 aa WU Bb (fun d:Y7=>Mw d.1):=fun d k=>by kernel_rfl
theorem aaR:Mo t0 Hb n7 11 [(0,.any),(3,.any),(4,.any)] (.trim [(3,.any)] (.loop (.mark 13 [(0,.any),(3,.any),(4,.any)] (mOf n7 13)))):=aE (ax _) (m:=JK) rfl (by kernel_rfl) (by kernel_rfl) (fun a=>by kernel_rfl) (ah (by kernel_rfl) ai) (B:=fun a:wj=>si a.1 a.2.1 a.2.2.1) (fun a=>by kernel_rfl) (fun a kn kx=>by kernel_rfl)
theorem Yp:aF t0 Hb aa n7.keep n7.body:=(ah (by kernel_rfl) (ay aaR ai))
theorem TJ:FnE t0 Hb aa n7 Be (fun d:cU=>FP d.1):=fun d k=>by kernel_rfl
theorem TM:FnE agU q0 aa WZ Bh (fun d:Y7=>MC d.1):=fun d k=>by kernel_rfl
theorem aaS:Mo t0 Hc n8 7 [(3,.any),(6,.any),(7,.any),(8,.any)] (.trim [(2,.any)] (.loop (.mark 9 [(3,.any),(6,.any),(7,.any),(8,.any)] (mOf n8 9)))):=aE (ax _) (m:=JL) rfl (by kernel_rfl) (by kernel_rfl) (fun a=>by kernel_rfl) (ah (by kernel_rfl) ai) (B:=fun a:wk=>qO a.1 a.2.1 a.2.2.1 a.2.2.2.1) (fun a=>by kernel_rfl) (fun a kn kx=>by kernel_rfl)
theorem Yq:aF t0 Hc aa n8.keep n8.body:=(ah (by kernel_rfl) (ay aaS ai))
theorem TP:FnE t0 Hc aa n8 Bl (fun d:wm=>Eh d.1):=fun d k=>by kernel_rfl
theorem aaY:Mo Iv Hf og 11 [(1,.any),(10,.any),(11,.any),(12,.any)] (.trim [(4,.any)] (.loop (.mark 13 [(1,.any),(10,.any),(11,.any),(12,.any)] (mOf og 13)))):=aE (ax _) (m:=JR) rfl (by kernel_rfl) (by kernel_rfl) (fun a=>by kernel_rfl) (ah (by kernel_rfl) ai) (B:=fun a:wo=>rX a.1 a.2.1 a.2.2.1 a.2.2.2.1) (fun a=>by kernel_rfl) (fun a kn kx=>by kernel_rfl)
theorem Yu:aF Iv Hf aa og.keep og.body:=(ah (by kernel_rfl) (ay aaY ai))
theorem T3:FnE Iv Hf aa og Bu (fun d:xJ=>Fv d.1 d.2.1):=fun d k=>by kernel_rfl
theorem T8:FnE agZ q0 aa W8 Bw (fun d:Y0=>Fh d.1):=fun d k=>by kernel_rfl
theorem Ub:FnE t0 q0 aa W9 u7 (fun d:gV=>EG d.1):=fun d k=>by kernel_rfl
theorem aa9:Mo t0 Hk ou 7 [(0,.any),(1,.any),(5,.any),(6,.any)] (.trim [(5,.any)] (.loop (.mark 9 [(0,.any),(1,.any),(5,.any),(6,.any)] (mOf ou 9)))):=aE (ax _) (m:=J2) rfl (by kernel_rfl) (by kernel_rfl) (fun a=>by kernel_rfl) (ah (by kernel_rfl) ai) (B:=fun a:gK=>q9 a.1 a.2.1 a.2.2.1 a.2.2.2.1) (fun a=>by kernel_rfl) (fun a kn kx=>by kernel_rfl)
theorem YB:aF t0 Hk aa ou.keep ou.body:=(ah (by kernel_rfl) (ay aa9 ai))
theorem Uf:FnE t0 Hk aa ou BC (fun d:kG=>EN d.1 d.2.1):=fun d k=>by kernel_rfl
theorem abe:Mo t0 Hm oB 5 [(2,.any),(3,.any),(5,.any)] (.trim [(4,.any)] (.loop (.mark 7 [(2,.any),(3,.any),(5,.any)] (mOf oB 7)))):=aE (ax _) (m:=J7) rfl (by kernel_rfl) (by kernel_rfl) (fun a=>by kernel_rfl) (ah (by kernel_rfl) ai) (B:=fun a:wq=>rO a.1 a.2.1 a.2.2.1) (fun a=>by kernel_rfl) (fun a kn kx=>by kernel_rfl)
theorem YE:aF t0 Hm aa oB.keep oB.body:=(ah (by kernel_rfl) (ay abe ai))
theorem Uj:FnE t0 Hm aa oB vc (fun d:wS=>Fk d.1 d.2.1):=fun d k=>by kernel_rfl
theorem abl:Mo zw yT jk 13 [(1,.any),(3,.any),(4,.any),(5,.any)] (.trim [(1,.any),(2,.any),(4,.any)] (.loop (.mark 15 [(1,.any),(3,.any),(4,.any),(5,.any)] (mOf jk 15)))):=aE (ax _) (m:=Ke) rfl (by kernel_rfl) (by kernel_rfl) (fun a=>by kernel_rfl) (ah (by kernel_rfl) ai) (B:=fun a:wu=>rI a.1 a.2.1 a.2.2.1 a.2.2.2.1) (fun a=>by kernel_rfl) (fun a kn kx=>by kernel_rfl)
theorem abm:Mo zw yT jk 30 [(1,.any),(4,.any),(6,.any)] (.trim [(2,.any)] (.loop (.mark 32 [(1,.any),(4,.any),(6,.any)] (mOf jk 32)))):=aE (ax _) (m:=Kf) rfl (by kernel_rfl) (by kernel_rfl) (fun a=>by kernel_rfl) (ah (by kernel_rfl) ai) (B:=fun a:wv=>rJ a.1 a.2.1 a.2.2.1) (fun a=>by kernel_rfl) (fun a kn kx=>by kernel_rfl)
theorem YI:aF zw yT aa jk.keep jk.body:=(ah (by kernel_rfl) (ay abl (ay abm ai)))
theorem Un:FnE zw yT aa jk BJ (fun d:Y0=>Ff d.1):=fun d k=>by kernel_rfl
theorem abo:Mo IA Hp oE 5 [(1,.any),(3,.any)] (.trim [(1,.any),(2,.any)] (.loop (.mark 7 [(1,.any),(3,.any)] (mOf oE 7)))):=aE (ax _) (m:=Kh) rfl (by kernel_rfl) (by kernel_rfl) (fun a=>by kernel_rfl) (ah (by kernel_rfl) ai) (B:=fun a:wy=>Ag a.1 a.2.1) (fun a=>by kernel_rfl) (fun a kn kx=>by kernel_rfl)
theorem YK:aF IA Hp aa oE.keep oE.body:=(ah (by kernel_rfl) (ay abo ai))
theorem Uq:FnE IA Hp aa oE BL (fun d:wc=>Fa d.1):=fun d k=>by kernel_rfl
theorem Uv:FnE t0 q0 aa Xd ve (fun d:eB=>vB d.1 d.2.1):=fun d k=>by kernel_rfl
theorem abJ:Mo t0 Ht oI 7 [(1,.any),(2,.any),(4,.any),(5,.any),(6,.any)] (.trim [(4,.any),(5,.any)] (.loop (.mark 9 [(1,.any),(2,.any),(4,.any),(5,.any),(6,.any)] (mOf oI 9)))):=aE (ax _) (m:=KB) rfl (by kernel_rfl) (by kernel_rfl) (fun a=>by kernel_rfl) (ah (by kernel_rfl) ai) (B:=fun a:wz=>rC a.1 a.2.1 a.2.2.1 a.2.2.2.1 a.2.2.2.2.1) (fun a=>by kernel_rfl) (fun a kn kx=>by kernel_rfl)
theorem YR:aF t0 Ht aa oI.keep oI.body:=(ah (by kernel_rfl) (ay abJ ai))
theorem Uz:FnE t0 Ht aa oI BS (fun d:kN=>E2 d.1 d.2.1):=fun d k=>by kernel_rfl
theorem abQ:Mo lF lv eX 52 [(1,.any),(3,.any),(4,.any),(5,.any),(6,.any),(7,.any),(8,.any)] (.trim [(1,.any),(3,.any),(4,.any),(5,.any),(7,.any)] (.loop (.mark 54 [(1,.any),(3,.any),(4,.any),(5,.any),(6,.any),(7,.any),(8,.any)] (mOf eX 54)))):=aE (ax _) (m:=KI) rfl (by kernel_rfl) (by kernel_rfl) (fun a=>by kernel_rfl) (ah (by kernel_rfl) ai) (B:=fun a:wA=>ry a.1 a.2.1 a.2.2.1 a.2.2.2.1 a.2.2.2.2.1 a.2.2.2.2.2.1 a.2.2.2.2.2.2.1) (fun a=>by kernel_rfl) (fun a kn kx=>by kernel_rfl)
theorem abO:Mo lF lv eX 29 [(1,.any),(3,.any),(4,.any),(5,.any)] (.trim [(1,.any),(2,.any),(3,.any),(4,.any)] (.loop (.mark 31 [(1,.any),(3,.any),(4,.any),(5,.any)] (mOf eX 31)))):=aE (ax _) (m:=KG) rfl (by kernel_rfl) (by kernel_rfl) (fun a=>by kernel_rfl) (ah (by kernel_rfl) (ay abQ ai)) (B:=fun a:wB=>rq a.1 a.2.1 a.2.2.1 a.2.2.2.1) (fun a=>by kernel_rfl) (fun a kn kx=>by kernel_rfl)
theorem abN:Mo lF lv eX 20 [(1,.any),(3,.any),(4,.any)] (.trim [(1,.any),(2,.any),(3,.any)] (.loop (.mark 22 [(1,.any),(3,.any),(4,.any)] (mOf eX 22)))):=aE (ax _) (m:=KF) rfl (by kernel_rfl) (by kernel_rfl) (fun a=>by kernel_rfl) (ah (by kernel_rfl) (ay abO ai)) (B:=fun a:gS=>rp a.1 a.2.1 a.2.2.1) (fun a=>by kernel_rfl) (fun a kn kx=>by kernel_rfl)
theorem abP:Mo lF lv eX 5 [(1,.any),(3,.any)] (.trim [(2,.any)] (.loop (.mark 7 [(1,.any),(3,.any)] (mOf eX 7)))):=aE (ax _) (m:=KH) rfl (by kernel_rfl) (by kernel_rfl) (fun a=>by kernel_rfl) (ah (by kernel_rfl) (ay abN ai)) (B:=fun a:fx=>ru a.1 a.2.1) (fun a=>by kernel_rfl) (fun a kn kx=>by kernel_rfl)
theorem YU:aF lF lv aa eX.keep eX.body:=(ah (by kernel_rfl) (ay abP ai))
theorem UG:FnE lF lv aa eX BZ (fun d:dM=>EZ d.1):=fun d k=>by kernel_rfl
theorem UL:FnE ag4 q0 aa Xl B3 (fun d:dM=>E7 d.1):=fun d k=>by kernel_rfl
theorem UM:FnE t0 q0 aa Xm B4 (fun d:vP=>Ez d.1 d.2.1 d.2.2.1):=fun d k=>by kernel_rfl
theorem abY:Mo t0 Hy oN 5 [(0,.any),(3,.any)] (.trim [(2,.any)] (.loop (.mark 7 [(0,.any),(3,.any)] (mOf oN 7)))):=aE (ax _) (m:=KQ) rfl (by kernel_rfl) (by kernel_rfl) (fun a=>by kernel_rfl) (ah (by kernel_rfl) ai) (B:=fun a:wC=>rf a.1 a.2.1) (fun a=>by kernel_rfl) (fun a kn kx=>by kernel_rfl)
theorem YZ:aF t0 Hy aa oN.keep oN.body:=(ah (by kernel_rfl) (ay abY ai))
theorem US:FnE t0 Hy aa oN Ca (fun d:wm=>ER d.1):=fun d k=>by kernel_rfl
theorem abZ:Mo t0 Hz oO 7 [(0,.any),(3,.any),(4,.any)] (.trim [(2,.any)] (.loop (.mark 9 [(0,.any),(3,.any),(4,.any)] (mOf oO 9)))):=aE (ax _) (m:=KR) rfl (by kernel_rfl) (by kernel_rfl) (fun a=>by kernel_rfl) (ah (by kernel_rfl) ai) (B:=fun a:wD=>re a.1 a.2.1 a.2.2.1) (fun a=>by kernel_rfl) (fun a kn kx=>by kernel_rfl)
theorem Za:aF t0 Hz aa oO.keep oO.body:=(ah (by kernel_rfl) (ay abZ ai))
theorem UT:FnE t0 Hz aa oO Cb (fun d:xB=>EP d.1):=fun d k=>by kernel_rfl
theorem ab7:Mo fh fe cB 5 [(2,.any),(3,.any),(5,.any),(18,.any)] (mOf cB 5):=bQ (ax _) (m:=KZ) rfl (by kernel_rfl) (by kernel_rfl) (ah (by kernel_rfl) ai) (B:=fun a:Nn=>lN a.1 a.2.1 a.2.2.1 a.2.2.2.1) (fun a=>by kernel_rfl) (fun a kx=>by kernel_rfl)
theorem ab2:Mo fh fe cB 23 [(2,.any),(5,.any),(50,.any)] (mOf cB 23):=bQ (ax _) (m:=KU) rfl (by kernel_rfl) (by kernel_rfl) (ah (by kernel_rfl) ai) (B:=fun a:Np=>Aj a.1 a.2.1 a.2.2.1) (fun a=>by kernel_rfl) (fun a kx=>by kernel_rfl)
theorem ab6:Mo fh fe cB 37 [(5,.any)] (mOf cB 37):=bQ (ax _) (m:=KY) rfl (by kernel_rfl) (by kernel_rfl) (ah (by kernel_rfl) ai) (B:=fun a:ch=>An a.1) (fun a=>by kernel_rfl) (fun a kx=>by kernel_rfl)
theorem ab5:Mo fh fe cB 33 [(2,.any),(5,.any)] (mOf cB 33):=bQ (ax _) (m:=KX) rfl (by kernel_rfl) (by kernel_rfl) (ah (by kernel_rfl) (ay ab6 ai)) (B:=fun a:cG=>Am a.1 a.2.1) (fun a=>by kernel_rfl) (fun a kx=>by kernel_rfl)
theorem ab4:Mo fh fe cB 29 [(2,.any),(5,.any)] (mOf cB 29):=bQ (ax _) (m:=KW) rfl (by kernel_rfl) (by kernel_rfl) (ah (by kernel_rfl) (ay ab5 ai)) (B:=fun a:cG=>Al a.1 a.2.1) (fun a=>by kernel_rfl) (fun a kx=>by kernel_rfl)
theorem ab3:Mo fh fe cB 25 [(2,.any),(5,.any)] (mOf cB 25):=bQ (ax _) (m:=KV) rfl (by kernel_rfl) (by kernel_rfl) (ah (by kernel_rfl) (ay ab4 ai)) (B:=fun a:cG=>Ak a.1 a.2.1) (fun a=>by kernel_rfl) (fun a kx=>by kernel_rfl)
theorem ab1:Mo fh fe cB 21 [(2,.any),(3,.any),(5,.any),(6,.any),(7,.any)] (mOf cB 21):=bQ (ax _) (m:=KT) rfl (by kernel_rfl) (by kernel_rfl) (ah (by kernel_rfl) (ay ab2 (ay ab3 ai))) (B:=fun a:wE=>Ai a.1 a.2.1 a.2.2.1 a.2.2.2.1 a.2.2.2.2.1) (fun a=>by kernel_rfl) (fun a kx=>by kernel_rfl)
theorem ab0:Mo fh fe cB 17 [(2,.any),(3,.any),(5,.any),(6,.any),(7,.any)] (mOf cB 17):=bQ (ax _) (m:=KS) rfl (by kernel_rfl) (by kernel_rfl) (ah (by kernel_rfl) (ay ab1 ai)) (B:=fun a:wE=>Ah a.1 a.2.1 a.2.2.1 a.2.2.2.1 a.2.2.2.2.1) (fun a=>by kernel_rfl) (fun a kx=>by kernel_rfl)
theorem ab8:Mo fh fe cB 9 [(2,.any),(3,.any),(5,.any)] (mOf cB 9):=bQ (ax _) (m:=K1) rfl (by kernel_rfl) (by kernel_rfl) (ah (by kernel_rfl) (ay ab0 ai)) (B:=fun a:Nq=>Ao a.1 a.2.1 a.2.2.1) (fun a=>by kernel_rfl) (fun a kx=>by kernel_rfl)
theorem Zb:aF fh fe aa cB.keep cB.body:=(ah (by kernel_rfl) (ay ab7 (ay ab8 ai)))
theorem UU:FnE fh fe aa cB vi (fun d:gN=>Fl d.1 d.2.1):=fun d k=>by kernel_rfl
theorem acb:Mo IJ HC oS 11 [(1,.any),(3,.any)] (.trim [(1,.any),(2,.any)] (.loop (.mark 13 [(1,.any),(3,.any)] (mOf oS 13)))):=aE (ax _) (m:=K4) rfl (by kernel_rfl) (by kernel_rfl) (fun a=>by kernel_rfl) (ah (by kernel_rfl) ai) (B:=fun a:wG=>IZ a.1 a.2.1) (fun a=>by kernel_rfl) (fun a kn kx=>by kernel_rfl)
theorem Ze:aF IJ HC aa oS.keep oS.body:=(ah (by kernel_rfl) (ay acb ai))
theorem UZ:FnE IJ HC aa oS Ce (fun d:kL=>ME d.1):=fun d k=>by kernel_rfl
end Go.Proofs.YtnpgljilkkipkaaGreat
