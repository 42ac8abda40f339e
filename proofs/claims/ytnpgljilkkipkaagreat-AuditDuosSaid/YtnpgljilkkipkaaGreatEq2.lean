/- YtnpgljilkkipkaaGreatEq2: the functions' runs are their trees. No statement of the seat is proved here. -/
import Derived.Test.YtnpgljilkkipkaaGreatTabs
set_option linter.unusedSimpArgs false
set_option linter.unusedVariables false
set_option maxRecDepth 100000
namespace Go.Proofs.YtnpgljilkkipkaaGreat
open Go Go.A2
theorem e4:FnE t0 q0 aa g4 N4 (fun d:Y6=>Fq d.1 d.2.1 d.2.2.1):=fun d k=>by kernel_rfl
theorem ac2:Mo t8 q8 g8 11 [(1,.any),(3,.any)] (.trim [(2,.any)] (.loop (.mark 13 [(1,.any),(3,.any)] (mOf g8 13)))):=aE (ax _) (m:=LZ) rfl (by kernel_rfl) (by kernel_rfl) (fun a=>by kernel_rfl) (ah (by kernel_rfl) ai) (B:=fun a:xX=>I9 a.1 a.2.1) (fun a=>by kernel_rfl) (fun a kn kx=>by kernel_rfl)
theorem h8:aF t8 q8 aa g8.keep g8.body:=(ah (by kernel_rfl) (ay ac2 ai))
theorem e8:FnE t8 q8 aa g8 N8 (fun d:TMach×Unit=>MN d.1):=fun d k=>by kernel_rfl
theorem ack:Mo t0 HP pc 7 [(0,.any),(3,.own),(4,.any)] (.trim [(3,.any)] (.loop (.mark 9 [(0,.any),(3,.own),(4,.any)] (mOf pc 9)))):=aE (ax _) (m:=Lc) rfl (by kernel_rfl) (by kernel_rfl) (fun a=>by kernel_rfl) (ah (by kernel_rfl) ai) (B:=fun a:hM=>Jh a.1 a.2.1 a.2.2.1) (fun a=>by kernel_rfl) (fun a kn kx=>by kernel_rfl)
theorem Zl:aF t0 HP aa pc.keep pc.body:=(ah (by kernel_rfl) (ay ack ai))
theorem U7:FnE t0 HP aa pc Cr (fun d:Y7=>M6 d.1):=fun d k=>by kernel_rfl
theorem acm:Mo t0 HQ pe 7 [(0,.any),(1,.any),(2,.any)] (.trim [(0,.any),(1,.any)] (.loop (.mark 9 [(0,.any),(1,.any),(2,.any)] (mOf pe 9)))):=aE (ax _) (m:=Ld) rfl (by kernel_rfl) (by kernel_rfl) (fun a=>by kernel_rfl) (ah (by kernel_rfl) ai) (B:=fun a:xY=>Je a.1 a.2.1 a.2.2.1) (fun a=>by kernel_rfl) (fun a kn kx=>by kernel_rfl)
theorem Zm:aF t0 HQ aa pe.keep pe.body:=(ah (by kernel_rfl) (ay acm ai))
theorem U8:FnE t0 HQ aa pe Cs (fun d:Unit=>MY):=fun d k=>by kernel_rfl
theorem Vb:FnE t23 q0 aa Xz Cv (fun d:Y7=>M5 d.1):=fun d k=>by kernel_rfl
theorem Vf:FnE t27 q0 aa XC Cz (fun d:Oh=>M1 d.1 d.2.1 d.2.2.1):=fun d k=>by kernel_rfl
theorem acv:Mo t33 HU pj 5 [(0,.any),(1,.any),(7,.any),(8,.any)] (.trim [(4,.any)] (.loop (.mark 7 [(0,.any),(1,.any),(7,.any),(8,.any)] (mOf pj 7)))):=aE (ax _) (m:=Lm) rfl (by kernel_rfl) (by kernel_rfl) (fun a=>by kernel_rfl) (ah (by kernel_rfl) ai) (B:=fun a:xZ=>lS a.1 a.2.2.1 a.2.2.2.1) (fun a=>by kernel_rfl) (fun a kn kx=>by kernel_rfl)
theorem Zr:aF t33 HU aa pj.keep pj.body:=(ah (by kernel_rfl) (ay acv ai))
theorem Vl:FnE t33 HU aa pj CF (fun d:xD=>FZ d.1):=fun d k=>by kernel_rfl
theorem acy:Mo t0 HV pk 7 [(3,.any),(4,.any),(7,.any),(8,.any),(9,.any)] (.trim [(2,.any),(4,.any)] (.loop (.mark 9 [(3,.any),(4,.any),(7,.any),(8,.any),(9,.any)] (mOf pk 9)))):=aE (ax _) (m:=Lr) rfl (by kernel_rfl) (by kernel_rfl) (fun a=>by kernel_rfl) (ah (by kernel_rfl) ai) (B:=fun a:vR=>sg a.1 a.2.1 a.2.2.1 a.2.2.2.1 a.2.2.2.2.1) (fun a=>by kernel_rfl) (fun a kn kx=>by kernel_rfl)
theorem Zu:aF t0 HV aa pk.keep pk.body:=(ah (by kernel_rfl) (ay acy ai))
theorem Vq:FnE t0 HV aa pk CL (fun d:xR=>FG d.1):=fun d k=>by kernel_rfl
theorem Vr:FnE t39 q0 aa XJ CM (fun d:Y0=>Ec d.1):=fun d k=>by kernel_rfl
theorem Vv:FnE t0 q0 aa XL CP (fun d:kJ=>En d.1 d.2.1):=fun d k=>by kernel_rfl
theorem Vz:FnE t0 q0 aa XN CR (fun d:vT=>FF d.1):=fun d k=>by kernel_rfl
theorem VG:FnE t0 q0 aa XR CX (fun d:TRob×TRen×Unit=>Ek d.1 d.2.1):=fun d k=>by kernel_rfl
theorem VN:FnE t61 q0 aa XV C4 (fun d:xH=>FK d.1 d.2.1.2.1):=fun d k=>by kernel_rfl
theorem acS:Mo t63 H4 px 5 [(0,.any),(1,.any),(7,.any),(8,.any)] (.trim [(4,.any)] (.loop (.mark 7 [(0,.any),(1,.any),(7,.any),(8,.any)] (mOf px 7)))):=aE (ax _) (m:=LO) rfl (by kernel_rfl) (by kernel_rfl) (fun a=>by kernel_rfl) (ah (by kernel_rfl) ai) (B:=fun a:vU=>ss a.1 a.2.1.2.1 a.2.2.1 a.2.2.2.1) (fun a=>by kernel_rfl) (fun a kn kx=>by kernel_rfl)
theorem ef:aF t63 H4 aa px.keep px.body:=(ah (by kernel_rfl) (ay acS ai))
theorem VP:FnE t63 H4 aa px C6 (fun d:xj=>FU d.1 d.2.1.2.1):=fun d k=>by kernel_rfl
theorem acT:Mo t0 H5 py 7 [(1,.any),(5,.own),(9,.any),(10,.any),(11,.any)] (.trim [(5,.any)] (.loop (.mark 9 [(1,.any),(5,.own),(9,.any),(10,.any),(11,.any)] (mOf py 9)))):=aE (ax _) (m:=LP) rfl (by kernel_rfl) (by kernel_rfl) (fun a=>by kernel_rfl) (ah (by kernel_rfl) ai) (B:=fun a:vV=>qS a.1 a.2.1 a.2.2.1 a.2.2.2.1 a.2.2.2.2.1) (fun a=>by kernel_rfl) (fun a kn kx=>by kernel_rfl)
theorem ZF:aF t0 H5 aa py.keep py.body:=(ah (by kernel_rfl) (ay acT ai))
theorem VS:FnE t0 H5 aa py C9 (fun d:dm=>Eg d.1 d.2.1):=fun d k=>by kernel_rfl
theorem VT:FnE t0 q0 aa XZ Da (fun d:TLq×W .u64×Unit=>MB d.1 d.2.1):=fun d k=>by kernel_rfl
theorem VZ:FnE t73 q0 aa X3 vG (fun d:gW=>ED d.1 d.2.1):=fun d k=>by kernel_rfl
theorem ac0:Mo t0 Ic pF 5 [(0,.any),(1,.any),(7,.any),(8,.any)] (.trim [(4,.any)] (.loop (.mark 7 [(0,.any),(1,.any),(7,.any),(8,.any)] (mOf pF 7)))):=aE (ax _) (m:=LX) rfl (by kernel_rfl) (by kernel_rfl) (fun a=>by kernel_rfl) (ah (by kernel_rfl) ai) (B:=fun a:gM=>sy a.1 a.2.1 a.2.2.1 a.2.2.2.1) (fun a=>by kernel_rfl) (fun a kn kx=>by kernel_rfl)
theorem ZM:aF t0 Ic aa pF.keep pF.body:=(ah (by kernel_rfl) (ay ac0 ai))
theorem V8:FnE t0 Ic aa pF Dp (fun d:kH=>F4 d.1 d.2.1):=fun d k=>by kernel_rfl
theorem V9:FnE t83 q0 aa X8 Dq (fun d:kH=>FP d.1 d.2.1):=fun d k=>by kernel_rfl
theorem Wd:FnE t0 q0 aa Yc Dt (fun d:TWay×W .u32×Unit=>DM d.1 d.2.1):=fun d k=>by kernel_rfl
theorem ac3:Mo t90 Ig pH 15 [(1,.any),(2,.any),(5,.any),(6,.any),(28,.any),(29,.any),(30,.any)] (.trim [(4,.any)] (.loop (.mark 17 [(1,.any),(2,.any),(5,.any),(6,.any),(28,.any),(29,.any),(30,.any)] (mOf pH 17)))):=aE (ax _) (m:=L0) rfl (by kernel_rfl) (by kernel_rfl) (fun a=>by kernel_rfl) (ah (by kernel_rfl) ai) (B:=fun a:vX=>qE a.1 a.2.1 a.2.2.1 a.2.2.2.1 a.2.2.2.2.1 a.2.2.2.2.2.1 a.2.2.2.2.2.2.1) (fun a=>by kernel_rfl) (fun a kn kx=>by kernel_rfl)
theorem ZO:aF t90 Ig aa pH.keep pH.body:=(ah (by kernel_rfl) (ay ac3 ai))
theorem Wg:FnE t90 Ig aa pH Dv (fun d:fw=>DP d.1 d.2.1):=fun d k=>by kernel_rfl
theorem ac8:Mo t0 Il pM 11 [(0,.any),(1,.any),(12,.any),(13,.any)] (.trim [(4,.any)] (.loop (.mark 13 [(0,.any),(1,.any),(12,.any),(13,.any)] (mOf pM 13)))):=aE (ax _) (m:=L5) rfl (by kernel_rfl) (by kernel_rfl) (fun a=>by kernel_rfl) (ah (by kernel_rfl) ai) (B:=fun a:vY=>sq a.1 a.2.1 a.2.2.1 a.2.2.2.1) (fun a=>by kernel_rfl) (fun a kn kx=>by kernel_rfl)
theorem ZT:aF t0 Il aa pM.keep pM.body:=(ah (by kernel_rfl) (ay ac8 ai))
theorem Wp:FnE t0 Il aa pM DE (fun d:Nc=>FT d.1 d.2.1):=fun d k=>by kernel_rfl
theorem TD:FnE agW q0 aa WV Bd (fun d:TWay×TCoh×Unit=>DT d.1 d.2.1):=fun d k=>by kernel_rfl
theorem aaU:Mo qt qb gi 27 [(1,.any),(12,.any),(13,.any),(14,.any),(19,.any),(20,.any),(21,.any),(25,.any),(26,.any),(27,.any)] (.trim [(1,.any),(4,.any),(12,.any),(13,.any),(14,.any),(19,.any),(20,.any),(21,.any)] (.loop (.mark 29 [(1,.any),(12,.any),(13,.any),(14,.any),(19,.any),(20,.any),(21,.any),(25,.any),(26,.any),(27,.any)] (mOf gi 29)))):=aE (ax _) (m:=JN) rfl (by kernel_rfl) (by kernel_rfl) (fun a=>by kernel_rfl) (ah (by kernel_rfl) ai) (B:=fun a:vZ=>qH a.1.2.1 a.2.1 a.2.2.1 a.2.2.2.1 a.2.2.2.2.1 a.2.2.2.2.2.1 a.2.2.2.2.2.2.1 a.2.2.2.2.2.2.2.1 a.2.2.2.2.2.2.2.2.1 a.2.2.2.2.2.2.2.2.2.1) (fun a=>by kernel_rfl) (fun a kn kx=>by kernel_rfl)
theorem aaT:Mo qt qb gi 16 [(1,.any),(12,.any),(13,.any),(14,.any),(19,.any),(20,.any),(21,.any)] (.trim [(1,.any),(4,.any),(12,.any),(13,.any),(14,.any)] (.loop (.mark 18 [(1,.any),(12,.any),(13,.any),(14,.any),(19,.any),(20,.any),(21,.any)] (mOf gi 18)))):=aE (ax _) (m:=JM) rfl (by kernel_rfl) (by kernel_rfl) (fun a=>by kernel_rfl) (ah (by kernel_rfl) (ay aaU ai)) (B:=fun a:v5=>qG a.1.2.1 a.2.1 a.2.2.1 a.2.2.2.1 a.2.2.2.2.1 a.2.2.2.2.2.1 a.2.2.2.2.2.2.1) (fun a=>by kernel_rfl) (fun a kn kx=>by kernel_rfl)
theorem aaV:Mo qt qb gi 5 [(1,.any),(12,.any),(13,.any),(14,.any)] (.trim [(4,.any)] (.loop (.mark 7 [(1,.any),(12,.any),(13,.any),(14,.any)] (mOf gi 7)))):=aE (ax _) (m:=JO) rfl (by kernel_rfl) (by kernel_rfl) (fun a=>by kernel_rfl) (ah (by kernel_rfl) (ay aaT ai)) (B:=fun a:v7=>qI a.1.2.1 a.2.1 a.2.2.1 a.2.2.2.1) (fun a=>by kernel_rfl) (fun a kn kx=>by kernel_rfl)
theorem Yr:aF qt qb aa gi.keep gi.body:=(ah (by kernel_rfl) (ay aaV ai))
theorem TE:FnE qt qb aa gi Be (fun d:Nd=>DW d.1 d.2.1.2.1):=fun d k=>by kernel_rfl
theorem aaW:Mo IH Hl oh 11 [(1,.any),(22,.any),(23,.any),(24,.any)] (.trim [(1,.any),(2,.any)] (.loop (.mark 13 [(1,.any),(22,.any),(23,.any),(24,.any)] (mOf oh 13)))):=aE (ax _) (m:=JP) rfl (by kernel_rfl) (by kernel_rfl) (fun a=>by kernel_rfl) (ah (by kernel_rfl) ai) (B:=fun a:v8=>qF a.1 a.2.1 a.2.2.1 a.2.2.2.1) (fun a=>by kernel_rfl) (fun a kn kx=>by kernel_rfl)
theorem Yt:aF IH Hl aa oh.keep oh.body:=(ah (by kernel_rfl) (ay aaW ai))
theorem TF:FnE IH Hl aa oh Bf (fun d:dM=>DS d.1):=fun d k=>by kernel_rfl
theorem aaX:Mo II Hm oq 17 [(7,.any),(8,.any)] (.trim [(7,.any)] (.loop (.mark 19 [(7,.any),(8,.any)] (mOf oq 19)))):=aE (ax _) (m:=JQ) rfl (by kernel_rfl) (by kernel_rfl) (fun a=>by kernel_rfl) (ah (by kernel_rfl) ai) (B:=fun a:kI=>Jo a.1 a.2.1) (fun a=>by kernel_rfl) (fun a kn kx=>by kernel_rfl)
theorem Yu:aF II Hm aa oq.keep oq.body:=(ah (by kernel_rfl) (ay aaX ai))
theorem TJ:FnE II Hm aa oq Bj (fun d:kI=>Nb d.1 d.2.1):=fun d k=>by kernel_rfl
theorem TK:FnE agY q0 aa WZ Bl (fun d:Y7=>MI d.1):=fun d k=>by kernel_rfl
theorem TR:FnE t0 q0 aa W4 Br (fun d:Y7=>MF d.1):=fun d k=>by kernel_rfl
theorem T8:FnE t0 q0 aa Xb BE (fun d:v9=>Eu d.1 d.2.1 d.2.2.1):=fun d k=>by kernel_rfl
theorem Uc:FnE ag5 q0 aa Xc vm (fun d:Unit=>MH):=fun d k=>by kernel_rfl
theorem abd:Mo IL Hv oG 13 [(1,.any),(3,.any),(4,.any)] (.trim [(3,.any)] (.loop (.mark 15 [(1,.any),(3,.any),(4,.any)] (mOf oG 15)))):=aE (ax _) (m:=J6) rfl (by kernel_rfl) (by kernel_rfl) (fun a=>by kernel_rfl) (ah (by kernel_rfl) ai) (B:=fun a:wa=>rh a.1 a.2.1 a.2.2.1) (fun a=>by kernel_rfl) (fun a kn kx=>by kernel_rfl)
theorem YF:aF IL Hv aa oG.keep oG.body:=(ah (by kernel_rfl) (ay abd ai))
theorem Ui:FnE IL Hv aa oG vp (fun d:gX=>ET d.1):=fun d k=>by kernel_rfl
theorem abf:Mo zF zd ji 28 [(1,.any),(5,.any),(6,.any),(7,.any)] (.trim [(1,.any),(4,.any),(5,.any),(6,.any)] (.loop (.mark 30 [(1,.any),(5,.any),(6,.any),(7,.any)] (mOf ji 30)))):=aE (ax _) (m:=J8) rfl (by kernel_rfl) (by kernel_rfl) (fun a=>by kernel_rfl) (ah (by kernel_rfl) ai) (B:=fun a:wb=>rj a.1 a.2.1 a.2.2.1 a.2.2.2.1) (fun a=>by kernel_rfl) (fun a kn kx=>by kernel_rfl)
theorem abe:Mo zF zd ji 13 [(1,.any),(5,.any),(6,.any)] (.trim [(4,.any)] (.loop (.mark 15 [(1,.any),(5,.any),(6,.any)] (mOf ji 15)))):=aE (ax _) (m:=J7) rfl (by kernel_rfl) (by kernel_rfl) (fun a=>by kernel_rfl) (ah (by kernel_rfl) (ay abf ai)) (B:=fun a:hE=>ri a.1 a.2.1 a.2.2.1) (fun a=>by kernel_rfl) (fun a kn kx=>by kernel_rfl)
theorem YG:aF zF zd aa ji.keep ji.body:=(ah (by kernel_rfl) (ay abe ai))
theorem Uj:FnE zF zd aa ji BK (fun d:kJ=>EU d.1 d.2.1):=fun d k=>by kernel_rfl
theorem Uk:FnE t0 q0 aa Xg BL (fun d:vT=>EX d.1):=fun d k=>by kernel_rfl
theorem abk:Mo IM Hx oI 15 [(1,.any),(2,.any),(3,.any),(7,.any),(8,.any),(9,.any)] (.trim [(1,.any),(2,.any),(3,.any),(6,.any),(7,.any)] (.loop (.mark 17 [(1,.any),(2,.any),(3,.any),(7,.any),(8,.any),(9,.any)] (mOf oI 17)))):=aE (ax _) (m:=Kd) rfl (by kernel_rfl) (by kernel_rfl) (fun a=>by kernel_rfl) (ah (by kernel_rfl) ai) (B:=fun a:wc=>rl a.1 a.2.1 a.2.2.1 a.2.2.2.1 a.2.2.2.2.1 a.2.2.2.2.2.1) (fun a=>by kernel_rfl) (fun a kn kx=>by kernel_rfl)
theorem YJ:aF IM Hx aa oI.keep oI.body:=(ah (by kernel_rfl) (ay abk ai))
theorem Un:FnE IM Hx aa oI BO (fun d:kL=>EW d.1 d.2.1 d.2.2.1):=fun d k=>by kernel_rfl
theorem abm:Mo zG ze jk 20 [(1,.any),(3,.any),(4,.any)] (.trim [(1,.any),(2,.any),(3,.any)] (.loop (.mark 22 [(1,.any),(3,.any),(4,.any)] (mOf jk 22)))):=aE (ax _) (m:=Kf) rfl (by kernel_rfl) (by kernel_rfl) (fun a=>by kernel_rfl) (ah (by kernel_rfl) ai) (B:=fun a:we=>rV a.1 a.2.1 a.2.2.1) (fun a=>by kernel_rfl) (fun a kn kx=>by kernel_rfl)
theorem abn:Mo zG ze jk 5 [(1,.any),(3,.any)] (.trim [(2,.any)] (.loop (.mark 7 [(1,.any),(3,.any)] (mOf jk 7)))):=aE (ax _) (m:=Kg) rfl (by kernel_rfl) (by kernel_rfl) (fun a=>by kernel_rfl) (ah (by kernel_rfl) (ay abm ai)) (B:=fun a:dm=>rX a.1 a.2.1) (fun a=>by kernel_rfl) (fun a kn kx=>by kernel_rfl)
theorem YL:aF zG ze aa jk.keep jk.body:=(ah (by kernel_rfl) (ay abn ai))
theorem Uq:FnE zG ze aa jk BQ (fun d:Y0=>Ft d.1):=fun d k=>by kernel_rfl
theorem abv:Mo IP HA oL 7 [(2,.any),(3,.any),(4,.any),(5,.any),(6,.any)] (.trim [(4,.any),(5,.any)] (.loop (.mark 9 [(2,.any),(3,.any),(4,.any),(5,.any),(6,.any)] (mOf oL 9)))):=aE (ax _) (m:=Kn) rfl (by kernel_rfl) (by kernel_rfl) (fun a=>by kernel_rfl) (ah (by kernel_rfl) ai) (B:=fun a:gN=>Jg a.1 a.2.1 a.2.2.1 a.2.2.2.1 a.2.2.2.2.1) (fun a=>by kernel_rfl) (fun a kn kx=>by kernel_rfl)
theorem YP:aF IP HA aa oL.keep oL.body:=(ah (by kernel_rfl) (ay abv ai))
theorem Uv:FnE IP HA aa oL BU (fun d:wg=>M2 d.1 d.2.1):=fun d k=>by kernel_rfl
theorem abN:Mo zI zi jn 28 [(1,.any),(2,.any),(5,.any),(6,.any),(7,.any)] (.trim [(1,.any),(2,.any),(4,.any),(5,.any),(6,.any)] (.loop (.mark 30 [(1,.any),(2,.any),(5,.any),(6,.any),(7,.any)] (mOf jn 30)))):=aE (ax _) (m:=KF) rfl (by kernel_rfl) (by kernel_rfl) (fun a=>by kernel_rfl) (ah (by kernel_rfl) ai) (B:=fun a:wh=>rD a.1 a.2.1 a.2.2.1 a.2.2.2.1 a.2.2.2.2.1) (fun a=>by kernel_rfl) (fun a kn kx=>by kernel_rfl)
theorem abO:Mo zI zi jn 7 [(1,.any),(2,.any),(5,.any),(6,.any)] (.trim [(4,.any)] (.loop (.mark 9 [(1,.any),(2,.any),(5,.any),(6,.any)] (mOf jn 9)))):=aE (ax _) (m:=KG) rfl (by kernel_rfl) (by kernel_rfl) (fun a=>by kernel_rfl) (ah (by kernel_rfl) (ay abN ai)) (B:=fun a:wj=>rE a.1 a.2.1 a.2.2.1 a.2.2.2.1) (fun a=>by kernel_rfl) (fun a kn kx=>by kernel_rfl)
theorem YV:aF zI zi aa jn.keep jn.body:=(ah (by kernel_rfl) (ay abO ai))
theorem UC:FnE zI zi aa jn B1 (fun d:fw=>E7 d.1 d.2.1):=fun d k=>by kernel_rfl
theorem abP:Mo IV HE oP 11 [(1,.any),(3,.any)] (.trim [(2,.any)] (.loop (.mark 13 [(1,.any),(3,.any)] (mOf oP 13)))):=aE (ax _) (m:=KH) rfl (by kernel_rfl) (by kernel_rfl) (fun a=>by kernel_rfl) (ah (by kernel_rfl) ai) (B:=fun a:fw=>rA a.1 a.2.1) (fun a=>by kernel_rfl) (fun a kn kx=>by kernel_rfl)
theorem YW:aF IV HE aa oP.keep oP.body:=(ah (by kernel_rfl) (ay abP ai))
theorem UD:FnE IV HE aa oP B2 (fun d:xM=>E5 d.1):=fun d k=>by kernel_rfl
theorem abR:Mo IW HG oS 13 [(1,.any),(2,.any),(7,.any),(8,.any)] (.trim [(4,.any),(5,.any),(6,.any)] (.loop (.mark 15 [(1,.any),(2,.any),(7,.any),(8,.any)] (mOf oS 15)))):=aE (ax _) (m:=KJ) rfl (by kernel_rfl) (by kernel_rfl) (fun a=>by kernel_rfl) (ah (by kernel_rfl) ai) (B:=fun a:wk=>lQ a.1 a.2.1 a.2.2.1 a.2.2.2.1) (fun a=>by kernel_rfl) (fun a kn kx=>by kernel_rfl)
theorem YY:aF IW HG aa oS.keep oS.body:=(ah (by kernel_rfl) (ay abR ai))
theorem UH:FnE IW HG aa oS B5 (fun d:eB=>vO d.1 d.2.1):=fun d k=>by kernel_rfl
theorem UJ:FnE ag9 q0 aa Xn B7 (fun d:Ng=>Fc d.1 d.2.1 d.2.2.1):=fun d k=>by kernel_rfl
theorem abT:Mo t0 HH oT 7 [(0,.any),(3,.any),(4,.any),(5,.any)] (.trim [(2,.any),(3,.any),(4,.any)] (.loop (.mark 9 [(0,.any),(3,.any),(4,.any),(5,.any)] (mOf oT 9)))):=aE (ax _) (m:=KL) rfl (by kernel_rfl) (by kernel_rfl) (fun a=>by kernel_rfl) (ah (by kernel_rfl) ai) (B:=fun a:wm=>rz a.1 a.2.1 a.2.2.1 a.2.2.2.1) (fun a=>by kernel_rfl) (fun a kn kx=>by kernel_rfl)
theorem YZ:aF t0 HH aa oT.keep oT.body:=(ah (by kernel_rfl) (ay abT ai))
theorem UL:FnE t0 HH aa oT B8 (fun d:cq=>E4 d.1):=fun d k=>by kernel_rfl
theorem UO:FnE t0 q0 aa Xq vx (fun d:dM=>Fg d.1):=fun d k=>by kernel_rfl
theorem abY:Mo IX HI oU 13 [(1,.any),(5,.any),(6,.any),(7,.any),(8,.any)] (.trim [(6,.any),(7,.any)] (.loop (.mark 15 [(1,.any),(5,.any),(6,.any),(7,.any),(8,.any)] (mOf oU 15)))):=aE (ax _) (m:=KQ) rfl (by kernel_rfl) (by kernel_rfl) (fun a=>by kernel_rfl) (ah (by kernel_rfl) ai) (B:=fun a:wo=>rN a.1 a.2.1 a.2.2.1 a.2.2.2.1 a.2.2.2.2.1) (fun a=>by kernel_rfl) (fun a kn kx=>by kernel_rfl)
theorem Zb:aF IX HI aa oU.keep oU.body:=(ah (by kernel_rfl) (ay abY ai))
theorem UP:FnE IX HI aa oU Cb (fun d:Nh=>Fh d.1 d.2.1 d.2.2.1):=fun d k=>by kernel_rfl
theorem ach:Mo t0 HM oZ 11 [(0,.any),(1,.any),(5,.any)] (.trim [(4,.any)] (.loop (.mark 13 [(0,.any),(1,.any),(5,.any)] (mOf oZ 13)))):=aE (ax _) (m:=K9) rfl (by kernel_rfl) (by kernel_rfl) (fun a=>by kernel_rfl) (ah (by kernel_rfl) ai) (B:=fun a:gU=>si a.1 a.2.1 a.2.2.1) (fun a=>by kernel_rfl) (fun a kn kx=>by kernel_rfl)
theorem Zi:aF t0 HM aa oZ.keep oZ.body:=(ah (by kernel_rfl) (ay ach ai))
theorem U2:FnE t0 HM aa oZ vz (fun d:Ni=>FH d.1 d.2.1):=fun d k=>by kernel_rfl
end Go.Proofs.YtnpgljilkkipkaaGreat
