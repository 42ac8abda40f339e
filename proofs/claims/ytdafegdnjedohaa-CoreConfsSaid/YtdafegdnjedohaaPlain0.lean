/- YtdafegdnjedohaaPureConfs: the law CoreConfs in plain terms. No statement of the seat is proved here. -/
import Derived.Test.YtdafegdnjedohaaConf
import Derived.Test.YtdafegdnjedohaaAwake
set_option maxRecDepth 100000
namespace Go.Proofs.Ytdafegdnjedohaa
open Go Go.A2
noncomputable def tailConfs : Tree Bool :=
 .opt (F_core_Plain) fun r3 =>
 .opt (F_ref42_Plain) fun r4 =>
 .ite (Tab.eq tab (.named .TConf) r3 r4) (.opt (F_core_Plain) fun r5 =>
 .opt (F_core_Conf r5) fun r6 =>
 .ite (W.eq r6 (W.of .i64 0)) (.opt (F_law42_awake) fun r7 =>
 .ret r7)
 (.ret false))
 (.ret false)
theorem tailConfs_true : tailConfs.eval = some true := by kernel_rfl
theorem coreConfs (c : TConf) : F_law42_CoreConfs c = some true := by
  have : F_law42_CoreConfs c = (F_core_Conf c).bind fun r1 => (F_ref42_Conf c).bind fun r2 => if W.eq r1 r2 = true then tailConfs.eval else some false := by
    unfold F_law42_CoreConfs T_law42_CoreConfs
    rw [ev_opt]
    congr 1
    funext r1
    rw [ev_opt]
    congr 1
    funext r2
    rw [ev_ite]
    rfl
  rw [this, core_conf, ref_conf, bind_some', bind_some', W.eq_self, tailConfs_true]
  rfl
end Go.Proofs.Ytdafegdnjedohaa
