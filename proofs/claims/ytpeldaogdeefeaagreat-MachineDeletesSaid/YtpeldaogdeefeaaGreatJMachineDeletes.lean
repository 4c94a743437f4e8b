/- What the row of MachineDeletes has to fit of the program. -/
import Derived.Test.YtpeldaogdeefeaaGreatJEnter
import Derived.Test.YtpeldaogdeefeaaGreatJLiftMD
namespace Go.Proofs.YtpeldaogdeefeaaGreat
theorem j_machineDeletes : joinedFacts Tryz.checked.prog 12 Tryz.f12 Rows.machineDeletesSpec Rows.machineDeletesRow = true := by
  unfold joinedFacts
  rw [j_enter, j_liftMD, j_makeMD]
  kernel_rfl
end Go.Proofs.YtpeldaogdeefeaaGreat
