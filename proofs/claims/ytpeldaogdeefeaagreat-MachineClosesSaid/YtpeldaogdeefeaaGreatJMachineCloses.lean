/- What the row of MachineCloses has to fit of the program. -/
import Derived.Test.YtpeldaogdeefeaaGreatJEnter
import Derived.Test.YtpeldaogdeefeaaGreatJLiftMC
namespace Go.Proofs.YtpeldaogdeefeaaGreat
theorem j_machineCloses : joinedFacts Tryz.checked.prog 13 Tryz.f13 Rows.machineClosesSpec Rows.machineClosesRow = true := by
  unfold joinedFacts
  rw [j_enter, j_liftMC, j_makeMC]
  kernel_rfl
end Go.Proofs.YtpeldaogdeefeaaGreat
