/- What the row of MachineOpens has to fit of the program. -/
import Derived.Test.YtpeldaogdeefeaaGreatJEnter
import Derived.Test.YtpeldaogdeefeaaGreatJLiftMO
namespace Go.Proofs.YtpeldaogdeefeaaGreat
theorem j_machineOpens : joinedFacts Tryz.checked.prog 10 Tryz.f10 Rows.machineOpensSpec Rows.machineOpensRow = true := by
  unfold joinedFacts
  rw [j_enter, j_liftMO, j_makeMO]
  kernel_rfl
end Go.Proofs.YtpeldaogdeefeaaGreat
