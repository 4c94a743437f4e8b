/- What the row of MachineSearches has to fit of the program. -/
import Derived.Test.YtpeldaogdeefeaaGreatJEnter
import Derived.Test.YtpeldaogdeefeaaGreatJLiftMS
namespace Go.Proofs.YtpeldaogdeefeaaGreat
theorem j_machineSearches : joinedFacts Tryz.checked.prog 16 Tryz.f16 Rows.machineSearchesSpec Rows.machineSearchesRow = true := by
  unfold joinedFacts
  rw [j_enter, j_liftMS, j_makeMS]
  kernel_rfl
end Go.Proofs.YtpeldaogdeefeaaGreat
