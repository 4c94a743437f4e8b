/- What the row of ShelfAdds has to fit of the program. -/
import Derived.Test.YtpeldaogdeefeaaGreatJEnter
import Derived.Test.YtpeldaogdeefeaaGreatJLift
namespace Go.Proofs.YtpeldaogdeefeaaGreat
theorem j_shelfAdds : joinedFacts Tryz.checked.prog 3 Tryz.f3 Rows.shelfAddsSpec Rows.shelfAddsRow = true := by
  unfold joinedFacts
  rw [j_enter, j_lift, j_make]
  kernel_rfl
end Go.Proofs.YtpeldaogdeefeaaGreat
