/- Two whole-program facts of the rows, in a text of their own: the kernel's memory. -/
import Derived.Test.YtpeldaogdeefeaaGreatRows
import Derived.JoinedOf
import Derived.KernelRfl
namespace Go.Proofs.YtpeldaogdeefeaaGreat
theorem j_liftMD : (Rows.machineDeletesRow.lifted == Tryz.checked.prog.liftsFinal) = true := by kernel_rfl
theorem j_makeMD : (Tryz.checked.prog.make == some Rows.machineDeletesRow.make) = true := by kernel_rfl
end Go.Proofs.YtpeldaogdeefeaaGreat
