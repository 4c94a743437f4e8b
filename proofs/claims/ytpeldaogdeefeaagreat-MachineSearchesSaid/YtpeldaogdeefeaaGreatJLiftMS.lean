/- Two whole-program facts of the rows, in a text of their own: the kernel's memory. -/
import Derived.Test.YtpeldaogdeefeaaGreatRows
import Derived.JoinedOf
import Derived.KernelRfl
namespace Go.Proofs.YtpeldaogdeefeaaGreat
theorem j_liftMS : (Rows.machineSearchesRow.lifted == Tryz.checked.prog.liftsFinal) = true := by kernel_rfl
theorem j_makeMS : (Tryz.checked.prog.make == some Rows.machineSearchesRow.make) = true := by kernel_rfl
end Go.Proofs.YtpeldaogdeefeaaGreat
