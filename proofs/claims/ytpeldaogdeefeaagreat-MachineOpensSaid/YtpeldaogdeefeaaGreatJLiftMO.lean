/- Two whole-program facts of the rows, in a text of their own: the kernel's memory. -/
import Derived.Test.YtpeldaogdeefeaaGreatRows
import Derived.JoinedOf
import Derived.KernelRfl
namespace Go.Proofs.YtpeldaogdeefeaaGreat
theorem j_liftMO : (Rows.machineOpensRow.lifted == Tryz.checked.prog.liftsFinal) = true := by kernel_rfl
theorem j_makeMO : (Tryz.checked.prog.make == some Rows.machineOpensRow.make) = true := by kernel_rfl
end Go.Proofs.YtpeldaogdeefeaaGreat
