/- A whole-program fact of the rows, in a text of its own: the kernel's memory. -/
import Derived.Test.YtpeldaogdeefeaaGreatRows
import Derived.JoinedOf
import Derived.KernelRfl
namespace Go.Proofs.YtpeldaogdeefeaaGreat
theorem j_enter : Tryz.checked.prog.mayEnter = true := by kernel_rfl
end Go.Proofs.YtpeldaogdeefeaaGreat
