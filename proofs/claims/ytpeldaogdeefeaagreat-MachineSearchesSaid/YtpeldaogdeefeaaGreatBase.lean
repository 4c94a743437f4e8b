/- Plain facts on integer kinds: how they wrap, and which numbers fit. -/
import Derived.Test.YtpeldaogdeefeaaGreatOpen
import Derived.Laws.BitsLemmas
import Derived.RowKit
namespace Go.Proofs.YtpeldaogdeefeaaGreat.Base
open Go.RowKit

theorem wrap_u64 (n : Int) : IntKind.u64.wrap n = n % 18446744073709551616 := by simp [IntKind.wrap, IntKind.bits, IntKind.signed]
end Go.Proofs.YtpeldaogdeefeaaGreat.Base
