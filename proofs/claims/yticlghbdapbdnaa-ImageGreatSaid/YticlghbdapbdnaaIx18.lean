-- Written by a program: the kit's printer with changes of this session (NOTES.md).
import Derived.Test.YticlghbdapbdnaaIx0
import Derived.Test.YticlghbdapbdnaaIS
namespace Go.Proofs.Yticlghbdapbdnaa.I
open Go.RowKit Go.Proofs.YticlghbdapbdnaaW.PrintWords Go.Proofs.YticlghbdapbdnaaW.PrintLast Go.Proofs.YticlghbdapbdnaaW.PrintMore
attribute [local go_sem] max2_int min2_int max_two min_two max_three min_three max_four min_four   -- for this text's walks alone
set_option linter.unusedVariables false
set_option linter.unusedSimpArgs false

/-! ### sum_Sum: function 21 -/
/-- The sum of bytes behind nothing; told for not too many. -/
def sum_Sum.f (x0 : Int) (l1 : List Int) : Option Int := if x0 = 0 ∧ l1.length ≤ 2000000 then some (I.sumV l1) else none
theorem sum_Sum.calls (x0 : Int) (A1 : Option Addr) (c1 : Nat) (l1 : List Int) (r : Int) (w : World) (hr1 : Kd.C (Kd.int .u8) w A1 l1.length l1) (hc1 : l1.length ≤ c1) (h : sum_Sum.f x0 l1 = some r) :
    Calls Try.prog 21 #[.int .u32 x0, .slice A1 l1.length c1] w fun e w' => e = .returned (.int .u32 r) ∧ Below w.heap.size w w' := by
  unfold sum_Sum.f at h
  split at h
  · rename_i hh
    cases h
    rw [hh.1]
    exact I.sum_calls A1 c1 l1 hh.2 w hr1
  · cases h

end Go.Proofs.Yticlghbdapbdnaa.I
