/- TiersOrders: the law's function returns true. -/
import Derived.Test.YtcacckaonjnmjaaTOrders
namespace Go.Proofs.Ytcacckaonjnmjaa.T
open Go.RowKit Go.Proofs.YtcacckaonjnmjaaW.PrintWords Go.Proofs.YtcacckaonjnmjaaW.PrintLast Go.Proofs.YtcacckaonjnmjaaW.PrintMore Go.Proofs.Ytcacckaonjnmjaa.Opening
set_option linter.unusedVariables false
theorem orders_walk (x : S61) (cs : List Value) (w : World) (hk : k61.K w x cs) (ok : ok61 x) :
    Calls Try.prog 10 #[.agg ⟨cs⟩] w fun e w' => e = .returned (.bool true) ∧ Below w.heap.size w w' := by
  have hl := lists_ok x ok
  obtain ⟨L, l⟩ := x
  obtain ⟨c0, c1, rfl, ⟨A0, n0, rfl, h0, hC0⟩, ⟨A1, n1, rfl, h1, hC1⟩⟩ := hk
  exact orders_calls A0 n0 L A1 n1 l w hC0 h0 hC1 h1 hl
end Go.Proofs.Ytcacckaonjnmjaa.T
