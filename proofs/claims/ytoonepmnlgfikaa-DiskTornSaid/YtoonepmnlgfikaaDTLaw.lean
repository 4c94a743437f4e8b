/- DiskTorn: the law's function returns true for every script that can be read. -/
import Derived.Test.YtoonepmnlgfikaaDTWalk
import Derived.Test.YtoonepmnlgfikaaDOpens
namespace Go.Proofs.Ytoonepmnlgfikaa.D
open Go.RowKit Go.Proofs.YtoonepmnlgfikaaW.PrintWords Go.Proofs.YtoonepmnlgfikaaW.PrintLast Go.Proofs.YtoonepmnlgfikaaW.PrintMore Go.Proofs.Ytoonepmnlgfikaa.Base Go.Proofs.Ytoonepmnlgfikaa.Opening Go.Maps
set_option linter.unusedVariables false
set_option linter.unusedSimpArgs false
theorem torn_walk (x : S25) (cs : List Value) (w : World) (hk : k25.K w x cs) (ok : ok25 x) :
    Calls Try.prog 3 #[.agg ⟨cs⟩] w fun e w' => e = .returned (.bool true) ∧ Below w.heap.size w w' := by
  obtain ⟨c0, c1, rfl, ⟨A0, n0, rfl, h0, hC0⟩, ⟨A1, n1, rfl, h1, hC1⟩⟩ := hk
  exact torn_walk0 A0 n0 x.f0 A1 n1 x.f1 w hC0 h0 hC1 h1 (fun y hy => by have := (ok.1.2 y hy).2.1; omega) (fun y hy => ⟨by have := (ok.2.2 y hy).2.2.2.2.1.1; omega, by have := (ok.2.2 y hy).2.2.2.2.2.1; omega⟩) (by have := ok.2.1; omega)
end Go.Proofs.Ytoonepmnlgfikaa.D
