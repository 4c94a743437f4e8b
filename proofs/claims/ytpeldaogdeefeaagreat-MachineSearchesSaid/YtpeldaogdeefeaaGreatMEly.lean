/- MachineSearches: the law's walk and what its guards come to, joined. -/
import Derived.Test.YtpeldaogdeefeaaGreatMSel
import Derived.Test.YtpeldaogdeefeaaGreatMG10
namespace Go.Proofs.YtpeldaogdeefeaaGreat.M
open Go.Proofs.YtpeldaogdeefeaaGreat.Opening Go.Proofs.YtpeldaogdeefeaaGreat.H Go.RowKit Go.Maps Go.Sort Go.Proofs.YtpeldaogdeefeaaGreatW.PrintWords Go.Proofs.YtpeldaogdeefeaaGreatW.PrintLast Go.Proofs.YtpeldaogdeefeaaGreatW.PrintMore Go.Proofs.YtpeldaogdeefeaaGreat.Base
set_option linter.unusedVariables false
theorem searches_law (x : S63) (cs : List Value) (w : World) (hk : k63.K w x cs) (ho : ok63 x) (m : Int) (hm : w.cell? ⟨0, 0, none⟩ = some (.int .i64 m)) : Calls Tryz.prog 16 #[.agg ⟨cs⟩] w fun e w' => e = .returned (.bool true) ∧ Below w.heap.size w w' := by
  obtain ⟨_, _, rfl, ⟨_, _, rfl, rfl, ⟨_, _, rfl, ⟨A1, c1, rfl, hc1, hC1⟩, ⟨A2, c2, rfl, hc2, hC2⟩⟩⟩, ⟨A3, c3, rfl, hc3, hC3⟩⟩ := hk
  obtain ⟨⟨_, ⟨h1, _⟩, h2, h3⟩, h4, h5⟩ := ho
  have hh : ∀ i, i < x.f0.f2.length → (rd_T140 x.f0.f2 (i : Int)).f2.f2.length ≤ 1000000000000000 := fun i hi => by
    have e : rd_T140 x.f0.f2 (i : Int) = x.f0.f2[i] := by unfold rd_T140; rw [Int.toNat_natCast, List.getD_eq_getElem?_getD, List.getElem?_eq_getElem hi]; rfl
    rw [e]
    have := (h3 _ (List.getElem_mem hi)).2.2.1.2.2.1
    omega
  obtain ⟨hb, hheavy⟩ := hv_l0 x.f0.f0 x.f0.f1 x.f0.f2 x.f1 (by omega) (by omega) (by omega) hh x.f1.length 0 (by omega) 0
  obtain ⟨kh, hkh⟩ := Ev.some hheavy
  obtain ⟨sb, hs, hok⟩ := state_may x.f0.f0 x.f0.f1 x.f0.f2 (by omega)
  obtain ⟨ks, hks⟩ := Ev.some hs
  exact searches_walk x.f0.f0 x.f0.f1 x.f0.f2 x.f1 A1 A2 A3 c1 c2 c3 w hC1 hc1 hC2 hc2 hC3 hc3 kh hb hkh ks sb hks hok m hm
end Go.Proofs.YtpeldaogdeefeaaGreat.M
