/- MachineSearches: for every input that can be read the law returns true, and its argument reads afterwards as before. -/
import Derived.Test.YtpeldaogdeefeaaGreatRows
import Derived.Test.YtpeldaogdeefeaaGreatMEly
import Derived.Test.YtpeldaogdeefeaaGreatOpen
import Derived.Test.YtpeldaogdeefeaaGreatJMachineSearches
import Derived.WalkKit
import Derived.ProofKit
import Derived.OpenShut
import Derived.ShutString
import Derived.ChangeOld
import Derived.HandedShaped
import Derived.Shelf.Vars
import Derived.Below
import Derived.SizedLaws
namespace Go.Proofs.YtpeldaogdeefeaaGreat.machineSearches
open Go.ChangeShapes Go.WideShapes Go.ChangeAt Go.RowKit
open Go.Proofs.YtpeldaogdeefeaaGreatW.PrintWords Go.Proofs.YtpeldaogdeefeaaGreat.Opening
set_option linter.unusedVariables false
theorem own : ownKnob Tryz.prog.godebug = none := by kernel_rfl
theorem laidOut : laidOutB Tryz.prog = true := by kernel_rfl
set_option maxRecDepth 100000 in
theorem lifted (os : Os) (started : os.Started) (H : Type) (enc : TypeId × Value → H) :
    ReturnsInHanded {} Tryz.checked os 16 .any (Rows.machineSearchesSpec.pre6 enc Tryz.prog Tryz.f16 Rows.machineSearchesRow.domain false) (Rows.machineSearchesSpec.post enc Tryz.prog Tryz.f16 false true false false) := by
  refine returnsInHanded_of_change_shaped (C := Tryz.checked) own started (by kernel_rfl) Tryz.func16
    (ChangeSpec.witness6 (enc := enc) (C := Tryz.checked) false ⟨#[], #[.agg #[.int .i64 0, .slice none 0 0, .slice none 0 0, .slice none 0 0]], []⟩ 8 (by kernel_rfl) (by kernel_rfl) (by kernel_rfl) (by kernel_rfl)) ?_
  intro W base args ds gs before hval0 hW hcnd hsz0 hsh _
  have hsz : (DataW.weightsEach Tryz.prog (Tryz.f16.params.toList ++ Rows.machineSearchesSpec.plain.varTypes Tryz.prog) (ds ++ gs)).all (· ≤ reachBytes) = true := hsz0
  have hval : ∀ (j : Nat) t v, Tryz.f16.params[j]? = some t → args[j]? = some v → Value.okWide Tryz.prog W .any base t v := hval0
  have hW' := hW
  obtain ⟨p, q, hA0, hV, rfl, hfz, hnd⟩ := hW
  have hA : DataW.TrodAll enc Tryz.prog W 0 (fun _ => true) true Tryz.f16.params.toList args.toList ds p := hA0
  rw [Tryz.params16] at hA hval hsz
  obtain ⟨v0, vs0, d0, ds0, p0, q0, hargs, rfl, rfl, h0, r0⟩ := trodAll_cons hA
  obtain ⟨rfl, rfl, rfl⟩ := trodAll_nil r0
  obtain rfl : args = #[v0] := by cases args; simp_all
  obtain ⟨rfl, rfl⟩ := trodVars_none hV
  have k0 := h0
  have lt0 : ∀ x ∈ p0, x.block < W.heap.size := by obtain ⟨m, hm⟩ := k0; exact DataW.trod_lt m _ _ _ hm
  have hv0 : Value.okWide Tryz.prog W .any base 63 v0 := hval 0 63 v0 rfl rfl
  obtain ⟨l0, hk0, ho0⟩ := opens_arg (j := 0) Go.Proofs.YtpeldaogdeefeaaGreat.M.opens_63 hsz rfl rfl h0
  obtain ⟨⟨cl0⟩, rfl, _⟩ := okWide_struct Tryz.underlying63 hv0
  clear hA0 hval0 hsz0 hsz
  obtain ⟨m0, hm0⟩ := cell_of_shapedOpen_int (P := Tryz.prog) (g := 0) (t := 3) (zero := #[.int .i64 0]) hsh (of_decide_eq_true (by kernel_rfl)) (by kernel_rfl) rfl (by kernel_rfl) (by kernel_rfl) Tryz.underlying3
  refine (Go.Proofs.YtpeldaogdeefeaaGreat.M.searches_law l0 cl0 W hk0 ho0 m0 hm0).mono fun e W' ⟨he, bel⟩ => ?_
  subst he
  exact ⟨_, rfl, _, _, _, [], _, [], hW', trodAll_mk1 (shut_bool Tryz.underlying4 _), (trodAll_cons_mk (Below.trod laidOut (by kernel_rfl) (of_decide_eq_true (by kernel_rfl)) k0 bel lt0) trodAll_mk0), rfl, bel.frame _, fun h => by cases h⟩
theorem over : Rows.machineSearchesRow.holds Tryz.pinned (OpenSpec.ofChange Rows.machineSearchesSpec) :=
  OpenClaim.holds_of_wide 16 Tryz.f16 rfl rfl rfl rfl rfl rfl rfl ⟨rfl, rfl, rfl, rfl, rfl⟩ rfl rfl rfl rfl rfl (by kernel_rfl) Tryz.func16 j_machineSearches
    (of_decide_eq_true (by kernel_rfl)) (by unfold Func.isWrapper; first | (rw [if_pos (by decide +kernel)]; kernel_rfl) | (rw [if_neg (by decide +kernel)]; exact ⟨rfl, rfl⟩))
    (fun os started H enc _ => lifted os started H enc)
theorem proved : Rows.MachineSearchesSaid := over
#print axioms proved
end Go.Proofs.YtpeldaogdeefeaaGreat.machineSearches
namespace Go.Proofs.YtpeldaogdeefeaaGreat
/-- The row, under a short name, for the claim. -/
theorem machineSearches_holds : Rows.MachineSearchesSaid := machineSearches.proved
end Go.Proofs.YtpeldaogdeefeaaGreat
