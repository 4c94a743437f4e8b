/- Image: EqSessions of rows that hold nothing (only these are asked by ImageAny). -/
import Derived.Test.YticlghbdapbdnaaIx0
namespace Go.Proofs.Yticlghbdapbdnaa.I
open Go.RowKit Go.Proofs.YticlghbdapbdnaaW.PrintWords Go.Proofs.YticlghbdapbdnaaW.PrintLast Go.Proofs.YticlghbdapbdnaaW.PrintMore
set_option linter.unusedVariables false
set_option linter.unusedSimpArgs false
def lecternref0_EqSessions.f (k : Nat) (l0 : List S47) (l1 : List S47) : Option Bool := if l0.length = 0 ∧ l1.length = 0 then some true else none
theorem lecternref0_EqSessions.mono : ∀ a0 a1 k, LeO (lecternref0_EqSessions.f k a0 a1) (lecternref0_EqSessions.f (k + 1) a0 a1) := fun _ _ _ => LeO.refl _
set_option maxHeartbeats 1600000 in
set_option maxRecDepth 100000 in
theorem lecternref0_EqSessions.calls (k : Nat) (A0 : Option Addr) (c0 : Nat) (l0 : List (S47)) (A1 : Option Addr) (c1 : Nat) (l1 : List (S47)) (r : Bool) (w : World) (hr0 : Kd.C k47 w A0 l0.length l0) (hc0 : l0.length ≤ c0) (hr1 : Kd.C k47 w A1 l1.length l1) (hc1 : l1.length ≤ c1) (h : lecternref0_EqSessions.f k l0 l1 = some r) :
    Calls Try.prog 16 #[.slice A0 l0.length c0, .slice A1 l1.length c1] w fun e w' => e = .returned (.bool r) ∧ Below w.heap.size w w' := by
  unfold lecternref0_EqSessions.f at h
  by_cases hh : l0.length = 0 ∧ l1.length = 0
  · rw [if_pos hh] at h
    cases h
    obtain ⟨e0, e1⟩ := hh
    rw [e0, e1]
    clear hr0 hc0 hr1 hc1 e0 e1
    go_enter Try.func16, Try.ntmps16
    go_wp2_with fail
    go_loopg [5] 1 (fun kq v5 w' => v5 = .int .i64 0 ∧ Aside0 (Below w.heap.size w w'))
    case atStart => exact ⟨rfl, ⟨Below.refl _ _⟩⟩
    case round =>
      obtain ⟨rfl, HB⟩ := hrel
      go_wp2_with fail
      go_ret
      exact ⟨rfl, HB.out⟩
  · rw [if_neg hh] at h
    cases h
end Go.Proofs.Yticlghbdapbdnaa.I
