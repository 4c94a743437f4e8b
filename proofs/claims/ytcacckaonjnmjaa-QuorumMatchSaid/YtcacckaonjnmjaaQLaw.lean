/- QuorumExact, QuorumMatch: the laws' functions return true. -/
import Derived.Test.YtcacckaonjnmjaaPureQuorum
import Derived.Test.YtcacckaonjnmjaaOpen
namespace Go.Proofs.Ytcacckaonjnmjaa.Q
open Go.RowKit Go.Proofs.YtcacckaonjnmjaaW.PrintWords Go.Proofs.YtcacckaonjnmjaaW.PrintLast Go.Proofs.YtcacckaonjnmjaaW.PrintMore Go.Proofs.Ytcacckaonjnmjaa.Opening
set_option linter.unusedVariables false
def ok76 (x : S76) : Prop := (Lit.int .i64 x.f0).wf = true ∧ ((x.f1.length * 8 ≤ 140737488351232 ∧ ∀ y3 ∈ x.f1, (Lit.int .i64 y3).wf = true) ∧ ((x.f2.length * 8 ≤ 140737488351232 ∧ ∀ y3 ∈ x.f2, (Lit.int .i64 y3).wf = true)))
theorem opens_76 : Opens Try.prog 76 k76 ok76 :=
  opens_struct (fun x : S76 => (x.f0, x.f1, x.f2)) (fun p => ⟨p.1, p.2.1, p.2.2⟩) (fun _ => rfl) Try.underlying76 (by kernel_rfl)
    (show OpensFs Try.prog [3, 42, 42] _ _ from (opens_cons (opens_int Try.underlying3 (by kernel_rfl)) (opens_cons (opens_slice Try.underlying42 (by kernel_rfl) (by kernel_rfl) (opens_int Try.underlying3 (by kernel_rfl))) (opens_last (opens_slice Try.underlying42 (by kernel_rfl) (by kernel_rfl) (opens_int Try.underlying3 (by kernel_rfl)))))))
theorem opens_74 : Opens Try.prog 74 (Kd.slice 76 k76) (fun l => l.length * 56 ≤ 140737488351232 ∧ ∀ x ∈ l, ok76 x) := opens_slice Try.underlying74 (by kernel_rfl) (by kernel_rfl) opens_76
theorem exact_walk (A : Option Addr) (c : Nat) (l : List S76) (w : World) (hC : Kd.C k76 w A l.length l) (hc : l.length ≤ c) (ok : l.length * 56 ≤ 140737488351232 ∧ ∀ x ∈ l, ok76 x) :
    Calls Try.prog 11 #[.slice A l.length c] w fun e w' => e = .returned (.bool true) ∧ Below w.heap.size w w' := by
  obtain ⟨k, h⟩ := exact_true l (fun p hp => by have := ok.2 p hp; unfold ok76 at this; omega)
  exact lecternlaw24_QuorumExact.calls k A c l true w hC hc h
theorem match_walk (A : Option Addr) (c : Nat) (l : List S76) (w : World) (hC : Kd.C k76 w A l.length l) (hc : l.length ≤ c) (ok : l.length * 56 ≤ 140737488351232 ∧ ∀ x ∈ l, ok76 x) :
    Calls Try.prog 12 #[.slice A l.length c] w fun e w' => e = .returned (.bool true) ∧ Below w.heap.size w w' := by
  obtain ⟨k, h⟩ := match_true l (fun p hp => by have := ok.2 p hp; unfold ok76 at this; omega)
  exact lecternlaw24_QuorumMatch.calls k A c l true w hC hc h
end Go.Proofs.Ytcacckaonjnmjaa.Q
