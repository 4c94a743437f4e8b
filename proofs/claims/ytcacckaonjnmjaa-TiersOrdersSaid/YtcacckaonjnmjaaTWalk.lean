/- TiersMerges: the law's function returns true. -/
import Derived.Test.YtcacckaonjnmjaaTLaw
import Derived.Test.YtcacckaonjnmjaaOpen
namespace Go.Proofs.Ytcacckaonjnmjaa.T
open Go.RowKit Go.Proofs.YtcacckaonjnmjaaW.PrintWords Go.Proofs.YtcacckaonjnmjaaW.PrintLast Go.Proofs.YtcacckaonjnmjaaW.PrintMore Go.Proofs.Ytcacckaonjnmjaa.Opening
set_option linter.unusedVariables false
def ok104 (x : S104) : Prop := x.f0.size ≤ 140737488351232 ∧ (x.f1.size ≤ 140737488351232)
theorem opens_104 : Opens Try.prog 104 k104 ok104 :=
  opens_struct (fun x : S104 => (x.f0, x.f1)) (fun p => ⟨p.1, p.2⟩) (fun _ => rfl) Try.underlying104 (by kernel_rfl)
    (show OpensFs Try.prog [9, 9] _ _ from (opens_cons (opens_string Try.underlying9 (by kernel_rfl)) (opens_last (opens_string Try.underlying9 (by kernel_rfl)))))
structure S61 where
  f0 : List (List S104)
  f1 : List Int
def k61 : Kd S61 := Kd.iso (Kd.pair (Kd.slice 63 (Kd.slice 104 k104)) (Kd.slice 3 (Kd.int .i64))) (fun x : S61 => (x.f0, x.f1))
def ok61 (x : S61) : Prop := (x.f0.length * 24 ≤ 140737488351232 ∧ ∀ y63 ∈ x.f0, (y63.length * 32 ≤ 140737488351232 ∧ ∀ y104 ∈ y63, ok104 y104)) ∧ ((x.f1.length * 8 ≤ 140737488351232 ∧ ∀ y3 ∈ x.f1, (Lit.int .i64 y3).wf = true))
theorem opens_61 : Opens Try.prog 61 k61 ok61 :=
  opens_struct (fun x : S61 => (x.f0, x.f1)) (fun p => ⟨p.1, p.2⟩) (fun _ => rfl) Try.underlying61 (by kernel_rfl)
    (show OpensFs Try.prog [59, 42] _ _ from (opens_cons (opens_slice Try.underlying59 (by kernel_rfl) (by kernel_rfl) (opens_slice Try.underlying63 (by kernel_rfl) (by kernel_rfl) opens_104)) (opens_last (opens_slice Try.underlying42 (by kernel_rfl) (by kernel_rfl) (opens_int Try.underlying3 (by kernel_rfl))))))
theorem lists_ok (x : S61) (ok : ok61 x) : ListsOk x.f0 x.f1 := by
  obtain ⟨⟨a1, a2⟩, ⟨a3, a4⟩⟩ := ok
  exact ⟨by omega, fun d hd => ⟨by have := (a2 d hd).1; omega, fun y hy => (a2 d hd).2 y hy⟩, by omega⟩
theorem merges_walk (x : S61) (cs : List Value) (w : World) (hk : k61.K w x cs) (ok : ok61 x) :
    Calls Try.prog 9 #[.agg ⟨cs⟩] w fun e w' => e = .returned (.bool true) ∧ Below w.heap.size w w' := by
  have hl := lists_ok x ok
  obtain ⟨L, l⟩ := x
  obtain ⟨c0, c1, rfl, ⟨A0, n0, rfl, h0, hC0⟩, ⟨A1, n1, rfl, h1, hC1⟩⟩ := hk
  obtain ⟨k, h⟩ := merges_is L l hl
  refine (lecternlaw12_TiersMerges.calls k A0 n0 L A1 n1 l true w hC0 h0 hC1 h1 h).mono ?_
  rintro e w' ⟨rfl, hd⟩
  exact ⟨rfl, hd⟩
end Go.Proofs.Ytcacckaonjnmjaa.T
