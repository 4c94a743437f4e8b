/- What a script's data open to. -/
import Derived.Test.YtcacckaonjnmjaaSx0
import Derived.Test.YtcacckaonjnmjaaOpen
namespace Go.Proofs.Ytcacckaonjnmjaa.S
open Go.RowKit Go.Proofs.YtcacckaonjnmjaaW.PrintWords Go.Proofs.YtcacckaonjnmjaaW.PrintLast Go.Proofs.YtcacckaonjnmjaaW.PrintMore Go.Proofs.Ytcacckaonjnmjaa.Opening
set_option linter.unusedVariables false
set_option linter.unusedSimpArgs false
/-! ### the walks over what can be read -/
def ok116 (x : S116) : Prop := x.f0.size ≤ 140737488351232 ∧ ((Lit.int .i64 x.f1).wf = true)
theorem opens_116 : Opens Try.prog 116 k116 ok116 :=
  opens_struct (fun x : S116 => (x.f0, x.f1)) (fun p => ⟨p.1, p.2⟩) (fun _ => rfl) Try.underlying116 (by kernel_rfl)
    (show OpensFs Try.prog [9, 3] _ _ from (opens_cons (opens_string Try.underlying9 (by kernel_rfl)) (opens_last (opens_int Try.underlying3 (by kernel_rfl)))))
def ok31 (x : S31) : Prop := (Lit.int .i64 x.f0).wf = true ∧ ((Lit.int .i64 x.f1).wf = true ∧ ((x.f2.length * 24 ≤ 140737488351232 ∧ ∀ y116 ∈ x.f2, ok116 y116)))
theorem opens_31 : Opens Try.prog 31 k31 ok31 :=
  opens_struct (fun x : S31 => (x.f0, x.f1, x.f2)) (fun p => ⟨p.1, p.2.1, p.2.2⟩) (fun _ => rfl) Try.underlying31 (by kernel_rfl)
    (show OpensFs Try.prog [28, 3, 29] _ _ from (opens_cons (opens_int Try.underlying28 (by kernel_rfl)) (opens_cons (opens_int Try.underlying3 (by kernel_rfl)) (opens_last (opens_slice Try.underlying29 (by kernel_rfl) (by kernel_rfl) opens_116)))))
def ok88 (x : S88) : Prop := (Lit.int .i64 x.f0).wf = true ∧ ((Lit.int .i64 x.f1).wf = true ∧ (ok31 x.f2 ∧ ((Lit.int .i64 x.f3).wf = true)))
theorem opens_88 : Opens Try.prog 88 k88 ok88 :=
  opens_struct (fun x : S88 => (x.f0, x.f1, x.f2, x.f3)) (fun p => ⟨p.1, p.2.1, p.2.2.1, p.2.2.2⟩) (fun _ => rfl) Try.underlying88 (by kernel_rfl)
    (show OpensFs Try.prog [3, 3, 31, 3] _ _ from (opens_cons (opens_int Try.underlying3 (by kernel_rfl)) (opens_cons (opens_int Try.underlying3 (by kernel_rfl)) (opens_cons opens_31 (opens_last (opens_int Try.underlying3 (by kernel_rfl)))))))
def ok33 (x : S33) : Prop := (Lit.int .i64 x.f0).wf = true ∧ ((Lit.int .i64 x.f1).wf = true ∧ ((Lit.int .i64 x.f2).wf = true ∧ ((Lit.int .i64 x.f3).wf = true ∧ (ok31 x.f4))))
theorem opens_33 : Opens Try.prog 33 k33 ok33 :=
  opens_struct (fun x : S33 => (x.f0, x.f1, x.f2, x.f3, x.f4)) (fun p => ⟨p.1, p.2.1, p.2.2.1, p.2.2.2.1, p.2.2.2.2⟩) (fun _ => rfl) Try.underlying33 (by kernel_rfl)
    (show OpensFs Try.prog [3, 3, 3, 3, 31] _ _ from (opens_cons (opens_int Try.underlying3 (by kernel_rfl)) (opens_cons (opens_int Try.underlying3 (by kernel_rfl)) (opens_cons (opens_int Try.underlying3 (by kernel_rfl)) (opens_cons (opens_int Try.underlying3 (by kernel_rfl)) (opens_last opens_31))))))
structure S25 where
  f0 : List S88
  f1 : List S33
def k25 : Kd S25 := Kd.iso (Kd.pair (Kd.slice 88 k88) (Kd.slice 33 k33)) (fun x : S25 => (x.f0, x.f1))
def ok25 (x : S25) : Prop := (x.f0.length * 64 ≤ 140737488351232 ∧ ∀ y88 ∈ x.f0, ok88 y88) ∧ ((x.f1.length * 72 ≤ 140737488351232 ∧ ∀ y33 ∈ x.f1, ok33 y33))
theorem opens_25 : Opens Try.prog 25 k25 ok25 :=
  opens_struct (fun x : S25 => (x.f0, x.f1)) (fun p => ⟨p.1, p.2⟩) (fun _ => rfl) Try.underlying25 (by kernel_rfl)
    (show OpensFs Try.prog [22, 23] _ _ from (opens_cons (opens_slice Try.underlying22 (by kernel_rfl) (by kernel_rfl) opens_88) (opens_last (opens_slice Try.underlying23 (by kernel_rfl) (by kernel_rfl) opens_33))))
theorem lens25 (x : S25) (ok : ok25 x) : x.f0.length ≤ 1000000000000000 ∧ x.f1.length ≤ 1000000000000000 := by
  obtain ⟨⟨a1, a2⟩, ⟨a3, a4⟩⟩ := ok
  exact ⟨by omega, by omega⟩
end Go.Proofs.Ytcacckaonjnmjaa.S
