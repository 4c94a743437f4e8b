/- Disk: an argument of the laws that can be read is a script. -/
import Derived.Test.YtoonepmnlgfikaaDx0
import Derived.Test.YtoonepmnlgfikaaBase
namespace Go.Proofs.Ytoonepmnlgfikaa.D
open Go.ChangeShapes Go.WideShapes Go.RowKit Go.Proofs.YtoonepmnlgfikaaW.PrintWords Go.Proofs.YtoonepmnlgfikaaW.PrintLast Go.Proofs.YtoonepmnlgfikaaW.PrintMore Go.Proofs.Ytoonepmnlgfikaa.Base Go.Proofs.Ytoonepmnlgfikaa.Opening
set_option linter.unusedVariables false
set_option linter.unusedSimpArgs false
def ok40 (x : S40) : Prop := x.f0.size ≤ 140737488351232 ∧ ((x.f1.length * 1 ≤ 140737488351232 ∧ ∀ y5 ∈ x.f1, (Lit.int .u8 y5).wf = true))
theorem opens_40 : Opens Try.prog 40 k40 ok40 :=
  opens_struct (fun x : S40 => (x.f0, x.f1)) (fun p => ⟨p.1, p.2⟩) (fun _ => rfl) Try.underlying40 (by kernel_rfl)
    (show OpensFs Try.prog [9, 27] _ _ from (opens_cons (opens_string Try.underlying9 (by kernel_rfl)) (opens_last (opens_slice Try.underlying27 (by kernel_rfl) (by kernel_rfl) (opens_int Try.underlying5 (by kernel_rfl))))))
def ok30 (x : S30) : Prop := (Lit.int .i64 x.f0).wf = true ∧ (x.f1.size ≤ 140737488351232 ∧ (x.f2.size ≤ 140737488351232 ∧ ((Lit.int .i64 x.f3).wf = true ∧ ((x.f4.length * 1 ≤ 140737488351232 ∧ ∀ y5 ∈ x.f4, (Lit.int .u8 y5).wf = true) ∧ ((x.f5.length * 8 ≤ 140737488351232 ∧ ∀ y3 ∈ x.f5, (Lit.int .i64 y3).wf = true))))))
theorem opens_30 : Opens Try.prog 30 k30 ok30 :=
  opens_struct (fun x : S30 => (x.f0, x.f1, x.f2, x.f3, x.f4, x.f5)) (fun p => ⟨p.1, p.2.1, p.2.2.1, p.2.2.2.1, p.2.2.2.2.1, p.2.2.2.2.2⟩) (fun _ => rfl) Try.underlying30 (by kernel_rfl)
    (show OpensFs Try.prog [3, 9, 9, 3, 27, 28] _ _ from (opens_cons (opens_int Try.underlying3 (by kernel_rfl)) (opens_cons (opens_string Try.underlying9 (by kernel_rfl)) (opens_cons (opens_string Try.underlying9 (by kernel_rfl)) (opens_cons (opens_int Try.underlying3 (by kernel_rfl)) (opens_cons (opens_slice Try.underlying27 (by kernel_rfl) (by kernel_rfl) (opens_int Try.underlying5 (by kernel_rfl))) (opens_last (opens_slice Try.underlying28 (by kernel_rfl) (by kernel_rfl) (opens_int Try.underlying3 (by kernel_rfl))))))))))
structure S25 where
  f0 : List S40
  f1 : List S30
def k25 : Kd S25 := Kd.iso (Kd.pair (Kd.slice 40 k40) (Kd.slice 30 k30)) (fun x : S25 => (x.f0, x.f1))
def ok25 (x : S25) : Prop := (x.f0.length * 40 ≤ 140737488351232 ∧ ∀ y40 ∈ x.f0, ok40 y40) ∧ ((x.f1.length * 96 ≤ 140737488351232 ∧ ∀ y30 ∈ x.f1, ok30 y30))
theorem opens_25 : Opens Try.prog 25 k25 ok25 :=
  opens_struct (fun x : S25 => (x.f0, x.f1)) (fun p => ⟨p.1, p.2⟩) (fun _ => rfl) Try.underlying25 (by kernel_rfl)
    (show OpensFs Try.prog [22, 23] _ _ from (opens_cons (opens_slice Try.underlying22 (by kernel_rfl) (by kernel_rfl) opens_40) (opens_last (opens_slice Try.underlying23 (by kernel_rfl) (by kernel_rfl) opens_30))))
end Go.Proofs.Ytoonepmnlgfikaa.D
