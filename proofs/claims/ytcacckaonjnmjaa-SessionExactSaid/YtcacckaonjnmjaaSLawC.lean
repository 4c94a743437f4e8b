/- Close and the reference's. -/
import Derived.Test.YtcacckaonjnmjaaSLawR
import Derived.Test.YtcacckaonjnmjaaSx31
import Derived.Test.YtcacckaonjnmjaaSx40
namespace Go.Proofs.Ytcacckaonjnmjaa.S
open Go.RowKit Go.Proofs.YtcacckaonjnmjaaW.PrintWords Go.Proofs.YtcacckaonjnmjaaW.PrintLast Go.Proofs.YtcacckaonjnmjaaW.PrintMore
set_option linter.unusedVariables false
set_option linter.unusedSimpArgs false
def closeV (l : List S88) (a : Int) : List S88 × Int := if anyS l a = true then (l.eraseIdx (placeS l a), 0) else ([], 9)
theorem close_may {l : List S88} (h : mayP l) (a : Int) : Ev (fun k => session_Close.f k l a) (closeV l a) := by
  refine Ev.bind (may_yes h) ((Ev.pure (closeV l a)).of_eq fun k => ?_)
  unfold closeV
  rw [if_pos rfl, find_f h, Option.bind_some]
  show (if anyS l a = true then _ else _) = _
  split
  · rename_i ha
    have := placeS_lt ha
    show (session_without.f l (placeS l a : Int)).bind _ = _
    unfold session_without.f
    rw [if_pos ⟨by have := h.2; omega, by omega, by omega⟩, Option.bind_some, mayP_clr h, Int.toNat_natCast]
  · rfl
theorem close_not {l : List S88} (hl : l.length ≤ 1000000000000000) (h : ¬ mayP l) (a : Int) : Ev (fun k => session_Close.f k l a) ([], 1) :=
  Ev.bind (may_no hl h) ((Ev.pure (([], 1) : List S88 × Int)).of_eq fun k => by rw [if_neg (by decide)])
theorem refClose_is {l : List S88} (h : mayP l) (a : Int) : Ev (fun k => lecternref14_Close.f k l a) (closeV l a) := by
  have hl := h.2
  refine Ev.bind (find_is l a (by omega) (mayP_rise h)) ?_
  unfold closeV
  by_cases ha : anyS l a = true
  · have hp := placeS_lt ha
    rw [if_pos ha, findV_yes ha]
    refine Ev.of_eq (g := fun k => (lecternref14_drop.f k l (placeS l a : Int)).bind fun t => some (t, 0)) ?_ (fun k => by rw [if_neg (by omega)])
    exact Ev.bind (g := fun _ t => some (t, 0)) (drop_is l _ hp (by omega) (noHits_ok (noHits_may h))) (Ev.pure _)
  · rw [if_neg ha, findV_no ha]
    exact (Ev.pure _).of_eq fun k => by rw [if_pos (by decide)]
end Go.Proofs.Ytcacckaonjnmjaa.S
