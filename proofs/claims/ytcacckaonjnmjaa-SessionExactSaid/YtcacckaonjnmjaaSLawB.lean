/- Begin and the reference's. -/
import Derived.Test.YtcacckaonjnmjaaSLawN
import Derived.Test.YtcacckaonjnmjaaSPureEQ
import Derived.Test.YtcacckaonjnmjaaSx12
import Derived.Test.YtcacckaonjnmjaaSx14
namespace Go.Proofs.Ytcacckaonjnmjaa.S
open Go.RowKit Go.Proofs.YtcacckaonjnmjaaW.PrintWords Go.Proofs.YtcacckaonjnmjaaW.PrintLast Go.Proofs.YtcacckaonjnmjaaW.PrintMore
set_option linter.unusedVariables false
set_option linter.unusedSimpArgs false
def beginV (l : List S88) (a1 a2 : Int) : Int × Int × List S116 × Bool × Int := if numB a2 1 = true then (if anyS l a1 = true then (if a2 < (rd_T88 l (placeS l a1 : Int)).f1 then (0, 0, [], false, 10) else (if a2 = (rd_T88 l (placeS l a1 : Int)).f1 then ((rd_T88 l (placeS l a1 : Int)).f2.f0, (rd_T88 l (placeS l a1 : Int)).f2.f1, [], true, 0) else (0, 0, [], false, 0))) else (0, 0, [], false, 9)) else (0, 0, [], false, 1)
theorem begin_may {l : List S88} (h : mayP l) (a1 a2 : Int) : Ev (fun k => session_Begin.f k l a1 a2) (beginV l a1 a2) := by
  refine Ev.bind (may_yes h) ?_
  refine Ev.of_eq (g := fun k => session_Begin.j0 k l a1 a2 (!numB a2 1)) (Ev.step ((Ev.pure (beginV l a1 a2)).of_eq fun k => ?_)) (fun k => by rw [if_pos rfl, Number_f]; rfl)
  unfold beginV
  rw [session_Begin.j0]
  cases numB a2 1
  · rfl
  rw [if_neg (by decide), if_pos rfl, find_f h, Option.bind_some]
  show (if anyS l a1 = true then _ else _) = _
  split
  · rename_i ha
    have := placeS_lt ha
    show (if 0 ≤ (placeS l a1 : Int) then _ else _) = _
    rw [if_pos (by omega), if_pos (show ((placeS l a1 : Int), anyS l a1).1 < _ by show (placeS l a1 : Int) < _; omega)]
    show (if a2 < (rd_T88 l (placeS l a1 : Int)).f1 then _ else (if a2 = (rd_T88 l (placeS l a1 : Int)).f1 then _ else _)) = _
    split
    · rfl
    · split <;> rfl
  · rfl
theorem begin_not {l : List S88} (hl : l.length ≤ 1000000000000000) (h : ¬ mayP l) (a1 a2 : Int) : Ev (fun k => session_Begin.f k l a1 a2) (0, 0, [], false, 1) :=
  Ev.bind (may_no hl h) (Ev.step ((Ev.pure ((0, 0, [], false, 1) : Int × Int × List S116 × Bool × Int)).of_eq fun k => by rw [if_neg (by decide), session_Begin.j0, if_pos rfl]))
theorem refBegin_is {l : List S88} (h : mayP l) (a1 a2 : Int) : Ev (fun k => lecternref14_Begin.f k l a1 a2) (beginV l a1 a2) := by
  have hl := h.2
  refine Ev.of_eq (g := fun k => if numB a2 1 = true then ((lecternref14_Find.f k l a1).bind fun t136 => (if t136 < 0 then (some (0, 0, ([] : List (S116)), false, 9)) else (if 0 ≤ t136 then (if t136 < (l.length : Int) then (if a2 < ((rd_T88 l t136).f1) then (some (0, 0, ([] : List (S116)), false, 10)) else (if a2 = ((rd_T88 l t136).f1) then (some ((rd_T88 l t136).f2.f0, (rd_T88 l t136).f2.f1, (rd_T88 l t136).f2.f2, true, 0)) else (some (0, 0, ([] : List (S116)), false, 0)))) else (none)) else (none)))) else (some (0, 0, ([] : List (S116)), false, 1))) ?_ (fun k => by unfold lecternref14_Begin.f; rw [id_f]; rfl)
  unfold beginV
  cases numB a2 1
  · exact Ev.pure _
  simp only [if_true]
  refine Ev.bind (find_is l a1 (by omega) (mayP_rise h)) ?_
  by_cases ha : anyS l a1 = true
  · have hp := placeS_lt ha
    have hnil : (rd_T88 l (placeS l a1 : Int)).f2.f2 = [] := by rw [rd88_at l _ hp]; exact noHits_may h _ (List.getElem_mem _)
    rw [if_pos ha, findV_yes ha]
    refine (Ev.pure _).of_eq fun k => ?_
    rw [if_neg (by omega), if_pos (by omega), if_pos (by omega), hnil]
    split
    · rfl
    · split <;> rfl
  · rw [if_neg ha, findV_no ha]
    exact (Ev.pure _).of_eq fun k => by rw [if_pos (by decide)]
end Go.Proofs.Ytcacckaonjnmjaa.S
