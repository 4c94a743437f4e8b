/- The reference's drop. -/
import Derived.Test.YtcacckaonjnmjaaSLawN
import Derived.Test.YtcacckaonjnmjaaSPureEQ
import Derived.Test.YtcacckaonjnmjaaSx39
namespace Go.Proofs.Ytcacckaonjnmjaa.S
open Go.RowKit Go.Proofs.YtcacckaonjnmjaaW.PrintWords Go.Proofs.YtcacckaonjnmjaaW.PrintLast Go.Proofs.YtcacckaonjnmjaaW.PrintMore
set_option linter.unusedVariables false
set_option linter.unusedSimpArgs false
theorem noHits_ok {l : List S88} (h : noHits l) : hitsOk l := fun x hx => by rw [h x hx]; exact Nat.zero_le _
theorem drop_is (l : List S88) (p : Nat) (hp : p < l.length) (hl : l.length ≤ 1000000) (hh : hitsOk l) : Ev (fun k => lecternref14_drop.f k l (p : Int)) (l.eraseIdx p) := by
  have hw := wrn p (by omega)
  refine Ev.of_eq (g := fun k => (lecternref0_CopySessions.f k (l.take p)).bind (fun t => if t.length + (l.drop (p + 1)).length < 2199023255552 then some (t ++ l.drop (p + 1)) else none)) ?_ (fun k => ?_)
  · refine Ev.bind (g := fun _ t => if t.length + (l.drop (p + 1)).length < 2199023255552 then some (t ++ l.drop (p + 1)) else none) (copySessions_is (l.take p) (by rw [List.length_take]; omega) (fun x hx => hh x (List.mem_of_mem_take hx))) ((Ev.pure _).of_eq fun k => ?_)
    rw [if_pos (by rw [List.length_take, List.length_drop]; omega), List.eraseIdx_eq_take_drop_succ]
  · unfold lecternref14_drop.f
    have h1 : (0 : Int) ≤ ((p + 1 : Nat) : Int) := by omega
    have h2 : ((p + 1 : Nat) : Int) ≤ (l.length : Int) := by omega
    rw [if_pos (by omega), if_pos (by omega), hw]
    simp only [h1, h2, if_true, Int.toNat_natCast, Option.bind_some]
end Go.Proofs.Ytcacckaonjnmjaa.S
