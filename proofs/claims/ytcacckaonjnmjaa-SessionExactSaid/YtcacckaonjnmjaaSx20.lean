-- Written by a program: the kit's printer with changes of this session (NOTES.md).
import Derived.Test.YtcacckaonjnmjaaSx0
import Derived.Test.YtcacckaonjnmjaaSHand
namespace Go.Proofs.Ytcacckaonjnmjaa.S
open Go.RowKit Go.Proofs.YtcacckaonjnmjaaW.PrintWords Go.Proofs.YtcacckaonjnmjaaW.PrintLast Go.Proofs.YtcacckaonjnmjaaW.PrintMore
attribute [local go_sem] max2_int min2_int max_two min_two max_three min_three max_four min_four   -- for this text's walks alone
set_option linter.unusedVariables false
set_option linter.unusedSimpArgs false

-- shrunk
/-! ### session_without: function 63 -/
def session_without.f (l0 : List S88) (a1 : Int) : Option (List S88) := if l0.length ≤ 1000000 ∧ 0 ≤ a1 ∧ a1 < (l0.length : Int) then some ((l0.map clr).eraseIdx a1.toNat) else none
theorem session_without.calls (A0 : Option Addr) (c0 : Nat) (l0 : List (S88)) (a1 : Int) (r : List (S88)) (w : World) (hr0 : Kd.C k88 w A0 l0.length l0) (hc0 : l0.length ≤ c0) (h : session_without.f l0 a1 = some r) :
  Calls Try.prog 63 #[.slice A0 l0.length c0, .int .i64 a1] w fun e w' => ∃ v0_ : Value, e = .returned (v0_) ∧ Kd.S k88 88 w' w.heap.size (fun _ => True) v0_ r ∧ Below w.heap.size w w' := by
 unfold session_without.f at h
 by_cases hs : l0.length ≤ 1000000 ∧ 0 ≤ a1 ∧ a1 < (l0.length : Int)
 ·rw [if_pos hs] at h
  obtain rfl := Option.some.inj h
  obtain ⟨i, rfl⟩ : ∃ i : Nat, a1 = (i : Int) := ⟨a1.toNat, by omega⟩
  refine (without63 A0 c0 l0 i w hr0 hc0 hs.1 (by omega)).mono ?_
  rintro e w' ⟨v, rfl, hr, hb⟩
  rw [Int.toNat_natCast]
  exact ⟨v, rfl, kF_S hr, hb⟩
 ·rw [if_neg hs] at h; cases h

end Go.Proofs.Ytcacckaonjnmjaa.S
