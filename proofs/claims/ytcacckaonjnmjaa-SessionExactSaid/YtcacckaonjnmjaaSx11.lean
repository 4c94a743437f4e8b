-- Written by a program: the kit's printer with changes of this session (NOTES.md).
import Derived.Test.YtcacckaonjnmjaaSx0
import Derived.Test.YtcacckaonjnmjaaSHand
namespace Go.Proofs.Ytcacckaonjnmjaa.S
open Go.RowKit Go.Proofs.YtcacckaonjnmjaaW.PrintWords Go.Proofs.YtcacckaonjnmjaaW.PrintLast Go.Proofs.YtcacckaonjnmjaaW.PrintMore
attribute [local go_sem] max2_int min2_int max_two min_two max_three min_three max_four min_four   -- for this text's walks alone
set_option linter.unusedVariables false
set_option linter.unusedSimpArgs false

-- shrunk
/-! ### session_find: function 59 -/
/-- Where a client stands among sessions in order. -/
def session_find.f (l0 : List S88) (a1 : Int) : Option (Int × Bool) := if riseS l0 ∧ l0.length ≤ 1000000000 then some (((l0.countP (fun x => decide (x.f0 < a1)) : Nat) : Int), l0.any (fun x => x.f0 == a1)) else none
theorem session_find.calls (A0 : Option Addr) (c0 : Nat) (l0 : List (S88)) (a1 : Int) (r1 : Int) (r2 : Bool) (w : World) (hr0 : Kd.C k88 w A0 l0.length l0) (hc0 : l0.length ≤ c0) (h : session_find.f l0 a1 = some (r1, r2)) :
  Calls Try.prog 59 #[.slice A0 l0.length c0, .int .i64 a1] w fun e w' => e = .returned (.tuple #[.int .i64 r1, .bool r2]) ∧ Below w.heap.size w w' := by
 unfold session_find.f at h
 by_cases hs : riseS l0 ∧ l0.length ≤ 1000000000
 ·rw [if_pos hs] at h
  have h := Option.some.inj h
  obtain ⟨rfl, rfl⟩ := Prod.mk.inj h
  have HC : Aside0 (∀ W, Below w.heap.size w W → Calls Try.prog 82 #[.slice A0 l0.length c0, .int .i64 a1, .func (.func 83) #[] #[]] W fun e w' => e = .returned (.tuple #[.int .i64 ((l0.countP (fun x => decide (x.f0 < a1)) : Nat) : Int), .bool (l0.any (fun x => x.f0 == a1))]) ∧ Below W.heap.size W w') := ⟨fun W hb => by
   refine (search82 A0 c0 l0 a1 W (Kd.C_below hr0 hb) hc0 hs.2 hs.1).mono ?_
   rintro e w' ⟨i, hp, rfl, hb⟩
   exact ⟨by rw [place_count hp, place_any hp hs.1], hb⟩⟩
  clear hr0 hc0 h hs
  generalize ((l0.countP (fun x => decide (x.f0 < a1)) : Nat) : Int) = n at *
  generalize l0.any (fun x => x.f0 == a1) = b at *
  go_enter Try.func59, Try.ntmps59
  go_wp2_with (go_at_call 82; refine (HC.out _ (by repeat (first | exact Below.refl _ _ | apply pw_below_drewN | apply below_alloc))).mono ?_; rintro e w' ⟨rfl, hb⟩)
  go_ret2
  exact ⟨rfl, by repeat (first | exact hb | apply pw_below_drewN | apply below_alloc)⟩
 ·rw [if_neg hs] at h
  cases h

end Go.Proofs.Ytcacckaonjnmjaa.S
