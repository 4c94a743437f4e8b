-- Written by a program: the kit's printer with changes of this session (NOTES.md).
import Derived.Test.YtcacckaonjnmjaaQx0
import Derived.Test.YtcacckaonjnmjaaSettled
namespace Go.Proofs.Ytcacckaonjnmjaa.Q
open Go.RowKit Go.Proofs.YtcacckaonjnmjaaW.PrintWords Go.Proofs.YtcacckaonjnmjaaW.PrintLast Go.Proofs.YtcacckaonjnmjaaW.PrintMore
attribute [local go_sem] max2_int min2_int max_two min_two max_three min_three max_four min_four   -- for this text's walks alone
set_option linter.unusedVariables false
set_option linter.unusedSimpArgs false

/-! ### quorum_Index: function 51 -/
/-- What quorum.Index tells: a number, and an error or none. -/
def quorum_idx (l : List Int) : Int × Int := if 1 ≤ l.length ∧ l.length ≤ 7 ∧ 0 ≤ Lib.minOf l then (It.mid l, 0) else (0, 1)
def quorum_Index.f (l0 : List Int) : Option (Int × Int) := some (quorum_idx l0)
set_option maxHeartbeats 2000000 in
set_option maxRecDepth 100000 in
theorem quorum_Index.calls (A0 : Option Addr) (c0 : Nat) (l0 : List Int) (r1 : Int) (r2 : Int) (w : World) (hr0 : Kd.C (Kd.int .i64) w A0 l0.length l0) (hc0 : l0.length ≤ c0) (h : quorum_Index.f l0 = some (r1, r2)) :
    Calls Try.prog 51 #[.slice A0 l0.length c0] w fun e w' => e = .returned (.tuple #[.int .i64 r1, .int .i64 r2]) ∧ Below w.heap.size w w' := by
  have h := Option.some.inj h
  have hlong : l0.length ≤ 9223372036854775807 := hr0.2.1
  by_cases h1 : 1 ≤ l0.length
  · obtain ⟨ad, rfl, hI0⟩ := (Kd.reads_of_C (enc := Value.int .i64) (d := (0 : Int)) (h1 := fun _ => rfl) hr0).2.2 (by omega)
    have hI : ∀ j, j < l0.length → w.cell? (ad.add j) = some (.int .i64 (l0[j]?.getD 0)) := fun j hj => by
      rw [hI0 j hj, List.getD_eq_getElem?_getD]
    have hb : ad.block < w.heap.size := by
      have := World.block_lt_of_cell? w _ (hI 0 (by omega))
      rwa [It.add_zero] at this
    have HI := Aside0.mk hI
    clear hI hI0 hr0
    by_cases h7 : l0.length ≤ 7
    · have d1 : decide (l0.length < 1) = false := decide_eq_false (by omega)
      have d2 : decide (7 < l0.length) = false := decide_eq_false (by omega)
      by_cases h0 : 0 ≤ Lib.minOf l0
      · have d3 : decide (Lib.minOf l0 < 0) = false := decide_eq_false (by omega)
        unfold quorum_idx at h
        rw [if_pos ⟨h1, h7, h0⟩] at h
        obtain ⟨rfl, rfl⟩ := Prod.mk.inj h
        clear h
        go_enter Try.func51, Try.ntmps51
        go_wp2_with (first
          | (go_at_call 80; refine (It.min_calls ad c0 l0 _ (by omega) (by omega) HI.out).mono ?_; rintro e w' ⟨rfl, rfl⟩)
          | (go_at_call 81; refine (It.settled_calls c0 ad l0 h7 (by omega) _ hb HI.out).mono ?_; rintro e w' ⟨rfl, hd⟩; have HD := Aside0.mk hd; clear hd))
        go_ret2
        exact ⟨rfl, HD.out⟩
      · have d3 : decide (Lib.minOf l0 < 0) = true := decide_eq_true (by omega)
        unfold quorum_idx at h
        rw [if_neg (fun hh => h0 hh.2.2)] at h
        obtain ⟨rfl, rfl⟩ := Prod.mk.inj h
        clear h
        go_enter Try.func51, Try.ntmps51
        go_wp2_with (first
          | (go_at_call 80; refine (It.min_calls ad c0 l0 _ (by omega) (by omega) HI.out).mono ?_; rintro e w' ⟨rfl, rfl⟩))
        go_ret2
        exact ⟨rfl, Below.refl _ _⟩
    · have d1 : decide (l0.length < 1) = false := decide_eq_false (by omega)
      have d2 : decide (7 < l0.length) = true := decide_eq_true (by omega)
      unfold quorum_idx at h
      rw [if_neg (fun hh => h7 hh.2.1)] at h
      obtain ⟨rfl, rfl⟩ := Prod.mk.inj h
      clear h
      go_enter Try.func51, Try.ntmps51
      go_wp2_with fail
      go_ret2
      exact ⟨rfl, Below.refl _ _⟩
  · have d1 : decide (l0.length < 1) = true := decide_eq_true (by omega)
    unfold quorum_idx at h
    rw [if_neg (fun hh => h1 hh.1)] at h
    obtain ⟨rfl, rfl⟩ := Prod.mk.inj h
    clear h hr0
    go_enter Try.func51, Try.ntmps51
    go_wp2_with fail
    go_ret2
    exact ⟨rfl, Below.refl _ _⟩

end Go.Proofs.Ytcacckaonjnmjaa.Q
