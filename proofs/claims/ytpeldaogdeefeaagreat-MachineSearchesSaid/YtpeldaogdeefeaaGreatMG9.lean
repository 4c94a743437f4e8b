/- Sessions: rows of one's own (MBeg, MShB, Mx129). -/
import Derived.Test.YtpeldaogdeefeaaGreatMG8
import Derived.Test.YtpeldaogdeefeaaGreatMG0
import Derived.Test.YtpeldaogdeefeaaGreatMMay
import Derived.BigRegion
import Derived.StillTailTactics
import Derived.Test.YtpeldaogdeefeaaGreatMApp
import Derived.Test.YtpeldaogdeefeaaGreatMG3
import Derived.Test.YtpeldaogdeefeaaGreatMG5
import Derived.Test.YtpeldaogdeefeaaGreatMG4
import Derived.Outline
import Derived.Deep.DrawnRows
import Derived.Test.YtpeldaogdeefeaaGreatMx0
/-! MBeg -/
namespace Go.Proofs.YtpeldaogdeefeaaGreat.M
open Go.RowKit Go.Proofs.YtpeldaogdeefeaaGreatW.PrintWords Go.Proofs.YtpeldaogdeefeaaGreatW.PrintLast Go.Proofs.YtpeldaogdeefeaaGreatW.PrintMore
set_option linter.unusedVariables false
set_option linter.unusedSimpArgs false
theorem put3 {w : World} {b t : Nat} {c0 c1 c2 : Value} (h : w.heap[b]? = some (.cells #[c0, c1, c2] t (0, 0))) (v0 v1 v2 : Value) : (((w.setCell ⟨b, 0, none⟩ v0).setCell ⟨b, 1, none⟩ v1).setCell ⟨b, 2, none⟩ v2).heap[b]? = some (.cells #[v0, v1, v2] t (0, 0)) :=
  blk_put (cs := #[v0, v1, c2]) (blk_put (cs := #[v0, c1, c2]) (blk_put (cs := #[c0, c1, c2]) h 0 v0 rfl) 1 v1 rfl) 2 v2 rfl
theorem below3 {B : Nat} {w a : World} {b : Nat} (h : Below B w a) (hb : B ≤ b) (v0 v1 v2 : Value) : Below B w (((a.setCell ⟨b, 0, none⟩ v0).setCell ⟨b, 1, none⟩ v1).setCell ⟨b, 2, none⟩ v2) := ((h.setCell hb v0).setCell hb v1).setCell hb v2
end Go.Proofs.YtpeldaogdeefeaaGreat.M
/-! MShB -/
namespace Go.Proofs.YtpeldaogdeefeaaGreat.M
open Go.Proofs.YtpeldaogdeefeaaGreat.H Go.RowKit Go.Maps Go.Sort Go.Proofs.YtpeldaogdeefeaaGreatW.PrintWords Go.Proofs.YtpeldaogdeefeaaGreatW.PrintLast Go.Proofs.YtpeldaogdeefeaaGreatW.PrintMore Go.Proofs.YtpeldaogdeefeaaGreat.Base
set_option linter.unusedVariables false
set_option linter.unusedSimpArgs false
theorem keep3 (w : World) (q : Nat) (v0 v1 v2 : Value) (i : Nat) (h : i ≠ q) : (((w.setCell ⟨q, 0, none⟩ v0).setCell ⟨q, 1, none⟩ v1).setCell ⟨q, 2, none⟩ v2).heap[i]? = w.heap[i]? :=
  (Below.heap_setCell _ ⟨q, 2, none⟩ _ i h).trans ((Below.heap_setCell _ ⟨q, 1, none⟩ _ i h).trans (Below.heap_setCell _ ⟨q, 0, none⟩ _ i h))
theorem R_set3 {α : Type} {d : Kd α} {e : Nat} {w : World} {base : Nat} {ok : Nat → Prop} {v : Value} {xs : List α} (h : Kd.R d e w base ok v xs) {g t : Nat} {c0 c1 c2 : Value} (hb : w.heap[g]? = some (.cells #[c0, c1, c2] t (0, 0))) (ht : ∀ q, q ∈ e :: d.E → q ≠ t) (v0 v1 v2 : Value) : Kd.R d e (((w.setCell ⟨g, 0, none⟩ v0).setCell ⟨g, 1, none⟩ v1).setCell ⟨g, 2, none⟩ v2) base ok v xs :=
  Kd.R_set (Kd.R_set (Kd.R_set h hb ht 0 v0) (blk_put (cs := #[c0, c1, c2]) hb 0 v0 rfl) ht 1 v1) (blk_put (cs := #[v0, c1, c2]) (blk_put (cs := #[c0, c1, c2]) hb 0 v0 rfl) 1 v1 rfl) ht 2 v2
end Go.Proofs.YtpeldaogdeefeaaGreat.M
/-! Mx129 -/
namespace Go.Proofs.YtpeldaogdeefeaaGreat.M
open Go.RowKit Go.Proofs.YtpeldaogdeefeaaGreatW.PrintWords Go.Proofs.YtpeldaogdeefeaaGreatW.PrintLast Go.Proofs.YtpeldaogdeefeaaGreatW.PrintMore
attribute [local go_sem] max2_int min2_int max_two min_two max_three min_three max_four min_four   -- for this text's walks alone
set_option linter.unusedVariables false
set_option linter.unusedSimpArgs false

/-! ### lecternref8_Asks: function 75 -/
def lecternref8_Asks.j0 : Nat → Bool → Option (Int)
  | 0, _ => none
  | k + 1, x17 => if x17 = true then (some 2) else (some 0)
def lecternref8_Asks.f (k : Nat) (a0 : ByteArray) (a1 : Int) : Option (Int) := if a0.toList = ([] : List UInt8) then (some 5) else (if (a0.size : Int) > 4096 then (lecternref8_Asks.j0 k true) else (if a1 < 1 then (lecternref8_Asks.j0 k true) else (lecternref8_Asks.j0 k (decide (a1 > 1000)))))
set_option maxHeartbeats 8000000 in
set_option maxRecDepth 100000 in
theorem lecternref8_Asks.calls (k : Nat) (a0 : ByteArray) (a1 : Int) (r : Int) (w : World) (h : lecternref8_Asks.f k a0 a1 = some r) :
    Calls Tryz.prog 75 #[.string a0, .int .i64 a1] w fun e w' => e = .returned (.int .i64 r) ∧ Drawn0 w w' := by
  have H : (if a0.toList = ([] : List UInt8) then (some 5) else (if (a0.size : Int) > 4096 then (lecternref8_Asks.j0 k true) else (if a1 < 1 then (lecternref8_Asks.j0 k true) else (lecternref8_Asks.j0 k (decide (a1 > 1000)))))) = some r := h
  clear h
  by_cases c3 : a0.toList = ([] : List UInt8)
  · rw [if_pos c3] at H
    have c3b0 : (a0.toList == ([] : List UInt8)) = true := beq_iff_eq.mpr c3
    have c3b1 : (a0.toList != ([] : List UInt8)) = false := bne_eq_false_iff_eq.mpr c3
    clear c3
    obtain rfl := Option.some.inj H
    go_enter Tryz.func75, Tryz.ntmps75
    go_wp2
    go_ret
    exact ⟨by first | rfl | (simp; done) | (simp [*]; done), by repeat (first | exact Drawn0.refl _ | apply Drawn0.step)⟩
  · rw [if_neg c3] at H
    have c3b0 : (a0.toList == ([] : List UInt8)) = false := beq_eq_false_iff_ne.mpr c3
    have c3b1 : (a0.toList != ([] : List UInt8)) = true := bne_iff_ne.mpr c3
    have HC4 := Aside0.mk H
    clear H
    go_enter Tryz.func75, Tryz.ntmps75
    go_upto_region 3 with (fail)
    go_cut [17] (fun v17 wc => ∃ (kq : Nat) (x17_3 : Bool), v17 = .bool x17_3 ∧ Aside0 (lecternref8_Asks.j0 kq x17_3 = some r) ∧ Aside0 (kq ≤ k) ∧ Drawn0 w wc)
    case first =>
      have H := HC4.out
      clear HC4
      by_cases c5 : (a0.size : Int) > 4096
      · rw [if_pos c5] at H
        have c5b0 : decide (4096 < (a0.size : Int)) = true := decide_eq_true c5
        have c5b1 : decide (4096 < a0.size) = true := decide_eq_true (by omega)
        clear c5
        (first | rw [c5b0] | (simp only [i64_w, i32_w]; rw [c5b0]) | skip)
        have H' := Aside0.mk H
        clear H
        go_wp2
        go_meet
        case rel => exact ⟨_, (true), (by first | rfl | (simp; done) | (simp [*]; done)), H', ⟨by first | omega | exact Nat.le_refl _⟩, by repeat (first | exact Drawn0.refl _ | apply Drawn0.step)⟩
      · rw [if_neg c5] at H
        have c5b0 : decide (4096 < (a0.size : Int)) = false := decide_eq_false c5
        have c5b1 : decide (4096 < a0.size) = false := decide_eq_false (by omega)
        clear c5
        (first | rw [c5b0] | (simp only [i64_w, i32_w]; rw [c5b0]) | skip)
        by_cases c6 : a1 < 1
        · rw [if_pos c6] at H
          have c6b0 : decide (a1 < 1) = true := decide_eq_true c6
          clear c6
          have H' := Aside0.mk H
          clear H
          go_wp2
          go_meet
          case rel => exact ⟨_, (true), (by first | rfl | (simp; done) | (simp [*]; done)), H', ⟨by first | omega | exact Nat.le_refl _⟩, by repeat (first | exact Drawn0.refl _ | apply Drawn0.step)⟩
        · rw [if_neg c6] at H
          have c6b0 : decide (a1 < 1) = false := decide_eq_false c6
          clear c6
          have H' := Aside0.mk H
          clear H
          go_wp2
          go_meet
          case rel => exact ⟨_, (decide (a1 > 1000)), (by first | rfl | (simp; done) | (simp [*]; done)), H', ⟨by first | omega | exact Nat.le_refl _⟩, by repeat (first | exact Drawn0.refl _ | apply Drawn0.step)⟩
    case rest =>
      clear HC4
      try clear p2
      try clear c3
      try clear c3b0
      try clear c3b1
      try clear c5
      try clear c5b0
      try clear c5b1
      try clear c6
      try clear c6b0
      obtain ⟨kq, x17_3, rfl, HA, HJ3, ⟨mc3, rfl⟩⟩ := hcut
      cases kq with
      | zero => exact absurd HA.out (by simp [lecternref8_Asks.j0])
      | succ kj3 =>
        have H := HA.out
        clear HA
        simp only [lecternref8_Asks.j0] at H
        by_cases c7 : x17_3 = true
        · subst c7
          have H1 : (some 2) = some r := by rw [if_pos rfl] at H; exact H
          clear H
          have H := H1
          clear H1
          obtain rfl := Option.some.inj H
          go_wp2
          go_ret
          exact ⟨by first | rfl | (simp; done) | (simp [*]; done), by repeat (first | exact Drawn0.refl _ | apply Drawn0.step)⟩
        · replace c7 := Bool.eq_false_iff.mpr c7
          subst c7
          have H1 : (some 0) = some r := by rw [if_neg (show ¬ (false = true) by decide)] at H; exact H
          clear H
          have H := H1
          clear H1
          obtain rfl := Option.some.inj H
          go_wp2
          go_ret
          exact ⟨by first | rfl | (simp; done) | (simp [*]; done), by repeat (first | exact Drawn0.refl _ | apply Drawn0.step)⟩

end Go.Proofs.YtpeldaogdeefeaaGreat.M
