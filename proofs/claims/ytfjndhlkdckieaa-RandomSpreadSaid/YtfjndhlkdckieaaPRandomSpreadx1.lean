-- PRINTED BY print.sh 35421559b90ae4d0a3588c463048766b98c2df88dd9212a6774a882060cdf62d: not written by this session
import Derived.Test.YtfjndhlkdckieaaPRandomSpreadx0
namespace Go.Proofs.Ytfjndhlkdckieaa.PRandomSpread
open Go.RowKit Go.Proofs.YtfjndhlkdckieaaW.PrintWords Go.Proofs.YtfjndhlkdckieaaW.PrintLast Go.Proofs.YtfjndhlkdckieaaW.PrintMore
attribute [local go_sem] max2_int min2_int max_two min_two max_three min_three max_four min_four   -- for this text's walks alone
set_option linter.unusedVariables false
set_option linter.unusedSimpArgs false

/-! ### random_Next: function 17 -/
def random_Next.f (a0 : Int) : Option (Int) := if a0 = 0 then (some (Go.bits .xor .u64 (Go.bits .xor .u64 (Go.bits .xor .u64 11400714819323198485 (IntKind.u64.wrap (11400714819323198485 * 8192))) ((Go.bits .xor .u64 11400714819323198485 (IntKind.u64.wrap (11400714819323198485 * 8192))) / 128)) (IntKind.u64.wrap ((Go.bits .xor .u64 (Go.bits .xor .u64 11400714819323198485 (IntKind.u64.wrap (11400714819323198485 * 8192))) ((Go.bits .xor .u64 11400714819323198485 (IntKind.u64.wrap (11400714819323198485 * 8192))) / 128)) * 131072)))) else (some (Go.bits .xor .u64 (Go.bits .xor .u64 (Go.bits .xor .u64 a0 (IntKind.u64.wrap (a0 * 8192))) ((Go.bits .xor .u64 a0 (IntKind.u64.wrap (a0 * 8192))) / 128)) (IntKind.u64.wrap ((Go.bits .xor .u64 (Go.bits .xor .u64 a0 (IntKind.u64.wrap (a0 * 8192))) ((Go.bits .xor .u64 a0 (IntKind.u64.wrap (a0 * 8192))) / 128)) * 131072))))
set_option maxHeartbeats 8000000 in
set_option maxRecDepth 100000 in
theorem random_Next.calls (a0 : Int) (r : Int) (w : World) (h : random_Next.f a0 = some r) :
    Calls Try.prog 17 #[.int .u64 a0] w fun e w' => e = .returned (.int .u64 r) ∧ Drawn0 w w' := by
  have H : (if a0 = 0 then (some (Go.bits .xor .u64 (Go.bits .xor .u64 (Go.bits .xor .u64 11400714819323198485 (IntKind.u64.wrap (11400714819323198485 * 8192))) ((Go.bits .xor .u64 11400714819323198485 (IntKind.u64.wrap (11400714819323198485 * 8192))) / 128)) (IntKind.u64.wrap ((Go.bits .xor .u64 (Go.bits .xor .u64 11400714819323198485 (IntKind.u64.wrap (11400714819323198485 * 8192))) ((Go.bits .xor .u64 11400714819323198485 (IntKind.u64.wrap (11400714819323198485 * 8192))) / 128)) * 131072)))) else (some (Go.bits .xor .u64 (Go.bits .xor .u64 (Go.bits .xor .u64 a0 (IntKind.u64.wrap (a0 * 8192))) ((Go.bits .xor .u64 a0 (IntKind.u64.wrap (a0 * 8192))) / 128)) (IntKind.u64.wrap ((Go.bits .xor .u64 (Go.bits .xor .u64 a0 (IntKind.u64.wrap (a0 * 8192))) ((Go.bits .xor .u64 a0 (IntKind.u64.wrap (a0 * 8192))) / 128)) * 131072))))) = some r := h
  clear h
  by_cases c2 : a0 = 0
  · rw [if_pos c2] at H
    have c2b0 : (a0 == 0) = true := beq_iff_eq.mpr c2
    have c2b1 : (a0 != 0) = false := bne_eq_false_iff_eq.mpr c2
    clear c2
    obtain rfl := Option.some.inj H
    go_enter Try.func17, Try.ntmps17
    go_wp2
    go_ret
    exact ⟨by first | rfl | (simp; done) | (simp [*]; done), by repeat (first | exact Drawn0.refl _ | apply Drawn0.step)⟩
  · rw [if_neg c2] at H
    have c2b0 : (a0 == 0) = false := beq_eq_false_iff_ne.mpr c2
    have c2b1 : (a0 != 0) = true := bne_iff_ne.mpr c2
    obtain rfl := Option.some.inj H
    go_enter Try.func17, Try.ntmps17
    go_wp2
    go_ret
    exact ⟨by first | rfl | (simp; done) | (simp [*]; done), by repeat (first | exact Drawn0.refl _ | apply Drawn0.step)⟩

end Go.Proofs.Ytfjndhlkdckieaa.PRandomSpread
