/- slices.Min of at most seven numbers. -/
import Derived.Lib.Slices
import Derived.Lib.Hide
import Derived.WalkKit
import Derived.LoopTactic
import Derived.KernelRfl
import Derived.Test.YtcacckaonjnmjaaProg
namespace Go.Proofs.Ytcacckaonjnmjaa.It
open Go.RowKit
set_option linter.unusedVariables false
set_option linter.unusedSimpArgs false
theorem add_zero (ad : Addr) : ad.add 0 = ad := by simp [Addr.add]
set_option maxRecDepth 100000 in
theorem min_calls (ad : Addr) (c : Nat) (zs : List Int) (w : World) (hn : 0 < zs.length) (hz : zs.length ≤ 1000) (hI : ∀ j, j < zs.length → w.cell? (ad.add j) = some (.int .i64 (zs[j]?.getD 0))) :
    Calls Try.prog 80 #[.slice (some ad) zs.length c] w fun e w' => e = .returned (.int .i64 (Lib.minOf zs)) ∧ w' = w := by
  have h0 : w.cell? ad = some (.int .i64 (zs[0]?.getD 0)) := by simpa [add_zero] using hI 0 hn
  have HI := Lib.hid hI
  clear hI
  go_enter Try.func80, Try.ntmps80
  go_wp2
  go_loop [3, 4] (fun m i => ∃ k : Nat, 0 < k ∧ k ≤ zs.length ∧ i = .int .i64 k ∧ m = .int .i64 (Lib.minOf (zs.take k))) (fun _ i => zs.length - (intOf i).toNat)
  case atStart => exact ⟨1, Nat.one_pos, hn, rfl, by rw [Lib.minOf_one]; simp [List.getD, hn]⟩
  case round =>
    obtain ⟨k, hk0, hk, rfl, rfl⟩ := hrel
    by_cases hlt : k < zs.length
    · have hcell := HI.out k hlt
      go_wp2
      refine ⟨⟨k + 1, Nat.succ_pos k, by omega, by go_num, ?_⟩, by simp [intOf]; omega⟩
      rw [Lib.minOf_step zs k hk0 (by omega)]
      simp only [List.getD, List.getElem?_eq_getElem hlt, Option.getD_some]
      congr 1
      rw [Int.min_def]
      repeat' split
      all_goals omega
    · obtain rfl : k = zs.length := by omega
      go_wp2
      go_ret
      exact ⟨rfl, rfl⟩
end Go.Proofs.Ytcacckaonjnmjaa.It
