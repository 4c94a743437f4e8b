/- How many binary digits a number has, as the program's library and as the reference count them. -/
import Derived.Test.YtfjndhlkdckieaaQx6
import Derived.Test.YtfjndhlkdckieaaQx7
import Derived.Test.YtfjndhlkdckieaaBase
namespace Go.Proofs.Ytfjndhlkdckieaa.Q
open Go.RowKit Go.Proofs.YtfjndhlkdckieaaW.PrintWords Go.Proofs.YtfjndhlkdckieaaW.PrintLast Go.Proofs.YtfjndhlkdckieaaW.PrintMore Go.Proofs.Ytfjndhlkdckieaa.Opening Go.Proofs.Ytfjndhlkdckieaa.Base
set_option linter.unusedVariables false
set_option linter.unusedSimpArgs false

def sz (n : Nat) : Nat := if n = 0 then 0 else Nat.log2 n + 1
theorem sz_div (n j : Nat) (h : 2 ^ j ≤ n) : sz (n / 2 ^ j) + j = sz n := by
  have hp : 0 < 2 ^ j := Nat.two_pow_pos j
  have hn : n ≠ 0 := by omega
  have hd : n / 2 ^ j ≠ 0 := by
    have := (Nat.le_div_iff_mul_le hp).2 (show 1 * 2 ^ j ≤ n by omega)
    omega
  unfold sz
  rw [if_neg hn, if_neg hd]
  have h1 : (n / 2 ^ j).log2 + j ≤ n.log2 := by
    rw [Nat.le_log2 hn, Nat.pow_add]
    have := Nat.log2_self_le hd
    exact (Nat.le_div_iff_mul_le hp).1 this
  have h2 : n.log2 - j ≤ (n / 2 ^ j).log2 := by
    rw [Nat.le_log2 hd, Nat.le_div_iff_mul_le hp, ← Nat.pow_add]
    have hj : j ≤ n.log2 := (Nat.le_log2 hn).2 h
    rw [Nat.sub_add_cancel hj]
    exact Nat.log2_self_le hn
  omega
theorem sz_half (n : Nat) (h : 1 ≤ n) : sz n = sz (n / 2) + 1 := by
  by_cases h2 : 2 ≤ n
  · have := sz_div n 1 (by simpa using h2)
    simpa using this.symm
  · obtain rfl : n = 1 := by omega
    decide
theorem sz_lt (n k : Nat) (h : n < 2 ^ k) : sz n ≤ k := by
  unfold sz
  split
  · omega
  · rename_i hn
    have := (Nat.log2_lt hn).2 h
    omega
def tab : ByteArray := ⟨#[0, 1, 2, 2, 3, 3, 3, 3, 4, 4, 4, 4, 4, 4, 4, 4, 5, 5, 5, 5, 5, 5, 5, 5, 5, 5, 5, 5, 5, 5, 5, 5, 6, 6, 6, 6, 6, 6, 6, 6, 6, 6, 6, 6, 6, 6, 6, 6, 6, 6, 6, 6, 6, 6, 6, 6, 6, 6, 6, 6, 6, 6, 6, 6, 7, 7, 7, 7, 7, 7, 7, 7, 7, 7, 7, 7, 7, 7, 7, 7, 7, 7, 7, 7, 7, 7, 7, 7, 7, 7, 7, 7, 7, 7, 7, 7, 7, 7, 7, 7, 7, 7, 7, 7, 7, 7, 7, 7, 7, 7, 7, 7, 7, 7, 7, 7, 7, 7, 7, 7, 7, 7, 7, 7, 7, 7, 7, 7, 8, 8, 8, 8, 8, 8, 8, 8, 8, 8, 8, 8, 8, 8, 8, 8, 8, 8, 8, 8, 8, 8, 8, 8, 8, 8, 8, 8, 8, 8, 8, 8, 8, 8, 8, 8, 8, 8, 8, 8, 8, 8, 8, 8, 8, 8, 8, 8, 8, 8, 8, 8, 8, 8, 8, 8, 8, 8, 8, 8, 8, 8, 8, 8, 8, 8, 8, 8, 8, 8, 8, 8, 8, 8, 8, 8, 8, 8, 8, 8, 8, 8, 8, 8, 8, 8, 8, 8, 8, 8, 8, 8, 8, 8, 8, 8, 8, 8, 8, 8, 8, 8, 8, 8, 8, 8, 8, 8, 8, 8, 8, 8, 8, 8, 8, 8, 8, 8, 8, 8, 8, 8, 8, 8, 8, 8, 8, 8]⟩
theorem tab_at : ∀ i, i < 256 → bt tab (i : Nat) = ((sz i : Nat) : Int) := by
  have h : (List.range 256).all (fun i => decide (bt tab (i : Nat) = ((sz i : Nat) : Int))) = true := by decide +kernel
  intro i hi
  exact of_decide_eq_true (List.all_eq_true.1 h i (by simpa using hi))
theorem tab_at' (x : Int) (h0 : 0 ≤ x) (h1 : x < 256) : bt tab x = ((sz x.toNat : Nat) : Int) := by
  have := tab_at x.toNat (by omega)
  rwa [Int.toNat_of_nonneg h0] at this
theorem some_sum {a b : Int} (h : a = b) : (some a : Option Int) = some b := by rw [h]
theorem j0_is (k : Nat) (x c : Int) (h0 : 0 ≤ x) (h1 : x < 4294967296) (hc0 : 0 ≤ c) (hc1 : c ≤ 32) : bits_Len64.j0 (k + 1) x c = some (c + ((sz x.toNat : Nat) : Int)) := by
  have e : bits_Len64.j0 (k + 1) x c = if x ≥ 65536 then (if (x / 65536) ≥ 256 then (if 0 ≤ (((x / 65536) / 256) % 256) then (if (((x / 65536) / 256) % 256) < 256 then (some (wrap64 ((wrap64 ((wrap64 (c + 16)) + 8)) + (wrap64 (bt tab (((x / 65536) / 256) % 256)))))) else (none)) else (none)) else (if 0 ≤ ((x / 65536) % 256) then (if ((x / 65536) % 256) < 256 then (some (wrap64 ((wrap64 (c + 16)) + (wrap64 (bt tab ((x / 65536) % 256)))))) else (none)) else (none))) else (if x ≥ 256 then (if 0 ≤ ((x / 256) % 256) then (if ((x / 256) % 256) < 256 then (some (wrap64 ((wrap64 (c + 8)) + (wrap64 (bt tab ((x / 256) % 256)))))) else (none)) else (none)) else (if 0 ≤ ((x) % 256) then (if ((x) % 256) < 256 then (some (wrap64 (c + (wrap64 (bt tab ((x) % 256)))))) else (none)) else (none))) := rfl
  rw [e]
  have step : ∀ (y d : Int) (j : Nat), 0 ≤ y → y < 256 → 0 ≤ d → d ≤ 64 → y.toNat = x.toNat / 2 ^ j → 2 ^ j ≤ x.toNat ∨ j = 0 → d = c + j → wrap64 (d + wrap64 (bt tab y)) = c + ((sz x.toNat : Nat) : Int) := by
    intro y d j hy0 hy1 hd0 hd1 hyj hj hdj
    rw [tab_at' y hy0 hy1]
    have hs8 : sz y.toNat ≤ 8 := sz_lt _ 8 (by omega)
    have hsz : sz y.toNat + j = sz x.toNat := by
      rcases hj with hj | rfl
      · rw [hyj]; exact sz_div _ j hj
      · rw [hyj]; simp
    rw [wrap64_in ((sz y.toNat : Nat) : Int) (by omega) (by omega), wrap64_in _ (by omega) (by omega)]
    omega
  by_cases h16 : x ≥ 65536
  · rw [if_pos h16]
    by_cases h24 : x / 65536 ≥ 256
    · rw [if_pos h24, if_pos (by omega), if_pos (by omega), wrap64_in (c + 16) (by omega) (by omega), wrap64_in (c + 16 + 8) (by omega) (by omega)]
      exact some_sum (step _ _ 24 (by omega) (by omega) (by omega) (by omega) (by omega) (.inl (by omega)) (by omega))
    · rw [if_neg h24, if_pos (by omega), if_pos (by omega), wrap64_in (c + 16) (by omega) (by omega)]
      exact some_sum (step _ _ 16 (by omega) (by omega) (by omega) (by omega) (by omega) (.inl (by omega)) (by omega))
  · rw [if_neg h16]
    by_cases h8 : x ≥ 256
    · rw [if_pos h8, if_pos (by omega), if_pos (by omega), wrap64_in (c + 8) (by omega) (by omega)]
      exact some_sum (step _ _ 8 (by omega) (by omega) (by omega) (by omega) (by omega) (.inl (by omega)) (by omega))
    · rw [if_neg h8, if_pos (by omega), if_pos (by omega)]
      exact some_sum (step _ _ 0 (by omega) (by omega) (by omega) (by omega) (by omega) (.inr rfl) (by omega))
theorem len_is (k : Nat) (x : Int) (h0 : 0 ≤ x) (h1 : x < 18446744073709551616) : bits_Len.f (k + 1) x = some ((sz x.toNat : Nat) : Int) := by
  unfold bits_Len.f bits_Len64.f
  by_cases h : x ≥ 4294967296
  · rw [if_pos h, j0_is k _ 32 (by omega) (by omega) (by omega) (by omega)]
    have := sz_div x.toNat 32 (by omega)
    have e : (x / 4294967296).toNat = x.toNat / 2 ^ 32 := by omega
    rw [e]
    simp only [Option.bind_some]
    exact some_sum (by omega)
  · rw [if_neg h, j0_is k _ 0 h0 (by omega) (by omega) (by omega)]
    simp only [Option.bind_some]
    exact some_sum (by omega)
/-- The class of a number. -/
def cl (x : Int) : Int := ((sz x.toNat : Nat) : Int)
theorem class_is (k : Nat) (x : Int) (h1 : x ≤ 9223372036854775807) : tiers_Class.f (k + 1) x = some (cl x) := by
  unfold tiers_Class.f cl
  by_cases h : x < 1
  · rw [if_pos h]
    have : x.toNat = 0 := by omega
    rw [this]
    rfl
  · rw [if_neg h, wrap_u64_in x (by omega) (by omega), len_is k x (by omega) (by omega)]
    rfl
theorem ref_loop : ∀ (d k : Nat) (x c : Int), x ≤ 9223372036854775807 → sz x.toNat = d → 0 ≤ c → c + d ≤ 1000 → d < k → lecternref12_Class.l0 k x c = some (c + d)
  | d, k, x, c, hx, hd, hc, hc2, hk => by
    obtain ⟨k, rfl⟩ : ∃ m, k = m + 1 := ⟨k - 1, by omega⟩
    simp only [lecternref12_Class.l0]
    by_cases h : x > 0
    · have hs := sz_half x.toNat (by omega)
      rw [if_pos h]
      have e : Int.tdiv x 2 = x / 2 := Int.tdiv_eq_ediv_of_nonneg (by omega)
      have e2 : (x / 2).toNat = x.toNat / 2 := by omega
      match d, hd, hc2, hk with
      | 0, hd, _, _ => omega
      | d + 1, hd, hc2, hk =>
        rw [e, wrap64_in _ (by omega) (by omega), wrap64_in _ (by omega) (by omega)]
        rw [ref_loop d k (x / 2) (c + 1) (by omega) (by rw [e2]; omega) (by omega) (by omega) (by omega)]
        exact some_sum (by omega)
    · rw [if_neg h]
      have : sz x.toNat = 0 := by
        have : x.toNat = 0 := by omega
        rw [this]; rfl
      exact some_sum (by omega)
theorem cl_range (x : Int) (h : x ≤ 9223372036854775807) : 0 ≤ cl x ∧ cl x ≤ 63 := by
  have := sz_lt x.toNat 63 (by omega)
  unfold cl
  omega
theorem ref_class_is (k : Nat) (hk : 64 < k) (x : Int) (h : x ≤ 9223372036854775807) : lecternref12_Class.f k x = some (cl x) := by
  have := sz_lt x.toNat 63 (by omega)
  unfold lecternref12_Class.f
  rw [ref_loop _ k x 0 h rfl (by omega) (by omega) (by omega)]
  exact some_sum (by unfold cl; omega)
end Go.Proofs.Ytfjndhlkdckieaa.Q
