/- Among 400 numbers in a row no remainder by 8 occurs always: the lowest bits of 64 steps tell all bits of the number ahead. Plain numbers. -/
import Derived.Test.YtfjndhlkdckieaaXor
namespace Go.Proofs.Ytfjndhlkdckieaa.Xor
set_option linter.unusedVariables false

def iter : Nat → Nat → Nat
  | 0, u => u
  | n + 1, u => iter n (T u)
theorem iter_lt : ∀ n u, u < 2 ^ 64 → iter n u < 2 ^ 64
  | 0, _, h => h
  | n + 1, u, h => iter_lt n (T u) (T_lt h)
def obs : Nat → Nat → Nat
  | 0, _ => 0
  | n + 1, u => (T u % 2 ^ 1) ^^^ (obs n (T u) <<< 1)
theorem lin_obs : ∀ n, Lin (obs n)
  | 0 => fun a b => by simp [obs]
  | n + 1 => fun a b => by
    simp only [obs]
    rw [lin_T, lin_obs n, Nat.xor_mod_two_pow, Nat.shiftLeft_xor_distrib]
    exact swap _ _ _ _
theorem obs_zero : ∀ n u, (∀ j, j < n → iter (j + 1) u % 2 = 0) → obs n u = 0
  | 0, _, _ => rfl
  | n + 1, u, h => by
    have h0 : T u % 2 = 0 := h 0 (by omega)
    have h1 := obs_zero n (T u) (fun j hj => h (j + 1) (by omega))
    simp [obs, h0, h1]
theorem obs_back (u : Nat) (h : u < 2 ^ 64) : cols invO (obs 64 u) = u :=
  lin_ext (lin_comp (lin_cols _) (lin_obs 64)) lin_id 64 (all_lt (P := fun i => cols invO (obs 64 (2 ^ i)) = 2 ^ i) 64 (by decide +kernel)) u h
def stp (s : Nat) : Nat → Nat
  | 0 => s
  | k + 1 => next (stp s k)
theorem stp_lt {s : Nat} (h : s < 2 ^ 64) : ∀ k, stp s k < 2 ^ 64
  | 0 => h
  | k + 1 => next_lt (stp_lt h k)
theorem stp_succ_ne {s : Nat} (h : s < 2 ^ 64) (k : Nat) : stp s (k + 1) ≠ 0 := next_ne_zero (stp_lt h k)
theorem stp_T {s : Nat} (h : s < 2 ^ 64) (k : Nat) : stp s (k + 2) = T (stp s (k + 1)) := by
  show next (stp s (k + 1)) = _
  unfold next
  rw [if_neg (stp_succ_ne h k)]
theorem iter_T : ∀ n u, iter (n + 1) u = T (iter n u)
  | 0, _ => rfl
  | n + 1, u => by
    show iter (n + 1) (T u) = T (iter n (T u))
    exact iter_T n (T u)
theorem diff_iter {s : Nat} (h : s < 2 ^ 64) : ∀ j, stp s (j + 1) ^^^ stp s (j + 2) = iter j (stp s 1 ^^^ stp s 2)
  | 0 => rfl
  | j + 1 => by
    rw [iter_T, ← diff_iter h j, lin_T, ← stp_T h j, ← stp_T h (j + 1)]
/-- How many of the first k have the remainder v. -/
def cnt (s v : Nat) : Nat → Nat
  | 0 => 0
  | k + 1 => cnt s v k + if stp s (k + 1) % 8 = v then 1 else 0
theorem cnt_le (s v : Nat) : ∀ k, cnt s v k ≤ k
  | 0 => Nat.le_refl _
  | k + 1 => by have := cnt_le s v k; simp only [cnt]; split <;> omega
theorem cnt_full (s v : Nat) : ∀ k, cnt s v k = k → ∀ j, j < k → stp s (j + 1) % 8 = v
  | 0, _, j, hj => absurd hj (by omega)
  | k + 1, h, j, hj => by
    have h1 := cnt_le s v k
    simp only [cnt] at h
    by_cases hv : stp s (k + 1) % 8 = v
    · rw [if_pos hv] at h
      by_cases hjk : j = k
      · subst hjk; exact hv
      · exact cnt_full s v k (by omega) j (by omega)
    · rw [if_neg hv] at h
      omega
theorem xor_zero {a b : Nat} (h : a ^^^ b = 0) : a = b := by
  have h1 : a ^^^ (a ^^^ b) = a := by rw [h, Nat.xor_zero]
  rw [← Nat.xor_assoc, Nat.xor_self, Nat.zero_xor] at h1
  exact h1.symm
theorem spread {s : Nat} (h : s < 2 ^ 64) (v : Nat) : cnt s v 400 ≤ 399 := by
  by_cases hf : cnt s v 400 = 400
  · exfalso
    have hall := cnt_full s v 400 hf
    have hbit : ∀ j, j < 64 → iter (j + 1) (stp s 1 ^^^ stp s 2) % 2 = 0 := by
      intro j hj
      rw [← diff_iter h (j + 1)]
      have h1 := hall (j + 1) (by omega)
      have h2 := hall (j + 2) (by omega)
      have hx := @Nat.xor_mod_two_pow (stp s (j + 1 + 1)) (stp s (j + 1 + 2)) 1
      rw [show (2 : Nat) ^ 1 = 2 from rfl] at hx
      rw [hx]
      have e1 : stp s (j + 1 + 1) % 2 = v % 2 := by omega
      have e2 : stp s (j + 1 + 2) % 2 = v % 2 := by
        have : stp s (j + 2 + 1) % 8 = v := h2
        show stp s (j + 2 + 1) % 2 = _
        omega
      rw [e1, e2, Nat.xor_self]
    have hu : stp s 1 ^^^ stp s 2 < 2 ^ 64 := Nat.xor_lt_two_pow (stp_lt h 1) (stp_lt h 2)
    have hz := obs_back _ hu
    rw [obs_zero 64 _ hbit, (lin_cols _).zero] at hz
    have he : stp s 1 = stp s 2 := xor_zero hz.symm
    have hT := stp_T h 0
    exact T_ne (stp_lt h 1) (stp_succ_ne h 0) (hT.symm.trans he.symm)
  · have := cnt_le s v 400
    omega
theorem next_inj_one {s : Nat} (h : s < 2 ^ 64) (h0 : s ≠ 0) (h1 : s ≠ 1) : next s ≠ next 1 := by
  unfold next
  rw [if_neg h0, if_neg (by decide)]
  exact fun he => h1 (T_inj h (by decide) he)
end Go.Proofs.Ytfjndhlkdckieaa.Xor
