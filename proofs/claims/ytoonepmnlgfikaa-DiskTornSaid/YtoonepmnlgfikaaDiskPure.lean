/- DiskNames: what is asked of a name, by both: one Bool. -/
import Derived.Test.YtoonepmnlgfikaaDx2
namespace Go.Proofs.Ytoonepmnlgfikaa.D
open Go.RowKit Go.Proofs.YtoonepmnlgfikaaW.PrintWords Go.Proofs.YtoonepmnlgfikaaW.PrintLast Go.Proofs.YtoonepmnlgfikaaW.PrintMore
set_option linter.unusedVariables false
set_option linter.unusedSimpArgs false

def okC (c : Int) : Prop := 97 ≤ c ∧ c ≤ 122 ∨ 48 ≤ c ∧ c ≤ 57 ∨ c = 46 ∨ c = 45
instance (c : Int) : Decidable (okC c) := by unfold okC; infer_instance
/-- From i on, m bytes. -/
def restB (a : ByteArray) : Nat → Nat → Bool
  | _, 0 => true
  | i, m + 1 => decide (okC (bt a (i : Int))) && restB a (i + 1) m
def nameB (a : ByteArray) : Bool := decide (1 ≤ a.size ∧ a.size ≤ 64) && restB a 0 a.size

theorem good_rest (a : ByteArray) (hs : a.size ≤ 9223372036854775807) : ∀ m i k, i + m = a.size → 3 * m + 1 ≤ k →
    disk_good.l0 k a (a.size : Int) (i : Int) = some (restB a i m && decide (1 ≤ a.size ∧ a.size ≤ 64))
  | 0, i, k, hi, hk => by
    obtain ⟨k, rfl⟩ : ∃ n, k = n + 1 := ⟨k - 1, by omega⟩
    simp only [disk_good.l0, restB, Bool.true_and]
    rw [if_neg (by omega)]
    by_cases h1 : 1 ≤ a.size
    · rw [if_pos (by omega)]
      congr 1
      exact decide_eq_decide.2 ⟨fun h => ⟨h1, by omega⟩, fun h => by omega⟩
    · rw [if_neg (by omega), decide_eq_false (fun h => h1 h.1)]
  | m + 1, i, k, hi, hk => by
    obtain ⟨k, rfl⟩ : ∃ n, k = n + 3 := ⟨k - 3, by omega⟩
    have hw : wrap64 ((i : Int) + 1) = ((i + 1 : Nat) : Int) := by unfold wrap64; omega
    have go : ∀ q, 3 * m + 1 ≤ q → disk_good.l0 q a (a.size : Int) ((i + 1 : Nat) : Int) = some (restB a (i + 1) m && decide (1 ≤ a.size ∧ a.size ≤ 64)) := fun q hq => good_rest a hs m (i + 1) q (by omega) hq
    have no : ¬ okC (bt a (i : Int)) → restB a i (m + 1) = false := fun h => by simp only [restB]; rw [decide_eq_false h, Bool.false_and]
    have yes : okC (bt a (i : Int)) → restB a i (m + 1) = restB a (i + 1) m := fun h => by simp only [restB]; rw [decide_eq_true h, Bool.true_and]
    rw [show k + 3 = (k + 2) + 1 from rfl]
    unfold disk_good.l0
    rw [if_pos (by omega), if_pos (by omega), if_pos (by omega)]
    generalize bt a (i : Int) = c at *
    have j2 : ∀ q b, 3 * m + 1 ≤ q → b = decide (48 ≤ c ∧ c ≤ 57) → ¬ (97 ≤ c ∧ c ≤ 122) → disk_good.j2 (q + 1) a c (a.size : Int) (i : Int) b = some (restB a i (m + 1) && decide (1 ≤ a.size ∧ a.size ≤ 64)) := fun q b hq hb hn => by
      simp only [disk_good.j2]
      rw [hw, go q hq, hb]
      by_cases h1 : 48 ≤ c ∧ c ≤ 57
      · rw [decide_eq_true h1, if_pos rfl, yes (.inr (.inl h1))]
      · rw [decide_eq_false h1, if_neg (by decide)]
        by_cases h2 : c = 46
        · rw [if_pos h2, yes (.inr (.inr (.inl h2)))]
        · rw [if_neg h2]
          by_cases h3 : c = 45
          · rw [if_pos h3, yes (.inr (.inr (.inr h3)))]
          · rw [if_neg h3, no (fun h => by unfold okC at h; omega), Bool.false_and]
    have j1 : ∀ b, b = decide (97 ≤ c ∧ c ≤ 122) → disk_good.j1 (k + 2) a c (a.size : Int) (i : Int) b = some (restB a i (m + 1) && decide (1 ≤ a.size ∧ a.size ≤ 64)) := fun b hb => by
      rw [show k + 2 = (k + 1) + 1 from rfl]
      unfold disk_good.j1
      rw [hw, go (k + 1) (by omega), hb]
      by_cases h1 : 97 ≤ c ∧ c ≤ 122
      · rw [decide_eq_true h1, if_pos rfl, yes (.inl h1)]
      · rw [decide_eq_false h1, if_neg (by decide)]
        by_cases h2 : c ≥ 48
        · rw [if_pos h2]
          exact j2 k _ (by omega) (decide_eq_decide.2 ⟨fun h => ⟨h2, h⟩, fun h => h.2⟩) h1
        · rw [if_neg h2]
          exact j2 k _ (by omega) (decide_eq_false (by omega)).symm h1
    by_cases h1 : c ≥ 97
    · rw [if_pos h1]
      exact j1 _ (decide_eq_decide.2 ⟨fun h => ⟨h1, h⟩, fun h => h.2⟩)
    · rw [if_neg h1]
      exact j1 _ (decide_eq_false (by omega)).symm
theorem good_is (a : ByteArray) (hs : a.size ≤ 9223372036854775807) (k : Nat) (hk : 3 * a.size + 1 ≤ k) : disk_good.f k a = some (nameB a) := by
  unfold disk_good.f nameB
  rw [show (0 : Int) = ((0 : Nat) : Int) from rfl, good_rest a hs a.size 0 k (by omega) hk, Bool.and_comm]
end Go.Proofs.Ytoonepmnlgfikaa.D
