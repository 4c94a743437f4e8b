/- The middle of sorted numbers: how many are as great, how many are greater. -/
import Derived.Test.YtcacckaonjnmjaaSettled
namespace Go.Proofs.Ytcacckaonjnmjaa.It
set_option linter.unusedVariables false
theorem sorted_count (S : List Int) (hs : S.Pairwise (· ≤ ·)) (j : Nat) (hj : j < S.length) :
    S.length - j ≤ S.countP (fun x => decide (S[j] ≤ x)) ∧ ∀ v, S[j] < v → S.countP (fun x => decide (v ≤ x)) ≤ S.length - j - 1 := by
  have e := List.take_append_drop j S
  have hd := List.drop_eq_getElem_cons hj
  have hsd : (S.drop j).Pairwise (· ≤ ·) := hs.sublist (List.drop_sublist j S)
  rw [hd] at hsd
  have hd2 := List.pairwise_cons.1 hsd
  constructor
  · have h1 : (S.drop j).countP (fun x => decide (S[j] ≤ x)) = (S.drop j).length := by
      rw [List.countP_eq_length]
      intro a ha
      rw [hd] at ha
      rcases List.mem_cons.1 ha with rfl | ha
      · simp
      · simpa using hd2.1 a ha
    have h2 : S.countP (fun x => decide (S[j] ≤ x)) = (S.take j).countP (fun x => decide (S[j] ≤ x)) + (S.drop j).countP (fun x => decide (S[j] ≤ x)) := by
      rw [← List.countP_append, e]
    rw [h2, h1, List.length_drop]
    omega
  · intro v hv
    have e2 := List.take_append_drop (j + 1) S
    have h1 : (S.take (j + 1)).countP (fun x => decide (v ≤ x)) = 0 := by
      rw [List.countP_eq_zero]
      intro a ha
      have hle : a ≤ S[j] := by
        rw [List.take_succ_eq_append_getElem hj] at ha
        rcases List.mem_append.1 ha with ha | ha
        · have hp := hs
          rw [← e] at hp
          exact (List.pairwise_append.1 hp).2.2 a ha _ (by rw [hd]; exact List.mem_cons_self)
        · simp at ha; omega
      simp; omega
    have h2 : S.countP (fun x => decide (v ≤ x)) = (S.take (j + 1)).countP (fun x => decide (v ≤ x)) + (S.drop (j + 1)).countP (fun x => decide (v ≤ x)) := by
      rw [← List.countP_append, e2]
    have h3 : (S.drop (j + 1)).countP (fun x => decide (v ≤ x)) ≤ (S.drop (j + 1)).length := List.countP_le_length
    rw [h2, h1]
    rw [List.length_drop] at h3
    omega
def so (l : List Int) : List Int := l.mergeSort fun x y => decide (x ≤ y)
theorem so_pair (l : List Int) : (so l).Pairwise (· ≤ ·) := by
  have h := List.pairwise_mergeSort (le := fun x y : Int => decide (x ≤ y)) (fun a b c h1 h2 => by simp at *; omega) (fun a b => by simp; omega) l
  exact h.imp (fun h => by simpa using h)
theorem so_perm (l : List Int) : (so l).Perm l := List.mergeSort_perm l _
theorem so_len (l : List Int) : (so l).length = l.length := (so_perm l).length_eq
theorem mid_at (l : List Int) (h : 0 < l.length) : ∃ hj : (l.length - 1) / 2 < (so l).length, mid l = (so l)[(l.length - 1) / 2] := by
  have hj : (l.length - 1) / 2 < (so l).length := by rw [so_len]; omega
  refine ⟨hj, ?_⟩
  show ((so l)[(l.length - 1) / 2]?).getD 0 = _
  rw [List.getElem?_eq_getElem hj]
  rfl
theorem mid_mem (l : List Int) (h : 0 < l.length) : mid l ∈ l := by
  obtain ⟨hj, e⟩ := mid_at l h
  rw [e]
  exact (so_perm l).mem_iff.1 (List.getElem_mem hj)
theorem mid_most (l : List Int) (h : 0 < l.length) : l.length < 2 * l.countP (fun x => decide (mid l ≤ x)) := by
  obtain ⟨hj, e⟩ := mid_at l h
  have h1 := (sorted_count (so l) (so_pair l) _ hj).1
  rw [e, ← (so_perm l).countP_eq]
  rw [so_len] at h1
  omega
theorem mid_above (l : List Int) (h : 0 < l.length) (v : Int) (hv : mid l < v) : 2 * l.countP (fun x => decide (v ≤ x)) ≤ l.length := by
  obtain ⟨hj, e⟩ := mid_at l h
  have h1 := (sorted_count (so l) (so_pair l) _ hj).2 v (by omega)
  rw [← (so_perm l).countP_eq]
  rw [so_len] at h1
  omega
theorem mid_perm {l m : List Int} (h : l.Perm m) : mid l = mid m := by
  have e : so l = so m := List.Perm.eq_of_pairwise (le := (· ≤ ·)) (fun a b _ _ h1 h2 => by omega) (so_pair l) (so_pair m) (((so_perm l).trans h).trans (so_perm m).symm)
  show ((so l)[(l.length - 1) / 2]?).getD 0 = ((so m)[(m.length - 1) / 2]?).getD 0
  rw [e, h.length_eq]
theorem min_le (l : List Int) : ∀ x ∈ l, Lib.minOf l ≤ x := by
  have key : ∀ (l : List Int) (z : Int), l.foldl min z ≤ z ∧ ∀ x ∈ l, l.foldl min z ≤ x := by
    intro l
    induction l with
    | nil => intro z; simp
    | cons a l ih =>
      intro z
      have h := ih (min z a)
      simp only [List.foldl_cons]
      refine ⟨by omega, fun x hx => ?_⟩
      rcases List.mem_cons.1 hx with rfl | hx
      · omega
      · exact h.2 x hx
  intro x hx
  exact (key l _).2 x hx
theorem min_mem (l : List Int) (h : 0 < l.length) : Lib.minOf l ∈ l := by
  have key : ∀ (l : List Int) (z : Int), l.foldl min z = z ∨ l.foldl min z ∈ l := by
    intro l
    induction l with
    | nil => intro z; simp
    | cons a l ih =>
      intro z
      simp only [List.foldl_cons]
      rcases ih (min z a) with h | h
      · rw [h]
        rcases Int.le_total z a with h2 | h2
        · rw [Int.min_eq_left h2]; simp
        · rw [Int.min_eq_right h2]; simp
      · simp [h]
  cases l with
  | nil => simp at h
  | cons a l =>
    show (a :: l).foldl min ((a :: l).headD 0) ∈ _
    rcases key (a :: l) ((a :: l).headD 0) with h | h
    · rw [h]; simp
    · exact h
end Go.Proofs.Ytcacckaonjnmjaa.It
