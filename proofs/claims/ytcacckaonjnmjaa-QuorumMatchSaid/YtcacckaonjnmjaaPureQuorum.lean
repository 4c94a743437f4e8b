/- QuorumExact, QuorumMatch: what the printed functions answer, in plain Lean. -/
import Derived.Test.YtcacckaonjnmjaaMidPure
import Derived.Test.YtcacckaonjnmjaaQx41
import Derived.Test.YtcacckaonjnmjaaQx42
namespace Go.Proofs.Ytcacckaonjnmjaa.Q
open Go.RowKit Go.Proofs.YtcacckaonjnmjaaW.PrintWords Go.Proofs.YtcacckaonjnmjaaW.PrintLast Go.Proofs.YtcacckaonjnmjaaW.PrintMore
set_option linter.unusedVariables false
set_option linter.unusedSimpArgs false
theorem wrap64_in (n : Int) (h : -9223372036854775808 ≤ n) (h1 : n ≤ 9223372036854775807) : wrap64 n = n := by unfold wrap64; omega
theorem rd_at (l : List Int) (i : Nat) (h : i < l.length) : rd l (i : Int) = l[i] := by
  unfold rd
  rw [Int.toNat_natCast, List.getD_eq_getElem?_getD, List.getElem?_eq_getElem h]
  rfl
theorem wr1 (i : Nat) (h : i ≤ 1000000) : wrap64 ((i : Int) + 1) = ((i + 1 : Nat) : Int) := by rw [wrap64_in _ (by omega) (by omega)]; omega
theorem copy_l0 (l : List Int) (hl : l.length ≤ 1000) : ∀ d k i, i + d = l.length → d < k → lecternref0_CopyNumbers.l0 k l (l.take i) (i : Int) = some l
  | 0, k, i, hd, hk => by
    obtain ⟨k, rfl⟩ : ∃ n, k = n + 1 := ⟨k - 1, by omega⟩
    unfold lecternref0_CopyNumbers.l0
    rw [if_neg (by omega), List.take_of_length_le (by omega)]
  | d + 1, k, i, hd, hk => by
    obtain ⟨k, rfl⟩ : ∃ n, k = n + 1 := ⟨k - 1, by omega⟩
    have ih := copy_l0 l hl d k (i + 1) (by omega) (by omega)
    unfold lecternref0_CopyNumbers.l0
    have h1 : (l.take i).length ≤ l.length := by rw [List.length_take]; omega
    rw [if_pos (by omega), if_pos (by omega), if_pos (by omega), wr1 i (by omega), rd_at l i (by omega), ← List.take_succ_eq_append_getElem (by omega)]
    exact ih
theorem copy_is (l : List Int) (hl : l.length ≤ 1000) (k : Nat) (hk : 1001 ≤ k) : lecternref0_CopyNumbers.f k l = some l := by
  unfold lecternref0_CopyNumbers.f
  exact copy_l0 l hl l.length k 0 (by omega) (by omega)
theorem eq_l0 (l : List Int) (hl : l.length ≤ 1000) : ∀ d k i, i + d = l.length → d < k → lecternref0_EqNumbers.l0 k l l (i : Int) = some true
  | 0, k, i, hd, hk => by
    obtain ⟨k, rfl⟩ : ∃ n, k = n + 1 := ⟨k - 1, by omega⟩
    unfold lecternref0_EqNumbers.l0
    rw [if_neg (by omega)]
  | d + 1, k, i, hd, hk => by
    obtain ⟨k, rfl⟩ : ∃ n, k = n + 1 := ⟨k - 1, by omega⟩
    unfold lecternref0_EqNumbers.l0
    rw [if_pos (by omega), if_pos (by omega), if_pos (by omega), if_pos rfl, wr1 i (by omega)]
    exact eq_l0 l hl d k (i + 1) (by omega) (by omega)
theorem eq_is (l : List Int) (hl : l.length ≤ 1000) (k : Nat) (hk : 1001 ≤ k) : lecternref0_EqNumbers.f k l l = some true := by
  unfold lecternref0_EqNumbers.f
  rw [if_pos rfl]
  exact eq_l0 l hl l.length k 0 (by omega) (by omega)
theorem in_l0 (l : List Int) (x : Int) (hl : l.length ≤ 1000) : ∀ d k i, i + d = l.length → d < k → ∃ t, lecternref0_In.l0 k l x (i : Int) = some t ∧ (t ≥ 0 ↔ x ∈ l.drop i)
  | 0, k, i, hd, hk => by
    obtain ⟨k, rfl⟩ : ∃ n, k = n + 1 := ⟨k - 1, by omega⟩
    refine ⟨-1, ?_, ?_⟩
    · unfold lecternref0_In.l0
      rw [if_neg (by omega)]
    · rw [List.drop_of_length_le (by omega)]; simp
  | d + 1, k, i, hd, hk => by
    obtain ⟨k, rfl⟩ : ∃ n, k = n + 1 := ⟨k - 1, by omega⟩
    have hi : i < l.length := by omega
    by_cases h : l[i] = x
    · refine ⟨(i : Int), ?_, ?_⟩
      · unfold lecternref0_In.l0
        rw [if_pos (by omega), if_pos (by omega), rd_at l i hi, if_pos h]
      · rw [List.drop_eq_getElem_cons hi]
        constructor
        · intro _; rw [← h]; exact List.mem_cons_self
        · intro _; omega
    · obtain ⟨t, h1, h2⟩ := in_l0 l x hl d k (i + 1) (by omega) (by omega)
      refine ⟨t, ?_, ?_⟩
      · unfold lecternref0_In.l0
        rw [if_pos (by omega), if_pos (by omega), rd_at l i hi, if_neg h, wr1 i (by omega)]
        exact h1
      · rw [h2, List.drop_eq_getElem_cons hi, List.mem_cons]
        constructor
        · exact .inr
        · rintro (h3 | h3)
          · exact absurd h3.symm h
          · exact h3
theorem in_is (l : List Int) (x : Int) (hl : l.length ≤ 1000) (k : Nat) (hk : 1001 ≤ k) : ∃ t, lecternref0_In.f k l x = some t ∧ (t ≥ 0 ↔ x ∈ l) := by
  obtain ⟨t, h1, h2⟩ := in_l0 l x hl l.length k 0 (by omega) (by omega)
  exact ⟨t, h1, by rw [h2]; rfl⟩
theorem ix_l0 (l : List Int) (x : Int) (hl : l.length ≤ 1000) : ∀ d k i, i + d = l.length → d < k → ∃ t, slices_Index_int_int.l0 k l x (l.length : Int) (i : Int) = some t ∧ (t ≥ 0 ↔ x ∈ l.drop i)
  | 0, k, i, hd, hk => by
    obtain ⟨k, rfl⟩ : ∃ n, k = n + 1 := ⟨k - 1, by omega⟩
    refine ⟨-1, ?_, ?_⟩
    · unfold slices_Index_int_int.l0
      rw [if_neg (by omega)]
    · rw [List.drop_of_length_le (by omega)]; simp
  | d + 1, k, i, hd, hk => by
    obtain ⟨k, rfl⟩ : ∃ n, k = n + 1 := ⟨k - 1, by omega⟩
    have hi : i < l.length := by omega
    by_cases h : x = l[i]
    · refine ⟨(i : Int), ?_, ?_⟩
      · unfold slices_Index_int_int.l0
        rw [if_pos (by omega), if_pos (by omega), if_pos (by omega), rd_at l i hi, if_pos h]
      · rw [List.drop_eq_getElem_cons hi]
        constructor
        · intro _; rw [h]; exact List.mem_cons_self
        · intro _; omega
    · obtain ⟨t, h1, h2⟩ := ix_l0 l x hl d k (i + 1) (by omega) (by omega)
      refine ⟨t, ?_, ?_⟩
      · unfold slices_Index_int_int.l0
        rw [if_pos (by omega), if_pos (by omega), if_pos (by omega), rd_at l i hi, if_neg h, wr1 i (by omega)]
        exact h1
      · rw [h2, List.drop_eq_getElem_cons hi, List.mem_cons]
        constructor
        · exact .inr
        · rintro (h3 | h3)
          · exact absurd h3 h
          · exact h3
theorem contains_is (l : List Int) (x : Int) (hl : l.length ≤ 1000) (k : Nat) (hk : 1001 ≤ k) : slices_Contains_int_int.f k l x = some (decide (x ∈ l)) := by
  obtain ⟨t, h1, h2⟩ := ix_l0 l x hl l.length k 0 (by omega) (by omega)
  unfold slices_Contains_int_int.f slices_Index_int_int.f
  rw [show (0 : Int) = ((0 : Nat) : Int) from rfl, h1, Option.bind_some]
  congr 1
  exact decide_eq_decide.2 (by rw [List.drop_zero] at h2; exact h2)
theorem enough_l0 (n : Nat) (hn : n ≤ 7) (l : List Int) (hl : l.length ≤ 1000) : ∀ d k i c, i + d = n + 1 → 1001 + d < k → ∃ b, quorum_Most.l0 k (n : Int) l c (i : Int) = some b ∧ lecternref23_Enough.l0 k (n : Int) l c (i : Int) = some b
  | 0, k, i, c, hd, hk => by
    obtain ⟨k, rfl⟩ : ∃ n, k = n + 1 := ⟨k - 1, by omega⟩
    refine ⟨decide (wrap64 (2 * c) > (n : Int)), ?_, ?_⟩
    · unfold quorum_Most.l0; rw [if_neg (by omega)]
    · unfold lecternref23_Enough.l0; rw [if_neg (by omega)]
  | d + 1, k, i, c, hd, hk => by
    obtain ⟨k, rfl⟩ : ∃ n, k = n + 1 := ⟨k - 1, by omega⟩
    obtain ⟨t, h1, h2⟩ := in_is l (i : Int) hl k (by omega)
    unfold quorum_Most.l0 lecternref23_Enough.l0
    rw [if_pos (by omega), if_pos (by omega), contains_is l _ hl k (by omega), h1, wr1 i (by omega)]
    simp only [Option.bind_some]
    by_cases h : (i : Int) ∈ l
    · rw [decide_eq_true h, if_pos rfl, if_pos (h2.2 h)]
      exact enough_l0 n hn l hl d k (i + 1) _ (by omega) (by omega)
    · rw [decide_eq_false h, if_neg (by decide), if_neg (fun hh => h (h2.1 hh))]
      exact enough_l0 n hn l hl d k (i + 1) _ (by omega) (by omega)
theorem enough_is (n : Nat) (hn : n ≤ 7) (h1 : 1 ≤ n) (l : List Int) (hl : l.length ≤ 1000) (k : Nat) (hk : 1100 ≤ k) : ∃ b, quorum_Enough.f k (n : Int) l = some (b, 0) ∧ lecternref23_Enough.f k (n : Int) l = some b := by
  obtain ⟨b, e1, e2⟩ := enough_l0 n hn l hl n k 1 0 (by omega) (by omega)
  refine ⟨b, ?_, e2⟩
  unfold quorum_Enough.f quorum_Most.f
  rw [if_neg (by omega), if_neg (by omega), show (1 : Int) = ((1 : Nat) : Int) from rfl, e1]
  rfl
theorem enough_no (n : Int) (hn : n < 1 ∨ 7 < n) (l : List Int) (k : Nat) : quorum_Enough.f k n l = some (false, 1) := by
  unfold quorum_Enough.f
  by_cases h : n < 1
  · rw [if_pos h]
  · rw [if_neg h, if_pos (by omega)]
theorem wakes_is (k : Nat) (hk : 100 ≤ k) : lecternlaw24_wakes.f k = some true :=
  at_rounds (fun k => lecternlaw24_wakes.mono k) hk (by decide +kernel)
/-! ### the reference's Index -/
def many (l : List Int) (v : Int) (j : Nat) : Nat := (l.drop j).countP (fun x => decide (v ≤ x))
theorem ref_l1 (l : List Int) (hl : l.length ≤ 1000) (best : Int) (i : Nat) (hi : i < l.length) : ∀ d k j c, j + d = l.length → c ≤ j →
    lecternref23_Index.l1 (k + d + 1) l best (i : Int) (c : Int) (j : Int) = if l.length < 2 * (c + many l l[i] j) then lecternref23_Index.l0 k l (mx best l[i]) ((i + 1 : Nat) : Int) else lecternref23_Index.l0 k l best ((i + 1 : Nat) : Int)
  | 0, k, j, c, hd, hc => by
    have hm : many l l[i] j = 0 := by unfold many; rw [List.drop_of_length_le (by omega)]; rfl
    unfold lecternref23_Index.l1
    rw [if_neg (by omega), hm, wrap64_in _ (by omega) (by omega), wr1 i (by omega)]
    by_cases h : l.length < 2 * (c + 0)
    · rw [if_pos (by omega), if_pos (by omega), if_pos (by omega), if_pos h, rd_at l i hi]
    · rw [if_neg (by omega), if_neg h]
  | d + 1, k, j, c, hd, hc => by
    have hj : j < l.length := by omega
    have hm : many l l[i] j = (if l[i] ≤ l[j] then 1 else 0) + many l l[i] (j + 1) := by
      unfold many
      rw [List.drop_eq_getElem_cons hj, List.countP_cons, Nat.add_comm]
      congr 1
      by_cases h : l[i] ≤ l[j] <;> simp [h]
    rw [show k + (d + 1) + 1 = (k + d + 1) + 1 by omega]
    rw [lecternref23_Index.l1.eq_def]
    simp only []
    rw [if_pos (by omega), if_pos (by omega), if_pos (by omega), if_pos (by omega), rd_at l i hi, rd_at l j hj, wr1 j (by omega), wr1 c (by omega), hm]
    by_cases h : l[i] ≤ l[j]
    · rw [if_pos h, if_pos h, ref_l1 l hl best i hi d k (j + 1) (c + 1) (by omega) (by omega)]
      rw [show c + 1 + many l l[i] (j + 1) = c + (1 + many l l[i] (j + 1)) by omega]
    · rw [if_neg (by omega), if_neg h, ref_l1 l hl best i hi d k (j + 1) c (by omega) (by omega), Nat.zero_add]
theorem ref_l0 (l : List Int) (hl : l.length ≤ 1000) (h0 : 0 < l.length) : ∀ d k i best, i + d = l.length → d * (l.length + 2) < k → best ≤ It.mid l → (best = It.mid l ∨ It.mid l ∈ l.drop i) →
    lecternref23_Index.l0 k l best (i : Int) = some (It.mid l)
  | 0, k, i, best, hd, hk, hb, hm => by
    obtain ⟨k, rfl⟩ : ∃ n, k = n + 1 := ⟨k - 1, by omega⟩
    unfold lecternref23_Index.l0
    rw [if_neg (by omega)]
    rcases hm with rfl | hm
    · rfl
    · rw [List.drop_of_length_le (by omega)] at hm; simp at hm
  | d + 1, k, i, best, hd, hk, hb, hm => by
    have hi : i < l.length := by omega
    have hk2 : (d + 1) * (l.length + 2) = d * (l.length + 2) + (l.length + 2) := Nat.succ_mul _ _
    obtain ⟨k, rfl⟩ : ∃ n, k = n + l.length + 1 + 1 := ⟨k - (l.length + 2), by omega⟩
    unfold lecternref23_Index.l0
    rw [if_pos (by omega), show (0 : Int) = ((0 : Nat) : Int) from rfl, ref_l1 l hl best i hi l.length k 0 0 (by omega) (by omega), Nat.zero_add]
    have hmany : many l l[i] 0 = l.countP (fun x => decide (l[i] ≤ x)) := by unfold many; rw [List.drop_zero]
    rw [hmany]
    have hstep : It.mid l ∈ l.drop i → l[i] = It.mid l ∨ It.mid l ∈ l.drop (i + 1) := fun h => by
      rw [List.drop_eq_getElem_cons hi] at h
      rcases List.mem_cons.1 h with h | h
      · exact .inl h.symm
      · exact .inr h
    by_cases h : l.length < 2 * l.countP (fun x => decide (l[i] ≤ x))
    · rw [if_pos h]
      have hle : l[i] ≤ It.mid l := by
        rcases Int.lt_or_le (It.mid l) l[i] with h2 | h2
        · have := It.mid_above l h0 _ h2; omega
        · exact h2
      refine ref_l0 l hl h0 d k (i + 1) _ (by omega) (by omega) ?_ ?_
      · unfold mx; split <;> omega
      · unfold mx
        rcases hm with rfl | hm
        · left; split <;> omega
        · rcases hstep hm with h3 | h3
          · left; split <;> omega
          · exact .inr h3
    · rw [if_neg h]
      refine ref_l0 l hl h0 d k (i + 1) _ (by omega) (by omega) hb ?_
      rcases hm with rfl | hm
      · exact .inl rfl
      · rcases hstep hm with h3 | h3
        · have := It.mid_most l h0
          rw [← h3] at this
          omega
        · exact .inr h3
theorem ref_is (l : List Int) (h7 : l.length ≤ 7) (h0 : 0 < l.length) (hp : ∀ x ∈ l, 0 ≤ x) (k : Nat) (hk : 100 ≤ k) : lecternref23_Index.f k l = some (It.mid l) := by
  unfold lecternref23_Index.f
  have hm : l.length * (l.length + 2) ≤ 7 * 9 := Nat.mul_le_mul h7 (by omega)
  exact ref_l0 l (by omega) h0 l.length k 0 0 (by omega) (by omega) (hp _ (It.mid_mem l h0)) (.inr (by rw [List.drop_zero]; exact It.mid_mem l h0))
theorem idx_yes (l : List Int) (h7 : l.length ≤ 7) (h0 : 0 < l.length) (hp : ∀ x ∈ l, 0 ≤ x) : quorum_idx l = (It.mid l, 0) := by
  unfold quorum_idx
  rw [if_pos ⟨h0, h7, hp _ (It.min_mem l h0)⟩]
theorem idx_no (l : List Int) (h : ¬ (0 < l.length ∧ l.length ≤ 7 ∧ ∀ x ∈ l, 0 ≤ x)) : quorum_idx l = (0, 1) := by
  unfold quorum_idx
  rw [if_neg]
  rintro ⟨h1, h2, h3⟩
  exact h ⟨h1, h2, fun x hx => by have := It.min_le l x hx; omega⟩
/-! ### QuorumExact -/
def fits (l : List Int) : Bool := decide (1 ≤ l.length) && decide (l.length ≤ 7) && l.all fun x => decide (0 ≤ x)
theorem fits_iff (l : List Int) : fits l = true ↔ (0 < l.length ∧ l.length ≤ 7 ∧ ∀ x ∈ l, 0 ≤ x) := by
  unfold fits
  simp only [Bool.and_eq_true, decide_eq_true_eq, List.all_eq_true]
  constructor
  · rintro ⟨⟨h1, h2⟩, h3⟩; exact ⟨h1, h2, h3⟩
  · rintro ⟨h1, h2, h3⟩; exact ⟨⟨h1, h2⟩, h3⟩
/-- Behind the loop over Match: what follows, told of 'fit'. -/
def tailE (k : Nat) (l0 : List S76) (i : Nat) (N : Int) (V M : List Int) (b : Bool) : Option Bool := lecternlaw24_QuorumExact.j6 k l0 (i : Int) b N V M
theorem fit_l1 (l0 : List S76) (i : Nat) (N : Int) (V M : List Int) (hM : M.length ≤ 1000) (r : Option Bool) (P : Nat → Prop) : ∀ d k j b, j + d = M.length → (∀ k', k ≤ k' + 1 → tailE k' l0 i N V M (b && (M.drop j).all fun x => decide (0 ≤ x)) = r) →
    0 < k → lecternlaw24_QuorumExact.l1 (k + d) l0 (i : Int) b (j : Int) N V M = r
  | 0, k, j, b, hd, hr, hk => by
    obtain ⟨k, rfl⟩ : ∃ n, k = n + 1 := ⟨k - 1, by omega⟩
    have h1 := hr k (by omega)
    rw [List.drop_of_length_le (by omega)] at h1
    simp only [List.all_nil, Bool.and_true] at h1
    show lecternlaw24_QuorumExact.l1 (k + 1) l0 (i : Int) b (j : Int) N V M = r
    unfold lecternlaw24_QuorumExact.l1
    rw [if_neg (by omega)]
    exact h1
  | d + 1, k, j, b, hd, hr, hk => by
    have hj : j < M.length := by omega
    rw [show k + (d + 1) = (k + d) + 1 by omega]
    unfold lecternlaw24_QuorumExact.l1
    rw [if_pos (by omega)]
    cases b with
    | true =>
      rw [if_pos rfl, if_pos (by omega), rd_at M j hj, wr1 j (by omega)]
      refine fit_l1 l0 i N V M hM r P d k (j + 1) _ (by omega) (fun k' hk' => ?_) hk
      have h1 := hr k' (by omega)
      rw [List.drop_eq_getElem_cons hj, List.all_cons] at h1
      rw [Bool.true_and] at h1
      exact h1
    | false =>
      rw [if_neg (by decide)]
      have h1 := hr (k + d) (by omega)
      rw [Bool.false_and] at h1
      exact h1
theorem tailE_is (l0 : List S76) (i : Nat) (N : Int) (V M : List Int) (hM : M.length ≤ 1000) (k : Nat) (hk : 1200 ≤ k) (hi : i ≤ 1000) (ih : ∀ k', k ≤ k' + 10 → lecternlaw24_QuorumExact.l0 k' l0 ((i + 1 : Nat) : Int) = some true) : tailE k l0 i N V M (fits M) = some true := by
  obtain ⟨k, rfl⟩ : ∃ n, k = n + 2 := ⟨k - 2, by omega⟩
  unfold tailE
  by_cases h : fits M = true
  · obtain ⟨h0, h7, hp⟩ := (fits_iff M).1 h
    rw [h]
    simp only [lecternlaw24_QuorumExact.j6, lecternlaw24_QuorumExact.j7, if_true, quorum_Index.f, lecternlaw24_num.f]
    rw [ref_is M h7 h0 hp _ (by omega), Option.bind_some, copy_is M hM _ (by omega), Option.bind_some, idx_yes M h7 h0 hp]
    simp only [Option.bind_some, if_true]
    rw [if_neg (by decide), eq_is M hM _ (by omega), wr1 i (by omega)]
    simp only [Option.bind_some, if_true]
    exact ih k (by omega)
  · have h2 : fits M = false := by simpa using h
    rw [h2]
    simp only [lecternlaw24_QuorumExact.j6, lecternlaw24_QuorumExact.j7, quorum_Index.f, lecternlaw24_num.f]
    rw [if_neg (by decide), copy_is M hM _ (by omega), Option.bind_some, idx_no M (fun hh => h ((fits_iff M).2 hh))]
    simp only [Option.bind_some, if_true]
    rw [if_neg (by decide), if_neg (by decide), eq_is M hM _ (by omega), wr1 i (by omega)]
    simp only [Option.bind_some, if_true]
    exact ih k (by omega)
theorem j3_is (l0 : List S76) (i : Nat) (N : Int) (V M : List Int) (hM : M.length ≤ 1000) (k : Nat) (hk : 2500 ≤ k) (hi : i ≤ 1000) (ih : ∀ k', k ≤ k' + 1200 → lecternlaw24_QuorumExact.l0 k' l0 ((i + 1 : Nat) : Int) = some true) : lecternlaw24_QuorumExact.j3 k l0 (i : Int) false N V M = some true := by
  obtain ⟨k, rfl⟩ : ∃ n, k = n + M.length + 2 := ⟨k - (M.length + 2), by omega⟩
  have h4 : ∀ b, b = (decide (1 ≤ M.length) && decide (M.length ≤ 7)) → lecternlaw24_QuorumExact.j4 (k + M.length + 1) l0 (i : Int) b N V M = some true := fun b hb => by
    simp only [lecternlaw24_QuorumExact.j4]
    rw [show (0 : Int) = ((0 : Nat) : Int) from rfl]
    refine fit_l1 l0 i N V M hM (some true) (fun _ => True) M.length k 0 b (by omega) (fun k' hk' => ?_) (by omega)
    have e : (b && (M.drop 0).all fun x => decide (0 ≤ x)) = fits M := by rw [hb, List.drop_zero]; rfl
    rw [e]
    exact tailE_is l0 i N V M hM k' (by omega) hi (fun k'' h'' => ih k'' (by omega))
  rw [show k + M.length + 2 = (k + M.length + 1) + 1 by omega]
  simp only [lecternlaw24_QuorumExact.j3]
  rw [if_neg (by decide)]
  by_cases h1 : (M.length : Int) ≥ 1
  · rw [if_pos h1]
    exact h4 _ (by rw [decide_eq_true (show 1 ≤ M.length by omega), Bool.true_and]; exact decide_eq_decide.2 ⟨fun h => by omega, fun h => by omega⟩)
  · rw [if_neg h1]
    exact h4 _ (by rw [decide_eq_false (show ¬ 1 ≤ M.length by omega), Bool.false_and])
theorem heavy_is (N : Int) (V M : List Int) (hV : V.length ≤ 17592186044416) (hM : M.length ≤ 17592186044416) (b : Bool) (h : decide ((V.length : Int) + (M.length : Int) > 500) = b) : lecternlaw24_heavy.f N V M = some b := by
  unfold lecternlaw24_heavy.f
  rw [wrap64_in _ (by omega) (by omega), h]
set_option maxHeartbeats 400000 in
theorem j1_is (l0 : List S76) (hw : ∀ p ∈ l0, p.f1.length ≤ 17592186044416 ∧ p.f2.length ≤ 17592186044416) (i : Nat) (hi : i < l0.length) (hi2 : i ≤ 1000) (k : Nat) (hk : 2600 ≤ k) (ih : ∀ k', k ≤ k' + 1300 → lecternlaw24_QuorumExact.l0 k' l0 ((i + 1 : Nat) : Int) = some true) : lecternlaw24_QuorumExact.j1 k l0 (i : Int) true = some true := by
  obtain ⟨k, rfl⟩ : ∃ n, k = n + 3 := ⟨k - 3, by omega⟩
  have hp : rd_T76 l0 (i : Int) ∈ l0 := by
    unfold rd_T76
    rw [Int.toNat_natCast, List.getD_eq_getElem?_getD, List.getElem?_eq_getElem hi]
    exact List.getElem_mem hi
  obtain ⟨hV, hM⟩ := hw _ hp
  rw [show k + 3 = (k + 2) + 1 from rfl]
  simp only [lecternlaw24_QuorumExact.j1, if_true]
  rw [if_pos (by omega), if_pos (by omega)]
  revert hV hM
  clear hp hw
  generalize (rd_T76 l0 (i : Int)).f0 = N
  generalize (rd_T76 l0 (i : Int)).f1 = V
  generalize (rd_T76 l0 (i : Int)).f2 = M
  intro hV hM
  by_cases hh : (V.length : Int) + (M.length : Int) > 500
  · rw [heavy_is N V M hV hM true (by rw [decide_eq_true hh]), Option.bind_some, if_pos rfl]
  · rw [heavy_is N V M hV hM false (by rw [decide_eq_false hh]), Option.bind_some, if_neg (by decide), copy_is V (by omega) _ (by omega), Option.bind_some]
    have h3 := j3_is l0 i N V M (by omega) (k + 1) (by omega) hi2 (fun k' hk' => ih k' (by omega))
    by_cases hN : 1 ≤ N ∧ N ≤ 7
    · obtain ⟨n, rfl⟩ := Int.eq_ofNat_of_zero_le (show 0 ≤ N by omega)
      obtain ⟨b, e1, _⟩ := enough_is n (by omega) (by omega) V (by omega) (k + 2) (by omega)
      obtain ⟨b', e1', e2'⟩ := enough_is n (by omega) (by omega) V (by omega) (k + 1) (by omega)
      have hbb : b' = b := by
        have h5 := quorum_Enough.mono (n : Int) V (k + 1) _ e1'
        rw [e1] at h5
        cases h5; rfl
      subst hbb
      rw [e1, Option.bind_some, if_pos (by omega), decide_eq_true (show (n : Int) ≤ 7 by omega)]
      rw [show k + 2 = (k + 1) + 1 from rfl]
      simp only [lecternlaw24_QuorumExact.j2, lecternlaw24_num.f, Option.bind_some, if_true]
      rw [if_neg (by decide), e2', Option.bind_some, if_neg (by simp), eq_is V (by omega) _ (by omega), Option.bind_some]
      exact h3
    · rw [enough_no N (by omega), Option.bind_some]
      have h2 : lecternlaw24_QuorumExact.j2 (k + 2) l0 (i : Int) V false 1 false N V M = some true := by
        rw [show k + 2 = (k + 1) + 1 from rfl]
        simp only [lecternlaw24_QuorumExact.j2, lecternlaw24_num.f, Option.bind_some, if_true]
        rw [if_neg (by decide), if_neg (by decide), if_neg (by decide), eq_is V (by omega) _ (by omega), Option.bind_some]
        exact h3
      by_cases h1 : N ≥ 1
      · rw [if_pos h1, decide_eq_false (show ¬ N ≤ 7 by omega)]
        exact h2
      · rw [if_neg h1]
        exact h2
theorem fuel_a (D k k' : Nat) (hk : D + 3000 < k + 2) (hk' : k + 1 ≤ k' + 1300) : D < k' := by omega
theorem fuel_b (d : Nat) : (d + 1 + 1) * 3000 = (d + 1) * 3000 + 3000 := Nat.succ_mul _ _
theorem fuel_less (d k k' : Nat) (hk : (d + 1 + 1) * 3000 < k + 2) (hk' : k + 1 ≤ k' + 1300) : (d + 1) * 3000 < k' :=
  fuel_a _ k k' (Nat.lt_of_le_of_lt (Nat.le_of_eq (fuel_b d).symm) hk) hk'
theorem exact_l0 (l0 : List S76) (hw : ∀ p ∈ l0, p.f1.length ≤ 17592186044416 ∧ p.f2.length ≤ 17592186044416) (d : Nat) : ∀ (k i : Nat), i + d = 30 → (d + 1) * 3000 < k → lecternlaw24_QuorumExact.l0 k l0 (i : Int) = some true := by
  induction d with
  | zero =>
    intro k i hd hk
    obtain ⟨k, rfl⟩ : ∃ n, k = n + 2 := ⟨k - 2, by omega⟩
    have last : lecternlaw24_QuorumExact.j1 (k + 1) l0 (i : Int) false = some true := by
      simp only [lecternlaw24_QuorumExact.j1]
      rw [if_neg (by decide), wakes_is k (by omega)]
      rfl
    simp only [lecternlaw24_QuorumExact.l0]
    rw [decide_eq_false (show ¬ (i : Int) < 30 by omega)]
    split <;> exact last
  | succ d ih =>
    intro k i hd hk
    obtain ⟨k, rfl⟩ : ∃ n, k = n + 2 := ⟨k - 2, by omega⟩
    have last : lecternlaw24_QuorumExact.j1 (k + 1) l0 (i : Int) false = some true := by
      simp only [lecternlaw24_QuorumExact.j1]
      rw [if_neg (by decide), wakes_is k (by omega)]
      rfl
    simp only [lecternlaw24_QuorumExact.l0]
    by_cases h1 : i < l0.length
    · rw [if_pos (by omega), decide_eq_true (show (i : Int) < 30 by omega)]
      exact j1_is l0 hw i h1 (by omega) (k + 1) (by omega) (fun k' hk' => ih k' (i + 1) (by omega) (fuel_less d k k' hk hk'))
    · rw [if_neg (by omega)]
      exact last
theorem exact_true (l0 : List S76) (hw : ∀ p ∈ l0, p.f1.length ≤ 17592186044416 ∧ p.f2.length ≤ 17592186044416) : ∃ k, lecternlaw24_QuorumExact.f k l0 = some true := by
  obtain ⟨k, hk⟩ : ∃ k : Nat, 99999 ≤ k := ⟨_, Nat.le_refl _⟩
  exact ⟨k, exact_l0 l0 hw 30 k 0 (by omega) (by omega)⟩
/-! ### QuorumMatch -/
theorem rev_at (M : List Int) (j : Nat) (hj : j < M.length) (hM : M.length ≤ 1000) : rd M (wrap64 ((wrap64 ((M.length : Int) - 1)) - (j : Int))) = M.reverse[j]'(by simpa using hj) ∧ (0 ≤ (wrap64 ((wrap64 ((M.length : Int) - 1)) - (j : Int)))) ∧ (wrap64 ((wrap64 ((M.length : Int) - 1)) - (j : Int))) < (M.length : Int) := by
  have e : wrap64 ((wrap64 ((M.length : Int) - 1)) - (j : Int)) = ((M.length - 1 - j : Nat) : Int) := by
    rw [wrap64_in ((M.length : Int) - 1) (by omega) (by omega), wrap64_in _ (by omega) (by omega)]
    omega
  rw [e]
  refine ⟨?_, by omega, by omega⟩
  rw [rd_at M _ (by omega), List.getElem_reverse]
theorem match_l1 (l0 : List S76) (i : Nat) (hi : i ≤ 1000) (N : Int) (V M : List Int) (hM : M.length ≤ 7) (h0 : 0 < M.length) (hp : ∀ x ∈ M, 0 ≤ x) (k : Nat) (hk : 1200 ≤ k) (ih : ∀ k', k ≤ k' + 10 → lecternlaw24_QuorumMatch.l0 k' l0 ((i + 1 : Nat) : Int) = some true) (d : Nat) :
    ∀ j, j + d = M.length → lecternlaw24_QuorumMatch.l1 (k + d) l0 (i : Int) (It.mid M) (((M.take j).countP (fun x => decide (It.mid M ≤ x)) : Nat) : Int) (((M.take j).countP (fun x => decide (It.mid M + 1 ≤ x)) : Nat) : Int) (M.reverse.take j) (j : Int) N V M = some true := by
  induction d with
  | zero =>
    intro j hd
    obtain ⟨k, rfl⟩ : ∃ n, k = n + 1 := ⟨k - 1, by omega⟩
    have e1 : M.take j = M := List.take_of_length_le (by omega)
    have e2 : M.reverse.take j = M.reverse := List.take_of_length_le (by simp; omega)
    have hm1 := It.mid_most M h0
    have hm2 := It.mid_above M h0 (It.mid M + 1) (by omega)
    have hc1 : M.countP (fun x => decide (It.mid M ≤ x)) ≤ M.length := List.countP_le_length
    have hid : quorum_idx M.reverse = (It.mid M, 0) := by
      rw [idx_yes _ (by simpa using hM) (by simpa using h0) (fun x hx => hp x (by simpa using hx)), It.mid_perm (List.reverse_perm M)]
    obtain ⟨t, ht1, ht2⟩ := in_is M (It.mid M) (by omega) k (by omega)
    have ht3 := ht2.2 (It.mid_mem M h0)
    have hQ : quorum_Index.f M.reverse = some (It.mid M, 0) := by unfold quorum_Index.f; rw [hid]
    have hn : ∀ x : Int, lecternlaw24_num.f x = some x := fun _ => rfl
    have hi2 := ih k (by omega)
    rw [e1, e2]
    clear e1 e2 hid ih
    generalize It.mid M = m at *
    generalize hc : M.countP (fun x => decide (m ≤ x)) = a at *
    generalize hc2 : M.countP (fun x => decide (m + 1 ≤ x)) = b at *
    have w1 : wrap64 (2 * (a : Int)) = 2 * (a : Int) := wrap64_in _ (by omega) (by omega)
    have w2 : wrap64 (2 * (b : Int)) = 2 * (b : Int) := wrap64_in _ (by omega) (by omega)
    have n0 : ¬ (j : Int) < (M.length : Int) := by omega
    have n1 : ¬ 2 * (a : Int) ≤ (M.length : Int) := by omega
    have n2 : ¬ 2 * (b : Int) > (M.length : Int) := by omega
    have n3 : ¬ t < 0 := by omega
    rw [Nat.add_zero]
    unfold lecternlaw24_QuorumMatch.l1
    rw [if_neg n0, hQ, Option.bind_some, w1, if_neg n1, w2, if_neg n2, ht1, Option.bind_some, if_neg n3, hn, Option.bind_some, if_pos rfl, if_pos rfl, wr1 i (Nat.le_trans hi (by decide))]
    exact hi2
  | succ d ihd =>
    intro j hd
    have hj : j < M.length := by omega
    obtain ⟨r1, r2, r3⟩ := rev_at M j hj (by omega)
    have c1 : (M.take j).countP (fun x => decide (It.mid M ≤ x)) ≤ 7 := by
      have : (M.take j).countP (fun x => decide (It.mid M ≤ x)) ≤ (M.take j).length := List.countP_le_length
      rw [List.length_take] at this; omega
    have c2 : (M.take j).countP (fun x => decide (It.mid M + 1 ≤ x)) ≤ 7 := by
      have : (M.take j).countP (fun x => decide (It.mid M + 1 ≤ x)) ≤ (M.take j).length := List.countP_le_length
      rw [List.length_take] at this; omega
    have ht : M.take (j + 1) = M.take j ++ [M[j]] := List.take_succ_eq_append_getElem hj
    have hr : M.reverse.take (j + 1) = M.reverse.take j ++ [M.reverse[j]'(by simpa using hj)] := List.take_succ_eq_append_getElem (by simpa using hj)
    have hlen : (M.reverse.take j).length < 17592186044416 := by rw [List.length_take, List.length_reverse]; omega
    have n1 := ihd (j + 1) (by omega)
    rw [ht, hr, List.countP_append, List.countP_append, List.countP_singleton, List.countP_singleton] at n1
    rw [show k + (d + 1) = (k + d) + 1 by omega]
    simp only [lecternlaw24_QuorumMatch.l1]
    rw [if_pos (by omega), if_pos (by omega), rd_at M j hj, r1, wr1 j (by omega), wr1 _ (by omega), wr1 _ (by omega)]
    simp only [if_pos r2, if_pos r3, if_pos hlen]
    by_cases h1 : It.mid M ≤ M[j]
    · rw [if_pos h1]
      rw [decide_eq_true h1, if_pos rfl] at n1
      by_cases h2 : M[j] > It.mid M
      · rw [if_pos h2]
        rw [decide_eq_true (show It.mid M + 1 ≤ M[j] by omega), if_pos rfl] at n1
        exact n1
      · rw [if_neg h2]
        rw [decide_eq_false (show ¬ It.mid M + 1 ≤ M[j] by omega), if_neg (by decide), Nat.add_zero] at n1
        exact n1
    · rw [if_neg h1]
      rw [decide_eq_false h1, if_neg (by decide), Nat.add_zero] at n1
      rw [if_neg (show ¬ M[j] > It.mid M by omega)]
      rw [decide_eq_false (show ¬ It.mid M + 1 ≤ M[j] by omega), if_neg (by decide), Nat.add_zero] at n1
      exact n1
theorem mj1_is (l0 : List S76) (hw : ∀ p ∈ l0, p.f1.length ≤ 17592186044416 ∧ p.f2.length ≤ 17592186044416) (i : Nat) (hi : i < l0.length) (hi2 : i ≤ 1000) (k : Nat) (hk : 2600 ≤ k) (ih : ∀ k', k ≤ k' + 1300 → lecternlaw24_QuorumMatch.l0 k' l0 ((i + 1 : Nat) : Int) = some true) : lecternlaw24_QuorumMatch.j1 k l0 (i : Int) true = some true := by
  obtain ⟨k, rfl⟩ : ∃ n, k = n + 1 := ⟨k - 1, by omega⟩
  have hp : rd_T76 l0 (i : Int) ∈ l0 := by
    unfold rd_T76
    rw [Int.toNat_natCast, List.getD_eq_getElem?_getD, List.getElem?_eq_getElem hi]
    exact List.getElem_mem hi
  obtain ⟨hV, hM⟩ := hw _ hp
  have hn : ∀ x : Int, lecternlaw24_num.f x = some x := fun _ => rfl
  simp only [lecternlaw24_QuorumMatch.j1, if_true]
  rw [if_pos (by omega), if_pos (by omega)]
  revert hV hM
  clear hp hw
  generalize (rd_T76 l0 (i : Int)).f0 = N
  generalize (rd_T76 l0 (i : Int)).f1 = V
  generalize (rd_T76 l0 (i : Int)).f2 = M
  intro hV hM
  by_cases hh : (V.length : Int) + (M.length : Int) > 500
  · rw [heavy_is N V M hV hM true (by rw [decide_eq_true hh]), Option.bind_some, if_pos rfl]
  · rw [heavy_is N V M hV hM false (by rw [decide_eq_false hh]), Option.bind_some, if_neg (by decide)]
    by_cases hf : 0 < M.length ∧ M.length ≤ 7 ∧ ∀ x ∈ M, 0 ≤ x
    · obtain ⟨h0, h7, hp⟩ := hf
      have hQ : quorum_Index.f M = some (It.mid M, 0) := by unfold quorum_Index.f; rw [idx_yes M h7 h0 hp]
      have h1 := match_l1 l0 i hi2 N V M h7 h0 hp (k - M.length) (by omega) (fun k' hk' => ih k' (by omega)) M.length 0 (by omega)
      rw [show k - M.length + M.length = k by omega] at h1
      rw [hQ, Option.bind_some, hn, Option.bind_some, if_pos rfl]
      exact h1
    · have hQ : quorum_Index.f M = some (0, 1) := by unfold quorum_Index.f; rw [idx_no M hf]
      rw [hQ, Option.bind_some, hn, Option.bind_some, if_neg (by decide), wr1 i (by omega)]
      exact ih k (by omega)
theorem match_l0 (l0 : List S76) (hw : ∀ p ∈ l0, p.f1.length ≤ 17592186044416 ∧ p.f2.length ≤ 17592186044416) (d : Nat) : ∀ (k i : Nat), i + d = 30 → (d + 1) * 3000 < k → lecternlaw24_QuorumMatch.l0 k l0 (i : Int) = some true := by
  induction d with
  | zero =>
    intro k i hd hk
    obtain ⟨k, rfl⟩ : ∃ n, k = n + 2 := ⟨k - 2, by omega⟩
    have last : lecternlaw24_QuorumMatch.j1 (k + 1) l0 (i : Int) false = some true := by
      simp only [lecternlaw24_QuorumMatch.j1]
      rw [if_neg (by decide), wakes_is k (by omega)]
      rfl
    simp only [lecternlaw24_QuorumMatch.l0]
    rw [decide_eq_false (show ¬ (i : Int) < 30 by omega)]
    split <;> exact last
  | succ d ih =>
    intro k i hd hk
    obtain ⟨k, rfl⟩ : ∃ n, k = n + 2 := ⟨k - 2, by omega⟩
    have last : lecternlaw24_QuorumMatch.j1 (k + 1) l0 (i : Int) false = some true := by
      simp only [lecternlaw24_QuorumMatch.j1]
      rw [if_neg (by decide), wakes_is k (by omega)]
      rfl
    simp only [lecternlaw24_QuorumMatch.l0]
    by_cases h1 : i < l0.length
    · rw [if_pos (by omega), decide_eq_true (show (i : Int) < 30 by omega)]
      exact mj1_is l0 hw i h1 (by omega) (k + 1) (by omega) (fun k' hk' => ih k' (i + 1) (by omega) (fuel_less d k k' hk hk'))
    · rw [if_neg (by omega)]
      exact last
theorem match_true (l0 : List S76) (hw : ∀ p ∈ l0, p.f1.length ≤ 17592186044416 ∧ p.f2.length ≤ 17592186044416) : ∃ k, lecternlaw24_QuorumMatch.f k l0 = some true := by
  obtain ⟨k, hk⟩ : ∃ k : Nat, 99999 ≤ k := ⟨_, Nat.le_refl _⟩
  exact ⟨k, match_l0 l0 hw 30 k 0 (by omega) (by omega)⟩
end Go.Proofs.Ytcacckaonjnmjaa.Q
