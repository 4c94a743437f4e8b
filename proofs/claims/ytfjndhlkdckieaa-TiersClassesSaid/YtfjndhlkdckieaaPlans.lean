/- Class and Plan answer as the reference does; copies and comparisons of numbers; a law's weight is told for every input. Plain Lean over the printed functions. -/
import Derived.Test.YtfjndhlkdckieaaSize
import Derived.Test.YtfjndhlkdckieaaQx1
import Derived.Test.YtfjndhlkdckieaaQx2
import Derived.Test.YtfjndhlkdckieaaQx8
import Derived.Test.YtfjndhlkdckieaaQx9
import Derived.Test.YtfjndhlkdckieaaQx10
import Derived.Test.YtfjndhlkdckieaaQx11
import Derived.Test.YtfjndhlkdckieaaQx12
import Derived.Test.YtfjndhlkdckieaaQx13
namespace Go.Proofs.Ytfjndhlkdckieaa.Q
open Go.RowKit Go.Proofs.YtfjndhlkdckieaaW.PrintWords Go.Proofs.YtfjndhlkdckieaaW.PrintLast Go.Proofs.YtfjndhlkdckieaaW.PrintMore Go.Proofs.Ytfjndhlkdckieaa.Opening Go.Proofs.Ytfjndhlkdckieaa.Base
set_option linter.unusedVariables false
set_option linter.unusedSimpArgs false

def Ints (l : List Int) : Prop := ∀ x ∈ l, x ≤ 9223372036854775807
theorem rd_mem {l : List Int} {i : Int} (h0 : 0 ≤ i) (h1 : i < l.length) : rd l i ∈ l := by
  unfold rd
  rw [List.getD_eq_getElem?_getD, List.getElem?_eq_getElem (by omega)]
  exact List.getElem_mem _
def same4 (l : List Int) (i : Int) : Bool := decide (cl (rd l (i + 1)) = cl (rd l i)) && decide (cl (rd l (i + 2)) = cl (rd l i)) && decide (cl (rd l (i + 3)) = cl (rd l i))
theorem alike4 (k : Nat) (hk : 6 ≤ k) (a b c d : Int) (ha : a ≤ 9223372036854775807) (hb : b ≤ 9223372036854775807) (hc : c ≤ 9223372036854775807) (hd : d ≤ 9223372036854775807) :
    tiers_alike.f k [a, b, c, d] = some (decide (cl b = cl a) && decide (cl c = cl a) && decide (cl d = cl a)) := by
  obtain ⟨k, rfl⟩ : ∃ m, k = m + 6 := ⟨k - 6, by omega⟩
  have e0 : rd [a, b, c, d] 0 = a := rfl
  have e1 : rd [a, b, c, d] 1 = b := rfl
  have e2 : rd [a, b, c, d] 2 = c := rfl
  have e3 : rd [a, b, c, d] 3 = d := rfl
  have w0 : wrap64 (0 + 1) = 1 := wrap64_in _ (by omega) (by omega)
  have w1 : wrap64 (1 + 1) = 2 := wrap64_in _ (by omega) (by omega)
  have w2 : wrap64 (2 + 1) = 3 := wrap64_in _ (by omega) (by omega)
  have w3 : wrap64 (3 + 1) = 4 := wrap64_in _ (by omega) (by omega)
  have hl : (([a, b, c, d] : List Int).length : Int) = 4 := rfl
  have ca := fun k => class_is k a ha
  have cb := fun k => class_is k b hb
  have cc := fun k => class_is k c hc
  have cd := fun k => class_is k d hd
  unfold tiers_alike.f
  rw [hl]
  simp only [tiers_alike.l0, hl, e0, w0]
  rw [if_pos (by omega), if_pos (by omega), if_pos (by omega), ca]
  simp only [Option.bind_some]
  rw [if_pos (by omega)]
  simp only [if_true, e1, w1]
  rw [if_pos (by omega), if_pos (by omega), if_pos (by omega), cb]
  simp only [Option.bind_some, ca]
  rw [if_pos (by omega)]
  by_cases h1 : cl b = cl a
  · rw [if_pos h1]
    simp only [e2, w2]
    rw [if_pos (by omega), if_pos (by omega), if_pos (by omega), cc]
    simp only [Option.bind_some, ca]
    rw [if_pos (by omega)]
    by_cases h2 : cl c = cl a
    · rw [if_pos h2]
      simp only [e3, w3]
      rw [if_pos (by omega), if_pos (by omega), if_pos (by omega), cd]
      simp only [Option.bind_some, ca]
      rw [if_pos (by omega)]
      by_cases h3 : cl d = cl a
      · rw [if_pos h3, if_neg (by omega)]
        simp [h1, h2, h3]
      · rw [if_neg h3]
        simp [h3]
    · rw [if_neg h2]
      simp [h2]
  · rw [if_neg h1]
    simp [h1]
theorem window (l : List Int) (i : Int) (h0 : 0 ≤ i) (h1 : i + 4 ≤ l.length) : (l.take (i + 4).toNat).drop i.toNat = [rd l i, rd l (i + 1), rd l (i + 2), rd l (i + 3)] := by
  obtain ⟨n, rfl⟩ := Int.eq_ofNat_of_zero_le h0
  have hn : n + 4 ≤ l.length := by omega
  have e : ((n : Int) + 4).toNat = n + 4 := by omega
  rw [e, Int.toNat_natCast]
  have r : ∀ j : Nat, rd l ((n : Int) + (j : Int)) = l.getD (n + j) 0 := fun j => by unfold rd; rw [show ((n : Int) + (j : Int)).toNat = n + j by omega]
  have r0 : rd l (n : Int) = l.getD n 0 := r 0
  have r1 : rd l ((n : Int) + 1) = l.getD (n + 1) 0 := r 1
  have r2 : rd l ((n : Int) + 2) = l.getD (n + 2) 0 := r 2
  have r3 : rd l ((n : Int) + 3) = l.getD (n + 3) 0 := r 3
  rw [r0, r1, r2, r3]
  apply List.ext_getElem
  · simp; omega
  · intro j h2 h3
    simp at h3
    have hj : j < 4 := by omega
    simp only [List.getElem_drop, List.getElem_take]
    match j, hj with
    | 0, _ => simp [List.getD_eq_getElem?_getD, List.getElem?_eq_getElem (show n < l.length by omega)]
    | 1, _ => simp [List.getD_eq_getElem?_getD, List.getElem?_eq_getElem (show n + 1 < l.length by omega)]
    | 2, _ => simp [List.getD_eq_getElem?_getD, List.getElem?_eq_getElem (show n + 2 < l.length by omega)]
    | 3, _ => simp [List.getD_eq_getElem?_getD, List.getElem?_eq_getElem (show n + 3 < l.length by omega)]
def pl (l : List Int) : Nat → Int → Int × Bool
  | 0, _ => (0, false)
  | d + 1, i => if same4 l i = true then (i, true) else pl l d (i + 1)
theorem plan_loop (l : List Int) (hl : l.length ≤ 17592186044416) (hi : Ints l) : ∀ (d k : Nat) (i : Int), 0 ≤ i → i ≤ l.length → ((l.length : Int) - 3 - i).toNat = d → d + 10 ≤ k → tiers_Plan.l0 k l i = some (pl l d i) := by
  intro d
  induction d with
  | zero =>
    intro k i h0 h1 hd hk
    obtain ⟨k, rfl⟩ : ∃ m, k = m + 1 := ⟨k - 1, by omega⟩
    simp only [tiers_Plan.l0]
    rw [wrap64_in _ (by omega) (by omega), if_neg (by omega)]
    rfl
  | succ d ih =>
    intro k i h0 h1 hd hk
    obtain ⟨k, rfl⟩ : ∃ m, k = m + 1 := ⟨k - 1, by omega⟩
    simp only [tiers_Plan.l0]
    rw [wrap64_in (i + 4) (by omega) (by omega), if_pos (by omega), if_pos h0, if_pos (by omega), window l i h0 (by omega)]
    rw [alike4 k (by omega) _ _ _ _ (hi _ (rd_mem h0 (by omega))) (hi _ (rd_mem (by omega) (by omega))) (hi _ (rd_mem (by omega) (by omega))) (hi _ (rd_mem (by omega) (by omega)))]
    simp only [Option.bind_some, pl]
    have es : (decide (cl (rd l (i + 1)) = cl (rd l i)) && decide (cl (rd l (i + 2)) = cl (rd l i)) && decide (cl (rd l (i + 3)) = cl (rd l i))) = same4 l i := rfl
    rw [es]
    by_cases h : same4 l i = true
    · rw [if_pos h, if_pos h]
    · rw [if_neg h, if_neg h, wrap64_in (i + 1) (by omega) (by omega)]
      exact ih k (i + 1) (by omega) (by omega) (by omega) (by omega)
theorem ref_plan_loop (l : List Int) (hl : l.length ≤ 17592186044416) (hi : Ints l) : ∀ (d k : Nat) (i : Int), 0 ≤ i → i ≤ l.length → ((l.length : Int) - 3 - i).toNat = d → 5 * d + 80 ≤ k → lecternref12_Plan.l0 k l i = some (pl l d i) := by
  intro d
  induction d with
  | zero =>
    intro k i h0 h1 hd hk
    obtain ⟨k, rfl⟩ : ∃ m, k = m + 1 := ⟨k - 1, by omega⟩
    simp only [lecternref12_Plan.l0]
    rw [wrap64_in _ (by omega) (by omega), if_neg (by omega)]
    rfl
  | succ d ih =>
    intro k i h0 h1 hd hk
    obtain ⟨k, rfl⟩ : ∃ m, k = m + 1 + 1 + 1 + 1 + 1 := ⟨k - 5, by omega⟩
    have c0 := fun (k : Nat) (hk : 64 < k) => ref_class_is k hk (rd l i) (hi _ (rd_mem h0 (by omega)))
    have c1 := fun (k : Nat) (hk : 64 < k) => ref_class_is k hk (rd l (i + 1)) (hi _ (rd_mem (by omega) (by omega)))
    have c2 := fun (k : Nat) (hk : 64 < k) => ref_class_is k hk (rd l (i + 2)) (hi _ (rd_mem (by omega) (by omega)))
    have c3 := fun (k : Nat) (hk : 64 < k) => ref_class_is k hk (rd l (i + 3)) (hi _ (rd_mem (by omega) (by omega)))
    have w1 : wrap64 (i + 1) = i + 1 := wrap64_in _ (by omega) (by omega)
    have w2 : wrap64 (i + 2) = i + 2 := wrap64_in _ (by omega) (by omega)
    have w3 : wrap64 (i + 3) = i + 3 := wrap64_in _ (by omega) (by omega)
    have v1 : wrap64 (1 + 1) = 2 := wrap64_in _ (by omega) (by omega)
    have v2 : wrap64 (2 + 1) = 3 := wrap64_in _ (by omega) (by omega)
    have v3 : wrap64 (3 + 1) = 4 := wrap64_in _ (by omega) (by omega)
    have next : lecternref12_Plan.l0 (k + 0) l (i + 1) = some (pl l d (i + 1)) := ih (k + 0) (i + 1) (by omega) (by omega) (by omega) (by omega)
    simp only [lecternref12_Plan.l0]
    rw [wrap64_in (i + 4) (by omega) (by omega), if_pos (by omega)]
    simp only [lecternref12_Plan.l1, w1, w2, w3, v1, v2, v3]
    rw [if_pos (by omega), if_pos trivial, if_pos (by omega), if_pos (by omega), c1 _ (by omega)]
    simp only [Option.bind_some]
    rw [if_pos (by omega), if_pos (by omega), c0 _ (by omega)]
    simp only [Option.bind_some, pl, same4]
    by_cases h1 : cl (rd l (i + 1)) = cl (rd l i)
    · have b1 : (cl (rd l (i + 1)) == cl (rd l i)) = true := beq_iff_eq.2 h1
      rw [if_pos (by omega), b1, if_pos rfl, if_pos (by omega), if_pos (by omega), c2 _ (by omega)]
      simp only [Option.bind_some]
      rw [if_pos (by omega), if_pos (by omega), c0 _ (by omega)]
      simp only [Option.bind_some]
      by_cases h2 : cl (rd l (i + 2)) = cl (rd l i)
      · have b2 : (cl (rd l (i + 2)) == cl (rd l i)) = true := beq_iff_eq.2 h2
        rw [if_pos (by omega), b2, if_pos rfl, if_pos (by omega), if_pos (by omega), c3 _ (by omega)]
        simp only [Option.bind_some]
        rw [if_pos (by omega), if_pos (by omega), c0 _ (by omega)]
        simp only [Option.bind_some]
        rw [if_neg (by omega)]
        by_cases h3 : cl (rd l (i + 3)) = cl (rd l i)
        · have b3 : (cl (rd l (i + 3)) == cl (rd l i)) = true := beq_iff_eq.2 h3
          rw [b3, if_pos rfl]
          simp [h1, h2, h3]
        · have b3 : (cl (rd l (i + 3)) == cl (rd l i)) = false := beq_eq_false_iff_ne.2 h3
          rw [b3, if_neg (by simp)]
          simp only [h3, decide_false, Bool.and_false]
          rw [if_neg (by simp)]
          exact next
      · have b2 : (cl (rd l (i + 2)) == cl (rd l i)) = false := beq_eq_false_iff_ne.2 h2
        rw [if_pos (by omega), b2, if_neg (by simp), if_neg (by omega), if_neg (by simp)]
        simp only [h2, decide_false, Bool.and_false, Bool.false_and]
        rw [if_neg (by simp)]
        exact next
    · have b1 : (cl (rd l (i + 1)) == cl (rd l i)) = false := beq_eq_false_iff_ne.2 h1
      rw [if_pos (by omega), b1, if_neg (by simp), if_pos (by omega), if_neg (by simp), if_neg (by omega), if_neg (by simp)]
      simp only [h1, decide_false, Bool.false_and]
      rw [if_neg (by simp)]
      exact next
theorem plan_same (l : List Int) (hl : l.length ≤ 17592186044416) (hi : Ints l) (k : Nat) (hk : 5 * l.length + 100 ≤ k) : ∃ r, tiers_Plan.f k l = some r ∧ lecternref12_Plan.f k l = some r := by
  unfold tiers_Plan.f lecternref12_Plan.f
  exact ⟨_, plan_loop l hl hi _ k 0 (by omega) (by omega) rfl (by omega), ref_plan_loop l hl hi _ k 0 (by omega) (by omega) rfl (by omega)⟩
theorem eq_loop (l : List Int) (hl : l.length ≤ 17592186044416) : ∀ (d k : Nat) (i : Int), 0 ≤ i → i ≤ l.length → (l.length : Int) - i = d → d < k → lecternref0_EqNumbers.l0 k l l i = some true := by
  intro d
  induction d with
  | zero =>
    intro k i h0 h1 hd hk
    obtain ⟨k, rfl⟩ : ∃ m, k = m + 1 := ⟨k - 1, by omega⟩
    simp only [lecternref0_EqNumbers.l0]
    rw [if_neg (by omega)]
  | succ d ih =>
    intro k i h0 h1 hd hk
    obtain ⟨k, rfl⟩ : ∃ m, k = m + 1 := ⟨k - 1, by omega⟩
    simp only [lecternref0_EqNumbers.l0]
    rw [if_pos (by omega), if_pos h0, if_pos (by omega), if_pos trivial, wrap64_in _ (by omega) (by omega)]
    exact ih k (i + 1) (by omega) (by omega) (by omega) (by omega)
theorem eq_same (l : List Int) (hl : l.length ≤ 17592186044416) (k : Nat) (hk : l.length < k) : lecternref0_EqNumbers.f k l l = some true := by
  unfold lecternref0_EqNumbers.f
  rw [if_pos rfl]
  exact eq_loop l hl l.length k 0 (by omega) (by omega) (by omega) hk
theorem copy_loop (l : List Int) (hl : l.length ≤ 17592186044416) : ∀ (d k : Nat) (i : Nat), i ≤ l.length → l.length - i = d → d < k → lecternref0_CopyNumbers.l0 k l (l.take i) (i : Int) = some l := by
  intro d
  induction d with
  | zero =>
    intro k i h1 hd hk
    obtain ⟨k, rfl⟩ : ∃ m, k = m + 1 := ⟨k - 1, by omega⟩
    simp only [lecternref0_CopyNumbers.l0]
    rw [if_neg (by omega), List.take_of_length_le (by omega)]
  | succ d ih =>
    intro k i h1 hd hk
    obtain ⟨k, rfl⟩ : ∃ m, k = m + 1 := ⟨k - 1, by omega⟩
    simp only [lecternref0_CopyNumbers.l0]
    have hlt : i < l.length := by omega
    rw [if_pos (by omega), if_pos (by omega), if_pos (by rw [List.length_take]; omega), wrap64_in _ (by omega) (by omega)]
    have e : l.take i ++ [rd l (i : Int)] = l.take (i + 1) := by
      rw [List.take_succ_eq_append_getElem hlt]
      unfold rd
      rw [Int.toNat_natCast, List.getD_eq_getElem?_getD, List.getElem?_eq_getElem hlt]
      rfl
    rw [e]
    exact ih k (i + 1) (by omega) (by omega) (by omega)
theorem copy_is (l : List Int) (hl : l.length ≤ 17592186044416) (k : Nat) (hk : l.length < k) : lecternref0_CopyNumbers.f k l = some l := by
  have := copy_loop l hl l.length k 0 (by omega) (by omega) hk
  simpa [lecternref0_CopyNumbers.f] using this
theorem wakes_true (k : Nat) (hk : 200 ≤ k) : lecternlaw12_wakes.f k = some true := by
  have h : lecternlaw12_wakes.f 200 = some true := by decide +kernel
  obtain ⟨j, rfl⟩ : ∃ j, k = 200 + j := ⟨k - 200, by omega⟩
  have hm : ∀ k, LeO (lecternlaw12_wakes.f k) (lecternlaw12_wakes.f (k + 1)) := fun k => lecternlaw12_wakes.mono k
  exact more_rounds hm 200 j _ h
def Doc (d : S137) : Prop := d.f0.size ≤ 140737488351232 ∧ d.f1.size ≤ 140737488351232
def Docs (l : List S137) : Prop := l.length * 32 ≤ 140737488351232 ∧ ∀ d ∈ l, Doc d
theorem rd_doc {l : List S137} (h : ∀ d ∈ l, Doc d) {i : Int} (h0 : 0 ≤ i) (h1 : i < l.length) : Doc (rd_T137 l i) := by
  unfold rd_T137
  rw [List.getD_eq_getElem?_getD, List.getElem?_eq_getElem (by omega)]
  exact h _ (List.getElem_mem _)
theorem weight_loop (l : List S137) (hl : Docs l) : ∀ (d k : Nat) (n i : Int), 0 ≤ i → i ≤ l.length → (l.length : Int) - i = d → d < k → 0 ≤ n → n ≤ 1125899906842624 → ∃ r, lecternlaw0_DocWeight.l0 k l n i = some r ∧ 0 ≤ r ∧ r ≤ 1125899906842624 := by
  intro d
  induction d with
  | zero =>
    intro k n i h0 h1 hd hk hn0 hn1
    obtain ⟨k, rfl⟩ : ∃ m, k = m + 1 := ⟨k - 1, by omega⟩
    simp only [lecternlaw0_DocWeight.l0]
    rw [if_neg (by omega)]
    exact ⟨_, rfl, hn0, hn1⟩
  | succ d ih =>
    intro k n i h0 h1 hd hk hn0 hn1
    obtain ⟨k, rfl⟩ : ∃ m, k = m + 1 := ⟨k - 1, by omega⟩
    simp only [lecternlaw0_DocWeight.l0]
    have hl2 := hl.1
    rw [if_pos (by omega)]
    by_cases h : n < 1048576
    · have hd2 := rd_doc hl.2 h0 (show i < l.length by omega)
      obtain ⟨q1, q2⟩ := hd2
      rw [if_pos h, if_pos h0, wrap64_in (n + _) (by omega) (by omega), wrap64_in _ (by omega) (by omega), wrap64_in (i + 1) (by omega) (by omega)]
      exact ih k _ (i + 1) (by omega) (by omega) (by omega) (by omega) (by omega) (by omega)
    · rw [if_neg h]
      exact ⟨_, rfl, hn0, hn1⟩
theorem weight_some (l : List S137) (hl : Docs l) (k : Nat) (hk : l.length < k) : ∃ r, lecternlaw0_DocWeight.f k l = some r ∧ 0 ≤ r ∧ r ≤ 1125899906842624 := by
  have := hl.1
  exact weight_loop l hl l.length k _ 0 (by omega) (by omega) (by omega) hk (by omega) (by omega)
theorem heavy_loop (L : List (List S137)) (Is : List Int) (hL : ∀ l ∈ L, Docs l) (hLl : L.length ≤ 140737488351232) : ∀ (d k : Nat) (n i : Int), 0 ≤ i → i ≤ L.length → (L.length : Int) - i = d → d + 140737488351233 ≤ k → 0 ≤ n → n ≤ 2251799813685248 → ∃ r, lecternlaw12_heavy.l0 k n i L Is = some r := by
  intro d
  induction d with
  | zero =>
    intro k n i h0 h1 hd hk hn0 hn1
    obtain ⟨k, rfl⟩ : ∃ m, k = m + 1 := ⟨k - 1, by omega⟩
    simp only [lecternlaw12_heavy.l0]
    rw [if_neg (by omega)]
    split <;> exact ⟨_, rfl⟩
  | succ d ih =>
    intro k n i h0 h1 hd hk hn0 hn1
    obtain ⟨k, rfl⟩ : ∃ m, k = m + 1 := ⟨k - 1, by omega⟩
    simp only [lecternlaw12_heavy.l0]
    rw [if_pos (by omega)]
    by_cases h : n < 10000
    · have hm : Docs (rd_L2 L i) := by
        unfold rd_L2
        rw [List.getD_eq_getElem?_getD, List.getElem?_eq_getElem (by omega)]
        exact hL _ (List.getElem_mem _)
      have hm1 := hm.1
      obtain ⟨r, hr, hr0, hr1⟩ := weight_some _ hm k (by omega)
      rw [if_pos h, if_pos h0, hr]
      simp only [Option.bind_some]
      rw [wrap64_in _ (by omega) (by omega), wrap64_in _ (by omega) (by omega)]
      exact ih k _ (i + 1) (by omega) (by omega) (by omega) (by omega) (by omega) (by omega)
    · rw [if_neg h]
      split <;> exact ⟨_, rfl⟩
theorem heavy_some (L : List (List S137)) (Is : List Int) (hL : ∀ l ∈ L, Docs l) (hLl : L.length ≤ 140737488351232) (hI : Is.length ≤ 140737488351232) (k : Nat) (hk : 281474976710656 ≤ k) : ∃ r, lecternlaw12_heavy.f k L Is = some r := by
  unfold lecternlaw12_heavy.f
  exact heavy_loop L Is hL hLl L.length k _ 0 (by omega) (by omega) (by omega) (by omega) (by omega) (by omega)
end Go.Proofs.Ytfjndhlkdckieaa.Q
