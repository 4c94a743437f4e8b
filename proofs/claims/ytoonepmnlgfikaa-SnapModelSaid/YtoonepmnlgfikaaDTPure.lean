/- DiskTorn: the plain part. What is not heavy is small; what a crash leaves of one file. -/
import Derived.Test.YtoonepmnlgfikaaDCrash
import Derived.Test.YtoonepmnlgfikaaDx1
namespace Go.Proofs.Ytoonepmnlgfikaa.D
open Go.RowKit Go.Proofs.YtoonepmnlgfikaaW.PrintWords Go.Proofs.YtoonepmnlgfikaaW.PrintLast Go.Proofs.YtoonepmnlgfikaaW.PrintMore Go.Proofs.Ytoonepmnlgfikaa.Base Go.Maps Go.Sort Go.Shelf
set_option linter.unusedVariables false
set_option linter.unusedSimpArgs false
theorem heavy_l1 (l0 : List S40) (l1 : List S30) : ∀ (d k : Nat) (i x : Int), 0 ≤ i → i + d = 40 → d < k → ∃ b, lecternlaw18_heavy.l1 k x i l0 l1 = some b
  | 0, k, i, x, h0, hd, hk => by
    obtain ⟨k, rfl⟩ : ∃ n, k = n + 1 := ⟨k - 1, by omega⟩
    unfold lecternlaw18_heavy.l1
    rw [if_neg (show ¬ i < 40 by omega)]
    repeat' split
    all_goals exact ⟨_, rfl⟩
  | d + 1, k, i, x, h0, hd, hk => by
    obtain ⟨k, rfl⟩ : ∃ n, k = n + 1 := ⟨k - 1, by omega⟩
    have hw : wrap64 (i + 1) = i + 1 := wrap64_in _ (by omega) (by omega)
    unfold lecternlaw18_heavy.l1
    rw [hw]
    by_cases h1 : i < (l1.length : Int)
    · rw [if_pos h1, if_pos (by omega), if_pos h0]
      exact heavy_l1 l0 l1 d k _ _ (by omega) (by omega) (by omega)
    · rw [if_neg h1]
      repeat' split
      all_goals exact ⟨_, rfl⟩
theorem heavy_l0 (l0 : List S40) (l1 : List S30) : ∀ (d k : Nat) (i x : Int), 0 ≤ i → i + d = 40 → d + 42 < k → ∃ b, lecternlaw18_heavy.l0 k x i l0 l1 = some b
  | 0, k, i, x, h0, hd, hk => by
    obtain ⟨k, rfl⟩ : ∃ n, k = n + 2 := ⟨k - 2, by omega⟩
    have h1 := heavy_l1 l0 l1 40 k 0 x (by omega) (by omega) (by omega)
    unfold lecternlaw18_heavy.l0
    rw [if_neg (show ¬ i < 40 by omega)]
    have h2 : lecternlaw18_heavy.j1 (k + 1) x l0 l1 = lecternlaw18_heavy.l1 k x 0 l0 l1 := by simp only [lecternlaw18_heavy.j1]
    rw [h2]
    split <;> exact h1
  | d + 1, k, i, x, h0, hd, hk => by
    obtain ⟨k, rfl⟩ : ∃ n, k = n + 2 := ⟨k - 2, by omega⟩
    have hw : wrap64 (i + 1) = i + 1 := wrap64_in _ (by omega) (by omega)
    have h1 := heavy_l1 l0 l1 40 k 0 x (by omega) (by omega) (by omega)
    have h2 : lecternlaw18_heavy.j1 (k + 1) x l0 l1 = lecternlaw18_heavy.l1 k x 0 l0 l1 := by simp only [lecternlaw18_heavy.j1]
    unfold lecternlaw18_heavy.l0
    rw [hw, h2]
    by_cases h3 : i < (l0.length : Int)
    · rw [if_pos h3, if_pos (show i < 40 by omega), if_pos h0]
      exact heavy_l0 l0 l1 d (k + 1) (i + 1) _ (by omega) (by omega) (by omega)
    · rw [if_neg h3]
      exact h1
theorem heavy_some (l0 : List S40) (l1 : List S30) : ∃ b, lecternlaw18_heavy.f 100 l0 l1 = some b := heavy_l0 l0 l1 40 100 0 0 (by omega) (by omega) (by omega)
theorem getD_mem {α : Type} {l : List α} {i : Nat} {z : α} (h : i < l.length) : l.getD i z ∈ l := by
  rw [List.getD_eq_getElem?_getD, List.getElem?_eq_getElem h]
  exact List.getElem_mem h
/-- What is not heavy is small. -/
theorem light_l1 (l0 : List S40) (l1 : List S30) (hs : ∀ x ∈ l1, x.f4.length ≤ 140737488351232 ∧ x.f5.length ≤ 140737488351232) : ∀ (k : Nat) (i : Nat) (x : Int), i ≤ 40 → 0 ≤ x → x ≤ (40 + (i : Int)) * 281474976710656 → lecternlaw18_heavy.l1 k x i l0 l1 = some false →
    x ≤ 10000 ∧ ∀ j, i ≤ j → j < 40 → j < l1.length → (rd_T30 l1 (j : Int)).f4.length ≤ 10000 ∧ (rd_T30 l1 (j : Int)).f5.length ≤ 10000 := by
  intro k
  induction k with
  | zero => intro i x _ _ _ h; simp [lecternlaw18_heavy.l1] at h
  | succ k ihk =>
    intro i x hi h0 hx h
    have hw : wrap64 ((i : Int) + 1) = ((i + 1 : Nat) : Int) := by rw [wrap64_in _ (by omega) (by omega)]; omega
    unfold lecternlaw18_heavy.l1 at h
    have hend : (if x > 10000 then some true else some (decide ((l0.length : Int) > 40))) = some false → x ≤ 10000 := by
      intro h
      by_cases hc : x > 10000
      · rw [if_pos hc] at h; cases h
      · omega
    by_cases h1 : (i : Int) < (l1.length : Int)
    · rw [if_pos h1] at h
      by_cases h2 : (i : Int) < 40
      · rw [if_pos h2, if_pos (by omega), hw] at h
        have hm : rd_T30 l1 (i : Int) ∈ l1 := by
          unfold rd_T30
          rw [Int.toNat_natCast]
          exact getD_mem (by omega)
        have hz := hs _ hm
        have w1 : wrap64 (x + ((rd_T30 l1 (i : Int)).f4.length : Int)) = x + ((rd_T30 l1 (i : Int)).f4.length : Int) := wrap64_in _ (by omega) (by omega)
        have w2 : wrap64 (x + ((rd_T30 l1 (i : Int)).f4.length : Int) + ((rd_T30 l1 (i : Int)).f5.length : Int)) = x + ((rd_T30 l1 (i : Int)).f4.length : Int) + ((rd_T30 l1 (i : Int)).f5.length : Int) := wrap64_in _ (by omega) (by omega)
        rw [w1, w2] at h
        have ih := ihk (i + 1) _ (by omega) (by omega) (by push_cast; omega) h
        refine ⟨by omega, fun j h3 h4 h5 => ?_⟩
        rcases Nat.lt_or_ge i j with h6 | h6
        · exact ih.2 j (by omega) h4 h5
        · have : j = i := by omega
          subst this
          exact ⟨by omega, by omega⟩
      · rw [if_neg h2] at h
        exact ⟨hend h, fun j h3 h4 h5 => by omega⟩
    · rw [if_neg h1] at h
      exact ⟨hend h, fun j h3 h4 h5 => by omega⟩
theorem light_l0 (l0 : List S40) (l1 : List S30) (hs0 : ∀ x ∈ l0, x.f1.length ≤ 140737488351232) (hs : ∀ x ∈ l1, x.f4.length ≤ 140737488351232 ∧ x.f5.length ≤ 140737488351232) : ∀ (k : Nat) (i : Nat) (x : Int), i ≤ 40 → 0 ≤ x → x ≤ (i : Int) * 281474976710656 → lecternlaw18_heavy.l0 k x i l0 l1 = some false →
    ∀ j, j < 40 → j < l1.length → (rd_T30 l1 (j : Int)).f4.length ≤ 10000 ∧ (rd_T30 l1 (j : Int)).f5.length ≤ 10000 := by
  intro k
  induction k with
  | zero => intro i x _ _ _ h; simp [lecternlaw18_heavy.l0] at h
  | succ k ihk =>
    intro i x hi h0 hx h
    have hw : wrap64 ((i : Int) + 1) = ((i + 1 : Nat) : Int) := by rw [wrap64_in _ (by omega) (by omega)]; omega
    have hend : lecternlaw18_heavy.j1 k x l0 l1 = some false → ∀ j, j < 40 → j < l1.length → (rd_T30 l1 (j : Int)).f4.length ≤ 10000 ∧ (rd_T30 l1 (j : Int)).f5.length ≤ 10000 := by
      intro h
      cases k with
      | zero => simp [lecternlaw18_heavy.j1] at h
      | succ k =>
        simp only [lecternlaw18_heavy.j1] at h
        intro j h1 h2
        exact (light_l1 l0 l1 hs k 0 x (by omega) h0 (by omega) h).2 j (by omega) h1 h2
    unfold lecternlaw18_heavy.l0 at h
    by_cases h1 : (i : Int) < (l0.length : Int)
    · rw [if_pos h1] at h
      by_cases h2 : (i : Int) < 40
      · rw [if_pos h2, if_pos (by omega), hw] at h
        have hm : rd_T40 l0 (i : Int) ∈ l0 := by
          unfold rd_T40
          rw [Int.toNat_natCast]
          exact getD_mem (by omega)
        have hz := hs0 _ hm
        have w1 : wrap64 (x + ((rd_T40 l0 (i : Int)).f1.length : Int)) = x + ((rd_T40 l0 (i : Int)).f1.length : Int) := wrap64_in _ (by omega) (by omega)
        rw [w1] at h
        exact ihk (i + 1) _ (by omega) (by omega) (by push_cast; omega) h
      · rw [if_neg h2] at h
        exact hend h
    · rw [if_neg h1] at h
      exact hend h
theorem light (l0 : List S40) (l1 : List S30) (hs0 : ∀ x ∈ l0, x.f1.length ≤ 140737488351232) (hs : ∀ x ∈ l1, x.f4.length ≤ 140737488351232 ∧ x.f5.length ≤ 140737488351232) (h : lecternlaw18_heavy.f 100 l0 l1 = some false) :
    ∀ j, j < 40 → j < l1.length → (rd_T30 l1 (j : Int)).f4.length ≤ 10000 ∧ (rd_T30 l1 (j : Int)).f5.length ≤ 10000 := light_l0 l0 l1 hs0 hs 100 0 0 (by omega) (by omega) (by omega) h
/-- "synced". -/
def syncd : List Int := [115, 121, 110, 99, 101, 100]
/-- What a crash leaves of the file. -/
structure TornOk (bs d : List Int) : Prop where
  len : d.length = 6 ∨ d.length = 6 + bs.length
  head : d.take 6 = syncd
  tail : ∀ k, 6 ≤ k → k < d.length → d.getD k 0 = 0 ∨ d.getD k 0 = bs.getD (k - 6) 0
theorem tornV_eq (bs : List Int) (nn : Nat) : tornV syncd (syncd ++ bs) nn = ((syncd ++ bs).take nn ++ (syncd ++ List.replicate bs.length 0).drop nn).take (6 + bs.length) := by
  have e6 : syncd.length = 6 := rfl
  have hl : (syncd ++ bs).length = 6 + bs.length := by rw [List.length_append, e6]
  have hm : max syncd.length (syncd ++ bs).length = 6 + bs.length := by rw [hl, e6]; omega
  have hp1 : padTo (syncd ++ bs) (6 + bs.length) = syncd ++ bs := by
    unfold padTo
    rw [hl, Nat.sub_self, List.replicate_zero, List.append_nil]
  have hp0 : padTo syncd (6 + bs.length) = syncd ++ List.replicate bs.length 0 := by
    unfold padTo
    rw [e6, Nat.add_sub_cancel_left]
  unfold tornV
  rw [hm, hl, hp0, hp1]
theorem getD_syncd (x : List Int) (k : Nat) (h : 6 ≤ k) : (syncd ++ x).getD k 0 = x.getD (k - 6) 0 := by
  rw [List.getD_eq_getElem?_getD, List.getD_eq_getElem?_getD, List.getElem?_append_right h]
  rfl
theorem getD_zeros (n k : Nat) : (List.replicate n (0 : Int)).getD k 0 = 0 := by
  rw [List.getD_eq_getElem?_getD, List.getElem?_replicate]
  split <;> rfl
theorem torn_ok (bs d : List Int) (h : CrashOf syncd (syncd ++ bs) d) : TornOk bs d := by
  have e6 : syncd.length = 6 := rfl
  rcases h with rfl | rfl | ⟨nn, hnn, rfl⟩
  · exact ⟨.inr (by rw [List.length_append, e6]), by rw [List.take_append_of_le_length (by rw [e6]; exact Nat.le_refl _)]; rfl, fun k h1 h2 => .inr (getD_syncd bs k h1)⟩
  · exact ⟨.inl e6, rfl, fun k h1 h2 => by rw [e6] at h2; omega⟩
  · rw [tornV_eq]
    have hnn' : nn ≤ 6 + bs.length := by
      have : max syncd.length (syncd ++ bs).length = 6 + bs.length := by rw [List.length_append, e6]; omega
      omega
    have hg : ∀ k, k < 6 + bs.length → (((syncd ++ bs).take nn ++ (syncd ++ List.replicate bs.length 0).drop nn).take (6 + bs.length))[k]? = if k < nn then (syncd ++ bs)[k]? else (syncd ++ List.replicate bs.length 0)[k]? := by
      intro k hk
      have hlt : ((syncd ++ bs).take nn).length = nn := by rw [List.length_take, List.length_append, e6]; omega
      rw [List.getElem?_take_of_lt hk]
      by_cases hc : k < nn
      · rw [if_pos hc, List.getElem?_append_left (by rw [hlt]; exact hc), List.getElem?_take_of_lt hc]
      · rw [if_neg hc, List.getElem?_append_right (by rw [hlt]; omega), List.getElem?_drop, hlt]
        congr 1
        omega
    have hlen : (((syncd ++ bs).take nn ++ (syncd ++ List.replicate bs.length 0).drop nn).take (6 + bs.length)).length = 6 + bs.length := by
      rw [List.length_take, List.length_append, List.length_take, List.length_drop, List.length_append, List.length_append, List.length_replicate, e6]
      omega
    refine ⟨.inr hlen, ?_, fun k h1 h2 => ?_⟩
    · apply List.ext_getElem?
      intro k
      by_cases hk : k < 6
      · rw [List.getElem?_take_of_lt hk, hg k (by omega)]
        have h1 : (syncd ++ bs)[k]? = syncd[k]? := List.getElem?_append_left (by rw [e6]; exact hk)
        have h2 : (syncd ++ List.replicate bs.length 0)[k]? = syncd[k]? := List.getElem?_append_left (by rw [e6]; exact hk)
        rw [h1, h2]
        split <;> rfl
      · rw [List.getElem?_eq_none (by rw [List.length_take]; omega), List.getElem?_eq_none (by rw [e6]; omega)]
    · rw [hlen] at h2
      rw [List.getD_eq_getElem?_getD, hg k h2]
      by_cases hc : k < nn
      · rw [if_pos hc, ← List.getD_eq_getElem?_getD, getD_syncd bs k h1]
        exact .inr rfl
      · rw [if_neg hc, ← List.getD_eq_getElem?_getD, getD_syncd _ k h1, getD_zeros]
        exact .inl rfl
end Go.Proofs.Ytoonepmnlgfikaa.D
