/- TiersOrders in plain Lean: Merge in any order; classes and Plan. -/
import Derived.Test.YtcacckaonjnmjaaTLaw
import Derived.Test.YtcacckaonjnmjaaTx33
namespace Go.Proofs.Ytcacckaonjnmjaa.T
open Go.RowKit Go.Proofs.YtcacckaonjnmjaaW.PrintWords Go.Proofs.YtcacckaonjnmjaaW.PrintLast Go.Proofs.YtcacckaonjnmjaaW.PrintMore
set_option linter.unusedVariables false
set_option linter.unusedSimpArgs false
def Apart (xs : List S104) : Prop := xs.Pairwise (fun a b => ltk a b = true ∨ ltk b a = true)
theorem apart_of {xs : List S104} (h : riseB (sortK xs) = true) : Apart xs := by
  have hp : riseP (sortK xs) := of_decide_eq_true h
  have hq : (sortK xs).Pairwise (fun a b => ltk a b = true ∨ ltk b a = true) := hp.imp (fun {a b} h => .inl h)
  exact (List.mergeSort_perm xs _).pairwise hq (fun {a b} h => h.symm)
theorem of_apart {xs : List S104} (h : Apart xs) : riseB (sortK xs) = true := by
  have hq : (sortK xs).Pairwise (fun a b => ltk a b = true ∨ ltk b a = true) := (List.mergeSort_perm xs _).symm.pairwise h (fun {a b} h => h.symm)
  refine decide_eq_true ?_
  exact (hq.and (sortK_pair xs)).imp (fun {a b} h => by
    rcases h with ⟨h1 | h1, h2⟩
    · exact h1
    · rw [h1] at h2; cases h2)
theorem mergeOut_fin (l : List (List S104)) : mergeOut l = if l.all riseB = true then fin l.flatten else ([], 1) := rfl
theorem merge_ok {l : List (List S104)} (h : (mergeOut l).2 = 0) : l.all riseB = true ∧ Apart l.flatten ∧ (mergeOut l).1 = sortK l.flatten := by
  rw [mergeOut_fin] at h ⊢
  by_cases ha : l.all riseB = true
  · rw [if_pos ha] at h ⊢
    unfold fin at h ⊢
    by_cases hr : riseB (sortK l.flatten) = true
    · rw [if_pos hr] at h ⊢
      exact ⟨ha, apart_of hr, rfl⟩
    · rw [if_neg hr] at h; cases h
  · rw [if_neg ha] at h; cases h
theorem merge_of {l : List (List S104)} (h1 : l.all riseB = true) (h2 : Apart l.flatten) : mergeOut l = (sortK l.flatten, 0) := by
  rw [mergeOut_fin, if_pos h1]
  unfold fin
  rw [if_pos (of_apart h2)]
theorem merge_rev {l : List (List S104)} (h : (mergeOut l).2 = 0) : mergeOut l.reverse = mergeOut l := by
  obtain ⟨h1, h2, h3⟩ := merge_ok h
  have hp : l.reverse.flatten.Perm l.flatten := (List.reverse_perm l).flatten
  have h4 : l.reverse.all riseB = true := by rw [List.all_reverse]; exact h1
  rw [mergeOut_fin, mergeOut_fin, if_pos h4, if_pos h1]
  exact fin_perm hp
theorem apart_take {l : List (List S104)} (h : Apart l.flatten) (i : Nat) : Apart (l.take i).flatten := by
  have e : l.flatten = (l.take i).flatten ++ (l.drop i).flatten := by rw [← List.flatten_append, List.take_append_drop]
  unfold Apart at *
  rw [e] at h
  exact (List.pairwise_append.1 h).1
theorem merge_step {l : List (List S104)} (h : (mergeOut l).2 = 0) (i : Nat) (hi : i < l.length) : mergeOut [sortK (l.take i).flatten, l[i]] = (sortK (l.take (i + 1)).flatten, 0) := by
  obtain ⟨h1, h2, h3⟩ := merge_ok h
  have e : (l.take (i + 1)).flatten = (l.take i).flatten ++ l[i] := by rw [List.take_succ_eq_append_getElem hi, List.flatten_append]; simp
  have hp : [sortK (l.take i).flatten, l[i]].flatten.Perm (l.take (i + 1)).flatten := by
    rw [e]
    simp only [List.flatten_cons, List.flatten_nil, List.append_nil]
    exact (List.mergeSort_perm _ _).append_right _
  have ha : [sortK (l.take i).flatten, l[i]].all riseB = true := by
    simp only [List.all_cons, List.all_nil, Bool.and_true, Bool.and_eq_true]
    exact ⟨of_apart (apart_take h2 i), List.all_eq_true.1 h1 _ (List.getElem_mem hi)⟩
  rw [mergeOut_fin, if_pos ha, fin_perm hp]
  unfold fin
  rw [if_pos (of_apart (apart_take h2 (i + 1)))]
theorem sortK_len (xs : List S104) : (sortK xs).length = xs.length := List.length_mergeSort _
/-! ### classes -/
theorem len64_total (n : Int) : ∃ c, Ev (fun k => bits_Len64.f k n) c := by
  have j1 : ∀ x y, ∃ c, Ev (fun k => bits_Len64.j1 k x y) c := fun x y => by
    have key : ∃ c, ∀ k, bits_Len64.j1 (k + 1) x y = some c := by
      by_cases h : x ≥ 256
      · exact ⟨_, fun k => by
          rw [bits_Len64.j1, if_pos h, if_pos (by omega), if_pos (by omega)]⟩
      · exact ⟨_, fun k => by
          rw [bits_Len64.j1, if_neg h, if_pos (by omega), if_pos (by omega)]⟩
    obtain ⟨c, hc⟩ := key
    exact ⟨c, Ev.step ((Ev.pure c).of_eq fun k => hc k)⟩
  have j0 : ∀ x y, ∃ c, Ev (fun k => bits_Len64.j0 k x y) c := fun x y => by
    by_cases h : x ≥ 65536
    · obtain ⟨c, hc⟩ := j1 (x / 65536) (wrap64 (y + 16))
      exact ⟨c, Ev.step (hc.of_eq fun k => by show bits_Len64.j0 (k + 1) x y = _; rw [bits_Len64.j0, if_pos h])⟩
    · obtain ⟨c, hc⟩ := j1 x y
      exact ⟨c, Ev.step (hc.of_eq fun k => by show bits_Len64.j0 (k + 1) x y = _; rw [bits_Len64.j0, if_neg h])⟩
  by_cases h : n ≥ 4294967296
  · obtain ⟨c, hc⟩ := j0 (n / 4294967296) 32
    exact ⟨c, hc.of_eq fun k => by unfold bits_Len64.f; rw [if_pos h]⟩
  · obtain ⟨c, hc⟩ := j0 n 0
    exact ⟨c, hc.of_eq fun k => by unfold bits_Len64.f; rw [if_neg h]⟩
theorem class_total (n : Int) : ∃ c, Ev (fun k => tiers_Class.f k n) c := by
  by_cases h : n < 1
  · exact ⟨0, (Ev.pure 0).of_eq fun k => by unfold tiers_Class.f; rw [if_pos h]⟩
  · obtain ⟨c, hc⟩ := len64_total (IntKind.u64.wrap n)
    refine ⟨c, (Ev.bind (g := fun _ t => some t) (Ev.bind (f := fun k => bits_Len64.f k (IntKind.u64.wrap n)) (g := fun _ t => some t) hc (Ev.pure c)) (Ev.pure c)).of_eq fun k => ?_⟩
    unfold tiers_Class.f bits_Len.f
    rw [if_neg h]
noncomputable def cls (n : Int) : Int := Classical.choose (class_total n)
theorem cls_is (n : Int) : Ev (fun k => tiers_Class.f k n) (cls n) := Classical.choose_spec (class_total n)
theorem rd_at (l : List Int) (i : Nat) (h : i < l.length) : rd l (i : Int) = l[i] := by
  unfold rd
  rw [Int.toNat_natCast, List.getD_eq_getElem?_getD, List.getElem?_eq_getElem h]
  rfl
theorem alike_l0 (l : List Int) (hl : l.length ≤ 1000) (h0 : 0 < l.length) : ∀ d i, i + d = l.length → (∀ x ∈ l.take i, cls x = cls l[0]) → ∃ b, Ev (fun k => tiers_alike.l0 k l l (l.length : Int) (i : Int)) b ∧ (b = true ↔ ∀ x ∈ l, cls x = cls l[0])
  | 0, i, hd, ha => by
    rw [List.take_of_length_le (by omega)] at ha
    refine ⟨true, Ev.step ((Ev.pure true).of_eq fun k => ?_), fun _ => ha, fun _ => rfl⟩
    show tiers_alike.l0 (k + 1) l l (l.length : Int) (i : Int) = _
    rw [tiers_alike.l0, if_neg (by omega)]
  | d + 1, i, hd, ha => by
    have hi : i < l.length := by omega
    have ht : l.take (i + 1) = l.take i ++ [l[i]] := List.take_succ_eq_append_getElem hi
    have c0 : rd l 0 = l[0] := rd_at l 0 h0
    by_cases hc : cls l[i] = cls l[0]
    · obtain ⟨b, h1, h2⟩ := alike_l0 l hl h0 d (i + 1) (by omega) (fun x hx => by
        rw [ht] at hx
        rcases List.mem_append.1 hx with hx | hx
        · exact ha x hx
        · rw [List.mem_singleton.1 hx]; exact hc)
      refine ⟨b, Ev.step ((Ev.bind (cls_is l[i]) (g := fun k t156 => (tiers_Class.f k l[0]).bind fun t158 => (if t156 = t158 then (tiers_alike.l0 k l l (l.length : Int) ((i + 1 : Nat) : Int)) else (some false))) (Ev.bind (cls_is l[0]) (g := fun k t158 => (if cls l[i] = t158 then (tiers_alike.l0 k l l (l.length : Int) ((i + 1 : Nat) : Int)) else (some false))) (h1.of_eq fun k => by rw [if_pos hc]))).of_eq fun k => ?_), h2⟩
      show tiers_alike.l0 (k + 1) l l (l.length : Int) (i : Int) = _
      rw [tiers_alike.l0, if_pos (by omega), if_pos (by omega), if_pos (by omega), rd_at l i hi, c0, wrn i (by omega)]
      simp only [show (0 : Int) < (l.length : Int) by omega, if_true]
    · refine ⟨false, Ev.step ((Ev.bind (cls_is l[i]) (g := fun k t156 => (tiers_Class.f k l[0]).bind fun t158 => (if t156 = t158 then (tiers_alike.l0 k l l (l.length : Int) ((i + 1 : Nat) : Int)) else (some false))) (Ev.bind (cls_is l[0]) (g := fun k t158 => (if cls l[i] = t158 then (tiers_alike.l0 k l l (l.length : Int) ((i + 1 : Nat) : Int)) else (some false))) ((Ev.pure false).of_eq fun k => by rw [if_neg hc]))).of_eq fun k => ?_), fun h => (by cases h), fun h => absurd (h _ (List.getElem_mem hi)) hc⟩
      show tiers_alike.l0 (k + 1) l l (l.length : Int) (i : Int) = _
      rw [tiers_alike.l0, if_pos (by omega), if_pos (by omega), if_pos (by omega), rd_at l i hi, c0, wrn i (by omega)]
      simp only [show (0 : Int) < (l.length : Int) by omega, if_true]
theorem alike_is (l : List Int) (hl : l.length ≤ 1000) (h0 : 0 < l.length) : ∃ b, Ev (fun k => tiers_alike.f k l) b ∧ (b = true ↔ ∀ x ∈ l, cls x = cls l[0]) := alike_l0 l hl h0 l.length 0 (by omega) (fun x hx => by simp at hx)
/-- Four of a class, from i on. -/
def Four (l : List Int) (i : Nat) : Prop := ∀ j : Nat, j < 4 → cls (rd l ((i : Int) + (j : Int))) = cls (rd l (i : Int))
theorem alike_four (l : List Int) (i : Nat) (h : i + 4 ≤ l.length) (hl : l.length ≤ 1000000000) : ∃ b, Ev (fun k => tiers_alike.f k ((l.take (i + 4)).drop i)) b ∧ (b = true ↔ Four l i) := by
  have hlen : ((l.take (i + 4)).drop i).length = 4 := by rw [List.length_drop, List.length_take]; omega
  obtain ⟨b, h1, h2⟩ := alike_is ((l.take (i + 4)).drop i) (by omega) (by omega)
  have hat : ∀ (j : Nat) (hj : j < 4), ((l.take (i + 4)).drop i)[j]'(by omega) = rd l ((i : Int) + j) := fun j hj => by
    rw [List.getElem_drop, List.getElem_take, show ((i : Int) + j) = ((i + j : Nat) : Int) by omega, rd_at l (i + j) (by omega)]
  refine ⟨b, h1, h2.trans ⟨fun h3 j hj => ?_, fun h3 x hx => ?_⟩⟩
  · have := h3 _ (List.getElem_mem (l := (l.take (i + 4)).drop i) (n := j) (by omega))
    rw [hat j hj, hat 0 (by omega)] at this
    simpa using this
  · obtain ⟨j, hj, rfl⟩ := List.getElem_of_mem hx
    rw [hat j (by omega), hat 0 (by omega)]
    simpa using h3 j (by omega)
/-- What Plan tells. -/
def Planned (l : List Int) (r1 : Int) (r2 : Bool) : Prop := (r2 = true ∧ ∃ i : Nat, r1 = i ∧ i + 4 ≤ l.length ∧ Four l i ∧ ∀ j, j < i → ¬ Four l j) ∨ (r2 = false ∧ r1 = 0 ∧ ∀ j, j + 4 ≤ l.length → ¬ Four l j)
theorem plan_l0 (l : List Int) (hl : l.length ≤ 1000000000) : ∀ d i, i + d = l.length → (∀ j, j < i → ¬ Four l j) → ∃ r1 r2, Ev (fun k => tiers_Plan.l0 k l (i : Int)) (r1, r2) ∧ Planned l r1 r2 := by
  intro d
  induction d with
  | zero =>
    intro i hd hn
    have e4 : wrap64 ((i : Int) + 4) = (i : Int) + 4 := rising_wrap _ (by omega) (by omega)
    refine ⟨0, false, Ev.step ((Ev.pure (0, false)).of_eq fun k => ?_), .inr ⟨rfl, rfl, fun j hj => hn j (by omega)⟩⟩
    show tiers_Plan.l0 (k + 1) l (i : Int) = _
    rw [tiers_Plan.l0, e4, if_neg (by omega)]
  | succ d ih =>
    intro i hd hn
    have e4 : wrap64 ((i : Int) + 4) = ((i + 4 : Nat) : Int) := by rw [rising_wrap _ (by omega) (by omega)]; omega
    by_cases h4 : i + 4 ≤ l.length
    · obtain ⟨b, h1, h2⟩ := alike_four l i h4 hl
      cases b with
      | true =>
        refine ⟨(i : Int), true, Ev.step ((Ev.bind h1 (g := fun k t160 => (if t160 = true then (some ((i : Int), true)) else (tiers_Plan.l0 k l ((i + 1 : Nat) : Int)))) ((Ev.pure _).of_eq fun k => by rw [if_pos rfl])).of_eq fun k => ?_), .inl ⟨rfl, i, rfl, h4, h2.1 rfl, hn⟩⟩
        show tiers_Plan.l0 (k + 1) l (i : Int) = _
        rw [tiers_Plan.l0, e4, if_pos (by omega), if_pos (by omega), if_pos (by omega), Int.toNat_natCast, Int.toNat_natCast, wrn i (by omega)]
      | false =>
        obtain ⟨r1, r2, h3, h5⟩ := ih (i + 1) (by omega) (fun j hj hf => by
          rcases Nat.lt_or_ge j i with h | h
          · exact hn j h hf
          · rw [show j = i by omega] at hf
            have := h2.2 hf; cases this)
        refine ⟨r1, r2, Ev.step ((Ev.bind h1 (g := fun k t160 => (if t160 = true then (some ((i : Int), true)) else (tiers_Plan.l0 k l ((i + 1 : Nat) : Int)))) (h3.of_eq fun k => by rw [if_neg (by simp)])).of_eq fun k => ?_), h5⟩
        show tiers_Plan.l0 (k + 1) l (i : Int) = _
        rw [tiers_Plan.l0, e4, if_pos (by omega), if_pos (by omega), if_pos (by omega), Int.toNat_natCast, Int.toNat_natCast, wrn i (by omega)]
    · refine ⟨0, false, Ev.step ((Ev.pure (0, false)).of_eq fun k => ?_), .inr ⟨rfl, rfl, fun j hj => hn j (by omega)⟩⟩
      show tiers_Plan.l0 (k + 1) l (i : Int) = _
      rw [tiers_Plan.l0, e4, if_neg (by omega)]
theorem plan_is (l : List Int) (hl : l.length ≤ 1000000000) : ∃ r1 r2, Ev (fun k => tiers_Plan.f k l) (r1, r2) ∧ Planned l r1 r2 := plan_l0 l hl l.length 0 (by omega) (fun j hj => by omega)
end Go.Proofs.Ytcacckaonjnmjaa.T
