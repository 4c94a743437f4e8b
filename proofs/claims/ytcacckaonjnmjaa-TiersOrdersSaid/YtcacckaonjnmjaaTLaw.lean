/- TiersMerges: what the printed functions answer, in plain Lean. -/
import Derived.Test.YtcacckaonjnmjaaTMerge
import Derived.Test.YtcacckaonjnmjaaTx34
namespace Go.Proofs.Ytcacckaonjnmjaa.T
open Go.RowKit Go.Proofs.YtcacckaonjnmjaaW.PrintWords Go.Proofs.YtcacckaonjnmjaaW.PrintLast Go.Proofs.YtcacckaonjnmjaaW.PrintMore
set_option linter.unusedVariables false
set_option linter.unusedSimpArgs false
theorem Ev.mono {α : Type} {f : Nat → Option α} {v : α} (h : ∀ k r, f k = some r → f (k + 1) = some r) (K : Nat) (e : f K = some v) : Ev f v := by
  refine ⟨K, fun k hk => ?_⟩
  obtain ⟨n, rfl⟩ : ∃ n, k = K + n := ⟨k - K, by omega⟩
  clear hk
  induction n with
  | zero => exact e
  | succ n ih => exact h _ _ ih
def DocOk (x : S104) : Prop := x.f0.size ≤ 140737488351232 ∧ x.f1.size ≤ 140737488351232
theorem weight_l0 (l : List S104) (hl : l.length ≤ 140737488351232) (hs : ∀ x ∈ l, DocOk x) : ∀ d i (c : Int), i + d = l.length → (l.length : Int) ≤ c → c ≤ 1000000000000000 → ∃ t, Ev (fun k => lecternlaw0_DocWeight.l0 k l c (i : Int)) t ∧ (l.length : Int) ≤ t ∧ t ≤ 1000000000000000
  | 0, i, c, hd, h1, h2 => by
    refine ⟨c, Ev.step (Ev.step ((Ev.pure c).of_eq fun k => ?_)), h1, h2⟩
    show lecternlaw0_DocWeight.l0 (k + 1 + 1) l c (i : Int) = _
    rw [lecternlaw0_DocWeight.l0, if_neg (by omega), lecternlaw0_DocWeight.j1, if_neg (by simp)]
  | d + 1, i, c, hd, h1, h2 => by
    by_cases hc : c < 1048576
    · obtain ⟨s0, s1⟩ := hs l[i] (List.getElem_mem (by omega))
      have e1 : wrap64 (c + (l[i].f0.size : Int)) = c + (l[i].f0.size : Int) := rising_wrap _ (by omega) (by omega)
      have e2 : wrap64 (c + (l[i].f0.size : Int) + (l[i].f1.size : Int)) = c + (l[i].f0.size : Int) + (l[i].f1.size : Int) := rising_wrap _ (by omega) (by omega)
      have e3 : wrap64 ((i : Int) + 1) = ((i + 1 : Nat) : Int) := by rw [rising_wrap _ (by omega) (by omega)]; omega
      obtain ⟨t, h3, h4, h5⟩ := weight_l0 l hl hs d (i + 1) (c + (l[i].f0.size : Int) + (l[i].f1.size : Int)) (by omega) (by omega) (by omega)
      refine ⟨t, Ev.step (Ev.step (h3.of_eq fun k => ?_)), h4, h5⟩
      show lecternlaw0_DocWeight.l0 (k + 1 + 1) l c (i : Int) = _
      rw [lecternlaw0_DocWeight.l0, if_pos (by omega), lecternlaw0_DocWeight.j1, if_pos (decide_eq_true hc), if_pos (by omega), if_pos (by omega), rd104_at l i (by omega), e1, e2, e3]
    · refine ⟨c, Ev.step (Ev.step ((Ev.pure c).of_eq fun k => ?_)), h1, h2⟩
      show lecternlaw0_DocWeight.l0 (k + 1 + 1) l c (i : Int) = _
      rw [lecternlaw0_DocWeight.l0, if_pos (by omega), lecternlaw0_DocWeight.j1, if_neg (by simpa using hc)]
theorem weight_is (l : List S104) (hl : l.length ≤ 140737488351232) (hs : ∀ x ∈ l, DocOk x) : ∃ t, Ev (fun k => lecternlaw0_DocWeight.f k l) t ∧ (l.length : Int) ≤ t ∧ t ≤ 1000000000000000 :=
  weight_l0 l hl hs l.length 0 _ (by omega) (by omega) (by omega)
def ListsOk (l : List (List S104)) (ns : List Int) : Prop := l.length ≤ 140737488351232 ∧ (∀ d ∈ l, d.length ≤ 140737488351232 ∧ ∀ x ∈ d, DocOk x) ∧ ns.length ≤ 140737488351232
theorem heavy_l0 (l : List (List S104)) (ns : List Int) (hok : ListsOk l ns) : ∀ d i (n : Int), i + d = l.length → ((l.take i).flatten.length : Int) ≤ n → n ≤ 2000000000000000 →
    ∃ b, Ev (fun k => lecternlaw12_heavy.l0 k n (i : Int) l ns) b ∧ (b = false → l.length ≤ 60 ∧ l.flatten.length ≤ 5000)
  | 0, i, n, hd, h1, h2 => by
    rw [List.take_of_length_le (by omega)] at h1
    by_cases hn : n > 5000
    · refine ⟨true, Ev.step (Ev.step ((Ev.pure true).of_eq fun k => ?_)), fun h => by cases h⟩
      show lecternlaw12_heavy.l0 (k + 1 + 1) n (i : Int) l ns = _
      rw [lecternlaw12_heavy.l0, if_neg (by omega), lecternlaw12_heavy.j1, if_neg (by simp), if_pos hn]
    · refine ⟨decide ((l.length : Int) > 60), Ev.step (Ev.step ((Ev.pure _).of_eq fun k => ?_)), fun h => ?_⟩
      · show lecternlaw12_heavy.l0 (k + 1 + 1) n (i : Int) l ns = _
        rw [lecternlaw12_heavy.l0, if_neg (by omega), lecternlaw12_heavy.j1, if_neg (by simp), if_neg hn]
      · have := of_decide_eq_false h
        omega
  | d + 1, i, n, hd, h1, h2 => by
    have hlen := hok.1
    by_cases hn : n < 10000
    · have hi : i < l.length := by omega
      obtain ⟨a1, a2⟩ := hok.2.1 l[i] (List.getElem_mem hi)
      obtain ⟨t, h3, h4, h5⟩ := weight_is l[i] a1 a2
      have ht : l.take (i + 1) = l.take i ++ [l[i]] := List.take_succ_eq_append_getElem hi
      have e1 : wrap64 (n + t) = n + t := rising_wrap _ (by omega) (by omega)
      have e3 : wrap64 ((i : Int) + 1) = ((i + 1 : Nat) : Int) := by rw [rising_wrap _ (by omega) (by omega)]; omega
      obtain ⟨b, h6, h7⟩ := heavy_l0 l ns hok d (i + 1) (n + t) (by omega) (by
        rw [ht, List.flatten_append, List.length_append, List.flatten_cons, List.flatten_nil, List.append_nil]
        omega) (by omega)
      refine ⟨b, Ev.step (Ev.step ((Ev.bind h3 (g := fun k t => lecternlaw12_heavy.l0 k (wrap64 (n + t)) ((i + 1 : Nat) : Int) l ns) (by rw [e1]; exact h6)).of_eq fun k => ?_)), h7⟩
      show lecternlaw12_heavy.l0 (k + 1 + 1) n (i : Int) l ns = _
      rw [lecternlaw12_heavy.l0, if_pos (by omega), lecternlaw12_heavy.j1, if_pos (decide_eq_true hn), if_pos (by omega), if_pos (by omega), rdL2_at l i hi, e3]
    · refine ⟨true, Ev.step (Ev.step ((Ev.pure true).of_eq fun k => ?_)), fun h => by cases h⟩
      show lecternlaw12_heavy.l0 (k + 1 + 1) n (i : Int) l ns = _
      rw [lecternlaw12_heavy.l0, if_pos (by omega), lecternlaw12_heavy.j1, if_neg (by simpa using hn), if_pos (by omega)]
theorem heavy_is (l : List (List S104)) (ns : List Int) (hok : ListsOk l ns) : ∃ b, Ev (fun k => lecternlaw12_heavy.f k l ns) b ∧ (b = false → l.length ≤ 60 ∧ l.flatten.length ≤ 5000) :=
  heavy_l0 l ns hok l.length 0 _ (by omega) (by simp) (by have := hok.2.2; omega)
theorem wakes_is : Ev (fun k => lecternlaw12_wakes.f k) true := Ev.mono (fun k r h => lecternlaw12_wakes.mono k r h) 20 (by kernel_rfl)
theorem mergeOut_len (l : List (List S104)) : (mergeOut l).1.length ≤ l.flatten.length := by
  unfold mergeOut
  split
  · split
    · show (sortK l.flatten).length ≤ _
      unfold sortK
      rw [List.length_mergeSort]
      omega
    · exact Nat.zero_le _
  · exact Nat.zero_le _
theorem merges_l1 (l : List (List S104)) (ns : List Int) (h : Big l) : ∀ d i, i + d = l.length → Ev (fun k => lecternlaw12_TiersMerges.l1 k l (i : Int) l ns) true
  | 0, i, hd => by
    refine Ev.step ((Ev.bind wakes_is (g := fun _ t => some t) (Ev.pure true)).of_eq fun k => ?_)
    show lecternlaw12_TiersMerges.l1 (k + 1) l (i : Int) l ns = _
    rw [lecternlaw12_TiersMerges.l1, if_neg (by omega)]
  | d + 1, i, hd => by
    have hi : i < l.length := by omega
    have hl1 := h.1
    have ih := merges_l1 l ns h d (i + 1) (by omega)
    refine Ev.step ((Ev.bind (eqDocs_is l[i] (big_at h i hi)) (g := fun k t => if t = true then (lecternlaw12_TiersMerges.l1 k l ((i + 1 : Nat) : Int) l ns) else some false) (by simp only [if_true]; exact ih)).of_eq fun k => ?_)
    show lecternlaw12_TiersMerges.l1 (k + 1) l (i : Int) l ns = _
    rw [lecternlaw12_TiersMerges.l1, if_pos (by omega), if_pos (by omega), if_pos (by omega), rdL2_at l i hi, wrn i (by omega)]
theorem merges_l0 (l : List (List S104)) (ns : List Int) (h : Big l) : ∀ d i, i + d = l.length → Ev (fun k => lecternlaw12_TiersMerges.l0 k (l.take i) (i : Int) l ns) true
  | 0, i, hd => by
    have hl1 := h.1
    have hl2 := h.2
    have hm := mergeOut_len l
    have e4 : Ev (fun k => lecternlaw12_TiersMerges.j1 k l (mergeOut l).1 false l ns) true :=
      Ev.step ((Ev.bind (docs_is (mergeOut l).1 (by omega)) (g := fun k _ => lecternlaw12_TiersMerges.l1 k l 0 l ns) (merges_l1 l ns h l.length 0 (by omega))).of_eq fun k => by
        show lecternlaw12_TiersMerges.j1 (k + 1) l (mergeOut l).1 false l ns = _
        rw [lecternlaw12_TiersMerges.j1, if_neg (by simp)])
    have e3 := Ev.bind (eqDocs_is (mergeOut l).1 (by omega)) (g := fun k t => lecternlaw12_TiersMerges.j1 k l (mergeOut l).1 (!t) l ns) e4
    refine Ev.step ((Ev.bind (ref_is l h) (g := fun k bt179 => (lecternlaw12_num.f (mergeOut l).2).bind fun t183 => (if t183 = bt179.2 then ((lecternref0_EqDocs.f k (mergeOut l).1 bt179.1).bind fun t184 => (lecternlaw12_TiersMerges.j1 k l (mergeOut l).1 (!t184) l ns)) else (lecternlaw12_TiersMerges.j1 k l (mergeOut l).1 true l ns))) (e3.of_eq fun k => ?_)).of_eq fun k => ?_)
    · show ((lecternlaw12_num.f (mergeOut l).2).bind _) = _
      unfold lecternlaw12_num.f
      rw [Option.bind_some, if_pos rfl]
    · show lecternlaw12_TiersMerges.l0 (k + 1) (l.take i) (i : Int) l ns = _
      rw [lecternlaw12_TiersMerges.l0, if_neg (by omega), List.take_of_length_le (by omega), prog_is l h, Option.bind_some]
  | d + 1, i, hd => by
    have hi : i < l.length := by omega
    have hl1 := h.1
    have ih := merges_l0 l ns h d (i + 1) (by omega)
    have ht : l.take (i + 1) = l.take i ++ [l[i]] := List.take_succ_eq_append_getElem hi
    have htl : (l.take i).length = i := by rw [List.length_take]; omega
    rw [ht] at ih
    refine Ev.step ((Ev.bind (copyDocs_is l[i] (big_at h i hi)) (g := fun k t => lecternlaw12_TiersMerges.l0 k (l.take i ++ [t]) ((i + 1 : Nat) : Int) l ns) ih).of_eq fun k => ?_)
    show lecternlaw12_TiersMerges.l0 (k + 1) (l.take i) (i : Int) l ns = _
    rw [lecternlaw12_TiersMerges.l0, if_pos (by omega), if_pos (by omega), rdL2_at l i hi, wrn i (by omega)]
    simp only [htl, show i < 5864062014805 by omega, if_true]
theorem merges_is (l : List (List S104)) (ns : List Int) (hok : ListsOk l ns) : ∃ k, lecternlaw12_TiersMerges.f k l ns = some true := by
  obtain ⟨b, h1, h2⟩ := heavy_is l ns hok
  have key : Ev (fun k => lecternlaw12_TiersMerges.f k l ns) true := by
    unfold lecternlaw12_TiersMerges.f
    refine Ev.bind h1 ?_
    cases b with
    | true => exact Ev.pure true
    | false =>
      obtain ⟨h3, h4⟩ := h2 rfl
      have hb : Big l := ⟨by omega, by omega⟩
      exact (merges_l0 l ns hb l.length 0 (by omega)).of_eq fun k => by rw [if_neg (by simp)]; rfl
  obtain ⟨K, hK⟩ := key
  exact ⟨K, hK K (Nat.le_refl _)⟩
end Go.Proofs.Ytcacckaonjnmjaa.T
