/- The documents of tiers, in plain Lean: what the reference's Merge answers. -/
import Derived.Test.YtcacckaonjnmjaaTx25
import Derived.Test.YtcacckaonjnmjaaTx4
import Derived.Test.YtcacckaonjnmjaaTx28
import Derived.Test.YtcacckaonjnmjaaTx29
import Derived.Test.YtcacckaonjnmjaaTx3
namespace Go.Proofs.Ytcacckaonjnmjaa.T
open Go.RowKit Go.Proofs.YtcacckaonjnmjaaW.PrintWords Go.Proofs.YtcacckaonjnmjaaW.PrintLast Go.Proofs.YtcacckaonjnmjaaW.PrintMore
set_option linter.unusedVariables false
set_option linter.unusedSimpArgs false
/-- From some fuel on it is v. -/
def Ev {α : Type} (f : Nat → Option α) (v : α) : Prop := ∃ K, ∀ k, K ≤ k → f k = some v
theorem Ev.step {α : Type} {f : Nat → Option α} {v : α} (h : Ev (fun k => f (k + 1)) v) : Ev f v := by
  obtain ⟨K, h⟩ := h
  refine ⟨K + 1, fun k hk => ?_⟩
  obtain ⟨k, rfl⟩ : ∃ n, k = n + 1 := ⟨k - 1, by omega⟩
  exact h k (by omega)
theorem Ev.pure {α : Type} (v : α) : Ev (fun _ => some v) v := ⟨0, fun _ _ => rfl⟩
theorem Ev.bind {α β : Type} {f : Nat → Option α} {g : Nat → α → Option β} {x : α} {v : β} (h1 : Ev f x) (h2 : Ev (fun k => g k x) v) : Ev (fun k => (f k).bind (g k)) v := by
  obtain ⟨K1, h1⟩ := h1
  obtain ⟨K2, h2⟩ := h2
  refine ⟨K1 + K2, fun k hk => ?_⟩
  show (f k).bind (g k) = some v
  rw [h1 k (by omega)]
  exact h2 k (by omega)
theorem Ev.of_eq {α : Type} {f g : Nat → Option α} {v : α} (h : Ev g v) (e : ∀ k, f k = g k) : Ev f v := by
  obtain ⟨K, h⟩ := h
  exact ⟨K, fun k hk => (e k).trans (h k hk)⟩
theorem Ev.unique {α : Type} {f : Nat → Option α} {u v : α} (h : Ev f u) (h2 : Ev f v) : u = v := by
  obtain ⟨K1, h1⟩ := h
  obtain ⟨K2, h2⟩ := h2
  have a := h1 (K1 + K2) (by omega)
  rw [h2 (K1 + K2) (by omega)] at a
  exact (Option.some.inj a).symm
theorem wrn (i : Nat) (h : i ≤ 1000000000) : wrap64 ((i : Int) + 1) = ((i + 1 : Nat) : Int) := by rw [rising_wrap _ (by omega) (by omega)]; omega
theorem wrp (i : Nat) (h : i ≤ 1000000000) : wrap64 (((i + 1 : Nat) : Int) - 1) = (i : Int) := by rw [rising_wrap _ (by omega) (by omega)]; omega
theorem eta104 (x : S104) : (⟨x.f0, x.f1⟩ : S104) = x := rfl
/-! ### CopyDocs, EqDocs, Docs -/
theorem copyDocs_l0 (l : List S104) (hl : l.length ≤ 1000000) : ∀ d i, i + d = l.length → Ev (fun k => lecternref0_CopyDocs.l0 k l (l.take i) (i : Int)) l
  | 0, i, hd => by
    refine Ev.step ?_
    simp only [lecternref0_CopyDocs.l0]
    simp only [show ¬ ((i : Int) < (l.length : Int)) by omega, if_false]
    rw [List.take_of_length_le (by omega)]
    exact Ev.pure _
  | d + 1, i, hd => by
    have ih := copyDocs_l0 l hl d (i + 1) (by omega)
    have h1 : (l.take i).length ≤ l.length := by rw [List.length_take]; omega
    have h2 : l.take (i + 1) = l.take i ++ [l[i]] := List.take_succ_eq_append_getElem (by omega)
    refine Ev.step (ih.of_eq fun k => ?_)
    show lecternref0_CopyDocs.l0 (k + 1) l (l.take i) (i : Int) = _
    rw [lecternref0_CopyDocs.l0, if_pos (by omega), if_pos (by omega), if_pos (by omega), wrn i (by omega), rd104_at l i (by omega), eta104, ← h2]
theorem copyDocs_is (l : List S104) (hl : l.length ≤ 1000000) : Ev (fun k => lecternref0_CopyDocs.f k l) l := by
  unfold lecternref0_CopyDocs.f
  exact copyDocs_l0 l hl l.length 0 (by omega)
theorem eqDocs_l0 (l : List S104) (hl : l.length ≤ 1000000) : ∀ d i, i + d = l.length → Ev (fun k => lecternref0_EqDocs.l0 k l l (i : Int)) true
  | 0, i, hd => by
    refine Ev.step ((Ev.pure true).of_eq fun k => ?_)
    show lecternref0_EqDocs.l0 (k + 1) l l (i : Int) = _
    rw [lecternref0_EqDocs.l0, if_neg (by omega)]
  | d + 1, i, hd => by
    have ih := eqDocs_l0 l hl d (i + 1) (by omega)
    refine Ev.step (ih.of_eq fun k => ?_)
    show lecternref0_EqDocs.l0 (k + 1) l l (i : Int) = _
    rw [lecternref0_EqDocs.l0, if_pos (by omega), if_pos (by omega), if_pos (by omega), wrn i (by omega), if_neg (by simp)]
theorem eqDocs_is (l : List S104) (hl : l.length ≤ 1000000) : Ev (fun k => lecternref0_EqDocs.f k l l) true := by
  refine (eqDocs_l0 l hl l.length 0 (by omega)).of_eq fun k => ?_
  unfold lecternref0_EqDocs.f
  rw [if_pos rfl]
  rfl
theorem docs_l0 (l : List S104) (hl : l.length ≤ 1000000) : ∀ d i (m : List S104), i + d = l.length → m.length = l.length → Ev (fun k => lecternlaw0_Docs.l0 k m (i : Int)) ()
  | 0, i, m, hd, hm => by
    refine Ev.step ((Ev.pure ()).of_eq fun k => ?_)
    show lecternlaw0_Docs.l0 (k + 1) m (i : Int) = _
    rw [lecternlaw0_Docs.l0, if_neg (by omega), if_pos (by omega)]
  | d + 1, i, m, hd, hm => by
    have ih := docs_l0 l hl d (i + 1) (m.set (i : Int).toNat (⟨(⟨#[115, 112, 111, 105, 108, 116]⟩ : ByteArray), (⟨#[]⟩ : ByteArray)⟩ : S104)) (by omega) (by rw [List.length_set]; exact hm)
    refine Ev.step (ih.of_eq fun k => ?_)
    show lecternlaw0_Docs.l0 (k + 1) m (i : Int) = _
    rw [lecternlaw0_Docs.l0, if_pos (by omega), if_pos (by omega), wrn i (by omega)]
theorem docs_is (l : List S104) (hl : l.length ≤ 1000000) : Ev (fun k => lecternlaw0_Docs.f k l) () := docs_l0 l hl l.length 0 l (by omega) rfl
/-! ### what sorted rows have in common -/
def fin (xs : List S104) : List S104 × Int := if riseB (sortK xs) = true then (sortK xs, 0) else ([], 4)
theorem fin_perm {xs ys : List S104} (h : xs.Perm ys) : fin xs = fin ys := by
  obtain ⟨h1, h2⟩ := sorted_same (xs := ys) (ys := sortK xs) ((List.mergeSort_perm xs _).trans h) (sortK_pair xs)
  unfold fin
  rw [h1]
  by_cases hr : riseB (sortK ys) = true
  · rw [if_pos hr, if_pos hr, h2 (h1.trans hr)]
  · rw [if_neg hr, if_neg hr]
theorem rise_pair {xs : List S104} (h : riseP xs) : xs.Pairwise (fun a b => ltk b a = false) := h.imp (fun {x y} h => by
  by_cases h2 : ltk y x = true
  · have := ltk_trans h h2; rw [ltk_irrefl] at this; cases this
  · simpa using h2)
theorem fin_rise {xs : List S104} (h : riseP xs) : fin xs = (xs, 0) := by
  obtain ⟨h1, h2⟩ := sorted_same (xs := xs) (ys := xs) (.refl _) (rise_pair h)
  have hr : riseB xs = true := decide_eq_true h
  unfold fin
  rw [← h1, if_pos hr, ← h2 hr]
theorem fin_dup {xs zs : List S104} {x y : S104} (h : xs.Perm (x :: y :: zs)) (h1 : ltk x y = false) (h2 : ltk y x = false) : fin xs = ([], 4) := by
  unfold fin
  rw [if_neg]
  intro hr
  have hp : riseP (sortK xs) := of_decide_eq_true hr
  have hq : (sortK xs).Pairwise (fun a b => ltk a b = true ∨ ltk b a = true) := hp.imp (fun {a b} h => .inl h)
  have hr2 := ((List.mergeSort_perm xs _).trans h).pairwise hq (fun {a b} h => h.symm)
  rcases (List.pairwise_cons.1 hr2).1 y List.mem_cons_self with h | h
  · rw [h1] at h; cases h
  · rw [h2] at h; cases h
theorem ltk_tri {x y : S104} (h1 : ltk x y = false) (h2 : (x.f0.toList == y.f0.toList) = false) : ltk y x = true := by
  unfold ltk at *
  have a := List.not_lt.1 (of_decide_eq_false h1)
  rcases List.le_iff_lt_or_eq.1 a with h | h
  · exact decide_eq_true h
  · rw [ByteArray.toList_eq, ByteArray.toList_eq] at h2
    rw [h] at h2
    simp at h2
theorem ltk_same {x y : S104} (h2 : (x.f0.toList == y.f0.toList) = true) : ltk x y = false ∧ ltk y x = false := by
  have h : x.f0.data.toList = y.f0.data.toList := by
    have := eq_of_beq h2
    rw [ByteArray.toList_eq, ByteArray.toList_eq] at this
    exact this
  unfold ltk
  rw [h]
  exact ⟨decide_eq_false (List.lt_irrefl _), decide_eq_false (List.lt_irrefl _)⟩
/-- An element that is set between those below it and those above it. -/
theorem rise_ins {out : List S104} (h : riseP out) (m : Nat) (d : S104) (h1 : ∀ x ∈ out.take m, ltk x d = true) (h2 : ∀ hm : m < out.length, ltk d out[m] = true) : riseP (out.take m ++ [d] ++ out.drop m) := by
  unfold riseP at *
  have hs : (out.take m ++ out.drop m).Pairwise (fun a b => ltk a b = true) := by rw [List.take_append_drop]; exact h
  obtain ⟨ha, hb, hc⟩ := List.pairwise_append.1 hs
  have hd : ∀ y ∈ out.drop m, ltk d y = true := fun y hy => by
    by_cases hm : m < out.length
    · rw [List.drop_eq_getElem_cons hm] at hy hb
      rcases List.mem_cons.1 hy with rfl | hy
      · exact h2 hm
      · exact ltk_trans (h2 hm) ((List.pairwise_cons.1 hb).1 y hy)
    · rw [List.drop_of_length_le (by omega)] at hy; cases hy
  rw [List.append_assoc]
  refine List.pairwise_append.2 ⟨ha, List.pairwise_append.2 ⟨List.pairwise_singleton _ _, hb, fun x hx y hy => ?_⟩, fun x hx y hy => ?_⟩
  · rw [List.mem_singleton.1 hx]; exact hd y hy
  · rcases List.mem_append.1 hy with hy | hy
    · rw [List.mem_singleton.1 hy]; exact h1 x hx
    · exact hc x hx y hy
end Go.Proofs.Ytcacckaonjnmjaa.T
