/- Sessions in plain Lean: fuel, numbers, May, Find. -/
import Derived.Test.YtcacckaonjnmjaaSx6
import Derived.Test.YtcacckaonjnmjaaSx8
import Derived.Test.YtcacckaonjnmjaaSx9
import Derived.Test.YtcacckaonjnmjaaSx13
import Derived.Test.YtcacckaonjnmjaaSHand
namespace Go.Proofs.Ytcacckaonjnmjaa.S
open Go.RowKit Go.Proofs.YtcacckaonjnmjaaW.PrintWords Go.Proofs.YtcacckaonjnmjaaW.PrintLast Go.Proofs.YtcacckaonjnmjaaW.PrintMore
set_option linter.unusedVariables false
set_option linter.unusedSimpArgs false
/-- From some fuel on it is v. -/
def Ev {α : Type} (f : Nat → Option α) (v : α) : Prop := ∃ K, ∀ k, K ≤ k → f k = some v
theorem Ev.step {α : Type} {f : Nat → Option α} {v : α} (h : Ev (fun k => f (k + 1)) v) : Ev f v := by
  obtain ⟨K, h⟩ := h
  refine ⟨K + 1, fun k hk => ?_⟩
  obtain ⟨k, rfl⟩ : ∃ n, k = n + 1 := ⟨k - 1, by omega⟩
  exact h k (by omega)
theorem Ev.pure {α : Type} (v : α) : Ev (fun _ => some v) v := ⟨0, fun _ _ => rfl⟩
theorem Ev.bind {α β : Type} {f : Nat → Option α} {g : Nat → α → Option β} {x : α} {v : β} (h1 : Ev f x) (h2 : Ev (fun k => g k x) v) : Ev (fun k => (f k).bind (g k)) v := by
  obtain ⟨K1, h1⟩ := h1
  obtain ⟨K2, h2⟩ := h2
  refine ⟨K1 + K2, fun k hk => ?_⟩
  show (f k).bind (g k) = some v
  rw [h1 k (by omega)]
  exact h2 k (by omega)
theorem Ev.of_eq {α : Type} {f g : Nat → Option α} {v : α} (h : Ev g v) (e : ∀ k, f k = g k) : Ev f v := by
  obtain ⟨K, h⟩ := h
  exact ⟨K, fun k hk => (e k).trans (h k hk)⟩
theorem Ev.and {α β : Type} {f : Nat → Option α} {g : Nat → Option β} {x : α} {y : β} (h1 : Ev f x) (h2 : Ev g y) : ∃ K, ∀ k, K ≤ k → f k = some x ∧ g k = some y := by
  obtain ⟨K1, h1⟩ := h1
  obtain ⟨K2, h2⟩ := h2
  exact ⟨K1 + K2, fun k hk => ⟨h1 k (by omega), h2 k (by omega)⟩⟩
theorem wrb (n : Int) (h : -9223372036854775808 ≤ n) (h1 : n ≤ 9223372036854775807) : wrap64 n = n := by unfold wrap64; omega
theorem wrn (i : Nat) (h : i ≤ 1000000000000000) : wrap64 ((i : Int) + 1) = ((i + 1 : Nat) : Int) := by rw [wrb _ (by omega) (by omega)]; omega
theorem wrp (i : Nat) (h : i ≤ 1000000000000000) : wrap64 (((i + 1 : Nat) : Int) - 1) = (i : Int) := by rw [wrb _ (by omega) (by omega)]; omega
/-! ### numbers, replies -/
def numB (n m : Int) : Bool := decide (m ≤ n ∧ n < 1099511627776)
theorem id_f (a : Int) : lecternref14_id.f a = some (numB a 1) := by
  unfold lecternref14_id.f numB
  by_cases h : a ≥ 1
  · rw [if_pos h]; simp [h]
  · rw [if_neg h]; simp [h]
theorem Num_f (a : Int) : lecternref0_Num.f a = some (numB a 0) := by
  unfold lecternref0_Num.f numB
  by_cases h : a ≥ 0
  · rw [if_pos h]; simp [h]
  · rw [if_neg h]; simp [h]
theorem Number_f (a m : Int) : session_Number.f a m = some (numB a m) := by
  unfold session_Number.f numB
  by_cases h : a ≥ m
  · rw [if_pos h]; simp [h]
  · rw [if_neg h]; simp [h]
def replyB (a b : Int) (l : List S116) : Bool := decide (0 ≤ a) && (decide (a ≤ 10) && (numB b 0 && ((l.length : Int) == 0)))
theorem reply_f (a b : Int) (l : List S116) : session_reply.f a b l = some (replyB a b l) := by
  unfold session_reply.f replyB
  rw [Number_f]
  by_cases h : a ≥ 0
  · rw [if_pos h, decide_eq_true h]
    by_cases h2 : a ≤ 10
    · rw [if_pos h2, decide_eq_true h2]
      cases numB b 0 <;> rfl
    · rw [if_neg h2, decide_eq_false h2]; rfl
  · rw [if_neg h, decide_eq_false h]; rfl
theorem MayReply_f (a b : Int) (l : List S116) : lecternref14_MayReply.f a b l = some (replyB a b l) := by
  unfold lecternref14_MayReply.f replyB
  rw [Num_f]
  by_cases h : a ≥ 0
  · rw [if_pos h, decide_eq_true h]
    by_cases h2 : a ≤ 10
    · rw [if_pos h2, decide_eq_true h2]
      cases numB b 0 <;> rfl
    · rw [if_neg h2, decide_eq_false h2]; rfl
  · rw [if_neg h, decide_eq_false h]; rfl
theorem replyB_nil {a b : Int} {l : List S116} (h : replyB a b l = true) : l = [] := by
  simp only [replyB, Bool.and_eq_true, beq_iff_eq] at h
  exact List.eq_nil_of_length_eq_zero (by omega)
/-! ### May -/
def stepB (l : List S88) (i : Nat) : Bool := numB (rd_T88 l (i : Int)).f0 1 && (numB (rd_T88 l (i : Int)).f1 0 && (numB (rd_T88 l (i : Int)).f3 0 && (replyB (rd_T88 l (i : Int)).f2.f0 (rd_T88 l (i : Int)).f2.f1 (rd_T88 l (i : Int)).f2.f2 && (decide (i = 0) || decide ((rd_T88 l ((i - 1 : Nat) : Int)).f0 < (rd_T88 l (i : Int)).f0)))))
theorem ref_step (k : Nat) (l : List S88) (i : Nat) (hi : i < l.length) (hl : l.length ≤ 1000000000000000) : lecternref14_May.l0 (k + 1) l (i : Int) = lecternref14_May.j1 k l (i : Int) (!stepB l i) := by
  rw [lecternref14_May.l0, if_pos (by omega), if_pos (by omega), id_f, Num_f, Num_f, MayReply_f, Option.bind_some, Option.bind_some, Option.bind_some, Option.bind_some]
  unfold stepB
  cases numB (rd_T88 l (i : Int)).f0 1
  · rfl
  cases numB (rd_T88 l (i : Int)).f1 0
  · rfl
  cases numB (rd_T88 l (i : Int)).f3 0
  · rfl
  cases replyB (rd_T88 l (i : Int)).f2.f0 (rd_T88 l (i : Int)).f2.f1 (rd_T88 l (i : Int)).f2.f2
  · rfl
  simp only [if_true, Bool.true_and]
  cases i with
  | zero => rfl
  | succ i =>
    rw [if_pos (by omega), wrp i (by omega), if_pos (by omega), if_pos (by omega)]
    congr 1
    rw [Nat.add_sub_cancel, decide_eq_false (Nat.succ_ne_zero i), Bool.false_or, ← decide_not, decide_eq_decide]
    omega
theorem may_step (k : Nat) (l : List S88) (i : Nat) (hi : i < l.length) (hl : l.length ≤ 1000000000000000) : session_May.l0 (k + 1) l l (l.length : Int) (i : Int) = session_May.j1 k l l (l.length : Int) (i : Int) (!stepB l i) := by
  rw [session_May.l0, if_pos (by omega), if_pos (by omega), if_pos (by omega), Number_f, Number_f, Number_f, reply_f, Option.bind_some, Option.bind_some, Option.bind_some, Option.bind_some]
  unfold stepB
  cases numB (rd_T88 l (i : Int)).f0 1
  · rfl
  cases numB (rd_T88 l (i : Int)).f1 0
  · rfl
  cases numB (rd_T88 l (i : Int)).f3 0
  · rfl
  cases replyB (rd_T88 l (i : Int)).f2.f0 (rd_T88 l (i : Int)).f2.f1 (rd_T88 l (i : Int)).f2.f2
  · rfl
  simp only [if_true, Bool.true_and]
  cases i with
  | zero => rfl
  | succ i =>
    rw [if_pos (by omega), wrp i (by omega), if_pos (by omega), if_pos (by omega)]
    congr 1
    rw [Nat.add_sub_cancel, decide_eq_false (Nat.succ_ne_zero i), Bool.false_or, ← decide_not, decide_eq_decide]
    omega
def fromP (l : List S88) (i : Nat) : Prop := ∀ j, i ≤ j → j < l.length → stepB l j = true
def mayP (l : List S88) : Prop := fromP l 0 ∧ l.length ≤ 8
theorem fromP_step {l : List S88} {i : Nat} (h : stepB l i = true) : fromP l i ↔ fromP l (i + 1) :=
  ⟨fun h2 j hj => h2 j (by omega), fun h2 j hj hl => by
    rcases Nat.eq_or_lt_of_le hj with rfl | hj
    · exact h
    · exact h2 j hj hl⟩
theorem ref_l0 (l : List S88) (hl : l.length ≤ 1000000000000000) : ∀ d i, i + d = l.length → (fromP l i → Ev (fun k => lecternref14_May.l0 k l (i : Int)) true) ∧ (¬ fromP l i → Ev (fun k => lecternref14_May.l0 k l (i : Int)) false)
  | 0, i, hd => by
    refine ⟨fun _ => Ev.step ((Ev.pure true).of_eq fun k => ?_), fun h => absurd (fun j hj hl => by omega) h⟩
    rw [lecternref14_May.l0, if_neg (by omega)]
  | d + 1, i, hd => by
    have ih := ref_l0 l hl d (i + 1) (by omega)
    cases hs : stepB l i with
    | false =>
      refine ⟨fun h => absurd (h i (Nat.le_refl _) (by omega)) (by rw [hs]; decide), fun _ => Ev.step (Ev.step ((Ev.pure false).of_eq fun k => ?_))⟩
      rw [ref_step _ l i (by omega) hl, hs]
      rfl
    | true =>
      rw [fromP_step hs]
      refine ⟨fun h => Ev.step (Ev.step ((ih.1 h).of_eq fun k => ?_)), fun h => Ev.step (Ev.step ((ih.2 h).of_eq fun k => ?_))⟩ <;>
      · rw [ref_step _ l i (by omega) hl, hs, lecternref14_May.j1, wrn i (by omega)]
        rfl
theorem may_l0 (l : List S88) (hl : l.length ≤ 1000000000000000) : ∀ d i, i + d = l.length → (fromP l i ∧ l.length ≤ 8 → Ev (fun k => session_May.l0 k l l (l.length : Int) (i : Int)) true) ∧ (¬ (fromP l i ∧ l.length ≤ 8) → Ev (fun k => session_May.l0 k l l (l.length : Int) (i : Int)) false)
  | 0, i, hd => by
    refine ⟨fun h => Ev.step ((Ev.pure true).of_eq fun k => ?_), fun h => Ev.step ((Ev.pure false).of_eq fun k => ?_)⟩
    · rw [session_May.l0, if_neg (by omega), decide_eq_true (by omega)]
    · rw [session_May.l0, if_neg (by omega), decide_eq_false (fun h2 => h ⟨fun j hj hl => by omega, by omega⟩)]
  | d + 1, i, hd => by
    have ih := may_l0 l hl d (i + 1) (by omega)
    cases hs : stepB l i with
    | false =>
      refine ⟨fun h => absurd (h.1 i (Nat.le_refl _) (by omega)) (by rw [hs]; decide), fun _ => Ev.step (Ev.step ((Ev.pure false).of_eq fun k => ?_))⟩
      rw [may_step _ l i (by omega) hl, hs]
      rfl
    | true =>
      rw [fromP_step hs]
      refine ⟨fun h => Ev.step (Ev.step ((ih.1 h).of_eq fun k => ?_)), fun h => Ev.step (Ev.step ((ih.2 h).of_eq fun k => ?_))⟩ <;>
      · rw [may_step _ l i (by omega) hl, hs, session_May.j1, wrn i (by omega)]
        rfl
theorem refMay_yes {l : List S88} (h : mayP l) : Ev (fun k => lecternref14_May.f k l) true :=
  ((ref_l0 l (by have := h.2; omega) l.length 0 (by omega)).1 h.1).of_eq fun k => by unfold lecternref14_May.f; rw [if_neg (by have := h.2; omega)]; rfl
theorem refMay_no {l : List S88} (h : ¬ mayP l) : Ev (fun k => lecternref14_May.f k l) false := by
  by_cases hl : l.length ≤ 8
  · exact ((ref_l0 l (by omega) l.length 0 (by omega)).2 (fun h2 => h ⟨h2, hl⟩)).of_eq fun k => by unfold lecternref14_May.f; rw [if_neg (by omega)]; rfl
  · exact (Ev.pure false).of_eq fun k => by unfold lecternref14_May.f; rw [if_pos (by omega)]
theorem may_yes {l : List S88} (h : mayP l) : Ev (fun k => session_May.f k l) true := (may_l0 l (by have := h.2; omega) l.length 0 (by omega)).1 h
theorem may_no {l : List S88} (hl : l.length ≤ 1000000000000000) (h : ¬ mayP l) : Ev (fun k => session_May.f k l) false := (may_l0 l hl l.length 0 (by omega)).2 h
/-! ### what sessions that may be are like -/
theorem stepB_parts {l : List S88} {i : Nat} (h : stepB l i = true) : (rd_T88 l (i : Int)).f2.f2 = [] ∧ (i = 0 ∨ (rd_T88 l ((i - 1 : Nat) : Int)).f0 < (rd_T88 l (i : Int)).f0) := by
  simp only [stepB, Bool.and_eq_true, Bool.or_eq_true, decide_eq_true_eq] at h
  exact ⟨replyB_nil h.2.2.2.1, h.2.2.2.2⟩
theorem clr_id {x : S88} (h : x.f2.f2 = []) : clr x = x := by
  obtain ⟨a, b, ⟨c, d, e⟩, f⟩ := x
  obtain rfl : e = [] := h
  rfl
theorem mayP_clr {l : List S88} (h : mayP l) : l.map clr = l := by
  refine List.ext_getElem (List.length_map _) (fun i h1 h2 => ?_)
  rw [List.getElem_map]
  have := (stepB_parts (h.1 i (Nat.zero_le _) h2)).1
  rw [rd88_at l i h2] at this
  exact clr_id this
theorem mayP_rise {l : List S88} (h : mayP l) : riseS l := by
  refine List.pairwise_iff_getElem.2 (fun i j hi hj hij => ?_)
  have key : ∀ d j, j = i + 1 + d → (hj : j < l.length) → l[i].f0 < l[j].f0 := by
    intro d
    induction d with
    | zero =>
      intro j e hj
      subst e
      have := (stepB_parts (h.1 (i + 1) (Nat.zero_le _) hj)).2
      rw [Nat.add_sub_cancel, rd88_at l i hi, rd88_at l (i + 1) hj] at this
      exact this.resolve_left (by omega)
    | succ d ih =>
      intro j e hj
      subst e
      have := (stepB_parts (h.1 (i + 1 + (d + 1)) (Nat.zero_le _) hj)).2
      rw [show i + 1 + (d + 1) - 1 = i + 1 + d by omega, rd88_at l (i + 1 + d) (by omega), rd88_at l (i + 1 + (d + 1)) hj] at this
      have h2 := ih (i + 1 + d) rfl (by omega)
      have h3 := this.resolve_left (by omega)
      omega
  exact key (j - (i + 1)) j (by omega) hj
theorem place_is {l : List S88} (h : riseS l) (a : Int) : PlaceS l a (placeS l a) := by
  have key : ∀ d i, i + d = l.length → (∀ t : Nat, t < i → (rd_T88 l (t : Int)).f0 < a) → ∃ p, PlaceS l a p := by
    intro d
    induction d with
    | zero => intro i e hi; exact ⟨i, by omega, hi, fun t h1 h2 => by omega⟩
    | succ d ih =>
      intro i e hi
      by_cases hc : (rd_T88 l (i : Int)).f0 < a
      · exact ih (i + 1) (by omega) (fun t ht => by
          rcases Nat.lt_succ_iff_lt_or_eq.1 ht with h1 | rfl
          · exact hi t h1
          · exact hc)
      · refine ⟨i, by omega, hi, fun t h1 h2 h3 => ?_⟩
        rcases Nat.eq_or_lt_of_le h1 with rfl | h4
        · exact hc h3
        · have := riseS_at h i t h4 h2
          omega
  obtain ⟨p, hp⟩ := key l.length 0 (by omega) (fun t ht => by omega)
  have := place_count hp
  unfold placeS
  rw [this]
  exact hp
theorem any_iff {l : List S88} (h : riseS l) (a : Int) : l.any (fun x => x.f0 == a) = decide (placeS l a < l.length ∧ (rd_T88 l (placeS l a : Int)).f0 = a) := place_any (place_is h a) h
/-! ### Find -/
theorem find_l0 (l : List S88) (a : Int) (hl : l.length ≤ 1000000) (hr : riseS l) (ha : l.any (fun x => x.f0 == a) = true) : ∀ d i, i + d = placeS l a → Ev (fun k => lecternref14_Find.l0 k l a (i : Int)) (placeS l a : Int)
  | 0, i, hd => by
    have h := any_iff hr a
    rw [ha] at h
    have h := of_decide_eq_true h.symm
    obtain rfl : i = placeS l a := by omega
    refine Ev.step ((Ev.pure _).of_eq fun k => ?_)
    rw [lecternref14_Find.l0, if_pos (by omega), if_pos (by omega), if_pos h.2]
  | d + 1, i, hd => by
    have ih := find_l0 l a hl hr ha d (i + 1) (by omega)
    have h := place_is hr a
    have h2 := h.2.1 i (by omega)
    refine Ev.step (ih.of_eq fun k => ?_)
    rw [lecternref14_Find.l0, if_pos (by have := h.1; omega), if_pos (by omega), if_neg (by omega), wrn i (by have := h.1; omega)]
theorem find_no (l : List S88) (a : Int) (hl : l.length ≤ 1000000) (ha : l.any (fun x => x.f0 == a) = false) : ∀ d i, i + d = l.length → Ev (fun k => lecternref14_Find.l0 k l a (i : Int)) (-1)
  | 0, i, hd => by
    refine Ev.step ((Ev.pure _).of_eq fun k => ?_)
    rw [lecternref14_Find.l0, if_neg (by omega)]
  | d + 1, i, hd => by
    have ih := find_no l a hl ha d (i + 1) (by omega)
    have h2 : ¬ (rd_T88 l (i : Int)).f0 = a := fun he => by
      rw [rd88_at l i (by omega)] at he
      exact List.any_eq_false.1 ha l[i] (List.getElem_mem _) (beq_iff_eq.2 he)
    refine Ev.step (ih.of_eq fun k => ?_)
    rw [lecternref14_Find.l0, if_pos (by omega), if_pos (by omega), if_neg h2, wrn i (by omega)]
def findV (l : List S88) (a : Int) : Int := if l.any (fun x => x.f0 == a) = true then (placeS l a : Int) else -1
theorem find_is (l : List S88) (a : Int) (hl : l.length ≤ 1000000) (hr : riseS l) : Ev (fun k => lecternref14_Find.f k l a) (findV l a) := by
  unfold findV lecternref14_Find.f
  by_cases ha : l.any (fun x => x.f0 == a) = true
  · rw [if_pos ha]; exact find_l0 l a hl hr ha (placeS l a) 0 (by omega)
  · rw [if_neg ha]; exact find_no l a hl (Bool.eq_false_iff.2 ha) l.length 0 (by omega)
end Go.Proofs.Ytcacckaonjnmjaa.S
