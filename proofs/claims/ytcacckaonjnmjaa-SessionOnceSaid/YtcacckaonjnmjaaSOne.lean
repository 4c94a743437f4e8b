/- Sessions in plain Lean, without the reference. -/
import Derived.Test.YtcacckaonjnmjaaSx8
import Derived.Test.YtcacckaonjnmjaaSx9
import Derived.Test.YtcacckaonjnmjaaSx11
import Derived.Test.YtcacckaonjnmjaaSx12
import Derived.Test.YtcacckaonjnmjaaSx15
import Derived.Test.YtcacckaonjnmjaaSx17
import Derived.Test.YtcacckaonjnmjaaSx27
import Derived.Test.YtcacckaonjnmjaaSx28
import Derived.Test.YtcacckaonjnmjaaSx30
import Derived.Test.YtcacckaonjnmjaaSx31
import Derived.Test.YtcacckaonjnmjaaSHand
namespace Go.Proofs.Ytcacckaonjnmjaa.S
open Go.RowKit Go.Proofs.YtcacckaonjnmjaaW.PrintWords Go.Proofs.YtcacckaonjnmjaaW.PrintLast Go.Proofs.YtcacckaonjnmjaaW.PrintMore
set_option linter.unusedVariables false
set_option linter.unusedSimpArgs false
/-- From some fuel on it is v. -/
def Ev {α : Type} (f : Nat → Option α) (v : α) : Prop := ∃ K, ∀ k, K ≤ k → f k = some v
theorem Ev.step {α : Type} {f : Nat → Option α} {v : α} (h : Ev (fun k => f (k + 1)) v) : Ev f v := by
  obtain ⟨K, h⟩ := h
  refine ⟨K + 1, fun k hk => ?_⟩
  obtain ⟨k, rfl⟩ : ∃ n, k = n + 1 := ⟨k - 1, by omega⟩
  exact h k (by omega)
theorem Ev.pure {α : Type} (v : α) : Ev (fun _ => some v) v := ⟨0, fun _ _ => rfl⟩
theorem Ev.bind {α β : Type} {f : Nat → Option α} {g : Nat → α → Option β} {x : α} {v : β} (h1 : Ev f x) (h2 : Ev (fun k => g k x) v) : Ev (fun k => (f k).bind (g k)) v := by
  obtain ⟨K1, h1⟩ := h1
  obtain ⟨K2, h2⟩ := h2
  refine ⟨K1 + K2, fun k hk => ?_⟩
  show (f k).bind (g k) = some v
  rw [h1 k (by omega)]
  exact h2 k (by omega)
theorem Ev.of_eq {α : Type} {f g : Nat → Option α} {v : α} (h : Ev g v) (e : ∀ k, f k = g k) : Ev f v := by
  obtain ⟨K, h⟩ := h
  exact ⟨K, fun k hk => (e k).trans (h k hk)⟩
theorem Ev.and {α β : Type} {f : Nat → Option α} {g : Nat → Option β} {x : α} {y : β} (h1 : Ev f x) (h2 : Ev g y) : ∃ K, ∀ k, K ≤ k → f k = some x ∧ g k = some y := by
  obtain ⟨K1, h1⟩ := h1
  obtain ⟨K2, h2⟩ := h2
  exact ⟨K1 + K2, fun k hk => ⟨h1 k (by omega), h2 k (by omega)⟩⟩
theorem wrb (n : Int) (h : -9223372036854775808 ≤ n) (h1 : n ≤ 9223372036854775807) : wrap64 n = n := by unfold wrap64; omega
theorem wrn (i : Nat) (h : i ≤ 1000000000000000) : wrap64 ((i : Int) + 1) = ((i + 1 : Nat) : Int) := by rw [wrb _ (by omega) (by omega)]; omega
theorem wrp (i : Nat) (h : i ≤ 1000000000000000) : wrap64 (((i + 1 : Nat) : Int) - 1) = (i : Int) := by rw [wrb _ (by omega) (by omega)]; omega
/-! ### numbers, replies -/
def numB (n m : Int) : Bool := decide (m ≤ n ∧ n < 1099511627776)
theorem Number_f (a m : Int) : session_Number.f a m = some (numB a m) := by
  unfold session_Number.f numB
  by_cases h : a ≥ m
  · rw [if_pos h]; simp [h]
  · rw [if_neg h]; simp [h]
def replyB (a b : Int) (l : List S116) : Bool := decide (0 ≤ a) && (decide (a ≤ 10) && (numB b 0 && ((l.length : Int) == 0)))
theorem reply_f (a b : Int) (l : List S116) : session_reply.f a b l = some (replyB a b l) := by
  unfold session_reply.f replyB
  rw [Number_f]
  by_cases h : a ≥ 0
  · rw [if_pos h, decide_eq_true h]
    by_cases h2 : a ≤ 10
    · rw [if_pos h2, decide_eq_true h2]
      cases numB b 0 <;> rfl
    · rw [if_neg h2, decide_eq_false h2]; rfl
  · rw [if_neg h, decide_eq_false h]; rfl
theorem replyB_nil {a b : Int} {l : List S116} (h : replyB a b l = true) : l = [] := by
  simp only [replyB, Bool.and_eq_true, beq_iff_eq] at h
  exact List.eq_nil_of_length_eq_zero (by omega)
/-! ### May -/
def stepB (l : List S88) (i : Nat) : Bool := numB (rd_T88 l (i : Int)).f0 1 && (numB (rd_T88 l (i : Int)).f1 0 && (numB (rd_T88 l (i : Int)).f3 0 && (replyB (rd_T88 l (i : Int)).f2.f0 (rd_T88 l (i : Int)).f2.f1 (rd_T88 l (i : Int)).f2.f2 && (decide (i = 0) || decide ((rd_T88 l ((i - 1 : Nat) : Int)).f0 < (rd_T88 l (i : Int)).f0)))))
theorem may_step (k : Nat) (l : List S88) (i : Nat) (hi : i < l.length) (hl : l.length ≤ 1000000000000000) : session_May.l0 (k + 1) l l (l.length : Int) (i : Int) = session_May.j1 k l l (l.length : Int) (i : Int) (!stepB l i) := by
  rw [session_May.l0, if_pos (by omega), if_pos (by omega), if_pos (by omega), Number_f, Number_f, Number_f, reply_f, Option.bind_some, Option.bind_some, Option.bind_some, Option.bind_some]
  unfold stepB
  cases numB (rd_T88 l (i : Int)).f0 1
  · rfl
  cases numB (rd_T88 l (i : Int)).f1 0
  · rfl
  cases numB (rd_T88 l (i : Int)).f3 0
  · rfl
  cases replyB (rd_T88 l (i : Int)).f2.f0 (rd_T88 l (i : Int)).f2.f1 (rd_T88 l (i : Int)).f2.f2
  · rfl
  simp only [if_true, Bool.true_and]
  cases i with
  | zero => rfl
  | succ i =>
    rw [if_pos (by omega), wrp i (by omega), if_pos (by omega), if_pos (by omega)]
    congr 1
    rw [Nat.add_sub_cancel, decide_eq_false (Nat.succ_ne_zero i), Bool.false_or, ← decide_not, decide_eq_decide]
    omega
def fromP (l : List S88) (i : Nat) : Prop := ∀ j, i ≤ j → j < l.length → stepB l j = true
def mayP (l : List S88) : Prop := fromP l 0 ∧ l.length ≤ 8
theorem fromP_step {l : List S88} {i : Nat} (h : stepB l i = true) : fromP l i ↔ fromP l (i + 1) :=
  ⟨fun h2 j hj => h2 j (by omega), fun h2 j hj hl => by
    rcases Nat.eq_or_lt_of_le hj with rfl | hj
    · exact h
    · exact h2 j hj hl⟩
theorem may_l0 (l : List S88) (hl : l.length ≤ 1000000000000000) : ∀ d i, i + d = l.length → (fromP l i ∧ l.length ≤ 8 → Ev (fun k => session_May.l0 k l l (l.length : Int) (i : Int)) true) ∧ (¬ (fromP l i ∧ l.length ≤ 8) → Ev (fun k => session_May.l0 k l l (l.length : Int) (i : Int)) false)
  | 0, i, hd => by
    refine ⟨fun h => Ev.step ((Ev.pure true).of_eq fun k => ?_), fun h => Ev.step ((Ev.pure false).of_eq fun k => ?_)⟩
    · rw [session_May.l0, if_neg (by omega), decide_eq_true (by omega)]
    · rw [session_May.l0, if_neg (by omega), decide_eq_false (fun h2 => h ⟨fun j hj hl => by omega, by omega⟩)]
  | d + 1, i, hd => by
    have ih := may_l0 l hl d (i + 1) (by omega)
    cases hs : stepB l i with
    | false =>
      refine ⟨fun h => absurd (h.1 i (Nat.le_refl _) (by omega)) (by rw [hs]; decide), fun _ => Ev.step (Ev.step ((Ev.pure false).of_eq fun k => ?_))⟩
      rw [may_step _ l i (by omega) hl, hs]
      rfl
    | true =>
      rw [fromP_step hs]
      refine ⟨fun h => Ev.step (Ev.step ((ih.1 h).of_eq fun k => ?_)), fun h => Ev.step (Ev.step ((ih.2 h).of_eq fun k => ?_))⟩ <;>
      · rw [may_step _ l i (by omega) hl, hs, session_May.j1, wrn i (by omega)]
        rfl
theorem may_yes {l : List S88} (h : mayP l) : Ev (fun k => session_May.f k l) true := (may_l0 l (by have := h.2; omega) l.length 0 (by omega)).1 h
/-! ### what sessions that may be are like -/
theorem stepB_parts {l : List S88} {i : Nat} (h : stepB l i = true) : (rd_T88 l (i : Int)).f2.f2 = [] ∧ (i = 0 ∨ (rd_T88 l ((i - 1 : Nat) : Int)).f0 < (rd_T88 l (i : Int)).f0) := by
  simp only [stepB, Bool.and_eq_true, Bool.or_eq_true, decide_eq_true_eq] at h
  exact ⟨replyB_nil h.2.2.2.1, h.2.2.2.2⟩
theorem clr_id {x : S88} (h : x.f2.f2 = []) : clr x = x := by
  obtain ⟨a, b, ⟨c, d, e⟩, f⟩ := x
  obtain rfl : e = [] := h
  rfl
theorem mayP_clr {l : List S88} (h : mayP l) : l.map clr = l := by
  refine List.ext_getElem (List.length_map _) (fun i h1 h2 => ?_)
  rw [List.getElem_map]
  have := (stepB_parts (h.1 i (Nat.zero_le _) h2)).1
  rw [rd88_at l i h2] at this
  exact clr_id this
theorem mayP_rise {l : List S88} (h : mayP l) : riseS l := by
  refine List.pairwise_iff_getElem.2 (fun i j hi hj hij => ?_)
  have key : ∀ d j, j = i + 1 + d → (hj : j < l.length) → l[i].f0 < l[j].f0 := by
    intro d
    induction d with
    | zero =>
      intro j e hj
      subst e
      have := (stepB_parts (h.1 (i + 1) (Nat.zero_le _) hj)).2
      rw [Nat.add_sub_cancel, rd88_at l i hi, rd88_at l (i + 1) hj] at this
      exact this.resolve_left (by omega)
    | succ d ih =>
      intro j e hj
      subst e
      have := (stepB_parts (h.1 (i + 1 + (d + 1)) (Nat.zero_le _) hj)).2
      rw [show i + 1 + (d + 1) - 1 = i + 1 + d by omega, rd88_at l (i + 1 + d) (by omega), rd88_at l (i + 1 + (d + 1)) hj] at this
      have h2 := ih (i + 1 + d) rfl (by omega)
      have h3 := this.resolve_left (by omega)
      omega
  exact key (j - (i + 1)) j (by omega) hj
theorem place_is {l : List S88} (h : riseS l) (a : Int) : PlaceS l a (placeS l a) := by
  have key : ∀ d i, i + d = l.length → (∀ t : Nat, t < i → (rd_T88 l (t : Int)).f0 < a) → ∃ p, PlaceS l a p := by
    intro d
    induction d with
    | zero => intro i e hi; exact ⟨i, by omega, hi, fun t h1 h2 => by omega⟩
    | succ d ih =>
      intro i e hi
      by_cases hc : (rd_T88 l (i : Int)).f0 < a
      · exact ih (i + 1) (by omega) (fun t ht => by
          rcases Nat.lt_succ_iff_lt_or_eq.1 ht with h1 | rfl
          · exact hi t h1
          · exact hc)
      · refine ⟨i, by omega, hi, fun t h1 h2 h3 => ?_⟩
        rcases Nat.eq_or_lt_of_le h1 with rfl | h4
        · exact hc h3
        · have := riseS_at h i t h4 h2
          omega
  obtain ⟨p, hp⟩ := key l.length 0 (by omega) (fun t ht => by omega)
  have := place_count hp
  unfold placeS
  rw [this]
  exact hp
theorem any_iff {l : List S88} (h : riseS l) (a : Int) : l.any (fun x => x.f0 == a) = decide (placeS l a < l.length ∧ (rd_T88 l (placeS l a : Int)).f0 = a) := place_any (place_is h a) h
theorem eqHits_l0 (l : List S116) (hl : l.length ≤ 1000000000) : ∀ d i, i + d = l.length → Ev (fun k => lecternref0_EqHits.l0 k l l (i : Int)) true
  | 0, i, hd => by
    refine Ev.step ((Ev.pure true).of_eq fun k => ?_)
    rw [lecternref0_EqHits.l0, if_neg (by omega)]
  | d + 1, i, hd => by
    have ih := eqHits_l0 l hl d (i + 1) (by omega)
    refine Ev.step (ih.of_eq fun k => ?_)
    rw [lecternref0_EqHits.l0, if_pos (by omega), if_pos (by omega), if_pos (by omega), if_neg (by simp), wrn i (by omega)]
theorem eqHits_is (l : List S116) (hl : l.length ≤ 1000000000) : Ev (fun k => lecternref0_EqHits.f k l l) true :=
  (eqHits_l0 l hl l.length 0 (by omega)).of_eq fun k => by unfold lecternref0_EqHits.f; rw [if_pos rfl]; rfl
theorem eqReply_is (a b : Int) (l : List S116) (hl : l.length ≤ 1000000000) : Ev (fun k => lecternref0_EqReply.f k a b l a b l) true :=
  (Ev.bind (g := fun _ t => some t) (eqHits_is l hl) (Ev.pure true)).of_eq fun k => by unfold lecternref0_EqReply.f; rw [if_pos rfl, if_pos rfl]
/-! ### the layer -/
def anyS (l : List S88) (a : Int) : Bool := l.any (fun x => x.f0 == a)
def openV (l : List S88) (a : Int) : List S88 × Int := if numB a 1 = true then (if anyS l a = true then ([], 1) else (openTo l a, 0)) else ([], 1)
theorem open_may {l : List S88} (h : mayP l) (a : Int) : Ev (fun k => session_Open.f k l a) (openV l a) := by
  refine Ev.bind (may_yes h) ((Ev.pure (openV l a)).of_eq fun k => ?_)
  unfold openV numB anyS
  rw [if_pos rfl]
  by_cases h1 : 1 ≤ a ∧ a < 1099511627776
  · rw [if_pos h1, decide_eq_true h1, if_pos ⟨mayP_rise h, h.2⟩, if_pos rfl]
    split <;> rfl
  · rw [if_neg h1, decide_eq_false h1]; rfl
def doneV (l : List S88) (a1 a2 r0 r1 : Int) (hs : List S116) (a4 : Int) : List S88 × Int := if numB a2 1 = true then (if numB a4 1 = true then (if replyB r0 r1 hs = true then (if anyS l a1 = true then (doneTo l a1 a2 r0 r1 a4, 0) else ([], 9)) else ([], 1)) else ([], 1)) else ([], 1)
theorem done_may {l : List S88} (h : mayP l) (a1 a2 r0 r1 : Int) (hs : List S116) (a4 : Int) : Ev (fun k => session_Done.f k l a1 a2 r0 r1 hs a4) (doneV l a1 a2 r0 r1 hs a4) := by
  refine Ev.bind (may_yes h) ((Ev.pure (doneV l a1 a2 r0 r1 hs a4)).of_eq fun k => ?_)
  unfold doneV numB anyS
  rw [if_pos rfl, reply_f, Option.bind_some]
  by_cases h1 : 1 ≤ a2 ∧ a2 < 1099511627776
  · rw [if_pos h1, decide_eq_true h1, if_pos rfl]
    by_cases h4 : 1 ≤ a4 ∧ a4 < 1099511627776
    · rw [if_pos h4, decide_eq_true h4, if_pos rfl]
      split
      · rw [if_pos ⟨mayP_rise h, h.2⟩]
        split <;> rfl
      · rfl
    · rw [if_neg h4, decide_eq_false h4]; rfl
  · rw [if_neg h1, decide_eq_false h1]; rfl
def closeV (l : List S88) (a : Int) : List S88 × Int := if anyS l a = true then (l.eraseIdx (placeS l a), 0) else ([], 9)
theorem find_f {l : List S88} (h : mayP l) (a : Int) : session_find.f l a = some ((placeS l a : Int), anyS l a) := by
  unfold session_find.f
  rw [if_pos ⟨mayP_rise h, by have := h.2; omega⟩]
  rfl
theorem close_may {l : List S88} (h : mayP l) (a : Int) : Ev (fun k => session_Close.f k l a) (closeV l a) := by
  refine Ev.bind (may_yes h) ((Ev.pure (closeV l a)).of_eq fun k => ?_)
  unfold closeV
  rw [if_pos rfl, find_f h, Option.bind_some]
  show (if anyS l a = true then _ else _) = _
  split
  · rename_i ha
    have := placeS_lt ha
    show (session_without.f l (placeS l a : Int)).bind _ = _
    unfold session_without.f
    rw [if_pos ⟨by have := h.2; omega, by omega, by omega⟩, Option.bind_some, mayP_clr h, Int.toNat_natCast]
  · rfl
def beginV (l : List S88) (a1 a2 : Int) : Int × Int × List S116 × Bool × Int := if numB a2 1 = true then (if anyS l a1 = true then (if a2 < (rd_T88 l (placeS l a1 : Int)).f1 then (0, 0, [], false, 10) else (if a2 = (rd_T88 l (placeS l a1 : Int)).f1 then ((rd_T88 l (placeS l a1 : Int)).f2.f0, (rd_T88 l (placeS l a1 : Int)).f2.f1, [], true, 0) else (0, 0, [], false, 0))) else (0, 0, [], false, 9)) else (0, 0, [], false, 1)
theorem begin_may {l : List S88} (h : mayP l) (a1 a2 : Int) : Ev (fun k => session_Begin.f k l a1 a2) (beginV l a1 a2) := by
  refine Ev.bind (may_yes h) ?_
  refine Ev.of_eq (g := fun k => session_Begin.j0 k l a1 a2 (!numB a2 1)) (Ev.step ((Ev.pure (beginV l a1 a2)).of_eq fun k => ?_)) (fun k => by rw [if_pos rfl, Number_f]; rfl)
  unfold beginV
  rw [session_Begin.j0]
  cases numB a2 1
  · rfl
  rw [if_neg (by decide), if_pos rfl, find_f h, Option.bind_some]
  show (if anyS l a1 = true then _ else _) = _
  split
  · rename_i ha
    have := placeS_lt ha
    show (if 0 ≤ (placeS l a1 : Int) then _ else _) = _
    rw [if_pos (by omega), if_pos (show ((placeS l a1 : Int), anyS l a1).1 < _ by show (placeS l a1 : Int) < _; omega)]
    show (if a2 < (rd_T88 l (placeS l a1 : Int)).f1 then _ else (if a2 = (rd_T88 l (placeS l a1 : Int)).f1 then _ else _)) = _
    split
    · rfl
    · split <;> rfl
  · rfl
theorem mayP_nil : mayP [] := ⟨fun j _ h => absurd h (Nat.not_lt_zero j), Nat.zero_le _⟩
theorem wakes_is : Ev (fun k => lecternlaw14_wakes.f k) true :=
  Ev.bind (open_may mayP_nil 3) ((Ev.pure true).of_eq fun k => rfl)
end Go.Proofs.Ytcacckaonjnmjaa.S
