/- Sessions: rows of one's own (ILA, ILB, ILC, ILD). -/
import Derived.Test.YticlghbdapbdnaaIx9
import Derived.Test.YticlghbdapbdnaaIx43
import Derived.Test.YticlghbdapbdnaaIM
import Derived.Test.YticlghbdapbdnaaIx19
import Derived.Test.YticlghbdapbdnaaIx45
import Derived.Test.YticlghbdapbdnaaOpen
/-! ILA -/
namespace Go.Proofs.Yticlghbdapbdnaa.I
open Go.RowKit Go.Proofs.YticlghbdapbdnaaW.PrintWords Go.Proofs.YticlghbdapbdnaaW.PrintLast Go.Proofs.YticlghbdapbdnaaW.PrintMore
set_option linter.unusedVariables false
set_option linter.unusedSimpArgs false
/-- From some fuel on it is v. -/
def Ev {α : Type} (f : Nat → Option α) (v : α) : Prop := ∃ K, ∀ k, K ≤ k → f k = some v
theorem Ev.step {α : Type} {f : Nat → Option α} {v : α} (h : Ev (fun k => f (k + 1)) v) : Ev f v := by
  obtain ⟨K, h⟩ := h
  refine ⟨K + 1, fun k hk => ?_⟩
  obtain ⟨k, rfl⟩ : ∃ n, k = n + 1 := ⟨k - 1, by omega⟩
  exact h k (by omega)
theorem Ev.pure {α : Type} (v : α) : Ev (fun _ => some v) v := ⟨0, fun _ _ => rfl⟩
theorem Ev.bind {α β : Type} {f : Nat → Option α} {g : Nat → α → Option β} {x : α} {v : β} (h1 : Ev f x) (h2 : Ev (fun k => g k x) v) : Ev (fun k => (f k).bind (g k)) v := by
  obtain ⟨K1, h1⟩ := h1
  obtain ⟨K2, h2⟩ := h2
  refine ⟨K1 + K2, fun k hk => ?_⟩
  show (f k).bind (g k) = some v
  rw [h1 k (by omega)]
  exact h2 k (by omega)
theorem Ev.of_eq {α : Type} {f g : Nat → Option α} {v : α} (h : Ev g v) (e : ∀ k, f k = g k) : Ev f v := by
  obtain ⟨K, h⟩ := h
  exact ⟨K, fun k hk => (e k).trans (h k hk)⟩
theorem Ev.and {α β : Type} {f : Nat → Option α} {g : Nat → Option β} {x : α} {y : β} (h1 : Ev f x) (h2 : Ev g y) : ∃ K, ∀ k, K ≤ k → f k = some x ∧ g k = some y := by
  obtain ⟨K1, h1⟩ := h1
  obtain ⟨K2, h2⟩ := h2
  exact ⟨K1 + K2, fun k hk => ⟨h1 k (by omega), h2 k (by omega)⟩⟩
theorem wrb (n : Int) (h : -9223372036854775808 ≤ n) (h1 : n ≤ 9223372036854775807) : wrap64 n = n := by unfold wrap64; omega
theorem wrn (i : Nat) (h : i ≤ 1000000000000000) : wrap64 ((i : Int) + 1) = ((i + 1 : Nat) : Int) := by rw [wrb _ (by omega) (by omega)]; omega
theorem wrp (i : Nat) (h : i ≤ 1000000000000000) : wrap64 (((i + 1 : Nat) : Int) - 1) = (i : Int) := by rw [wrb _ (by omega) (by omega)]; omega
/-! ### numbers, replies -/
def numB (n m : Int) : Bool := decide (m ≤ n ∧ n < 1099511627776)
theorem id_f (a : Int) : lecternref14_id.f a = some (numB a 1) := by
  unfold lecternref14_id.f numB
  by_cases h : a ≥ 1
  · rw [if_pos h]; simp [h]
  · rw [if_neg h]; simp [h]
theorem Num_f (a : Int) : lecternref0_Num.f a = some (numB a 0) := by
  unfold lecternref0_Num.f numB
  by_cases h : a ≥ 0
  · rw [if_pos h]; simp [h]
  · rw [if_neg h]; simp [h]
theorem Number_f (a m : Int) : session_Number.f a m = some (numB a m) := by
  unfold session_Number.f numB
  by_cases h : a ≥ m
  · rw [if_pos h]; simp [h]
  · rw [if_neg h]; simp [h]
def replyB (a b : Int) (l : List S96) : Bool := decide (0 ≤ a) && (decide (a ≤ 10) && (numB b 0 && ((l.length : Int) == 0)))
theorem reply_f (a b : Int) (l : List S96) : session_reply.f a b l = some (replyB a b l) := by
  unfold session_reply.f replyB
  rw [Number_f]
  by_cases h : a ≥ 0
  · rw [if_pos h, decide_eq_true h]
    by_cases h2 : a ≤ 10
    · rw [if_pos h2, decide_eq_true h2]
      cases numB b 0 <;> rfl
    · rw [if_neg h2, decide_eq_false h2]; rfl
  · rw [if_neg h, decide_eq_false h]; rfl
theorem MayReply_f (a b : Int) (l : List S96) : lecternref14_MayReply.f a b l = some (replyB a b l) := by
  unfold lecternref14_MayReply.f replyB
  rw [Num_f]
  by_cases h : a ≥ 0
  · rw [if_pos h, decide_eq_true h]
    by_cases h2 : a ≤ 10
    · rw [if_pos h2, decide_eq_true h2]
      cases numB b 0 <;> rfl
    · rw [if_neg h2, decide_eq_false h2]; rfl
  · rw [if_neg h, decide_eq_false h]; rfl
theorem replyB_nil {a b : Int} {l : List S96} (h : replyB a b l = true) : l = [] := by
  simp only [replyB, Bool.and_eq_true, beq_iff_eq] at h
  exact List.eq_nil_of_length_eq_zero (by omega)
/-! ### May -/
def stepB (l : List S47) (i : Nat) : Bool := numB (rd_T47 l (i : Int)).f0 1 && (numB (rd_T47 l (i : Int)).f1 0 && (numB (rd_T47 l (i : Int)).f3 0 && (replyB (rd_T47 l (i : Int)).f2.f0 (rd_T47 l (i : Int)).f2.f1 (rd_T47 l (i : Int)).f2.f2 && (decide (i = 0) || decide ((rd_T47 l ((i - 1 : Nat) : Int)).f0 < (rd_T47 l (i : Int)).f0)))))
theorem ref_step (k : Nat) (l : List S47) (i : Nat) (hi : i < l.length) (hl : l.length ≤ 1000000000000000) : lecternref14_May.l0 (k + 1) l (i : Int) = if stepB l i = true then lecternref14_May.l0 k l (wrap64 ((i : Int) + 1)) else none := by
  rw [lecternref14_May.l0, if_pos (by omega), if_pos (by omega), id_f, Num_f, Num_f, MayReply_f, Option.bind_some, Option.bind_some, Option.bind_some, Option.bind_some]
  unfold stepB
  cases numB (rd_T47 l (i : Int)).f0 1
  · rfl
  cases numB (rd_T47 l (i : Int)).f1 0
  · rfl
  cases numB (rd_T47 l (i : Int)).f3 0
  · rfl
  cases replyB (rd_T47 l (i : Int)).f2.f0 (rd_T47 l (i : Int)).f2.f1 (rd_T47 l (i : Int)).f2.f2
  · rfl
  simp only [if_true, Bool.true_and]
  cases i with
  | zero => rfl
  | succ i =>
    rw [if_pos (by omega), wrp i (by omega), if_pos (by omega), if_pos (by omega), Nat.add_sub_cancel, decide_eq_false (Nat.succ_ne_zero i), Bool.false_or]
    by_cases hh : (rd_T47 l (i : Int)).f0 ≥ (rd_T47 l ((i + 1 : Nat) : Int)).f0
    · rw [if_pos hh, if_neg (fun h => absurd (of_decide_eq_true h) (by omega))]
    · rw [if_neg hh, if_pos (decide_eq_true (by omega))]
theorem may_step (k : Nat) (l : List S47) (i : Nat) (hi : i < l.length) (hl : l.length ≤ 1000000000000000) : session_May.l0 (k + 1) l l (l.length : Int) (i : Int) = if stepB l i = true then session_May.l0 k l l (l.length : Int) (wrap64 ((i : Int) + 1)) else some false := by
  rw [session_May.l0, if_pos (by omega), if_pos (by omega), if_pos (by omega), Number_f, Number_f, Number_f, reply_f, Option.bind_some, Option.bind_some, Option.bind_some, Option.bind_some]
  unfold stepB
  cases numB (rd_T47 l (i : Int)).f0 1
  · rfl
  cases numB (rd_T47 l (i : Int)).f1 0
  · rfl
  cases numB (rd_T47 l (i : Int)).f3 0
  · rfl
  cases replyB (rd_T47 l (i : Int)).f2.f0 (rd_T47 l (i : Int)).f2.f1 (rd_T47 l (i : Int)).f2.f2
  · rfl
  simp only [if_true, Bool.true_and]
  cases i with
  | zero => rfl
  | succ i =>
    rw [if_pos (by omega), wrp i (by omega), if_pos (by omega), if_pos (by omega), Nat.add_sub_cancel, decide_eq_false (Nat.succ_ne_zero i), Bool.false_or]
    by_cases hh : (rd_T47 l (i : Int)).f0 ≥ (rd_T47 l ((i + 1 : Nat) : Int)).f0
    · rw [if_pos hh, if_neg (fun h => absurd (of_decide_eq_true h) (by omega))]
    · rw [if_neg hh, if_pos (decide_eq_true (by omega))]
def fromP (l : List S47) (i : Nat) : Prop := ∀ j, i ≤ j → j < l.length → stepB l j = true
def mayP (l : List S47) : Prop := fromP l 0 ∧ l.length ≤ 8
theorem fromP_step {l : List S47} {i : Nat} (h : stepB l i = true) : fromP l i ↔ fromP l (i + 1) :=
  ⟨fun h2 j hj => h2 j (by omega), fun h2 j hj hl => by
    rcases Nat.eq_or_lt_of_le hj with rfl | hj
    · exact h
    · exact h2 j hj hl⟩
theorem ref_l0 (l : List S47) (hl : l.length ≤ 1000000000000000) : ∀ d i, i + d = l.length → fromP l i → Ev (fun k => lecternref14_May.l0 k l (i : Int)) true
  | 0, i, hd, h => Ev.step ((Ev.pure true).of_eq fun k => by rw [lecternref14_May.l0, if_neg (by omega)])
  | d + 1, i, hd, h => by
    have hs := h i (Nat.le_refl _) (by omega)
    have ih := ref_l0 l hl d (i + 1) (by omega) ((fromP_step hs).1 h)
    exact Ev.step (ih.of_eq fun k => by rw [ref_step _ l i (by omega) hl, hs, if_pos rfl, wrn i (by omega)])
theorem may_l0 (l : List S47) (hl : l.length ≤ 1000000000000000) : ∀ d i, i + d = l.length → (fromP l i ∧ l.length ≤ 8 → Ev (fun k => session_May.l0 k l l (l.length : Int) (i : Int)) true) ∧ (¬ (fromP l i ∧ l.length ≤ 8) → Ev (fun k => session_May.l0 k l l (l.length : Int) (i : Int)) false)
  | 0, i, hd => by
    refine ⟨fun h => Ev.step ((Ev.pure true).of_eq fun k => ?_), fun h => Ev.step ((Ev.pure false).of_eq fun k => ?_)⟩
    · rw [session_May.l0, if_neg (by omega), decide_eq_true (by omega)]
    · rw [session_May.l0, if_neg (by omega), decide_eq_false (fun h2 => h ⟨fun j hj hl => by omega, by omega⟩)]
  | d + 1, i, hd => by
    have ih := may_l0 l hl d (i + 1) (by omega)
    cases hs : stepB l i with
    | false =>
      refine ⟨fun h => absurd (h.1 i (Nat.le_refl _) (by omega)) (by rw [hs]; decide), fun _ => Ev.step ((Ev.pure false).of_eq fun k => ?_)⟩
      rw [may_step _ l i (by omega) hl, hs, if_neg (by decide)]
    | true =>
      rw [fromP_step hs]
      refine ⟨fun h => Ev.step ((ih.1 h).of_eq fun k => ?_), fun h => Ev.step ((ih.2 h).of_eq fun k => ?_)⟩ <;>
      · rw [may_step _ l i (by omega) hl, hs, if_pos rfl, wrn i (by omega)]
theorem refMay_yes {l : List S47} (h : mayP l) : Ev (fun k => lecternref14_May.f k l) true :=
  (ref_l0 l (by have := h.2; omega) l.length 0 (by omega) h.1).of_eq fun k => by unfold lecternref14_May.f; rw [if_neg (by have := h.2; omega)]; rfl
theorem may_yes {l : List S47} (h : mayP l) : Ev (fun k => session_May.f k l) true := (may_l0 l (by have := h.2; omega) l.length 0 (by omega)).1 h
theorem may_no {l : List S47} (hl : l.length ≤ 1000000000000000) (h : ¬ mayP l) : Ev (fun k => session_May.f k l) false := (may_l0 l hl l.length 0 (by omega)).2 h
theorem Ev.of_mono {α : Type} {f : Nat → Option α} (hm : ∀ k, LeO (f k) (f (k + 1))) {k0 : Nat} {v : α} (h : f k0 = some v) : Ev f v := ⟨k0, fun k hk => at_rounds hm hk h⟩
/-! ### documents -/
def dstep (l : List S42) (i : Nat) : Bool := !((rd_T42 l (i : Int)).f0.toList == ([] : List UInt8)) && (decide (((rd_T42 l (i : Int)).f0.size : Int) ≤ 64) && (decide (i = 0) || Op.bytesLess (rd_T42 l ((i - 1 : Nat) : Int)).f0.toList (rd_T42 l (i : Int)).f0.toList))
def sumFrom (l : List S42) (i : Nat) : Nat := ((l.drop i).map fun x => x.f1.size).sum
theorem rd42 (l : List S42) (i : Nat) (h : i < l.length) : rd_T42 l (i : Int) = l[i] := by
  unfold rd_T42
  rw [Int.toNat_natCast, List.getD_eq_getElem?_getD, List.getElem?_eq_getElem h]
  rfl
theorem sumFrom_step (l : List S42) (i : Nat) (h : i < l.length) : sumFrom l i = (rd_T42 l (i : Int)).f1.size + sumFrom l (i + 1) := by
  unfold sumFrom
  rw [List.drop_eq_getElem_cons h, List.map_cons, List.sum_cons, rd42 l i h]
theorem sumFrom_end (l : List S42) (i : Nat) (h : l.length ≤ i) : sumFrom l i = 0 := by
  unfold sumFrom
  rw [List.drop_eq_nil_of_le h]
  rfl
theorem check_step (k : Nat) (l : List S42) (x3 : Bool) (x4 : Int) (i : Nat) (hi : i < l.length) (hl : l.length ≤ 1000000000) : segment_Check.l0 (k + 1) l x3 x4 l (l.length : Int) (i : Int) = segment_Check.j1 k l x3 x4 l (l.length : Int) (i : Int) (!dstep l i) (rd_T42 l (i : Int)).f0 (rd_T42 l (i : Int)).f1 := by
  rw [segment_Check.l0, if_pos (by omega), if_pos (by omega), if_pos (by omega)]
  unfold segment_Name.f dstep
  by_cases h0 : (rd_T42 l (i : Int)).f0.toList = ([] : List UInt8)
  · rw [if_pos h0, Option.bind_some, if_neg (by decide), beq_iff_eq.mpr h0]
    rfl
  · rw [if_neg h0, Option.bind_some, beq_eq_false_iff_ne.mpr h0]
    cases decide (((rd_T42 l (i : Int)).f0.size : Int) ≤ 64) with
    | false => rw [if_neg (by decide)]; rfl
    | true =>
      rw [if_pos rfl]
      cases i with
      | zero => rfl
      | succ i =>
        rw [if_pos (by omega), wrp i (by omega), if_pos (by omega), if_pos (by omega), Nat.add_sub_cancel, decide_eq_false (Nat.succ_ne_zero i), Bool.false_or]
        rfl
/-- All is well from document i on. -/
def docsFrom (l : List S42) (i : Nat) (all : Nat) : Prop := (∀ j, i ≤ j → j < l.length → dstep l j = true ∧ (rd_T42 l (j : Int)).f1.size ≤ 2048) ∧ all + sumFrom l i ≤ 16384
theorem docsFrom_step {l : List S42} {i all : Nat} (hi : i < l.length) (h1 : dstep l i = true) (h2 : (rd_T42 l (i : Int)).f1.size ≤ 2048) : docsFrom l i all ↔ docsFrom l (i + 1) (all + (rd_T42 l (i : Int)).f1.size) := by
  unfold docsFrom
  rw [sumFrom_step l i hi]
  refine ⟨fun h => ⟨fun j hj => h.1 j (by omega), by omega⟩, fun h => ⟨fun j hj hl => ?_, by omega⟩⟩
  rcases Nat.eq_or_lt_of_le hj with rfl | hj
  · exact ⟨h1, h2⟩
  · exact h.1 j hj hl
theorem check_much (l : List S42) (hl : l.length ≤ 1000000000) (x4 : Int) : ∀ d i, i + d = l.length → ∃ e, e ≠ 0 ∧ Ev (fun k => segment_Check.l0 k l true x4 l (l.length : Int) (i : Int)) e
  | 0, i, hd => ⟨2, by decide, Ev.step ((Ev.pure 2).of_eq fun k => by rw [segment_Check.l0, if_neg (by omega), if_pos rfl])⟩
  | d + 1, i, hd => by
    obtain ⟨e, he, ih⟩ := check_much l hl x4 d (i + 1) (by omega)
    cases hs : dstep l i with
    | false => exact ⟨1, by decide, Ev.step (Ev.step ((Ev.pure 1).of_eq fun k => by rw [check_step _ l true x4 i (by omega) hl, hs, segment_Check.j1]; rfl))⟩
    | true => exact ⟨e, he, Ev.step (Ev.step (ih.of_eq fun k => by rw [check_step _ l true x4 i (by omega) hl, hs, segment_Check.j1, wrn i (by omega)]; rfl))⟩
set_option maxRecDepth 100000 in
theorem check_l0 (l : List S42) (hl : l.length ≤ 1000000) : ∀ d i (all : Nat), i + d = l.length → all ≤ 18432 → (docsFrom l i all → Ev (fun k => segment_Check.l0 k l false (all : Int) l (l.length : Int) (i : Int)) 0) ∧ (¬ docsFrom l i all → ∃ e, e ≠ 0 ∧ Ev (fun k => segment_Check.l0 k l false (all : Int) l (l.length : Int) (i : Int)) e) := by
  intro d
  induction d with
  | zero =>
    intro i all hd ha
    refine ⟨fun h => Ev.step ((Ev.pure 0).of_eq fun k => ?_), fun h => ⟨2, by decide, Ev.step ((Ev.pure 2).of_eq fun k => ?_)⟩⟩
    · have := h.2
      rw [segment_Check.l0, if_neg (by omega), if_neg (by decide), if_neg (by omega)]
    · have h2 : ¬ all ≤ 16384 := fun h2 => h ⟨fun j hj hl => by omega, by rw [sumFrom_end l i (by omega)]; omega⟩
      rw [segment_Check.l0, if_neg (by omega), if_neg (by decide), if_pos (by omega)]
  | succ d ihd =>
    intro i all hd ha
    cases hs : dstep l i with
    | false =>
      refine ⟨fun h => absurd (h.1 i (Nat.le_refl _) (by omega)).1 (by rw [hs]; decide), fun _ => ⟨1, by decide, Ev.step (Ev.step ((Ev.pure 1).of_eq fun k => ?_))⟩⟩
      rw [check_step _ l false _ i (by omega) (by omega), hs, segment_Check.j1]
      rfl
    | true =>
      have hstep : ∀ k, segment_Check.l0 (k + 1 + 1) l false (all : Int) l (l.length : Int) (i : Int) = (if ((rd_T42 l (i : Int)).f1.size : Int) > 2048 then segment_Check.l0 k l true (all : Int) l (l.length : Int) ((i + 1 : Nat) : Int) else if (all : Int) > 16384 then segment_Check.l0 k l (decide ((all : Int) > 16384)) (all : Int) l (l.length : Int) ((i + 1 : Nat) : Int) else segment_Check.l0 k l (decide ((all : Int) > 16384)) (wrap64 ((all : Int) + ((rd_T42 l (i : Int)).f1.size : Int))) l (l.length : Int) ((i + 1 : Nat) : Int)) := fun k => by
        rw [check_step _ l false _ i (by omega) (by omega), hs, segment_Check.j1, wrn i (by omega)]
        rfl
      by_cases h2 : (rd_T42 l (i : Int)).f1.size ≤ 2048
      · by_cases h3 : all ≤ 16384
        · have ih := ihd (i + 1) (all + (rd_T42 l (i : Int)).f1.size) (by omega) (by omega)
          rw [docsFrom_step (by omega) hs h2]
          have hw : wrap64 ((all : Int) + ((rd_T42 l (i : Int)).f1.size : Int)) = ((all + (rd_T42 l (i : Int)).f1.size : Nat) : Int) := by rw [wrb _ (by omega) (by omega)]; omega
          have hd2 : decide ((all : Int) > 16384) = false := decide_eq_false (by omega)
          refine ⟨fun h => Ev.step (Ev.step ((ih.1 h).of_eq fun k => ?_)), fun h => ?_⟩
          · rw [hstep, if_neg (by omega), if_neg (by omega), hw, hd2]
          · obtain ⟨e, he, hev⟩ := ih.2 h
            exact ⟨e, he, Ev.step (Ev.step (hev.of_eq fun k => by rw [hstep, if_neg (by omega), if_neg (by omega), hw, hd2]))⟩
        · refine ⟨fun h => absurd h.2 (by omega), fun _ => ?_⟩
          obtain ⟨e, he, hev⟩ := check_much l (by omega) (all : Int) d (i + 1) (by omega)
          have hd2 : decide ((all : Int) > 16384) = true := decide_eq_true (by omega)
          exact ⟨e, he, Ev.step (Ev.step (hev.of_eq fun k => by rw [hstep, if_neg (by omega), if_pos (by omega), hd2]))⟩
      · refine ⟨fun h => absurd (h.1 i (Nat.le_refl _) (by omega)).2 h2, fun _ => ?_⟩
        obtain ⟨e, he, hev⟩ := check_much l (by omega) (all : Int) d (i + 1) (by omega)
        exact ⟨e, he, Ev.step (Ev.step (hev.of_eq fun k => by rw [hstep, if_pos (by omega)]))⟩
def docsP (l : List S42) : Prop := docsFrom l 0 0 ∧ l.length ≤ 64
theorem check_yes {l : List S42} (h : docsP l) : Ev (fun k => segment_Check.f k l) 0 := by
  refine ((check_l0 l (by have := h.2; omega) l.length 0 0 (by omega) (by omega)).1 h.1).of_eq fun k => ?_
  unfold segment_Check.f
  rw [decide_eq_false (by have := h.2; omega)]
  rfl
theorem check_no {l : List S42} (hl : l.length ≤ 1000000) (h : ¬ docsP l) : ∃ e, e ≠ 0 ∧ Ev (fun k => segment_Check.f k l) e := by
  by_cases h64 : l.length ≤ 64
  · obtain ⟨e, he, hev⟩ := (check_l0 l hl l.length 0 0 (by omega) (by omega)).2 (fun h2 => h ⟨h2, h64⟩)
    exact ⟨e, he, hev.of_eq fun k => by unfold segment_Check.f; rw [decide_eq_false (by omega)]; rfl⟩
  · obtain ⟨e, he, hev⟩ := check_much l (by omega) 0 l.length 0 (by omega)
    exact ⟨e, he, hev.of_eq fun k => by unfold segment_Check.f; rw [decide_eq_true (by omega)]; rfl⟩
theorem size_l0 (l : List S42) (hl : l.length ≤ 64) (hz : ∀ j, j < l.length → (rd_T42 l (j : Int)).f1.size ≤ 2048) : ∀ d i (all : Nat), i + d = l.length → all ≤ i * 2048 → Ev (fun k => lecternref8_Size.l0 k l (all : Int) (i : Int)) ((all + sumFrom l i : Nat) : Int)
  | 0, i, all, hd, ha => by
    rw [sumFrom_end l i (by omega)]
    exact Ev.step ((Ev.pure _).of_eq fun k => by rw [lecternref8_Size.l0, if_neg (by omega)]; rfl)
  | d + 1, i, all, hd, ha => by
    have hzi := hz i (by omega)
    have ih := size_l0 l hl hz d (i + 1) (all + (rd_T42 l (i : Int)).f1.size) (by omega) (by rw [Nat.succ_mul]; omega)
    rw [sumFrom_step l i (by omega), ← Nat.add_assoc]
    have hw : wrap64 ((all : Int) + ((rd_T42 l (i : Int)).f1.size : Int)) = ((all + (rd_T42 l (i : Int)).f1.size : Nat) : Int) := by rw [wrb _ (by omega) (by omega)]; omega
    exact Ev.step (ih.of_eq fun k => by rw [lecternref8_Size.l0, if_pos (by omega), if_pos (by omega), hw, wrn i (by omega)])
theorem docs_l1 (l : List S42) (h : docsP l) : ∀ d i, i + d = l.length → Ev (fun k => lecternref8_Docs.l1 k l (i : Int)) 0
  | 0, i, hd => by
    have hs : Ev (fun k => lecternref8_Size.f k l) ((sumFrom l 0 : Nat) : Int) := by
      have := size_l0 l h.2 (fun j hj => (h.1.1 j (Nat.zero_le _) hj).2) l.length 0 0 (by omega) (by omega)
      rw [Nat.zero_add] at this
      exact this
    have h2 := h.1.2
    have hb : Ev (fun k => (lecternref8_Size.f k l).bind fun t226 => (if t226 > 16384 then (some (2 : Int)) else (some 0))) 0 := Ev.bind (g := fun _ t => if t > 16384 then some (2 : Int) else some 0) hs ((Ev.pure 0).of_eq fun k => by rw [if_neg (by omega)])
    exact Ev.step (hb.of_eq fun k => by rw [lecternref8_Docs.l1, if_neg (by omega)])
  | d + 1, i, hd => by
    have ih := docs_l1 l h d (i + 1) (by omega)
    have h2 := (h.1.1 i (Nat.zero_le _) (by omega)).2
    have hl := h.2
    exact Ev.step (ih.of_eq fun k => by rw [lecternref8_Docs.l1, if_pos (by omega), if_pos (by omega), if_neg (by omega), wrn i (by omega)])
theorem docs_l0 (l : List S42) (h : docsP l) : ∀ d i, i + d = l.length → Ev (fun k => lecternref8_Docs.l0 k l (i : Int)) 0
  | 0, i, hd => by
    have hl := h.2
    exact Ev.step ((docs_l1 l h l.length 0 (by omega)).of_eq fun k => by rw [lecternref8_Docs.l0, if_neg (by omega), if_neg (by omega)]; rfl)
  | d + 1, i, hd => by
    have ih := docs_l0 l h d (i + 1) (by omega)
    have h2 := (h.1.1 i (Nat.zero_le _) (by omega)).1
    have hl := h.2
    simp only [dstep, Bool.and_eq_true, Bool.or_eq_true, decide_eq_true_eq, Bool.not_eq_true'] at h2
    obtain ⟨h3, h4, h5⟩ := h2
    have h3' : ¬ (rd_T42 l (i : Int)).f0.toList = ([] : List UInt8) := fun e => by rw [e] at h3; cases h3
    refine Ev.step (ih.of_eq fun k => ?_)
    rw [lecternref8_Docs.l0, if_pos (by omega), if_pos (by omega), if_neg h3', if_neg (by omega)]
    cases i with
    | zero => rw [if_neg (by omega), wrn 0 (by omega)]
    | succ i =>
      rcases h5 with h5 | h5
      · omega
      · rw [Nat.add_sub_cancel] at h5
        rw [if_pos (by omega), wrp i (by omega), if_pos (by omega), if_pos (by omega), if_pos h5, wrn (i + 1) (by omega)]
theorem docs_yes {l : List S42} (h : docsP l) : Ev (fun k => lecternref8_Docs.f k l) 0 := docs_l0 l h l.length 0 (by omega)
def stateP (idx : Int) (docs : List S42) (sess : List S47) : Prop := numB idx 0 = true ∧ docsP docs ∧ mayP sess
theorem state_yes {idx : Int} {docs : List S42} {sess : List S47} (h : stateP idx docs sess) : Ev (fun k => lecternref14_State.f k idx docs sess) true := by
  obtain ⟨h1, h2, h3⟩ := h
  have hm : Ev (fun k => (lecternref14_May.f k sess).bind fun t => some t) true := Ev.bind (g := fun _ t => some t) (refMay_yes h3) (Ev.pure true)
  have hd : Ev (fun k => (lecternref8_Docs.f k docs).bind fun t241 => (if t241 = 0 then ((lecternref14_May.f k sess).bind fun t242 => (some t242)) else (some false))) true := Ev.bind (g := fun k t241 => (if t241 = 0 then ((lecternref14_May.f k sess).bind fun t242 => (some t242)) else (some false))) (docs_yes h2) (hm.of_eq fun k => by rw [if_pos rfl])
  exact hd.of_eq fun k => by unfold lecternref14_State.f; rw [Num_f, h1, Option.bind_some, if_pos rfl]
theorem mmay_yes {idx : Int} {docs : List S42} {sess : List S47} (h : stateP idx docs sess) : Ev (fun k => machine_May.f k idx docs sess) true := by
  obtain ⟨h1, h2, h3⟩ := h
  have hm : Ev (fun k => (session_May.f k sess).bind fun t => some t) true := Ev.bind (g := fun _ t => some t) (may_yes h3) (Ev.pure true)
  have hd : Ev (fun k => (segment_Check.f k docs).bind fun t241 => (if t241 = 0 then ((session_May.f k sess).bind fun t242 => (some t242)) else (some false))) true := Ev.bind (g := fun k t241 => (if t241 = 0 then ((session_May.f k sess).bind fun t242 => (some t242)) else (some false))) (check_yes h2) (hm.of_eq fun k => by rw [if_pos rfl])
  exact hd.of_eq fun k => by unfold machine_May.f; rw [Number_f, h1, Option.bind_some, if_pos rfl]
theorem mmay_no {idx : Int} {docs : List S42} {sess : List S47} (hl : docs.length ≤ 1000000) (hs : sess.length ≤ 1000000) (h : ¬ stateP idx docs sess) : Ev (fun k => machine_May.f k idx docs sess) false := by
  by_cases h1 : numB idx 0 = true
  · by_cases h2 : docsP docs
    · have h3 : ¬ mayP sess := fun h3 => h ⟨h1, h2, h3⟩
      have hm : Ev (fun k => (session_May.f k sess).bind fun t => some t) false := Ev.bind (g := fun _ t => some t) (may_no (by omega) h3) (Ev.pure false)
      have hd : Ev (fun k => (segment_Check.f k docs).bind fun t241 => (if t241 = 0 then ((session_May.f k sess).bind fun t242 => (some t242)) else (some false))) false := Ev.bind (g := fun k t241 => (if t241 = 0 then ((session_May.f k sess).bind fun t242 => (some t242)) else (some false))) (check_yes h2) (hm.of_eq fun k => by rw [if_pos rfl])
      exact hd.of_eq fun k => by unfold machine_May.f; rw [Number_f, h1, Option.bind_some, if_pos rfl]
    · obtain ⟨e, he, hev⟩ := check_no hl h2
      have hd : Ev (fun k => (segment_Check.f k docs).bind fun t241 => (if t241 = 0 then ((session_May.f k sess).bind fun t242 => (some t242)) else (some false))) false := Ev.bind (g := fun k t241 => (if t241 = 0 then ((session_May.f k sess).bind fun t242 => (some t242)) else (some false))) hev ((Ev.pure false).of_eq fun k => by rw [if_neg he])
      exact hd.of_eq fun k => by unfold machine_May.f; rw [Number_f, h1, Option.bind_some, if_pos rfl]
  · have h1' : numB idx 0 = false := by simpa using h1
    exact (Ev.pure false).of_eq fun k => by unfold machine_May.f; rw [Number_f, h1', Option.bind_some, if_neg (by decide)]
end Go.Proofs.Yticlghbdapbdnaa.I
/-! ILB -/
namespace Go.Proofs.Yticlghbdapbdnaa.I
open Go.RowKit Go.Proofs.YticlghbdapbdnaaW.PrintWords Go.Proofs.YticlghbdapbdnaaW.PrintLast Go.Proofs.YticlghbdapbdnaaW.PrintMore
set_option linter.unusedVariables false
set_option linter.unusedSimpArgs false
def InB (l : List Int) : Prop := ∀ x ∈ l, 0 ≤ x ∧ x < 256
theorem InB.rd {l : List Int} (h : InB l) (i : Int) : 0 ≤ rd l i ∧ rd l i < 256 := by
  unfold Go.Proofs.YticlghbdapbdnaaW.PrintWords.rd
  rw [List.getD_eq_getElem?_getD]
  cases hg : l[i.toNat]? with
  | none => exact ⟨by decide, by decide⟩
  | some x => exact h x (List.mem_of_getElem? hg)
theorem InB.drop {l : List Int} (h : InB l) (n : Nat) : InB (l.drop n) := fun x hx => h x (List.mem_of_mem_drop hx)
theorem InB.bytes (s : ByteArray) : InB (bytesOf s) := by
  intro x hx
  unfold bytesOf at hx
  obtain ⟨b, _, rfl⟩ := List.mem_map.1 hx
  have := b.toNat_lt
  omega
theorem InB.append {l m : List Int} (h : InB l) (k : InB m) : InB (l ++ m) := fun x hx => (List.mem_append.1 hx).elim (h x) (k x)
theorem i64_wraps (n : Int) (h0 : 0 ≤ n) (h1 : n < 2 ^ 63) : IntKind.i64.wrap n = n := by rw [IntKind.wrap_i64]; omega
theorem or_in (x y : Int) (hx : 0 ≤ x) (hx1 : x < 2 ^ 63) (hy : 0 ≤ y) (hy1 : y < 2 ^ 63) : 0 ≤ Go.bits .or .i64 x y ∧ Go.bits .or .i64 x y < 2 ^ 63 := by
  obtain ⟨a, rfl⟩ := Int.eq_ofNat_of_zero_le hx
  obtain ⟨b, rfl⟩ := Int.eq_ofNat_of_zero_le hy
  have ha : a < 2 ^ 63 := by exact_mod_cast hx1
  have hb : b < 2 ^ 63 := by exact_mod_cast hy1
  rw [(bits_nat .i64 63 (by decide) i64_wraps a b ha hb).2]
  have := Nat.or_lt_two_pow ha hb
  exact ⟨Int.natCast_nonneg _, by exact_mod_cast this⟩
theorem low7 (b : Int) (h0 : 0 ≤ b) (h1 : b < 256) : Go.bits .and .u8 b 127 = b % 128 := bits_mask .u8 8 (by decide) wraps_u8 7 (by decide) b h0 h1
theorem shl_in (b : Int) (h0 : 0 ≤ b) (h1 : b < 256) (j : Nat) (hj : j ≤ 8) : shl .i64 (wrap64 (Go.bits .and .u8 b 127)) (wrap64 (7 * (j : Int))) = (b % 128) * 2 ^ (7 * j) ∧ (b % 128) * 2 ^ (7 * j) < 2 ^ 63 ∧ 0 ≤ (b % 128) * 2 ^ (7 * j) := by
  rw [low7 b h0 h1, wrb (b % 128) (by omega) (by omega), wrb (7 * (j : Int)) (by omega) (by omega)]
  have hp : (2 : Int) ^ (7 * j) ≤ 2 ^ 56 := by exact_mod_cast Nat.pow_le_pow_right (by decide) (by omega : 7 * j ≤ 56)
  have hp0 : (0 : Int) < 2 ^ (7 * j) := by exact_mod_cast Nat.two_pow_pos (7 * j)
  have hb : 0 ≤ b % 128 ∧ b % 128 ≤ 127 := by omega
  have h2 : (b % 128) * 2 ^ (7 * j) ≤ 127 * 2 ^ 56 := Int.mul_le_mul hb.2 hp (by omega) (by omega)
  have h3 : 0 ≤ (b % 128) * 2 ^ (7 * j) := Int.mul_nonneg hb.1 (by omega)
  refine ⟨?_, by omega, h3⟩
  have e1 : min (7 * (j : Int)).toNat 64 = 7 * j := by omega
  show IntKind.i64.wrap ((b % 128) * 2 ^ min (7 * (j : Int)).toNat 64) = _
  rw [e1]
  exact i64_wraps _ h3 (by omega)
theorem getnum_l0 (l : List Int) (hl : l.length ≤ 1000000000) (hb : InB l) : ∀ d (j : Nat) (x : Int), j + d = 9 → 0 ≤ x → x < 2 ^ 63 → ∃ v : Int × Int × Int, Ev (fun k => wire_GetNum.l0 k x l (l.length : Int) (j : Int)) v ∧ 0 ≤ v.1 := by
  intro d
  induction d with
  | zero =>
    intro j x hj h0 h1
    refine ⟨(0, 0, 1), Ev.step ((Ev.pure _).of_eq fun k => ?_), Int.le_refl _⟩
    rw [wire_GetNum.l0]
    by_cases hlt : (j : Int) < (l.length : Int)
    · rw [if_pos hlt, if_pos (by omega), if_pos hlt, if_pos (by omega)]
    · rw [if_neg hlt]
  | succ d ih =>
    intro j x hj h0 h1
    by_cases hlt : (j : Int) < (l.length : Int)
    · obtain ⟨hr0, hr1⟩ := hb.rd (j : Int)
      obtain ⟨hs, hs1, hs0⟩ := shl_in (rd l (j : Int)) hr0 hr1 j (by omega)
      obtain ⟨ho0, ho1⟩ := or_in x _ h0 h1 hs0 hs1
      have hw : 0 ≤ wrap64 (7 * (j : Int)) := by rw [wrb _ (by omega) (by omega)]; omega
      have hstep : ∀ k, wire_GetNum.l0 (k + 1) x l (l.length : Int) (j : Int) = (if (rd l (j : Int)) < 128 then (if (rd l (j : Int)) = 0 then (if (j : Int) > 0 then (some (0, 0, 1)) else (some (Go.bits .or .i64 x ((rd l (j : Int) % 128) * 2 ^ (7 * j)), wrap64 ((j : Int) + 1), 0))) else (some (Go.bits .or .i64 x ((rd l (j : Int) % 128) * 2 ^ (7 * j)), wrap64 ((j : Int) + 1), 0))) else (wire_GetNum.l0 k (Go.bits .or .i64 x ((rd l (j : Int) % 128) * 2 ^ (7 * j))) l (l.length : Int) ((j + 1 : Nat) : Int))) := fun k => by
        rw [wire_GetNum.l0, if_pos hlt, if_pos (by omega), if_pos hlt, if_neg (by omega), if_pos hw, hs, wrn j (by omega)]
      by_cases h128 : rd l (j : Int) < 128
      · by_cases hz : rd l (j : Int) = 0
        · by_cases hj0 : (j : Int) > 0
          · exact ⟨(0, 0, 1), Ev.step ((Ev.pure _).of_eq fun k => by rw [hstep, if_pos h128, if_pos hz, if_pos hj0]), Int.le_refl _⟩
          · exact ⟨_, Ev.step ((Ev.pure _).of_eq fun k => by rw [hstep, if_pos h128, if_pos hz, if_neg hj0]), ho0⟩
        · exact ⟨_, Ev.step ((Ev.pure _).of_eq fun k => by rw [hstep, if_pos h128, if_neg hz]), ho0⟩
      · obtain ⟨v, hv, hv0⟩ := ih (j + 1) _ (by omega) ho0 ho1
        exact ⟨v, Ev.step (hv.of_eq fun k => by rw [hstep, if_neg h128]), hv0⟩
    · exact ⟨(0, 0, 1), Ev.step ((Ev.pure _).of_eq fun k => by rw [wire_GetNum.l0, if_neg hlt]), Int.le_refl _⟩
theorem getnum_ev (l : List Int) (hl : l.length ≤ 1000000000) (hb : InB l) : ∃ n z e : Int, Ev (fun k => wire_GetNum.f k l) (n, z, e) ∧ 0 ≤ n ∧ (e = 0 → 1 ≤ z ∧ z ≤ l.length) := by
  obtain ⟨⟨n, z, e⟩, hv, h0⟩ := getnum_l0 l hl hb 9 0 0 rfl (by omega) (by omega)
  have hv' : Ev (fun k => wire_GetNum.f k l) (n, z, e) := hv
  obtain ⟨K, hK⟩ := hv'
  exact ⟨n, z, e, ⟨K, hK⟩, h0, fun he => getnum_size (hK K (Nat.le_refl _)) he (by omega)⟩
theorem Ev.map {α β : Type} {f : Nat → Option α} {x : α} (h : Ev f x) (g : α → Option β) {v : β} (hg : g x = some v) : Ev (fun k => (f k).bind g) v := Ev.bind (g := fun _ => g) h ((Ev.pure v).of_eq fun _ => hg)
theorem rdNum_ev (bs : List Int) (bad : Bool) (hl : bs.length ≤ 1000000000) (hb : InB bs) : ∃ (n : Int) (b2 : List Int) (bad2 : Bool), Ev (fun k => rdNum k bs bad) (n, b2, bad2) ∧ 0 ≤ n ∧ n ≤ b2.length ∧ InB b2 ∧ b2.length ≤ bs.length ∧ (bad2 = false → b2.length < bs.length) := by
  obtain ⟨n, z, e, hv, h0, hz⟩ := getnum_ev bs hl hb
  by_cases h1 : bad = true
  · exact ⟨0, bs, true, hv.map _ (by rw [if_pos h1]), Int.le_refl _, by omega, hb, Nat.le_refl _, fun h => by cases h⟩
  · by_cases h2 : e = 0
    · by_cases h3 : n > (bs.length : Int) - z
      · exact ⟨0, bs, true, hv.map _ (by rw [if_neg h1, if_neg (not_not_intro h2), if_pos h3]), Int.le_refl _, by omega, hb, Nat.le_refl _, fun h => by cases h⟩
      · obtain ⟨hz1, hz2⟩ := hz h2
        have hd : (bs.drop z.toNat).length = bs.length - z.toNat := List.length_drop
        exact ⟨n, bs.drop z.toNat, false, hv.map _ (by rw [if_neg h1, if_neg (not_not_intro h2), if_neg h3, if_pos ⟨h0, hz1, hz2⟩]), h0, by omega, hb.drop _, by omega, fun _ => by omega⟩
    · exact ⟨0, bs, true, hv.map _ (by rw [if_neg h1, if_pos h2]), Int.le_refl _, by omega, hb, Nat.le_refl _, fun h => by cases h⟩
theorem str_size (l : List Int) : (strOfNums l).size = l.length := by simp [strOfNums, ByteArray.size]
theorem rdText_ev (bs : List Int) (bad : Bool) (hl : bs.length ≤ 1000000000) (hb : InB bs) : ∃ (s : ByteArray) (b2 : List Int) (bad2 : Bool), Ev (fun k => rdText k bs bad) (s, b2, bad2) ∧ s.size ≤ bs.length ∧ InB b2 ∧ b2.length ≤ bs.length ∧ (bad2 = false → b2.length < bs.length) := by
  obtain ⟨n, b2, bad2, hv, h0, h1, h2, h3, h4⟩ := rdNum_ev bs bad hl hb
  have hd : (b2.drop n.toNat).length = b2.length - n.toNat := List.length_drop
  refine ⟨strOfNums (b2.take n.toNat), b2.drop n.toNat, bad2, hv.map _ (by rw [if_pos ⟨h0, h1⟩]), ?_, h2.drop _, by omega, fun h => by have := h4 h; omega⟩
  rw [str_size, List.length_take]
  omega
/-- From some fuels on it is v. -/
def Ev2 {α : Type} (g : Nat → Nat → Option α) (v : α) : Prop := ∃ K F, ∀ k f, K ≤ k → F ≤ f → g k f = some v
theorem Ev2.ev {α : Type} {g : Nat → Nat → Option α} {v : α} (h : Ev2 g v) : Ev (fun k => g k k) v := by
  obtain ⟨K, F, h⟩ := h
  exact ⟨K + F, fun k hk => h k k (by omega) (by omega)⟩
theorem getL_ev (M : Nat) : ∀ d (n : Int) (bs : List Int) (bad : Bool) (acc : List ByteArray), bs.length + (if bad = true then 0 else 1) ≤ d → bs.length ≤ 1000000000 → InB bs → bs.length ≤ M → (∀ s ∈ acc, s.size ≤ M) → acc.length + d ≤ 1000000000 → ∃ (L : List ByteArray) (rb : List Int) (rbad : Bool), Ev2 (fun k f => getL k f n bs bad acc) (L, rb, rbad) ∧ (∀ s ∈ L, s.size ≤ M) ∧ L.length ≤ acc.length + d := by
  intro d
  induction d with
  | zero =>
    intro n bs bad acc hd hl hb hM ha hac
    have hbad : bad = true := by
      cases bad with
      | true => rfl
      | false => simp at hd
    by_cases hn : 0 < n
    · refine ⟨acc, bs, true, ⟨0, 1, fun k f _ hf => ?_⟩, ha, by omega⟩
      obtain ⟨f, rfl⟩ : ∃ g, f = g + 1 := ⟨f - 1, by omega⟩
      show getL _ _ _ _ _ _ = _
      rw [getL, if_pos hn, if_pos hbad]
    · refine ⟨acc, bs, bad, ⟨0, 1, fun k f _ hf => ?_⟩, ha, by omega⟩
      obtain ⟨f, rfl⟩ : ∃ g, f = g + 1 := ⟨f - 1, by omega⟩
      show getL _ _ _ _ _ _ = _
      rw [getL, if_neg hn]
  | succ d ih =>
    intro n bs bad acc hd hl hb hM ha hac
    by_cases hn : 0 < n
    · by_cases hbad : bad = true
      · refine ⟨acc, bs, true, ⟨0, 1, fun k f _ hf => ?_⟩, ha, by omega⟩
        obtain ⟨f, rfl⟩ : ∃ g, f = g + 1 := ⟨f - 1, by omega⟩
        show getL _ _ _ _ _ _ = _
        rw [getL, if_pos hn, if_pos hbad]
      · rw [if_neg hbad] at hd
        obtain ⟨s, b2, bad2, hv, h1, h2, h3, h4⟩ := rdText_ev bs false hl hb
        have hd2 : b2.length + (if bad2 = true then 0 else 1) ≤ d := by
          cases bad2 with
          | true => rw [if_pos rfl]; omega
          | false => rw [if_neg (by decide)]; have := h4 rfl; omega
        obtain ⟨L, rb, rbad, ⟨K2, F2, hL⟩, hs, hlen⟩ := ih (wrap64 (n - 1)) b2 bad2 (acc ++ [s]) hd2 (by omega) h2 (by omega) (fun x hx => (List.mem_append.1 hx).elim (ha x) (fun hx => by rw [List.mem_singleton.1 hx]; omega)) (by rw [List.length_append, List.length_singleton]; omega)
        rw [List.length_append, List.length_singleton] at hlen
        obtain ⟨K1, hK1_⟩ := hv
        have hK1 : ∀ k, K1 ≤ k → rdText k bs false = some (s, b2, bad2) := hK1_
        refine ⟨L, rb, rbad, ⟨K1 + K2, F2 + 1, fun k f hk hf => ?_⟩, hs, by omega⟩
        obtain ⟨f, rfl⟩ : ∃ g, f = g + 1 := ⟨f - 1, by omega⟩
        show getL _ _ _ _ _ _ = _
        rw [getL, if_pos hn, if_neg hbad, hK1 k (by omega), Option.bind_some, if_pos (by omega)]
        exact hL k f (by omega) (by omega)
    · refine ⟨acc, bs, bad, ⟨0, 1, fun k f _ hf => ?_⟩, ha, by omega⟩
      obtain ⟨f, rfl⟩ : ∃ g, f = g + 1 := ⟨f - 1, by omega⟩
      show getL _ _ _ _ _ _ = _
      rw [getL, if_neg hn]
theorem get_ev (bs : List Int) (hl : bs.length ≤ 100000) (hb : InB bs) : ∃ (L : List ByteArray) (e : Int), Ev (fun k => wire_Get.f k bs) (L, e) ∧ (∀ s ∈ L, s.size ≤ 100000) ∧ L.length ≤ 100001 := by
  obtain ⟨n, b2, bad2, hv, h0, h1, h2, h3, h4⟩ := rdNum_ev bs (decide (1048576 < (bs.length : Int))) (by omega) hb
  obtain ⟨L, rb, rbad, hL, hs, hlen⟩ := getL_ev 100000 100001 n b2 bad2 [] (by split <;> omega) (by omega) h2 (by omega) (fun s hs => by cases hs) (by simp)
  have hLe := hL.ev
  have key : ∀ r, (if rbad = true then (([] : List ByteArray), (1 : Int)) else if 0 < rb.length then ([], 1) else (L, 0)) = r → Ev (fun k => wire_Get.f k bs) r := fun r hr => by
    have := Ev.bind (g := fun k (t : Int × List Int × Bool) => (getL k k t.1 t.2.1 t.2.2 []).bind fun u => some (if u.2.2 = true then (([] : List ByteArray), (1 : Int)) else if 0 < u.2.1.length then ([], 1) else (u.1, 0))) hv (Ev.map hLe _ (congrArg some hr))
    exact this.of_eq fun k => by unfold wire_Get.f; rw [if_pos (by omega)]
  by_cases c1 : rbad = true
  · exact ⟨[], 1, key _ (by rw [if_pos c1]), (fun s hs => (List.not_mem_nil hs).elim), Nat.zero_le _⟩
  · by_cases c2 : 0 < rb.length
    · exact ⟨[], 1, key _ (by rw [if_neg c1, if_pos c2]), (fun s hs => (List.not_mem_nil hs).elim), Nat.zero_le _⟩
    · refine ⟨L, 0, key _ (by rw [if_neg c1, if_neg c2]), hs, ?_⟩
      have : ([] : List ByteArray).length = 0 := rfl
      omega
theorem read_ev (s : ByteArray) (hs : s.size ≤ 1000000) : ∃ (n : Int) (ok : Bool), Ev (fun k => wire_Read.f k s) (n, ok) ∧ 0 ≤ n := by
  obtain ⟨n, z, e, hv, h0, _⟩ := getnum_ev (bytesOf s) (by rw [bytesOf_length]; omega) (InB.bytes s)
  exact ⟨n, (e == 0 && z == (s.size : Int)), (Ev.map hv (fun t => some (t.1, (t.2.2 == 0 && t.2.1 == (s.size : Int)))) rfl).of_eq fun k => by unfold wire_Read.f; rw [if_pos (by omega)], h0⟩
theorem imText_facts (M : Nat) (l : List ByteArray) (bad : Bool) (h : ∀ s ∈ l, s.size ≤ M) : (imText l bad).1.size ≤ M ∧ (∀ s ∈ (imText l bad).2.1, s.size ≤ M) ∧ (imText l bad).2.1.length ≤ l.length ∧ ((imText l bad).2.2 = false → (imText l bad).2.1.length < l.length) := by
  unfold imText
  cases bad with
  | true => exact ⟨Nat.zero_le _, h, Nat.le_refl _, fun h => by cases h⟩
  | false =>
    cases l with
    | nil => exact ⟨Nat.zero_le _, fun s hs => (List.not_mem_nil hs).elim, Nat.le_refl _, fun h => by cases h⟩
    | cons s r => exact ⟨h s (List.mem_cons_self ..), fun x hx => h x (List.mem_cons_of_mem _ hx), by simp, fun _ => by simp⟩
theorem imNum_ev (l : List ByteArray) (bad : Bool) (h : ∀ s ∈ l, s.size ≤ 100000) : ∃ (n : Int) (l2 : List ByteArray) (bad2 : Bool), Ev (fun k => imNum k l bad) (n, l2, bad2) ∧ 0 ≤ n ∧ (∀ s ∈ l2, s.size ≤ 100000) ∧ l2.length ≤ l.length ∧ (bad2 = false → l2.length < l.length) := by
  obtain ⟨h1, h2, h3, h4⟩ := imText_facts 100000 l bad h
  obtain ⟨n, ok, hv, h0⟩ := read_ev (imText l bad).1 (by omega)
  refine ⟨n, (imText l bad).2.1, ((imText l bad).2.2 || !ok), hv.map _ rfl, h0, h2, h3, fun hb => h4 ?_⟩
  simp only [Bool.or_eq_false_iff] at hb
  exact hb.1
theorem stDocs_ev : ∀ d (n : Int) (l : List ByteArray) (bad : Bool) (acc : List S42), l.length + (if bad = true then 0 else 1) ≤ d → (∀ s ∈ l, s.size ≤ 100000) → acc.length + d ≤ 1000000 → ∃ (D : List S42) (l2 : List ByteArray) (bad2 : Bool), Ev (fun k => stDocs k n l bad acc) (D, l2, bad2) ∧ (∀ s ∈ l2, s.size ≤ 100000) ∧ l2.length ≤ l.length ∧ D.length ≤ acc.length + d := by
  intro d
  induction d with
  | zero =>
    intro n l bad acc hd h hac
    have hbad : bad = true := by
      cases bad with
      | true => rfl
      | false => simp at hd
    by_cases hn : 0 < n
    · exact ⟨acc, l, true, Ev.step ((Ev.pure _).of_eq fun k => by rw [stDocs, if_pos hn, if_pos hbad]), h, Nat.le_refl _, by omega⟩
    · exact ⟨acc, l, bad, Ev.step ((Ev.pure _).of_eq fun k => by rw [stDocs, if_neg hn]), h, Nat.le_refl _, by omega⟩
  | succ d ih =>
    intro n l bad acc hd h hac
    by_cases hn : 0 < n
    · by_cases hbad : bad = true
      · exact ⟨acc, l, true, Ev.step ((Ev.pure _).of_eq fun k => by rw [stDocs, if_pos hn, if_pos hbad]), h, Nat.le_refl _, by omega⟩
      · rw [if_neg hbad] at hd
        obtain ⟨a1, a2, a3, a4⟩ := imText_facts 100000 l false h
        obtain ⟨b1, b2, b3, b4⟩ := imText_facts 100000 (imText l false).2.1 (imText l false).2.2 a2
        have hd2 : (imText (imText l false).2.1 (imText l false).2.2).2.1.length + (if (imText (imText l false).2.1 (imText l false).2.2).2.2 = true then 0 else 1) ≤ d := by
          by_cases hc : (imText (imText l false).2.1 (imText l false).2.2).2.2 = true
          · rw [if_pos hc]; omega
          · rw [if_neg hc]
            have := b4 (by simpa using hc)
            omega
        obtain ⟨D, l2, bad2, hv, h2, h3, h4⟩ := ih (wrap64 (n - 1)) _ _ (acc ++ [(⟨(imText l false).1, (imText (imText l false).2.1 (imText l false).2.2).1⟩ : S42)]) hd2 b2 (by rw [List.length_append, List.length_singleton]; omega)
        rw [List.length_append, List.length_singleton] at h4
        exact ⟨D, l2, bad2, Ev.step (hv.of_eq fun k => by rw [stDocs, if_pos hn, if_neg hbad, if_pos (by omega)]), h2, by omega, by omega⟩
    · exact ⟨acc, l, bad, Ev.step ((Ev.pure _).of_eq fun k => by rw [stDocs, if_neg hn]), h, Nat.le_refl _, by omega⟩
theorem stSess_ev : ∀ d (l : List ByteArray) (bad : Bool) (acc : List S47), l.length + (if bad = true then 0 else 1) ≤ d → (∀ s ∈ l, s.size ≤ 100000) → acc.length + d ≤ 1000000 → ∃ (D : List S47) (l2 : List ByteArray) (bad2 : Bool), Ev2 (fun k f => stSess k f l bad acc) (D, l2, bad2) ∧ D.length ≤ acc.length + d := by
  intro d
  induction d with
  | zero =>
    intro l bad acc hd h hac
    have hbad : bad = true := by
      cases bad with
      | true => rfl
      | false => simp at hd
    by_cases hn : 0 < l.length
    · refine ⟨acc, l, true, ⟨0, 1, fun k f _ hf => ?_⟩, by omega⟩
      obtain ⟨f, rfl⟩ : ∃ g, f = g + 1 := ⟨f - 1, by omega⟩
      show stSess _ _ _ _ _ = _
      rw [stSess, if_pos hn, if_pos hbad]
    · refine ⟨acc, l, bad, ⟨0, 1, fun k f _ hf => ?_⟩, by omega⟩
      obtain ⟨f, rfl⟩ : ∃ g, f = g + 1 := ⟨f - 1, by omega⟩
      show stSess _ _ _ _ _ = _
      rw [stSess, if_neg hn]
  | succ d ih =>
    intro l bad acc hd h hac
    by_cases hn : 0 < l.length
    · by_cases hbad : bad = true
      · refine ⟨acc, l, true, ⟨0, 1, fun k f _ hf => ?_⟩, by omega⟩
        obtain ⟨f, rfl⟩ : ∃ g, f = g + 1 := ⟨f - 1, by omega⟩
        show stSess _ _ _ _ _ = _
        rw [stSess, if_pos hn, if_pos hbad]
      · rw [if_neg hbad] at hd
        obtain ⟨n1, q1, e1, v1, _, z1, y1, x1⟩ := imNum_ev l false h
        obtain ⟨n2, q2, e2, v2, _, z2, y2, x2⟩ := imNum_ev q1 e1 z1
        obtain ⟨n3, q3, e3, v3, _, z3, y3, x3⟩ := imNum_ev q2 e2 z2
        obtain ⟨n4, q4, e4, v4, _, z4, y4, x4⟩ := imNum_ev q3 e3 z3
        obtain ⟨n5, q5, e5, v5, _, z5, y5, x5⟩ := imNum_ev q4 e4 z4
        have hd2 : q5.length + (if e5 = true then 0 else 1) ≤ d := by
          by_cases hc : e5 = true
          · rw [if_pos hc]; omega
          · rw [if_neg hc]
            have := x5 (by simpa using hc)
            omega
        obtain ⟨D, l2, bad2, ⟨K, F, hv⟩, h4⟩ := ih q5 e5 (acc ++ [(⟨n1, n2, ⟨n3, n4, []⟩, n5⟩ : S47)]) hd2 z5 (by rw [List.length_append, List.length_singleton]; omega)
        rw [List.length_append, List.length_singleton] at h4
        obtain ⟨K1, v1_⟩ := v1
        have v1 : ∀ k, K1 ≤ k → imNum k l false = some (n1, q1, e1) := v1_
        obtain ⟨K2, v2_⟩ := v2
        have v2 : ∀ k, K2 ≤ k → imNum k q1 e1 = some (n2, q2, e2) := v2_
        obtain ⟨K3, v3_⟩ := v3
        have v3 : ∀ k, K3 ≤ k → imNum k q2 e2 = some (n3, q3, e3) := v3_
        obtain ⟨K4, v4_⟩ := v4
        have v4 : ∀ k, K4 ≤ k → imNum k q3 e3 = some (n4, q4, e4) := v4_
        obtain ⟨K5, v5_⟩ := v5
        have v5 : ∀ k, K5 ≤ k → imNum k q4 e4 = some (n5, q5, e5) := v5_
        refine ⟨D, l2, bad2, ⟨K + K1 + K2 + K3 + K4 + K5, F + 1, fun k f hk hf => ?_⟩, by omega⟩
        obtain ⟨f, rfl⟩ : ∃ g, f = g + 1 := ⟨f - 1, by omega⟩
        show stSess _ _ _ _ _ = _
        rw [stSess, if_pos hn, if_neg hbad, v1 k (by omega), Option.bind_some]
        dsimp only
        rw [v2 k (by omega), Option.bind_some]
        dsimp only
        rw [v3 k (by omega), Option.bind_some]
        dsimp only
        rw [v4 k (by omega), Option.bind_some]
        dsimp only
        rw [v5 k (by omega), Option.bind_some, if_pos (by omega)]
        exact hv k f (by omega) (by omega)
    · refine ⟨acc, l, bad, ⟨0, 1, fun k f _ hf => ?_⟩, by omega⟩
      obtain ⟨f, rfl⟩ : ∃ g, f = g + 1 := ⟨f - 1, by omega⟩
      show stSess _ _ _ _ _ = _
      rw [stSess, if_neg hn]
theorem state_ev (l : List ByteArray) (bad : Bool) (hl : l.length ≤ 100001) (h : ∀ s ∈ l, s.size ≤ 100000) : ∃ (idx : Int) (D : List S42) (S : List S47) (b : Bool), Ev (fun k => image_state k l bad) (idx, D, S, b) ∧ D.length ≤ 1000000 ∧ S.length ≤ 1000000 := by
  obtain ⟨n1, q1, e1, v1, _, z1, y1, x1⟩ := imNum_ev l bad h
  obtain ⟨n2, q2, e2, v2, _, z2, y2, x2⟩ := imNum_ev q1 e1 z1
  obtain ⟨D, q3, e3, v3, z3, y3, w3⟩ := stDocs_ev 100002 n2 q2 e2 [] (by split <;> omega) z2 (by simp)
  obtain ⟨S, q4, e4, v4, w4⟩ := stSess_ev 100002 q3 e3 [] (by split <;> omega) z3 (by simp)
  have e0 : ([] : List S42).length = 0 := rfl
  have e0' : ([] : List S47).length = 0 := rfl
  refine ⟨n1, D, S, e4, ?_, by omega, by omega⟩
  refine Ev.bind (g := fun k (a : Int × List ByteArray × Bool) => (imNum k a.2.1 a.2.2).bind fun b => (stDocs k b.1 b.2.1 b.2.2 []).bind fun d => (stSess k k d.2.1 d.2.2 []).bind fun s => some (a.1, d.1, s.1, s.2.2)) v1 ?_
  refine Ev.bind (g := fun k (b : Int × List ByteArray × Bool) => (stDocs k b.1 b.2.1 b.2.2 []).bind fun d => (stSess k k d.2.1 d.2.2 []).bind fun s => some (n1, d.1, s.1, s.2.2)) v2 ?_
  refine Ev.bind (g := fun k (d : List S42 × List ByteArray × Bool) => (stSess k k d.2.1 d.2.2 []).bind fun s => some (n1, d.1, s.1, s.2.2)) v3 ?_
  exact Ev.map v4.ev _ rfl
end Go.Proofs.Yticlghbdapbdnaa.I
/-! ILC -/
namespace Go.Proofs.Yticlghbdapbdnaa.I
open Go.RowKit Go.Proofs.YticlghbdapbdnaaW.PrintWords Go.Proofs.YticlghbdapbdnaaW.PrintLast Go.Proofs.YticlghbdapbdnaaW.PrintMore
set_option linter.unusedVariables false
set_option linter.unusedSimpArgs false
theorem or128_in (x : Int) : 0 ≤ Go.bits .or .u8 (x % 256) 128 ∧ Go.bits .or .u8 (x % 256) 128 < 256 := by
  have h0 : 0 ≤ x % 256 := by omega
  have h1 : x % 256 < 256 := by omega
  obtain ⟨a, ha⟩ := Int.eq_ofNat_of_zero_le h0
  rw [ha] at h1 ⊢
  have h2 : a < 2 ^ 8 := by omega
  have h3 := (bits_nat .u8 8 (by decide) wraps_u8 a 128 h2 (by decide)).2
  have h4 := Nat.or_lt_two_pow h2 (show 128 < 2 ^ 8 by decide)
  have h5 : Go.bits .or .u8 ((a : Nat) : Int) 128 = ((a ||| 128 : Nat) : Int) := h3
  rw [h5]
  omega
theorem InB.one {x : Int} (h : 0 ≤ x ∧ x < 256) : InB [x] := fun y hy => by rw [List.mem_singleton.1 hy]; exact h
theorem InB.nil : InB [] := fun y hy => (List.not_mem_nil hy).elim
theorem num_l0 : ∀ (d : Nat) (x : Int) (acc : List Int), 0 ≤ x → x < 128 ^ (d + 1) → acc.length + d ≤ 100 → InB acc → ∃ b : List Int, Ev (fun k => wire_Num.l0 k x acc) (b, 0) ∧ InB b ∧ b.length ≤ acc.length + d + 1
  | 0, x, acc, h0, h1, hl, hb => by
    have h2 : x < 128 := by simpa using h1
    refine ⟨acc ++ [x % 256], Ev.step ((Ev.pure _).of_eq fun k => ?_), hb.append (InB.one (by omega)), by rw [List.length_append, List.length_singleton]; omega⟩
    rw [wire_Num.l0, if_neg (by omega), if_pos (by omega)]
  | d + 1, x, acc, h0, h1, hl, hb => by
    by_cases h2 : x ≥ 128
    · have h3 : x / 128 < 128 ^ (d + 1) := by
        apply Int.ediv_lt_of_lt_mul (by decide)
        rw [← Int.pow_succ]
        exact h1
      obtain ⟨b, hv, hb2, hlen⟩ := num_l0 d (x / 128) (acc ++ [Go.bits .or .u8 (x % 256) 128]) (by omega) h3 (by rw [List.length_append, List.length_singleton]; omega) (hb.append (InB.one (or128_in x)))
      rw [List.length_append, List.length_singleton] at hlen
      exact ⟨b, Ev.step (hv.of_eq fun k => by rw [wire_Num.l0, if_pos h2, if_pos (by omega)]), hb2, by omega⟩
    · refine ⟨acc ++ [x % 256], Ev.step ((Ev.pure _).of_eq fun k => ?_), hb.append (InB.one (by omega)), by rw [List.length_append, List.length_singleton]; omega⟩
      rw [wire_Num.l0, if_neg h2, if_pos (by omega)]
theorem pow9 : (128 : Int) ^ (8 + 1) = 9223372036854775808 := by decide
theorem numa_ev (l : List Int) (x : Int) (hl : l.length ≤ 1000000000) (h0 : 0 ≤ x) (h1 : x < 9223372036854775808) : ∃ b : List Int, Ev (fun k => wire_num.f k l x) (l ++ b) ∧ InB b ∧ b.length ≤ 9 := by
  obtain ⟨b, hv, hb, hlen⟩ := num_l0 8 x [] h0 (by rw [pow9]; exact h1) (by simp) InB.nil
  have e0 : ([] : List Int).length = 0 := rfl
  have hv2 : Ev (fun k => wire_Num.f k x) (b, 0) := hv.of_eq fun k => by unfold wire_Num.f; rw [if_neg (by omega)]
  exact ⟨b, hv2.map (fun bt => if l.length + bt.1.length < 140737488355328 then some (l ++ bt.1) else none) (by rw [if_pos (by dsimp only; omega)]), hb, by omega⟩
theorem rd_get (l : List Int) (i : Nat) (h : i < l.length) : rd l (i : Int) = l[i] := by
  unfold Go.Proofs.YticlghbdapbdnaaW.PrintWords.rd
  rw [Int.toNat_natCast, List.getD_eq_getElem?_getD, List.getElem?_eq_getElem h]
  rfl
theorem numbers_l0 (l : List Int) (hl : l.length ≤ 1000) (h : ∀ x ∈ l, 0 ≤ x ∧ x < 9223372036854775808) : ∀ d i (acc : List ByteArray), i + d = l.length → acc.length ≤ i → (∀ s ∈ acc, s.size ≤ 2048) → ∃ L : List ByteArray, Ev (fun k => wire_Numbers.l0 k acc l (l.length : Int) (i : Int)) L ∧ L.length ≤ acc.length + d ∧ (∀ s ∈ L, s.size ≤ 2048) := by
  intro d
  induction d with
  | zero =>
    intro i acc hd ha hs
    exact ⟨acc, Ev.step ((Ev.pure _).of_eq fun k => by rw [wire_Numbers.l0, if_neg (by omega)]), by omega, hs⟩
  | succ d ih =>
    intro i acc hd ha hs
    have hm := h l[i] (List.getElem_mem (by omega))
    rw [← rd_get l i (by omega)] at hm
    obtain ⟨b, hv, hb, hlen⟩ := numa_ev [] (rd l (i : Int)) (by simp) hm.1 hm.2
    rw [List.nil_append] at hv
    obtain ⟨L, hL, h1, h2⟩ := ih (i + 1) (acc ++ [strOfNums b]) (by omega) (by rw [List.length_append, List.length_singleton]; omega) (fun s hs2 => (List.mem_append.1 hs2).elim (hs s) (fun hs2 => by rw [List.mem_singleton.1 hs2, str_size]; omega))
    rw [List.length_append, List.length_singleton] at h1
    refine ⟨L, Ev.step ?_, by omega, h2⟩
    have := Ev.bind (g := fun k t136 => (if acc.length < 8796093022208 then (wire_Numbers.l0 k (acc ++ [strOfNums t136]) l (l.length : Int) (wrap64 ((i : Int) + 1))) else (none))) hv (hL.of_eq fun k => by rw [if_pos (by omega), wrn i (by omega)])
    exact this.of_eq fun k => by rw [wire_Numbers.l0, if_pos (by omega), if_pos (by omega), if_pos (by omega)]
theorem numbers_ev (l : List Int) (hl : l.length ≤ 1000) (h : ∀ x ∈ l, 0 ≤ x ∧ x < 9223372036854775808) : ∃ L : List ByteArray, Ev (fun k => wire_Numbers.f k l) L ∧ L.length ≤ l.length ∧ (∀ s ∈ L, s.size ≤ 2048) := by
  obtain ⟨L, hv, h1, h2⟩ := numbers_l0 l hl h l.length 0 [] (by omega) (by simp) (fun s hs => (List.not_mem_nil hs).elim)
  have e0 : ([] : List ByteArray).length = 0 := rfl
  exact ⟨L, hv, by omega, h2⟩
theorem rdS_get (l : List ByteArray) (i : Nat) (h : i < l.length) : rdOf ByteArray.empty l (i : Int) = l[i] := by
  unfold rdOf
  rw [Int.toNat_natCast, List.getD_eq_getElem?_getD, List.getElem?_eq_getElem h]
  rfl
theorem put_l0 (T : List ByteArray) (hl : T.length ≤ 1000) (hs : ∀ s ∈ T, s.size ≤ 2048) : ∀ d i (b : List Int), i + d = T.length → b.length ≤ 1048576 → InB b → ∃ r : List Int × Int, Ev (fun k => wire_Put.l0 k b T (T.length : Int) (i : Int)) r ∧ InB r.1 ∧ r.1.length ≤ 1048576 := by
  intro d
  induction d with
  | zero =>
    intro i b hd hb hin
    exact ⟨(b, 0), Ev.step ((Ev.pure _).of_eq fun k => by rw [wire_Put.l0, if_neg (by omega), if_neg (by omega)]), hin, hb⟩
  | succ d ih =>
    intro i b hd hb hin
    have hm := hs T[i] (List.getElem_mem (by omega))
    rw [← rdS_get T i (by omega)] at hm
    obtain ⟨c, hv, hc, hlen⟩ := numa_ev b ((rdOf ByteArray.empty T (i : Int)).size : Int) (by omega) (by omega) (by omega)
    have hbl : (b ++ c).length = b.length + c.length := List.length_append
    have hw : wrap64 (1048576 - ((b ++ c).length : Int)) = 1048576 - ((b ++ c).length : Int) := wrb _ (by omega) (by omega)
    have key : ∀ r, Ev (fun k => (if ((rdOf ByteArray.empty T (i : Int)).size : Int) > (wrap64 (1048576 - ((b ++ c).length : Int))) then (some (([] : List Int), (2 : Int))) else (if (b ++ c).length + (rdOf ByteArray.empty T (i : Int)).size < 140737488355328 then (wire_Put.l0 k ((b ++ c) ++ bytesOf (rdOf ByteArray.empty T (i : Int))) T (T.length : Int) (wrap64 ((i : Int) + 1))) else (none)))) r → Ev (fun k => wire_Put.l0 k b T (T.length : Int) (i : Int)) r := fun r hr => by
      refine Ev.step ?_
      have := Ev.bind (g := fun k (t146 : List Int) => (if ((rdOf ByteArray.empty T (i : Int)).size : Int) > (wrap64 (1048576 - (t146.length : Int))) then (some (([] : List Int), (2 : Int))) else (if t146.length + (rdOf ByteArray.empty T (i : Int)).size < 140737488355328 then (wire_Put.l0 k (t146 ++ bytesOf (rdOf ByteArray.empty T (i : Int))) T (T.length : Int) (wrap64 ((i : Int) + 1))) else (none)))) hv hr
      exact this.of_eq fun k => by rw [wire_Put.l0, if_pos (by omega), if_pos (by omega), if_pos (by omega)]
    by_cases hbig : ((rdOf ByteArray.empty T (i : Int)).size : Int) > 1048576 - ((b ++ c).length : Int)
    · exact ⟨([], 2), key _ ((Ev.pure _).of_eq fun k => by rw [hw, if_pos hbig]), InB.nil, by simp⟩
    · have h3 : ((b ++ c) ++ bytesOf (rdOf ByteArray.empty T (i : Int))).length = (b ++ c).length + (rdOf ByteArray.empty T (i : Int)).size := by rw [List.length_append, bytesOf_length]
      obtain ⟨r, hr, h1, h2⟩ := ih (i + 1) ((b ++ c) ++ bytesOf (rdOf ByteArray.empty T (i : Int))) (by omega) (by omega) ((hin.append hc).append (InB.bytes _))
      exact ⟨r, key r (hr.of_eq fun k => by rw [hw, if_neg hbig, if_pos (by omega), wrn i (by omega)]), h1, h2⟩
theorem put_ev (T : List ByteArray) (hl : T.length ≤ 1000) (hs : ∀ s ∈ T, s.size ≤ 2048) : ∃ r : List Int × Int, Ev (fun k => wire_Put.f k T) r ∧ InB r.1 ∧ r.1.length ≤ 1048576 := by
  obtain ⟨c, hv, hc, hlen⟩ := numa_ev [] (T.length : Int) (by simp) (by omega) (by omega)
  rw [List.nil_append] at hv
  obtain ⟨r, hr, h1, h2⟩ := put_l0 T hl hs T.length 0 c (by omega) (by omega) hc
  exact ⟨r, Ev.bind (g := fun k t142 => wire_Put.l0 k t142 T (T.length : Int) 0) hv hr, h1, h2⟩
theorem sealed_is (b : List Int) (x : Int) (hl : b.length ≤ 1048576) : wire_Sealed.f b x = some (b ++ [(x / 16777216) % 256, (x / 65536) % 256, (x / 256) % 256, x % 256]) := by
  unfold wire_Sealed.f
  rw [Option.bind_some, if_pos (by simp only [List.length_cons, List.length_nil]; omega)]
theorem tail_ev (T : List ByteArray) (hl : T.length ≤ 1000) (hs : ∀ s ∈ T, s.size ≤ 2048) : ∃ r : List Int × Int, Ev (fun k => (wire_Put.f k T).bind fun bt186 => (if bt186.2 = 0 then ((sum_Sum.f 0 bt186.1).bind fun t190 => ((wire_Sealed.f bt186.1 t190).bind fun t191 => (some (t191, (0 : Int))))) else (some (([] : List Int), bt186.2)))) r ∧ InB r.1 := by
  obtain ⟨⟨b, e⟩, hv, hb, hbl⟩ := put_ev T hl hs
  dsimp only at hb hbl
  by_cases he : e = 0
  · refine ⟨(b ++ [(sumV b / 16777216) % 256, (sumV b / 65536) % 256, (sumV b / 256) % 256, sumV b % 256], 0), hv.map _ ?_, ?_⟩
    · dsimp only
      rw [if_pos he]
      unfold sum_Sum.f
      rw [if_pos ⟨rfl, by omega⟩, Option.bind_some, sealed_is b _ hbl, Option.bind_some]
    · refine hb.append fun y hy => ?_
      simp only [List.mem_cons, List.not_mem_nil, or_false] at hy
      rcases hy with rfl | rfl | rfl | rfl <;> omega
  · exact ⟨([], e), hv.map _ (by dsimp only; rw [if_neg he]), InB.nil⟩
theorem sess_five {l : List S47} (h : mayP l) (i : Nat) (hi : i < l.length) : ∀ x ∈ [(rd_T47 l (i : Int)).f0, (rd_T47 l (i : Int)).f1, (rd_T47 l (i : Int)).f2.f0, (rd_T47 l (i : Int)).f2.f1, (rd_T47 l (i : Int)).f3], 0 ≤ x ∧ x < 9223372036854775808 := by
  have h1 := h.1 i (Nat.zero_le _) hi
  simp only [stepB, replyB, numB, Bool.and_eq_true, decide_eq_true_eq] at h1
  intro x hx
  simp only [List.mem_cons, List.not_mem_nil, or_false] at hx
  rcases hx with rfl | rfl | rfl | rfl | rfl <;> omega
theorem bytes_l1 (sess : List S47) (h : mayP sess) : ∀ d i (T : List ByteArray), i + d = sess.length → T.length ≤ 500 + 5 * i → (∀ s ∈ T, s.size ≤ 2048) → ∃ r : List Int × Int, Ev (fun k => image_Bytes.l1 k T sess (sess.length : Int) (i : Int)) r ∧ InB r.1 := by
  have h8 := h.2
  intro d
  induction d with
  | zero =>
    intro i T hd hT hs
    obtain ⟨r, hr, h1⟩ := tail_ev T (by omega) hs
    exact ⟨r, Ev.step (hr.of_eq fun k => by rw [image_Bytes.l1, if_neg (by omega)]), h1⟩
  | succ d ih =>
    intro i T hd hT hs
    obtain ⟨L, hL, hl1, hl2⟩ := numbers_ev _ (by simp) (sess_five h i (by omega))
    have hl3 : L.length ≤ 5 := hl1
    obtain ⟨r, hr, h1⟩ := ih (i + 1) (T ++ L) (by omega) (by rw [List.length_append]; omega) (fun s hs2 => (List.mem_append.1 hs2).elim (hs s) (hl2 s))
    refine ⟨r, Ev.step ?_, h1⟩
    have := Ev.bind (g := fun k (t180 : List ByteArray) => (if T.length + t180.length < 8796093022208 then (image_Bytes.l1 k (T ++ t180) sess (sess.length : Int) (wrap64 ((i : Int) + 1))) else (none))) hL (hr.of_eq fun k => by rw [if_pos (by omega), wrn i (by omega)])
    exact this.of_eq fun k => by rw [image_Bytes.l1, if_pos (by omega), if_pos (by omega), if_pos (by omega)]
theorem bytes_l0 (idx : Int) (docs : List S42) (sess : List S47) (hd0 : docsP docs) (h : mayP sess) : ∀ d i (T : List ByteArray), i + d = docs.length → T.length ≤ 100 + 2 * i → (∀ s ∈ T, s.size ≤ 2048) → ∃ r : List Int × Int, Ev (fun k => image_Bytes.l0 k T docs (docs.length : Int) (i : Int) idx docs sess) r ∧ InB r.1 := by
  have h64 := hd0.2
  intro d
  induction d with
  | zero =>
    intro i T hd hT hs
    obtain ⟨r, hr, h1⟩ := bytes_l1 sess h sess.length 0 T (by omega) (by omega) hs
    exact ⟨r, Ev.step (hr.of_eq fun k => by rw [image_Bytes.l0, if_neg (by omega)]; rfl), h1⟩
  | succ d ih =>
    intro i T hd hT hs
    obtain ⟨hst, ht⟩ := hd0.1.1 i (Nat.zero_le _) (by omega)
    have hn : (rd_T42 docs (i : Int)).f0.size ≤ 2048 := by
      simp only [dstep, Bool.and_eq_true, decide_eq_true_eq] at hst
      omega
    obtain ⟨r, hr, h1⟩ := ih (i + 1) (T ++ [(rd_T42 docs (i : Int)).f0, (rd_T42 docs (i : Int)).f1]) (by omega) (by rw [List.length_append]; simp only [List.length_cons, List.length_nil]; omega) (fun s hs2 => (List.mem_append.1 hs2).elim (hs s) (fun hs2 => by
      simp only [List.mem_cons, List.not_mem_nil, or_false] at hs2
      rcases hs2 with rfl | rfl <;> omega))
    exact ⟨r, Ev.step (hr.of_eq fun k => by rw [image_Bytes.l0, if_pos (by omega), if_pos (by omega), if_pos (by omega), Option.bind_some, if_pos (by simp only [List.length_cons, List.length_nil]; omega), wrn i (by omega)]), h1⟩
theorem bytes_ev (idx : Int) (docs : List S42) (sess : List S47) (hl : docs.length ≤ 1000000) (hs : sess.length ≤ 1000000) : ∃ r : List Int × Int, Ev (fun k => image_Bytes.f k idx docs sess) r ∧ InB r.1 ∧ (r.2 = 0 → stateP idx docs sess) := by
  by_cases h : stateP idx docs sess
  · obtain ⟨h1, h2, h3⟩ := h
    have hn := h1
    simp only [numB, decide_eq_true_eq] at hn
    have h64 := h2.2
    obtain ⟨L, hL, hl1, hl2⟩ := numbers_ev [idx, (docs.length : Int)] (by simp) (fun x hx => by
      simp only [List.mem_cons, List.not_mem_nil, or_false] at hx
      rcases hx with rfl | rfl <;> omega)
    have hl3 : L.length ≤ 2 := hl1
    obtain ⟨r, hr, hin⟩ := bytes_l0 idx docs sess h2 h3 docs.length 0 L (by omega) (by omega) hl2
    refine ⟨r, ?_, hin, fun _ => ⟨h1, h2, h3⟩⟩
    have hb := Ev.bind (g := fun k t164 => image_Bytes.l0 k t164 docs (docs.length : Int) 0 idx docs sess) hL hr
    have := Ev.bind (g := fun k (t160 : Bool) => (if t160 = true then ((wire_Numbers.f k (([idx, (docs.length : Int)] : List Int))).bind fun t164 => (image_Bytes.l0 k t164 docs (docs.length : Int) 0 idx docs sess)) else (some (([] : List Int), (1 : Int))))) (mmay_yes ⟨h1, h2, h3⟩) (hb.of_eq fun k => by rw [if_pos rfl])
    exact this
  · refine ⟨([], 1), (mmay_no hl hs h).bind (g := fun k (t160 : Bool) => (if t160 = true then ((wire_Numbers.f k (([idx, (docs.length : Int)] : List Int))).bind fun t164 => (image_Bytes.l0 k t164 docs (docs.length : Int) 0 idx docs sess)) else (some (([] : List Int), (1 : Int))))) ((Ev.pure _).of_eq fun k => by rw [if_neg (by decide)]), InB.nil, fun h2 => by cases h2⟩
end Go.Proofs.Yticlghbdapbdnaa.I
/-! ILD -/
namespace Go.Proofs.Yticlghbdapbdnaa.I
open Go.ChangeShapes Go.WideShapes Go.RowKit Go.Proofs.YticlghbdapbdnaaW.PrintWords Go.Proofs.YticlghbdapbdnaaW.PrintLast Go.Proofs.YticlghbdapbdnaaW.PrintMore Go.Proofs.Yticlghbdapbdnaa.Opening
set_option linter.unusedVariables false
set_option linter.unusedSimpArgs false
theorem bytes_str {l : List Int} (h : InB l) : bytesOf (strOfNums l) = l := by
  unfold bytesOf strOfNums
  rw [List.map_map]
  conv => rhs; rw [← List.map_id l]
  refine List.map_congr_left fun x hx => ?_
  have h1 := h x hx
  show (((UInt8.ofNat x.toNat).toNat : Nat) : Int) = x
  rw [UInt8.toNat_ofNat']
  omega
theorem str_inj {a b : List Int} (ha : InB a) (hb : InB b) (h : (strOfNums a).toList = (strOfNums b).toList) : a = b := by
  rw [ByteArray.toList_eq, ByteArray.toList_eq] at h
  have := congrArg (fun l : List UInt8 => l.map fun x => ((x.toNat : Nat) : Int)) h
  have h2 : bytesOf (strOfNums a) = bytesOf (strOfNums b) := this
  rwa [bytes_str ha, bytes_str hb] at h2
theorem parse_ev (l : List Int) (hl : l.length ≤ 4000) (hb : InB l) : ∃ (idx : Int) (docs : List S42) (sess : List S47) (e : Int), Ev (fun k => image_Parse.f k l) (idx, docs, sess, e) ∧ ((e = 0 ∧ Ev (fun k => image_Bytes.f k idx docs sess) (l, 0) ∧ stateP idx docs sess) ∨ (idx = 0 ∧ docs = [] ∧ sess = [] ∧ e = 1)) := by
  by_cases h4 : l.length < 4
  · exact ⟨0, [], [], 1, (Ev.pure _).of_eq fun k => by unfold image_Parse.f; rw [if_pos (by omega), if_pos h4], .inr ⟨rfl, rfl, rfl, rfl⟩⟩
  · obtain ⟨L, e1, hg, hs, hL⟩ := get_ev (l.take (l.length - 4)) (by rw [List.length_take]; omega) (fun x hx => hb x (List.mem_of_mem_take hx))
    obtain ⟨idx, D, S, b, hst, hD, hS⟩ := state_ev L (e1 != 0) hL hs
    obtain ⟨⟨bs, be⟩, hby, hin, hok⟩ := bytes_ev idx D S hD hS
    have key : ∀ r, (if b = true then ((0 : Int), ([] : List S42), ([] : List S47), (1 : Int)) else if be ≠ 0 then (0, [], [], 1) else if (strOfNums bs).toList = (strOfNums l).toList then (idx, D, S, 0) else (0, [], [], 1)) = r → Ev (fun k => image_Parse.f k l) r := fun r hr => by
      have h1 := Ev.bind (g := fun k (s : Int × List S42 × List S47 × Bool) => (image_Bytes.f k s.1 s.2.1 s.2.2.1).bind fun b => some (if s.2.2.2 = true then ((0 : Int), ([] : List S42), ([] : List S47), (1 : Int)) else if b.2 ≠ 0 then (0, [], [], 1) else if (strOfNums b.1).toList = (strOfNums l).toList then (s.1, s.2.1, s.2.2.1, 0) else (0, [], [], 1))) hst (hby.map _ (congrArg some hr))
      have h2 := Ev.bind (g := fun k (u : List ByteArray × Int) => (image_state k u.1 (u.2 != 0)).bind fun s => (image_Bytes.f k s.1 s.2.1 s.2.2.1).bind fun b => some (if s.2.2.2 = true then ((0 : Int), ([] : List S42), ([] : List S47), (1 : Int)) else if b.2 ≠ 0 then (0, [], [], 1) else if (strOfNums b.1).toList = (strOfNums l).toList then (s.1, s.2.1, s.2.2.1, 0) else (0, [], [], 1))) hg h1
      exact h2.of_eq fun k => by unfold image_Parse.f; rw [if_pos (by omega), if_neg h4]
    by_cases c1 : b = true
    · exact ⟨0, [], [], 1, key _ (by rw [if_pos c1]), .inr ⟨rfl, rfl, rfl, rfl⟩⟩
    · by_cases c2 : be ≠ 0
      · exact ⟨0, [], [], 1, key _ (by rw [if_neg c1, if_pos c2]), .inr ⟨rfl, rfl, rfl, rfl⟩⟩
      · have c2' : be = 0 := by omega
        by_cases c3 : (strOfNums bs).toList = (strOfNums l).toList
        · have := str_inj hin hb c3
          subst this
          subst c2'
          exact ⟨idx, D, S, 0, key _ (by rw [if_neg c1, if_neg c2, if_pos c3]), .inl ⟨rfl, hby, hok rfl⟩⟩
        · exact ⟨0, [], [], 1, key _ (by rw [if_neg c1, if_neg c2, if_neg c3]), .inr ⟨rfl, rfl, rfl, rfl⟩⟩
theorem copy_l0 (l : List Int) (hl : l.length ≤ 1000000000) : ∀ d i, i + d = l.length → Ev (fun k => lecternref0_CopyBytes.l0 k l (l.take i) (i : Int)) l
  | 0, i, hd => Ev.step ((Ev.pure _).of_eq fun k => by rw [lecternref0_CopyBytes.l0, if_neg (by omega), List.take_of_length_le (by omega)])
  | d + 1, i, hd => by
    have ih := copy_l0 l hl d (i + 1) (by omega)
    refine Ev.step (ih.of_eq fun k => ?_)
    rw [lecternref0_CopyBytes.l0, if_pos (by omega), if_pos (by omega), if_pos (by rw [List.length_take]; omega), wrn i (by omega), rd_get l i (by omega), ← List.take_succ_eq_append_getElem (show i < l.length by omega)]
theorem copy_ev (l : List Int) (hl : l.length ≤ 1000000000) : Ev (fun k => lecternref0_CopyBytes.f k l) l := copy_l0 l hl l.length 0 (by omega)
theorem eqb_l0 (l : List Int) (hl : l.length ≤ 1000000000) : ∀ d i, i + d = l.length → Ev (fun k => lecternref0_EqBytes.l0 k l l (i : Int)) true
  | 0, i, hd => Ev.step ((Ev.pure _).of_eq fun k => by rw [lecternref0_EqBytes.l0, if_neg (by omega)])
  | d + 1, i, hd => by
    have ih := eqb_l0 l hl d (i + 1) (by omega)
    exact Ev.step (ih.of_eq fun k => by rw [lecternref0_EqBytes.l0, if_pos (by omega), if_pos (by omega), if_pos (by omega), if_pos rfl, wrn i (by omega)])
theorem eqb_ev (l : List Int) (hl : l.length ≤ 1000000000) : Ev (fun k => lecternref0_EqBytes.f k l l) true :=
  (eqb_l0 l hl l.length 0 (by omega)).of_eq fun k => by unfold lecternref0_EqBytes.f; rw [if_pos rfl]; rfl
theorem eqs_ev : Ev (fun k => lecternref0_EqState.f k 0 ([] : List S42) ([] : List S47) 0 ([] : List S42) ([] : List S47)) true :=
  Ev.of_mono (k0 := 3) (fun k => lecternref0_EqState.mono _ _ _ _ _ _ k) (by decide)
theorem wakes_ev : Ev (fun k => lecternlaw17_wakes.f k) true := Ev.of_mono (k0 := 30) (fun k => lecternlaw17_wakes.mono k) (by decide +kernel)
theorem rdL_get (l : List (List Int)) (i : Nat) (h : i < l.length) : rd_L8 l (i : Int) = l[i] := by
  unfold rd_L8
  rw [Int.toNat_natCast, List.getD_eq_getElem?_getD, List.getElem?_eq_getElem h]
  rfl
theorem any_j2 (l0 : List (List Int)) (i : Nat) (hi : i < l0.length) (hi2 : i ≤ 1000) (e idx : Int) (docs : List S42) (sess : List S47) (hlen : (rd_L8 l0 (i : Int)).length ≤ 4000)
    (hp : (e = 0 ∧ Ev (fun k => image_Bytes.f k idx docs sess) (rd_L8 l0 (i : Int), 0) ∧ stateP idx docs sess) ∨ (idx = 0 ∧ docs = [] ∧ sess = [] ∧ e = 1))
    (hn : Ev (fun k => lecternlaw17_ImageAny.l0 k l0 ((i + 1 : Nat) : Int)) true) : Ev (fun k => lecternlaw17_ImageAny.j2 k l0 (i : Int) e false idx docs sess) true := by
  refine Ev.step ?_
  rcases hp with ⟨rfl, hb, hs⟩ | ⟨rfl, rfl, rfl, rfl⟩
  · have h1 := Ev.bind (g := fun k (t286 : Bool) => (if t286 = true then (lecternlaw17_ImageAny.l0 k l0 (wrap64 ((i : Int) + 1))) else (none))) (state_yes hs) (hn.of_eq fun k => by rw [if_pos rfl, wrn i (by omega)])
    have h2 := Ev.bind (g := fun k (t285 : Bool) => (if t285 = true then ((lecternref14_State.f k idx docs sess).bind fun t286 => (if t286 = true then (lecternlaw17_ImageAny.l0 k l0 (wrap64 ((i : Int) + 1))) else (none))) else (none))) (eqb_ev (rd_L8 l0 (i : Int)) (by omega)) (h1.of_eq fun k => by rw [if_pos rfl])
    have h3 := Ev.bind (g := fun k (bt279 : List Int × Int) => ((lecternlaw17_num.f bt279.2).bind fun t283 => (if t283 = 0 then (if 0 ≤ (i : Int) then (if (i : Int) < (l0.length : Int) then ((lecternref0_EqBytes.f k bt279.1 (rd_L8 l0 (i : Int))).bind fun t285 => (if t285 = true then ((lecternref14_State.f k idx docs sess).bind fun t286 => (if t286 = true then (lecternlaw17_ImageAny.l0 k l0 (wrap64 ((i : Int) + 1))) else (none))) else (none))) else (none)) else (none)) else (none)))) hb (h2.of_eq fun k => by unfold lecternlaw17_num.f; rw [Option.bind_some, if_pos rfl, if_pos (by omega), if_pos (by omega)])
    exact h3.of_eq fun k => by rw [lecternlaw17_ImageAny.j2, if_neg (by decide), lecternlaw17_num.f, Option.bind_some, if_pos rfl]
  · exact hn.of_eq fun k => by rw [lecternlaw17_ImageAny.j2, if_neg (by decide), lecternlaw17_num.f, Option.bind_some, if_neg (by decide), wrn i (by omega)]
theorem any_l0 (l0 : List (List Int)) (h : ∀ l ∈ l0, InB l) : ∀ (d i : Nat), i + d = 20 → Ev (fun k => lecternlaw17_ImageAny.l0 k l0 (i : Int)) true := by
  have wk : ∀ (i : Nat), Ev (fun k => lecternlaw17_ImageAny.j1 k l0 (i : Int) false) true := fun i => Ev.step ((wakes_ev.map (fun t => some t) rfl).of_eq fun k => by rw [lecternlaw17_ImageAny.j1, if_neg (by decide)])
  intro d
  induction d with
  | zero =>
    intro i hd
    by_cases hlt : (i : Int) < (l0.length : Int)
    · exact Ev.step ((wk i).of_eq fun k => by rw [lecternlaw17_ImageAny.l0, if_pos hlt, decide_eq_false (by omega)])
    · exact Ev.step ((wk i).of_eq fun k => by rw [lecternlaw17_ImageAny.l0, if_neg hlt])
  | succ d ih =>
    intro i hd
    by_cases hlt : (i : Int) < (l0.length : Int)
    · have hn := ih (i + 1) (by omega)
      have hin : InB (rd_L8 l0 (i : Int)) := by rw [rdL_get l0 i (by omega)]; exact h _ (List.getElem_mem _)
      refine Ev.step ?_
      suffices hj : Ev (fun k => lecternlaw17_ImageAny.j1 k l0 (i : Int) true) true from hj.of_eq fun k => by rw [lecternlaw17_ImageAny.l0, if_pos hlt, decide_eq_true (by omega)]
      refine Ev.step ?_
      by_cases hbig : ((rd_L8 l0 (i : Int)).length : Int) > 4000
      · exact (Ev.pure true).of_eq fun k => by rw [lecternlaw17_ImageAny.j1, if_pos rfl, if_pos (by omega), if_pos hlt, if_pos hbig]
      · obtain ⟨idx, docs, sess, e, hp, hor⟩ := parse_ev (rd_L8 l0 (i : Int)) (by omega) hin
        have hj2 := any_j2 l0 i (by omega) (by omega) e idx docs sess (by omega) hor hn
        have main : Ev (fun k => ((lecternlaw17_num.f e).bind fun t275 => (if t275 = 0 then (lecternlaw17_ImageAny.j2 k l0 (i : Int) e false idx docs sess) else ((lecternlaw17_num.f e).bind fun t276 => (if t276 = 1 then ((lecternref0_EqState.f k idx docs sess 0 ([] : List (S42)) ([] : List (S47))).bind fun t277 => (lecternlaw17_ImageAny.j2 k l0 (i : Int) e (!t277) idx docs sess)) else (none)))))) true := by
          rcases hor with ⟨rfl, _, _⟩ | ⟨rfl, rfl, rfl, rfl⟩
          · exact hj2.of_eq fun k => by rw [lecternlaw17_num.f, Option.bind_some, if_pos rfl]
          · have := Ev.bind (g := fun k t277 => lecternlaw17_ImageAny.j2 k l0 (i : Int) 1 (!t277) 0 ([] : List S42) ([] : List S47)) eqs_ev hj2
            exact this.of_eq fun k => by rw [lecternlaw17_num.f, Option.bind_some, if_neg (by decide), Option.bind_some, if_pos rfl]
        have m2 := Ev.bind (g := fun k (t274 : Bool) => (if t274 = true then ((lecternlaw17_num.f e).bind fun t275 => (if t275 = 0 then (lecternlaw17_ImageAny.j2 k l0 (i : Int) e false idx docs sess) else ((lecternlaw17_num.f e).bind fun t276 => (if t276 = 1 then ((lecternref0_EqState.f k idx docs sess 0 ([] : List (S42)) ([] : List (S47))).bind fun t277 => (lecternlaw17_ImageAny.j2 k l0 (i : Int) e (!t277) idx docs sess)) else (none))))) else (none))) (eqb_ev (rd_L8 l0 (i : Int)) (by omega)) (main.of_eq fun k => by rw [if_pos rfl])
        obtain ⟨K1, hK1⟩ := hp
        obtain ⟨K2, hK2⟩ := copy_ev (rd_L8 l0 (i : Int)) (by omega)
        obtain ⟨K3, hK3⟩ := m2
        refine ⟨K1 + K2 + K3, fun k hk => ?_⟩
        have e1 : image_Parse.f k (rd_L8 l0 (i : Int)) = some (idx, docs, sess, e) := hK1 k (by omega)
        have e2 : lecternref0_CopyBytes.f k (rd_L8 l0 (i : Int)) = some (rd_L8 l0 (i : Int)) := hK2 k (by omega)
        show lecternlaw17_ImageAny.j1 (k + 1) l0 (i : Int) true = some true
        rw [lecternlaw17_ImageAny.j1, if_pos rfl, if_pos (by omega), if_pos hlt, if_neg hbig, e2, Option.bind_some, e1, Option.bind_some]
        exact hK3 k (by omega)
    · exact Ev.step ((wk i).of_eq fun k => by rw [lecternlaw17_ImageAny.l0, if_neg hlt])
def okAny (l : List (List Int)) : Prop := (l.length * 24 ≤ 140737488351232 ∧ ∀ y23 ∈ l, (y23.length * 1 ≤ 140737488351232 ∧ ∀ y5 ∈ y23, (Lit.int .u8 y5).wf = true))
theorem opens_any : Opens Try.prog 22 (Kd.slice 23 (Kd.slice 5 (Kd.int .u8))) okAny := opens_slice Try.underlying22 (by kernel_rfl) (by kernel_rfl) (opens_slice Try.underlying23 (by kernel_rfl) (by kernel_rfl) (opens_int Try.underlying5 (by kernel_rfl)))
theorem any_walk (A : Option Addr) (c : Nat) (l : List (List Int)) (w : World) (hr : Kd.C (Kd.slice 5 (Kd.int .u8)) w A l.length l) (hc : l.length ≤ c) (ok : okAny l) :
    Calls Try.prog 3 #[.slice A l.length c] w fun e w' => e = .returned (.bool true) ∧ Below w.heap.size w w' := by
  obtain ⟨K, hK⟩ := any_l0 l (fun x hx y hy => by
    have := (ok.2 x hx).2 y hy
    have h2 : 0 ≤ y ∧ y ≤ 255 := by simpa [Lit.wf, IntKind.min, IntKind.max, IntKind.bits, IntKind.signed] using this
    omega) 20 0 (by omega)
  exact lecternlaw17_ImageAny.calls K A c l true w hr hc (hK K (Nat.le_refl _))
end Go.Proofs.Yticlghbdapbdnaa.I
