/- Image in plain Lean: which states may be. -/
import Derived.Test.YticlghbdapbdnaaIx9
namespace Go.Proofs.Yticlghbdapbdnaa.I
open Go.RowKit Go.Proofs.YticlghbdapbdnaaW.PrintWords Go.Proofs.YticlghbdapbdnaaW.PrintLast Go.Proofs.YticlghbdapbdnaaW.PrintMore
set_option linter.unusedVariables false
set_option linter.unusedSimpArgs false
/-- From some fuel on it is v. -/
def Ev {α : Type} (f : Nat → Option α) (v : α) : Prop := ∃ K, ∀ k, K ≤ k → f k = some v
theorem Ev.step {α : Type} {f : Nat → Option α} {v : α} (h : Ev (fun k => f (k + 1)) v) : Ev f v := by
  obtain ⟨K, h⟩ := h
  refine ⟨K + 1, fun k hk => ?_⟩
  obtain ⟨k, rfl⟩ : ∃ n, k = n + 1 := ⟨k - 1, by omega⟩
  exact h k (by omega)
theorem Ev.pure {α : Type} (v : α) : Ev (fun _ => some v) v := ⟨0, fun _ _ => rfl⟩
theorem Ev.bind {α β : Type} {f : Nat → Option α} {g : Nat → α → Option β} {x : α} {v : β} (h1 : Ev f x) (h2 : Ev (fun k => g k x) v) : Ev (fun k => (f k).bind (g k)) v := by
  obtain ⟨K1, h1⟩ := h1
  obtain ⟨K2, h2⟩ := h2
  refine ⟨K1 + K2, fun k hk => ?_⟩
  show (f k).bind (g k) = some v
  rw [h1 k (by omega)]
  exact h2 k (by omega)
theorem Ev.of_eq {α : Type} {f g : Nat → Option α} {v : α} (h : Ev g v) (e : ∀ k, f k = g k) : Ev f v := by
  obtain ⟨K, h⟩ := h
  exact ⟨K, fun k hk => (e k).trans (h k hk)⟩
theorem Ev.and {α β : Type} {f : Nat → Option α} {g : Nat → Option β} {x : α} {y : β} (h1 : Ev f x) (h2 : Ev g y) : ∃ K, ∀ k, K ≤ k → f k = some x ∧ g k = some y := by
  obtain ⟨K1, h1⟩ := h1
  obtain ⟨K2, h2⟩ := h2
  exact ⟨K1 + K2, fun k hk => ⟨h1 k (by omega), h2 k (by omega)⟩⟩
theorem wrb (n : Int) (h : -9223372036854775808 ≤ n) (h1 : n ≤ 9223372036854775807) : wrap64 n = n := by unfold wrap64; omega
theorem wrn (i : Nat) (h : i ≤ 1000000000000000) : wrap64 ((i : Int) + 1) = ((i + 1 : Nat) : Int) := by rw [wrb _ (by omega) (by omega)]; omega
theorem wrp (i : Nat) (h : i ≤ 1000000000000000) : wrap64 (((i + 1 : Nat) : Int) - 1) = (i : Int) := by rw [wrb _ (by omega) (by omega)]; omega
/-! ### numbers, replies -/
def numB (n m : Int) : Bool := decide (m ≤ n ∧ n < 1099511627776)
theorem Number_f (a m : Int) : session_Number.f a m = some (numB a m) := by
  unfold session_Number.f numB
  by_cases h : a ≥ m
  · rw [if_pos h]; simp [h]
  · rw [if_neg h]; simp [h]
def replyB (a b : Int) (l : List S96) : Bool := decide (0 ≤ a) && (decide (a ≤ 10) && (numB b 0 && ((l.length : Int) == 0)))
theorem reply_f (a b : Int) (l : List S96) : session_reply.f a b l = some (replyB a b l) := by
  unfold session_reply.f replyB
  rw [Number_f]
  by_cases h : a ≥ 0
  · rw [if_pos h, decide_eq_true h]
    by_cases h2 : a ≤ 10
    · rw [if_pos h2, decide_eq_true h2]
      cases numB b 0 <;> rfl
    · rw [if_neg h2, decide_eq_false h2]; rfl
  · rw [if_neg h, decide_eq_false h]; rfl
theorem replyB_nil {a b : Int} {l : List S96} (h : replyB a b l = true) : l = [] := by
  simp only [replyB, Bool.and_eq_true, beq_iff_eq] at h
  exact List.eq_nil_of_length_eq_zero (by omega)
/-! ### May -/
def stepB (l : List S47) (i : Nat) : Bool := numB (rd_T47 l (i : Int)).f0 1 && (numB (rd_T47 l (i : Int)).f1 0 && (numB (rd_T47 l (i : Int)).f3 0 && (replyB (rd_T47 l (i : Int)).f2.f0 (rd_T47 l (i : Int)).f2.f1 (rd_T47 l (i : Int)).f2.f2 && (decide (i = 0) || decide ((rd_T47 l ((i - 1 : Nat) : Int)).f0 < (rd_T47 l (i : Int)).f0)))))
theorem may_step (k : Nat) (l : List S47) (i : Nat) (hi : i < l.length) (hl : l.length ≤ 1000000000000000) : session_May.l0 (k + 1) l l (l.length : Int) (i : Int) = if stepB l i = true then session_May.l0 k l l (l.length : Int) (wrap64 ((i : Int) + 1)) else none := by
  rw [session_May.l0, if_pos (by omega), if_pos (by omega), if_pos (by omega), Number_f, Number_f, Number_f, reply_f, Option.bind_some, Option.bind_some, Option.bind_some, Option.bind_some]
  unfold stepB
  cases numB (rd_T47 l (i : Int)).f0 1
  · rfl
  cases numB (rd_T47 l (i : Int)).f1 0
  · rfl
  cases numB (rd_T47 l (i : Int)).f3 0
  · rfl
  cases replyB (rd_T47 l (i : Int)).f2.f0 (rd_T47 l (i : Int)).f2.f1 (rd_T47 l (i : Int)).f2.f2
  · rfl
  simp only [if_true, Bool.true_and]
  cases i with
  | zero => rfl
  | succ i =>
    rw [if_pos (by omega), wrp i (by omega), if_pos (by omega), if_pos (by omega), Nat.add_sub_cancel, decide_eq_false (Nat.succ_ne_zero i), Bool.false_or]
    by_cases hh : (rd_T47 l (i : Int)).f0 ≥ (rd_T47 l ((i + 1 : Nat) : Int)).f0
    · rw [if_pos hh, if_neg (fun h => absurd (of_decide_eq_true h) (by omega))]
    · rw [if_neg hh, if_pos (decide_eq_true (by omega))]
def fromP (l : List S47) (i : Nat) : Prop := ∀ j, i ≤ j → j < l.length → stepB l j = true
def mayP (l : List S47) : Prop := fromP l 0 ∧ l.length ≤ 8
theorem fromP_step {l : List S47} {i : Nat} (h : stepB l i = true) : fromP l i ↔ fromP l (i + 1) :=
  ⟨fun h2 j hj => h2 j (by omega), fun h2 j hj hl => by
    rcases Nat.eq_or_lt_of_le hj with rfl | hj
    · exact h
    · exact h2 j hj hl⟩
theorem may_l0 (l : List S47) (hl : l.length ≤ 8) : ∀ (d i : Nat), i + d = l.length → fromP l i → Ev (fun k => session_May.l0 k l l (l.length : Int) (i : Int)) true
  | 0, i, hd, h => Ev.step ((Ev.pure true).of_eq fun k => by rw [session_May.l0, if_neg (by omega), decide_eq_true (by omega)])
  | d + 1, i, hd, h => by
    have hs := h i (Nat.le_refl _) (by omega)
    have ih := may_l0 l hl d (i + 1) (by omega) ((fromP_step hs).1 h)
    exact Ev.step (ih.of_eq fun k => by rw [may_step _ l i (by omega) (by omega), hs, if_pos rfl, wrn i (by omega)])
theorem may_yes {l : List S47} (h : mayP l) : Ev (fun k => session_May.f k l) true := may_l0 l h.2 l.length 0 (by omega) h.1
theorem Ev.of_mono {α : Type} {f : Nat → Option α} (hm : ∀ k, LeO (f k) (f (k + 1))) {k0 : Nat} {v : α} (h : f k0 = some v) : Ev f v := ⟨k0, fun k hk => at_rounds hm hk h⟩
/-! ### documents -/
def dstep (l : List S42) (i : Nat) : Bool := !((rd_T42 l (i : Int)).f0.toList == ([] : List UInt8)) && (decide (((rd_T42 l (i : Int)).f0.size : Int) ≤ 64) && (decide (i = 0) || Op.bytesLess (rd_T42 l ((i - 1 : Nat) : Int)).f0.toList (rd_T42 l (i : Int)).f0.toList))
def sumFrom (l : List S42) (i : Nat) : Nat := ((l.drop i).map fun x => x.f1.size).sum
theorem rd42 (l : List S42) (i : Nat) (h : i < l.length) : rd_T42 l (i : Int) = l[i] := by
  unfold rd_T42
  rw [Int.toNat_natCast, List.getD_eq_getElem?_getD, List.getElem?_eq_getElem h]
  rfl
theorem sumFrom_step (l : List S42) (i : Nat) (h : i < l.length) : sumFrom l i = (rd_T42 l (i : Int)).f1.size + sumFrom l (i + 1) := by
  unfold sumFrom
  rw [List.drop_eq_getElem_cons h, List.map_cons, List.sum_cons, rd42 l i h]
theorem sumFrom_end (l : List S42) (i : Nat) (h : l.length ≤ i) : sumFrom l i = 0 := by
  unfold sumFrom
  rw [List.drop_eq_nil_of_le h]
  rfl
theorem check_step (k : Nat) (l : List S42) (x3 : Bool) (x4 : Int) (i : Nat) (hi : i < l.length) (hl : l.length ≤ 1000000000) : segment_Check.l0 (k + 1) l x3 x4 l (l.length : Int) (i : Int) = segment_Check.j1 k l x3 x4 l (l.length : Int) (i : Int) (!dstep l i) (rd_T42 l (i : Int)).f0 (rd_T42 l (i : Int)).f1 := by
  rw [segment_Check.l0, if_pos (by omega), if_pos (by omega), if_pos (by omega)]
  unfold segment_Name.f dstep
  by_cases h0 : (rd_T42 l (i : Int)).f0.toList = ([] : List UInt8)
  · rw [if_pos h0, Option.bind_some, if_neg (by decide), beq_iff_eq.mpr h0]
    rfl
  · rw [if_neg h0, Option.bind_some, beq_eq_false_iff_ne.mpr h0]
    cases decide (((rd_T42 l (i : Int)).f0.size : Int) ≤ 64) with
    | false => rw [if_neg (by decide)]; rfl
    | true =>
      rw [if_pos rfl]
      cases i with
      | zero => rfl
      | succ i =>
        rw [if_pos (by omega), wrp i (by omega), if_pos (by omega), if_pos (by omega), Nat.add_sub_cancel, decide_eq_false (Nat.succ_ne_zero i), Bool.false_or]
        rfl
/-- All is well from document i on. -/
def docsFrom (l : List S42) (i : Nat) (all : Nat) : Prop := (∀ j, i ≤ j → j < l.length → dstep l j = true ∧ (rd_T42 l (j : Int)).f1.size ≤ 2048) ∧ all + sumFrom l i ≤ 16384
theorem docsFrom_step {l : List S42} {i all : Nat} (hi : i < l.length) (h1 : dstep l i = true) (h2 : (rd_T42 l (i : Int)).f1.size ≤ 2048) : docsFrom l i all ↔ docsFrom l (i + 1) (all + (rd_T42 l (i : Int)).f1.size) := by
  unfold docsFrom
  rw [sumFrom_step l i hi]
  refine ⟨fun h => ⟨fun j hj => h.1 j (by omega), by omega⟩, fun h => ⟨fun j hj hl => ?_, by omega⟩⟩
  rcases Nat.eq_or_lt_of_le hj with rfl | hj
  · exact ⟨h1, h2⟩
  · exact h.1 j hj hl
theorem check_much (l : List S42) (hl : l.length ≤ 1000000000) (x4 : Int) : ∀ d i, i + d = l.length → ∃ e, e ≠ 0 ∧ Ev (fun k => segment_Check.l0 k l true x4 l (l.length : Int) (i : Int)) e
  | 0, i, hd => ⟨2, by decide, Ev.step ((Ev.pure 2).of_eq fun k => by rw [segment_Check.l0, if_neg (by omega), if_pos rfl])⟩
  | d + 1, i, hd => by
    obtain ⟨e, he, ih⟩ := check_much l hl x4 d (i + 1) (by omega)
    cases hs : dstep l i with
    | false => exact ⟨1, by decide, Ev.step (Ev.step ((Ev.pure 1).of_eq fun k => by rw [check_step _ l true x4 i (by omega) hl, hs, segment_Check.j1]; rfl))⟩
    | true => exact ⟨e, he, Ev.step (Ev.step (ih.of_eq fun k => by rw [check_step _ l true x4 i (by omega) hl, hs, segment_Check.j1, wrn i (by omega)]; rfl))⟩
set_option maxRecDepth 100000 in
theorem check_l0 (l : List S42) (hl : l.length ≤ 1000000) : ∀ d i (all : Nat), i + d = l.length → all ≤ 18432 → (docsFrom l i all → Ev (fun k => segment_Check.l0 k l false (all : Int) l (l.length : Int) (i : Int)) 0) ∧ (¬ docsFrom l i all → ∃ e, e ≠ 0 ∧ Ev (fun k => segment_Check.l0 k l false (all : Int) l (l.length : Int) (i : Int)) e) := by
  intro d
  induction d with
  | zero =>
    intro i all hd ha
    refine ⟨fun h => Ev.step ((Ev.pure 0).of_eq fun k => ?_), fun h => ⟨2, by decide, Ev.step ((Ev.pure 2).of_eq fun k => ?_)⟩⟩
    · have := h.2
      rw [segment_Check.l0, if_neg (by omega), if_neg (by decide), if_neg (by omega)]
    · have h2 : ¬ all ≤ 16384 := fun h2 => h ⟨fun j hj hl => by omega, by rw [sumFrom_end l i (by omega)]; omega⟩
      rw [segment_Check.l0, if_neg (by omega), if_neg (by decide), if_pos (by omega)]
  | succ d ihd =>
    intro i all hd ha
    cases hs : dstep l i with
    | false =>
      refine ⟨fun h => absurd (h.1 i (Nat.le_refl _) (by omega)).1 (by rw [hs]; decide), fun _ => ⟨1, by decide, Ev.step (Ev.step ((Ev.pure 1).of_eq fun k => ?_))⟩⟩
      rw [check_step _ l false _ i (by omega) (by omega), hs, segment_Check.j1]
      rfl
    | true =>
      have hstep : ∀ k, segment_Check.l0 (k + 1 + 1) l false (all : Int) l (l.length : Int) (i : Int) = (if ((rd_T42 l (i : Int)).f1.size : Int) > 2048 then segment_Check.l0 k l true (all : Int) l (l.length : Int) ((i + 1 : Nat) : Int) else if (all : Int) > 16384 then segment_Check.l0 k l (decide ((all : Int) > 16384)) (all : Int) l (l.length : Int) ((i + 1 : Nat) : Int) else segment_Check.l0 k l (decide ((all : Int) > 16384)) (wrap64 ((all : Int) + ((rd_T42 l (i : Int)).f1.size : Int))) l (l.length : Int) ((i + 1 : Nat) : Int)) := fun k => by
        rw [check_step _ l false _ i (by omega) (by omega), hs, segment_Check.j1, wrn i (by omega)]
        rfl
      by_cases h2 : (rd_T42 l (i : Int)).f1.size ≤ 2048
      · by_cases h3 : all ≤ 16384
        · have ih := ihd (i + 1) (all + (rd_T42 l (i : Int)).f1.size) (by omega) (by omega)
          rw [docsFrom_step (by omega) hs h2]
          have hw : wrap64 ((all : Int) + ((rd_T42 l (i : Int)).f1.size : Int)) = ((all + (rd_T42 l (i : Int)).f1.size : Nat) : Int) := by rw [wrb _ (by omega) (by omega)]; omega
          have hd2 : decide ((all : Int) > 16384) = false := decide_eq_false (by omega)
          refine ⟨fun h => Ev.step (Ev.step ((ih.1 h).of_eq fun k => ?_)), fun h => ?_⟩
          · rw [hstep, if_neg (by omega), if_neg (by omega), hw, hd2]
          · obtain ⟨e, he, hev⟩ := ih.2 h
            exact ⟨e, he, Ev.step (Ev.step (hev.of_eq fun k => by rw [hstep, if_neg (by omega), if_neg (by omega), hw, hd2]))⟩
        · refine ⟨fun h => absurd h.2 (by omega), fun _ => ?_⟩
          obtain ⟨e, he, hev⟩ := check_much l (by omega) (all : Int) d (i + 1) (by omega)
          have hd2 : decide ((all : Int) > 16384) = true := decide_eq_true (by omega)
          exact ⟨e, he, Ev.step (Ev.step (hev.of_eq fun k => by rw [hstep, if_neg (by omega), if_pos (by omega), hd2]))⟩
      · refine ⟨fun h => absurd (h.1 i (Nat.le_refl _) (by omega)).2 h2, fun _ => ?_⟩
        obtain ⟨e, he, hev⟩ := check_much l (by omega) (all : Int) d (i + 1) (by omega)
        exact ⟨e, he, Ev.step (Ev.step (hev.of_eq fun k => by rw [hstep, if_pos (by omega)]))⟩
def docsP (l : List S42) : Prop := docsFrom l 0 0 ∧ l.length ≤ 64
theorem check_yes {l : List S42} (h : docsP l) : Ev (fun k => segment_Check.f k l) 0 := by
  refine ((check_l0 l (by have := h.2; omega) l.length 0 0 (by omega) (by omega)).1 h.1).of_eq fun k => ?_
  unfold segment_Check.f
  rw [decide_eq_false (by have := h.2; omega)]
  rfl
theorem check_no {l : List S42} (hl : l.length ≤ 1000000) (h : ¬ docsP l) : ∃ e, e ≠ 0 ∧ Ev (fun k => segment_Check.f k l) e := by
  by_cases h64 : l.length ≤ 64
  · obtain ⟨e, he, hev⟩ := (check_l0 l hl l.length 0 0 (by omega) (by omega)).2 (fun h2 => h ⟨h2, h64⟩)
    exact ⟨e, he, hev.of_eq fun k => by unfold segment_Check.f; rw [decide_eq_false (by omega)]; rfl⟩
  · obtain ⟨e, he, hev⟩ := check_much l (by omega) 0 l.length 0 (by omega)
    exact ⟨e, he, hev.of_eq fun k => by unfold segment_Check.f; rw [decide_eq_true (by omega)]; rfl⟩
def stateP (idx : Int) (docs : List S42) (sess : List S47) : Prop := numB idx 0 = true ∧ docsP docs ∧ mayP sess
theorem mmay_yes {idx : Int} {docs : List S42} {sess : List S47} (h : stateP idx docs sess) : Ev (fun k => machine_May.f k idx docs sess) true := by
  obtain ⟨h1, h2, h3⟩ := h
  have hm : Ev (fun k => (session_May.f k sess).bind fun t => some t) true := Ev.bind (g := fun _ t => some t) (may_yes h3) (Ev.pure true)
  have hd : Ev (fun k => (segment_Check.f k docs).bind fun t241 => (if t241 = 0 then ((session_May.f k sess).bind fun t242 => (some t242)) else (some false))) true := Ev.bind (g := fun k t241 => (if t241 = 0 then ((session_May.f k sess).bind fun t242 => (some t242)) else (some false))) (check_yes h2) (hm.of_eq fun k => by rw [if_pos rfl])
  exact hd.of_eq fun k => by unfold machine_May.f; rw [Number_f, h1, Option.bind_some, if_pos rfl]
theorem mmay_noD {idx : Int} {docs : List S42} {sess : List S47} (hl : docs.length ≤ 1000000) (h1 : numB idx 0 = true) (h2 : ¬ docsP docs) : Ev (fun k => machine_May.f k idx docs sess) false := by
  obtain ⟨e, he, hev⟩ := check_no hl h2
  have hd : Ev (fun k => (segment_Check.f k docs).bind fun t241 => (if t241 = 0 then ((session_May.f k sess).bind fun t242 => (some t242)) else (some false))) false := Ev.bind (g := fun k t241 => (if t241 = 0 then ((session_May.f k sess).bind fun t242 => (some t242)) else (some false))) hev ((Ev.pure false).of_eq fun k => by rw [if_neg he])
  exact hd.of_eq fun k => by unfold machine_May.f; rw [Number_f, h1, Option.bind_some, if_pos rfl]
end Go.Proofs.Yticlghbdapbdnaa.I
