/- Sessions: rows of one's own (MSLawR, MSLawO, MPln). -/
import Derived.Test.YtpeldaogdeefeaaGreatMG7
import Derived.Test.YtpeldaogdeefeaaGreatMG5
/-! MSLawR -/
namespace Go.Proofs.YtpeldaogdeefeaaGreat.M
open Go.RowKit Go.Proofs.YtpeldaogdeefeaaGreatW.PrintWords Go.Proofs.YtpeldaogdeefeaaGreatW.PrintLast Go.Proofs.YtpeldaogdeefeaaGreatW.PrintMore
set_option linter.unusedVariables false
set_option linter.unusedSimpArgs false
theorem noHits_ok {l : List S140} (h : noHits l) : hitsOk l := fun x hx => by rw [h x hx]; exact Nat.zero_le _
theorem drop_is (l : List S140) (p : Nat) (hp : p < l.length) (hl : l.length ≤ 1000000) (hh : hitsOk l) : Ev (fun k => lecternref14_drop.f k l (p : Int)) (l.eraseIdx p) := by
  have hw := wrn p (by omega)
  refine Ev.of_eq (g := fun k => (lecternref0_CopySessions.f k (l.take p)).bind (fun t => if t.length + (l.drop (p + 1)).length < 2199023255552 then some (t ++ l.drop (p + 1)) else none)) ?_ (fun k => ?_)
  · refine Ev.bind (g := fun _ t => if t.length + (l.drop (p + 1)).length < 2199023255552 then some (t ++ l.drop (p + 1)) else none) (copySessions_is (l.take p) (by rw [List.length_take]; omega) (fun x hx => hh x (List.mem_of_mem_take hx))) ((Ev.pure _).of_eq fun k => ?_)
    rw [if_pos (by rw [List.length_take, List.length_drop]; omega), List.eraseIdx_eq_take_drop_succ]
  · unfold lecternref14_drop.f
    have h1 : (0 : Int) ≤ ((p + 1 : Nat) : Int) := by omega
    have h2 : ((p + 1 : Nat) : Int) ≤ (l.length : Int) := by omega
    rw [if_pos (by omega), if_pos (by omega), hw]
    simp only [h1, h2, if_true, Int.toNat_natCast, Option.bind_some]
end Go.Proofs.YtpeldaogdeefeaaGreat.M
/-! MSLawO -/
namespace Go.Proofs.YtpeldaogdeefeaaGreat.M
open Go.RowKit Go.Proofs.YtpeldaogdeefeaaGreatW.PrintWords Go.Proofs.YtpeldaogdeefeaaGreatW.PrintLast Go.Proofs.YtpeldaogdeefeaaGreatW.PrintMore
set_option linter.unusedVariables false
set_option linter.unusedSimpArgs false
theorem mayOpen_is {l : List S140} (h : mayP l) (a : Int) : Ev (fun k => lecternref14_MayOpen.f k l a) (numB a 1 && !anyS l a) := by
  refine Ev.of_eq (g := fun k => if numB a 1 = true then (lecternref14_Find.f k l a).bind (fun t => some (decide (t < 0))) else some false) ?_ (fun k => by unfold lecternref14_MayOpen.f; rw [id_f]; rfl)
  cases numB a 1
  · exact Ev.pure false
  · refine Ev.bind (g := fun _ t => some (decide (t < 0))) (sfind_is l a (by have := h.2; omega) (mayP_rise h)) ?_
    rw [findV_neg]
    exact Ev.pure _
theorem open_l1 (l : List S140) (a : Int) (hl : l.length ≤ 1000000) (hh : hitsOk l) (hr : riseS l) : ∀ d i, i + d = placeS l a → Ev (fun k => lecternref14_Open.l1 k l a (i : Int)) (l.take (placeS l a) ++ [fresh88 a] ++ l.drop (placeS l a))
  | 0, i, hd => by
    obtain rfl : i = placeS l a := by omega
    have h := place_is hr a
    refine Ev.step ?_
    refine Ev.of_eq (g := fun k => lecternref14_Open.j3 k l a (placeS l a : Int) false) ?_ (fun k => ?_)
    · refine Ev.step ?_
      refine Ev.of_eq (g := fun k => (lecternref0_CopySessions.f k (l.take (placeS l a))).bind fun t => if t.length < 2199023255552 then (if (t ++ [fresh88 a]).length + (l.drop (placeS l a)).length < 2199023255552 then some (t ++ [fresh88 a] ++ l.drop (placeS l a)) else none) else none) ?_ (fun k => ?_)
      · refine Ev.bind (g := fun _ t => if t.length < 2199023255552 then (if (t ++ [fresh88 a]).length + (l.drop (placeS l a)).length < 2199023255552 then some (t ++ [fresh88 a] ++ l.drop (placeS l a)) else none) else none) (copySessions_is (l.take (placeS l a)) (by rw [List.length_take]; omega) (fun x hx => hh x (List.mem_of_mem_take hx))) ((Ev.pure _).of_eq fun k => ?_)
        have h1 := h.1
        rw [if_pos (by rw [List.length_take]; omega), if_pos (by rw [List.length_append, List.length_take, List.length_drop, List.length_singleton]; omega)]
      · rw [lecternref14_Open.j3, if_neg (by decide), if_pos (by omega), if_pos (by have := h.1; omega), Int.toNat_natCast]
        rfl
    · rw [lecternref14_Open.l1]
      by_cases hc : (placeS l a : Int) < (l.length : Int)
      · rw [if_pos hc, if_pos (by omega), decide_eq_false (h.2.2 _ (Nat.le_refl _) (by omega))]
      · rw [if_neg hc]
  | d + 1, i, hd => by
    have ih := open_l1 l a hl hh hr d (i + 1) (by omega)
    have h := place_is hr a
    have h1 := h.1
    refine Ev.step (Ev.step (ih.of_eq fun k => ?_))
    rw [lecternref14_Open.l1, if_pos (by omega), if_pos (by omega), decide_eq_true (h.2.1 i (by omega)), lecternref14_Open.j3, if_pos rfl, wrn i (by omega)]
theorem open_j1 (l : List S140) (a : Int) (hl : l.length ≤ 1000000) (hh : hitsOk l) (hr : riseS l) : Ev (fun k => lecternref14_Open.j1 k l a) (l.take (placeS l a) ++ [fresh88 a] ++ l.drop (placeS l a)) :=
  Ev.step ((open_l1 l a hl hh hr (placeS l a) 0 (by omega)).of_eq fun k => by rw [lecternref14_Open.j1]; rfl)
theorem leastTo_succ (l : List S140) (i : Nat) : leastTo l (i + 1) = if (rd_T140 l (i : Int)).f3 < (rd_T140 l (leastTo l i : Int)).f3 then i else leastTo l i := rfl
theorem leastTo_lt (l : List S140) (h : 0 < l.length) : ∀ i, i ≤ l.length → leastTo l i < l.length
  | 0, _ => h
  | i + 1, hi => by
    have := leastTo_lt l h i (by omega)
    unfold leastTo
    split <;> omega
theorem open_l0 (l : List S140) (a : Int) (v : List S140) (hl : l.length ≤ 1000000) (h0 : 0 < l.length) (hv : Ev (fun k => (lecternref14_drop.f k l (leastTo l l.length : Int)).bind fun t => lecternref14_Open.j1 k t a) v) : ∀ d i, i + d = l.length → Ev (fun k => lecternref14_Open.l0 k l a (leastTo l i : Int) (i : Int)) v
  | 0, i, hd => by
    obtain rfl : i = l.length := by omega
    exact Ev.step (hv.of_eq fun k => by rw [lecternref14_Open.l0, if_neg (by omega)])
  | d + 1, i, hd => by
    have ih := open_l0 l a v hl h0 hv d (i + 1) (by omega)
    have hm := leastTo_lt l h0 i (by omega)
    refine Ev.step (ih.of_eq fun k => ?_)
    rw [lecternref14_Open.l0, if_pos (by omega), if_pos (by omega), if_pos (by omega), if_pos (by omega), wrn i (by omega)]
    show _ = lecternref14_Open.l0 k l a ((leastTo l (i + 1) : Nat) : Int) ((i + 1 : Nat) : Int)
    rw [leastTo_succ]
    split <;> rfl
theorem leastTo_one (l : List S140) : leastTo l 1 = 0 := by
  have := leastTo_le l 0
  unfold leastTo
  split
  · rfl
  · omega
theorem refOpen_is {l : List S140} (h : mayP l) (a : Int) : Ev (fun k => lecternref14_Open.f k l a) (openTo l a) := by
  have hh := noHits_ok (noHits_may h)
  have hl := h.2
  have hr := mayP_rise h
  have hcl := mayP_clr h
  refine Ev.bind (copySessions_is l (by omega) hh) ?_
  unfold openTo openCut
  rw [hcl, hcl]
  by_cases h8 : l.length = 8
  · rw [if_pos h8]
    refine Ev.of_eq (g := fun k => lecternref14_Open.l0 k l a 0 1) ?_ (fun k => by rw [if_pos (by omega)])
    have hm := leastTo_lt l (by omega) l.length (Nat.le_refl _)
    have hd := drop_is l (leastTo l l.length) hm (by omega) hh
    have := open_l0 l a _ (by omega) (by omega) (Ev.bind (g := fun k t => lecternref14_Open.j1 k t a) hd (open_j1 (l.eraseIdx (leastTo l l.length)) a (Nat.le_trans (List.eraseIdx_sublist _ _).length_le (by omega)) (fun x hx => hh x (List.mem_of_mem_eraseIdx hx)) (List.Pairwise.sublist (List.eraseIdx_sublist _ _) hr))) 7 1 (by omega)
    rw [leastTo_one] at this
    exact this
  · rw [if_neg h8]
    refine Ev.of_eq (g := fun k => lecternref14_Open.j1 k l a) ?_ (fun k => by rw [if_neg (by omega)])
    exact open_j1 l a (by omega) hh hr
end Go.Proofs.YtpeldaogdeefeaaGreat.M
/-! MPln -/
namespace Go.Proofs.YtpeldaogdeefeaaGreat.M
open Go.Proofs.YtpeldaogdeefeaaGreat.H Go.RowKit Go.Maps Go.Sort Go.Proofs.YtpeldaogdeefeaaGreatW.PrintWords Go.Proofs.YtpeldaogdeefeaaGreatW.PrintLast Go.Proofs.YtpeldaogdeefeaaGreatW.PrintMore Go.Proofs.YtpeldaogdeefeaaGreat.Base
set_option linter.unusedVariables false
theorem Ev.some {α : Type} {f : Nat → Option α} {v : α} (h : Ev f v) : ∃ k, f k = some v := by
  obtain ⟨K, h⟩ := h
  exact ⟨K, h K (Nat.le_refl _)⟩
theorem eqS_is (j : Int) (l : List S36) (ss : List S140) (hl : l.length ≤ 1000000) (hs : ss.length ≤ 1000000) (hh : noHits ss) : EqS j l ss := by
  refine Ev.some (Ev.of_eq (g := fun k => (lecternref0_EqDocs.f k l l).bind fun t181 => (if t181 = true then ((lecternref0_EqSessions.f k ss ss).bind fun t182 => (some t182)) else (some false))) ?_ (fun k => by unfold lecternref0_EqState.f; rw [if_pos rfl]))
  refine Ev.bind (eq_is l hl) ?_
  refine Ev.of_eq (g := fun k => (lecternref0_EqSessions.f k ss ss).bind fun t182 => some t182) ?_ (fun k => if_pos rfl)
  exact Ev.bind (g := fun _ t => some t) (eqSessions_is ss (by omega) (noHits_ok hh)) (Ev.pure _)
theorem clr_all {l : List S140} (h : noHits l) : l.map clr = l := (List.map_congr_left (fun x hx => clr_id (h x hx))).trans (List.map_id l)
theorem onlyOk {ix : Int} {l : List S36} {ss : List S140} (hn : numB ix 0 = true) (hd : DocsOk l) (hm : mayP ss) : OnlyOk ix l ss := by
  have hlen := hm.2
  have hfew := hd.few
  have hh := noHits_may hm
  refine ⟨hd, ?_, by omega, mayP_clr hm, ?_, ?_, fun j => eqS_is j l ss (by omega) (by omega) hh⟩
  · refine Ev.some (v := true) (Ev.of_eq (g := fun k => (segment_Check.f k l).bind fun t116 => (if t116 = 0 then ((session_May.f k ss).bind fun t117 => (some t117)) else (some false))) ?_ (fun k => ?_))
    · refine Ev.bind (check_is l hd) ?_
      refine Ev.of_eq (g := fun k => (session_May.f k ss).bind fun t117 => some t117) ?_ (fun k => if_pos rfl)
      exact Ev.bind (g := fun _ t => some t) (may_yes hm) (Ev.pure _)
    · have h2 : 0 ≤ ix ∧ ix < 1099511627776 := of_decide_eq_true hn
      unfold machine_May.f session_Number.f
      rw [if_pos h2.1, decide_eq_true h2.2]
      rfl
  · refine Ev.some (Ev.bind (copy_is l (by omega)) ?_)
    exact Ev.bind (g := fun _ t => some (ix, l, t)) (copySessions_is ss (by omega) (noHits_ok hh)) (Ev.pure _)
  · intro k hk
    have hk1 : numB k 1 = true := decide_eq_true hk
    have h1 := Ev.some (mayOpen_is hm k)
    have h2 := Ev.some (open_may hm k)
    rw [hk1] at h1
    unfold openV at h2
    rw [if_pos hk1] at h2
    obtain ⟨k1, h1⟩ := h1
    obtain ⟨k2, h2⟩ := h2
    by_cases ha : anyS ss k = true
    · rw [ha] at h1
      rw [if_pos ha] at h2
      exact .inl ⟨k1, k2, [], h1, h2⟩
    · have ha' : anyS ss k = false := by simpa using ha
      rw [ha'] at h1
      rw [if_neg ha] at h2
      obtain ⟨k3, h3⟩ := Ev.some (refOpen_is hm k)
      have hn2 := noHits_open ss k
      have hl2 := open_len (a := k) hlen
      exact .inr ⟨k1, k3, k2, openTo ss k, h1, h3, h2, clr_all hn2, by omega, eqS_is k l _ (by omega) (by omega) hn2⟩
end Go.Proofs.YtpeldaogdeefeaaGreat.M
