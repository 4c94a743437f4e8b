/- The reference's Open. -/
import Derived.Test.YtcacckaonjnmjaaSLawR
import Derived.Test.YtcacckaonjnmjaaSx41
import Derived.Test.YtcacckaonjnmjaaSx42
namespace Go.Proofs.Ytcacckaonjnmjaa.S
open Go.RowKit Go.Proofs.YtcacckaonjnmjaaW.PrintWords Go.Proofs.YtcacckaonjnmjaaW.PrintLast Go.Proofs.YtcacckaonjnmjaaW.PrintMore
set_option linter.unusedVariables false
set_option linter.unusedSimpArgs false
theorem mayOpen_is {l : List S88} (h : mayP l) (a : Int) : Ev (fun k => lecternref14_MayOpen.f k l a) (numB a 1 && !anyS l a) := by
  refine Ev.of_eq (g := fun k => if numB a 1 = true then (lecternref14_Find.f k l a).bind (fun t => some (decide (t < 0))) else some false) ?_ (fun k => by unfold lecternref14_MayOpen.f; rw [id_f]; rfl)
  cases numB a 1
  · exact Ev.pure false
  · refine Ev.bind (g := fun _ t => some (decide (t < 0))) (find_is l a (by have := h.2; omega) (mayP_rise h)) ?_
    rw [findV_neg]
    exact Ev.pure _
theorem open_l1 (l : List S88) (a : Int) (hl : l.length ≤ 1000000) (hh : hitsOk l) (hr : riseS l) : ∀ d i, i + d = placeS l a → Ev (fun k => lecternref14_Open.l1 k l a (i : Int)) (l.take (placeS l a) ++ [fresh88 a] ++ l.drop (placeS l a))
  | 0, i, hd => by
    obtain rfl : i = placeS l a := by omega
    have h := place_is hr a
    refine Ev.step ?_
    refine Ev.of_eq (g := fun k => lecternref14_Open.j3 k l a (placeS l a : Int) false) ?_ (fun k => ?_)
    · refine Ev.step ?_
      refine Ev.of_eq (g := fun k => (lecternref0_CopySessions.f k (l.take (placeS l a))).bind fun t => if t.length < 2199023255552 then (if (t ++ [fresh88 a]).length + (l.drop (placeS l a)).length < 2199023255552 then some (t ++ [fresh88 a] ++ l.drop (placeS l a)) else none) else none) ?_ (fun k => ?_)
      · refine Ev.bind (g := fun _ t => if t.length < 2199023255552 then (if (t ++ [fresh88 a]).length + (l.drop (placeS l a)).length < 2199023255552 then some (t ++ [fresh88 a] ++ l.drop (placeS l a)) else none) else none) (copySessions_is (l.take (placeS l a)) (by rw [List.length_take]; omega) (fun x hx => hh x (List.mem_of_mem_take hx))) ((Ev.pure _).of_eq fun k => ?_)
        have h1 := h.1
        rw [if_pos (by rw [List.length_take]; omega), if_pos (by rw [List.length_append, List.length_take, List.length_drop, List.length_singleton]; omega)]
      · rw [lecternref14_Open.j3, if_neg (by decide), if_pos (by omega), if_pos (by have := h.1; omega), Int.toNat_natCast]
        rfl
    · rw [lecternref14_Open.l1]
      by_cases hc : (placeS l a : Int) < (l.length : Int)
      · rw [if_pos hc, if_pos (by omega), decide_eq_false (h.2.2 _ (Nat.le_refl _) (by omega))]
      · rw [if_neg hc]
  | d + 1, i, hd => by
    have ih := open_l1 l a hl hh hr d (i + 1) (by omega)
    have h := place_is hr a
    have h1 := h.1
    refine Ev.step (Ev.step (ih.of_eq fun k => ?_))
    rw [lecternref14_Open.l1, if_pos (by omega), if_pos (by omega), decide_eq_true (h.2.1 i (by omega)), lecternref14_Open.j3, if_pos rfl, wrn i (by omega)]
theorem open_j1 (l : List S88) (a : Int) (hl : l.length ≤ 1000000) (hh : hitsOk l) (hr : riseS l) : Ev (fun k => lecternref14_Open.j1 k l a) (l.take (placeS l a) ++ [fresh88 a] ++ l.drop (placeS l a)) :=
  Ev.step ((open_l1 l a hl hh hr (placeS l a) 0 (by omega)).of_eq fun k => by rw [lecternref14_Open.j1]; rfl)
theorem leastTo_succ (l : List S88) (i : Nat) : leastTo l (i + 1) = if (rd_T88 l (i : Int)).f3 < (rd_T88 l (leastTo l i : Int)).f3 then i else leastTo l i := rfl
theorem leastTo_lt (l : List S88) (h : 0 < l.length) : ∀ i, i ≤ l.length → leastTo l i < l.length
  | 0, _ => h
  | i + 1, hi => by
    have := leastTo_lt l h i (by omega)
    unfold leastTo
    split <;> omega
theorem open_l0 (l : List S88) (a : Int) (v : List S88) (hl : l.length ≤ 1000000) (h0 : 0 < l.length) (hv : Ev (fun k => (lecternref14_drop.f k l (leastTo l l.length : Int)).bind fun t => lecternref14_Open.j1 k t a) v) : ∀ d i, i + d = l.length → Ev (fun k => lecternref14_Open.l0 k l a (leastTo l i : Int) (i : Int)) v
  | 0, i, hd => by
    obtain rfl : i = l.length := by omega
    exact Ev.step (hv.of_eq fun k => by rw [lecternref14_Open.l0, if_neg (by omega)])
  | d + 1, i, hd => by
    have ih := open_l0 l a v hl h0 hv d (i + 1) (by omega)
    have hm := leastTo_lt l h0 i (by omega)
    refine Ev.step (ih.of_eq fun k => ?_)
    rw [lecternref14_Open.l0, if_pos (by omega), if_pos (by omega), if_pos (by omega), if_pos (by omega), wrn i (by omega)]
    show _ = lecternref14_Open.l0 k l a ((leastTo l (i + 1) : Nat) : Int) ((i + 1 : Nat) : Int)
    rw [leastTo_succ]
    split <;> rfl
theorem leastTo_one (l : List S88) : leastTo l 1 = 0 := by
  have := leastTo_le l 0
  unfold leastTo
  split
  · rfl
  · omega
theorem refOpen_is {l : List S88} (h : mayP l) (a : Int) : Ev (fun k => lecternref14_Open.f k l a) (openTo l a) := by
  have hh := noHits_ok (noHits_may h)
  have hl := h.2
  have hr := mayP_rise h
  have hcl := mayP_clr h
  refine Ev.bind (copySessions_is l (by omega) hh) ?_
  unfold openTo openCut
  rw [hcl, hcl]
  by_cases h8 : l.length = 8
  · rw [if_pos h8]
    refine Ev.of_eq (g := fun k => lecternref14_Open.l0 k l a 0 1) ?_ (fun k => by rw [if_pos (by omega)])
    have hm := leastTo_lt l (by omega) l.length (Nat.le_refl _)
    have hd := drop_is l (leastTo l l.length) hm (by omega) hh
    have := open_l0 l a _ (by omega) (by omega) (Ev.bind (g := fun k t => lecternref14_Open.j1 k t a) hd (open_j1 (l.eraseIdx (leastTo l l.length)) a (Nat.le_trans (List.eraseIdx_sublist _ _).length_le (by omega)) (fun x hx => hh x (List.mem_of_mem_eraseIdx hx)) (List.Pairwise.sublist (List.eraseIdx_sublist _ _) hr))) 7 1 (by omega)
    rw [leastTo_one] at this
    exact this
  · rw [if_neg h8]
    refine Ev.of_eq (g := fun k => lecternref14_Open.j1 k l a) ?_ (fun k => by rw [if_neg (by omega)])
    exact open_j1 l a (by omega) hh hr
end Go.Proofs.Ytcacckaonjnmjaa.S
