/- Sessions: rows of one's own (MSPureA, Mx18). -/
import Derived.Test.YtpeldaogdeefeaaGreatMHPur
import Derived.Test.YtpeldaogdeefeaaGreatMMay
import Derived.Test.YtpeldaogdeefeaaGreatMx64
import Derived.Test.YtpeldaogdeefeaaGreatMSHand
import Derived.Test.YtpeldaogdeefeaaGreatMx0
/-! MSPureA -/
namespace Go.Proofs.YtpeldaogdeefeaaGreat.M
open Go.RowKit Go.Proofs.YtpeldaogdeefeaaGreatW.PrintWords Go.Proofs.YtpeldaogdeefeaaGreatW.PrintLast Go.Proofs.YtpeldaogdeefeaaGreatW.PrintMore
set_option linter.unusedVariables false
set_option linter.unusedSimpArgs false
theorem Ev.and {α β : Type} {f : Nat → Option α} {g : Nat → Option β} {x : α} {y : β} (h1 : Ev f x) (h2 : Ev g y) : ∃ K, ∀ k, K ≤ k → f k = some x ∧ g k = some y := by
  obtain ⟨K1, h1⟩ := h1
  obtain ⟨K2, h2⟩ := h2
  exact ⟨K1 + K2, fun k hk => ⟨h1 k (by omega), h2 k (by omega)⟩⟩
theorem wrp (i : Nat) (h : i ≤ 1000000000000000) : wrap64 (((i + 1 : Nat) : Int) - 1) = (i : Int) := by rw [wrb _ (by omega) (by omega)]; omega
/-! ### what sessions that may be are like -/
theorem fromP_step {l : List S140} {i : Nat} (h : stepB l i = true) : fromP l i ↔ fromP l (i + 1) :=
  ⟨fun h2 j hj => h2 j (by omega), fun h2 j hj hl => by
    rcases Nat.eq_or_lt_of_le hj with rfl | hj
    · exact h
    · exact h2 j hj hl⟩
theorem replyB_nil {a b : Int} {l : List S53} (h : replyB a b l = true) : l = [] := by
  simp only [replyB, Bool.and_eq_true, beq_iff_eq] at h
  exact List.eq_nil_of_length_eq_zero (by omega)
theorem stepB_parts {l : List S140} {i : Nat} (h : stepB l i = true) : (rd_T140 l (i : Int)).f2.f2 = [] ∧ (i = 0 ∨ (rd_T140 l ((i - 1 : Nat) : Int)).f0 < (rd_T140 l (i : Int)).f0) := by
  simp only [stepB, Bool.and_eq_true, Bool.or_eq_true, decide_eq_true_eq] at h
  exact ⟨replyB_nil h.2.2.2.1, h.2.2.2.2⟩
theorem clr_id {x : S140} (h : x.f2.f2 = []) : clr x = x := by
  obtain ⟨a, b, ⟨c, d, e⟩, f⟩ := x
  obtain rfl : e = [] := h
  rfl
theorem mayP_clr {l : List S140} (h : mayP l) : l.map clr = l := by
  refine List.ext_getElem (List.length_map _) (fun i h1 h2 => ?_)
  rw [List.getElem_map]
  have := (stepB_parts (h.1 i (Nat.zero_le _) h2)).1
  rw [rd88_at l i h2] at this
  exact clr_id this
theorem mayP_rise {l : List S140} (h : mayP l) : riseS l := by
  refine List.pairwise_iff_getElem.2 (fun i j hi hj hij => ?_)
  have key : ∀ d j, j = i + 1 + d → (hj : j < l.length) → l[i].f0 < l[j].f0 := by
    intro d
    induction d with
    | zero =>
      intro j e hj
      subst e
      have := (stepB_parts (h.1 (i + 1) (Nat.zero_le _) hj)).2
      rw [Nat.add_sub_cancel, rd88_at l i hi, rd88_at l (i + 1) hj] at this
      exact this.resolve_left (by omega)
    | succ d ih =>
      intro j e hj
      subst e
      have := (stepB_parts (h.1 (i + 1 + (d + 1)) (Nat.zero_le _) hj)).2
      rw [show i + 1 + (d + 1) - 1 = i + 1 + d by omega, rd88_at l (i + 1 + d) (by omega), rd88_at l (i + 1 + (d + 1)) hj] at this
      have h2 := ih (i + 1 + d) rfl (by omega)
      have h3 := this.resolve_left (by omega)
      omega
  exact key (j - (i + 1)) j (by omega) hj
theorem place_is {l : List S140} (h : riseS l) (a : Int) : PlaceS l a (placeS l a) := by
  have key : ∀ d i, i + d = l.length → (∀ t : Nat, t < i → (rd_T140 l (t : Int)).f0 < a) → ∃ p, PlaceS l a p := by
    intro d
    induction d with
    | zero => intro i e hi; exact ⟨i, by omega, hi, fun t h1 h2 => by omega⟩
    | succ d ih =>
      intro i e hi
      by_cases hc : (rd_T140 l (i : Int)).f0 < a
      · exact ih (i + 1) (by omega) (fun t ht => by
          rcases Nat.lt_succ_iff_lt_or_eq.1 ht with h1 | rfl
          · exact hi t h1
          · exact hc)
      · refine ⟨i, by omega, hi, fun t h1 h2 h3 => ?_⟩
        rcases Nat.eq_or_lt_of_le h1 with rfl | h4
        · exact hc h3
        · have := riseS_at h i t h4 h2
          omega
  obtain ⟨p, hp⟩ := key l.length 0 (by omega) (fun t ht => by omega)
  have := place_count hp
  unfold placeS
  rw [this]
  exact hp
theorem any_iff {l : List S140} (h : riseS l) (a : Int) : l.any (fun x => x.f0 == a) = decide (placeS l a < l.length ∧ (rd_T140 l (placeS l a : Int)).f0 = a) := place_any (place_is h a) h
/-! ### Find -/
theorem find_l0 (l : List S140) (a : Int) (hl : l.length ≤ 1000000) (hr : riseS l) (ha : l.any (fun x => x.f0 == a) = true) : ∀ d i, i + d = placeS l a → Ev (fun k => lecternref14_Find.l0 k l a (i : Int)) (placeS l a : Int)
  | 0, i, hd => by
    have h := any_iff hr a
    rw [ha] at h
    have h := of_decide_eq_true h.symm
    obtain rfl : i = placeS l a := by omega
    refine Ev.step ((Ev.pure _).of_eq fun k => ?_)
    rw [lecternref14_Find.l0, if_pos (by omega), if_pos (by omega), if_pos h.2]
  | d + 1, i, hd => by
    have ih := find_l0 l a hl hr ha d (i + 1) (by omega)
    have h := place_is hr a
    have h2 := h.2.1 i (by omega)
    refine Ev.step (ih.of_eq fun k => ?_)
    rw [lecternref14_Find.l0, if_pos (by have := h.1; omega), if_pos (by omega), if_neg (by omega), wrn i (by have := h.1; omega)]
theorem find_no (l : List S140) (a : Int) (hl : l.length ≤ 1000000) (ha : l.any (fun x => x.f0 == a) = false) : ∀ d i, i + d = l.length → Ev (fun k => lecternref14_Find.l0 k l a (i : Int)) (-1)
  | 0, i, hd => by
    refine Ev.step ((Ev.pure _).of_eq fun k => ?_)
    rw [lecternref14_Find.l0, if_neg (by omega)]
  | d + 1, i, hd => by
    have ih := find_no l a hl ha d (i + 1) (by omega)
    have h2 : ¬ (rd_T140 l (i : Int)).f0 = a := fun he => by
      rw [rd88_at l i (by omega)] at he
      exact List.any_eq_false.1 ha l[i] (List.getElem_mem _) (beq_iff_eq.2 he)
    refine Ev.step (ih.of_eq fun k => ?_)
    rw [lecternref14_Find.l0, if_pos (by omega), if_pos (by omega), if_neg h2, wrn i (by omega)]
def findV (l : List S140) (a : Int) : Int := if l.any (fun x => x.f0 == a) = true then (placeS l a : Int) else -1
theorem sfind_is (l : List S140) (a : Int) (hl : l.length ≤ 1000000) (hr : riseS l) : Ev (fun k => lecternref14_Find.f k l a) (findV l a) := by
  unfold findV lecternref14_Find.f
  by_cases ha : l.any (fun x => x.f0 == a) = true
  · rw [if_pos ha]; exact find_l0 l a hl hr ha (placeS l a) 0 (by omega)
  · rw [if_neg ha]; exact find_no l a hl (Bool.eq_false_iff.2 ha) l.length 0 (by omega)
end Go.Proofs.YtpeldaogdeefeaaGreat.M
/-! Mx18 -/
namespace Go.Proofs.YtpeldaogdeefeaaGreat.M
open Go.RowKit Go.Proofs.YtpeldaogdeefeaaGreatW.PrintWords Go.Proofs.YtpeldaogdeefeaaGreatW.PrintLast Go.Proofs.YtpeldaogdeefeaaGreatW.PrintMore
attribute [local go_sem] max2_int min2_int max_two min_two max_three min_three max_four min_four   -- for this text's walks alone
set_option linter.unusedVariables false
set_option linter.unusedSimpArgs false

/-! ### session_find: function 131 -/
/-- Where a client stands among sessions in order. -/
def session_find.f (l0 : List S140) (a1 : Int) : Option (Int × Bool) := if riseS l0 ∧ l0.length ≤ 1000000000 then some (((l0.countP (fun x => decide (x.f0 < a1)) : Nat) : Int), l0.any (fun x => x.f0 == a1)) else none
theorem session_find.calls (A0 : Option Addr) (c0 : Nat) (l0 : List (S140)) (a1 : Int) (r1 : Int) (r2 : Bool) (w : World) (hr0 : Kd.C k140 w A0 l0.length l0) (hc0 : l0.length ≤ c0) (h : session_find.f l0 a1 = some (r1, r2)) :
    Calls Tryz.prog 131 #[.slice A0 l0.length c0, .int .i64 a1] w fun e w' => e = .returned (.tuple #[.int .i64 r1, .bool r2]) ∧ Below w.heap.size w w' := by
  unfold session_find.f at h
  by_cases hs : riseS l0 ∧ l0.length ≤ 1000000000
  · rw [if_pos hs] at h
    have h := Option.some.inj h
    obtain ⟨rfl, rfl⟩ := Prod.mk.inj h
    have HC : Aside0 (∀ W, Below w.heap.size w W → Calls Tryz.prog 164 #[.slice A0 l0.length c0, .int .i64 a1, .func (.func 165) #[] #[]] W fun e w' => e = .returned (.tuple #[.int .i64 ((l0.countP (fun x => decide (x.f0 < a1)) : Nat) : Int), .bool (l0.any (fun x => x.f0 == a1))]) ∧ Below W.heap.size W w') := ⟨fun W hb => by
      refine (search82 A0 c0 l0 a1 W (Kd.C_below hr0 hb) hc0 hs.2 hs.1).mono ?_
      rintro e w' ⟨i, hp, rfl, hb⟩
      exact ⟨by rw [place_count hp, place_any hp hs.1], hb⟩⟩
    clear hr0 hc0 h hs
    generalize ((l0.countP (fun x => decide (x.f0 < a1)) : Nat) : Int) = n at *
    generalize l0.any (fun x => x.f0 == a1) = b at *
    go_enter Tryz.func131, Tryz.ntmps131
    go_wp2_with (go_at_call 164; refine (HC.out _ (by repeat (first | exact Below.refl _ _ | apply pw_below_drewN | apply below_alloc))).mono ?_; rintro e w' ⟨rfl, hb⟩)
    go_ret2
    exact ⟨rfl, by repeat (first | exact hb | apply pw_below_drewN | apply below_alloc)⟩
  · rw [if_neg hs] at h
    cases h

end Go.Proofs.YtpeldaogdeefeaaGreat.M
