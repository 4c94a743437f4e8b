/- Sessions: rows of one's own (Mx27, Mx2). -/
import Derived.Test.YtpeldaogdeefeaaGreatMx0
import Derived.Test.YtpeldaogdeefeaaGreatMG2
import Derived.Test.YtpeldaogdeefeaaGreatMMay
import Derived.Test.YtpeldaogdeefeaaGreatMSOpen
/-! Mx27 -/
namespace Go.Proofs.YtpeldaogdeefeaaGreat.M
open Go.RowKit Go.Proofs.YtpeldaogdeefeaaGreatW.PrintWords Go.Proofs.YtpeldaogdeefeaaGreatW.PrintLast Go.Proofs.YtpeldaogdeefeaaGreatW.PrintMore
attribute [local go_sem] max2_int min2_int max_two min_two max_three min_three max_four min_four   -- for this text's walks alone
set_option linter.unusedVariables false
set_option linter.unusedSimpArgs false

/-! ### session_Open: function 130 -/
def session_Open.f (k : Nat) (l0 : List (S140)) (a1 : Int) : Option ((List (S140)) × Int) := (session_May.f k l0).bind fun m => if m = true then (if 1 ≤ a1 ∧ a1 < 1099511627776 then (if riseS l0 ∧ l0.length ≤ 8 then (if l0.any (fun x => x.f0 == a1) = true then some (([] : List (S140)), 1) else some (openTo l0 a1, 0)) else none) else some (([] : List (S140)), 1)) else some (([] : List (S140)), 1)
set_option maxHeartbeats 4000000 in
set_option maxRecDepth 100000 in
theorem session_Open.calls (k : Nat) (A0 : Option Addr) (c0 : Nat) (l0 : List (S140)) (a1 : Int) (r1 : List (S140)) (r2 : Int) (w : World) (hr0 : Kd.C k140 w A0 l0.length l0) (hc0 : l0.length ≤ c0) (h : session_Open.f k l0 a1 = some (r1, r2)) :
    Calls Tryz.prog 130 #[.slice A0 l0.length c0, .int .i64 a1] w fun e w' => ∃ v0_ : Value, e = .returned (.tuple #[v0_, .int .i64 r2]) ∧ Kd.S k140 140 w' w.heap.size (fun _ => True) v0_ r1 ∧ Below w.heap.size w w' := by
  unfold session_Open.f at h
  obtain ⟨m, hm, h⟩ := Option.bind_eq_some_iff.mp h
  have HM : Aside0 (∀ W, Below w.heap.size w W → Calls Tryz.prog 128 #[.slice A0 l0.length c0] W fun e w' => e = .returned (.bool m) ∧ Below w.heap.size w w') := ⟨fun W hb => by
    refine (session_May.calls k A0 c0 l0 m W (Kd.C_below hr0 hb) hc0 hm).mono ?_
    rintro e w' ⟨rfl, hb'⟩
    exact ⟨rfl, below_step hb hb'⟩⟩
  have HN : Aside0 (∀ W, Below w.heap.size w W → Calls Tryz.prog 97 #[.int .i64 a1, .int .i64 1] W fun e w' => e = .returned (.bool (decide (1 ≤ a1 ∧ a1 < 1099511627776))) ∧ Below w.heap.size w w') := ⟨fun W hb => by
    refine (session_Number.calls a1 1 _ W (number_f a1)).mono ?_
    rintro e w' ⟨rfl, ⟨n, rfl⟩⟩
    exact ⟨rfl, pw_below_drewN hb _⟩⟩
  cases m with
  | false =>
    rw [if_neg (by decide)] at h
    obtain ⟨rfl, rfl⟩ := Prod.mk.inj (Option.some.inj h)
    clear hr0 hc0 hm h
    go_enter Tryz.func130, Tryz.ntmps130
    go_wp2_with (first
      | (go_at_call 128; with_reducible refine (HM.out _ (by repeat (first | exact Below.refl _ _ | exact (Aside0.out ‹Aside0 (Below w.heap.size w _)›) | apply pw_below_drewN | apply below_alloc))).mono ?_; rintro e w1 ⟨rfl, hb⟩; have HB1 := Aside0.mk hb; clear hb))
    go_ret2
    exact ⟨_, rfl, Kd.S_nil _ _ _ _ _, (by repeat (first | exact Below.refl _ _ | exact (Aside0.out ‹Aside0 (Below w.heap.size w _)›) | apply pw_below_drewN | apply below_alloc))⟩
  | true =>
    rw [if_pos rfl] at h
    by_cases hn : 1 ≤ a1 ∧ a1 < 1099511627776
    · rw [if_pos hn] at h
      by_cases hs : riseS l0 ∧ l0.length ≤ 8
      · rw [if_pos hs] at h
        by_cases ha : l0.any (fun x => x.f0 == a1) = true
        · rw [if_pos ha] at h
          obtain ⟨rfl, rfl⟩ := Prod.mk.inj (Option.some.inj h)
          rw [decide_eq_true hn] at HN
          have HF : Aside0 (∀ W, Below w.heap.size w W → Calls Tryz.prog 131 #[.slice A0 l0.length c0, .int .i64 a1] W fun e w' => e = .returned (.tuple #[.int .i64 ((l0.countP (fun x => decide (x.f0 < a1)) : Nat) : Int), .bool true]) ∧ Below w.heap.size w w') := ⟨fun W hb => by
            refine (find59 A0 c0 l0 a1 W (Kd.C_below hr0 hb) hc0 hs.1 hs.2).mono ?_
            rintro e w' ⟨rfl, hb'⟩
            rw [ha]
            exact ⟨rfl, below_step hb hb'⟩⟩
          clear hr0 hc0 hm h hn hs ha
          go_enter Tryz.func130, Tryz.ntmps130
          go_wp2_with (first
            | (go_at_call 128; with_reducible refine (HM.out _ (by repeat (first | exact Below.refl _ _ | exact (Aside0.out ‹Aside0 (Below w.heap.size w _)›) | apply pw_below_drewN | apply below_alloc))).mono ?_; rintro e w1 ⟨rfl, hb⟩; have HB1 := Aside0.mk hb; clear hb)
            | (go_at_call 97; with_reducible refine (HN.out _ (by repeat (first | exact Below.refl _ _ | exact (Aside0.out ‹Aside0 (Below w.heap.size w _)›) | apply pw_below_drewN | apply below_alloc))).mono ?_; rintro e w2 ⟨rfl, hb⟩; have HB2 := Aside0.mk hb; clear hb)
            | (go_at_call 131; with_reducible refine (HF.out _ (by repeat (first | exact Below.refl _ _ | exact (Aside0.out ‹Aside0 (Below w.heap.size w _)›) | apply pw_below_drewN | apply below_alloc))).mono ?_; rintro e w3 ⟨rfl, hb⟩; have HB3 := Aside0.mk hb; clear hb))
          go_ret2
          exact ⟨_, rfl, Kd.S_nil _ _ _ _ _, (by repeat (first | exact Below.refl _ _ | exact (Aside0.out ‹Aside0 (Below w.heap.size w _)›) | apply pw_below_drewN | apply below_alloc))⟩
        · rw [if_neg ha] at h
          obtain ⟨rfl, rfl⟩ := Prod.mk.inj (Option.some.inj h)
          refine (open22 k A0 c0 l0 a1 w hr0 hc0 hm hn.1 hn.2 hs.1 hs.2 (Bool.eq_false_iff.2 ha)).mono ?_
          rintro e w' ⟨v, rfl, hr, hb⟩
          exact ⟨v, rfl, kF_S hr, hb⟩
      · rw [if_neg hs] at h; cases h
    · rw [if_neg hn] at h
      obtain ⟨rfl, rfl⟩ := Prod.mk.inj (Option.some.inj h)
      rw [decide_eq_false hn] at HN
      clear hr0 hc0 hm h hn
      go_enter Tryz.func130, Tryz.ntmps130
      go_wp2_with (first
        | (go_at_call 128; with_reducible refine (HM.out _ (by repeat (first | exact Below.refl _ _ | exact (Aside0.out ‹Aside0 (Below w.heap.size w _)›) | apply pw_below_drewN | apply below_alloc))).mono ?_; rintro e w1 ⟨rfl, hb⟩; have HB1 := Aside0.mk hb; clear hb)
        | (go_at_call 97; with_reducible refine (HN.out _ (by repeat (first | exact Below.refl _ _ | exact (Aside0.out ‹Aside0 (Below w.heap.size w _)›) | apply pw_below_drewN | apply below_alloc))).mono ?_; rintro e w2 ⟨rfl, hb⟩; have HB2 := Aside0.mk hb; clear hb))
      go_ret2
      exact ⟨_, rfl, Kd.S_nil _ _ _ _ _, (by repeat (first | exact Below.refl _ _ | exact (Aside0.out ‹Aside0 (Below w.heap.size w _)›) | apply pw_below_drewN | apply below_alloc))⟩

end Go.Proofs.YtpeldaogdeefeaaGreat.M
/-! Mx2 -/
namespace Go.Proofs.YtpeldaogdeefeaaGreat.M
open Go.RowKit Go.Proofs.YtpeldaogdeefeaaGreatW.PrintWords Go.Proofs.YtpeldaogdeefeaaGreatW.PrintLast Go.Proofs.YtpeldaogdeefeaaGreatW.PrintMore
attribute [local go_sem] max2_int min2_int max_two min_two max_three min_three max_four min_four   -- for this text's walks alone
set_option linter.unusedVariables false
set_option linter.unusedSimpArgs false

theorem eqA53 (d : Nat) (w : World) (x0 y0 : ByteArray) (x1 y1 : Int) :
    (Op.equalIn (d + 2) 53 (.agg #[.string x0, .int .i64 x1]) (.agg #[.string y0, .int .i64 y1])).run Tryz.prog w = .ok (x0.toList == y0.toList && (x1 == y1)) w := by
  refine eqA_of Tryz.underlying53 (by kernel_rfl) ?_
  refine eqf_cons (by rfl) (by go_simp; rfl) (by go_simp; rfl) (by go_simp) ?_
  exact eqf_last (by rfl) (by go_simp; rfl) (by go_simp; rfl) (by go_simp)
end Go.Proofs.YtpeldaogdeefeaaGreat.M
