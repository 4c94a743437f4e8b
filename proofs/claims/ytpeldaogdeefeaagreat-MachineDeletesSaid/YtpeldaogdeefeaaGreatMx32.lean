-- Written by a program: the kit's printer with changes of this session (NOTES.md).
import Derived.Test.YtpeldaogdeefeaaGreatMG0
import Derived.Test.YtpeldaogdeefeaaGreatMG3
import Derived.Test.YtpeldaogdeefeaaGreatMMay
import Derived.Test.YtpeldaogdeefeaaGreatMG14
namespace Go.Proofs.YtpeldaogdeefeaaGreat.M
open Go.RowKit Go.Proofs.YtpeldaogdeefeaaGreatW.PrintWords Go.Proofs.YtpeldaogdeefeaaGreatW.PrintLast Go.Proofs.YtpeldaogdeefeaaGreatW.PrintMore
attribute [local go_sem] max2_int min2_int max_two min_two max_three min_three max_four min_four   -- for this text's walks alone
set_option linter.unusedVariables false
set_option linter.unusedSimpArgs false

/-! ### session_Done: function 91 -/
def session_Done.f (k : Nat) (l0 : List (S140)) (a1 : Int) (a2 : Int) (a3_0 : Int) (a3_1 : Int) (l3_2 : List (S53)) (a4 : Int) : Option ((List (S140)) × Int) := (session_May.f k l0).bind fun m => if m = true then (if 1 ≤ a2 ∧ a2 < 1099511627776 then (if 1 ≤ a4 ∧ a4 < 1099511627776 then ((session_reply.f a3_0 a3_1 l3_2).bind fun rp => if rp = true then (if riseS l0 ∧ l0.length ≤ 8 then (if l0.any (fun x => x.f0 == a1) = true then some (doneTo l0 a1 a2 a3_0 a3_1 a4, 0) else some (([] : List (S140)), 9)) else none) else some (([] : List (S140)), 1)) else some (([] : List (S140)), 1)) else some (([] : List (S140)), 1)) else some (([] : List (S140)), 1)
set_option maxHeartbeats 4000000 in
set_option maxRecDepth 100000 in
theorem session_Done.calls (k : Nat) (A0 : Option Addr) (c0 : Nat) (l0 : List (S140)) (a1 : Int) (a2 : Int) (r0 : Int) (r1 : Int) (A3 : Option Addr) (c3 : Nat) (l3 : List (S53)) (a4 : Int) (t1 : List (S140)) (t2 : Int) (w : World) (hr0 : Kd.C k140 w A0 l0.length l0) (hc0 : l0.length ≤ c0) (hr3 : Kd.C k53 w A3 l3.length l3) (hc3 : l3.length ≤ c3) (h : session_Done.f k l0 a1 a2 r0 r1 l3 a4 = some (t1, t2)) :
    Calls Tryz.prog 91 #[.slice A0 l0.length c0, .int .i64 a1, .int .i64 a2, .agg #[.int .i64 r0, .int .i64 r1, .slice A3 l3.length c3], .int .i64 a4] w fun e w' => ∃ v0_ : Value, e = .returned (.tuple #[v0_, .int .i64 t2]) ∧ Kd.S k140 140 w' w.heap.size (fun _ => True) v0_ t1 ∧ Below w.heap.size w w' := by
  unfold session_Done.f at h
  obtain ⟨m, hm, h⟩ := Option.bind_eq_some_iff.mp h
  obtain ⟨cs, hcs⟩ : ∃ cs : Array Value, cs = #[.int .i64 r0, .int .i64 r1, .slice A3 l3.length c3] := ⟨_, rfl⟩
  have HM : Aside0 (∀ W, DoneI w w.heap.size cs W → Calls Tryz.prog 128 #[.slice A0 l0.length c0] W fun e w' => e = .returned (.bool m) ∧ DoneI w w.heap.size cs w') := ⟨fun W hi => by
    refine (session_May.calls k A0 c0 l0 m W (Kd.C_below hr0 hi.below) hc0 hm).mono ?_
    rintro e w' ⟨rfl, hb'⟩
    exact ⟨rfl, hi.step hb'⟩⟩
  have HN2 : Aside0 (∀ W, DoneI w w.heap.size cs W → Calls Tryz.prog 97 #[.int .i64 a2, .int .i64 1] W fun e w' => e = .returned (.bool (decide (1 ≤ a2 ∧ a2 < 1099511627776))) ∧ DoneI w w.heap.size cs w') := ⟨fun W hi => by
    refine (session_Number.calls a2 1 _ W (number_f a2)).mono ?_
    rintro e w' ⟨rfl, ⟨n, rfl⟩⟩
    exact ⟨rfl, hi.drewN _⟩⟩
  have HN4 : Aside0 (∀ W, DoneI w w.heap.size cs W → Calls Tryz.prog 97 #[.int .i64 a4, .int .i64 1] W fun e w' => e = .returned (.bool (decide (1 ≤ a4 ∧ a4 < 1099511627776))) ∧ DoneI w w.heap.size cs w') := ⟨fun W hi => by
    refine (session_Number.calls a4 1 _ W (number_f a4)).mono ?_
    rintro e w' ⟨rfl, ⟨n, rfl⟩⟩
    exact ⟨rfl, hi.drewN _⟩⟩
  have HK0 : Aside0 (cs[0]? = some (.int .i64 r0)) := ⟨by rw [hcs]; rfl⟩
  have HK1 : Aside0 (cs[1]? = some (.int .i64 r1)) := ⟨by rw [hcs]; rfl⟩
  have HK2 : Aside0 (cs[2]? = some (.slice A3 l3.length c3)) := ⟨by rw [hcs]; rfl⟩
  have HCS := Aside0.mk hcs
  cases m with
  | false =>
    rw [if_neg (by decide)] at h
    obtain ⟨rfl, rfl⟩ := Prod.mk.inj (Option.some.inj h)
    clear hr0 hc0 hr3 hc3 hm h hcs HN2 HN4
    go_enter Tryz.func91, Tryz.ntmps91
    go_wp2_with (first
      | (go_at_call 128; with_reducible refine (HM.out _ (by repeat (first | exact (Aside0.out ‹Aside0 (DoneI w w.heap.size cs _)›) | apply DoneI.drewN | apply DoneI.drew | exact DoneI.start _ _ _ (by rw [HCS.out])))).mono ?_; rintro e w1 ⟨rfl, hi⟩; have HI1 := Aside0.mk hi; clear hi; have c1_0 : w1.cell? ⟨w.heap.size, 0, none⟩ = some (.int .i64 r0) := (blk_cell HI1.out.box 0).trans HK0.out; have c1_1 : w1.cell? ⟨w.heap.size, 1, none⟩ = some (.int .i64 r1) := (blk_cell HI1.out.box 1).trans HK1.out; have c1_2 : w1.cell? ⟨w.heap.size, 2, none⟩ = some (.slice A3 l3.length c3) := (blk_cell HI1.out.box 2).trans HK2.out; have f1_2 := blk_frozen HI1.out.box 2))
    go_ret2
    exact ⟨_, rfl, Kd.S_nil _ _ _ _ _, DoneI.below (by repeat (first | exact (Aside0.out ‹Aside0 (DoneI w w.heap.size cs _)›) | apply DoneI.drewN | apply DoneI.drew | exact DoneI.start _ _ _ (by rw [HCS.out])))⟩
  | true =>
    rw [if_pos rfl] at h
    by_cases h2 : 1 ≤ a2 ∧ a2 < 1099511627776
    · rw [if_pos h2] at h
      rw [decide_eq_true h2] at HN2
      by_cases h4 : 1 ≤ a4 ∧ a4 < 1099511627776
      · rw [if_pos h4] at h
        rw [decide_eq_true h4] at HN4
        obtain ⟨rp, hrp, h⟩ := Option.bind_eq_some_iff.mp h
        have HRP : Aside0 (∀ W, DoneI w w.heap.size cs W → Calls Tryz.prog 134 #[.agg #[.int .i64 r0, .int .i64 r1, .slice A3 l3.length c3]] W fun e w' => e = .returned (.bool rp) ∧ DoneI w w.heap.size cs w') := ⟨fun W hi => by
          refine (session_reply.calls r0 r1 A3 c3 l3 rp W (Kd.C_below hr3 hi.below) hc3 hrp).mono ?_
          rintro e w' ⟨rfl, hb'⟩
          exact ⟨rfl, hi.step hb'⟩⟩
        cases rp with
        | false =>
          rw [if_neg (by decide)] at h
          obtain ⟨rfl, rfl⟩ := Prod.mk.inj (Option.some.inj h)
          clear hr0 hc0 hr3 hc3 hm h hcs h2 h4 hrp
          go_enter Tryz.func91, Tryz.ntmps91
          go_wp2_with (first
            | (go_at_call 128; with_reducible refine (HM.out _ (by repeat (first | exact (Aside0.out ‹Aside0 (DoneI w w.heap.size cs _)›) | apply DoneI.drewN | apply DoneI.drew | exact DoneI.start _ _ _ (by rw [HCS.out])))).mono ?_; rintro e w1 ⟨rfl, hi⟩; have HI1 := Aside0.mk hi; clear hi; have c1_0 : w1.cell? ⟨w.heap.size, 0, none⟩ = some (.int .i64 r0) := (blk_cell HI1.out.box 0).trans HK0.out; have c1_1 : w1.cell? ⟨w.heap.size, 1, none⟩ = some (.int .i64 r1) := (blk_cell HI1.out.box 1).trans HK1.out; have c1_2 : w1.cell? ⟨w.heap.size, 2, none⟩ = some (.slice A3 l3.length c3) := (blk_cell HI1.out.box 2).trans HK2.out; have f1_2 := blk_frozen HI1.out.box 2)
            | (go_at_call 97; with_reducible refine (HN2.out _ (by repeat (first | exact (Aside0.out ‹Aside0 (DoneI w w.heap.size cs _)›) | apply DoneI.drewN | apply DoneI.drew | exact DoneI.start _ _ _ (by rw [HCS.out])))).mono ?_; rintro e w2 ⟨rfl, hi⟩; have HI2 := Aside0.mk hi; clear hi; have c2_0 : w2.cell? ⟨w.heap.size, 0, none⟩ = some (.int .i64 r0) := (blk_cell HI2.out.box 0).trans HK0.out; have c2_1 : w2.cell? ⟨w.heap.size, 1, none⟩ = some (.int .i64 r1) := (blk_cell HI2.out.box 1).trans HK1.out; have c2_2 : w2.cell? ⟨w.heap.size, 2, none⟩ = some (.slice A3 l3.length c3) := (blk_cell HI2.out.box 2).trans HK2.out; have f2_2 := blk_frozen HI2.out.box 2)
            | (go_at_call 97; with_reducible refine (HN4.out _ (by repeat (first | exact (Aside0.out ‹Aside0 (DoneI w w.heap.size cs _)›) | apply DoneI.drewN | apply DoneI.drew | exact DoneI.start _ _ _ (by rw [HCS.out])))).mono ?_; rintro e w3 ⟨rfl, hi⟩; have HI3 := Aside0.mk hi; clear hi; have c3_0 : w3.cell? ⟨w.heap.size, 0, none⟩ = some (.int .i64 r0) := (blk_cell HI3.out.box 0).trans HK0.out; have c3_1 : w3.cell? ⟨w.heap.size, 1, none⟩ = some (.int .i64 r1) := (blk_cell HI3.out.box 1).trans HK1.out; have c3_2 : w3.cell? ⟨w.heap.size, 2, none⟩ = some (.slice A3 l3.length c3) := (blk_cell HI3.out.box 2).trans HK2.out; have f3_2 := blk_frozen HI3.out.box 2)
            | (go_at_call 134; with_reducible refine (HRP.out _ (by repeat (first | exact (Aside0.out ‹Aside0 (DoneI w w.heap.size cs _)›) | apply DoneI.drewN | apply DoneI.drew | exact DoneI.start _ _ _ (by rw [HCS.out])))).mono ?_; rintro e w4 ⟨rfl, hi⟩; have HI4 := Aside0.mk hi; clear hi; have c4_0 : w4.cell? ⟨w.heap.size, 0, none⟩ = some (.int .i64 r0) := (blk_cell HI4.out.box 0).trans HK0.out; have c4_1 : w4.cell? ⟨w.heap.size, 1, none⟩ = some (.int .i64 r1) := (blk_cell HI4.out.box 1).trans HK1.out; have c4_2 : w4.cell? ⟨w.heap.size, 2, none⟩ = some (.slice A3 l3.length c3) := (blk_cell HI4.out.box 2).trans HK2.out; have f4_2 := blk_frozen HI4.out.box 2))
          go_ret2
          exact ⟨_, rfl, Kd.S_nil _ _ _ _ _, DoneI.below (by repeat (first | exact (Aside0.out ‹Aside0 (DoneI w w.heap.size cs _)›) | apply DoneI.drewN | apply DoneI.drew | exact DoneI.start _ _ _ (by rw [HCS.out])))⟩
        | true =>
          rw [if_pos rfl] at h
          by_cases hs : riseS l0 ∧ l0.length ≤ 8
          · rw [if_pos hs] at h
            by_cases ha : l0.any (fun x => x.f0 == a1) = true
            · rw [if_pos ha] at h
              obtain ⟨rfl, rfl⟩ := Prod.mk.inj (Option.some.inj h)
              refine (done23 k A0 c0 l0 a1 a2 r0 r1 A3 c3 l3 a4 w hr0 hc0 hr3 hc3 hm h2 h4 hrp hs.1 hs.2 ha).mono ?_
              rintro e w' ⟨v, rfl, hr, hb⟩
              exact ⟨v, rfl, kF_S hr, hb⟩
            · rw [if_neg ha] at h
              obtain ⟨rfl, rfl⟩ := Prod.mk.inj (Option.some.inj h)
              have HF : Aside0 (∀ W, DoneI w w.heap.size cs W → Calls Tryz.prog 131 #[.slice A0 l0.length c0, .int .i64 a1] W fun e w' => e = .returned (.tuple #[.int .i64 ((placeS l0 a1 : Nat) : Int), .bool false]) ∧ DoneI w w.heap.size cs w') := ⟨fun W hi => by
                refine (find59 A0 c0 l0 a1 W (Kd.C_below hr0 hi.below) hc0 hs.1 hs.2).mono ?_
                rintro e w' ⟨rfl, hb'⟩
                rw [Bool.eq_false_iff.2 ha]
                exact ⟨rfl, hi.step hb'⟩⟩
              clear hr0 hc0 hr3 hc3 hm h hcs h2 h4 hrp hs ha
              go_enter Tryz.func91, Tryz.ntmps91
              go_wp2_with (first
                | (go_at_call 128; with_reducible refine (HM.out _ (by repeat (first | exact (Aside0.out ‹Aside0 (DoneI w w.heap.size cs _)›) | apply DoneI.drewN | apply DoneI.drew | exact DoneI.start _ _ _ (by rw [HCS.out])))).mono ?_; rintro e w1 ⟨rfl, hi⟩; have HI1 := Aside0.mk hi; clear hi; have c1_0 : w1.cell? ⟨w.heap.size, 0, none⟩ = some (.int .i64 r0) := (blk_cell HI1.out.box 0).trans HK0.out; have c1_1 : w1.cell? ⟨w.heap.size, 1, none⟩ = some (.int .i64 r1) := (blk_cell HI1.out.box 1).trans HK1.out; have c1_2 : w1.cell? ⟨w.heap.size, 2, none⟩ = some (.slice A3 l3.length c3) := (blk_cell HI1.out.box 2).trans HK2.out; have f1_2 := blk_frozen HI1.out.box 2)
                | (go_at_call 97; with_reducible refine (HN2.out _ (by repeat (first | exact (Aside0.out ‹Aside0 (DoneI w w.heap.size cs _)›) | apply DoneI.drewN | apply DoneI.drew | exact DoneI.start _ _ _ (by rw [HCS.out])))).mono ?_; rintro e w2 ⟨rfl, hi⟩; have HI2 := Aside0.mk hi; clear hi; have c2_0 : w2.cell? ⟨w.heap.size, 0, none⟩ = some (.int .i64 r0) := (blk_cell HI2.out.box 0).trans HK0.out; have c2_1 : w2.cell? ⟨w.heap.size, 1, none⟩ = some (.int .i64 r1) := (blk_cell HI2.out.box 1).trans HK1.out; have c2_2 : w2.cell? ⟨w.heap.size, 2, none⟩ = some (.slice A3 l3.length c3) := (blk_cell HI2.out.box 2).trans HK2.out; have f2_2 := blk_frozen HI2.out.box 2)
                | (go_at_call 97; with_reducible refine (HN4.out _ (by repeat (first | exact (Aside0.out ‹Aside0 (DoneI w w.heap.size cs _)›) | apply DoneI.drewN | apply DoneI.drew | exact DoneI.start _ _ _ (by rw [HCS.out])))).mono ?_; rintro e w3 ⟨rfl, hi⟩; have HI3 := Aside0.mk hi; clear hi; have c3_0 : w3.cell? ⟨w.heap.size, 0, none⟩ = some (.int .i64 r0) := (blk_cell HI3.out.box 0).trans HK0.out; have c3_1 : w3.cell? ⟨w.heap.size, 1, none⟩ = some (.int .i64 r1) := (blk_cell HI3.out.box 1).trans HK1.out; have c3_2 : w3.cell? ⟨w.heap.size, 2, none⟩ = some (.slice A3 l3.length c3) := (blk_cell HI3.out.box 2).trans HK2.out; have f3_2 := blk_frozen HI3.out.box 2)
                | (go_at_call 134; with_reducible refine (HRP.out _ (by repeat (first | exact (Aside0.out ‹Aside0 (DoneI w w.heap.size cs _)›) | apply DoneI.drewN | apply DoneI.drew | exact DoneI.start _ _ _ (by rw [HCS.out])))).mono ?_; rintro e w4 ⟨rfl, hi⟩; have HI4 := Aside0.mk hi; clear hi; have c4_0 : w4.cell? ⟨w.heap.size, 0, none⟩ = some (.int .i64 r0) := (blk_cell HI4.out.box 0).trans HK0.out; have c4_1 : w4.cell? ⟨w.heap.size, 1, none⟩ = some (.int .i64 r1) := (blk_cell HI4.out.box 1).trans HK1.out; have c4_2 : w4.cell? ⟨w.heap.size, 2, none⟩ = some (.slice A3 l3.length c3) := (blk_cell HI4.out.box 2).trans HK2.out; have f4_2 := blk_frozen HI4.out.box 2)
                | (go_at_call 131; with_reducible refine (HF.out _ (by repeat (first | exact (Aside0.out ‹Aside0 (DoneI w w.heap.size cs _)›) | apply DoneI.drewN | apply DoneI.drew | exact DoneI.start _ _ _ (by rw [HCS.out])))).mono ?_; rintro e w5 ⟨rfl, hi⟩; have HI5 := Aside0.mk hi; clear hi; have c5_0 : w5.cell? ⟨w.heap.size, 0, none⟩ = some (.int .i64 r0) := (blk_cell HI5.out.box 0).trans HK0.out; have c5_1 : w5.cell? ⟨w.heap.size, 1, none⟩ = some (.int .i64 r1) := (blk_cell HI5.out.box 1).trans HK1.out; have c5_2 : w5.cell? ⟨w.heap.size, 2, none⟩ = some (.slice A3 l3.length c3) := (blk_cell HI5.out.box 2).trans HK2.out; have f5_2 := blk_frozen HI5.out.box 2))
              go_ret2
              exact ⟨_, rfl, Kd.S_nil _ _ _ _ _, DoneI.below (by repeat (first | exact (Aside0.out ‹Aside0 (DoneI w w.heap.size cs _)›) | apply DoneI.drewN | apply DoneI.drew | exact DoneI.start _ _ _ (by rw [HCS.out])))⟩
          · rw [if_neg hs] at h; cases h
      · rw [if_neg h4] at h
        obtain ⟨rfl, rfl⟩ := Prod.mk.inj (Option.some.inj h)
        rw [decide_eq_false h4] at HN4
        clear hr0 hc0 hr3 hc3 hm h hcs h2 h4
        go_enter Tryz.func91, Tryz.ntmps91
        go_wp2_with (first
          | (go_at_call 128; with_reducible refine (HM.out _ (by repeat (first | exact (Aside0.out ‹Aside0 (DoneI w w.heap.size cs _)›) | apply DoneI.drewN | apply DoneI.drew | exact DoneI.start _ _ _ (by rw [HCS.out])))).mono ?_; rintro e w1 ⟨rfl, hi⟩; have HI1 := Aside0.mk hi; clear hi; have c1_0 : w1.cell? ⟨w.heap.size, 0, none⟩ = some (.int .i64 r0) := (blk_cell HI1.out.box 0).trans HK0.out; have c1_1 : w1.cell? ⟨w.heap.size, 1, none⟩ = some (.int .i64 r1) := (blk_cell HI1.out.box 1).trans HK1.out; have c1_2 : w1.cell? ⟨w.heap.size, 2, none⟩ = some (.slice A3 l3.length c3) := (blk_cell HI1.out.box 2).trans HK2.out; have f1_2 := blk_frozen HI1.out.box 2)
          | (go_at_call 97; with_reducible refine (HN2.out _ (by repeat (first | exact (Aside0.out ‹Aside0 (DoneI w w.heap.size cs _)›) | apply DoneI.drewN | apply DoneI.drew | exact DoneI.start _ _ _ (by rw [HCS.out])))).mono ?_; rintro e w2 ⟨rfl, hi⟩; have HI2 := Aside0.mk hi; clear hi; have c2_0 : w2.cell? ⟨w.heap.size, 0, none⟩ = some (.int .i64 r0) := (blk_cell HI2.out.box 0).trans HK0.out; have c2_1 : w2.cell? ⟨w.heap.size, 1, none⟩ = some (.int .i64 r1) := (blk_cell HI2.out.box 1).trans HK1.out; have c2_2 : w2.cell? ⟨w.heap.size, 2, none⟩ = some (.slice A3 l3.length c3) := (blk_cell HI2.out.box 2).trans HK2.out; have f2_2 := blk_frozen HI2.out.box 2)
          | (go_at_call 97; with_reducible refine (HN4.out _ (by repeat (first | exact (Aside0.out ‹Aside0 (DoneI w w.heap.size cs _)›) | apply DoneI.drewN | apply DoneI.drew | exact DoneI.start _ _ _ (by rw [HCS.out])))).mono ?_; rintro e w3 ⟨rfl, hi⟩; have HI3 := Aside0.mk hi; clear hi; have c3_0 : w3.cell? ⟨w.heap.size, 0, none⟩ = some (.int .i64 r0) := (blk_cell HI3.out.box 0).trans HK0.out; have c3_1 : w3.cell? ⟨w.heap.size, 1, none⟩ = some (.int .i64 r1) := (blk_cell HI3.out.box 1).trans HK1.out; have c3_2 : w3.cell? ⟨w.heap.size, 2, none⟩ = some (.slice A3 l3.length c3) := (blk_cell HI3.out.box 2).trans HK2.out; have f3_2 := blk_frozen HI3.out.box 2))
        go_ret2
        exact ⟨_, rfl, Kd.S_nil _ _ _ _ _, DoneI.below (by repeat (first | exact (Aside0.out ‹Aside0 (DoneI w w.heap.size cs _)›) | apply DoneI.drewN | apply DoneI.drew | exact DoneI.start _ _ _ (by rw [HCS.out])))⟩
    · rw [if_neg h2] at h
      obtain ⟨rfl, rfl⟩ := Prod.mk.inj (Option.some.inj h)
      rw [decide_eq_false h2] at HN2
      clear hr0 hc0 hr3 hc3 hm h hcs h2 HN4
      go_enter Tryz.func91, Tryz.ntmps91
      go_wp2_with (first
        | (go_at_call 128; with_reducible refine (HM.out _ (by repeat (first | exact (Aside0.out ‹Aside0 (DoneI w w.heap.size cs _)›) | apply DoneI.drewN | apply DoneI.drew | exact DoneI.start _ _ _ (by rw [HCS.out])))).mono ?_; rintro e w1 ⟨rfl, hi⟩; have HI1 := Aside0.mk hi; clear hi; have c1_0 : w1.cell? ⟨w.heap.size, 0, none⟩ = some (.int .i64 r0) := (blk_cell HI1.out.box 0).trans HK0.out; have c1_1 : w1.cell? ⟨w.heap.size, 1, none⟩ = some (.int .i64 r1) := (blk_cell HI1.out.box 1).trans HK1.out; have c1_2 : w1.cell? ⟨w.heap.size, 2, none⟩ = some (.slice A3 l3.length c3) := (blk_cell HI1.out.box 2).trans HK2.out; have f1_2 := blk_frozen HI1.out.box 2)
        | (go_at_call 97; with_reducible refine (HN2.out _ (by repeat (first | exact (Aside0.out ‹Aside0 (DoneI w w.heap.size cs _)›) | apply DoneI.drewN | apply DoneI.drew | exact DoneI.start _ _ _ (by rw [HCS.out])))).mono ?_; rintro e w2 ⟨rfl, hi⟩; have HI2 := Aside0.mk hi; clear hi; have c2_0 : w2.cell? ⟨w.heap.size, 0, none⟩ = some (.int .i64 r0) := (blk_cell HI2.out.box 0).trans HK0.out; have c2_1 : w2.cell? ⟨w.heap.size, 1, none⟩ = some (.int .i64 r1) := (blk_cell HI2.out.box 1).trans HK1.out; have c2_2 : w2.cell? ⟨w.heap.size, 2, none⟩ = some (.slice A3 l3.length c3) := (blk_cell HI2.out.box 2).trans HK2.out; have f2_2 := blk_frozen HI2.out.box 2))
      go_ret2
      exact ⟨_, rfl, Kd.S_nil _ _ _ _ _, DoneI.below (by repeat (first | exact (Aside0.out ‹Aside0 (DoneI w w.heap.size cs _)›) | apply DoneI.drewN | apply DoneI.drew | exact DoneI.start _ _ _ (by rw [HCS.out])))⟩

end Go.Proofs.YtpeldaogdeefeaaGreat.M
