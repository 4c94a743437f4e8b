-- Written by a program: the kit's printer with changes of this session (NOTES.md).
import Derived.Test.YtcacckaonjnmjaaQx0
import Derived.Test.YtcacckaonjnmjaaQx2
import Derived.Test.YtcacckaonjnmjaaQx7
import Derived.Test.YtcacckaonjnmjaaQx8
import Derived.Test.YtcacckaonjnmjaaQx39
import Derived.Test.YtcacckaonjnmjaaQx40
namespace Go.Proofs.Ytcacckaonjnmjaa.Q
open Go.RowKit Go.Proofs.YtcacckaonjnmjaaW.PrintWords Go.Proofs.YtcacckaonjnmjaaW.PrintLast Go.Proofs.YtcacckaonjnmjaaW.PrintMore
attribute [local go_sem] max2_int min2_int max_two min_two max_three min_three max_four min_four   -- for this text's walks alone
set_option linter.unusedVariables false
set_option linter.unusedSimpArgs false

/-! ### lecternlaw24_QuorumMatch: function 12 -/
mutual
def lecternlaw24_QuorumMatch.l0 : Nat → List (S76) → Int → Option (Bool)
  | 0, _, _ => none
  | k + 1, x0, x3 => if x3 < (x0.length : Int) then (lecternlaw24_QuorumMatch.j1 k x0 x3 (decide (x3 < 30))) else (lecternlaw24_QuorumMatch.j1 k x0 x3 false)
def lecternlaw24_QuorumMatch.j1 : Nat → List (S76) → Int → Bool → Option (Bool)
  | 0, _, _, _ => none
  | k + 1, x0, x3, x20 => if x20 = true then (if 0 ≤ x3 then (if x3 < (x0.length : Int) then ((lecternlaw24_heavy.f ((rd_T76 x0 x3).f0) ((rd_T76 x0 x3).f1) ((rd_T76 x0 x3).f2)).bind fun t271 => (if t271 = true then (some true) else ((quorum_Index.f ((rd_T76 x0 x3).f2)).bind fun bt272 => ((lecternlaw24_num.f bt272.2).bind fun t274 => (if t274 = 0 then (lecternlaw24_QuorumMatch.l1 k x0 x3 bt272.1 0 0 ([] : List Int) 0 ((rd_T76 x0 x3).f0) ((rd_T76 x0 x3).f1) ((rd_T76 x0 x3).f2)) else (lecternlaw24_QuorumMatch.l0 k x0 (wrap64 (x3 + 1)))))))) else (none)) else (none)) else ((lecternlaw24_wakes.f k).bind fun t268 => (some t268))
def lecternlaw24_QuorumMatch.l1 : Nat → List (S76) → Int → Int → Int → Int → List Int → Int → Int → List Int → List Int → Option (Bool)
  | 0, _, _, _, _, _, _, _, _, _, _ => none
  | k + 1, x0, x3, x5, x7, x8, x9, x10, x271000, x271001, x271002 => if x10 < (x271002.length : Int) then (if 0 ≤ x10 then (if (rd x271002 x10) ≥ x5 then (if (rd x271002 x10) > x5 then (if 0 ≤ (wrap64 ((wrap64 ((x271002.length : Int) - 1)) - x10)) then (if (wrap64 ((wrap64 ((x271002.length : Int) - 1)) - x10)) < (x271002.length : Int) then (if x9.length < 17592186044416 then (lecternlaw24_QuorumMatch.l1 k x0 x3 x5 (wrap64 (x7 + 1)) (wrap64 (x8 + 1)) (x9 ++ [rd x271002 (wrap64 ((wrap64 ((x271002.length : Int) - 1)) - x10))]) (wrap64 (x10 + 1)) x271000 x271001 x271002) else (none)) else (none)) else (none)) else (if 0 ≤ (wrap64 ((wrap64 ((x271002.length : Int) - 1)) - x10)) then (if (wrap64 ((wrap64 ((x271002.length : Int) - 1)) - x10)) < (x271002.length : Int) then (if x9.length < 17592186044416 then (lecternlaw24_QuorumMatch.l1 k x0 x3 x5 (wrap64 (x7 + 1)) x8 (x9 ++ [rd x271002 (wrap64 ((wrap64 ((x271002.length : Int) - 1)) - x10))]) (wrap64 (x10 + 1)) x271000 x271001 x271002) else (none)) else (none)) else (none))) else (if (rd x271002 x10) > x5 then (if 0 ≤ (wrap64 ((wrap64 ((x271002.length : Int) - 1)) - x10)) then (if (wrap64 ((wrap64 ((x271002.length : Int) - 1)) - x10)) < (x271002.length : Int) then (if x9.length < 17592186044416 then (lecternlaw24_QuorumMatch.l1 k x0 x3 x5 x7 (wrap64 (x8 + 1)) (x9 ++ [rd x271002 (wrap64 ((wrap64 ((x271002.length : Int) - 1)) - x10))]) (wrap64 (x10 + 1)) x271000 x271001 x271002) else (none)) else (none)) else (none)) else (if 0 ≤ (wrap64 ((wrap64 ((x271002.length : Int) - 1)) - x10)) then (if (wrap64 ((wrap64 ((x271002.length : Int) - 1)) - x10)) < (x271002.length : Int) then (if x9.length < 17592186044416 then (lecternlaw24_QuorumMatch.l1 k x0 x3 x5 x7 x8 (x9 ++ [rd x271002 (wrap64 ((wrap64 ((x271002.length : Int) - 1)) - x10))]) (wrap64 (x10 + 1)) x271000 x271001 x271002) else (none)) else (none)) else (none)))) else (none)) else ((quorum_Index.f x9).bind fun bt294 => (if (wrap64 (2 * x7)) ≤ (x271002.length : Int) then (some false) else (if (wrap64 (2 * x8)) > (x271002.length : Int) then (some false) else ((lecternref0_In.f k x271002 x5).bind fun t296 => (if t296 < 0 then (some false) else ((lecternlaw24_num.f bt294.2).bind fun t297 => (if t297 = 0 then (if bt294.1 = x5 then (lecternlaw24_QuorumMatch.l0 k x0 (wrap64 (x3 + 1))) else (some false)) else (some false))))))))
end
def lecternlaw24_QuorumMatch.f (k : Nat) (l0 : List (S76)) : Option (Bool) := lecternlaw24_QuorumMatch.l0 k l0 0
theorem lecternlaw24_QuorumMatch.mono_l : ∀ k, (∀ y0 y1, LeO (lecternlaw24_QuorumMatch.l0 k y0 y1) (lecternlaw24_QuorumMatch.l0 (k + 1) y0 y1)) ∧ (∀ y0 y1 y2, LeO (lecternlaw24_QuorumMatch.j1 k y0 y1 y2) (lecternlaw24_QuorumMatch.j1 (k + 1) y0 y1 y2)) ∧ (∀ y0 y1 y2 y3 y4 y5 y6 y7 y8 y9, LeO (lecternlaw24_QuorumMatch.l1 k y0 y1 y2 y3 y4 y5 y6 y7 y8 y9) (lecternlaw24_QuorumMatch.l1 (k + 1) y0 y1 y2 y3 y4 y5 y6 y7 y8 y9))
  | 0 => ⟨fun _ _ r h => by simp [lecternlaw24_QuorumMatch.l0] at h, fun _ _ _ r h => by simp [lecternlaw24_QuorumMatch.j1] at h, fun _ _ _ _ _ _ _ _ _ _ r h => by simp [lecternlaw24_QuorumMatch.l1] at h⟩
  | k + 1 => by
    obtain ⟨ih0, ih1, ih2⟩ := lecternlaw24_QuorumMatch.mono_l k
    refine ⟨?_, ?_, ?_⟩
    · intro y0 y1
      unfold lecternlaw24_QuorumMatch.l0
      repeat' first
      | (with_reducible exact ih0 _ _)
      | (with_reducible exact ih1 _ _ _)
      | (with_reducible exact ih2 _ _ _ _ _ _ _ _ _ _)
      | (with_reducible exact lecternlaw24_wakes.mono _)
      | (with_reducible exact lecternref0_In.mono _ _ _)
      | (with_reducible exact LeO.refl _)
      | (with_reducible exact LeO.none _)
      | (with_reducible refine LeO.ite ?_ ?_)
      | (with_reducible refine LeO.bind ?_ (fun _ => ?_))
      | exact ih0 _ _
      | exact ih1 _ _ _
      | exact ih2 _ _ _ _ _ _ _ _ _ _
      | exact lecternlaw24_wakes.mono _
      | exact lecternref0_In.mono _ _ _
      | exact LeO.none _
      | refine LeO.ite ?_ ?_
      | refine LeO.bind ?_ (fun _ => ?_)
    · intro y0 y1 y2
      unfold lecternlaw24_QuorumMatch.j1
      repeat' first
      | (with_reducible exact ih0 _ _)
      | (with_reducible exact ih1 _ _ _)
      | (with_reducible exact ih2 _ _ _ _ _ _ _ _ _ _)
      | (with_reducible exact lecternlaw24_wakes.mono _)
      | (with_reducible exact lecternref0_In.mono _ _ _)
      | (with_reducible exact LeO.refl _)
      | (with_reducible exact LeO.none _)
      | (with_reducible refine LeO.ite ?_ ?_)
      | (with_reducible refine LeO.bind ?_ (fun _ => ?_))
      | exact ih0 _ _
      | exact ih1 _ _ _
      | exact ih2 _ _ _ _ _ _ _ _ _ _
      | exact lecternlaw24_wakes.mono _
      | exact lecternref0_In.mono _ _ _
      | exact LeO.none _
      | refine LeO.ite ?_ ?_
      | refine LeO.bind ?_ (fun _ => ?_)
    · intro y0 y1 y2 y3 y4 y5 y6 y7 y8 y9
      unfold lecternlaw24_QuorumMatch.l1
      repeat' first
      | (with_reducible exact ih0 _ _)
      | (with_reducible exact ih1 _ _ _)
      | (with_reducible exact ih2 _ _ _ _ _ _ _ _ _ _)
      | (with_reducible exact lecternlaw24_wakes.mono _)
      | (with_reducible exact lecternref0_In.mono _ _ _)
      | (with_reducible exact LeO.refl _)
      | (with_reducible exact LeO.none _)
      | (with_reducible refine LeO.ite ?_ ?_)
      | (with_reducible refine LeO.bind ?_ (fun _ => ?_))
      | exact ih0 _ _
      | exact ih1 _ _ _
      | exact ih2 _ _ _ _ _ _ _ _ _ _
      | exact lecternlaw24_wakes.mono _
      | exact lecternref0_In.mono _ _ _
      | exact LeO.none _
      | refine LeO.ite ?_ ?_
      | refine LeO.bind ?_ (fun _ => ?_)
theorem lecternlaw24_QuorumMatch.mono : ∀ a0 k, LeO (lecternlaw24_QuorumMatch.f k a0) (lecternlaw24_QuorumMatch.f (k + 1) a0) := by
  intro a0 k
  obtain ⟨ih0, ih1, ih2⟩ := lecternlaw24_QuorumMatch.mono_l k
  unfold lecternlaw24_QuorumMatch.f
  repeat' first
      | (with_reducible exact ih0 _ _)
      | (with_reducible exact ih1 _ _ _)
      | (with_reducible exact ih2 _ _ _ _ _ _ _ _ _ _)
      | (with_reducible exact lecternlaw24_wakes.mono _)
      | (with_reducible exact lecternref0_In.mono _ _ _)
      | (with_reducible exact LeO.refl _)
      | (with_reducible exact LeO.none _)
      | (with_reducible refine LeO.ite ?_ ?_)
      | (with_reducible refine LeO.bind ?_ (fun _ => ?_))
      | exact ih0 _ _
      | exact ih1 _ _ _
      | exact ih2 _ _ _ _ _ _ _ _ _ _
      | exact lecternlaw24_wakes.mono _
      | exact lecternref0_In.mono _ _ _
      | exact LeO.none _
      | refine LeO.ite ?_ ?_
      | refine LeO.bind ?_ (fun _ => ?_)
set_option maxHeartbeats 8000000 in
set_option maxRecDepth 100000 in
theorem lecternlaw24_QuorumMatch.calls (k : Nat) (A0 : Option Addr) (c0 : Nat) (l0 : List (S76)) (r : Bool) (w : World) (hr0 : Kd.C k76 w A0 l0.length l0) (hc0 : l0.length ≤ c0) (h : lecternlaw24_QuorumMatch.f k l0 = some r) :
    Calls Try.prog 12 #[.slice A0 l0.length c0] w fun e w' => e = .returned (.bool r) ∧ Below w.heap.size w w' := by
  have hu76 := Try.underlying76
  have HR0 := Aside0.mk hr0
  have HC0 := Aside0.mk hc0
  clear hr0 hc0
  have HB := Aside0.mk (Below.refl w.heap.size w)
  have H : (lecternlaw24_QuorumMatch.l0 k l0 0) = some r := h
  clear h
  have H' := Aside0.mk H
  clear H
  go_enter Try.func12, Try.ntmps12
  go_wp2
  go_loopg [3] k (fun kq v3 w' => ∃ (x3_1 : Int), v3 = .int .i64 x3_1 ∧ Aside0 (lecternlaw24_QuorumMatch.l0 kq l0 x3_1 = some r) ∧ Aside0 (kq ≤ k) ∧ Aside0 (Below w.heap.size w w'))
  case atStart => exact ⟨(0), (by first | rfl | (simp; done) | (simp [*]; done)), H', ⟨Nat.le_refl _⟩, ⟨by repeat (first | (with_reducible first | exact HB.out | apply below_alloc | apply pw_below_drewN | apply below_drew1) | exact HB.out)⟩⟩
  case round =>
    clear H'
    try clear c1
    obtain ⟨x3_1, rfl, HA, HK1, HB⟩ := hrel
    cases gk with
    | zero => exact absurd HA.out (by simp [lecternlaw24_QuorumMatch.l0])
    | succ k1 =>
      have H := HA.out
      clear HA
      simp only [lecternlaw24_QuorumMatch.l0] at H
      have HC2 := Aside0.mk H
      clear H
      go_upto_region 2 with (fail)
      go_cut [20] (fun v20 wc => ∃ (kq : Nat) (x20_1 : Bool), v20 = .bool x20_1 ∧ Aside0 (lecternlaw24_QuorumMatch.j1 kq l0 x3_1 x20_1 = some r) ∧ Aside0 (kq ≤ k1) ∧ Aside0 (Below w.heap.size w wc))
      case first =>
        have H := HC2.out
        clear HC2
        by_cases c3 : x3_1 < (l0.length : Int)
        · rw [if_pos c3] at H
          have c3b0 : decide (x3_1 < (l0.length : Int)) = true := decide_eq_true c3
          clear c3
          (first | rw [c3b0] | (simp only [i64_w, i32_w]; rw [c3b0]) | skip)
          have H' := Aside0.mk H
          clear H
          go_wp2
          go_meet
          case rel => exact ⟨_, (decide (x3_1 < 30)), (by first | rfl | (simp; done) | (simp [*]; done)), H', ⟨by have := HK1.out; first | omega | exact Nat.le_refl _⟩, ⟨by repeat (first | (with_reducible first | exact HB.out | apply below_alloc | apply pw_below_drewN | apply below_drew1) | exact HB.out)⟩⟩
        · rw [if_neg c3] at H
          have c3b0 : decide (x3_1 < (l0.length : Int)) = false := decide_eq_false c3
          clear c3
          (first | rw [c3b0] | (simp only [i64_w, i32_w]; rw [c3b0]) | skip)
          have H' := Aside0.mk H
          clear H
          go_wp2
          go_meet
          case rel => exact ⟨_, (false), (by first | rfl | (simp; done) | (simp [*]; done)), H', ⟨by have := HK1.out; first | omega | exact Nat.le_refl _⟩, ⟨by repeat (first | (with_reducible first | exact HB.out | apply below_alloc | apply pw_below_drewN | apply below_drew1) | exact HB.out)⟩⟩
      case rest =>
        clear HC2
        try clear c1
        try clear p2
        try clear c3
        try clear c3b0
        obtain ⟨kq, x20_1, rfl, HA, HJ1, HB⟩ := hcut
        cases kq with
        | zero => exact absurd HA.out (by simp [lecternlaw24_QuorumMatch.j1])
        | succ kj1 =>
          have H := HA.out
          clear HA
          simp only [lecternlaw24_QuorumMatch.j1] at H
          by_cases c4 : x20_1 = true
          · subst c4
            have H1 : (if 0 ≤ x3_1 then (if x3_1 < (l0.length : Int) then ((lecternlaw24_heavy.f ((rd_T76 l0 x3_1).f0) ((rd_T76 l0 x3_1).f1) ((rd_T76 l0 x3_1).f2)).bind fun t271 => (if t271 = true then (some true) else ((quorum_Index.f ((rd_T76 l0 x3_1).f2)).bind fun bt272 => ((lecternlaw24_num.f bt272.2).bind fun t274 => (if t274 = 0 then (lecternlaw24_QuorumMatch.l1 kj1 l0 x3_1 bt272.1 0 0 ([] : List Int) 0 ((rd_T76 l0 x3_1).f0) ((rd_T76 l0 x3_1).f1) ((rd_T76 l0 x3_1).f2)) else (lecternlaw24_QuorumMatch.l0 kj1 l0 (wrap64 (x3_1 + 1)))))))) else (none)) else (none)) = some r := by rw [if_pos rfl] at H; exact H
            clear H
            have H := H1
            clear H1
            by_cases c5 : 0 ≤ x3_1
            · rw [if_pos c5] at H
              have c5b0 : decide (0 ≤ x3_1) = true := decide_eq_true c5
              clear c5
              by_cases c6 : x3_1 < (l0.length : Int)
              · rw [if_pos c6] at H
                have c6b0 : decide (x3_1 < (l0.length : Int)) = true := decide_eq_true c6
                clear c6
                replace H := Option.bind_eq_some_iff.mp H
                obtain ⟨t271, A70, H⟩ := H
                replace H : (if t271 = true then (some true) else ((quorum_Index.f ((rd_T76 l0 x3_1).f2)).bind fun bt272 => ((lecternlaw24_num.f bt272.2).bind fun t274 => (if t274 = 0 then (lecternlaw24_QuorumMatch.l1 kj1 l0 x3_1 bt272.1 0 0 ([] : List Int) 0 ((rd_T76 l0 x3_1).f0) ((rd_T76 l0 x3_1).f1) ((rd_T76 l0 x3_1).f2)) else (lecternlaw24_QuorumMatch.l0 kj1 l0 (wrap64 (x3_1 + 1))))))) = some r := H
                have A7 := Aside0.mk A70
                clear A70
                by_cases c8 : t271 = true
                · subst c8
                  have H1 : (some true) = some r := by rw [if_pos rfl] at H; exact H
                  clear H
                  have H := H1
                  clear H1
                  obtain rfl := Option.some.inj H
                  have p269 : 0 ≤ (x3_1 : Int) := of_decide_eq_true (by first | (with_reducible assumption) | assumption)
                  have q269 : x3_1 < (l0.length : Int) := of_decide_eq_true (by first | (with_reducible assumption) | assumption)
                  obtain ⟨ad269, A269_1, c269_1, A269_2, c269_2, e269, hx269_0, hx269_1, hx269_2, hl269_1, hi269_1, hl269_2, hi269_2⟩ := at_T76 HR0.out x3_1 p269 q269
                  cases e269
                  replace hx269_0 := (HB.out.cell (World.block_lt_of_cell? w _ hx269_0)).trans hx269_0
                  replace hx269_1 := (HB.out.cell (World.block_lt_of_cell? w _ hx269_1)).trans hx269_1
                  replace hx269_2 := (HB.out.cell (World.block_lt_of_cell? w _ hx269_2)).trans hx269_2
                  have HR269_1 := Aside0.mk hi269_1
                  have HC269_1 := Aside0.mk hl269_1
                  clear hi269_1 hl269_1
                  have HR269_2 := Aside0.mk hi269_2
                  have HC269_2 := Aside0.mk hl269_2
                  clear hi269_2 hl269_2
                  replace p269 := eq_true p269
                  replace q269 := eq_true q269
                  go_wp2_with (first | ((with_reducible refine gate_dst (N := 4) rfl ?_); (try (refine gate_guard (by rfl) ?_; dsimp only)); refine box_event ?hg (N := 4) ?hd (cs := #[.int .i64 0, .slice none 0 0, .slice none 0 0]) (t := 76) ?hr ?_; (case hd => rfl); (case hg => rfl); (case hr => first | (go_simp; done) | (go_simp; rfl)); intro gb270 hg w9 hbox hb; have n0_ := Aside0.mk (below_step (by repeat (first | (with_reducible first | exact HB.out | apply below_alloc | apply pw_below_drewN | apply below_drew1) | exact HB.out)) hb); have n1_ := Aside0.mk (hbox); have n2_ := Aside0.mk ((by rw [hg]; exact (below_size (by repeat (first | (with_reducible first | exact HB.out | apply below_alloc | apply pw_below_drewN | apply below_drew1) | exact HB.out))) : w.heap.size ≤ gb270)); have n3_ := Aside0.mk ((by rw [hg]; exact (below_size (by repeat (first | (with_reducible first | exact HB.out | apply below_alloc | apply pw_below_drewN | apply below_drew1) | exact HB.out))) : w.heap.size ≤ gb270)); clear HB; have HB := n0_; have BK270 := n1_; have GW270 := n2_; have GE270 := n3_; clear n0_ n1_ n2_ n3_; clear hb hbox hg; have hcz10_0 : w9.cell? ⟨gb270, 0, none⟩ = some (.int .i64 0) := (blk_cell BK270.out 0).trans rfl; have hcz10_1 : w9.cell? ⟨gb270, 1, none⟩ = some (.slice none 0 0) := (blk_cell BK270.out 1).trans rfl; have hcz10_2 : w9.cell? ⟨gb270, 2, none⟩ = some (.slice none 0 0) := (blk_cell BK270.out 2).trans rfl; have hfz10_0 := blk_frozen BK270.out 0; have hfz10_1 := blk_frozen BK270.out 1; have hfz10_2 := blk_frozen BK270.out 2) | ((with_reducible refine gate_callee (f := 45) rfl ?_); refine goesL_ (some 28) rfl rfl Try.func45 (by kernel_rfl) rfl #[.agg #[.int .i64 ((rd_T76 l0 x3_1).f0), .slice A269_1 ((rd_T76 l0 x3_1).f1).length c269_1, .slice A269_2 ((rd_T76 l0 x3_1).f2).length c269_2]] rfl (by (try simp only [List.map_toArray, List.map_cons, List.map_nil]); first | done | rfl | (simp only [List.length_drop, List.length_take]; rfl)) ?_; (with_reducible refine (lecternlaw24_heavy.calls ((rd_T76 l0 x3_1).f0) _ _ ((rd_T76 l0 x3_1).f1) _ _ ((rd_T76 l0 x3_1).f2) true _ ?side1 ?side2 ?side3 ?side4 A7.out).mono ?_); (case side1 => exact Kd.C_below HR269_1.out (by repeat (first | (with_reducible first | exact HB.out | apply below_alloc | apply pw_below_drewN | apply below_drew1 | refine below_set ?_ GE270.out) | exact HB.out))); (case side2 => exact HC269_1.out); (case side3 => exact Kd.C_below HR269_2.out (by repeat (first | (with_reducible first | exact HB.out | apply below_alloc | apply pw_below_drewN | apply below_drew1 | refine below_set ?_ GE270.out) | exact HB.out))); (case side4 => exact HC269_2.out); rintro e w11 ⟨rfl, hb⟩; refine ⟨_, rfl, ?_⟩; have n0_ := Aside0.mk (blk_below (g := gb270) (o := .cells #[.int .i64 ((rd_T76 l0 x3_1).f0), .slice A269_1 ((rd_T76 l0 x3_1).f1).length c269_1, .slice A269_2 ((rd_T76 l0 x3_1).f2).length c269_2] 76 (0, 0)) (by (with_reducible repeat (first | refine blk_drewN ?_ _ | refine blk_drew ?_ | refine blk_alloc ?_ _)); refine blk_put (cs := #[.int .i64 ((rd_T76 l0 x3_1).f0), .slice A269_1 ((rd_T76 l0 x3_1).f1).length c269_1, .slice none 0 0]) ?_ 2 _ rfl; (with_reducible repeat (first | refine blk_drewN ?_ _ | refine blk_drew ?_ | refine blk_alloc ?_ _)); refine blk_put (cs := #[.int .i64 ((rd_T76 l0 x3_1).f0), .slice none 0 0, .slice none 0 0]) ?_ 1 _ rfl; (with_reducible repeat (first | refine blk_drewN ?_ _ | refine blk_drew ?_ | refine blk_alloc ?_ _)); refine blk_put (cs := #[.int .i64 0, .slice none 0 0, .slice none 0 0]) ?_ 0 _ rfl; (with_reducible repeat (first | refine blk_drewN ?_ _ | refine blk_drew ?_ | refine blk_alloc ?_ _)); exact BK270.out) hb); have n1_ := Aside0.mk (below_step (by repeat (first | (with_reducible first | exact HB.out | apply below_alloc | apply pw_below_drewN | apply below_drew1 | refine below_set ?_ GE270.out) | exact HB.out)) hb); clear BK270; clear HB; have BK270 := n0_; have HB := n1_; clear n0_ n1_; (try clear hb); (try clear hb2); (try clear hk); (try clear hi)))
                  go_ret
                  exact ⟨by first | rfl | (simp [errW_none, errW_some] <;> rfl) | (simp [*, errW_none, errW_some] <;> rfl), by repeat (first | (with_reducible first | exact HB.out | apply below_alloc | apply pw_below_drewN | apply below_drew1 | refine below_set ?_ GE270.out) | exact HB.out)⟩
                · replace c8 := Bool.eq_false_iff.mpr c8
                  subst c8
                  have H1 : ((quorum_Index.f ((rd_T76 l0 x3_1).f2)).bind fun bt272 => ((lecternlaw24_num.f bt272.2).bind fun t274 => (if t274 = 0 then (lecternlaw24_QuorumMatch.l1 kj1 l0 x3_1 bt272.1 0 0 ([] : List Int) 0 ((rd_T76 l0 x3_1).f0) ((rd_T76 l0 x3_1).f1) ((rd_T76 l0 x3_1).f2)) else (lecternlaw24_QuorumMatch.l0 kj1 l0 (wrap64 (x3_1 + 1)))))) = some r := by rw [if_neg (show ¬ (false = true) by decide)] at H; exact H
                  clear H
                  have H := H1
                  clear H1
                  replace H := Option.bind_eq_some_iff.mp H
                  obtain ⟨⟨t272, t273⟩, A120, H⟩ := H
                  replace H : ((lecternlaw24_num.f t273).bind fun t274 => (if t274 = 0 then (lecternlaw24_QuorumMatch.l1 kj1 l0 x3_1 t272 0 0 ([] : List Int) 0 ((rd_T76 l0 x3_1).f0) ((rd_T76 l0 x3_1).f1) ((rd_T76 l0 x3_1).f2)) else (lecternlaw24_QuorumMatch.l0 kj1 l0 (wrap64 (x3_1 + 1))))) = some r := H
                  have A12 := Aside0.mk A120
                  clear A120
                  replace H := Option.bind_eq_some_iff.mp H
                  obtain ⟨t274, A130, H⟩ := H
                  replace H : (if t274 = 0 then (lecternlaw24_QuorumMatch.l1 kj1 l0 x3_1 t272 0 0 ([] : List Int) 0 ((rd_T76 l0 x3_1).f0) ((rd_T76 l0 x3_1).f1) ((rd_T76 l0 x3_1).f2)) else (lecternlaw24_QuorumMatch.l0 kj1 l0 (wrap64 (x3_1 + 1)))) = some r := H
                  have A13 := Aside0.mk A130
                  clear A130
                  by_cases c14 : t274 = 0
                  · rw [if_pos c14] at H
                    have c14b0 : (t274 == 0) = true := beq_iff_eq.mpr c14
                    have c14b1 : (t274 != 0) = false := bne_eq_false_iff_eq.mpr c14
                    clear c14
                    have H' := Aside0.mk H
                    clear H
                    have p269 : 0 ≤ (x3_1 : Int) := of_decide_eq_true (by first | (with_reducible assumption) | assumption)
                    have q269 : x3_1 < (l0.length : Int) := of_decide_eq_true (by first | (with_reducible assumption) | assumption)
                    obtain ⟨ad269, A269_1, c269_1, A269_2, c269_2, e269, hx269_0, hx269_1, hx269_2, hl269_1, hi269_1, hl269_2, hi269_2⟩ := at_T76 HR0.out x3_1 p269 q269
                    cases e269
                    replace hx269_0 := (HB.out.cell (World.block_lt_of_cell? w _ hx269_0)).trans hx269_0
                    replace hx269_1 := (HB.out.cell (World.block_lt_of_cell? w _ hx269_1)).trans hx269_1
                    replace hx269_2 := (HB.out.cell (World.block_lt_of_cell? w _ hx269_2)).trans hx269_2
                    have HR269_1 := Aside0.mk hi269_1
                    have HC269_1 := Aside0.mk hl269_1
                    clear hi269_1 hl269_1
                    have HR269_2 := Aside0.mk hi269_2
                    have HC269_2 := Aside0.mk hl269_2
                    clear hi269_2 hl269_2
                    replace p269 := eq_true p269
                    replace q269 := eq_true q269
                    go_wp2_with (first | ((with_reducible refine gate_dst (N := 4) rfl ?_); (try (refine gate_guard (by rfl) ?_; dsimp only)); refine box_event ?hg (N := 4) ?hd (cs := #[.int .i64 0, .slice none 0 0, .slice none 0 0]) (t := 76) ?hr ?_; (case hd => rfl); (case hg => rfl); (case hr => first | (go_simp; done) | (go_simp; rfl)); intro gb270 hg w15 hbox hb; have n0_ := Aside0.mk (below_step (by repeat (first | (with_reducible first | exact HB.out | apply below_alloc | apply pw_below_drewN | apply below_drew1) | exact HB.out)) hb); have n1_ := Aside0.mk (hbox); have n2_ := Aside0.mk ((by rw [hg]; exact (below_size (by repeat (first | (with_reducible first | exact HB.out | apply below_alloc | apply pw_below_drewN | apply below_drew1) | exact HB.out))) : w.heap.size ≤ gb270)); have n3_ := Aside0.mk ((by rw [hg]; exact (below_size (by repeat (first | (with_reducible first | exact HB.out | apply below_alloc | apply pw_below_drewN | apply below_drew1) | exact HB.out))) : w.heap.size ≤ gb270)); clear HB; have HB := n0_; have BK270 := n1_; have GW270 := n2_; have GE270 := n3_; clear n0_ n1_ n2_ n3_; clear hb hbox hg; have hcz16_0 : w15.cell? ⟨gb270, 0, none⟩ = some (.int .i64 0) := (blk_cell BK270.out 0).trans rfl; have hcz16_1 : w15.cell? ⟨gb270, 1, none⟩ = some (.slice none 0 0) := (blk_cell BK270.out 1).trans rfl; have hcz16_2 : w15.cell? ⟨gb270, 2, none⟩ = some (.slice none 0 0) := (blk_cell BK270.out 2).trans rfl; have hfz16_0 := blk_frozen BK270.out 0; have hfz16_1 := blk_frozen BK270.out 1; have hfz16_2 := blk_frozen BK270.out 2) | ((with_reducible refine gate_callee (f := 45) rfl ?_); refine goesL_ (some 28) rfl rfl Try.func45 (by kernel_rfl) rfl #[.agg #[.int .i64 ((rd_T76 l0 x3_1).f0), .slice A269_1 ((rd_T76 l0 x3_1).f1).length c269_1, .slice A269_2 ((rd_T76 l0 x3_1).f2).length c269_2]] rfl (by (try simp only [List.map_toArray, List.map_cons, List.map_nil]); first | done | rfl | (simp only [List.length_drop, List.length_take]; rfl)) ?_; (with_reducible refine (lecternlaw24_heavy.calls ((rd_T76 l0 x3_1).f0) _ _ ((rd_T76 l0 x3_1).f1) _ _ ((rd_T76 l0 x3_1).f2) false _ ?side1 ?side2 ?side3 ?side4 A7.out).mono ?_); (case side1 => exact Kd.C_below HR269_1.out (by repeat (first | (with_reducible first | exact HB.out | apply below_alloc | apply pw_below_drewN | apply below_drew1 | refine below_set ?_ GE270.out) | exact HB.out))); (case side2 => exact HC269_1.out); (case side3 => exact Kd.C_below HR269_2.out (by repeat (first | (with_reducible first | exact HB.out | apply below_alloc | apply pw_below_drewN | apply below_drew1 | refine below_set ?_ GE270.out) | exact HB.out))); (case side4 => exact HC269_2.out); rintro e w17 ⟨rfl, hb⟩; refine ⟨_, rfl, ?_⟩; have n0_ := Aside0.mk (blk_below (g := gb270) (o := .cells #[.int .i64 ((rd_T76 l0 x3_1).f0), .slice A269_1 ((rd_T76 l0 x3_1).f1).length c269_1, .slice A269_2 ((rd_T76 l0 x3_1).f2).length c269_2] 76 (0, 0)) (by (with_reducible repeat (first | refine blk_drewN ?_ _ | refine blk_drew ?_ | refine blk_alloc ?_ _)); refine blk_put (cs := #[.int .i64 ((rd_T76 l0 x3_1).f0), .slice A269_1 ((rd_T76 l0 x3_1).f1).length c269_1, .slice none 0 0]) ?_ 2 _ rfl; (with_reducible repeat (first | refine blk_drewN ?_ _ | refine blk_drew ?_ | refine blk_alloc ?_ _)); refine blk_put (cs := #[.int .i64 ((rd_T76 l0 x3_1).f0), .slice none 0 0, .slice none 0 0]) ?_ 1 _ rfl; (with_reducible repeat (first | refine blk_drewN ?_ _ | refine blk_drew ?_ | refine blk_alloc ?_ _)); refine blk_put (cs := #[.int .i64 0, .slice none 0 0, .slice none 0 0]) ?_ 0 _ rfl; (with_reducible repeat (first | refine blk_drewN ?_ _ | refine blk_drew ?_ | refine blk_alloc ?_ _)); exact BK270.out) hb); have n1_ := Aside0.mk (below_step (by repeat (first | (with_reducible first | exact HB.out | apply below_alloc | apply pw_below_drewN | apply below_drew1 | refine below_set ?_ GE270.out) | exact HB.out)) hb); clear BK270; clear HB; have BK270 := n0_; have HB := n1_; clear n0_ n1_; (try clear hb); (try clear hb2); (try clear hk); (try clear hi); have hcz18_0 : w17.cell? ⟨gb270, 0, none⟩ = some (.int .i64 ((rd_T76 l0 x3_1).f0)) := (blk_cell BK270.out 0).trans rfl; have hcz18_1 : w17.cell? ⟨gb270, 1, none⟩ = some (.slice A269_1 ((rd_T76 l0 x3_1).f1).length c269_1) := (blk_cell BK270.out 1).trans rfl; have hcz18_2 : w17.cell? ⟨gb270, 2, none⟩ = some (.slice A269_2 ((rd_T76 l0 x3_1).f2).length c269_2) := (blk_cell BK270.out 2).trans rfl; have hfz18_0 := blk_frozen BK270.out 0; have hfz18_1 := blk_frozen BK270.out 1; have hfz18_2 := blk_frozen BK270.out 2) | ((with_reducible refine gate_callee (f := 51) rfl ?_); refine goesL_ (some 32) rfl rfl Try.func51 (by kernel_rfl) rfl #[.slice A269_2 ((rd_T76 l0 x3_1).f2).length c269_2] rfl (by (try simp only [List.map_toArray, List.map_cons, List.map_nil]); first | done | rfl | (simp only [List.length_drop, List.length_take]; rfl)) ?_; (with_reducible refine (quorum_Index.calls _ _ ((rd_T76 l0 x3_1).f2) t272 t273 _ ?side1 ?side2 A12.out).mono ?_); (case side1 => repeat (first | exact (Kd.C_below HR269_2.out HB.out) | (with_reducible refine Kd.C_alloc ?_ _) | (with_reducible refine Kd.C_drewN ?_ _) | (with_reducible refine Kd.C_drew ?_))); (case side2 => exact HC269_2.out); rintro e w19 ⟨rfl, hb⟩; refine ⟨_, rfl, ?_⟩; have n0_ := Aside0.mk (blk_below (g := gb270) (o := .cells #[.int .i64 ((rd_T76 l0 x3_1).f0), .slice A269_1 ((rd_T76 l0 x3_1).f1).length c269_1, .slice A269_2 ((rd_T76 l0 x3_1).f2).length c269_2] 76 (0, 0)) (by (with_reducible repeat (first | refine blk_drewN ?_ _ | refine blk_drew ?_ | refine blk_alloc ?_ _)); exact BK270.out) hb); have n1_ := Aside0.mk (below_step (by repeat (first | (with_reducible first | exact HB.out | apply below_alloc | apply pw_below_drewN | apply below_drew1 | refine below_set ?_ GE270.out) | exact HB.out)) hb); clear BK270; clear HB; have BK270 := n0_; have HB := n1_; clear n0_ n1_; (try clear hb); (try clear hb2); (try clear hk); (try clear hi)) | ((with_reducible refine gate_callee (f := 47) rfl ?_); refine goesL_ (some 36) rfl rfl Try.func47 (by kernel_rfl) rfl #[.int .i64 t273] rfl (by (try simp only [List.map_toArray, List.map_cons, List.map_nil]); first | done | rfl | (simp only [List.length_drop, List.length_take]; rfl)) ?_; (with_reducible refine (lecternlaw24_num.calls t273 t274 _ A13.out).mono ?_); rintro e w' ⟨rfl, ⟨nd, rfl⟩⟩; refine ⟨_, rfl, ?_⟩))
                    go_loopg [7, 8, 9, 10] kj1 (fun kq v7 v8 v9 v10 w' => ∃ (x7_3 : Int) (x8_3 : Int) (x9_3 : List Int) (x10_3 : Int), v7 = .int .i64 x7_3 ∧ v8 = .int .i64 x8_3 ∧ v10 = .int .i64 x10_3 ∧ Aside0 (lecternlaw24_QuorumMatch.l1 kq l0 x3_1 t272 x7_3 x8_3 x9_3 x10_3 ((rd_T76 l0 x3_1).f0) ((rd_T76 l0 x3_1).f1) ((rd_T76 l0 x3_1).f2) = some r) ∧ Aside0 (kq ≤ kj1) ∧ Aside0 (Kd.R (Kd.int .i64) 3 w' w.heap.size (fun _ => True) v9 x9_3) ∧ Aside0 (w'.heap[gb270]? = some (.cells #[.int .i64 ((rd_T76 l0 x3_1).f0), (.slice A269_1 ((rd_T76 l0 x3_1).f1).length c269_1), (.slice A269_2 ((rd_T76 l0 x3_1).f2).length c269_2)] 76 (0, 0))) ∧ Aside0 (Below w.heap.size w w'))
                    case atStart => exact ⟨(0), (0), (([] : List Int)), (0), (by first | rfl | (simp; done) | (simp [*]; done)), (by first | rfl | (simp; done) | (simp [*]; done)), (by first | rfl | (simp; done) | (simp [*]; done)), H', ⟨Nat.le_refl _⟩, ⟨by first | exact Kd.R_nil _ _ _ _ _ | exact Kd.N_nil _ _ _ _ _ | exact Kd.V_nil _ _ _ _ _ | exact Kd.Q_nil _ _ _ _ _ | exact Kd.S_nil _ _ _ _ _⟩, ⟨by (with_reducible repeat (first | refine blk_drewN ?_ _ | refine blk_drew ?_ | refine blk_alloc ?_ _)); exact BK270.out⟩, ⟨by repeat (first | (with_reducible first | exact HB.out | apply below_alloc | apply pw_below_drewN | apply below_drew1 | refine below_set ?_ GE270.out) | exact HB.out)⟩⟩
                    case round =>
                      clear H'
                      try clear c1
                      try clear c2
                      try clear p2
                      try clear q2
                      try clear hx2
                      try clear c3
                      try clear c3b0
                      try clear c4
                      try clear c5
                      try clear c5b0
                      try clear c6
                      try clear c6b0
                      try clear p6
                      try clear c8
                      try clear c12
                      try clear c14
                      try clear c14b0
                      try clear c14b1
                      try clear hcz10_0
                      try clear hcz10_1
                      try clear hcz10_2
                      try clear hcz16_0
                      try clear hcz16_1
                      try clear hcz16_2
                      try clear hcz18_0
                      try clear hcz18_1
                      try clear hcz18_2
                      try clear hfz10_0
                      try clear hfz10_1
                      try clear hfz10_2
                      try clear hfz16_0
                      try clear hfz16_1
                      try clear hfz16_2
                      try clear hfz18_0
                      try clear hfz18_1
                      try clear hfz18_2
                      try clear hx269_0
                      try clear hx269_1
                      try clear hx269_2
                      try clear p2
                      try clear p269
                      try clear q269
                      obtain ⟨x7_3, x8_3, x9_3, x10_3, rfl, rfl, rfl, HA, HK3, HO_9, BK270, HB⟩ := hrel
                      cases gk with
                      | zero => exact absurd HA.out (by simp [lecternlaw24_QuorumMatch.l1])
                      | succ k3 =>
                        have H := HA.out
                        clear HA
                        simp only [lecternlaw24_QuorumMatch.l1] at H
                        by_cases c20 : x10_3 < (((rd_T76 l0 x3_1).f2).length : Int)
                        · rw [if_pos c20] at H
                          have c20b0 : decide (x10_3 < (((rd_T76 l0 x3_1).f2).length : Int)) = true := decide_eq_true c20
                          clear c20
                          by_cases c21 : 0 ≤ x10_3
                          · rw [if_pos c21] at H
                            have c21b0 : decide (0 ≤ x10_3) = true := decide_eq_true c21
                            clear c21
                            by_cases c22 : (rd ((rd_T76 l0 x3_1).f2) x10_3) ≥ t272
                            · rw [if_pos c22] at H
                              have c22b0 : decide (t272 ≤ (rd ((rd_T76 l0 x3_1).f2) x10_3)) = true := decide_eq_true c22
                              clear c22
                              by_cases c23 : (rd ((rd_T76 l0 x3_1).f2) x10_3) > t272
                              · rw [if_pos c23] at H
                                have c23b0 : decide (t272 < (rd ((rd_T76 l0 x3_1).f2) x10_3)) = true := decide_eq_true c23
                                clear c23
                                obtain ⟨ji24, hji24⟩ : ∃ j_ : Int, (wrap64 ((wrap64 ((((rd_T76 l0 x3_1).f2).length : Int) - 1)) - x10_3)) = j_ := ⟨_, rfl⟩
                                replace H : (if 0 ≤ (ji24) then (if (ji24) < (((rd_T76 l0 x3_1).f2).length : Int) then (if x9_3.length < 17592186044416 then (lecternlaw24_QuorumMatch.l1 k3 l0 x3_1 t272 (wrap64 (x7_3 + 1)) (wrap64 (x8_3 + 1)) (x9_3 ++ [rd ((rd_T76 l0 x3_1).f2) (ji24)]) (wrap64 (x10_3 + 1)) ((rd_T76 l0 x3_1).f0) ((rd_T76 l0 x3_1).f1) ((rd_T76 l0 x3_1).f2)) else (none)) else (none)) else (none)) = some r := by first | (rw [hji24] at H; exact H) | (simp only [hji24] at H ⊢; exact H)
                                have hji24w : (IntKind.i64.wrap ((wrap64 ((((rd_T76 l0 x3_1).f2).length : Int) - 1)) - x10_3)) = ji24 := (i64_w _).trans hji24
                                by_cases c25 : 0 ≤ (ji24)
                                · rw [if_pos c25] at H
                                  have c25b0 : decide (0 ≤ (ji24)) = true := decide_eq_true c25
                                  clear c25
                                  by_cases c26 : (ji24) < (((rd_T76 l0 x3_1).f2).length : Int)
                                  · rw [if_pos c26] at H
                                    have c26b0 : decide ((ji24) < (((rd_T76 l0 x3_1).f2).length : Int)) = true := decide_eq_true c26
                                    clear c26
                                    by_cases c27 : x9_3.length < 17592186044416
                                    · rw [if_pos c27] at H
                                      have LMc27 := Aside0.mk c27
                                      clear c27
                                      obtain ⟨y278, hy278⟩ : ∃ y_ : List Int, y_ = (x9_3 ++ [rd ((rd_T76 l0 x3_1).f2) (ji24)]) := ⟨_, rfl⟩
                                      replace H : (lecternlaw24_QuorumMatch.l1 k3 l0 x3_1 t272 (wrap64 (x7_3 + 1)) (wrap64 (x8_3 + 1)) y278 (wrap64 (x10_3 + 1)) ((rd_T76 l0 x3_1).f0) ((rd_T76 l0 x3_1).f1) ((rd_T76 l0 x3_1).f2)) = some r := by first | (rw [hy278]; with_reducible exact H) | (have H2_ := (Option.bind_some _ _).symm.trans H; rw [hy278]; with_reducible exact H2_) | (have H2_ := (Option.bind_some _ _).symm.trans H; with_reducible exact H2_) | with_reducible exact H | (rw [hy278]; exact H) | exact H
                                      have Ny278 := Aside0.mk hy278
                                      clear hy278
                                      have H' := Aside0.mk H
                                      clear H
                                      have hcz28_0 : wr.cell? ⟨gb270, 0, none⟩ = some (.int .i64 ((rd_T76 l0 x3_1).f0)) := (blk_cell BK270.out 0).trans rfl
                                      have hcz28_1 : wr.cell? ⟨gb270, 1, none⟩ = some (.slice A269_1 ((rd_T76 l0 x3_1).f1).length c269_1) := (blk_cell BK270.out 1).trans rfl
                                      have hcz28_2 : wr.cell? ⟨gb270, 2, none⟩ = some (.slice A269_2 ((rd_T76 l0 x3_1).f2).length c269_2) := (blk_cell BK270.out 2).trans rfl
                                      have hfz28_0 := blk_frozen BK270.out 0
                                      have hfz28_1 := blk_frozen BK270.out 1
                                      have hfz28_2 := blk_frozen BK270.out 2
                                      have p275 : 0 ≤ (x10_3 : Int) := of_decide_eq_true (by first | (with_reducible assumption) | assumption)
                                      have q275 : x10_3 < (((rd_T76 l0 x3_1).f2).length : Int) := of_decide_eq_true (by first | (with_reducible assumption) | assumption)
                                      obtain ⟨ad275, e275, hx275_0⟩ := Kd.at_int HR269_2.out x10_3 p275 q275
                                      cases e275
                                      replace hx275_0 := (HB.out.cell (World.block_lt_of_cell? w _ hx275_0)).trans hx275_0
                                      replace p275 := eq_true p275
                                      replace q275 := eq_true q275
                                      have p276 : 0 ≤ (x10_3 : Int) := of_decide_eq_true (by first | (with_reducible assumption) | assumption)
                                      have q276 : x10_3 < (((rd_T76 l0 x3_1).f2).length : Int) := of_decide_eq_true (by first | (with_reducible assumption) | assumption)
                                      obtain ⟨ad276, e276, hx276_0⟩ := Kd.at_int HR269_2.out x10_3 p276 q276
                                      obtain rfl : ad275 = ad276 := (by injection e276)
                                      replace hx276_0 := (HB.out.cell (World.block_lt_of_cell? w _ hx276_0)).trans hx276_0
                                      replace p276 := eq_true p276
                                      replace q276 := eq_true q276
                                      have p277 : 0 ≤ ((ji24) : Int) := of_decide_eq_true (by first | (with_reducible assumption) | assumption)
                                      have q277 : (ji24) < (((rd_T76 l0 x3_1).f2).length : Int) := of_decide_eq_true (by first | (with_reducible assumption) | assumption)
                                      obtain ⟨ad277, e277, hx277_0⟩ := Kd.at_int HR269_2.out (ji24) p277 q277
                                      obtain rfl : ad275 = ad277 := (by injection e277)
                                      replace hx277_0 := (HB.out.cell (World.block_lt_of_cell? w _ hx277_0)).trans hx277_0
                                      replace p277 := eq_true p277
                                      replace q277 := eq_true q277
                                      go_wp2_with (first | ((with_reducible refine gate_builtin (b := .append) (xs := #[.tmp 63, .tmp 74]) rfl ?_); (try (refine gate_guard (by rfl) ?_; dsimp only)); at_builtin; refine Kd.R_append (Kd.int .i64) (w0 := w) w.heap.size rfl (.tmp 63) (.tmp 74) 42 3 (.int .i64 0) 8 rfl Try.underlying42 info3 rfl (by decide) (by omega) u9 x9_3 (rd ((rd_T76 l0 x3_1).f2) (ji24)) [.int .i64 (rd ((rd_T76 l0 x3_1).f2) (ji24))] (fun _ => True) (fun _ => False) rfl rfl ?aP (fun _ hk => hk.elim) ?aF ?aO ?aB ?aS ?aL ?_; (case aP => exact rfl); (case aB => exact (by repeat (first | (with_reducible first | exact HB.out | apply below_alloc | apply pw_below_drewN | apply below_drew1 | refine below_set ?_ GE270.out) | exact HB.out))); (case aF => exact (fun _ _ => trivial)); (case aO => exact (by (with_reducible repeat (first | apply Kd.R_alloc | apply Kd.R_drewN | apply Kd.R_drew)); exact HO_9.out)); (case aS => exact (below_size (by repeat (first | (with_reducible first | exact HB.out | apply below_alloc | apply pw_below_drewN | apply below_drew1 | refine below_set ?_ GE270.out) | exact HB.out)))); (case aL => have := LMc27.out; omega); intro v279 w29 ho hb hg hat; rw [← Ny278.out] at ho; have n0_ := Aside0.mk (blk_grown (g := gb270) (o := .cells #[.int .i64 ((rd_T76 l0 x3_1).f0), .slice A269_1 ((rd_T76 l0 x3_1).f1).length c269_1, .slice (some ad275) ((rd_T76 l0 x3_1).f2).length c269_2] 76 (0, 0)) (by (with_reducible repeat (first | refine blk_drewN ?_ _ | refine blk_drew ?_ | refine blk_alloc ?_ _)); exact BK270.out) hg (Kd.R_ne HO_9.out BK270.out (by decide))); have n1_ := Aside0.mk (hb); have n2_ := Aside0.mk (ho); clear BK270; clear HB; clear HO_9; have BK270 := n0_; have HB := n1_; have HO280 := n2_; clear n0_ n1_ n2_; clear ho hb hg hat))
                                      go_roundg k3
                                      case measure => have := HK1.out; have := HJ1.out; have := HK3.out; omega
                                      case rel => exact ⟨(wrap64 (x7_3 + 1)), (wrap64 (x8_3 + 1)), (y278), (wrap64 (x10_3 + 1)), (by first | rfl | (simp; done) | (simp [*]; done)), (by first | rfl | (simp; done) | (simp [*]; done)), (by first | rfl | (simp; done) | (simp [*]; done)), H', ⟨by have := HK1.out; have := HJ1.out; have := HK3.out; omega⟩, ⟨by (with_reducible repeat (first | apply Kd.R_alloc | apply Kd.R_drewN | apply Kd.R_drew)); exact HO280.out⟩, ⟨by (with_reducible repeat (first | refine blk_drewN ?_ _ | refine blk_drew ?_ | refine blk_alloc ?_ _)); exact BK270.out⟩, ⟨by repeat (first | (with_reducible first | exact HB.out | apply below_alloc | apply pw_below_drewN | apply below_drew1 | refine below_set ?_ GE270.out) | exact HB.out)⟩⟩
                                    · rw [if_neg c27] at H
                                      exact absurd H (by simp)
                                  · rw [if_neg c26] at H
                                    exact absurd H (by simp)
                                · rw [if_neg c25] at H
                                  exact absurd H (by simp)
                              · rw [if_neg c23] at H
                                have c23b0 : decide (t272 < (rd ((rd_T76 l0 x3_1).f2) x10_3)) = false := decide_eq_false c23
                                clear c23
                                obtain ⟨ji30, hji30⟩ : ∃ j_ : Int, (wrap64 ((wrap64 ((((rd_T76 l0 x3_1).f2).length : Int) - 1)) - x10_3)) = j_ := ⟨_, rfl⟩
                                replace H : (if 0 ≤ (ji30) then (if (ji30) < (((rd_T76 l0 x3_1).f2).length : Int) then (if x9_3.length < 17592186044416 then (lecternlaw24_QuorumMatch.l1 k3 l0 x3_1 t272 (wrap64 (x7_3 + 1)) x8_3 (x9_3 ++ [rd ((rd_T76 l0 x3_1).f2) (ji30)]) (wrap64 (x10_3 + 1)) ((rd_T76 l0 x3_1).f0) ((rd_T76 l0 x3_1).f1) ((rd_T76 l0 x3_1).f2)) else (none)) else (none)) else (none)) = some r := by first | (rw [hji30] at H; exact H) | (simp only [hji30] at H ⊢; exact H)
                                have hji30w : (IntKind.i64.wrap ((wrap64 ((((rd_T76 l0 x3_1).f2).length : Int) - 1)) - x10_3)) = ji30 := (i64_w _).trans hji30
                                by_cases c31 : 0 ≤ (ji30)
                                · rw [if_pos c31] at H
                                  have c31b0 : decide (0 ≤ (ji30)) = true := decide_eq_true c31
                                  clear c31
                                  by_cases c32 : (ji30) < (((rd_T76 l0 x3_1).f2).length : Int)
                                  · rw [if_pos c32] at H
                                    have c32b0 : decide ((ji30) < (((rd_T76 l0 x3_1).f2).length : Int)) = true := decide_eq_true c32
                                    clear c32
                                    by_cases c33 : x9_3.length < 17592186044416
                                    · rw [if_pos c33] at H
                                      have LMc33 := Aside0.mk c33
                                      clear c33
                                      obtain ⟨y282, hy282⟩ : ∃ y_ : List Int, y_ = (x9_3 ++ [rd ((rd_T76 l0 x3_1).f2) (ji30)]) := ⟨_, rfl⟩
                                      replace H : (lecternlaw24_QuorumMatch.l1 k3 l0 x3_1 t272 (wrap64 (x7_3 + 1)) x8_3 y282 (wrap64 (x10_3 + 1)) ((rd_T76 l0 x3_1).f0) ((rd_T76 l0 x3_1).f1) ((rd_T76 l0 x3_1).f2)) = some r := by first | (rw [hy282]; with_reducible exact H) | (have H2_ := (Option.bind_some _ _).symm.trans H; rw [hy282]; with_reducible exact H2_) | (have H2_ := (Option.bind_some _ _).symm.trans H; with_reducible exact H2_) | with_reducible exact H | (rw [hy282]; exact H) | exact H
                                      have Ny282 := Aside0.mk hy282
                                      clear hy282
                                      have H' := Aside0.mk H
                                      clear H
                                      have hcz34_0 : wr.cell? ⟨gb270, 0, none⟩ = some (.int .i64 ((rd_T76 l0 x3_1).f0)) := (blk_cell BK270.out 0).trans rfl
                                      have hcz34_1 : wr.cell? ⟨gb270, 1, none⟩ = some (.slice A269_1 ((rd_T76 l0 x3_1).f1).length c269_1) := (blk_cell BK270.out 1).trans rfl
                                      have hcz34_2 : wr.cell? ⟨gb270, 2, none⟩ = some (.slice A269_2 ((rd_T76 l0 x3_1).f2).length c269_2) := (blk_cell BK270.out 2).trans rfl
                                      have hfz34_0 := blk_frozen BK270.out 0
                                      have hfz34_1 := blk_frozen BK270.out 1
                                      have hfz34_2 := blk_frozen BK270.out 2
                                      have p275 : 0 ≤ (x10_3 : Int) := of_decide_eq_true (by first | (with_reducible assumption) | assumption)
                                      have q275 : x10_3 < (((rd_T76 l0 x3_1).f2).length : Int) := of_decide_eq_true (by first | (with_reducible assumption) | assumption)
                                      obtain ⟨ad275, e275, hx275_0⟩ := Kd.at_int HR269_2.out x10_3 p275 q275
                                      cases e275
                                      replace hx275_0 := (HB.out.cell (World.block_lt_of_cell? w _ hx275_0)).trans hx275_0
                                      replace p275 := eq_true p275
                                      replace q275 := eq_true q275
                                      have p276 : 0 ≤ (x10_3 : Int) := of_decide_eq_true (by first | (with_reducible assumption) | assumption)
                                      have q276 : x10_3 < (((rd_T76 l0 x3_1).f2).length : Int) := of_decide_eq_true (by first | (with_reducible assumption) | assumption)
                                      obtain ⟨ad276, e276, hx276_0⟩ := Kd.at_int HR269_2.out x10_3 p276 q276
                                      obtain rfl : ad275 = ad276 := (by injection e276)
                                      replace hx276_0 := (HB.out.cell (World.block_lt_of_cell? w _ hx276_0)).trans hx276_0
                                      replace p276 := eq_true p276
                                      replace q276 := eq_true q276
                                      have p281 : 0 ≤ ((ji30) : Int) := of_decide_eq_true (by first | (with_reducible assumption) | assumption)
                                      have q281 : (ji30) < (((rd_T76 l0 x3_1).f2).length : Int) := of_decide_eq_true (by first | (with_reducible assumption) | assumption)
                                      obtain ⟨ad281, e281, hx281_0⟩ := Kd.at_int HR269_2.out (ji30) p281 q281
                                      obtain rfl : ad275 = ad281 := (by injection e281)
                                      replace hx281_0 := (HB.out.cell (World.block_lt_of_cell? w _ hx281_0)).trans hx281_0
                                      replace p281 := eq_true p281
                                      replace q281 := eq_true q281
                                      go_wp2_with (first | ((with_reducible refine gate_builtin (b := .append) (xs := #[.tmp 63, .tmp 74]) rfl ?_); (try (refine gate_guard (by rfl) ?_; dsimp only)); at_builtin; refine Kd.R_append (Kd.int .i64) (w0 := w) w.heap.size rfl (.tmp 63) (.tmp 74) 42 3 (.int .i64 0) 8 rfl Try.underlying42 info3 rfl (by decide) (by omega) u9 x9_3 (rd ((rd_T76 l0 x3_1).f2) (ji30)) [.int .i64 (rd ((rd_T76 l0 x3_1).f2) (ji30))] (fun _ => True) (fun _ => False) rfl rfl ?aP (fun _ hk => hk.elim) ?aF ?aO ?aB ?aS ?aL ?_; (case aP => exact rfl); (case aB => exact (by repeat (first | (with_reducible first | exact HB.out | apply below_alloc | apply pw_below_drewN | apply below_drew1 | refine below_set ?_ GE270.out) | exact HB.out))); (case aF => exact (fun _ _ => trivial)); (case aO => exact (by (with_reducible repeat (first | apply Kd.R_alloc | apply Kd.R_drewN | apply Kd.R_drew)); exact HO_9.out)); (case aS => exact (below_size (by repeat (first | (with_reducible first | exact HB.out | apply below_alloc | apply pw_below_drewN | apply below_drew1 | refine below_set ?_ GE270.out) | exact HB.out)))); (case aL => have := LMc33.out; omega); intro v283 w35 ho hb hg hat; rw [← Ny282.out] at ho; have n0_ := Aside0.mk (blk_grown (g := gb270) (o := .cells #[.int .i64 ((rd_T76 l0 x3_1).f0), .slice A269_1 ((rd_T76 l0 x3_1).f1).length c269_1, .slice (some ad275) ((rd_T76 l0 x3_1).f2).length c269_2] 76 (0, 0)) (by (with_reducible repeat (first | refine blk_drewN ?_ _ | refine blk_drew ?_ | refine blk_alloc ?_ _)); exact BK270.out) hg (Kd.R_ne HO_9.out BK270.out (by decide))); have n1_ := Aside0.mk (hb); have n2_ := Aside0.mk (ho); clear BK270; clear HB; clear HO_9; have BK270 := n0_; have HB := n1_; have HO284 := n2_; clear n0_ n1_ n2_; clear ho hb hg hat))
                                      go_roundg k3
                                      case measure => have := HK1.out; have := HJ1.out; have := HK3.out; omega
                                      case rel => exact ⟨(wrap64 (x7_3 + 1)), (x8_3), (y282), (wrap64 (x10_3 + 1)), (by first | rfl | (simp; done) | (simp [*]; done)), (by first | rfl | (simp; done) | (simp [*]; done)), (by first | rfl | (simp; done) | (simp [*]; done)), H', ⟨by have := HK1.out; have := HJ1.out; have := HK3.out; omega⟩, ⟨by (with_reducible repeat (first | apply Kd.R_alloc | apply Kd.R_drewN | apply Kd.R_drew)); exact HO284.out⟩, ⟨by (with_reducible repeat (first | refine blk_drewN ?_ _ | refine blk_drew ?_ | refine blk_alloc ?_ _)); exact BK270.out⟩, ⟨by repeat (first | (with_reducible first | exact HB.out | apply below_alloc | apply pw_below_drewN | apply below_drew1 | refine below_set ?_ GE270.out) | exact HB.out)⟩⟩
                                    · rw [if_neg c33] at H
                                      exact absurd H (by simp)
                                  · rw [if_neg c32] at H
                                    exact absurd H (by simp)
                                · rw [if_neg c31] at H
                                  exact absurd H (by simp)
                            · rw [if_neg c22] at H
                              have c22b0 : decide (t272 ≤ (rd ((rd_T76 l0 x3_1).f2) x10_3)) = false := decide_eq_false c22
                              clear c22
                              by_cases c36 : (rd ((rd_T76 l0 x3_1).f2) x10_3) > t272
                              · rw [if_pos c36] at H
                                have c36b0 : decide (t272 < (rd ((rd_T76 l0 x3_1).f2) x10_3)) = true := decide_eq_true c36
                                clear c36
                                obtain ⟨ji37, hji37⟩ : ∃ j_ : Int, (wrap64 ((wrap64 ((((rd_T76 l0 x3_1).f2).length : Int) - 1)) - x10_3)) = j_ := ⟨_, rfl⟩
                                replace H : (if 0 ≤ (ji37) then (if (ji37) < (((rd_T76 l0 x3_1).f2).length : Int) then (if x9_3.length < 17592186044416 then (lecternlaw24_QuorumMatch.l1 k3 l0 x3_1 t272 x7_3 (wrap64 (x8_3 + 1)) (x9_3 ++ [rd ((rd_T76 l0 x3_1).f2) (ji37)]) (wrap64 (x10_3 + 1)) ((rd_T76 l0 x3_1).f0) ((rd_T76 l0 x3_1).f1) ((rd_T76 l0 x3_1).f2)) else (none)) else (none)) else (none)) = some r := by first | (rw [hji37] at H; exact H) | (simp only [hji37] at H ⊢; exact H)
                                have hji37w : (IntKind.i64.wrap ((wrap64 ((((rd_T76 l0 x3_1).f2).length : Int) - 1)) - x10_3)) = ji37 := (i64_w _).trans hji37
                                by_cases c38 : 0 ≤ (ji37)
                                · rw [if_pos c38] at H
                                  have c38b0 : decide (0 ≤ (ji37)) = true := decide_eq_true c38
                                  clear c38
                                  by_cases c39 : (ji37) < (((rd_T76 l0 x3_1).f2).length : Int)
                                  · rw [if_pos c39] at H
                                    have c39b0 : decide ((ji37) < (((rd_T76 l0 x3_1).f2).length : Int)) = true := decide_eq_true c39
                                    clear c39
                                    by_cases c40 : x9_3.length < 17592186044416
                                    · rw [if_pos c40] at H
                                      have LMc40 := Aside0.mk c40
                                      clear c40
                                      obtain ⟨y287, hy287⟩ : ∃ y_ : List Int, y_ = (x9_3 ++ [rd ((rd_T76 l0 x3_1).f2) (ji37)]) := ⟨_, rfl⟩
                                      replace H : (lecternlaw24_QuorumMatch.l1 k3 l0 x3_1 t272 x7_3 (wrap64 (x8_3 + 1)) y287 (wrap64 (x10_3 + 1)) ((rd_T76 l0 x3_1).f0) ((rd_T76 l0 x3_1).f1) ((rd_T76 l0 x3_1).f2)) = some r := by first | (rw [hy287]; with_reducible exact H) | (have H2_ := (Option.bind_some _ _).symm.trans H; rw [hy287]; with_reducible exact H2_) | (have H2_ := (Option.bind_some _ _).symm.trans H; with_reducible exact H2_) | with_reducible exact H | (rw [hy287]; exact H) | exact H
                                      have Ny287 := Aside0.mk hy287
                                      clear hy287
                                      have H' := Aside0.mk H
                                      clear H
                                      have hcz41_0 : wr.cell? ⟨gb270, 0, none⟩ = some (.int .i64 ((rd_T76 l0 x3_1).f0)) := (blk_cell BK270.out 0).trans rfl
                                      have hcz41_1 : wr.cell? ⟨gb270, 1, none⟩ = some (.slice A269_1 ((rd_T76 l0 x3_1).f1).length c269_1) := (blk_cell BK270.out 1).trans rfl
                                      have hcz41_2 : wr.cell? ⟨gb270, 2, none⟩ = some (.slice A269_2 ((rd_T76 l0 x3_1).f2).length c269_2) := (blk_cell BK270.out 2).trans rfl
                                      have hfz41_0 := blk_frozen BK270.out 0
                                      have hfz41_1 := blk_frozen BK270.out 1
                                      have hfz41_2 := blk_frozen BK270.out 2
                                      have p275 : 0 ≤ (x10_3 : Int) := of_decide_eq_true (by first | (with_reducible assumption) | assumption)
                                      have q275 : x10_3 < (((rd_T76 l0 x3_1).f2).length : Int) := of_decide_eq_true (by first | (with_reducible assumption) | assumption)
                                      obtain ⟨ad275, e275, hx275_0⟩ := Kd.at_int HR269_2.out x10_3 p275 q275
                                      cases e275
                                      replace hx275_0 := (HB.out.cell (World.block_lt_of_cell? w _ hx275_0)).trans hx275_0
                                      replace p275 := eq_true p275
                                      replace q275 := eq_true q275
                                      have p285 : 0 ≤ (x10_3 : Int) := of_decide_eq_true (by first | (with_reducible assumption) | assumption)
                                      have q285 : x10_3 < (((rd_T76 l0 x3_1).f2).length : Int) := of_decide_eq_true (by first | (with_reducible assumption) | assumption)
                                      obtain ⟨ad285, e285, hx285_0⟩ := Kd.at_int HR269_2.out x10_3 p285 q285
                                      obtain rfl : ad275 = ad285 := (by injection e285)
                                      replace hx285_0 := (HB.out.cell (World.block_lt_of_cell? w _ hx285_0)).trans hx285_0
                                      replace p285 := eq_true p285
                                      replace q285 := eq_true q285
                                      have p286 : 0 ≤ ((ji37) : Int) := of_decide_eq_true (by first | (with_reducible assumption) | assumption)
                                      have q286 : (ji37) < (((rd_T76 l0 x3_1).f2).length : Int) := of_decide_eq_true (by first | (with_reducible assumption) | assumption)
                                      obtain ⟨ad286, e286, hx286_0⟩ := Kd.at_int HR269_2.out (ji37) p286 q286
                                      obtain rfl : ad275 = ad286 := (by injection e286)
                                      replace hx286_0 := (HB.out.cell (World.block_lt_of_cell? w _ hx286_0)).trans hx286_0
                                      replace p286 := eq_true p286
                                      replace q286 := eq_true q286
                                      go_wp2_with (first | ((with_reducible refine gate_builtin (b := .append) (xs := #[.tmp 63, .tmp 74]) rfl ?_); (try (refine gate_guard (by rfl) ?_; dsimp only)); at_builtin; refine Kd.R_append (Kd.int .i64) (w0 := w) w.heap.size rfl (.tmp 63) (.tmp 74) 42 3 (.int .i64 0) 8 rfl Try.underlying42 info3 rfl (by decide) (by omega) u9 x9_3 (rd ((rd_T76 l0 x3_1).f2) (ji37)) [.int .i64 (rd ((rd_T76 l0 x3_1).f2) (ji37))] (fun _ => True) (fun _ => False) rfl rfl ?aP (fun _ hk => hk.elim) ?aF ?aO ?aB ?aS ?aL ?_; (case aP => exact rfl); (case aB => exact (by repeat (first | (with_reducible first | exact HB.out | apply below_alloc | apply pw_below_drewN | apply below_drew1 | refine below_set ?_ GE270.out) | exact HB.out))); (case aF => exact (fun _ _ => trivial)); (case aO => exact (by (with_reducible repeat (first | apply Kd.R_alloc | apply Kd.R_drewN | apply Kd.R_drew)); exact HO_9.out)); (case aS => exact (below_size (by repeat (first | (with_reducible first | exact HB.out | apply below_alloc | apply pw_below_drewN | apply below_drew1 | refine below_set ?_ GE270.out) | exact HB.out)))); (case aL => have := LMc40.out; omega); intro v288 w42 ho hb hg hat; rw [← Ny287.out] at ho; have n0_ := Aside0.mk (blk_grown (g := gb270) (o := .cells #[.int .i64 ((rd_T76 l0 x3_1).f0), .slice A269_1 ((rd_T76 l0 x3_1).f1).length c269_1, .slice (some ad275) ((rd_T76 l0 x3_1).f2).length c269_2] 76 (0, 0)) (by (with_reducible repeat (first | refine blk_drewN ?_ _ | refine blk_drew ?_ | refine blk_alloc ?_ _)); exact BK270.out) hg (Kd.R_ne HO_9.out BK270.out (by decide))); have n1_ := Aside0.mk (hb); have n2_ := Aside0.mk (ho); clear BK270; clear HB; clear HO_9; have BK270 := n0_; have HB := n1_; have HO289 := n2_; clear n0_ n1_ n2_; clear ho hb hg hat))
                                      go_roundg k3
                                      case measure => have := HK1.out; have := HJ1.out; have := HK3.out; omega
                                      case rel => exact ⟨(x7_3), (wrap64 (x8_3 + 1)), (y287), (wrap64 (x10_3 + 1)), (by first | rfl | (simp; done) | (simp [*]; done)), (by first | rfl | (simp; done) | (simp [*]; done)), (by first | rfl | (simp; done) | (simp [*]; done)), H', ⟨by have := HK1.out; have := HJ1.out; have := HK3.out; omega⟩, ⟨by (with_reducible repeat (first | apply Kd.R_alloc | apply Kd.R_drewN | apply Kd.R_drew)); exact HO289.out⟩, ⟨by (with_reducible repeat (first | refine blk_drewN ?_ _ | refine blk_drew ?_ | refine blk_alloc ?_ _)); exact BK270.out⟩, ⟨by repeat (first | (with_reducible first | exact HB.out | apply below_alloc | apply pw_below_drewN | apply below_drew1 | refine below_set ?_ GE270.out) | exact HB.out)⟩⟩
                                    · rw [if_neg c40] at H
                                      exact absurd H (by simp)
                                  · rw [if_neg c39] at H
                                    exact absurd H (by simp)
                                · rw [if_neg c38] at H
                                  exact absurd H (by simp)
                              · rw [if_neg c36] at H
                                have c36b0 : decide (t272 < (rd ((rd_T76 l0 x3_1).f2) x10_3)) = false := decide_eq_false c36
                                clear c36
                                obtain ⟨ji43, hji43⟩ : ∃ j_ : Int, (wrap64 ((wrap64 ((((rd_T76 l0 x3_1).f2).length : Int) - 1)) - x10_3)) = j_ := ⟨_, rfl⟩
                                replace H : (if 0 ≤ (ji43) then (if (ji43) < (((rd_T76 l0 x3_1).f2).length : Int) then (if x9_3.length < 17592186044416 then (lecternlaw24_QuorumMatch.l1 k3 l0 x3_1 t272 x7_3 x8_3 (x9_3 ++ [rd ((rd_T76 l0 x3_1).f2) (ji43)]) (wrap64 (x10_3 + 1)) ((rd_T76 l0 x3_1).f0) ((rd_T76 l0 x3_1).f1) ((rd_T76 l0 x3_1).f2)) else (none)) else (none)) else (none)) = some r := by first | (rw [hji43] at H; exact H) | (simp only [hji43] at H ⊢; exact H)
                                have hji43w : (IntKind.i64.wrap ((wrap64 ((((rd_T76 l0 x3_1).f2).length : Int) - 1)) - x10_3)) = ji43 := (i64_w _).trans hji43
                                by_cases c44 : 0 ≤ (ji43)
                                · rw [if_pos c44] at H
                                  have c44b0 : decide (0 ≤ (ji43)) = true := decide_eq_true c44
                                  clear c44
                                  by_cases c45 : (ji43) < (((rd_T76 l0 x3_1).f2).length : Int)
                                  · rw [if_pos c45] at H
                                    have c45b0 : decide ((ji43) < (((rd_T76 l0 x3_1).f2).length : Int)) = true := decide_eq_true c45
                                    clear c45
                                    by_cases c46 : x9_3.length < 17592186044416
                                    · rw [if_pos c46] at H
                                      have LMc46 := Aside0.mk c46
                                      clear c46
                                      obtain ⟨y291, hy291⟩ : ∃ y_ : List Int, y_ = (x9_3 ++ [rd ((rd_T76 l0 x3_1).f2) (ji43)]) := ⟨_, rfl⟩
                                      replace H : (lecternlaw24_QuorumMatch.l1 k3 l0 x3_1 t272 x7_3 x8_3 y291 (wrap64 (x10_3 + 1)) ((rd_T76 l0 x3_1).f0) ((rd_T76 l0 x3_1).f1) ((rd_T76 l0 x3_1).f2)) = some r := by first | (rw [hy291]; with_reducible exact H) | (have H2_ := (Option.bind_some _ _).symm.trans H; rw [hy291]; with_reducible exact H2_) | (have H2_ := (Option.bind_some _ _).symm.trans H; with_reducible exact H2_) | with_reducible exact H | (rw [hy291]; exact H) | exact H
                                      have Ny291 := Aside0.mk hy291
                                      clear hy291
                                      have H' := Aside0.mk H
                                      clear H
                                      have hcz47_0 : wr.cell? ⟨gb270, 0, none⟩ = some (.int .i64 ((rd_T76 l0 x3_1).f0)) := (blk_cell BK270.out 0).trans rfl
                                      have hcz47_1 : wr.cell? ⟨gb270, 1, none⟩ = some (.slice A269_1 ((rd_T76 l0 x3_1).f1).length c269_1) := (blk_cell BK270.out 1).trans rfl
                                      have hcz47_2 : wr.cell? ⟨gb270, 2, none⟩ = some (.slice A269_2 ((rd_T76 l0 x3_1).f2).length c269_2) := (blk_cell BK270.out 2).trans rfl
                                      have hfz47_0 := blk_frozen BK270.out 0
                                      have hfz47_1 := blk_frozen BK270.out 1
                                      have hfz47_2 := blk_frozen BK270.out 2
                                      have p275 : 0 ≤ (x10_3 : Int) := of_decide_eq_true (by first | (with_reducible assumption) | assumption)
                                      have q275 : x10_3 < (((rd_T76 l0 x3_1).f2).length : Int) := of_decide_eq_true (by first | (with_reducible assumption) | assumption)
                                      obtain ⟨ad275, e275, hx275_0⟩ := Kd.at_int HR269_2.out x10_3 p275 q275
                                      cases e275
                                      replace hx275_0 := (HB.out.cell (World.block_lt_of_cell? w _ hx275_0)).trans hx275_0
                                      replace p275 := eq_true p275
                                      replace q275 := eq_true q275
                                      have p285 : 0 ≤ (x10_3 : Int) := of_decide_eq_true (by first | (with_reducible assumption) | assumption)
                                      have q285 : x10_3 < (((rd_T76 l0 x3_1).f2).length : Int) := of_decide_eq_true (by first | (with_reducible assumption) | assumption)
                                      obtain ⟨ad285, e285, hx285_0⟩ := Kd.at_int HR269_2.out x10_3 p285 q285
                                      obtain rfl : ad275 = ad285 := (by injection e285)
                                      replace hx285_0 := (HB.out.cell (World.block_lt_of_cell? w _ hx285_0)).trans hx285_0
                                      replace p285 := eq_true p285
                                      replace q285 := eq_true q285
                                      have p290 : 0 ≤ ((ji43) : Int) := of_decide_eq_true (by first | (with_reducible assumption) | assumption)
                                      have q290 : (ji43) < (((rd_T76 l0 x3_1).f2).length : Int) := of_decide_eq_true (by first | (with_reducible assumption) | assumption)
                                      obtain ⟨ad290, e290, hx290_0⟩ := Kd.at_int HR269_2.out (ji43) p290 q290
                                      obtain rfl : ad275 = ad290 := (by injection e290)
                                      replace hx290_0 := (HB.out.cell (World.block_lt_of_cell? w _ hx290_0)).trans hx290_0
                                      replace p290 := eq_true p290
                                      replace q290 := eq_true q290
                                      go_wp2_with (first | ((with_reducible refine gate_builtin (b := .append) (xs := #[.tmp 63, .tmp 74]) rfl ?_); (try (refine gate_guard (by rfl) ?_; dsimp only)); at_builtin; refine Kd.R_append (Kd.int .i64) (w0 := w) w.heap.size rfl (.tmp 63) (.tmp 74) 42 3 (.int .i64 0) 8 rfl Try.underlying42 info3 rfl (by decide) (by omega) u9 x9_3 (rd ((rd_T76 l0 x3_1).f2) (ji43)) [.int .i64 (rd ((rd_T76 l0 x3_1).f2) (ji43))] (fun _ => True) (fun _ => False) rfl rfl ?aP (fun _ hk => hk.elim) ?aF ?aO ?aB ?aS ?aL ?_; (case aP => exact rfl); (case aB => exact (by repeat (first | (with_reducible first | exact HB.out | apply below_alloc | apply pw_below_drewN | apply below_drew1 | refine below_set ?_ GE270.out) | exact HB.out))); (case aF => exact (fun _ _ => trivial)); (case aO => exact (by (with_reducible repeat (first | apply Kd.R_alloc | apply Kd.R_drewN | apply Kd.R_drew)); exact HO_9.out)); (case aS => exact (below_size (by repeat (first | (with_reducible first | exact HB.out | apply below_alloc | apply pw_below_drewN | apply below_drew1 | refine below_set ?_ GE270.out) | exact HB.out)))); (case aL => have := LMc46.out; omega); intro v292 w48 ho hb hg hat; rw [← Ny291.out] at ho; have n0_ := Aside0.mk (blk_grown (g := gb270) (o := .cells #[.int .i64 ((rd_T76 l0 x3_1).f0), .slice A269_1 ((rd_T76 l0 x3_1).f1).length c269_1, .slice (some ad275) ((rd_T76 l0 x3_1).f2).length c269_2] 76 (0, 0)) (by (with_reducible repeat (first | refine blk_drewN ?_ _ | refine blk_drew ?_ | refine blk_alloc ?_ _)); exact BK270.out) hg (Kd.R_ne HO_9.out BK270.out (by decide))); have n1_ := Aside0.mk (hb); have n2_ := Aside0.mk (ho); clear BK270; clear HB; clear HO_9; have BK270 := n0_; have HB := n1_; have HO293 := n2_; clear n0_ n1_ n2_; clear ho hb hg hat))
                                      go_roundg k3
                                      case measure => have := HK1.out; have := HJ1.out; have := HK3.out; omega
                                      case rel => exact ⟨(x7_3), (x8_3), (y291), (wrap64 (x10_3 + 1)), (by first | rfl | (simp; done) | (simp [*]; done)), (by first | rfl | (simp; done) | (simp [*]; done)), (by first | rfl | (simp; done) | (simp [*]; done)), H', ⟨by have := HK1.out; have := HJ1.out; have := HK3.out; omega⟩, ⟨by (with_reducible repeat (first | apply Kd.R_alloc | apply Kd.R_drewN | apply Kd.R_drew)); exact HO293.out⟩, ⟨by (with_reducible repeat (first | refine blk_drewN ?_ _ | refine blk_drew ?_ | refine blk_alloc ?_ _)); exact BK270.out⟩, ⟨by repeat (first | (with_reducible first | exact HB.out | apply below_alloc | apply pw_below_drewN | apply below_drew1 | refine below_set ?_ GE270.out) | exact HB.out)⟩⟩
                                    · rw [if_neg c46] at H
                                      exact absurd H (by simp)
                                  · rw [if_neg c45] at H
                                    exact absurd H (by simp)
                                · rw [if_neg c44] at H
                                  exact absurd H (by simp)
                          · rw [if_neg c21] at H
                            exact absurd H (by simp)
                        · rw [if_neg c20] at H
                          have c20b0 : decide (x10_3 < (((rd_T76 l0 x3_1).f2).length : Int)) = false := decide_eq_false c20
                          clear c20
                          replace H := Option.bind_eq_some_iff.mp H
                          obtain ⟨⟨t294, t295⟩, A490, H⟩ := H
                          replace H : (if (wrap64 (2 * x7_3)) ≤ (((rd_T76 l0 x3_1).f2).length : Int) then (some false) else (if (wrap64 (2 * x8_3)) > (((rd_T76 l0 x3_1).f2).length : Int) then (some false) else ((lecternref0_In.f k3 ((rd_T76 l0 x3_1).f2) t272).bind fun t296 => (if t296 < 0 then (some false) else ((lecternlaw24_num.f t295).bind fun t297 => (if t297 = 0 then (if t294 = t272 then (lecternlaw24_QuorumMatch.l0 k3 l0 (wrap64 (x3_1 + 1))) else (some false)) else (some false))))))) = some r := H
                          have A49 := Aside0.mk A490
                          clear A490
                          by_cases c50 : (wrap64 (2 * x7_3)) ≤ (((rd_T76 l0 x3_1).f2).length : Int)
                          · rw [if_pos c50] at H
                            have c50b0 : decide ((wrap64 (2 * x7_3)) ≤ (((rd_T76 l0 x3_1).f2).length : Int)) = true := decide_eq_true c50
                            clear c50
                            obtain rfl := Option.some.inj H
                            have hcz51_0 : wr.cell? ⟨gb270, 0, none⟩ = some (.int .i64 ((rd_T76 l0 x3_1).f0)) := (blk_cell BK270.out 0).trans rfl
                            have hcz51_1 : wr.cell? ⟨gb270, 1, none⟩ = some (.slice A269_1 ((rd_T76 l0 x3_1).f1).length c269_1) := (blk_cell BK270.out 1).trans rfl
                            have hcz51_2 : wr.cell? ⟨gb270, 2, none⟩ = some (.slice A269_2 ((rd_T76 l0 x3_1).f2).length c269_2) := (blk_cell BK270.out 2).trans rfl
                            have hfz51_0 := blk_frozen BK270.out 0
                            have hfz51_1 := blk_frozen BK270.out 1
                            have hfz51_2 := blk_frozen BK270.out 2
                            obtain ⟨Ao52, co52, eo52⟩ := Kd.R_slice HO_9.out
                            subst eo52
                            go_wp2_with (first | ((with_reducible refine gate_callee (f := 51) rfl ?_); refine goesL_ (some 78) rfl rfl Try.func51 (by kernel_rfl) rfl #[.slice Ao52 x9_3.length co52] rfl (by (try simp only [List.map_toArray, List.map_cons, List.map_nil]); first | done | rfl | (simp only [List.length_drop, List.length_take]; rfl)) ?_; (with_reducible refine (quorum_Index.calls _ _ x9_3 t294 t295 _ ?side1 ?side2 A49.out).mono ?_); (case side1 => repeat (first | exact (Kd.R_reads' HO_9.out).2.2 | (with_reducible refine Kd.C_alloc ?_ _) | (with_reducible refine Kd.C_drewN ?_ _) | (with_reducible refine Kd.C_drew ?_))); (case side2 => exact (Kd.R_reads' HO_9.out).2.1); rintro e w53 ⟨rfl, hb⟩; refine ⟨_, rfl, ?_⟩; have n0_ := Aside0.mk (Kd.R_below (by (with_reducible repeat (first | apply Kd.R_alloc | apply Kd.R_drewN | apply Kd.R_drew)); exact HO_9.out) hb); have n1_ := Aside0.mk (blk_below (g := gb270) (o := .cells #[.int .i64 ((rd_T76 l0 x3_1).f0), .slice A269_1 ((rd_T76 l0 x3_1).f1).length c269_1, .slice A269_2 ((rd_T76 l0 x3_1).f2).length c269_2] 76 (0, 0)) (by (with_reducible repeat (first | refine blk_drewN ?_ _ | refine blk_drew ?_ | refine blk_alloc ?_ _)); exact BK270.out) hb); have n2_ := Aside0.mk (below_step (by repeat (first | (with_reducible first | exact HB.out | apply below_alloc | apply pw_below_drewN | apply below_drew1 | refine below_set ?_ GE270.out) | exact HB.out)) hb); clear HO_9; clear BK270; clear HB; have HO_9 := n0_; have BK270 := n1_; have HB := n2_; clear n0_ n1_ n2_; (try clear hb); (try clear hb2); (try clear hk); (try clear hi); have hcz54_0 : w53.cell? ⟨gb270, 0, none⟩ = some (.int .i64 ((rd_T76 l0 x3_1).f0)) := (blk_cell BK270.out 0).trans rfl; have hcz54_1 : w53.cell? ⟨gb270, 1, none⟩ = some (.slice A269_1 ((rd_T76 l0 x3_1).f1).length c269_1) := (blk_cell BK270.out 1).trans rfl; have hcz54_2 : w53.cell? ⟨gb270, 2, none⟩ = some (.slice A269_2 ((rd_T76 l0 x3_1).f2).length c269_2) := (blk_cell BK270.out 2).trans rfl; have hfz54_0 := blk_frozen BK270.out 0; have hfz54_1 := blk_frozen BK270.out 1; have hfz54_2 := blk_frozen BK270.out 2))
                            go_ret
                            exact ⟨by first | rfl | (simp [errW_none, errW_some] <;> rfl) | (simp [*, errW_none, errW_some] <;> rfl), by repeat (first | (with_reducible first | exact HB.out | apply below_alloc | apply pw_below_drewN | apply below_drew1 | refine below_set ?_ GE270.out) | exact HB.out)⟩
                          · rw [if_neg c50] at H
                            have c50b0 : decide ((wrap64 (2 * x7_3)) ≤ (((rd_T76 l0 x3_1).f2).length : Int)) = false := decide_eq_false c50
                            clear c50
                            by_cases c55 : (wrap64 (2 * x8_3)) > (((rd_T76 l0 x3_1).f2).length : Int)
                            · rw [if_pos c55] at H
                              have c55b0 : decide ((((rd_T76 l0 x3_1).f2).length : Int) < (wrap64 (2 * x8_3))) = true := decide_eq_true c55
                              clear c55
                              obtain rfl := Option.some.inj H
                              have hcz56_0 : wr.cell? ⟨gb270, 0, none⟩ = some (.int .i64 ((rd_T76 l0 x3_1).f0)) := (blk_cell BK270.out 0).trans rfl
                              have hcz56_1 : wr.cell? ⟨gb270, 1, none⟩ = some (.slice A269_1 ((rd_T76 l0 x3_1).f1).length c269_1) := (blk_cell BK270.out 1).trans rfl
                              have hcz56_2 : wr.cell? ⟨gb270, 2, none⟩ = some (.slice A269_2 ((rd_T76 l0 x3_1).f2).length c269_2) := (blk_cell BK270.out 2).trans rfl
                              have hfz56_0 := blk_frozen BK270.out 0
                              have hfz56_1 := blk_frozen BK270.out 1
                              have hfz56_2 := blk_frozen BK270.out 2
                              obtain ⟨Ao57, co57, eo57⟩ := Kd.R_slice HO_9.out
                              subst eo57
                              go_wp2_with (first | ((with_reducible refine gate_callee (f := 51) rfl ?_); refine goesL_ (some 78) rfl rfl Try.func51 (by kernel_rfl) rfl #[.slice Ao57 x9_3.length co57] rfl (by (try simp only [List.map_toArray, List.map_cons, List.map_nil]); first | done | rfl | (simp only [List.length_drop, List.length_take]; rfl)) ?_; (with_reducible refine (quorum_Index.calls _ _ x9_3 t294 t295 _ ?side1 ?side2 A49.out).mono ?_); (case side1 => repeat (first | exact (Kd.R_reads' HO_9.out).2.2 | (with_reducible refine Kd.C_alloc ?_ _) | (with_reducible refine Kd.C_drewN ?_ _) | (with_reducible refine Kd.C_drew ?_))); (case side2 => exact (Kd.R_reads' HO_9.out).2.1); rintro e w58 ⟨rfl, hb⟩; refine ⟨_, rfl, ?_⟩; have n0_ := Aside0.mk (Kd.R_below (by (with_reducible repeat (first | apply Kd.R_alloc | apply Kd.R_drewN | apply Kd.R_drew)); exact HO_9.out) hb); have n1_ := Aside0.mk (blk_below (g := gb270) (o := .cells #[.int .i64 ((rd_T76 l0 x3_1).f0), .slice A269_1 ((rd_T76 l0 x3_1).f1).length c269_1, .slice A269_2 ((rd_T76 l0 x3_1).f2).length c269_2] 76 (0, 0)) (by (with_reducible repeat (first | refine blk_drewN ?_ _ | refine blk_drew ?_ | refine blk_alloc ?_ _)); exact BK270.out) hb); have n2_ := Aside0.mk (below_step (by repeat (first | (with_reducible first | exact HB.out | apply below_alloc | apply pw_below_drewN | apply below_drew1 | refine below_set ?_ GE270.out) | exact HB.out)) hb); clear HO_9; clear BK270; clear HB; have HO_9 := n0_; have BK270 := n1_; have HB := n2_; clear n0_ n1_ n2_; (try clear hb); (try clear hb2); (try clear hk); (try clear hi); have hcz59_0 : w58.cell? ⟨gb270, 0, none⟩ = some (.int .i64 ((rd_T76 l0 x3_1).f0)) := (blk_cell BK270.out 0).trans rfl; have hcz59_1 : w58.cell? ⟨gb270, 1, none⟩ = some (.slice A269_1 ((rd_T76 l0 x3_1).f1).length c269_1) := (blk_cell BK270.out 1).trans rfl; have hcz59_2 : w58.cell? ⟨gb270, 2, none⟩ = some (.slice A269_2 ((rd_T76 l0 x3_1).f2).length c269_2) := (blk_cell BK270.out 2).trans rfl; have hfz59_0 := blk_frozen BK270.out 0; have hfz59_1 := blk_frozen BK270.out 1; have hfz59_2 := blk_frozen BK270.out 2))
                              go_ret
                              exact ⟨by first | rfl | (simp [errW_none, errW_some] <;> rfl) | (simp [*, errW_none, errW_some] <;> rfl), by repeat (first | (with_reducible first | exact HB.out | apply below_alloc | apply pw_below_drewN | apply below_drew1 | refine below_set ?_ GE270.out) | exact HB.out)⟩
                            · rw [if_neg c55] at H
                              have c55b0 : decide ((((rd_T76 l0 x3_1).f2).length : Int) < (wrap64 (2 * x8_3))) = false := decide_eq_false c55
                              clear c55
                              replace H := Option.bind_eq_some_iff.mp H
                              obtain ⟨t296, A600, H⟩ := H
                              replace H : (if t296 < 0 then (some false) else ((lecternlaw24_num.f t295).bind fun t297 => (if t297 = 0 then (if t294 = t272 then (lecternlaw24_QuorumMatch.l0 k3 l0 (wrap64 (x3_1 + 1))) else (some false)) else (some false)))) = some r := H
                              have A60 := Aside0.mk A600
                              clear A600
                              by_cases c61 : t296 < 0
                              · rw [if_pos c61] at H
                                have c61b0 : decide (t296 < 0) = true := decide_eq_true c61
                                clear c61
                                obtain rfl := Option.some.inj H
                                have hcz62_0 : wr.cell? ⟨gb270, 0, none⟩ = some (.int .i64 ((rd_T76 l0 x3_1).f0)) := (blk_cell BK270.out 0).trans rfl
                                have hcz62_1 : wr.cell? ⟨gb270, 1, none⟩ = some (.slice A269_1 ((rd_T76 l0 x3_1).f1).length c269_1) := (blk_cell BK270.out 1).trans rfl
                                have hcz62_2 : wr.cell? ⟨gb270, 2, none⟩ = some (.slice A269_2 ((rd_T76 l0 x3_1).f2).length c269_2) := (blk_cell BK270.out 2).trans rfl
                                have hfz62_0 := blk_frozen BK270.out 0
                                have hfz62_1 := blk_frozen BK270.out 1
                                have hfz62_2 := blk_frozen BK270.out 2
                                obtain ⟨Ao63, co63, eo63⟩ := Kd.R_slice HO_9.out
                                subst eo63
                                go_wp2_with (first | ((with_reducible refine gate_callee (f := 51) rfl ?_); refine goesL_ (some 78) rfl rfl Try.func51 (by kernel_rfl) rfl #[.slice Ao63 x9_3.length co63] rfl (by (try simp only [List.map_toArray, List.map_cons, List.map_nil]); first | done | rfl | (simp only [List.length_drop, List.length_take]; rfl)) ?_; (with_reducible refine (quorum_Index.calls _ _ x9_3 t294 t295 _ ?side1 ?side2 A49.out).mono ?_); (case side1 => repeat (first | exact (Kd.R_reads' HO_9.out).2.2 | (with_reducible refine Kd.C_alloc ?_ _) | (with_reducible refine Kd.C_drewN ?_ _) | (with_reducible refine Kd.C_drew ?_))); (case side2 => exact (Kd.R_reads' HO_9.out).2.1); rintro e w64 ⟨rfl, hb⟩; refine ⟨_, rfl, ?_⟩; have n0_ := Aside0.mk (Kd.R_below (by (with_reducible repeat (first | apply Kd.R_alloc | apply Kd.R_drewN | apply Kd.R_drew)); exact HO_9.out) hb); have n1_ := Aside0.mk (blk_below (g := gb270) (o := .cells #[.int .i64 ((rd_T76 l0 x3_1).f0), .slice A269_1 ((rd_T76 l0 x3_1).f1).length c269_1, .slice A269_2 ((rd_T76 l0 x3_1).f2).length c269_2] 76 (0, 0)) (by (with_reducible repeat (first | refine blk_drewN ?_ _ | refine blk_drew ?_ | refine blk_alloc ?_ _)); exact BK270.out) hb); have n2_ := Aside0.mk (below_step (by repeat (first | (with_reducible first | exact HB.out | apply below_alloc | apply pw_below_drewN | apply below_drew1 | refine below_set ?_ GE270.out) | exact HB.out)) hb); clear HO_9; clear BK270; clear HB; have HO_9 := n0_; have BK270 := n1_; have HB := n2_; clear n0_ n1_ n2_; (try clear hb); (try clear hb2); (try clear hk); (try clear hi); have hcz65_0 : w64.cell? ⟨gb270, 0, none⟩ = some (.int .i64 ((rd_T76 l0 x3_1).f0)) := (blk_cell BK270.out 0).trans rfl; have hcz65_1 : w64.cell? ⟨gb270, 1, none⟩ = some (.slice A269_1 ((rd_T76 l0 x3_1).f1).length c269_1) := (blk_cell BK270.out 1).trans rfl; have hcz65_2 : w64.cell? ⟨gb270, 2, none⟩ = some (.slice A269_2 ((rd_T76 l0 x3_1).f2).length c269_2) := (blk_cell BK270.out 2).trans rfl; have hfz65_0 := blk_frozen BK270.out 0; have hfz65_1 := blk_frozen BK270.out 1; have hfz65_2 := blk_frozen BK270.out 2) | (go_at_call 53; (with_reducible refine (lecternref0_In.calls k3 _ _ ((rd_T76 l0 x3_1).f2) t272 t296 _ ?side1 ?side2 A60.out).mono ?_); (case side1 => repeat (first | exact (Kd.C_below HR269_2.out HB.out) | (with_reducible refine Kd.C_alloc ?_ _) | (with_reducible refine Kd.C_drewN ?_ _) | (with_reducible refine Kd.C_drew ?_))); (case side2 => exact HC269_2.out); rintro e w' ⟨rfl, ⟨nd, rfl⟩⟩))
                                go_ret
                                exact ⟨by first | rfl | (simp [errW_none, errW_some] <;> rfl) | (simp [*, errW_none, errW_some] <;> rfl), by repeat (first | (with_reducible first | exact HB.out | apply below_alloc | apply pw_below_drewN | apply below_drew1 | refine below_set ?_ GE270.out) | exact HB.out)⟩
                              · rw [if_neg c61] at H
                                have c61b0 : decide (t296 < 0) = false := decide_eq_false c61
                                clear c61
                                replace H := Option.bind_eq_some_iff.mp H
                                obtain ⟨t297, A660, H⟩ := H
                                replace H : (if t297 = 0 then (if t294 = t272 then (lecternlaw24_QuorumMatch.l0 k3 l0 (wrap64 (x3_1 + 1))) else (some false)) else (some false)) = some r := H
                                have A66 := Aside0.mk A660
                                clear A660
                                by_cases c67 : t297 = 0
                                · rw [if_pos c67] at H
                                  have c67b0 : (t297 == 0) = true := beq_iff_eq.mpr c67
                                  have c67b1 : (t297 != 0) = false := bne_eq_false_iff_eq.mpr c67
                                  clear c67
                                  by_cases c68 : t294 = t272
                                  · rw [if_pos c68] at H
                                    have c68b0 : (t294 == t272) = true := beq_iff_eq.mpr c68
                                    have c68b1 : (t294 != t272) = false := bne_eq_false_iff_eq.mpr c68
                                    clear c68
                                    have H' := Aside0.mk H
                                    clear H
                                    have hcz69_0 : wr.cell? ⟨gb270, 0, none⟩ = some (.int .i64 ((rd_T76 l0 x3_1).f0)) := (blk_cell BK270.out 0).trans rfl
                                    have hcz69_1 : wr.cell? ⟨gb270, 1, none⟩ = some (.slice A269_1 ((rd_T76 l0 x3_1).f1).length c269_1) := (blk_cell BK270.out 1).trans rfl
                                    have hcz69_2 : wr.cell? ⟨gb270, 2, none⟩ = some (.slice A269_2 ((rd_T76 l0 x3_1).f2).length c269_2) := (blk_cell BK270.out 2).trans rfl
                                    have hfz69_0 := blk_frozen BK270.out 0
                                    have hfz69_1 := blk_frozen BK270.out 1
                                    have hfz69_2 := blk_frozen BK270.out 2
                                    obtain ⟨Ao70, co70, eo70⟩ := Kd.R_slice HO_9.out
                                    subst eo70
                                    go_wp2_with (first | ((with_reducible refine gate_callee (f := 51) rfl ?_); refine goesL_ (some 78) rfl rfl Try.func51 (by kernel_rfl) rfl #[.slice Ao70 x9_3.length co70] rfl (by (try simp only [List.map_toArray, List.map_cons, List.map_nil]); first | done | rfl | (simp only [List.length_drop, List.length_take]; rfl)) ?_; (with_reducible refine (quorum_Index.calls _ _ x9_3 t294 t295 _ ?side1 ?side2 A49.out).mono ?_); (case side1 => repeat (first | exact (Kd.R_reads' HO_9.out).2.2 | (with_reducible refine Kd.C_alloc ?_ _) | (with_reducible refine Kd.C_drewN ?_ _) | (with_reducible refine Kd.C_drew ?_))); (case side2 => exact (Kd.R_reads' HO_9.out).2.1); rintro e w71 ⟨rfl, hb⟩; refine ⟨_, rfl, ?_⟩; have n0_ := Aside0.mk (Kd.R_below (by (with_reducible repeat (first | apply Kd.R_alloc | apply Kd.R_drewN | apply Kd.R_drew)); exact HO_9.out) hb); have n1_ := Aside0.mk (blk_below (g := gb270) (o := .cells #[.int .i64 ((rd_T76 l0 x3_1).f0), .slice A269_1 ((rd_T76 l0 x3_1).f1).length c269_1, .slice A269_2 ((rd_T76 l0 x3_1).f2).length c269_2] 76 (0, 0)) (by (with_reducible repeat (first | refine blk_drewN ?_ _ | refine blk_drew ?_ | refine blk_alloc ?_ _)); exact BK270.out) hb); have n2_ := Aside0.mk (below_step (by repeat (first | (with_reducible first | exact HB.out | apply below_alloc | apply pw_below_drewN | apply below_drew1 | refine below_set ?_ GE270.out) | exact HB.out)) hb); clear HO_9; clear BK270; clear HB; have HO_9 := n0_; have BK270 := n1_; have HB := n2_; clear n0_ n1_ n2_; (try clear hb); (try clear hb2); (try clear hk); (try clear hi); have hcz72_0 : w71.cell? ⟨gb270, 0, none⟩ = some (.int .i64 ((rd_T76 l0 x3_1).f0)) := (blk_cell BK270.out 0).trans rfl; have hcz72_1 : w71.cell? ⟨gb270, 1, none⟩ = some (.slice A269_1 ((rd_T76 l0 x3_1).f1).length c269_1) := (blk_cell BK270.out 1).trans rfl; have hcz72_2 : w71.cell? ⟨gb270, 2, none⟩ = some (.slice A269_2 ((rd_T76 l0 x3_1).f2).length c269_2) := (blk_cell BK270.out 2).trans rfl; have hfz72_0 := blk_frozen BK270.out 0; have hfz72_1 := blk_frozen BK270.out 1; have hfz72_2 := blk_frozen BK270.out 2) | (go_at_call 53; (with_reducible refine (lecternref0_In.calls k3 _ _ ((rd_T76 l0 x3_1).f2) t272 t296 _ ?side1 ?side2 A60.out).mono ?_); (case side1 => repeat (first | exact (Kd.C_below HR269_2.out HB.out) | (with_reducible refine Kd.C_alloc ?_ _) | (with_reducible refine Kd.C_drewN ?_ _) | (with_reducible refine Kd.C_drew ?_))); (case side2 => exact HC269_2.out); rintro e w' ⟨rfl, ⟨nd, rfl⟩⟩) | (go_at_call 47; (with_reducible refine (lecternlaw24_num.calls t295 t297 _ A66.out).mono ?_); rintro e w' ⟨rfl, ⟨nd, rfl⟩⟩))
                                    go_roundg k3
                                    case measure => have := HK1.out; have := HJ1.out; have := HK3.out; omega
                                    case rel => exact ⟨(wrap64 (x3_1 + 1)), (by first | rfl | (simp; done) | (simp [*]; done)), H', ⟨by have := HK1.out; have := HJ1.out; have := HK3.out; omega⟩, ⟨by repeat (first | (with_reducible first | exact HB.out | apply below_alloc | apply pw_below_drewN | apply below_drew1 | refine below_set ?_ GE270.out) | exact HB.out)⟩⟩
                                  · rw [if_neg c68] at H
                                    have c68b0 : (t294 == t272) = false := beq_eq_false_iff_ne.mpr c68
                                    have c68b1 : (t294 != t272) = true := bne_iff_ne.mpr c68
                                    obtain rfl := Option.some.inj H
                                    have hcz73_0 : wr.cell? ⟨gb270, 0, none⟩ = some (.int .i64 ((rd_T76 l0 x3_1).f0)) := (blk_cell BK270.out 0).trans rfl
                                    have hcz73_1 : wr.cell? ⟨gb270, 1, none⟩ = some (.slice A269_1 ((rd_T76 l0 x3_1).f1).length c269_1) := (blk_cell BK270.out 1).trans rfl
                                    have hcz73_2 : wr.cell? ⟨gb270, 2, none⟩ = some (.slice A269_2 ((rd_T76 l0 x3_1).f2).length c269_2) := (blk_cell BK270.out 2).trans rfl
                                    have hfz73_0 := blk_frozen BK270.out 0
                                    have hfz73_1 := blk_frozen BK270.out 1
                                    have hfz73_2 := blk_frozen BK270.out 2
                                    obtain ⟨Ao74, co74, eo74⟩ := Kd.R_slice HO_9.out
                                    subst eo74
                                    go_wp2_with (first | ((with_reducible refine gate_callee (f := 51) rfl ?_); refine goesL_ (some 78) rfl rfl Try.func51 (by kernel_rfl) rfl #[.slice Ao74 x9_3.length co74] rfl (by (try simp only [List.map_toArray, List.map_cons, List.map_nil]); first | done | rfl | (simp only [List.length_drop, List.length_take]; rfl)) ?_; (with_reducible refine (quorum_Index.calls _ _ x9_3 t294 t295 _ ?side1 ?side2 A49.out).mono ?_); (case side1 => repeat (first | exact (Kd.R_reads' HO_9.out).2.2 | (with_reducible refine Kd.C_alloc ?_ _) | (with_reducible refine Kd.C_drewN ?_ _) | (with_reducible refine Kd.C_drew ?_))); (case side2 => exact (Kd.R_reads' HO_9.out).2.1); rintro e w75 ⟨rfl, hb⟩; refine ⟨_, rfl, ?_⟩; have n0_ := Aside0.mk (Kd.R_below (by (with_reducible repeat (first | apply Kd.R_alloc | apply Kd.R_drewN | apply Kd.R_drew)); exact HO_9.out) hb); have n1_ := Aside0.mk (blk_below (g := gb270) (o := .cells #[.int .i64 ((rd_T76 l0 x3_1).f0), .slice A269_1 ((rd_T76 l0 x3_1).f1).length c269_1, .slice A269_2 ((rd_T76 l0 x3_1).f2).length c269_2] 76 (0, 0)) (by (with_reducible repeat (first | refine blk_drewN ?_ _ | refine blk_drew ?_ | refine blk_alloc ?_ _)); exact BK270.out) hb); have n2_ := Aside0.mk (below_step (by repeat (first | (with_reducible first | exact HB.out | apply below_alloc | apply pw_below_drewN | apply below_drew1 | refine below_set ?_ GE270.out) | exact HB.out)) hb); clear HO_9; clear BK270; clear HB; have HO_9 := n0_; have BK270 := n1_; have HB := n2_; clear n0_ n1_ n2_; (try clear hb); (try clear hb2); (try clear hk); (try clear hi); have hcz76_0 : w75.cell? ⟨gb270, 0, none⟩ = some (.int .i64 ((rd_T76 l0 x3_1).f0)) := (blk_cell BK270.out 0).trans rfl; have hcz76_1 : w75.cell? ⟨gb270, 1, none⟩ = some (.slice A269_1 ((rd_T76 l0 x3_1).f1).length c269_1) := (blk_cell BK270.out 1).trans rfl; have hcz76_2 : w75.cell? ⟨gb270, 2, none⟩ = some (.slice A269_2 ((rd_T76 l0 x3_1).f2).length c269_2) := (blk_cell BK270.out 2).trans rfl; have hfz76_0 := blk_frozen BK270.out 0; have hfz76_1 := blk_frozen BK270.out 1; have hfz76_2 := blk_frozen BK270.out 2) | (go_at_call 53; (with_reducible refine (lecternref0_In.calls k3 _ _ ((rd_T76 l0 x3_1).f2) t272 t296 _ ?side1 ?side2 A60.out).mono ?_); (case side1 => repeat (first | exact (Kd.C_below HR269_2.out HB.out) | (with_reducible refine Kd.C_alloc ?_ _) | (with_reducible refine Kd.C_drewN ?_ _) | (with_reducible refine Kd.C_drew ?_))); (case side2 => exact HC269_2.out); rintro e w' ⟨rfl, ⟨nd, rfl⟩⟩) | (go_at_call 47; (with_reducible refine (lecternlaw24_num.calls t295 t297 _ A66.out).mono ?_); rintro e w' ⟨rfl, ⟨nd, rfl⟩⟩))
                                    go_ret
                                    exact ⟨by first | rfl | (simp [errW_none, errW_some] <;> rfl) | (simp [*, errW_none, errW_some] <;> rfl), by repeat (first | (with_reducible first | exact HB.out | apply below_alloc | apply pw_below_drewN | apply below_drew1 | refine below_set ?_ GE270.out) | exact HB.out)⟩
                                · rw [if_neg c67] at H
                                  have c67b0 : (t297 == 0) = false := beq_eq_false_iff_ne.mpr c67
                                  have c67b1 : (t297 != 0) = true := bne_iff_ne.mpr c67
                                  obtain rfl := Option.some.inj H
                                  have hcz77_0 : wr.cell? ⟨gb270, 0, none⟩ = some (.int .i64 ((rd_T76 l0 x3_1).f0)) := (blk_cell BK270.out 0).trans rfl
                                  have hcz77_1 : wr.cell? ⟨gb270, 1, none⟩ = some (.slice A269_1 ((rd_T76 l0 x3_1).f1).length c269_1) := (blk_cell BK270.out 1).trans rfl
                                  have hcz77_2 : wr.cell? ⟨gb270, 2, none⟩ = some (.slice A269_2 ((rd_T76 l0 x3_1).f2).length c269_2) := (blk_cell BK270.out 2).trans rfl
                                  have hfz77_0 := blk_frozen BK270.out 0
                                  have hfz77_1 := blk_frozen BK270.out 1
                                  have hfz77_2 := blk_frozen BK270.out 2
                                  obtain ⟨Ao78, co78, eo78⟩ := Kd.R_slice HO_9.out
                                  subst eo78
                                  go_wp2_with (first | ((with_reducible refine gate_callee (f := 51) rfl ?_); refine goesL_ (some 78) rfl rfl Try.func51 (by kernel_rfl) rfl #[.slice Ao78 x9_3.length co78] rfl (by (try simp only [List.map_toArray, List.map_cons, List.map_nil]); first | done | rfl | (simp only [List.length_drop, List.length_take]; rfl)) ?_; (with_reducible refine (quorum_Index.calls _ _ x9_3 t294 t295 _ ?side1 ?side2 A49.out).mono ?_); (case side1 => repeat (first | exact (Kd.R_reads' HO_9.out).2.2 | (with_reducible refine Kd.C_alloc ?_ _) | (with_reducible refine Kd.C_drewN ?_ _) | (with_reducible refine Kd.C_drew ?_))); (case side2 => exact (Kd.R_reads' HO_9.out).2.1); rintro e w79 ⟨rfl, hb⟩; refine ⟨_, rfl, ?_⟩; have n0_ := Aside0.mk (Kd.R_below (by (with_reducible repeat (first | apply Kd.R_alloc | apply Kd.R_drewN | apply Kd.R_drew)); exact HO_9.out) hb); have n1_ := Aside0.mk (blk_below (g := gb270) (o := .cells #[.int .i64 ((rd_T76 l0 x3_1).f0), .slice A269_1 ((rd_T76 l0 x3_1).f1).length c269_1, .slice A269_2 ((rd_T76 l0 x3_1).f2).length c269_2] 76 (0, 0)) (by (with_reducible repeat (first | refine blk_drewN ?_ _ | refine blk_drew ?_ | refine blk_alloc ?_ _)); exact BK270.out) hb); have n2_ := Aside0.mk (below_step (by repeat (first | (with_reducible first | exact HB.out | apply below_alloc | apply pw_below_drewN | apply below_drew1 | refine below_set ?_ GE270.out) | exact HB.out)) hb); clear HO_9; clear BK270; clear HB; have HO_9 := n0_; have BK270 := n1_; have HB := n2_; clear n0_ n1_ n2_; (try clear hb); (try clear hb2); (try clear hk); (try clear hi); have hcz80_0 : w79.cell? ⟨gb270, 0, none⟩ = some (.int .i64 ((rd_T76 l0 x3_1).f0)) := (blk_cell BK270.out 0).trans rfl; have hcz80_1 : w79.cell? ⟨gb270, 1, none⟩ = some (.slice A269_1 ((rd_T76 l0 x3_1).f1).length c269_1) := (blk_cell BK270.out 1).trans rfl; have hcz80_2 : w79.cell? ⟨gb270, 2, none⟩ = some (.slice A269_2 ((rd_T76 l0 x3_1).f2).length c269_2) := (blk_cell BK270.out 2).trans rfl; have hfz80_0 := blk_frozen BK270.out 0; have hfz80_1 := blk_frozen BK270.out 1; have hfz80_2 := blk_frozen BK270.out 2) | (go_at_call 53; (with_reducible refine (lecternref0_In.calls k3 _ _ ((rd_T76 l0 x3_1).f2) t272 t296 _ ?side1 ?side2 A60.out).mono ?_); (case side1 => repeat (first | exact (Kd.C_below HR269_2.out HB.out) | (with_reducible refine Kd.C_alloc ?_ _) | (with_reducible refine Kd.C_drewN ?_ _) | (with_reducible refine Kd.C_drew ?_))); (case side2 => exact HC269_2.out); rintro e w' ⟨rfl, ⟨nd, rfl⟩⟩) | (go_at_call 47; (with_reducible refine (lecternlaw24_num.calls t295 t297 _ A66.out).mono ?_); rintro e w' ⟨rfl, ⟨nd, rfl⟩⟩))
                                  go_ret
                                  exact ⟨by first | rfl | (simp [errW_none, errW_some] <;> rfl) | (simp [*, errW_none, errW_some] <;> rfl), by repeat (first | (with_reducible first | exact HB.out | apply below_alloc | apply pw_below_drewN | apply below_drew1 | refine below_set ?_ GE270.out) | exact HB.out)⟩
                  · rw [if_neg c14] at H
                    have c14b0 : (t274 == 0) = false := beq_eq_false_iff_ne.mpr c14
                    have c14b1 : (t274 != 0) = true := bne_iff_ne.mpr c14
                    have H' := Aside0.mk H
                    clear H
                    have p269 : 0 ≤ (x3_1 : Int) := of_decide_eq_true (by first | (with_reducible assumption) | assumption)
                    have q269 : x3_1 < (l0.length : Int) := of_decide_eq_true (by first | (with_reducible assumption) | assumption)
                    obtain ⟨ad269, A269_1, c269_1, A269_2, c269_2, e269, hx269_0, hx269_1, hx269_2, hl269_1, hi269_1, hl269_2, hi269_2⟩ := at_T76 HR0.out x3_1 p269 q269
                    cases e269
                    replace hx269_0 := (HB.out.cell (World.block_lt_of_cell? w _ hx269_0)).trans hx269_0
                    replace hx269_1 := (HB.out.cell (World.block_lt_of_cell? w _ hx269_1)).trans hx269_1
                    replace hx269_2 := (HB.out.cell (World.block_lt_of_cell? w _ hx269_2)).trans hx269_2
                    have HR269_1 := Aside0.mk hi269_1
                    have HC269_1 := Aside0.mk hl269_1
                    clear hi269_1 hl269_1
                    have HR269_2 := Aside0.mk hi269_2
                    have HC269_2 := Aside0.mk hl269_2
                    clear hi269_2 hl269_2
                    replace p269 := eq_true p269
                    replace q269 := eq_true q269
                    go_wp2_with (first | ((with_reducible refine gate_dst (N := 4) rfl ?_); (try (refine gate_guard (by rfl) ?_; dsimp only)); refine box_event ?hg (N := 4) ?hd (cs := #[.int .i64 0, .slice none 0 0, .slice none 0 0]) (t := 76) ?hr ?_; (case hd => rfl); (case hg => rfl); (case hr => first | (go_simp; done) | (go_simp; rfl)); intro gb270 hg w81 hbox hb; have n0_ := Aside0.mk (below_step (by repeat (first | (with_reducible first | exact HB.out | apply below_alloc | apply pw_below_drewN | apply below_drew1) | exact HB.out)) hb); have n1_ := Aside0.mk (hbox); have n2_ := Aside0.mk ((by rw [hg]; exact (below_size (by repeat (first | (with_reducible first | exact HB.out | apply below_alloc | apply pw_below_drewN | apply below_drew1) | exact HB.out))) : w.heap.size ≤ gb270)); have n3_ := Aside0.mk ((by rw [hg]; exact (below_size (by repeat (first | (with_reducible first | exact HB.out | apply below_alloc | apply pw_below_drewN | apply below_drew1) | exact HB.out))) : w.heap.size ≤ gb270)); clear HB; have HB := n0_; have BK270 := n1_; have GW270 := n2_; have GE270 := n3_; clear n0_ n1_ n2_ n3_; clear hb hbox hg; have hcz82_0 : w81.cell? ⟨gb270, 0, none⟩ = some (.int .i64 0) := (blk_cell BK270.out 0).trans rfl; have hcz82_1 : w81.cell? ⟨gb270, 1, none⟩ = some (.slice none 0 0) := (blk_cell BK270.out 1).trans rfl; have hcz82_2 : w81.cell? ⟨gb270, 2, none⟩ = some (.slice none 0 0) := (blk_cell BK270.out 2).trans rfl; have hfz82_0 := blk_frozen BK270.out 0; have hfz82_1 := blk_frozen BK270.out 1; have hfz82_2 := blk_frozen BK270.out 2) | ((with_reducible refine gate_callee (f := 45) rfl ?_); refine goesL_ (some 28) rfl rfl Try.func45 (by kernel_rfl) rfl #[.agg #[.int .i64 ((rd_T76 l0 x3_1).f0), .slice A269_1 ((rd_T76 l0 x3_1).f1).length c269_1, .slice A269_2 ((rd_T76 l0 x3_1).f2).length c269_2]] rfl (by (try simp only [List.map_toArray, List.map_cons, List.map_nil]); first | done | rfl | (simp only [List.length_drop, List.length_take]; rfl)) ?_; (with_reducible refine (lecternlaw24_heavy.calls ((rd_T76 l0 x3_1).f0) _ _ ((rd_T76 l0 x3_1).f1) _ _ ((rd_T76 l0 x3_1).f2) false _ ?side1 ?side2 ?side3 ?side4 A7.out).mono ?_); (case side1 => exact Kd.C_below HR269_1.out (by repeat (first | (with_reducible first | exact HB.out | apply below_alloc | apply pw_below_drewN | apply below_drew1 | refine below_set ?_ GE270.out) | exact HB.out))); (case side2 => exact HC269_1.out); (case side3 => exact Kd.C_below HR269_2.out (by repeat (first | (with_reducible first | exact HB.out | apply below_alloc | apply pw_below_drewN | apply below_drew1 | refine below_set ?_ GE270.out) | exact HB.out))); (case side4 => exact HC269_2.out); rintro e w83 ⟨rfl, hb⟩; refine ⟨_, rfl, ?_⟩; have n0_ := Aside0.mk (blk_below (g := gb270) (o := .cells #[.int .i64 ((rd_T76 l0 x3_1).f0), .slice A269_1 ((rd_T76 l0 x3_1).f1).length c269_1, .slice A269_2 ((rd_T76 l0 x3_1).f2).length c269_2] 76 (0, 0)) (by (with_reducible repeat (first | refine blk_drewN ?_ _ | refine blk_drew ?_ | refine blk_alloc ?_ _)); refine blk_put (cs := #[.int .i64 ((rd_T76 l0 x3_1).f0), .slice A269_1 ((rd_T76 l0 x3_1).f1).length c269_1, .slice none 0 0]) ?_ 2 _ rfl; (with_reducible repeat (first | refine blk_drewN ?_ _ | refine blk_drew ?_ | refine blk_alloc ?_ _)); refine blk_put (cs := #[.int .i64 ((rd_T76 l0 x3_1).f0), .slice none 0 0, .slice none 0 0]) ?_ 1 _ rfl; (with_reducible repeat (first | refine blk_drewN ?_ _ | refine blk_drew ?_ | refine blk_alloc ?_ _)); refine blk_put (cs := #[.int .i64 0, .slice none 0 0, .slice none 0 0]) ?_ 0 _ rfl; (with_reducible repeat (first | refine blk_drewN ?_ _ | refine blk_drew ?_ | refine blk_alloc ?_ _)); exact BK270.out) hb); have n1_ := Aside0.mk (below_step (by repeat (first | (with_reducible first | exact HB.out | apply below_alloc | apply pw_below_drewN | apply below_drew1 | refine below_set ?_ GE270.out) | exact HB.out)) hb); clear BK270; clear HB; have BK270 := n0_; have HB := n1_; clear n0_ n1_; (try clear hb); (try clear hb2); (try clear hk); (try clear hi); have hcz84_0 : w83.cell? ⟨gb270, 0, none⟩ = some (.int .i64 ((rd_T76 l0 x3_1).f0)) := (blk_cell BK270.out 0).trans rfl; have hcz84_1 : w83.cell? ⟨gb270, 1, none⟩ = some (.slice A269_1 ((rd_T76 l0 x3_1).f1).length c269_1) := (blk_cell BK270.out 1).trans rfl; have hcz84_2 : w83.cell? ⟨gb270, 2, none⟩ = some (.slice A269_2 ((rd_T76 l0 x3_1).f2).length c269_2) := (blk_cell BK270.out 2).trans rfl; have hfz84_0 := blk_frozen BK270.out 0; have hfz84_1 := blk_frozen BK270.out 1; have hfz84_2 := blk_frozen BK270.out 2) | ((with_reducible refine gate_callee (f := 51) rfl ?_); refine goesL_ (some 32) rfl rfl Try.func51 (by kernel_rfl) rfl #[.slice A269_2 ((rd_T76 l0 x3_1).f2).length c269_2] rfl (by (try simp only [List.map_toArray, List.map_cons, List.map_nil]); first | done | rfl | (simp only [List.length_drop, List.length_take]; rfl)) ?_; (with_reducible refine (quorum_Index.calls _ _ ((rd_T76 l0 x3_1).f2) t272 t273 _ ?side1 ?side2 A12.out).mono ?_); (case side1 => repeat (first | exact (Kd.C_below HR269_2.out HB.out) | (with_reducible refine Kd.C_alloc ?_ _) | (with_reducible refine Kd.C_drewN ?_ _) | (with_reducible refine Kd.C_drew ?_))); (case side2 => exact HC269_2.out); rintro e w85 ⟨rfl, hb⟩; refine ⟨_, rfl, ?_⟩; have n0_ := Aside0.mk (blk_below (g := gb270) (o := .cells #[.int .i64 ((rd_T76 l0 x3_1).f0), .slice A269_1 ((rd_T76 l0 x3_1).f1).length c269_1, .slice A269_2 ((rd_T76 l0 x3_1).f2).length c269_2] 76 (0, 0)) (by (with_reducible repeat (first | refine blk_drewN ?_ _ | refine blk_drew ?_ | refine blk_alloc ?_ _)); exact BK270.out) hb); have n1_ := Aside0.mk (below_step (by repeat (first | (with_reducible first | exact HB.out | apply below_alloc | apply pw_below_drewN | apply below_drew1 | refine below_set ?_ GE270.out) | exact HB.out)) hb); clear BK270; clear HB; have BK270 := n0_; have HB := n1_; clear n0_ n1_; (try clear hb); (try clear hb2); (try clear hk); (try clear hi)) | ((with_reducible refine gate_callee (f := 47) rfl ?_); refine goesL_ (some 36) rfl rfl Try.func47 (by kernel_rfl) rfl #[.int .i64 t273] rfl (by (try simp only [List.map_toArray, List.map_cons, List.map_nil]); first | done | rfl | (simp only [List.length_drop, List.length_take]; rfl)) ?_; (with_reducible refine (lecternlaw24_num.calls t273 t274 _ A13.out).mono ?_); rintro e w' ⟨rfl, ⟨nd, rfl⟩⟩; refine ⟨_, rfl, ?_⟩))
                    go_roundg kj1
                    case measure => have := HK1.out; have := HJ1.out; omega
                    case rel => exact ⟨(wrap64 (x3_1 + 1)), (by first | rfl | (simp; done) | (simp [*]; done)), H', ⟨by have := HK1.out; have := HJ1.out; omega⟩, ⟨by repeat (first | (with_reducible first | exact HB.out | apply below_alloc | apply pw_below_drewN | apply below_drew1 | refine below_set ?_ GE270.out) | exact HB.out)⟩⟩
              · rw [if_neg c6] at H
                exact absurd H (by simp)
            · rw [if_neg c5] at H
              exact absurd H (by simp)
          · replace c4 := Bool.eq_false_iff.mpr c4
            subst c4
            have H1 : ((lecternlaw24_wakes.f kj1).bind fun t268 => (some t268)) = some r := by rw [if_neg (show ¬ (false = true) by decide)] at H; exact H
            clear H
            have H := H1
            clear H1
            replace H := Option.bind_eq_some_iff.mp H
            obtain ⟨t268, A860, H⟩ := H
            replace H : (some t268) = some r := H
            have A86 := Aside0.mk A860
            clear A860
            obtain rfl := Option.some.inj H
            go_wp2_with (first | ((with_reducible refine gate_callee (f := 52) rfl ?_); refine goesL_ (some 112) rfl rfl Try.func52 (by kernel_rfl) rfl #[] rfl (by (try simp only [List.map_toArray, List.map_cons, List.map_nil]); first | done | rfl | (simp only [List.length_drop, List.length_take]; rfl)) ?_; (with_reducible refine (lecternlaw24_wakes.calls kj1  t268 _ A86.out).mono ?_); rintro e w87 ⟨rfl, hb⟩; refine ⟨_, rfl, ?_⟩; have n0_ := Aside0.mk (below_step (by repeat (first | (with_reducible first | exact HB.out | apply below_alloc | apply pw_below_drewN | apply below_drew1) | exact HB.out)) hb); clear HB; have HB := n0_; clear n0_; (try clear hb); (try clear hb2); (try clear hk); (try clear hi)))
            go_ret
            exact ⟨by first | rfl | (simp [errW_none, errW_some] <;> rfl) | (simp [*, errW_none, errW_some] <;> rfl), by repeat (first | (with_reducible first | exact HB.out | apply below_alloc | apply pw_below_drewN | apply below_drew1) | exact HB.out)⟩

end Go.Proofs.Ytcacckaonjnmjaa.Q
