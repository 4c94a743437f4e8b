-- Written by a program: the kit's printer with changes of this session (NOTES.md).
import Derived.Test.YtpeldaogdeefeaaGreatMx0
import Derived.Test.YtpeldaogdeefeaaGreatMx61
import Derived.Test.YtpeldaogdeefeaaGreatMG6
namespace Go.Proofs.YtpeldaogdeefeaaGreat.M
open Go.RowKit Go.Proofs.YtpeldaogdeefeaaGreatW.PrintWords Go.Proofs.YtpeldaogdeefeaaGreatW.PrintLast Go.Proofs.YtpeldaogdeefeaaGreatW.PrintMore
attribute [local go_sem] max2_int min2_int max_two min_two max_three min_three max_four min_four   -- for this text's walks alone
set_option linter.unusedVariables false
set_option linter.unusedSimpArgs false

/-! ### lecternref14_Open: function 99 -/
mutual
def lecternref14_Open.j1 : Nat → List (S140) → Int → Option ((List (S140)))
  | 0, _, _ => none
  | k + 1, x0, x1 => lecternref14_Open.l1 k x0 x1 0
def lecternref14_Open.l1 : Nat → List (S140) → Int → Int → Option ((List (S140)))
  | 0, _, _, _ => none
  | k + 1, x0, x1, x7 => if x7 < (x0.length : Int) then (if 0 ≤ x7 then (lecternref14_Open.j3 k x0 x1 x7 (decide (((rd_T140 x0 x7).f0) < x1))) else (none)) else (lecternref14_Open.j3 k x0 x1 x7 false)
def lecternref14_Open.j3 : Nat → List (S140) → Int → Int → Bool → Option ((List (S140)))
  | 0, _, _, _, _ => none
  | k + 1, x0, x1, x7, x47 => if x47 = true then (lecternref14_Open.l1 k x0 x1 (wrap64 (x7 + 1))) else (if 0 ≤ x7 then (if x7 ≤ (x0.length : Int) then ((lecternref0_CopySessions.f k (x0.take (x7 : Int).toNat)).bind fun t326 => (if t326.length < 2199023255552 then ((some (t326 ++ [(⟨x1, 0, (⟨0, 0, ([] : List (S53))⟩ : S70), x1⟩ : S140)] : List (S140))).bind fun y329 => ((some (x0.drop (x7 : Int).toNat : List (S140))).bind fun y332 => (if y329.length + y332.length < 2199023255552 then (some (y329 ++ y332)) else (none)))) else (none))) else (none)) else (none))
def lecternref14_Open.l0 : Nat → List (S140) → Int → Int → Int → Option ((List (S140)))
  | 0, _, _, _, _ => none
  | k + 1, x0, x1, x5, x6 => if x6 < (x0.length : Int) then (if 0 ≤ x6 then (if 0 ≤ x5 then (if x5 < (x0.length : Int) then (if ((rd_T140 x0 x6).f3) < ((rd_T140 x0 x5).f3) then (lecternref14_Open.l0 k x0 x1 x6 (wrap64 (x6 + 1))) else (lecternref14_Open.l0 k x0 x1 x5 (wrap64 (x6 + 1)))) else (none)) else (none)) else (none)) else ((lecternref14_drop.f k x0 x5).bind fun t317 => (lecternref14_Open.j1 k t317 x1))
end
def lecternref14_Open.f (k : Nat) (l0 : List (S140)) (a1 : Int) : Option ((List (S140))) := (lecternref0_CopySessions.f k l0).bind fun t312 => (if (t312.length : Int) = 8 then (lecternref14_Open.l0 k t312 a1 0 1) else (lecternref14_Open.j1 k t312 a1))
theorem lecternref14_Open.mono_l : ∀ k, (∀ y0 y1, LeO (lecternref14_Open.j1 k y0 y1) (lecternref14_Open.j1 (k + 1) y0 y1)) ∧ (∀ y0 y1 y2, LeO (lecternref14_Open.l1 k y0 y1 y2) (lecternref14_Open.l1 (k + 1) y0 y1 y2)) ∧ (∀ y0 y1 y2 y3, LeO (lecternref14_Open.j3 k y0 y1 y2 y3) (lecternref14_Open.j3 (k + 1) y0 y1 y2 y3)) ∧ (∀ y0 y1 y2 y3, LeO (lecternref14_Open.l0 k y0 y1 y2 y3) (lecternref14_Open.l0 (k + 1) y0 y1 y2 y3))
  | 0 => ⟨fun _ _ r h => by simp [lecternref14_Open.j1] at h, fun _ _ _ r h => by simp [lecternref14_Open.l1] at h, fun _ _ _ _ r h => by simp [lecternref14_Open.j3] at h, fun _ _ _ _ r h => by simp [lecternref14_Open.l0] at h⟩
  | k + 1 => by
    obtain ⟨ih0, ih1, ih2, ih3⟩ := lecternref14_Open.mono_l k
    refine ⟨?_, ?_, ?_, ?_⟩
    · intro y0 y1
      unfold lecternref14_Open.j1
      repeat' first
      | (with_reducible exact ih0 _ _)
      | (with_reducible exact ih1 _ _ _)
      | (with_reducible exact ih2 _ _ _ _)
      | (with_reducible exact ih3 _ _ _ _)
      | (with_reducible exact lecternref0_CopySessions.mono _ _)
      | (with_reducible exact lecternref14_drop.mono _ _ _)
      | (with_reducible exact LeO.refl _)
      | (with_reducible exact LeO.none _)
      | (with_reducible refine LeO.ite ?_ ?_)
      | (with_reducible refine LeO.bind ?_ (fun _ => ?_))
      | exact ih0 _ _
      | exact ih1 _ _ _
      | exact ih2 _ _ _ _
      | exact ih3 _ _ _ _
      | exact lecternref0_CopySessions.mono _ _
      | exact lecternref14_drop.mono _ _ _
      | exact LeO.none _
      | refine LeO.ite ?_ ?_
      | refine LeO.bind ?_ (fun _ => ?_)
    · intro y0 y1 y2
      unfold lecternref14_Open.l1
      repeat' first
      | (with_reducible exact ih0 _ _)
      | (with_reducible exact ih1 _ _ _)
      | (with_reducible exact ih2 _ _ _ _)
      | (with_reducible exact ih3 _ _ _ _)
      | (with_reducible exact lecternref0_CopySessions.mono _ _)
      | (with_reducible exact lecternref14_drop.mono _ _ _)
      | (with_reducible exact LeO.refl _)
      | (with_reducible exact LeO.none _)
      | (with_reducible refine LeO.ite ?_ ?_)
      | (with_reducible refine LeO.bind ?_ (fun _ => ?_))
      | exact ih0 _ _
      | exact ih1 _ _ _
      | exact ih2 _ _ _ _
      | exact ih3 _ _ _ _
      | exact lecternref0_CopySessions.mono _ _
      | exact lecternref14_drop.mono _ _ _
      | exact LeO.none _
      | refine LeO.ite ?_ ?_
      | refine LeO.bind ?_ (fun _ => ?_)
    · intro y0 y1 y2 y3
      unfold lecternref14_Open.j3
      repeat' first
      | (with_reducible exact ih0 _ _)
      | (with_reducible exact ih1 _ _ _)
      | (with_reducible exact ih2 _ _ _ _)
      | (with_reducible exact ih3 _ _ _ _)
      | (with_reducible exact lecternref0_CopySessions.mono _ _)
      | (with_reducible exact lecternref14_drop.mono _ _ _)
      | (with_reducible exact LeO.refl _)
      | (with_reducible exact LeO.none _)
      | (with_reducible refine LeO.ite ?_ ?_)
      | (with_reducible refine LeO.bind ?_ (fun _ => ?_))
      | exact ih0 _ _
      | exact ih1 _ _ _
      | exact ih2 _ _ _ _
      | exact ih3 _ _ _ _
      | exact lecternref0_CopySessions.mono _ _
      | exact lecternref14_drop.mono _ _ _
      | exact LeO.none _
      | refine LeO.ite ?_ ?_
      | refine LeO.bind ?_ (fun _ => ?_)
    · intro y0 y1 y2 y3
      unfold lecternref14_Open.l0
      repeat' first
      | (with_reducible exact ih0 _ _)
      | (with_reducible exact ih1 _ _ _)
      | (with_reducible exact ih2 _ _ _ _)
      | (with_reducible exact ih3 _ _ _ _)
      | (with_reducible exact lecternref0_CopySessions.mono _ _)
      | (with_reducible exact lecternref14_drop.mono _ _ _)
      | (with_reducible exact LeO.refl _)
      | (with_reducible exact LeO.none _)
      | (with_reducible refine LeO.ite ?_ ?_)
      | (with_reducible refine LeO.bind ?_ (fun _ => ?_))
      | exact ih0 _ _
      | exact ih1 _ _ _
      | exact ih2 _ _ _ _
      | exact ih3 _ _ _ _
      | exact lecternref0_CopySessions.mono _ _
      | exact lecternref14_drop.mono _ _ _
      | exact LeO.none _
      | refine LeO.ite ?_ ?_
      | refine LeO.bind ?_ (fun _ => ?_)
theorem lecternref14_Open.mono : ∀ a0 a1 k, LeO (lecternref14_Open.f k a0 a1) (lecternref14_Open.f (k + 1) a0 a1) := by
  intro a0 a1 k
  obtain ⟨ih0, ih1, ih2, ih3⟩ := lecternref14_Open.mono_l k
  unfold lecternref14_Open.f
  repeat' first
      | (with_reducible exact ih0 _ _)
      | (with_reducible exact ih1 _ _ _)
      | (with_reducible exact ih2 _ _ _ _)
      | (with_reducible exact ih3 _ _ _ _)
      | (with_reducible exact lecternref0_CopySessions.mono _ _)
      | (with_reducible exact lecternref14_drop.mono _ _ _)
      | (with_reducible exact LeO.refl _)
      | (with_reducible exact LeO.none _)
      | (with_reducible refine LeO.ite ?_ ?_)
      | (with_reducible refine LeO.bind ?_ (fun _ => ?_))
      | exact ih0 _ _
      | exact ih1 _ _ _
      | exact ih2 _ _ _ _
      | exact ih3 _ _ _ _
      | exact lecternref0_CopySessions.mono _ _
      | exact lecternref14_drop.mono _ _ _
      | exact LeO.none _
      | refine LeO.ite ?_ ?_
      | refine LeO.bind ?_ (fun _ => ?_)
set_option maxHeartbeats 8000000 in
set_option maxRecDepth 100000 in
theorem lecternref14_Open.calls (k : Nat) (A0 : Option Addr) (c0 : Nat) (l0 : List (S140)) (a1 : Int) (r : List (S140)) (w : World) (hr0 : Kd.C k140 w A0 l0.length l0) (hc0 : l0.length ≤ c0) (h : lecternref14_Open.f k l0 a1 = some r) :
    Calls Tryz.prog 99 #[.slice A0 l0.length c0, .int .i64 a1] w fun e w' => ∃ v0_ : Value, e = .returned (v0_) ∧ Kd.N k140 140 w' w.heap.size (fun k_ => (w.heap.size ≤ k_)) v0_ r ∧ Below w.heap.size w w' := by
  have hu140 := Tryz.underlying140
  have HR0 := Aside0.mk hr0
  have HC0 := Aside0.mk hc0
  clear hr0 hc0
  have HB := Aside0.mk (Below.refl w.heap.size w)
  have H : ((lecternref0_CopySessions.f k l0).bind fun t312 => (if (t312.length : Int) = 8 then (lecternref14_Open.l0 k t312 a1 0 1) else (lecternref14_Open.j1 k t312 a1))) = some r := h
  clear h
  replace H := Option.bind_eq_some_iff.mp H
  obtain ⟨t312, A30, H⟩ := H
  replace H : (if (t312.length : Int) = 8 then (lecternref14_Open.l0 k t312 a1 0 1) else (lecternref14_Open.j1 k t312 a1)) = some r := H
  have A3 := Aside0.mk A30
  clear A30
  have HC4 := Aside0.mk H
  clear H
  go_enter Tryz.func99, Tryz.ntmps99
  go_upto_if 13 with (first | (go_at_call 94; (with_reducible refine (lecternref0_CopySessions.calls k _ _ l0 t312 _ ?side1 ?side2 A3.out).mono ?_); (case side1 => repeat (first | exact HR0.out | (with_reducible refine Kd.C_alloc ?_ _) | (with_reducible refine Kd.C_drewN ?_ _) | (with_reducible refine Kd.C_drew ?_))); (case side2 => exact HC0.out); rintro e w5 ⟨v313, rfl, ho0, hb⟩; have n0_ := Aside0.mk (Kd.N_lower (Kd.N_mono (ok' := fun k_ => (w.heap.size ≤ k_)) (Kd.S_N (Kd.S_bound ho0)) (fun k_ hk_ => (Nat.le_trans (below_size (by repeat (first | (with_reducible first | exact HB.out | apply below_alloc | apply pw_below_drewN | apply below_drew1) | exact HB.out))) hk_.2.1))) (below_size (by repeat (first | (with_reducible first | exact HB.out | apply below_alloc | apply pw_below_drewN | apply below_drew1) | exact HB.out)))); have n1_ := Aside0.mk (below_step (by repeat (first | (with_reducible first | exact HB.out | apply below_alloc | apply pw_below_drewN | apply below_drew1) | exact HB.out)) hb); clear HB; have HO314 := n0_; have HB := n1_; clear n0_ n1_; (try clear hb); (try clear hb2); (try clear hk); (try clear hi); (try clear ho0); obtain ⟨Ao6, co6, eo6⟩ := Kd.N_slice HO314.out; subst eo6))
  repeat (go_quiet (first | (go_at_call 94; (with_reducible refine (lecternref0_CopySessions.calls k _ _ l0 t312 _ ?side1 ?side2 A3.out).mono ?_); (case side1 => repeat (first | exact HR0.out | (with_reducible refine Kd.C_alloc ?_ _) | (with_reducible refine Kd.C_drewN ?_ _) | (with_reducible refine Kd.C_drew ?_))); (case side2 => exact HC0.out); rintro e w5 ⟨v313, rfl, ho0, hb⟩; have n0_ := Aside0.mk (Kd.N_lower (Kd.N_mono (ok' := fun k_ => (w.heap.size ≤ k_)) (Kd.S_N (Kd.S_bound ho0)) (fun k_ hk_ => (Nat.le_trans (below_size (by repeat (first | (with_reducible first | exact HB.out | apply below_alloc | apply pw_below_drewN | apply below_drew1) | exact HB.out))) hk_.2.1))) (below_size (by repeat (first | (with_reducible first | exact HB.out | apply below_alloc | apply pw_below_drewN | apply below_drew1) | exact HB.out)))); have n1_ := Aside0.mk (below_step (by repeat (first | (with_reducible first | exact HB.out | apply below_alloc | apply pw_below_drewN | apply below_drew1) | exact HB.out)) hb); clear HB; have HO314 := n0_; have HB := n1_; clear n0_ n1_; (try clear hb); (try clear hb2); (try clear hk); (try clear hi); (try clear ho0); obtain ⟨Ao6, co6, eo6⟩ := Kd.N_slice HO314.out; subst eo6)); go_upto_if 13 with (first | (go_at_call 94; (with_reducible refine (lecternref0_CopySessions.calls k _ _ l0 t312 _ ?side1 ?side2 A3.out).mono ?_); (case side1 => repeat (first | exact HR0.out | (with_reducible refine Kd.C_alloc ?_ _) | (with_reducible refine Kd.C_drewN ?_ _) | (with_reducible refine Kd.C_drew ?_))); (case side2 => exact HC0.out); rintro e w5 ⟨v313, rfl, ho0, hb⟩; have n0_ := Aside0.mk (Kd.N_lower (Kd.N_mono (ok' := fun k_ => (w.heap.size ≤ k_)) (Kd.S_N (Kd.S_bound ho0)) (fun k_ hk_ => (Nat.le_trans (below_size (by repeat (first | (with_reducible first | exact HB.out | apply below_alloc | apply pw_below_drewN | apply below_drew1) | exact HB.out))) hk_.2.1))) (below_size (by repeat (first | (with_reducible first | exact HB.out | apply below_alloc | apply pw_below_drewN | apply below_drew1) | exact HB.out)))); have n1_ := Aside0.mk (below_step (by repeat (first | (with_reducible first | exact HB.out | apply below_alloc | apply pw_below_drewN | apply below_drew1) | exact HB.out)) hb); clear HB; have HO314 := n0_; have HB := n1_; clear n0_ n1_; (try clear hb); (try clear hb2); (try clear hk); (try clear hi); (try clear ho0); obtain ⟨Ao6, co6, eo6⟩ := Kd.N_slice HO314.out; subst eo6)))
  (try simp only [Act.put, List.setIfInBounds_toArray, List.set_cons_zero, List.set_cons_succ])
  go_cut [0] (fun v0 wc => ∃ (kq : Nat) (x0_3 : List (S140)), Aside0 (lecternref14_Open.j1 kq x0_3 a1 = some r) ∧ Aside0 (kq ≤ k) ∧ Aside0 (Kd.N k140 140 wc w.heap.size (fun k_ => (w.heap.size ≤ k_)) v0 x0_3) ∧ Aside0 (Below w.heap.size w wc))
  case first =>
    have H := HC4.out
    clear HC4
    by_cases c7 : (t312.length : Int) = 8
    · rw [if_pos c7] at H
      have c7b0 : ((t312.length : Int) == 8) = true := beq_iff_eq.mpr c7
      have c7b1 : ((t312.length : Int) != 8) = false := bne_eq_false_iff_eq.mpr c7
      clear c7
      (first | rw [c7b0] | (simp only [i64_w, i32_w]; rw [c7b0]) | skip)
      have H' := Aside0.mk H
      clear H
      go_wp2
      repeat (go_quiet (fail); try go_wp2)
      go_loopg [5, 6] k (fun kq v5 v6 w' => ∃ (x5_1 : Int) (x6_1 : Int), v5 = .int .i64 x5_1 ∧ v6 = .int .i64 x6_1 ∧ Aside0 (lecternref14_Open.l0 kq t312 a1 x5_1 x6_1 = some r) ∧ Aside0 (kq ≤ k) ∧ Aside0 (Kd.N k140 140 w' w.heap.size (fun k_ => (w.heap.size ≤ k_)) (.slice Ao6 t312.length co6) t312) ∧ Aside0 (Below w.heap.size w w'))
      case atStart => exact ⟨(0), (1), (by first | rfl | (simp; done) | (simp [*]; done)), (by first | rfl | (simp; done) | (simp [*]; done)), H', ⟨Nat.le_refl _⟩, ⟨by (with_reducible repeat (first | apply Kd.N_alloc | apply Kd.N_drewN | apply Kd.N_drew)); exact HO314.out⟩, ⟨by repeat (first | (with_reducible first | exact HB.out | apply below_alloc | apply pw_below_drewN | apply below_drew1) | exact HB.out)⟩⟩
      case round =>
        clear H'
        try clear p2
        try clear c7
        try clear c7b0
        try clear c7b1
        obtain ⟨x5_1, x6_1, rfl, rfl, HA, HK1, HO_0, HB⟩ := hrel
        cases gk with
        | zero => exact absurd HA.out (by simp [lecternref14_Open.l0])
        | succ k1 =>
          have H := HA.out
          clear HA
          simp only [lecternref14_Open.l0] at H
          by_cases c8 : x6_1 < (t312.length : Int)
          · rw [if_pos c8] at H
            have c8b0 : decide (x6_1 < (t312.length : Int)) = true := decide_eq_true c8
            clear c8
            by_cases c9 : 0 ≤ x6_1
            · rw [if_pos c9] at H
              have c9b0 : decide (0 ≤ x6_1) = true := decide_eq_true c9
              clear c9
              by_cases c10 : 0 ≤ x5_1
              · rw [if_pos c10] at H
                have c10b0 : decide (0 ≤ x5_1) = true := decide_eq_true c10
                clear c10
                by_cases c11 : x5_1 < (t312.length : Int)
                · rw [if_pos c11] at H
                  have c11b0 : decide (x5_1 < (t312.length : Int)) = true := decide_eq_true c11
                  clear c11
                  by_cases c12 : ((rd_T140 t312 x6_1).f3) < ((rd_T140 t312 x5_1).f3)
                  · rw [if_pos c12] at H
                    have c12b0 : decide (((rd_T140 t312 x6_1).f3) < ((rd_T140 t312 x5_1).f3)) = true := decide_eq_true c12
                    clear c12
                    have H' := Aside0.mk H
                    clear H
                    have p315 : 0 ≤ (x6_1 : Int) := of_decide_eq_true (by first | (with_reducible assumption) | assumption)
                    have q315 : x6_1 < (t312.length : Int) := of_decide_eq_true (by first | (with_reducible assumption) | assumption)
                    obtain ⟨ad315, A315_4, c315_4, e315, hx315_0, hx315_1, hx315_2, hx315_3, hx315_4, hx315_5, hl315_4, hi315_4⟩ := at_T140 (Kd.N_reads' HO_0.out).2.2 x6_1 p315 q315
                    cases e315
                    obtain ⟨ce315, hce315, hMe315, hcc315⟩ := Kd.N_get HO_0.out z140 x6_1 p315 (by first | exact q315 | exact of_decide_eq_true (by first | (with_reducible assumption) | assumption) | (have e_ := (Kd.N_reads' HO_0.out).1; omega))
                    obtain ⟨ua315_4, uc315_4, rfl, ul315_4, ge315_4⟩ := k140_openF hMe315
                    have hv315_4 := hcc315 4 _ rfl
                    rw [add_field _ _ 4 (by omega)] at hv315_4
                    replace hv315_4 := Option.some.inj (hv315_4.symm.trans hx315_4)
                    injection hv315_4 with hva_ hvn_ hvc_
                    rw [hva_] at ge315_4
                    rw [hvc_] at ul315_4
                    have HL315_4 := Aside0.mk (show Kd.V k53 53 _ w.heap.size _ _ ((rd_T140 t312 x6_1).f2.f2) from Kd.V_mk ul315_4 ge315_4)
                    clear hva_ hvn_ hvc_ ge315_4 ul315_4
                    clear hcc315 hce315
                    have HR315_4 := Aside0.mk hi315_4
                    have HC315_4 := Aside0.mk hl315_4
                    clear hi315_4 hl315_4
                    replace p315 := eq_true p315
                    replace q315 := eq_true q315
                    have p316 : 0 ≤ (x5_1 : Int) := of_decide_eq_true (by first | (with_reducible assumption) | assumption)
                    have q316 : x5_1 < (t312.length : Int) := of_decide_eq_true (by first | (with_reducible assumption) | assumption)
                    obtain ⟨ad316, A316_4, c316_4, e316, hx316_0, hx316_1, hx316_2, hx316_3, hx316_4, hx316_5, hl316_4, hi316_4⟩ := at_T140 (Kd.N_reads' HO_0.out).2.2 x5_1 p316 q316
                    obtain rfl : ad315 = ad316 := (by injection e316)
                    obtain ⟨ce316, hce316, hMe316, hcc316⟩ := Kd.N_get HO_0.out z140 x5_1 p316 (by first | exact q316 | exact of_decide_eq_true (by first | (with_reducible assumption) | assumption) | (have e_ := (Kd.N_reads' HO_0.out).1; omega))
                    obtain ⟨ua316_4, uc316_4, rfl, ul316_4, ge316_4⟩ := k140_openF hMe316
                    have hv316_4 := hcc316 4 _ rfl
                    rw [add_field _ _ 4 (by omega)] at hv316_4
                    replace hv316_4 := Option.some.inj (hv316_4.symm.trans hx316_4)
                    injection hv316_4 with hva_ hvn_ hvc_
                    rw [hva_] at ge316_4
                    rw [hvc_] at ul316_4
                    have HL316_4 := Aside0.mk (show Kd.V k53 53 _ w.heap.size _ _ ((rd_T140 t312 x5_1).f2.f2) from Kd.V_mk ul316_4 ge316_4)
                    clear hva_ hvn_ hvc_ ge316_4 ul316_4
                    clear hcc316 hce316
                    have HR316_4 := Aside0.mk hi316_4
                    have HC316_4 := Aside0.mk hl316_4
                    clear hi316_4 hl316_4
                    replace p316 := eq_true p316
                    replace q316 := eq_true q316
                    go_wp2
                    repeat (go_quiet (fail); try go_wp2)
                    go_roundg k1
                    case measure => have := HK1.out; omega
                    case rel => exact ⟨(x6_1), (wrap64 (x6_1 + 1)), (by first | rfl | (simp; done) | (simp [*]; done)), (by first | rfl | (simp; done) | (simp [*]; done)), H', ⟨by have := HK1.out; omega⟩, ⟨by (with_reducible repeat (first | apply Kd.N_alloc | apply Kd.N_drewN | apply Kd.N_drew)); exact HO_0.out⟩, ⟨by repeat (first | (with_reducible first | exact HB.out | apply below_alloc | apply pw_below_drewN | apply below_drew1) | exact HB.out)⟩⟩
                  · rw [if_neg c12] at H
                    have c12b0 : decide (((rd_T140 t312 x6_1).f3) < ((rd_T140 t312 x5_1).f3)) = false := decide_eq_false c12
                    clear c12
                    have H' := Aside0.mk H
                    clear H
                    have p315 : 0 ≤ (x6_1 : Int) := of_decide_eq_true (by first | (with_reducible assumption) | assumption)
                    have q315 : x6_1 < (t312.length : Int) := of_decide_eq_true (by first | (with_reducible assumption) | assumption)
                    obtain ⟨ad315, A315_4, c315_4, e315, hx315_0, hx315_1, hx315_2, hx315_3, hx315_4, hx315_5, hl315_4, hi315_4⟩ := at_T140 (Kd.N_reads' HO_0.out).2.2 x6_1 p315 q315
                    cases e315
                    obtain ⟨ce315, hce315, hMe315, hcc315⟩ := Kd.N_get HO_0.out z140 x6_1 p315 (by first | exact q315 | exact of_decide_eq_true (by first | (with_reducible assumption) | assumption) | (have e_ := (Kd.N_reads' HO_0.out).1; omega))
                    obtain ⟨ua315_4, uc315_4, rfl, ul315_4, ge315_4⟩ := k140_openF hMe315
                    have hv315_4 := hcc315 4 _ rfl
                    rw [add_field _ _ 4 (by omega)] at hv315_4
                    replace hv315_4 := Option.some.inj (hv315_4.symm.trans hx315_4)
                    injection hv315_4 with hva_ hvn_ hvc_
                    rw [hva_] at ge315_4
                    rw [hvc_] at ul315_4
                    have HL315_4 := Aside0.mk (show Kd.V k53 53 _ w.heap.size _ _ ((rd_T140 t312 x6_1).f2.f2) from Kd.V_mk ul315_4 ge315_4)
                    clear hva_ hvn_ hvc_ ge315_4 ul315_4
                    clear hcc315 hce315
                    have HR315_4 := Aside0.mk hi315_4
                    have HC315_4 := Aside0.mk hl315_4
                    clear hi315_4 hl315_4
                    replace p315 := eq_true p315
                    replace q315 := eq_true q315
                    have p316 : 0 ≤ (x5_1 : Int) := of_decide_eq_true (by first | (with_reducible assumption) | assumption)
                    have q316 : x5_1 < (t312.length : Int) := of_decide_eq_true (by first | (with_reducible assumption) | assumption)
                    obtain ⟨ad316, A316_4, c316_4, e316, hx316_0, hx316_1, hx316_2, hx316_3, hx316_4, hx316_5, hl316_4, hi316_4⟩ := at_T140 (Kd.N_reads' HO_0.out).2.2 x5_1 p316 q316
                    obtain rfl : ad315 = ad316 := (by injection e316)
                    obtain ⟨ce316, hce316, hMe316, hcc316⟩ := Kd.N_get HO_0.out z140 x5_1 p316 (by first | exact q316 | exact of_decide_eq_true (by first | (with_reducible assumption) | assumption) | (have e_ := (Kd.N_reads' HO_0.out).1; omega))
                    obtain ⟨ua316_4, uc316_4, rfl, ul316_4, ge316_4⟩ := k140_openF hMe316
                    have hv316_4 := hcc316 4 _ rfl
                    rw [add_field _ _ 4 (by omega)] at hv316_4
                    replace hv316_4 := Option.some.inj (hv316_4.symm.trans hx316_4)
                    injection hv316_4 with hva_ hvn_ hvc_
                    rw [hva_] at ge316_4
                    rw [hvc_] at ul316_4
                    have HL316_4 := Aside0.mk (show Kd.V k53 53 _ w.heap.size _ _ ((rd_T140 t312 x5_1).f2.f2) from Kd.V_mk ul316_4 ge316_4)
                    clear hva_ hvn_ hvc_ ge316_4 ul316_4
                    clear hcc316 hce316
                    have HR316_4 := Aside0.mk hi316_4
                    have HC316_4 := Aside0.mk hl316_4
                    clear hi316_4 hl316_4
                    replace p316 := eq_true p316
                    replace q316 := eq_true q316
                    go_wp2
                    repeat (go_quiet (fail); try go_wp2)
                    go_roundg k1
                    case measure => have := HK1.out; omega
                    case rel => exact ⟨(x5_1), (wrap64 (x6_1 + 1)), (by first | rfl | (simp; done) | (simp [*]; done)), (by first | rfl | (simp; done) | (simp [*]; done)), H', ⟨by have := HK1.out; omega⟩, ⟨by (with_reducible repeat (first | apply Kd.N_alloc | apply Kd.N_drewN | apply Kd.N_drew)); exact HO_0.out⟩, ⟨by repeat (first | (with_reducible first | exact HB.out | apply below_alloc | apply pw_below_drewN | apply below_drew1) | exact HB.out)⟩⟩
                · rw [if_neg c11] at H
                  exact absurd H (by simp)
              · rw [if_neg c10] at H
                exact absurd H (by simp)
            · rw [if_neg c9] at H
              exact absurd H (by simp)
          · rw [if_neg c8] at H
            have c8b0 : decide (x6_1 < (t312.length : Int)) = false := decide_eq_false c8
            clear c8
            replace H := Option.bind_eq_some_iff.mp H
            obtain ⟨t317, A130, H⟩ := H
            replace H : (lecternref14_Open.j1 k1 t317 a1) = some r := H
            have A13 := Aside0.mk A130
            clear A130
            have H' := Aside0.mk H
            clear H
            go_wp2_with (first | (go_at_call 139; (with_reducible refine (lecternref14_drop.calls k1 (fun k_ => (w.heap.size ≤ k_)) _ _ t312 x5_1 t317 _ ?side1 A13.out).mono ?_); (case side1 => exact Kd.N_V (HO_0.out)); rintro e w14 ⟨v318, rfl, ho0, hb⟩; have n0_ := Aside0.mk (Kd.N_elder' (by (with_reducible repeat (first | apply Kd.N_alloc | apply Kd.N_drewN | apply Kd.N_drew)); exact HO_0.out) (Kd.N_base ho0) hb); have n1_ := Aside0.mk (Kd.N_lower (Kd.N_mono (ok' := fun k_ => (w.heap.size ≤ k_)) ho0 (fun k_ hk_ => Or.elim hk_ (fun hs_ => hs_) (fun hn_ => (Nat.le_trans (below_size (by repeat (first | (with_reducible first | exact HB.out | apply below_alloc | apply pw_below_drewN | apply below_drew1) | exact HB.out))) hn_)))) (below_size (by repeat (first | (with_reducible first | exact HB.out | apply below_alloc | apply pw_below_drewN | apply below_drew1) | exact HB.out)))); have n2_ := Aside0.mk (below_step (by repeat (first | (with_reducible first | exact HB.out | apply below_alloc | apply pw_below_drewN | apply below_drew1) | exact HB.out)) hb); clear HO_0; clear HB; have HO_0 := n0_; have HO319 := n1_; have HB := n2_; clear n0_ n1_ n2_; (try clear hb); (try clear hb2); (try clear hk); (try clear hi); (try clear ho0)))
            repeat (go_quiet (first | (go_at_call 139; (with_reducible refine (lecternref14_drop.calls k1 (fun k_ => (w.heap.size ≤ k_)) _ _ t312 x5_1 t317 _ ?side1 A13.out).mono ?_); (case side1 => exact Kd.N_V (HO_0.out)); rintro e w14 ⟨v318, rfl, ho0, hb⟩; have n0_ := Aside0.mk (Kd.N_elder' (by (with_reducible repeat (first | apply Kd.N_alloc | apply Kd.N_drewN | apply Kd.N_drew)); exact HO_0.out) (Kd.N_base ho0) hb); have n1_ := Aside0.mk (Kd.N_lower (Kd.N_mono (ok' := fun k_ => (w.heap.size ≤ k_)) ho0 (fun k_ hk_ => Or.elim hk_ (fun hs_ => hs_) (fun hn_ => (Nat.le_trans (below_size (by repeat (first | (with_reducible first | exact HB.out | apply below_alloc | apply pw_below_drewN | apply below_drew1) | exact HB.out))) hn_)))) (below_size (by repeat (first | (with_reducible first | exact HB.out | apply below_alloc | apply pw_below_drewN | apply below_drew1) | exact HB.out)))); have n2_ := Aside0.mk (below_step (by repeat (first | (with_reducible first | exact HB.out | apply below_alloc | apply pw_below_drewN | apply below_drew1) | exact HB.out)) hb); clear HO_0; clear HB; have HO_0 := n0_; have HO319 := n1_; have HB := n2_; clear n0_ n1_ n2_; (try clear hb); (try clear hb2); (try clear hk); (try clear hi); (try clear ho0))); try go_wp2_with (first | (go_at_call 139; (with_reducible refine (lecternref14_drop.calls k1 (fun k_ => (w.heap.size ≤ k_)) _ _ t312 x5_1 t317 _ ?side1 A13.out).mono ?_); (case side1 => exact Kd.N_V (HO_0.out)); rintro e w14 ⟨v318, rfl, ho0, hb⟩; have n0_ := Aside0.mk (Kd.N_elder' (by (with_reducible repeat (first | apply Kd.N_alloc | apply Kd.N_drewN | apply Kd.N_drew)); exact HO_0.out) (Kd.N_base ho0) hb); have n1_ := Aside0.mk (Kd.N_lower (Kd.N_mono (ok' := fun k_ => (w.heap.size ≤ k_)) ho0 (fun k_ hk_ => Or.elim hk_ (fun hs_ => hs_) (fun hn_ => (Nat.le_trans (below_size (by repeat (first | (with_reducible first | exact HB.out | apply below_alloc | apply pw_below_drewN | apply below_drew1) | exact HB.out))) hn_)))) (below_size (by repeat (first | (with_reducible first | exact HB.out | apply below_alloc | apply pw_below_drewN | apply below_drew1) | exact HB.out)))); have n2_ := Aside0.mk (below_step (by repeat (first | (with_reducible first | exact HB.out | apply below_alloc | apply pw_below_drewN | apply below_drew1) | exact HB.out)) hb); clear HO_0; clear HB; have HO_0 := n0_; have HO319 := n1_; have HB := n2_; clear n0_ n1_ n2_; (try clear hb); (try clear hb2); (try clear hk); (try clear hi); (try clear ho0))))
            go_meet
            case rel => exact ⟨_, (t317), H', ⟨by have := HK1.out; first | omega | exact Nat.le_refl _⟩, ⟨by (with_reducible repeat (first | apply Kd.N_alloc | apply Kd.N_drewN | apply Kd.N_drew)); exact HO319.out⟩, ⟨by repeat (first | (with_reducible first | exact HB.out | apply below_alloc | apply pw_below_drewN | apply below_drew1) | exact HB.out)⟩⟩
    · rw [if_neg c7] at H
      have c7b0 : ((t312.length : Int) == 8) = false := beq_eq_false_iff_ne.mpr c7
      have c7b1 : ((t312.length : Int) != 8) = true := bne_iff_ne.mpr c7
      (first | rw [c7b0] | (simp only [i64_w, i32_w]; rw [c7b0]) | skip)
      have H' := Aside0.mk H
      clear H
      go_wp2
      repeat (go_quiet (fail); try go_wp2)
      go_meet
      case rel => exact ⟨_, (t312), H', ⟨by first | omega | exact Nat.le_refl _⟩, ⟨by (with_reducible repeat (first | apply Kd.N_alloc | apply Kd.N_drewN | apply Kd.N_drew)); exact HO314.out⟩, ⟨by repeat (first | (with_reducible first | exact HB.out | apply below_alloc | apply pw_below_drewN | apply below_drew1) | exact HB.out)⟩⟩
  case rest =>
    clear HC4
    try clear c1
    try clear p2
    try clear c3
    try clear p3
    try clear q3
    try clear hx3
    try clear p6
    try clear c7
    try clear c7b0
    try clear c7b1
    try clear c8
    try clear c8b0
    try clear c9
    try clear c9b0
    try clear c10
    try clear c10b0
    try clear c11
    try clear c11b0
    try clear c12
    try clear c12b0
    try clear hx315_0
    try clear hx315_1
    try clear hx315_2
    try clear hx315_3
    try clear hx315_4
    try clear hx315_5
    try clear hx316_0
    try clear hx316_1
    try clear hx316_2
    try clear hx316_3
    try clear hx316_4
    try clear hx316_5
    try clear p2
    try clear p315
    try clear p316
    try clear q315
    try clear q316
    obtain ⟨kq, x0_3, HA, HJ3, HO_0, HB⟩ := hcut
    cases kq with
    | zero => exact absurd HA.out (by simp [lecternref14_Open.j1])
    | succ kj3 =>
      have H := HA.out
      clear HA
      simp only [lecternref14_Open.j1] at H
      have H' := Aside0.mk H
      clear H
      go_wp2
      repeat (go_quiet (fail); try go_wp2)
      go_loopg [7] kj3 (fun kq v7 w' => ∃ (x7_2 : Int), v7 = .int .i64 x7_2 ∧ Aside0 (lecternref14_Open.l1 kq x0_3 a1 x7_2 = some r) ∧ Aside0 (kq ≤ kj3) ∧ Aside0 (Kd.N k140 140 w' w.heap.size (fun k_ => (w.heap.size ≤ k_)) u0 x0_3) ∧ Aside0 (Below w.heap.size w w'))
      case atStart => exact ⟨(0), (by first | rfl | (simp; done) | (simp [*]; done)), H', ⟨Nat.le_refl _⟩, ⟨by (with_reducible repeat (first | apply Kd.N_alloc | apply Kd.N_drewN | apply Kd.N_drew)); exact HO_0.out⟩, ⟨by repeat (first | (with_reducible first | exact HB.out | apply below_alloc | apply pw_below_drewN | apply below_drew1) | exact HB.out)⟩⟩
      case round =>
        clear H'
        try clear c1
        try clear p2
        try clear c3
        try clear p3
        try clear q3
        try clear hx3
        try clear p6
        try clear c7
        try clear c7b0
        try clear c7b1
        try clear c8
        try clear c8b0
        try clear c9
        try clear c9b0
        try clear c10
        try clear c10b0
        try clear c11
        try clear c11b0
        try clear c12
        try clear c12b0
        try clear hx315_0
        try clear hx315_1
        try clear hx315_2
        try clear hx315_3
        try clear hx315_4
        try clear hx315_5
        try clear hx316_0
        try clear hx316_1
        try clear hx316_2
        try clear hx316_3
        try clear hx316_4
        try clear hx316_5
        try clear p2
        try clear p3
        try clear p315
        try clear p316
        try clear p6
        try clear q3
        try clear q315
        try clear q316
        obtain ⟨x7_2, rfl, HA, HK2, HO_0, HB⟩ := hrel
        cases gk with
        | zero => exact absurd HA.out (by simp [lecternref14_Open.l1])
        | succ k2 =>
          have H := HA.out
          clear HA
          simp only [lecternref14_Open.l1] at H
          have HC15 := Aside0.mk H
          clear H
          go_upto_region 11 with (fail)
          repeat (go_quiet (fail); go_upto_region 11 with (fail))
          go_cut [47] (fun v47 wc => ∃ (kq : Nat) (x47_14 : Bool), v47 = .bool x47_14 ∧ Aside0 (lecternref14_Open.j3 kq x0_3 a1 x7_2 x47_14 = some r) ∧ Aside0 (kq ≤ k2) ∧ Aside0 (Kd.N k140 140 wc w.heap.size (fun k_ => (w.heap.size ≤ k_)) u0 x0_3) ∧ Aside0 (Below w.heap.size w wc))
          case first =>
            have H := HC15.out
            clear HC15
            by_cases c16 : x7_2 < (x0_3.length : Int)
            · rw [if_pos c16] at H
              have c16b0 : decide (x7_2 < (x0_3.length : Int)) = true := decide_eq_true c16
              clear c16
              (first | rw [c16b0] | (simp only [i64_w, i32_w]; rw [c16b0]) | skip)
              by_cases c17 : 0 ≤ x7_2
              · rw [if_pos c17] at H
                have c17b0 : decide (0 ≤ x7_2) = true := decide_eq_true c17
                clear c17
                have H' := Aside0.mk H
                clear H
                obtain ⟨Ao18, co18, eo18⟩ := Kd.N_slice HO_0.out
                subst eo18
                have p320 : 0 ≤ (x7_2 : Int) := of_decide_eq_true (by first | (with_reducible assumption) | assumption)
                have q320 : x7_2 < (x0_3.length : Int) := of_decide_eq_true (by first | (with_reducible assumption) | assumption)
                obtain ⟨ad320, A320_4, c320_4, e320, hx320_0, hx320_1, hx320_2, hx320_3, hx320_4, hx320_5, hl320_4, hi320_4⟩ := at_T140 (Kd.N_reads' HO_0.out).2.2 x7_2 p320 q320
                cases e320
                obtain ⟨ce320, hce320, hMe320, hcc320⟩ := Kd.N_get HO_0.out z140 x7_2 p320 (by first | exact q320 | exact of_decide_eq_true (by first | (with_reducible assumption) | assumption) | (have e_ := (Kd.N_reads' HO_0.out).1; omega))
                obtain ⟨ua320_4, uc320_4, rfl, ul320_4, ge320_4⟩ := k140_openF hMe320
                have hv320_4 := hcc320 4 _ rfl
                rw [add_field _ _ 4 (by omega)] at hv320_4
                replace hv320_4 := Option.some.inj (hv320_4.symm.trans hx320_4)
                injection hv320_4 with hva_ hvn_ hvc_
                rw [hva_] at ge320_4
                rw [hvc_] at ul320_4
                have HL320_4 := Aside0.mk (show Kd.V k53 53 _ w.heap.size _ _ ((rd_T140 x0_3 x7_2).f2.f2) from Kd.V_mk ul320_4 ge320_4)
                clear hva_ hvn_ hvc_ ge320_4 ul320_4
                clear hcc320 hce320
                have HR320_4 := Aside0.mk hi320_4
                have HC320_4 := Aside0.mk hl320_4
                clear hi320_4 hl320_4
                replace p320 := eq_true p320
                replace q320 := eq_true q320
                go_wp2
                repeat (go_quiet (fail); try go_wp2)
                go_meet
                case rel => exact ⟨_, (decide (((rd_T140 x0_3 x7_2).f0) < a1)), (by first | rfl | (simp; done) | (simp [*]; done)), H', ⟨by have := HJ3.out; have := HK2.out; first | omega | exact Nat.le_refl _⟩, ⟨by (with_reducible repeat (first | apply Kd.N_alloc | apply Kd.N_drewN | apply Kd.N_drew)); exact HO_0.out⟩, ⟨by repeat (first | (with_reducible first | exact HB.out | apply below_alloc | apply pw_below_drewN | apply below_drew1) | exact HB.out)⟩⟩
              · rw [if_neg c17] at H
                exact absurd H (by simp)
            · rw [if_neg c16] at H
              have c16b0 : decide (x7_2 < (x0_3.length : Int)) = false := decide_eq_false c16
              clear c16
              (first | rw [c16b0] | (simp only [i64_w, i32_w]; rw [c16b0]) | skip)
              have H' := Aside0.mk H
              clear H
              obtain ⟨Ao19, co19, eo19⟩ := Kd.N_slice HO_0.out
              subst eo19
              go_wp2
              repeat (go_quiet (fail); try go_wp2)
              go_meet
              case rel => exact ⟨_, (false), (by first | rfl | (simp; done) | (simp [*]; done)), H', ⟨by have := HJ3.out; have := HK2.out; first | omega | exact Nat.le_refl _⟩, ⟨by (with_reducible repeat (first | apply Kd.N_alloc | apply Kd.N_drewN | apply Kd.N_drew)); exact HO_0.out⟩, ⟨by repeat (first | (with_reducible first | exact HB.out | apply below_alloc | apply pw_below_drewN | apply below_drew1) | exact HB.out)⟩⟩
          case rest =>
            clear HC15
            try clear c1
            try clear p2
            try clear c3
            try clear p3
            try clear q3
            try clear hx3
            try clear p6
            try clear c7
            try clear c7b0
            try clear c7b1
            try clear c8
            try clear c8b0
            try clear c9
            try clear c9b0
            try clear c10
            try clear c10b0
            try clear c11
            try clear c11b0
            try clear c12
            try clear c12b0
            try clear c16
            try clear c16b0
            try clear c17
            try clear c17b0
            try clear hx315_0
            try clear hx315_1
            try clear hx315_2
            try clear hx315_3
            try clear hx315_4
            try clear hx315_5
            try clear hx316_0
            try clear hx316_1
            try clear hx316_2
            try clear hx316_3
            try clear hx316_4
            try clear hx316_5
            try clear hx320_0
            try clear hx320_1
            try clear hx320_2
            try clear hx320_3
            try clear hx320_4
            try clear hx320_5
            try clear p2
            try clear p3
            try clear p315
            try clear p316
            try clear p320
            try clear p6
            try clear q3
            try clear q315
            try clear q316
            try clear q320
            obtain ⟨kq, x47_14, rfl, HA, HJ14, HO_0, HB⟩ := hcut
            cases kq with
            | zero => exact absurd HA.out (by simp [lecternref14_Open.j3])
            | succ kj14 =>
              have H := HA.out
              clear HA
              simp only [lecternref14_Open.j3] at H
              by_cases c20 : x47_14 = true
              · subst c20
                have H1 : (lecternref14_Open.l1 kj14 x0_3 a1 (wrap64 (x7_2 + 1))) = some r := by rw [if_pos rfl] at H; exact H
                clear H
                have H := H1
                clear H1
                have H' := Aside0.mk H
                clear H
                go_wp2
                repeat (go_quiet (fail); try go_wp2)
                go_roundg kj14
                case measure => have := HJ3.out; have := HK2.out; have := HJ14.out; omega
                case rel => exact ⟨(wrap64 (x7_2 + 1)), (by first | rfl | (simp; done) | (simp [*]; done)), H', ⟨by have := HJ3.out; have := HK2.out; have := HJ14.out; omega⟩, ⟨by (with_reducible repeat (first | apply Kd.N_alloc | apply Kd.N_drewN | apply Kd.N_drew)); exact HO_0.out⟩, ⟨by repeat (first | (with_reducible first | exact HB.out | apply below_alloc | apply pw_below_drewN | apply below_drew1) | exact HB.out)⟩⟩
              · replace c20 := Bool.eq_false_iff.mpr c20
                subst c20
                have H1 : (if 0 ≤ x7_2 then (if x7_2 ≤ (x0_3.length : Int) then ((lecternref0_CopySessions.f kj14 (x0_3.take (x7_2 : Int).toNat)).bind fun t326 => (if t326.length < 2199023255552 then ((some (t326 ++ [(⟨a1, 0, (⟨0, 0, ([] : List (S53))⟩ : S70), a1⟩ : S140)] : List (S140))).bind fun y329 => ((some (x0_3.drop (x7_2 : Int).toNat : List (S140))).bind fun y332 => (if y329.length + y332.length < 2199023255552 then (some (y329 ++ y332)) else (none)))) else (none))) else (none)) else (none)) = some r := by rw [if_neg (show ¬ (false = true) by decide)] at H; exact H
                clear H
                have H := H1
                clear H1
                by_cases c21 : 0 ≤ x7_2
                · rw [if_pos c21] at H
                  have c21b0 := eq_true c21
                  have c21b1 : decide (0 ≤ x7_2) = true := decide_eq_true c21
                  clear c21
                  by_cases c22 : x7_2 ≤ (x0_3.length : Int)
                  · rw [if_pos c22] at H
                    have c22b0 := eq_true c22
                    have c22b1 : decide (x7_2 ≤ (x0_3.length : Int)) = true := decide_eq_true c22
                    clear c22
                    obtain ⟨y321, hy321⟩ : ∃ y_ : List (S140), y_ = (x0_3.take (x7_2 : Int).toNat) := ⟨_, rfl⟩
                    replace H : ((lecternref0_CopySessions.f kj14 y321).bind fun t326 => (if t326.length < 2199023255552 then ((some (t326 ++ [(⟨a1, 0, (⟨0, 0, ([] : List (S53))⟩ : S70), a1⟩ : S140)] : List (S140))).bind fun y329 => ((some (x0_3.drop (x7_2 : Int).toNat : List (S140))).bind fun y332 => (if y329.length + y332.length < 2199023255552 then (some (y329 ++ y332)) else (none)))) else (none))) = some r := by first | (rw [hy321]; with_reducible exact H) | (have H2_ := (Option.bind_some _ _).symm.trans H; rw [hy321]; with_reducible exact H2_) | (have H2_ := (Option.bind_some _ _).symm.trans H; with_reducible exact H2_) | with_reducible exact H | (rw [hy321]; exact H) | exact H
                    have Ny321 := Aside0.mk hy321
                    clear hy321
                    replace H := Option.bind_eq_some_iff.mp H
                    obtain ⟨t326, A230, H⟩ := H
                    replace H : (if t326.length < 2199023255552 then ((some (t326 ++ [(⟨a1, 0, (⟨0, 0, ([] : List (S53))⟩ : S70), a1⟩ : S140)] : List (S140))).bind fun y329 => ((some (x0_3.drop (x7_2 : Int).toNat : List (S140))).bind fun y332 => (if y329.length + y332.length < 2199023255552 then (some (y329 ++ y332)) else (none)))) else (none)) = some r := H
                    have A23 := Aside0.mk A230
                    clear A230
                    by_cases c24 : t326.length < 2199023255552
                    · rw [if_pos c24] at H
                      have LMc24 := Aside0.mk c24
                      clear c24
                      obtain ⟨y329, hy329⟩ : ∃ y_ : List (S140), y_ = (t326 ++ [(⟨a1, 0, (⟨0, 0, ([] : List (S53))⟩ : S70), a1⟩ : S140)]) := ⟨_, rfl⟩
                      replace H : ((some (x0_3.drop (x7_2 : Int).toNat : List (S140))).bind fun y332 => (if y329.length + y332.length < 2199023255552 then (some (y329 ++ y332)) else (none))) = some r := by first | (rw [hy329]; with_reducible exact H) | (have H2_ := (Option.bind_some _ _).symm.trans H; rw [hy329]; with_reducible exact H2_) | (have H2_ := (Option.bind_some _ _).symm.trans H; with_reducible exact H2_) | with_reducible exact H | (rw [hy329]; exact H) | exact H
                      have Ny329 := Aside0.mk hy329
                      clear hy329
                      have c25b0 := eq_true (of_decide_eq_true (by first | (with_reducible assumption) | assumption) : 0 ≤ x7_2)
                      have c26b0 := eq_true (of_decide_eq_true (by first | (with_reducible assumption) | assumption) : x7_2 ≤ (x0_3.length : Int))
                      obtain ⟨y332, hy332⟩ : ∃ y_ : List (S140), y_ = (x0_3.drop (x7_2 : Int).toNat) := ⟨_, rfl⟩
                      replace H : (if y329.length + y332.length < 2199023255552 then (some (y329 ++ y332)) else (none)) = some r := by first | (rw [hy332]; with_reducible exact H) | (have H2_ := (Option.bind_some _ _).symm.trans H; rw [hy332]; with_reducible exact H2_) | (have H2_ := (Option.bind_some _ _).symm.trans H; with_reducible exact H2_) | with_reducible exact H | (rw [hy332]; exact H) | exact H
                      have Ny332 := Aside0.mk hy332
                      clear hy332
                      by_cases c27 : y329.length + y332.length < 2199023255552
                      · rw [if_pos c27] at H
                        have LMc27 := Aside0.mk c27
                        clear c27
                        obtain ⟨y337, hy337⟩ : ∃ y_ : List (S140), y_ = (y329 ++ y332) := ⟨_, rfl⟩
                        replace H : (some y337) = some r := by first | (rw [hy337]; with_reducible exact H) | (have H2_ := (Option.bind_some _ _).symm.trans H; rw [hy337]; with_reducible exact H2_) | (have H2_ := (Option.bind_some _ _).symm.trans H; with_reducible exact H2_) | with_reducible exact H | (rw [hy337]; exact H) | exact H
                        have Ny337 := Aside0.mk hy337
                        clear hy337
                        obtain rfl := Option.some.inj H
                        obtain ⟨Ao29, co29, eo29⟩ := Kd.N_slice HO_0.out
                        subst eo29
                        have q28 : (x7_2 : Int) ≤ ((x0_3.length : Int) : Int) := of_decide_eq_true (by first | (with_reducible assumption) | assumption)
                        obtain ⟨i028, hi028, _, hsz28, _⟩ := info_parts info140
                        have hroom28 : x0_3.length ≤ co29 := (Kd.N_reads' HO_0.out).2.1
                        have hC28 : Kd.F k140 _ _ Ao29 x0_3.length x0_3 := (Kd.V_at (base := w.heap.size) (Kd.N_V HO_0.out)).2.2
                        have hcut28 := cut_to (P := Tryz.prog) 58 140 .i64 Tryz.underlying58 hi028 Ao29 x0_3.length co29 x7_2 (of_decide_eq_true (by first | (with_reducible assumption) | assumption)) q28 hroom28
                        have hr28 := Kd.F_take (m := (x7_2 : Int).toNat) hC28 (by omega)
                        have hy28 : y321.length = (x7_2 : Int).toNat := (by rw [Ny321.out, List.length_take]; omega)
                        rw [← Ny321.out] at hr28
                        rw [← hy28] at hcut28
                        have HO325 := Aside0.mk (show Kd.V k140 140 _ w.heap.size _ (.slice Ao29 y321.length co29) y321 from Kd.V_mk (by omega) hr28)
                        have HC325 := Aside0.mk (show y321.length ≤ co29 from by omega)
                        clear hr28 hC28 hroom28 hi028 hsz28
                        have KY28 := Aside0.mk hy28
                        clear hy28
                        replace q28 := eq_true q28
                        go_wp2_with (first | (go_at_call 94; (with_reducible refine (lecternref0_CopySessions.calls kj14 _ _ y321 t326 _ ?side1 ?side2 A23.out).mono ?_); (case side1 => repeat (first | exact (Kd.V_reads' HO325.out).2.2 | (with_reducible refine Kd.C_alloc ?_ _) | (with_reducible refine Kd.C_drewN ?_ _) | (with_reducible refine Kd.C_drew ?_))); (case side2 => exact (Kd.V_reads' HO325.out).2.1); rintro e w30 ⟨v327, rfl, ho0, hb⟩; have n0_ := Aside0.mk (Kd.N_elder' (by (with_reducible repeat (first | apply Kd.N_alloc | apply Kd.N_drewN | apply Kd.N_drew)); exact HO_0.out) (Kd.N_base (Kd.S_N ho0)) hb); have n1_ := Aside0.mk (Kd.V_elder' (by (with_reducible repeat (first | apply Kd.V_alloc | apply Kd.V_drewN | apply Kd.V_drew)); exact HO325.out) (Kd.N_base (Kd.S_N ho0)) hb); have n2_ := Aside0.mk (Kd.N_lower (Kd.N_mono (ok' := fun k_ => (w.heap.size ≤ k_) ∧ some k_ ≠ (.slice Ao29 x0_3.length co29 : Value).ownBlock) (Kd.S_N (Kd.S_bound ho0)) (fun k_ hk_ => ⟨(Nat.le_trans (below_size (by repeat (first | (with_reducible first | exact HB.out | apply below_alloc | apply pw_below_drewN | apply below_drew1) | exact HB.out))) hk_.2.1), (Kd.fresh' (Kd.N_lt (by (with_reducible repeat (first | apply Kd.N_alloc | apply Kd.N_drewN | apply Kd.N_drew)); exact HO_0.out)) k_ hk_.2.1)⟩)) (below_size (by repeat (first | (with_reducible first | exact HB.out | apply below_alloc | apply pw_below_drewN | apply below_drew1) | exact HB.out)))); have n3_ := Aside0.mk (below_step (by repeat (first | (with_reducible first | exact HB.out | apply below_alloc | apply pw_below_drewN | apply below_drew1) | exact HB.out)) hb); clear HO_0; clear HO325; clear HB; have HO_0 := n0_; have HO325 := n1_; have HO328 := n2_; have HB := n3_; clear n0_ n1_ n2_ n3_; (try clear hb); (try clear hb2); (try clear hk); (try clear hi); (try clear ho0)) | ((with_reducible refine gate_builtin (b := .append) (xs := #[.tmp 53, .tmp 57]) rfl ?_); at_builtin; refine Kd.N_append k140 (w0 := w) w.heap.size rfl (.tmp 53) (.tmp 57) 58 140 (.agg #[(.int .i64 0), (.int .i64 0), (.int .i64 0), (.int .i64 0), (.slice none 0 0), (.int .i64 0)]) 64 rfl Tryz.underlying58 info140 rfl (by decide) (by omega) v327 t326 (⟨a1, 0, (⟨0, 0, ([] : List (S53))⟩ : S70), a1⟩ : S140) [.int .i64 a1, .int .i64 0, .int .i64 0, .int .i64 0, .slice none 0 0, .int .i64 a1] (fun k_ => (w.heap.size ≤ k_) ∧ some k_ ≠ (.slice Ao29 x0_3.length co29 : Value).ownBlock) (fun k_ => ((fun k_ => (w.heap.size ≤ k_) ∧ some k_ ≠ (.slice Ao29 x0_3.length co29 : Value).ownBlock)) k_ ∧ some k_ ≠ (v327 : Value).ownBlock) rfl rfl ?aP (fun _ hk => hk) ?aF ?aO ?aB ?aS ?aL ?_; (case aP => exact (k140_mkF _ _ (⟨a1, 0, (⟨0, 0, ([] : List (S53))⟩ : S70), a1⟩ : S140) (Nat.le_refl _) (Kd.F_nil _ _ _))); (case aB => exact (by repeat (first | (with_reducible first | exact HB.out | apply below_alloc | apply pw_below_drewN | apply below_drew1) | exact HB.out))); (case aF => exact (fun k_ hk => ⟨(Nat.le_trans (below_size (by repeat (first | (with_reducible first | exact HB.out | apply below_alloc | apply pw_below_drewN | apply below_drew1) | exact HB.out))) hk), Kd.fresh' (Kd.N_lt (by (with_reducible repeat (first | apply Kd.N_alloc | apply Kd.N_drewN | apply Kd.N_drew)); exact HO_0.out)) k_ hk⟩)); (case aO => exact (by (with_reducible repeat (first | apply Kd.N_alloc | apply Kd.N_drewN | apply Kd.N_drew)); exact HO328.out)); (case aS => exact (below_size (by repeat (first | (with_reducible first | exact HB.out | apply below_alloc | apply pw_below_drewN | apply below_drew1) | exact HB.out)))); (case aL => have := LMc24.out; omega); intro v330 w31 ho hb hg hat; rw [← Ny329.out] at ho; have n0_ := Aside0.mk (Kd.N_afterv (ok := (fun k_ => (w.heap.size ≤ k_))) (by (with_reducible repeat (first | apply Kd.N_alloc | apply Kd.N_drewN | apply Kd.N_drew)); exact HO_0.out) hg hat); have n1_ := Aside0.mk (Kd.V_afterv (ok := (fun k_ => (w.heap.size ≤ k_))) (by (with_reducible repeat (first | apply Kd.V_alloc | apply Kd.V_drewN | apply Kd.V_drew)); exact HO325.out) hg hat); have n2_ := Aside0.mk (hb); have n3_ := Aside0.mk (ho); clear HO_0; clear HO325; clear HB; clear HO328; have HO_0 := n0_; have HO325 := n1_; have HB := n2_; have HO331 := n3_; clear n0_ n1_ n2_ n3_; clear ho hb hg hat; have q32 : (x7_2 : Int) ≤ ((x0_3.length : Int) : Int) := of_decide_eq_true (by first | (with_reducible assumption) | assumption); obtain ⟨i032, hi032, _, hsz32, _⟩ := info_parts info140; have hroom32 : x0_3.length ≤ co29 := (Kd.N_reads' HO_0.out).2.1; have hC32 : Kd.F k140 _ _ Ao29 x0_3.length x0_3 := (Kd.V_at (base := w.heap.size) (Kd.N_V HO_0.out)).2.2; have q032 : (0 : Int) ≤ (x7_2 : Int) := of_decide_eq_true (by first | (with_reducible assumption) | assumption); have hcut32 := cut_from (P := Tryz.prog) 58 140 .i64 Tryz.underlying58 hi032 6 hsz32 Ao29 x0_3.length co29 x7_2 q032 q32; have hr32 := Kd.F_cut (m := (x7_2 : Int).toNat) (c := co29) hC32 (by omega) hroom32; obtain ⟨A32, hA32⟩ : ∃ A1, A1 = (if co29 = (x7_2 : Int).toNat then Ao29 else (Ao29 : Option Addr).map (·.add ((x7_2 : Int).toNat * 6))) := ⟨_, rfl⟩; obtain ⟨c32, hc32⟩ : ∃ c1, c1 = co29 - (x7_2 : Int).toNat := ⟨_, rfl⟩; have hy32 : y332.length = x0_3.length - (x7_2 : Int).toNat := (by rw [Ny332.out, List.length_drop] <;> omega); rw [show (x0_3).drop (x7_2 : Int).toNat = y332 from Ny332.out.symm] at hr32; replace hr32 : Kd.F k140 _ _ A32 y332.length y332 := (by rw [hA32]; exact hr32); rw [← hy32, ← hA32, ← hc32] at hcut32; have HO336 := Aside0.mk (show Kd.V k140 140 _ w.heap.size _ (.slice A32 y332.length c32) y332 from Kd.V_mk (by rw [hy32, hc32]; exact Nat.sub_le_sub_right hroom32 _) hr32); have HC336 := Aside0.mk (show y332.length ≤ c32 from by rw [hy32, hc32]; exact Nat.sub_le_sub_right hroom32 _); clear hr32 hC32 hroom32 hi032 hsz32 hc32; have KY32 := Aside0.mk hy32; have KA32 := Aside0.mk hA32; clear hy32 hA32; replace q32 := eq_true q32) | ((with_reducible refine gate_builtin (b := .append) (xs := #[.tmp 59, .tmp 62]) rfl ?_); at_builtin; refine Kd.N_append_rows k140 (w0 := w) w.heap.size rfl (.tmp 59) (.tmp 62) 58 140 (.agg #[(.int .i64 0), (.int .i64 0), (.int .i64 0), (.int .i64 0), (.slice none 0 0), (.int .i64 0)]) 64 rfl Tryz.underlying58 info140 rfl (by decide) (by omega) v330 y329 y332 _ _ _ (fun k_ => (w.heap.size ≤ k_)) (fun k_ => ((fun k_ => (w.heap.size ≤ k_))) k_ ∧ some k_ ≠ (v330 : Value).ownBlock) rfl rfl ?aO ?aR (fun _ hk => hk) ?aF ?aB ?aS ?aL ?_; (case aR => exact (by skip; exact Kd.V_F (Kd.V_mono (ok' := (fun k_ => ((fun k_ => (w.heap.size ≤ k_))) k_ ∧ some k_ ≠ (v330 : Value).ownBlock)) (HO336.out) (fun k_ hk => ⟨hk.1, hk.2⟩)))); (case aB => exact (by repeat (first | (with_reducible first | exact HB.out | apply below_alloc | apply pw_below_drewN | apply below_drew1) | exact HB.out))); (case aF => exact (fun k_ hk => (Nat.le_trans (below_size (by repeat (first | (with_reducible first | exact HB.out | apply below_alloc | apply pw_below_drewN | apply below_drew1) | exact HB.out))) hk))); (case aO => exact (by (with_reducible repeat (first | apply Kd.N_alloc | apply Kd.N_drewN | apply Kd.N_drew)); exact Kd.N_mono HO331.out (fun _ hk => hk.1))); (case aS => exact (below_size (by repeat (first | (with_reducible first | exact HB.out | apply below_alloc | apply pw_below_drewN | apply below_drew1) | exact HB.out)))); (case aL => have := LMc27.out; omega); intro v338 w33 ho hb hg hat; rw [← Ny337.out] at ho; have n0_ := Aside0.mk (Kd.N_afterv (ok := (fun k_ => (w.heap.size ≤ k_))) (by (with_reducible repeat (first | apply Kd.N_alloc | apply Kd.N_drewN | apply Kd.N_drew)); exact HO_0.out) hg hat); have n1_ := Aside0.mk (Kd.V_afterv (ok := (fun k_ => (w.heap.size ≤ k_))) (by (with_reducible repeat (first | apply Kd.V_alloc | apply Kd.V_drewN | apply Kd.V_drew)); exact HO325.out) hg hat); have n2_ := Aside0.mk (Kd.V_afterv (ok := (fun k_ => (w.heap.size ≤ k_))) (by (with_reducible repeat (first | apply Kd.V_alloc | apply Kd.V_drewN | apply Kd.V_drew)); exact HO336.out) hg hat); have n3_ := Aside0.mk (hb); have n4_ := Aside0.mk (ho); clear HO_0; clear HO325; clear HO336; clear HB; clear HO331; have HO_0 := n0_; have HO325 := n1_; have HO336 := n2_; have HB := n3_; have HO339 := n4_; clear n0_ n1_ n2_ n3_ n4_; clear ho hb hg hat))
                        repeat (go_quiet (first | (go_at_call 94; (with_reducible refine (lecternref0_CopySessions.calls kj14 _ _ y321 t326 _ ?side1 ?side2 A23.out).mono ?_); (case side1 => repeat (first | exact (Kd.V_reads' HO325.out).2.2 | (with_reducible refine Kd.C_alloc ?_ _) | (with_reducible refine Kd.C_drewN ?_ _) | (with_reducible refine Kd.C_drew ?_))); (case side2 => exact (Kd.V_reads' HO325.out).2.1); rintro e w30 ⟨v327, rfl, ho0, hb⟩; have n0_ := Aside0.mk (Kd.N_elder' (by (with_reducible repeat (first | apply Kd.N_alloc | apply Kd.N_drewN | apply Kd.N_drew)); exact HO_0.out) (Kd.N_base (Kd.S_N ho0)) hb); have n1_ := Aside0.mk (Kd.V_elder' (by (with_reducible repeat (first | apply Kd.V_alloc | apply Kd.V_drewN | apply Kd.V_drew)); exact HO325.out) (Kd.N_base (Kd.S_N ho0)) hb); have n2_ := Aside0.mk (Kd.N_lower (Kd.N_mono (ok' := fun k_ => (w.heap.size ≤ k_) ∧ some k_ ≠ (.slice Ao29 x0_3.length co29 : Value).ownBlock) (Kd.S_N (Kd.S_bound ho0)) (fun k_ hk_ => ⟨(Nat.le_trans (below_size (by repeat (first | (with_reducible first | exact HB.out | apply below_alloc | apply pw_below_drewN | apply below_drew1) | exact HB.out))) hk_.2.1), (Kd.fresh' (Kd.N_lt (by (with_reducible repeat (first | apply Kd.N_alloc | apply Kd.N_drewN | apply Kd.N_drew)); exact HO_0.out)) k_ hk_.2.1)⟩)) (below_size (by repeat (first | (with_reducible first | exact HB.out | apply below_alloc | apply pw_below_drewN | apply below_drew1) | exact HB.out)))); have n3_ := Aside0.mk (below_step (by repeat (first | (with_reducible first | exact HB.out | apply below_alloc | apply pw_below_drewN | apply below_drew1) | exact HB.out)) hb); clear HO_0; clear HO325; clear HB; have HO_0 := n0_; have HO325 := n1_; have HO328 := n2_; have HB := n3_; clear n0_ n1_ n2_ n3_; (try clear hb); (try clear hb2); (try clear hk); (try clear hi); (try clear ho0)) | ((with_reducible refine gate_builtin (b := .append) (xs := #[.tmp 53, .tmp 57]) rfl ?_); at_builtin; refine Kd.N_append k140 (w0 := w) w.heap.size rfl (.tmp 53) (.tmp 57) 58 140 (.agg #[(.int .i64 0), (.int .i64 0), (.int .i64 0), (.int .i64 0), (.slice none 0 0), (.int .i64 0)]) 64 rfl Tryz.underlying58 info140 rfl (by decide) (by omega) v327 t326 (⟨a1, 0, (⟨0, 0, ([] : List (S53))⟩ : S70), a1⟩ : S140) [.int .i64 a1, .int .i64 0, .int .i64 0, .int .i64 0, .slice none 0 0, .int .i64 a1] (fun k_ => (w.heap.size ≤ k_) ∧ some k_ ≠ (.slice Ao29 x0_3.length co29 : Value).ownBlock) (fun k_ => ((fun k_ => (w.heap.size ≤ k_) ∧ some k_ ≠ (.slice Ao29 x0_3.length co29 : Value).ownBlock)) k_ ∧ some k_ ≠ (v327 : Value).ownBlock) rfl rfl ?aP (fun _ hk => hk) ?aF ?aO ?aB ?aS ?aL ?_; (case aP => exact (k140_mkF _ _ (⟨a1, 0, (⟨0, 0, ([] : List (S53))⟩ : S70), a1⟩ : S140) (Nat.le_refl _) (Kd.F_nil _ _ _))); (case aB => exact (by repeat (first | (with_reducible first | exact HB.out | apply below_alloc | apply pw_below_drewN | apply below_drew1) | exact HB.out))); (case aF => exact (fun k_ hk => ⟨(Nat.le_trans (below_size (by repeat (first | (with_reducible first | exact HB.out | apply below_alloc | apply pw_below_drewN | apply below_drew1) | exact HB.out))) hk), Kd.fresh' (Kd.N_lt (by (with_reducible repeat (first | apply Kd.N_alloc | apply Kd.N_drewN | apply Kd.N_drew)); exact HO_0.out)) k_ hk⟩)); (case aO => exact (by (with_reducible repeat (first | apply Kd.N_alloc | apply Kd.N_drewN | apply Kd.N_drew)); exact HO328.out)); (case aS => exact (below_size (by repeat (first | (with_reducible first | exact HB.out | apply below_alloc | apply pw_below_drewN | apply below_drew1) | exact HB.out)))); (case aL => have := LMc24.out; omega); intro v330 w31 ho hb hg hat; rw [← Ny329.out] at ho; have n0_ := Aside0.mk (Kd.N_afterv (ok := (fun k_ => (w.heap.size ≤ k_))) (by (with_reducible repeat (first | apply Kd.N_alloc | apply Kd.N_drewN | apply Kd.N_drew)); exact HO_0.out) hg hat); have n1_ := Aside0.mk (Kd.V_afterv (ok := (fun k_ => (w.heap.size ≤ k_))) (by (with_reducible repeat (first | apply Kd.V_alloc | apply Kd.V_drewN | apply Kd.V_drew)); exact HO325.out) hg hat); have n2_ := Aside0.mk (hb); have n3_ := Aside0.mk (ho); clear HO_0; clear HO325; clear HB; clear HO328; have HO_0 := n0_; have HO325 := n1_; have HB := n2_; have HO331 := n3_; clear n0_ n1_ n2_ n3_; clear ho hb hg hat; have q32 : (x7_2 : Int) ≤ ((x0_3.length : Int) : Int) := of_decide_eq_true (by first | (with_reducible assumption) | assumption); obtain ⟨i032, hi032, _, hsz32, _⟩ := info_parts info140; have hroom32 : x0_3.length ≤ co29 := (Kd.N_reads' HO_0.out).2.1; have hC32 : Kd.F k140 _ _ Ao29 x0_3.length x0_3 := (Kd.V_at (base := w.heap.size) (Kd.N_V HO_0.out)).2.2; have q032 : (0 : Int) ≤ (x7_2 : Int) := of_decide_eq_true (by first | (with_reducible assumption) | assumption); have hcut32 := cut_from (P := Tryz.prog) 58 140 .i64 Tryz.underlying58 hi032 6 hsz32 Ao29 x0_3.length co29 x7_2 q032 q32; have hr32 := Kd.F_cut (m := (x7_2 : Int).toNat) (c := co29) hC32 (by omega) hroom32; obtain ⟨A32, hA32⟩ : ∃ A1, A1 = (if co29 = (x7_2 : Int).toNat then Ao29 else (Ao29 : Option Addr).map (·.add ((x7_2 : Int).toNat * 6))) := ⟨_, rfl⟩; obtain ⟨c32, hc32⟩ : ∃ c1, c1 = co29 - (x7_2 : Int).toNat := ⟨_, rfl⟩; have hy32 : y332.length = x0_3.length - (x7_2 : Int).toNat := (by rw [Ny332.out, List.length_drop] <;> omega); rw [show (x0_3).drop (x7_2 : Int).toNat = y332 from Ny332.out.symm] at hr32; replace hr32 : Kd.F k140 _ _ A32 y332.length y332 := (by rw [hA32]; exact hr32); rw [← hy32, ← hA32, ← hc32] at hcut32; have HO336 := Aside0.mk (show Kd.V k140 140 _ w.heap.size _ (.slice A32 y332.length c32) y332 from Kd.V_mk (by rw [hy32, hc32]; exact Nat.sub_le_sub_right hroom32 _) hr32); have HC336 := Aside0.mk (show y332.length ≤ c32 from by rw [hy32, hc32]; exact Nat.sub_le_sub_right hroom32 _); clear hr32 hC32 hroom32 hi032 hsz32 hc32; have KY32 := Aside0.mk hy32; have KA32 := Aside0.mk hA32; clear hy32 hA32; replace q32 := eq_true q32) | ((with_reducible refine gate_builtin (b := .append) (xs := #[.tmp 59, .tmp 62]) rfl ?_); at_builtin; refine Kd.N_append_rows k140 (w0 := w) w.heap.size rfl (.tmp 59) (.tmp 62) 58 140 (.agg #[(.int .i64 0), (.int .i64 0), (.int .i64 0), (.int .i64 0), (.slice none 0 0), (.int .i64 0)]) 64 rfl Tryz.underlying58 info140 rfl (by decide) (by omega) v330 y329 y332 _ _ _ (fun k_ => (w.heap.size ≤ k_)) (fun k_ => ((fun k_ => (w.heap.size ≤ k_))) k_ ∧ some k_ ≠ (v330 : Value).ownBlock) rfl rfl ?aO ?aR (fun _ hk => hk) ?aF ?aB ?aS ?aL ?_; (case aR => exact (by skip; exact Kd.V_F (Kd.V_mono (ok' := (fun k_ => ((fun k_ => (w.heap.size ≤ k_))) k_ ∧ some k_ ≠ (v330 : Value).ownBlock)) (HO336.out) (fun k_ hk => ⟨hk.1, hk.2⟩)))); (case aB => exact (by repeat (first | (with_reducible first | exact HB.out | apply below_alloc | apply pw_below_drewN | apply below_drew1) | exact HB.out))); (case aF => exact (fun k_ hk => (Nat.le_trans (below_size (by repeat (first | (with_reducible first | exact HB.out | apply below_alloc | apply pw_below_drewN | apply below_drew1) | exact HB.out))) hk))); (case aO => exact (by (with_reducible repeat (first | apply Kd.N_alloc | apply Kd.N_drewN | apply Kd.N_drew)); exact Kd.N_mono HO331.out (fun _ hk => hk.1))); (case aS => exact (below_size (by repeat (first | (with_reducible first | exact HB.out | apply below_alloc | apply pw_below_drewN | apply below_drew1) | exact HB.out)))); (case aL => have := LMc27.out; omega); intro v338 w33 ho hb hg hat; rw [← Ny337.out] at ho; have n0_ := Aside0.mk (Kd.N_afterv (ok := (fun k_ => (w.heap.size ≤ k_))) (by (with_reducible repeat (first | apply Kd.N_alloc | apply Kd.N_drewN | apply Kd.N_drew)); exact HO_0.out) hg hat); have n1_ := Aside0.mk (Kd.V_afterv (ok := (fun k_ => (w.heap.size ≤ k_))) (by (with_reducible repeat (first | apply Kd.V_alloc | apply Kd.V_drewN | apply Kd.V_drew)); exact HO325.out) hg hat); have n2_ := Aside0.mk (Kd.V_afterv (ok := (fun k_ => (w.heap.size ≤ k_))) (by (with_reducible repeat (first | apply Kd.V_alloc | apply Kd.V_drewN | apply Kd.V_drew)); exact HO336.out) hg hat); have n3_ := Aside0.mk (hb); have n4_ := Aside0.mk (ho); clear HO_0; clear HO325; clear HO336; clear HB; clear HO331; have HO_0 := n0_; have HO325 := n1_; have HO336 := n2_; have HB := n3_; have HO339 := n4_; clear n0_ n1_ n2_ n3_ n4_; clear ho hb hg hat)); try go_wp2_with (first | (go_at_call 94; (with_reducible refine (lecternref0_CopySessions.calls kj14 _ _ y321 t326 _ ?side1 ?side2 A23.out).mono ?_); (case side1 => repeat (first | exact (Kd.V_reads' HO325.out).2.2 | (with_reducible refine Kd.C_alloc ?_ _) | (with_reducible refine Kd.C_drewN ?_ _) | (with_reducible refine Kd.C_drew ?_))); (case side2 => exact (Kd.V_reads' HO325.out).2.1); rintro e w30 ⟨v327, rfl, ho0, hb⟩; have n0_ := Aside0.mk (Kd.N_elder' (by (with_reducible repeat (first | apply Kd.N_alloc | apply Kd.N_drewN | apply Kd.N_drew)); exact HO_0.out) (Kd.N_base (Kd.S_N ho0)) hb); have n1_ := Aside0.mk (Kd.V_elder' (by (with_reducible repeat (first | apply Kd.V_alloc | apply Kd.V_drewN | apply Kd.V_drew)); exact HO325.out) (Kd.N_base (Kd.S_N ho0)) hb); have n2_ := Aside0.mk (Kd.N_lower (Kd.N_mono (ok' := fun k_ => (w.heap.size ≤ k_) ∧ some k_ ≠ (.slice Ao29 x0_3.length co29 : Value).ownBlock) (Kd.S_N (Kd.S_bound ho0)) (fun k_ hk_ => ⟨(Nat.le_trans (below_size (by repeat (first | (with_reducible first | exact HB.out | apply below_alloc | apply pw_below_drewN | apply below_drew1) | exact HB.out))) hk_.2.1), (Kd.fresh' (Kd.N_lt (by (with_reducible repeat (first | apply Kd.N_alloc | apply Kd.N_drewN | apply Kd.N_drew)); exact HO_0.out)) k_ hk_.2.1)⟩)) (below_size (by repeat (first | (with_reducible first | exact HB.out | apply below_alloc | apply pw_below_drewN | apply below_drew1) | exact HB.out)))); have n3_ := Aside0.mk (below_step (by repeat (first | (with_reducible first | exact HB.out | apply below_alloc | apply pw_below_drewN | apply below_drew1) | exact HB.out)) hb); clear HO_0; clear HO325; clear HB; have HO_0 := n0_; have HO325 := n1_; have HO328 := n2_; have HB := n3_; clear n0_ n1_ n2_ n3_; (try clear hb); (try clear hb2); (try clear hk); (try clear hi); (try clear ho0)) | ((with_reducible refine gate_builtin (b := .append) (xs := #[.tmp 53, .tmp 57]) rfl ?_); at_builtin; refine Kd.N_append k140 (w0 := w) w.heap.size rfl (.tmp 53) (.tmp 57) 58 140 (.agg #[(.int .i64 0), (.int .i64 0), (.int .i64 0), (.int .i64 0), (.slice none 0 0), (.int .i64 0)]) 64 rfl Tryz.underlying58 info140 rfl (by decide) (by omega) v327 t326 (⟨a1, 0, (⟨0, 0, ([] : List (S53))⟩ : S70), a1⟩ : S140) [.int .i64 a1, .int .i64 0, .int .i64 0, .int .i64 0, .slice none 0 0, .int .i64 a1] (fun k_ => (w.heap.size ≤ k_) ∧ some k_ ≠ (.slice Ao29 x0_3.length co29 : Value).ownBlock) (fun k_ => ((fun k_ => (w.heap.size ≤ k_) ∧ some k_ ≠ (.slice Ao29 x0_3.length co29 : Value).ownBlock)) k_ ∧ some k_ ≠ (v327 : Value).ownBlock) rfl rfl ?aP (fun _ hk => hk) ?aF ?aO ?aB ?aS ?aL ?_; (case aP => exact (k140_mkF _ _ (⟨a1, 0, (⟨0, 0, ([] : List (S53))⟩ : S70), a1⟩ : S140) (Nat.le_refl _) (Kd.F_nil _ _ _))); (case aB => exact (by repeat (first | (with_reducible first | exact HB.out | apply below_alloc | apply pw_below_drewN | apply below_drew1) | exact HB.out))); (case aF => exact (fun k_ hk => ⟨(Nat.le_trans (below_size (by repeat (first | (with_reducible first | exact HB.out | apply below_alloc | apply pw_below_drewN | apply below_drew1) | exact HB.out))) hk), Kd.fresh' (Kd.N_lt (by (with_reducible repeat (first | apply Kd.N_alloc | apply Kd.N_drewN | apply Kd.N_drew)); exact HO_0.out)) k_ hk⟩)); (case aO => exact (by (with_reducible repeat (first | apply Kd.N_alloc | apply Kd.N_drewN | apply Kd.N_drew)); exact HO328.out)); (case aS => exact (below_size (by repeat (first | (with_reducible first | exact HB.out | apply below_alloc | apply pw_below_drewN | apply below_drew1) | exact HB.out)))); (case aL => have := LMc24.out; omega); intro v330 w31 ho hb hg hat; rw [← Ny329.out] at ho; have n0_ := Aside0.mk (Kd.N_afterv (ok := (fun k_ => (w.heap.size ≤ k_))) (by (with_reducible repeat (first | apply Kd.N_alloc | apply Kd.N_drewN | apply Kd.N_drew)); exact HO_0.out) hg hat); have n1_ := Aside0.mk (Kd.V_afterv (ok := (fun k_ => (w.heap.size ≤ k_))) (by (with_reducible repeat (first | apply Kd.V_alloc | apply Kd.V_drewN | apply Kd.V_drew)); exact HO325.out) hg hat); have n2_ := Aside0.mk (hb); have n3_ := Aside0.mk (ho); clear HO_0; clear HO325; clear HB; clear HO328; have HO_0 := n0_; have HO325 := n1_; have HB := n2_; have HO331 := n3_; clear n0_ n1_ n2_ n3_; clear ho hb hg hat; have q32 : (x7_2 : Int) ≤ ((x0_3.length : Int) : Int) := of_decide_eq_true (by first | (with_reducible assumption) | assumption); obtain ⟨i032, hi032, _, hsz32, _⟩ := info_parts info140; have hroom32 : x0_3.length ≤ co29 := (Kd.N_reads' HO_0.out).2.1; have hC32 : Kd.F k140 _ _ Ao29 x0_3.length x0_3 := (Kd.V_at (base := w.heap.size) (Kd.N_V HO_0.out)).2.2; have q032 : (0 : Int) ≤ (x7_2 : Int) := of_decide_eq_true (by first | (with_reducible assumption) | assumption); have hcut32 := cut_from (P := Tryz.prog) 58 140 .i64 Tryz.underlying58 hi032 6 hsz32 Ao29 x0_3.length co29 x7_2 q032 q32; have hr32 := Kd.F_cut (m := (x7_2 : Int).toNat) (c := co29) hC32 (by omega) hroom32; obtain ⟨A32, hA32⟩ : ∃ A1, A1 = (if co29 = (x7_2 : Int).toNat then Ao29 else (Ao29 : Option Addr).map (·.add ((x7_2 : Int).toNat * 6))) := ⟨_, rfl⟩; obtain ⟨c32, hc32⟩ : ∃ c1, c1 = co29 - (x7_2 : Int).toNat := ⟨_, rfl⟩; have hy32 : y332.length = x0_3.length - (x7_2 : Int).toNat := (by rw [Ny332.out, List.length_drop] <;> omega); rw [show (x0_3).drop (x7_2 : Int).toNat = y332 from Ny332.out.symm] at hr32; replace hr32 : Kd.F k140 _ _ A32 y332.length y332 := (by rw [hA32]; exact hr32); rw [← hy32, ← hA32, ← hc32] at hcut32; have HO336 := Aside0.mk (show Kd.V k140 140 _ w.heap.size _ (.slice A32 y332.length c32) y332 from Kd.V_mk (by rw [hy32, hc32]; exact Nat.sub_le_sub_right hroom32 _) hr32); have HC336 := Aside0.mk (show y332.length ≤ c32 from by rw [hy32, hc32]; exact Nat.sub_le_sub_right hroom32 _); clear hr32 hC32 hroom32 hi032 hsz32 hc32; have KY32 := Aside0.mk hy32; have KA32 := Aside0.mk hA32; clear hy32 hA32; replace q32 := eq_true q32) | ((with_reducible refine gate_builtin (b := .append) (xs := #[.tmp 59, .tmp 62]) rfl ?_); at_builtin; refine Kd.N_append_rows k140 (w0 := w) w.heap.size rfl (.tmp 59) (.tmp 62) 58 140 (.agg #[(.int .i64 0), (.int .i64 0), (.int .i64 0), (.int .i64 0), (.slice none 0 0), (.int .i64 0)]) 64 rfl Tryz.underlying58 info140 rfl (by decide) (by omega) v330 y329 y332 _ _ _ (fun k_ => (w.heap.size ≤ k_)) (fun k_ => ((fun k_ => (w.heap.size ≤ k_))) k_ ∧ some k_ ≠ (v330 : Value).ownBlock) rfl rfl ?aO ?aR (fun _ hk => hk) ?aF ?aB ?aS ?aL ?_; (case aR => exact (by skip; exact Kd.V_F (Kd.V_mono (ok' := (fun k_ => ((fun k_ => (w.heap.size ≤ k_))) k_ ∧ some k_ ≠ (v330 : Value).ownBlock)) (HO336.out) (fun k_ hk => ⟨hk.1, hk.2⟩)))); (case aB => exact (by repeat (first | (with_reducible first | exact HB.out | apply below_alloc | apply pw_below_drewN | apply below_drew1) | exact HB.out))); (case aF => exact (fun k_ hk => (Nat.le_trans (below_size (by repeat (first | (with_reducible first | exact HB.out | apply below_alloc | apply pw_below_drewN | apply below_drew1) | exact HB.out))) hk))); (case aO => exact (by (with_reducible repeat (first | apply Kd.N_alloc | apply Kd.N_drewN | apply Kd.N_drew)); exact Kd.N_mono HO331.out (fun _ hk => hk.1))); (case aS => exact (below_size (by repeat (first | (with_reducible first | exact HB.out | apply below_alloc | apply pw_below_drewN | apply below_drew1) | exact HB.out)))); (case aL => have := LMc27.out; omega); intro v338 w33 ho hb hg hat; rw [← Ny337.out] at ho; have n0_ := Aside0.mk (Kd.N_afterv (ok := (fun k_ => (w.heap.size ≤ k_))) (by (with_reducible repeat (first | apply Kd.N_alloc | apply Kd.N_drewN | apply Kd.N_drew)); exact HO_0.out) hg hat); have n1_ := Aside0.mk (Kd.V_afterv (ok := (fun k_ => (w.heap.size ≤ k_))) (by (with_reducible repeat (first | apply Kd.V_alloc | apply Kd.V_drewN | apply Kd.V_drew)); exact HO325.out) hg hat); have n2_ := Aside0.mk (Kd.V_afterv (ok := (fun k_ => (w.heap.size ≤ k_))) (by (with_reducible repeat (first | apply Kd.V_alloc | apply Kd.V_drewN | apply Kd.V_drew)); exact HO336.out) hg hat); have n3_ := Aside0.mk (hb); have n4_ := Aside0.mk (ho); clear HO_0; clear HO325; clear HO336; clear HB; clear HO331; have HO_0 := n0_; have HO325 := n1_; have HO336 := n2_; have HB := n3_; have HO339 := n4_; clear n0_ n1_ n2_ n3_ n4_; clear ho hb hg hat)))
                        go_ret
                        exact ⟨_, by first | rfl | (simp [errW_none, errW_some] <;> rfl) | (simp [*, errW_none, errW_some] <;> rfl), by (with_reducible repeat (first | apply Kd.N_alloc | apply Kd.N_drewN | apply Kd.N_drew)); exact HO339.out, by repeat (first | (with_reducible first | exact HB.out | apply below_alloc | apply pw_below_drewN | apply below_drew1) | exact HB.out)⟩
                      · rw [if_neg c27] at H
                        exact absurd H (by simp)
                    · rw [if_neg c24] at H
                      exact absurd H (by simp)
                  · rw [if_neg c22] at H
                    exact absurd H (by simp)
                · rw [if_neg c21] at H
                  exact absurd H (by simp)

end Go.Proofs.YtpeldaogdeefeaaGreat.M
