-- Written by a program: the kit's printer with changes of this session (NOTES.md).
import Derived.Test.YtcacckaonjnmjaaSx0
import Derived.Test.YtcacckaonjnmjaaSx37
import Derived.Test.YtcacckaonjnmjaaSx39
namespace Go.Proofs.Ytcacckaonjnmjaa.S
open Go.RowKit Go.Proofs.YtcacckaonjnmjaaW.PrintWords Go.Proofs.YtcacckaonjnmjaaW.PrintLast Go.Proofs.YtcacckaonjnmjaaW.PrintMore
attribute [local go_sem] max2_int min2_int max_two min_two max_three min_three max_four min_four   -- for this text's walks alone
set_option linter.unusedVariables false
set_option linter.unusedSimpArgs false

-- shrunk
/-! ### lecternref14_Open: function 33 -/
mutual
def lecternref14_Open.j1 : Nat → List (S88) → Int → Option ((List (S88)))
 | 0, _, _ => none
 | k + 1, x0, x1 => lecternref14_Open.l1 k x0 x1 0
def lecternref14_Open.l1 : Nat → List (S88) → Int → Int → Option ((List (S88)))
 | 0, _, _, _ => none
 | k + 1, x0, x1, x7 => if x7 < (x0.length : Int) then (if 0 ≤ x7 then (lecternref14_Open.j3 k x0 x1 x7 (decide (((rd_T88 x0 x7).f0) < x1))) else (none)) else (lecternref14_Open.j3 k x0 x1 x7 false)
def lecternref14_Open.j3 : Nat → List (S88) → Int → Int → Bool → Option ((List (S88)))
 | 0, _, _, _, _ => none
 | k + 1, x0, x1, x7, x47 => if x47 = true then (lecternref14_Open.l1 k x0 x1 (wrap64 (x7 + 1))) else (if 0 ≤ x7 then (if x7 ≤ (x0.length : Int) then ((lecternref0_CopySessions.f k (x0.take (x7 : Int).toNat)).bind fun t282 => (if t282.length < 2199023255552 then ((some (t282 ++ [(⟨x1, 0, (⟨0, 0, ([] : List (S116))⟩ : S31), x1⟩ : S88)] : List (S88))).bind fun y285 => ((some (x0.drop (x7 : Int).toNat : List (S88))).bind fun y288 => (if y285.length + y288.length < 2199023255552 then (some (y285 ++ y288)) else (none)))) else (none))) else (none)) else (none))
def lecternref14_Open.l0 : Nat → List (S88) → Int → Int → Int → Option ((List (S88)))
 | 0, _, _, _, _ => none
 | k + 1, x0, x1, x5, x6 => if x6 < (x0.length : Int) then (if 0 ≤ x6 then (if 0 ≤ x5 then (if x5 < (x0.length : Int) then (if ((rd_T88 x0 x6).f3) < ((rd_T88 x0 x5).f3) then (lecternref14_Open.l0 k x0 x1 x6 (wrap64 (x6 + 1))) else (lecternref14_Open.l0 k x0 x1 x5 (wrap64 (x6 + 1)))) else (none)) else (none)) else (none)) else ((lecternref14_drop.f k x0 x5).bind fun t273 => (lecternref14_Open.j1 k t273 x1))
end
def lecternref14_Open.f (k : Nat) (l0 : List (S88)) (a1 : Int) : Option ((List (S88))) := (lecternref0_CopySessions.f k l0).bind fun t268 => (if (t268.length : Int) = 8 then (lecternref14_Open.l0 k t268 a1 0 1) else (lecternref14_Open.j1 k t268 a1))
theorem lecternref14_Open.mono_l : ∀ k, (∀ y0 y1, LeO (lecternref14_Open.j1 k y0 y1) (lecternref14_Open.j1 (k + 1) y0 y1)) ∧ (∀ y0 y1 y2, LeO (lecternref14_Open.l1 k y0 y1 y2) (lecternref14_Open.l1 (k + 1) y0 y1 y2)) ∧ (∀ y0 y1 y2 y3, LeO (lecternref14_Open.j3 k y0 y1 y2 y3) (lecternref14_Open.j3 (k + 1) y0 y1 y2 y3)) ∧ (∀ y0 y1 y2 y3, LeO (lecternref14_Open.l0 k y0 y1 y2 y3) (lecternref14_Open.l0 (k + 1) y0 y1 y2 y3))
 | 0 => ⟨fun _ _ r h => by simp [lecternref14_Open.j1] at h, fun _ _ _ r h => by simp [lecternref14_Open.l1] at h, fun _ _ _ _ r h => by simp [lecternref14_Open.j3] at h, fun _ _ _ _ r h => by simp [lecternref14_Open.l0] at h⟩
 | k + 1 => by
  obtain ⟨ih0, ih1, ih2, ih3⟩ := lecternref14_Open.mono_l k
  refine ⟨?_, ?_, ?_, ?_⟩
  ·intro y0 y1
   unfold lecternref14_Open.j1
   repeat' first
   | (with_reducible exact ih0 _ _)
   | (with_reducible exact ih1 _ _ _)
   | (with_reducible exact ih2 _ _ _ _)
   | (with_reducible exact ih3 _ _ _ _)
   | (with_reducible exact lecternref0_CopySessions.mono _ _)
   | (with_reducible exact lecternref14_drop.mono _ _ _)
   | (with_reducible exact LeO.refl _)
   | (with_reducible exact LeO.none _)
   | (with_reducible refine LeO.ite ?_ ?_)
   | (with_reducible refine LeO.bind ?_ (fun _ => ?_))
   | exact ih0 _ _
   | exact ih1 _ _ _
   | exact ih2 _ _ _ _
   | exact ih3 _ _ _ _
   | exact lecternref0_CopySessions.mono _ _
   | exact lecternref14_drop.mono _ _ _
   | exact LeO.none _
   | refine LeO.ite ?_ ?_
   | refine LeO.bind ?_ (fun _ => ?_)
  ·intro y0 y1 y2
   unfold lecternref14_Open.l1
   repeat' first
   | (with_reducible exact ih0 _ _)
   | (with_reducible exact ih1 _ _ _)
   | (with_reducible exact ih2 _ _ _ _)
   | (with_reducible exact ih3 _ _ _ _)
   | (with_reducible exact lecternref0_CopySessions.mono _ _)
   | (with_reducible exact lecternref14_drop.mono _ _ _)
   | (with_reducible exact LeO.refl _)
   | (with_reducible exact LeO.none _)
   | (with_reducible refine LeO.ite ?_ ?_)
   | (with_reducible refine LeO.bind ?_ (fun _ => ?_))
   | exact ih0 _ _
   | exact ih1 _ _ _
   | exact ih2 _ _ _ _
   | exact ih3 _ _ _ _
   | exact lecternref0_CopySessions.mono _ _
   | exact lecternref14_drop.mono _ _ _
   | exact LeO.none _
   | refine LeO.ite ?_ ?_
   | refine LeO.bind ?_ (fun _ => ?_)
  ·intro y0 y1 y2 y3
   unfold lecternref14_Open.j3
   repeat' first
   | (with_reducible exact ih0 _ _)
   | (with_reducible exact ih1 _ _ _)
   | (with_reducible exact ih2 _ _ _ _)
   | (with_reducible exact ih3 _ _ _ _)
   | (with_reducible exact lecternref0_CopySessions.mono _ _)
   | (with_reducible exact lecternref14_drop.mono _ _ _)
   | (with_reducible exact LeO.refl _)
   | (with_reducible exact LeO.none _)
   | (with_reducible refine LeO.ite ?_ ?_)
   | (with_reducible refine LeO.bind ?_ (fun _ => ?_))
   | exact ih0 _ _
   | exact ih1 _ _ _
   | exact ih2 _ _ _ _
   | exact ih3 _ _ _ _
   | exact lecternref0_CopySessions.mono _ _
   | exact lecternref14_drop.mono _ _ _
   | exact LeO.none _
   | refine LeO.ite ?_ ?_
   | refine LeO.bind ?_ (fun _ => ?_)
  ·intro y0 y1 y2 y3
   unfold lecternref14_Open.l0
   repeat' first
   | (with_reducible exact ih0 _ _)
   | (with_reducible exact ih1 _ _ _)
   | (with_reducible exact ih2 _ _ _ _)
   | (with_reducible exact ih3 _ _ _ _)
   | (with_reducible exact lecternref0_CopySessions.mono _ _)
   | (with_reducible exact lecternref14_drop.mono _ _ _)
   | (with_reducible exact LeO.refl _)
   | (with_reducible exact LeO.none _)
   | (with_reducible refine LeO.ite ?_ ?_)
   | (with_reducible refine LeO.bind ?_ (fun _ => ?_))
   | exact ih0 _ _
   | exact ih1 _ _ _
   | exact ih2 _ _ _ _
   | exact ih3 _ _ _ _
   | exact lecternref0_CopySessions.mono _ _
   | exact lecternref14_drop.mono _ _ _
   | exact LeO.none _
   | refine LeO.ite ?_ ?_
   | refine LeO.bind ?_ (fun _ => ?_)
theorem lecternref14_Open.mono : ∀ a0 a1 k, LeO (lecternref14_Open.f k a0 a1) (lecternref14_Open.f (k + 1) a0 a1) := by
 intro a0 a1 k
 obtain ⟨ih0, ih1, ih2, ih3⟩ := lecternref14_Open.mono_l k
 unfold lecternref14_Open.f
 repeat' first
   | (with_reducible exact ih0 _ _)
   | (with_reducible exact ih1 _ _ _)
   | (with_reducible exact ih2 _ _ _ _)
   | (with_reducible exact ih3 _ _ _ _)
   | (with_reducible exact lecternref0_CopySessions.mono _ _)
   | (with_reducible exact lecternref14_drop.mono _ _ _)
   | (with_reducible exact LeO.refl _)
   | (with_reducible exact LeO.none _)
   | (with_reducible refine LeO.ite ?_ ?_)
   | (with_reducible refine LeO.bind ?_ (fun _ => ?_))
   | exact ih0 _ _
   | exact ih1 _ _ _
   | exact ih2 _ _ _ _
   | exact ih3 _ _ _ _
   | exact lecternref0_CopySessions.mono _ _
   | exact lecternref14_drop.mono _ _ _
   | exact LeO.none _
   | refine LeO.ite ?_ ?_
   | refine LeO.bind ?_ (fun _ => ?_)
set_option maxHeartbeats 8000000 in
set_option maxRecDepth 100000 in
theorem lecternref14_Open.calls (k : Nat) (A0 : Option Addr) (c0 : Nat) (l0 : List (S88)) (a1 : Int) (r : List (S88)) (w : World) (hr0 : Kd.C k88 w A0 l0.length l0) (hc0 : l0.length ≤ c0) (h : lecternref14_Open.f k l0 a1 = some r) :
  Calls Try.prog 33 #[.slice A0 l0.length c0, .int .i64 a1] w fun e w' => ∃ v0_ : Value, e = .returned (v0_) ∧ Kd.N k88 88 w' w.heap.size (fun k_ => (w.heap.size ≤ k_)) v0_ r ∧ Below w.heap.size w w' := by
 have hu88 := Try.underlying88
 have HR0 := Aside0.mk hr0
 have HC0 := Aside0.mk hc0
 clear hr0 hc0
 have HB := Aside0.mk (Below.refl w.heap.size w)
 have H : ((lecternref0_CopySessions.f k l0).bind fun t268 => (if (t268.length : Int) = 8 then (lecternref14_Open.l0 k t268 a1 0 1) else (lecternref14_Open.j1 k t268 a1))) = some r := h
 clear h
 replace H := Option.bind_eq_some_iff.mp H
 obtain ⟨t268, A30, H⟩ := H
 replace H : (if (t268.length : Int) = 8 then (lecternref14_Open.l0 k t268 a1 0 1) else (lecternref14_Open.j1 k t268 a1)) = some r := H
 have A3 := Aside0.mk A30
 clear A30
 have HC4 := Aside0.mk H
 clear H
 go_enter Try.func33, Try.ntmps33
 go_upto_if 13 with (first | (go_at_call 26; (with_reducible refine (lecternref0_CopySessions.calls k _ _ l0 t268 _ ?side1 ?side2 A3.out).mono ?_); (case side1 => repeat (first | exact HR0.out | (with_reducible refine Kd.C_alloc ?_ _) | (with_reducible refine Kd.C_drewN ?_ _) | (with_reducible refine Kd.C_drew ?_))); (case side2 => exact HC0.out); rintro e w5 ⟨v269, rfl, ho0, hb⟩; have n0_ := Aside0.mk (Kd.N_lower (Kd.N_mono (ok' := fun k_ => (w.heap.size ≤ k_)) (Kd.S_N (Kd.S_bound ho0)) (fun k_ hk_ => (Nat.le_trans (below_size (by repeat (first | (with_reducible first | exact HB.out | apply below_alloc | apply pw_below_drewN | apply below_drew1) | exact HB.out))) hk_.2.1))) (below_size (by repeat (first | (with_reducible first | exact HB.out | apply below_alloc | apply pw_below_drewN | apply below_drew1) | exact HB.out)))); have n1_ := Aside0.mk (below_step (by repeat (first | (with_reducible first | exact HB.out | apply below_alloc | apply pw_below_drewN | apply below_drew1) | exact HB.out)) hb); clear HB; have HO270 := n0_; have HB := n1_; clear n0_ n1_; (try clear hb); (try clear hb2); (try clear hk); (try clear hi); (try clear ho0); obtain ⟨Ao6, co6, eo6⟩ := Kd.N_slice HO270.out; subst eo6))
 repeat (go_quiet (first | (go_at_call 26; (with_reducible refine (lecternref0_CopySessions.calls k _ _ l0 t268 _ ?side1 ?side2 A3.out).mono ?_); (case side1 => repeat (first | exact HR0.out | (with_reducible refine Kd.C_alloc ?_ _) | (with_reducible refine Kd.C_drewN ?_ _) | (with_reducible refine Kd.C_drew ?_))); (case side2 => exact HC0.out); rintro e w5 ⟨v269, rfl, ho0, hb⟩; have n0_ := Aside0.mk (Kd.N_lower (Kd.N_mono (ok' := fun k_ => (w.heap.size ≤ k_)) (Kd.S_N (Kd.S_bound ho0)) (fun k_ hk_ => (Nat.le_trans (below_size (by repeat (first | (with_reducible first | exact HB.out | apply below_alloc | apply pw_below_drewN | apply below_drew1) | exact HB.out))) hk_.2.1))) (below_size (by repeat (first | (with_reducible first | exact HB.out | apply below_alloc | apply pw_below_drewN | apply below_drew1) | exact HB.out)))); have n1_ := Aside0.mk (below_step (by repeat (first | (with_reducible first | exact HB.out | apply below_alloc | apply pw_below_drewN | apply below_drew1) | exact HB.out)) hb); clear HB; have HO270 := n0_; have HB := n1_; clear n0_ n1_; (try clear hb); (try clear hb2); (try clear hk); (try clear hi); (try clear ho0); obtain ⟨Ao6, co6, eo6⟩ := Kd.N_slice HO270.out; subst eo6)); go_upto_if 13 with (first | (go_at_call 26; (with_reducible refine (lecternref0_CopySessions.calls k _ _ l0 t268 _ ?side1 ?side2 A3.out).mono ?_); (case side1 => repeat (first | exact HR0.out | (with_reducible refine Kd.C_alloc ?_ _) | (with_reducible refine Kd.C_drewN ?_ _) | (with_reducible refine Kd.C_drew ?_))); (case side2 => exact HC0.out); rintro e w5 ⟨v269, rfl, ho0, hb⟩; have n0_ := Aside0.mk (Kd.N_lower (Kd.N_mono (ok' := fun k_ => (w.heap.size ≤ k_)) (Kd.S_N (Kd.S_bound ho0)) (fun k_ hk_ => (Nat.le_trans (below_size (by repeat (first | (with_reducible first | exact HB.out | apply below_alloc | apply pw_below_drewN | apply below_drew1) | exact HB.out))) hk_.2.1))) (below_size (by repeat (first | (with_reducible first | exact HB.out | apply below_alloc | apply pw_below_drewN | apply below_drew1) | exact HB.out)))); have n1_ := Aside0.mk (below_step (by repeat (first | (with_reducible first | exact HB.out | apply below_alloc | apply pw_below_drewN | apply below_drew1) | exact HB.out)) hb); clear HB; have HO270 := n0_; have HB := n1_; clear n0_ n1_; (try clear hb); (try clear hb2); (try clear hk); (try clear hi); (try clear ho0); obtain ⟨Ao6, co6, eo6⟩ := Kd.N_slice HO270.out; subst eo6)))
 (try simp only [Act.put, List.setIfInBounds_toArray, List.set_cons_zero, List.set_cons_succ])
 go_cut [0] (fun v0 wc => ∃ (kq : Nat) (x0_3 : List (S88)), Aside0 (lecternref14_Open.j1 kq x0_3 a1 = some r) ∧ Aside0 (kq ≤ k) ∧ Aside0 (Kd.N k88 88 wc w.heap.size (fun k_ => (w.heap.size ≤ k_)) v0 x0_3) ∧ Aside0 (Below w.heap.size w wc))
 case first =>
  have H := HC4.out
  clear HC4
  by_cases c7 : (t268.length : Int) = 8
  ·rw [if_pos c7] at H
   have c7b0 : ((t268.length : Int) == 8) = true := beq_iff_eq.mpr c7
   have c7b1 : ((t268.length : Int) != 8) = false := bne_eq_false_iff_eq.mpr c7
   clear c7
   (first | rw [c7b0] | (simp only [i64_w, i32_w]; rw [c7b0]) | skip)
   have H' := Aside0.mk H
   clear H
   go_wp2
   repeat (go_quiet (fail); try go_wp2)
   go_loopg [5, 6] k (fun kq v5 v6 w' => ∃ (x5_1 : Int) (x6_1 : Int), v5 = .int .i64 x5_1 ∧ v6 = .int .i64 x6_1 ∧ Aside0 (lecternref14_Open.l0 kq t268 a1 x5_1 x6_1 = some r) ∧ Aside0 (kq ≤ k) ∧ Aside0 (Kd.N k88 88 w' w.heap.size (fun k_ => (w.heap.size ≤ k_)) (.slice Ao6 t268.length co6) t268) ∧ Aside0 (Below w.heap.size w w'))
   case atStart => exact ⟨(0), (1), (by first | rfl | (simp; done) | (simp [*]; done)), (by first | rfl | (simp; done) | (simp [*]; done)), H', ⟨Nat.le_refl _⟩, ⟨by (with_reducible repeat (first | apply Kd.N_alloc | apply Kd.N_drewN | apply Kd.N_drew)); exact HO270.out⟩, ⟨by repeat (first | (with_reducible first | exact HB.out | apply below_alloc | apply pw_below_drewN | apply below_drew1) | exact HB.out)⟩⟩
   case round =>
    clear H'
    try clear p2
    try clear c3
    try clear c7
    try clear c7b0
    try clear c7b1
    obtain ⟨x5_1, x6_1, rfl, rfl, HA, HK1, HO_0, HB⟩ := hrel
    cases gk with
    | zero => exact absurd HA.out (by simp [lecternref14_Open.l0])
    | succ k1 =>
     have H := HA.out
     clear HA
     simp only [lecternref14_Open.l0] at H
     by_cases c8 : x6_1 < (t268.length : Int)
     ·rw [if_pos c8] at H
      have c8b0 : decide (x6_1 < (t268.length : Int)) = true := decide_eq_true c8
      clear c8
      by_cases c9 : 0 ≤ x6_1
      ·rw [if_pos c9] at H
       have c9b0 : decide (0 ≤ x6_1) = true := decide_eq_true c9
       clear c9
       by_cases c10 : 0 ≤ x5_1
       ·rw [if_pos c10] at H
        have c10b0 : decide (0 ≤ x5_1) = true := decide_eq_true c10
        clear c10
        by_cases c11 : x5_1 < (t268.length : Int)
        ·rw [if_pos c11] at H
         have c11b0 : decide (x5_1 < (t268.length : Int)) = true := decide_eq_true c11
         clear c11
         by_cases c12 : ((rd_T88 t268 x6_1).f3) < ((rd_T88 t268 x5_1).f3)
         ·rw [if_pos c12] at H
          have c12b0 : decide (((rd_T88 t268 x6_1).f3) < ((rd_T88 t268 x5_1).f3)) = true := decide_eq_true c12
          clear c12
          have H' := Aside0.mk H
          clear H
          have p271 : 0 ≤ (x6_1 : Int) := of_decide_eq_true (by assumption)
          have q271 : x6_1 < (t268.length : Int) := of_decide_eq_true (by assumption)
          obtain ⟨ad271, A271_4, c271_4, e271, hx271_0, hx271_1, hx271_2, hx271_3, hx271_4, hx271_5, hl271_4, hi271_4⟩ := at_T88 (Kd.N_reads' HO_0.out).2.2 x6_1 p271 q271
          cases e271
          obtain ⟨ce271, hce271, hMe271, hcc271⟩ := Kd.N_get HO_0.out z88 x6_1 p271 (by first | exact q271 | exact of_decide_eq_true (by assumption) | (have e_ := (Kd.N_reads' HO_0.out).1; omega))
          obtain ⟨ua271_4, uc271_4, rfl, ul271_4, ge271_4⟩ := k88_openF hMe271
          have hv271_4 := hcc271 4 _ rfl
          rw [add_field _ _ 4 (by omega)] at hv271_4
          replace hv271_4 := Option.some.inj (hv271_4.symm.trans hx271_4)
          injection hv271_4 with hva_ hvn_ hvc_
          rw [hva_] at ge271_4
          rw [hvc_] at ul271_4
          have HL271_4 := Aside0.mk (show Kd.V k116 116 _ w.heap.size _ _ ((rd_T88 t268 x6_1).f2.f2) from Kd.V_mk ul271_4 ge271_4)
          clear hva_ hvn_ hvc_ ge271_4 ul271_4
          clear hcc271 hce271
          have HR271_4 := Aside0.mk hi271_4
          have HC271_4 := Aside0.mk hl271_4
          clear hi271_4 hl271_4
          replace p271 := eq_true p271
          replace q271 := eq_true q271
          have p272 : 0 ≤ (x5_1 : Int) := of_decide_eq_true (by assumption)
          have q272 : x5_1 < (t268.length : Int) := of_decide_eq_true (by assumption)
          obtain ⟨ad272, A272_4, c272_4, e272, hx272_0, hx272_1, hx272_2, hx272_3, hx272_4, hx272_5, hl272_4, hi272_4⟩ := at_T88 (Kd.N_reads' HO_0.out).2.2 x5_1 p272 q272
          obtain rfl : ad271 = ad272 := (by injection e272)
          obtain ⟨ce272, hce272, hMe272, hcc272⟩ := Kd.N_get HO_0.out z88 x5_1 p272 (by first | exact q272 | exact of_decide_eq_true (by assumption) | (have e_ := (Kd.N_reads' HO_0.out).1; omega))
          obtain ⟨ua272_4, uc272_4, rfl, ul272_4, ge272_4⟩ := k88_openF hMe272
          have hv272_4 := hcc272 4 _ rfl
          rw [add_field _ _ 4 (by omega)] at hv272_4
          replace hv272_4 := Option.some.inj (hv272_4.symm.trans hx272_4)
          injection hv272_4 with hva_ hvn_ hvc_
          rw [hva_] at ge272_4
          rw [hvc_] at ul272_4
          have HL272_4 := Aside0.mk (show Kd.V k116 116 _ w.heap.size _ _ ((rd_T88 t268 x5_1).f2.f2) from Kd.V_mk ul272_4 ge272_4)
          clear hva_ hvn_ hvc_ ge272_4 ul272_4
          clear hcc272 hce272
          have HR272_4 := Aside0.mk hi272_4
          have HC272_4 := Aside0.mk hl272_4
          clear hi272_4 hl272_4
          replace p272 := eq_true p272
          replace q272 := eq_true q272
          go_wp2
          repeat (go_quiet (fail); try go_wp2)
          go_roundg k1
          case measure => have := HK1.out; omega
          case rel => exact ⟨(x6_1), (wrap64 (x6_1 + 1)), (by first | rfl | (simp; done) | (simp [*]; done)), (by first | rfl | (simp; done) | (simp [*]; done)), H', ⟨by have := HK1.out; omega⟩, ⟨by (with_reducible repeat (first | apply Kd.N_alloc | apply Kd.N_drewN | apply Kd.N_drew)); exact HO_0.out⟩, ⟨by repeat (first | (with_reducible first | exact HB.out | apply below_alloc | apply pw_below_drewN | apply below_drew1) | exact HB.out)⟩⟩
         ·rw [if_neg c12] at H
          have c12b0 : decide (((rd_T88 t268 x6_1).f3) < ((rd_T88 t268 x5_1).f3)) = false := decide_eq_false c12
          clear c12
          have H' := Aside0.mk H
          clear H
          have p271 : 0 ≤ (x6_1 : Int) := of_decide_eq_true (by assumption)
          have q271 : x6_1 < (t268.length : Int) := of_decide_eq_true (by assumption)
          obtain ⟨ad271, A271_4, c271_4, e271, hx271_0, hx271_1, hx271_2, hx271_3, hx271_4, hx271_5, hl271_4, hi271_4⟩ := at_T88 (Kd.N_reads' HO_0.out).2.2 x6_1 p271 q271
          cases e271
          obtain ⟨ce271, hce271, hMe271, hcc271⟩ := Kd.N_get HO_0.out z88 x6_1 p271 (by first | exact q271 | exact of_decide_eq_true (by assumption) | (have e_ := (Kd.N_reads' HO_0.out).1; omega))
          obtain ⟨ua271_4, uc271_4, rfl, ul271_4, ge271_4⟩ := k88_openF hMe271
          have hv271_4 := hcc271 4 _ rfl
          rw [add_field _ _ 4 (by omega)] at hv271_4
          replace hv271_4 := Option.some.inj (hv271_4.symm.trans hx271_4)
          injection hv271_4 with hva_ hvn_ hvc_
          rw [hva_] at ge271_4
          rw [hvc_] at ul271_4
          have HL271_4 := Aside0.mk (show Kd.V k116 116 _ w.heap.size _ _ ((rd_T88 t268 x6_1).f2.f2) from Kd.V_mk ul271_4 ge271_4)
          clear hva_ hvn_ hvc_ ge271_4 ul271_4
          clear hcc271 hce271
          have HR271_4 := Aside0.mk hi271_4
          have HC271_4 := Aside0.mk hl271_4
          clear hi271_4 hl271_4
          replace p271 := eq_true p271
          replace q271 := eq_true q271
          have p272 : 0 ≤ (x5_1 : Int) := of_decide_eq_true (by assumption)
          have q272 : x5_1 < (t268.length : Int) := of_decide_eq_true (by assumption)
          obtain ⟨ad272, A272_4, c272_4, e272, hx272_0, hx272_1, hx272_2, hx272_3, hx272_4, hx272_5, hl272_4, hi272_4⟩ := at_T88 (Kd.N_reads' HO_0.out).2.2 x5_1 p272 q272
          obtain rfl : ad271 = ad272 := (by injection e272)
          obtain ⟨ce272, hce272, hMe272, hcc272⟩ := Kd.N_get HO_0.out z88 x5_1 p272 (by first | exact q272 | exact of_decide_eq_true (by assumption) | (have e_ := (Kd.N_reads' HO_0.out).1; omega))
          obtain ⟨ua272_4, uc272_4, rfl, ul272_4, ge272_4⟩ := k88_openF hMe272
          have hv272_4 := hcc272 4 _ rfl
          rw [add_field _ _ 4 (by omega)] at hv272_4
          replace hv272_4 := Option.some.inj (hv272_4.symm.trans hx272_4)
          injection hv272_4 with hva_ hvn_ hvc_
          rw [hva_] at ge272_4
          rw [hvc_] at ul272_4
          have HL272_4 := Aside0.mk (show Kd.V k116 116 _ w.heap.size _ _ ((rd_T88 t268 x5_1).f2.f2) from Kd.V_mk ul272_4 ge272_4)
          clear hva_ hvn_ hvc_ ge272_4 ul272_4
          clear hcc272 hce272
          have HR272_4 := Aside0.mk hi272_4
          have HC272_4 := Aside0.mk hl272_4
          clear hi272_4 hl272_4
          replace p272 := eq_true p272
          replace q272 := eq_true q272
          go_wp2
          repeat (go_quiet (fail); try go_wp2)
          go_roundg k1
          case measure => have := HK1.out; omega
          case rel => exact ⟨(x5_1), (wrap64 (x6_1 + 1)), (by first | rfl | (simp; done) | (simp [*]; done)), (by first | rfl | (simp; done) | (simp [*]; done)), H', ⟨by have := HK1.out; omega⟩, ⟨by (with_reducible repeat (first | apply Kd.N_alloc | apply Kd.N_drewN | apply Kd.N_drew)); exact HO_0.out⟩, ⟨by repeat (first | (with_reducible first | exact HB.out | apply below_alloc | apply pw_below_drewN | apply below_drew1) | exact HB.out)⟩⟩
        ·rw [if_neg c11] at H
         exact absurd H (by simp)
       ·rw [if_neg c10] at H
        exact absurd H (by simp)
      ·rw [if_neg c9] at H
       exact absurd H (by simp)
     ·rw [if_neg c8] at H
      have c8b0 : decide (x6_1 < (t268.length : Int)) = false := decide_eq_false c8
      clear c8
      replace H := Option.bind_eq_some_iff.mp H
      obtain ⟨t273, A130, H⟩ := H
      replace H : (lecternref14_Open.j1 k1 t273 a1) = some r := H
      have A13 := Aside0.mk A130
      clear A130
      have H' := Aside0.mk H
      clear H
      go_wp2_with (first | (go_at_call 70; (with_reducible refine (lecternref14_drop.calls k1 (fun k_ => (w.heap.size ≤ k_)) _ _ t268 x5_1 t273 _ ?side1 A13.out).mono ?_); (case side1 => exact Kd.N_V (HO_0.out)); rintro e w14 ⟨v274, rfl, ho0, hb⟩; have n0_ := Aside0.mk (Kd.N_elder' (by (with_reducible repeat (first | apply Kd.N_alloc | apply Kd.N_drewN | apply Kd.N_drew)); exact HO_0.out) (Kd.N_base ho0) hb); have n1_ := Aside0.mk (Kd.N_lower (Kd.N_mono (ok' := fun k_ => (w.heap.size ≤ k_)) ho0 (fun k_ hk_ => Or.elim hk_ (fun hs_ => hs_) (fun hn_ => (Nat.le_trans (below_size (by repeat (first | (with_reducible first | exact HB.out | apply below_alloc | apply pw_below_drewN | apply below_drew1) | exact HB.out))) hn_)))) (below_size (by repeat (first | (with_reducible first | exact HB.out | apply below_alloc | apply pw_below_drewN | apply below_drew1) | exact HB.out)))); have n2_ := Aside0.mk (below_step (by repeat (first | (with_reducible first | exact HB.out | apply below_alloc | apply pw_below_drewN | apply below_drew1) | exact HB.out)) hb); clear HO_0; clear HB; have HO_0 := n0_; have HO275 := n1_; have HB := n2_; clear n0_ n1_ n2_; (try clear hb); (try clear hb2); (try clear hk); (try clear hi); (try clear ho0)))
      repeat (go_quiet (first | (go_at_call 70; (with_reducible refine (lecternref14_drop.calls k1 (fun k_ => (w.heap.size ≤ k_)) _ _ t268 x5_1 t273 _ ?side1 A13.out).mono ?_); (case side1 => exact Kd.N_V (HO_0.out)); rintro e w14 ⟨v274, rfl, ho0, hb⟩; have n0_ := Aside0.mk (Kd.N_elder' (by (with_reducible repeat (first | apply Kd.N_alloc | apply Kd.N_drewN | apply Kd.N_drew)); exact HO_0.out) (Kd.N_base ho0) hb); have n1_ := Aside0.mk (Kd.N_lower (Kd.N_mono (ok' := fun k_ => (w.heap.size ≤ k_)) ho0 (fun k_ hk_ => Or.elim hk_ (fun hs_ => hs_) (fun hn_ => (Nat.le_trans (below_size (by repeat (first | (with_reducible first | exact HB.out | apply below_alloc | apply pw_below_drewN | apply below_drew1) | exact HB.out))) hn_)))) (below_size (by repeat (first | (with_reducible first | exact HB.out | apply below_alloc | apply pw_below_drewN | apply below_drew1) | exact HB.out)))); have n2_ := Aside0.mk (below_step (by repeat (first | (with_reducible first | exact HB.out | apply below_alloc | apply pw_below_drewN | apply below_drew1) | exact HB.out)) hb); clear HO_0; clear HB; have HO_0 := n0_; have HO275 := n1_; have HB := n2_; clear n0_ n1_ n2_; (try clear hb); (try clear hb2); (try clear hk); (try clear hi); (try clear ho0))); try go_wp2_with (first | (go_at_call 70; (with_reducible refine (lecternref14_drop.calls k1 (fun k_ => (w.heap.size ≤ k_)) _ _ t268 x5_1 t273 _ ?side1 A13.out).mono ?_); (case side1 => exact Kd.N_V (HO_0.out)); rintro e w14 ⟨v274, rfl, ho0, hb⟩; have n0_ := Aside0.mk (Kd.N_elder' (by (with_reducible repeat (first | apply Kd.N_alloc | apply Kd.N_drewN | apply Kd.N_drew)); exact HO_0.out) (Kd.N_base ho0) hb); have n1_ := Aside0.mk (Kd.N_lower (Kd.N_mono (ok' := fun k_ => (w.heap.size ≤ k_)) ho0 (fun k_ hk_ => Or.elim hk_ (fun hs_ => hs_) (fun hn_ => (Nat.le_trans (below_size (by repeat (first | (with_reducible first | exact HB.out | apply below_alloc | apply pw_below_drewN | apply below_drew1) | exact HB.out))) hn_)))) (below_size (by repeat (first | (with_reducible first | exact HB.out | apply below_alloc | apply pw_below_drewN | apply below_drew1) | exact HB.out)))); have n2_ := Aside0.mk (below_step (by repeat (first | (with_reducible first | exact HB.out | apply below_alloc | apply pw_below_drewN | apply below_drew1) | exact HB.out)) hb); clear HO_0; clear HB; have HO_0 := n0_; have HO275 := n1_; have HB := n2_; clear n0_ n1_ n2_; (try clear hb); (try clear hb2); (try clear hk); (try clear hi); (try clear ho0))))
      go_meet
      case rel => exact ⟨_, (t273), H', ⟨by have := HK1.out; first | omega | exact Nat.le_refl _⟩, ⟨by (with_reducible repeat (first | apply Kd.N_alloc | apply Kd.N_drewN | apply Kd.N_drew)); exact HO275.out⟩, ⟨by repeat (first | (with_reducible first | exact HB.out | apply below_alloc | apply pw_below_drewN | apply below_drew1) | exact HB.out)⟩⟩
  ·rw [if_neg c7] at H
   have c7b0 : ((t268.length : Int) == 8) = false := beq_eq_false_iff_ne.mpr c7
   have c7b1 : ((t268.length : Int) != 8) = true := bne_iff_ne.mpr c7
   (first | rw [c7b0] | (simp only [i64_w, i32_w]; rw [c7b0]) | skip)
   have H' := Aside0.mk H
   clear H
   go_wp2
   repeat (go_quiet (fail); try go_wp2)
   go_meet
   case rel => exact ⟨_, (t268), H', ⟨by first | omega | exact Nat.le_refl _⟩, ⟨by (with_reducible repeat (first | apply Kd.N_alloc | apply Kd.N_drewN | apply Kd.N_drew)); exact HO270.out⟩, ⟨by repeat (first | (with_reducible first | exact HB.out | apply below_alloc | apply pw_below_drewN | apply below_drew1) | exact HB.out)⟩⟩
 case rest =>
  clear HC4
  try clear c1
  try clear c2
  try clear p2
  try clear q2
  try clear hx2
  try clear c3
  try clear p6
  try clear c7
  try clear c7b0
  try clear c7b1
  try clear c8
  try clear c8b0
  try clear c9
  try clear c9b0
  try clear c10
  try clear c10b0
  try clear c11
  try clear c11b0
  try clear c12
  try clear c12b0
  try clear hx271_0
  try clear hx271_1
  try clear hx271_2
  try clear hx271_3
  try clear hx271_4
  try clear hx271_5
  try clear hx272_0
  try clear hx272_1
  try clear hx272_2
  try clear hx272_3
  try clear hx272_4
  try clear hx272_5
  try clear p2
  try clear p271
  try clear p272
  try clear q271
  try clear q272
  obtain ⟨kq, x0_3, HA, HJ3, HO_0, HB⟩ := hcut
  cases kq with
  | zero => exact absurd HA.out (by simp [lecternref14_Open.j1])
  | succ kj3 =>
   have H := HA.out
   clear HA
   simp only [lecternref14_Open.j1] at H
   have H' := Aside0.mk H
   clear H
   go_wp2
   repeat (go_quiet (fail); try go_wp2)
   go_loopg [7] kj3 (fun kq v7 w' => ∃ (x7_2 : Int), v7 = .int .i64 x7_2 ∧ Aside0 (lecternref14_Open.l1 kq x0_3 a1 x7_2 = some r) ∧ Aside0 (kq ≤ kj3) ∧ Aside0 (Kd.N k88 88 w' w.heap.size (fun k_ => (w.heap.size ≤ k_)) u0 x0_3) ∧ Aside0 (Below w.heap.size w w'))
   case atStart => exact ⟨(0), (by first | rfl | (simp; done) | (simp [*]; done)), H', ⟨Nat.le_refl _⟩, ⟨by (with_reducible repeat (first | apply Kd.N_alloc | apply Kd.N_drewN | apply Kd.N_drew)); exact HO_0.out⟩, ⟨by repeat (first | (with_reducible first | exact HB.out | apply below_alloc | apply pw_below_drewN | apply below_drew1) | exact HB.out)⟩⟩
   case round =>
    clear H'
    try clear c1
    try clear c2
    try clear p2
    try clear q2
    try clear hx2
    try clear c3
    try clear p6
    try clear c7
    try clear c7b0
    try clear c7b1
    try clear c8
    try clear c8b0
    try clear c9
    try clear c9b0
    try clear c10
    try clear c10b0
    try clear c11
    try clear c11b0
    try clear c12
    try clear c12b0
    try clear hx271_0
    try clear hx271_1
    try clear hx271_2
    try clear hx271_3
    try clear hx271_4
    try clear hx271_5
    try clear hx272_0
    try clear hx272_1
    try clear hx272_2
    try clear hx272_3
    try clear hx272_4
    try clear hx272_5
    try clear p2
    try clear p271
    try clear p272
    try clear p6
    try clear q2
    try clear q271
    try clear q272
    obtain ⟨x7_2, rfl, HA, HK2, HO_0, HB⟩ := hrel
    cases gk with
    | zero => exact absurd HA.out (by simp [lecternref14_Open.l1])
    | succ k2 =>
     have H := HA.out
     clear HA
     simp only [lecternref14_Open.l1] at H
     have HC15 := Aside0.mk H
     clear H
     go_upto_region 11 with (fail)
     repeat (go_quiet (fail); go_upto_region 11 with (fail))
     go_cut [47] (fun v47 wc => ∃ (kq : Nat) (x47_14 : Bool), v47 = .bool x47_14 ∧ Aside0 (lecternref14_Open.j3 kq x0_3 a1 x7_2 x47_14 = some r) ∧ Aside0 (kq ≤ k2) ∧ Aside0 (Kd.N k88 88 wc w.heap.size (fun k_ => (w.heap.size ≤ k_)) u0 x0_3) ∧ Aside0 (Below w.heap.size w wc))
     case first =>
      have H := HC15.out
      clear HC15
      by_cases c16 : x7_2 < (x0_3.length : Int)
      ·rw [if_pos c16] at H
       have c16b0 : decide (x7_2 < (x0_3.length : Int)) = true := decide_eq_true c16
       clear c16
       (first | rw [c16b0] | (simp only [i64_w, i32_w]; rw [c16b0]) | skip)
       by_cases c17 : 0 ≤ x7_2
       ·rw [if_pos c17] at H
        have c17b0 : decide (0 ≤ x7_2) = true := decide_eq_true c17
        clear c17
        have H' := Aside0.mk H
        clear H
        obtain ⟨Ao18, co18, eo18⟩ := Kd.N_slice HO_0.out
        subst eo18
        have p276 : 0 ≤ (x7_2 : Int) := of_decide_eq_true (by assumption)
        have q276 : x7_2 < (x0_3.length : Int) := of_decide_eq_true (by assumption)
        obtain ⟨ad276, A276_4, c276_4, e276, hx276_0, hx276_1, hx276_2, hx276_3, hx276_4, hx276_5, hl276_4, hi276_4⟩ := at_T88 (Kd.N_reads' HO_0.out).2.2 x7_2 p276 q276
        cases e276
        obtain ⟨ce276, hce276, hMe276, hcc276⟩ := Kd.N_get HO_0.out z88 x7_2 p276 (by first | exact q276 | exact of_decide_eq_true (by assumption) | (have e_ := (Kd.N_reads' HO_0.out).1; omega))
        obtain ⟨ua276_4, uc276_4, rfl, ul276_4, ge276_4⟩ := k88_openF hMe276
        have hv276_4 := hcc276 4 _ rfl
        rw [add_field _ _ 4 (by omega)] at hv276_4
        replace hv276_4 := Option.some.inj (hv276_4.symm.trans hx276_4)
        injection hv276_4 with hva_ hvn_ hvc_
        rw [hva_] at ge276_4
        rw [hvc_] at ul276_4
        have HL276_4 := Aside0.mk (show Kd.V k116 116 _ w.heap.size _ _ ((rd_T88 x0_3 x7_2).f2.f2) from Kd.V_mk ul276_4 ge276_4)
        clear hva_ hvn_ hvc_ ge276_4 ul276_4
        clear hcc276 hce276
        have HR276_4 := Aside0.mk hi276_4
        have HC276_4 := Aside0.mk hl276_4
        clear hi276_4 hl276_4
        replace p276 := eq_true p276
        replace q276 := eq_true q276
        go_wp2
        repeat (go_quiet (fail); try go_wp2)
        go_meet
        case rel => exact ⟨_, (decide (((rd_T88 x0_3 x7_2).f0) < a1)), (by first | rfl | (simp; done) | (simp [*]; done)), H', ⟨by have := HJ3.out; have := HK2.out; first | omega | exact Nat.le_refl _⟩, ⟨by (with_reducible repeat (first | apply Kd.N_alloc | apply Kd.N_drewN | apply Kd.N_drew)); exact HO_0.out⟩, ⟨by repeat (first | (with_reducible first | exact HB.out | apply below_alloc | apply pw_below_drewN | apply below_drew1) | exact HB.out)⟩⟩
       ·rw [if_neg c17] at H
        exact absurd H (by simp)
      ·rw [if_neg c16] at H
       have c16b0 : decide (x7_2 < (x0_3.length : Int)) = false := decide_eq_false c16
       clear c16
       (first | rw [c16b0] | (simp only [i64_w, i32_w]; rw [c16b0]) | skip)
       have H' := Aside0.mk H
       clear H
       obtain ⟨Ao19, co19, eo19⟩ := Kd.N_slice HO_0.out
       subst eo19
       go_wp2
       repeat (go_quiet (fail); try go_wp2)
       go_meet
       case rel => exact ⟨_, (false), (by first | rfl | (simp; done) | (simp [*]; done)), H', ⟨by have := HJ3.out; have := HK2.out; first | omega | exact Nat.le_refl _⟩, ⟨by (with_reducible repeat (first | apply Kd.N_alloc | apply Kd.N_drewN | apply Kd.N_drew)); exact HO_0.out⟩, ⟨by repeat (first | (with_reducible first | exact HB.out | apply below_alloc | apply pw_below_drewN | apply below_drew1) | exact HB.out)⟩⟩
     case rest =>
      clear HC15
      try clear c1
      try clear c2
      try clear p2
      try clear q2
      try clear hx2
      try clear c3
      try clear p6
      try clear c7
      try clear c7b0
      try clear c7b1
      try clear c8
      try clear c8b0
      try clear c9
      try clear c9b0
      try clear c10
      try clear c10b0
      try clear c11
      try clear c11b0
      try clear c12
      try clear c12b0
      try clear c16
      try clear c16b0
      try clear c17
      try clear c17b0
      try clear hx271_0
      try clear hx271_1
      try clear hx271_2
      try clear hx271_3
      try clear hx271_4
      try clear hx271_5
      try clear hx272_0
      try clear hx272_1
      try clear hx272_2
      try clear hx272_3
      try clear hx272_4
      try clear hx272_5
      try clear hx276_0
      try clear hx276_1
      try clear hx276_2
      try clear hx276_3
      try clear hx276_4
      try clear hx276_5
      try clear p2
      try clear p271
      try clear p272
      try clear p276
      try clear p6
      try clear q2
      try clear q271
      try clear q272
      try clear q276
      obtain ⟨kq, x47_14, rfl, HA, HJ14, HO_0, HB⟩ := hcut
      cases kq with
      | zero => exact absurd HA.out (by simp [lecternref14_Open.j3])
      | succ kj14 =>
       have H := HA.out
       clear HA
       simp only [lecternref14_Open.j3] at H
       by_cases c20 : x47_14 = true
       ·subst c20
        have H1 : (lecternref14_Open.l1 kj14 x0_3 a1 (wrap64 (x7_2 + 1))) = some r := by rw [if_pos rfl] at H; exact H
        clear H
        have H := H1
        clear H1
        have H' := Aside0.mk H
        clear H
        go_wp2
        repeat (go_quiet (fail); try go_wp2)
        go_roundg kj14
        case measure => have := HJ3.out; have := HK2.out; have := HJ14.out; omega
        case rel => exact ⟨(wrap64 (x7_2 + 1)), (by first | rfl | (simp; done) | (simp [*]; done)), H', ⟨by have := HJ3.out; have := HK2.out; have := HJ14.out; omega⟩, ⟨by (with_reducible repeat (first | apply Kd.N_alloc | apply Kd.N_drewN | apply Kd.N_drew)); exact HO_0.out⟩, ⟨by repeat (first | (with_reducible first | exact HB.out | apply below_alloc | apply pw_below_drewN | apply below_drew1) | exact HB.out)⟩⟩
       ·replace c20 := Bool.eq_false_iff.mpr c20
        subst c20
        have H1 : (if 0 ≤ x7_2 then (if x7_2 ≤ (x0_3.length : Int) then ((lecternref0_CopySessions.f kj14 (x0_3.take (x7_2 : Int).toNat)).bind fun t282 => (if t282.length < 2199023255552 then ((some (t282 ++ [(⟨a1, 0, (⟨0, 0, ([] : List (S116))⟩ : S31), a1⟩ : S88)] : List (S88))).bind fun y285 => ((some (x0_3.drop (x7_2 : Int).toNat : List (S88))).bind fun y288 => (if y285.length + y288.length < 2199023255552 then (some (y285 ++ y288)) else (none)))) else (none))) else (none)) else (none)) = some r := by rw [if_neg (show ¬ (false = true) by decide)] at H; exact H
        clear H
        have H := H1
        clear H1
        by_cases c21 : 0 ≤ x7_2
        ·rw [if_pos c21] at H
         have c21b0 := eq_true c21
         have c21b1 : decide (0 ≤ x7_2) = true := decide_eq_true c21
         clear c21
         by_cases c22 : x7_2 ≤ (x0_3.length : Int)
         ·rw [if_pos c22] at H
          have c22b0 := eq_true c22
          have c22b1 : decide (x7_2 ≤ (x0_3.length : Int)) = true := decide_eq_true c22
          clear c22
          obtain ⟨y277, hy277⟩ : ∃ y_ : List (S88), y_ = (x0_3.take (x7_2 : Int).toNat) := ⟨_, rfl⟩
          replace H : ((lecternref0_CopySessions.f kj14 y277).bind fun t282 => (if t282.length < 2199023255552 then ((some (t282 ++ [(⟨a1, 0, (⟨0, 0, ([] : List (S116))⟩ : S31), a1⟩ : S88)] : List (S88))).bind fun y285 => ((some (x0_3.drop (x7_2 : Int).toNat : List (S88))).bind fun y288 => (if y285.length + y288.length < 2199023255552 then (some (y285 ++ y288)) else (none)))) else (none))) = some r := by first | (rw [hy277]; with_reducible exact H) | (have H2_ := (Option.bind_some _ _).symm.trans H; rw [hy277]; with_reducible exact H2_) | (have H2_ := (Option.bind_some _ _).symm.trans H; with_reducible exact H2_) | with_reducible exact H | (rw [hy277]; exact H) | exact H
          have Ny277 := Aside0.mk hy277
          clear hy277
          replace H := Option.bind_eq_some_iff.mp H
          obtain ⟨t282, A230, H⟩ := H
          replace H : (if t282.length < 2199023255552 then ((some (t282 ++ [(⟨a1, 0, (⟨0, 0, ([] : List (S116))⟩ : S31), a1⟩ : S88)] : List (S88))).bind fun y285 => ((some (x0_3.drop (x7_2 : Int).toNat : List (S88))).bind fun y288 => (if y285.length + y288.length < 2199023255552 then (some (y285 ++ y288)) else (none)))) else (none)) = some r := H
          have A23 := Aside0.mk A230
          clear A230
          by_cases c24 : t282.length < 2199023255552
          ·rw [if_pos c24] at H
           have LMc24 := Aside0.mk c24
           clear c24
           obtain ⟨y285, hy285⟩ : ∃ y_ : List (S88), y_ = (t282 ++ [(⟨a1, 0, (⟨0, 0, ([] : List (S116))⟩ : S31), a1⟩ : S88)]) := ⟨_, rfl⟩
           replace H : ((some (x0_3.drop (x7_2 : Int).toNat : List (S88))).bind fun y288 => (if y285.length + y288.length < 2199023255552 then (some (y285 ++ y288)) else (none))) = some r := by first | (rw [hy285]; with_reducible exact H) | (have H2_ := (Option.bind_some _ _).symm.trans H; rw [hy285]; with_reducible exact H2_) | (have H2_ := (Option.bind_some _ _).symm.trans H; with_reducible exact H2_) | with_reducible exact H | (rw [hy285]; exact H) | exact H
           have Ny285 := Aside0.mk hy285
           clear hy285
           have c25b0 := eq_true (of_decide_eq_true (by assumption) : 0 ≤ x7_2)
           have c26b0 := eq_true (of_decide_eq_true (by assumption) : x7_2 ≤ (x0_3.length : Int))
           obtain ⟨y288, hy288⟩ : ∃ y_ : List (S88), y_ = (x0_3.drop (x7_2 : Int).toNat) := ⟨_, rfl⟩
           replace H : (if y285.length + y288.length < 2199023255552 then (some (y285 ++ y288)) else (none)) = some r := by first | (rw [hy288]; with_reducible exact H) | (have H2_ := (Option.bind_some _ _).symm.trans H; rw [hy288]; with_reducible exact H2_) | (have H2_ := (Option.bind_some _ _).symm.trans H; with_reducible exact H2_) | with_reducible exact H | (rw [hy288]; exact H) | exact H
           have Ny288 := Aside0.mk hy288
           clear hy288
           by_cases c27 : y285.length + y288.length < 2199023255552
           ·rw [if_pos c27] at H
            have LMc27 := Aside0.mk c27
            clear c27
            obtain ⟨y293, hy293⟩ : ∃ y_ : List (S88), y_ = (y285 ++ y288) := ⟨_, rfl⟩
            replace H : (some y293) = some r := by first | (rw [hy293]; with_reducible exact H) | (have H2_ := (Option.bind_some _ _).symm.trans H; rw [hy293]; with_reducible exact H2_) | (have H2_ := (Option.bind_some _ _).symm.trans H; with_reducible exact H2_) | with_reducible exact H | (rw [hy293]; exact H) | exact H
            have Ny293 := Aside0.mk hy293
            clear hy293
            obtain rfl := Option.some.inj H
            obtain ⟨Ao29, co29, eo29⟩ := Kd.N_slice HO_0.out
            subst eo29
            have q28 : (x7_2 : Int) ≤ ((x0_3.length : Int) : Int) := of_decide_eq_true (by assumption)
            obtain ⟨i028, hi028, _, hsz28, _⟩ := info_parts info88
            have hroom28 : x0_3.length ≤ co29 := (Kd.N_reads' HO_0.out).2.1
            have hC28 : Kd.F k88 _ _ Ao29 x0_3.length x0_3 := (Kd.V_at (base := w.heap.size) (Kd.N_V HO_0.out)).2.2
            have hcut28 := cut_to (P := Try.prog) 22 88 .i64 Try.underlying22 hi028 Ao29 x0_3.length co29 x7_2 (of_decide_eq_true (by assumption)) q28 hroom28
            have hr28 := Kd.F_take (m := (x7_2 : Int).toNat) hC28 (by omega)
            have hy28 : y277.length = (x7_2 : Int).toNat := (by rw [Ny277.out, List.length_take]; omega)
            rw [← Ny277.out] at hr28
            rw [← hy28] at hcut28
            have HO281 := Aside0.mk (show Kd.V k88 88 _ w.heap.size _ (.slice Ao29 y277.length co29) y277 from Kd.V_mk (by omega) hr28)
            have HC281 := Aside0.mk (show y277.length ≤ co29 from by omega)
            clear hr28 hC28 hroom28 hi028 hsz28
            have KY28 := Aside0.mk hy28
            clear hy28
            replace q28 := eq_true q28
            go_wp2_with (first | (go_at_call 26; (with_reducible refine (lecternref0_CopySessions.calls kj14 _ _ y277 t282 _ ?side1 ?side2 A23.out).mono ?_); (case side1 => repeat (first | exact (Kd.V_reads' HO281.out).2.2 | (with_reducible refine Kd.C_alloc ?_ _) | (with_reducible refine Kd.C_drewN ?_ _) | (with_reducible refine Kd.C_drew ?_))); (case side2 => exact (Kd.V_reads' HO281.out).2.1); rintro e w30 ⟨v283, rfl, ho0, hb⟩; have n0_ := Aside0.mk (Kd.N_elder' (by (with_reducible repeat (first | apply Kd.N_alloc | apply Kd.N_drewN | apply Kd.N_drew)); exact HO_0.out) (Kd.N_base (Kd.S_N ho0)) hb); have n1_ := Aside0.mk (Kd.V_elder' (by (with_reducible repeat (first | apply Kd.V_alloc | apply Kd.V_drewN | apply Kd.V_drew)); exact HO281.out) (Kd.N_base (Kd.S_N ho0)) hb); have n2_ := Aside0.mk (Kd.N_lower (Kd.N_mono (ok' := fun k_ => (w.heap.size ≤ k_) ∧ some k_ ≠ (.slice Ao29 x0_3.length co29 : Value).ownBlock) (Kd.S_N (Kd.S_bound ho0)) (fun k_ hk_ => ⟨(Nat.le_trans (below_size (by repeat (first | (with_reducible first | exact HB.out | apply below_alloc | apply pw_below_drewN | apply below_drew1) | exact HB.out))) hk_.2.1), (Kd.fresh' (Kd.N_lt (by (with_reducible repeat (first | apply Kd.N_alloc | apply Kd.N_drewN | apply Kd.N_drew)); exact HO_0.out)) k_ hk_.2.1)⟩)) (below_size (by repeat (first | (with_reducible first | exact HB.out | apply below_alloc | apply pw_below_drewN | apply below_drew1) | exact HB.out)))); have n3_ := Aside0.mk (below_step (by repeat (first | (with_reducible first | exact HB.out | apply below_alloc | apply pw_below_drewN | apply below_drew1) | exact HB.out)) hb); clear HO_0; clear HO281; clear HB; have HO_0 := n0_; have HO281 := n1_; have HO284 := n2_; have HB := n3_; clear n0_ n1_ n2_ n3_; (try clear hb); (try clear hb2); (try clear hk); (try clear hi); (try clear ho0)) | ((with_reducible refine gate_builtin (b := .append) (xs := #[.tmp 53, .tmp 57]) rfl ?_); at_builtin; refine Kd.N_append k88 (w0 := w) w.heap.size rfl (.tmp 53) (.tmp 57) 22 88 (.agg #[(.int .i64 0), (.int .i64 0), (.int .i64 0), (.int .i64 0), (.slice none 0 0), (.int .i64 0)]) 64 rfl Try.underlying22 info88 rfl (by decide) (by omega) v283 t282 (⟨a1, 0, (⟨0, 0, ([] : List (S116))⟩ : S31), a1⟩ : S88) [.int .i64 a1, .int .i64 0, .int .i64 0, .int .i64 0, .slice none 0 0, .int .i64 a1] (fun k_ => (w.heap.size ≤ k_) ∧ some k_ ≠ (.slice Ao29 x0_3.length co29 : Value).ownBlock) (fun k_ => ((fun k_ => (w.heap.size ≤ k_) ∧ some k_ ≠ (.slice Ao29 x0_3.length co29 : Value).ownBlock)) k_ ∧ some k_ ≠ (v283 : Value).ownBlock) rfl rfl ?aP (fun _ hk => hk) ?aF ?aO ?aB ?aS ?aL ?_; (case aP => exact (k88_mkF _ _ (⟨a1, 0, (⟨0, 0, ([] : List (S116))⟩ : S31), a1⟩ : S88) (Nat.le_refl _) (Kd.F_nil _ _ _))); (case aB => exact (by repeat (first | (with_reducible first | exact HB.out | apply below_alloc | apply pw_below_drewN | apply below_drew1) | exact HB.out))); (case aF => exact (fun k_ hk => ⟨(Nat.le_trans (below_size (by repeat (first | (with_reducible first | exact HB.out | apply below_alloc | apply pw_below_drewN | apply below_drew1) | exact HB.out))) hk), Kd.fresh' (Kd.N_lt (by (with_reducible repeat (first | apply Kd.N_alloc | apply Kd.N_drewN | apply Kd.N_drew)); exact HO_0.out)) k_ hk⟩)); (case aO => exact (by (with_reducible repeat (first | apply Kd.N_alloc | apply Kd.N_drewN | apply Kd.N_drew)); exact HO284.out)); (case aS => exact (below_size (by repeat (first | (with_reducible first | exact HB.out | apply below_alloc | apply pw_below_drewN | apply below_drew1) | exact HB.out)))); (case aL => have := LMc24.out; omega); intro v286 w31 ho hb hg hat; rw [← Ny285.out] at ho; have n0_ := Aside0.mk (Kd.N_afterv (ok := (fun k_ => (w.heap.size ≤ k_))) (by (with_reducible repeat (first | apply Kd.N_alloc | apply Kd.N_drewN | apply Kd.N_drew)); exact HO_0.out) hg hat); have n1_ := Aside0.mk (Kd.V_afterv (ok := (fun k_ => (w.heap.size ≤ k_))) (by (with_reducible repeat (first | apply Kd.V_alloc | apply Kd.V_drewN | apply Kd.V_drew)); exact HO281.out) hg hat); have n2_ := Aside0.mk (hb); have n3_ := Aside0.mk (ho); clear HO_0; clear HO281; clear HB; clear HO284; have HO_0 := n0_; have HO281 := n1_; have HB := n2_; have HO287 := n3_; clear n0_ n1_ n2_ n3_; clear ho hb hg hat; have q32 : (x7_2 : Int) ≤ ((x0_3.length : Int) : Int) := of_decide_eq_true (by assumption); obtain ⟨i032, hi032, _, hsz32, _⟩ := info_parts info88; have hroom32 : x0_3.length ≤ co29 := (Kd.N_reads' HO_0.out).2.1; have hC32 : Kd.F k88 _ _ Ao29 x0_3.length x0_3 := (Kd.V_at (base := w.heap.size) (Kd.N_V HO_0.out)).2.2; have q032 : (0 : Int) ≤ (x7_2 : Int) := of_decide_eq_true (by assumption); have hcut32 := cut_from (P := Try.prog) 22 88 .i64 Try.underlying22 hi032 6 hsz32 Ao29 x0_3.length co29 x7_2 q032 q32; have hr32 := Kd.F_cut (m := (x7_2 : Int).toNat) (c := co29) hC32 (by omega) hroom32; obtain ⟨A32, hA32⟩ : ∃ A1, A1 = (if co29 = (x7_2 : Int).toNat then Ao29 else (Ao29 : Option Addr).map (·.add ((x7_2 : Int).toNat * 6))) := ⟨_, rfl⟩; obtain ⟨c32, hc32⟩ : ∃ c1, c1 = co29 - (x7_2 : Int).toNat := ⟨_, rfl⟩; have hy32 : y288.length = x0_3.length - (x7_2 : Int).toNat := (by rw [Ny288.out, List.length_drop] <;> omega); rw [show (x0_3).drop (x7_2 : Int).toNat = y288 from Ny288.out.symm] at hr32; replace hr32 : Kd.F k88 _ _ A32 y288.length y288 := (by rw [hA32]; exact hr32); rw [← hy32, ← hA32, ← hc32] at hcut32; have HO292 := Aside0.mk (show Kd.V k88 88 _ w.heap.size _ (.slice A32 y288.length c32) y288 from Kd.V_mk (by rw [hy32, hc32]; exact Nat.sub_le_sub_right hroom32 _) hr32); have HC292 := Aside0.mk (show y288.length ≤ c32 from by rw [hy32, hc32]; exact Nat.sub_le_sub_right hroom32 _); clear hr32 hC32 hroom32 hi032 hsz32 hc32; have KY32 := Aside0.mk hy32; have KA32 := Aside0.mk hA32; clear hy32 hA32; replace q32 := eq_true q32) | ((with_reducible refine gate_builtin (b := .append) (xs := #[.tmp 59, .tmp 62]) rfl ?_); at_builtin; refine Kd.N_append_rows k88 (w0 := w) w.heap.size rfl (.tmp 59) (.tmp 62) 22 88 (.agg #[(.int .i64 0), (.int .i64 0), (.int .i64 0), (.int .i64 0), (.slice none 0 0), (.int .i64 0)]) 64 rfl Try.underlying22 info88 rfl (by decide) (by omega) v286 y285 y288 _ _ _ (fun k_ => (w.heap.size ≤ k_)) (fun k_ => ((fun k_ => (w.heap.size ≤ k_))) k_ ∧ some k_ ≠ (v286 : Value).ownBlock) rfl rfl ?aO ?aR (fun _ hk => hk) ?aF ?aB ?aS ?aL ?_; (case aR => exact (by skip; exact Kd.V_F (Kd.V_mono (ok' := (fun k_ => ((fun k_ => (w.heap.size ≤ k_))) k_ ∧ some k_ ≠ (v286 : Value).ownBlock)) (HO292.out) (fun k_ hk => ⟨hk.1, hk.2⟩)))); (case aB => exact (by repeat (first | (with_reducible first | exact HB.out | apply below_alloc | apply pw_below_drewN | apply below_drew1) | exact HB.out))); (case aF => exact (fun k_ hk => (Nat.le_trans (below_size (by repeat (first | (with_reducible first | exact HB.out | apply below_alloc | apply pw_below_drewN | apply below_drew1) | exact HB.out))) hk))); (case aO => exact (by (with_reducible repeat (first | apply Kd.N_alloc | apply Kd.N_drewN | apply Kd.N_drew)); exact Kd.N_mono HO287.out (fun _ hk => hk.1))); (case aS => exact (below_size (by repeat (first | (with_reducible first | exact HB.out | apply below_alloc | apply pw_below_drewN | apply below_drew1) | exact HB.out)))); (case aL => have := LMc27.out; omega); intro v294 w33 ho hb hg hat; rw [← Ny293.out] at ho; have n0_ := Aside0.mk (Kd.N_afterv (ok := (fun k_ => (w.heap.size ≤ k_))) (by (with_reducible repeat (first | apply Kd.N_alloc | apply Kd.N_drewN | apply Kd.N_drew)); exact HO_0.out) hg hat); have n1_ := Aside0.mk (Kd.V_afterv (ok := (fun k_ => (w.heap.size ≤ k_))) (by (with_reducible repeat (first | apply Kd.V_alloc | apply Kd.V_drewN | apply Kd.V_drew)); exact HO281.out) hg hat); have n2_ := Aside0.mk (Kd.V_afterv (ok := (fun k_ => (w.heap.size ≤ k_))) (by (with_reducible repeat (first | apply Kd.V_alloc | apply Kd.V_drewN | apply Kd.V_drew)); exact HO292.out) hg hat); have n3_ := Aside0.mk (hb); have n4_ := Aside0.mk (ho); clear HO_0; clear HO281; clear HO292; clear HB; clear HO287; have HO_0 := n0_; have HO281 := n1_; have HO292 := n2_; have HB := n3_; have HO295 := n4_; clear n0_ n1_ n2_ n3_ n4_; clear ho hb hg hat))
            repeat (go_quiet (first | (go_at_call 26; (with_reducible refine (lecternref0_CopySessions.calls kj14 _ _ y277 t282 _ ?side1 ?side2 A23.out).mono ?_); (case side1 => repeat (first | exact (Kd.V_reads' HO281.out).2.2 | (with_reducible refine Kd.C_alloc ?_ _) | (with_reducible refine Kd.C_drewN ?_ _) | (with_reducible refine Kd.C_drew ?_))); (case side2 => exact (Kd.V_reads' HO281.out).2.1); rintro e w30 ⟨v283, rfl, ho0, hb⟩; have n0_ := Aside0.mk (Kd.N_elder' (by (with_reducible repeat (first | apply Kd.N_alloc | apply Kd.N_drewN | apply Kd.N_drew)); exact HO_0.out) (Kd.N_base (Kd.S_N ho0)) hb); have n1_ := Aside0.mk (Kd.V_elder' (by (with_reducible repeat (first | apply Kd.V_alloc | apply Kd.V_drewN | apply Kd.V_drew)); exact HO281.out) (Kd.N_base (Kd.S_N ho0)) hb); have n2_ := Aside0.mk (Kd.N_lower (Kd.N_mono (ok' := fun k_ => (w.heap.size ≤ k_) ∧ some k_ ≠ (.slice Ao29 x0_3.length co29 : Value).ownBlock) (Kd.S_N (Kd.S_bound ho0)) (fun k_ hk_ => ⟨(Nat.le_trans (below_size (by repeat (first | (with_reducible first | exact HB.out | apply below_alloc | apply pw_below_drewN | apply below_drew1) | exact HB.out))) hk_.2.1), (Kd.fresh' (Kd.N_lt (by (with_reducible repeat (first | apply Kd.N_alloc | apply Kd.N_drewN | apply Kd.N_drew)); exact HO_0.out)) k_ hk_.2.1)⟩)) (below_size (by repeat (first | (with_reducible first | exact HB.out | apply below_alloc | apply pw_below_drewN | apply below_drew1) | exact HB.out)))); have n3_ := Aside0.mk (below_step (by repeat (first | (with_reducible first | exact HB.out | apply below_alloc | apply pw_below_drewN | apply below_drew1) | exact HB.out)) hb); clear HO_0; clear HO281; clear HB; have HO_0 := n0_; have HO281 := n1_; have HO284 := n2_; have HB := n3_; clear n0_ n1_ n2_ n3_; (try clear hb); (try clear hb2); (try clear hk); (try clear hi); (try clear ho0)) | ((with_reducible refine gate_builtin (b := .append) (xs := #[.tmp 53, .tmp 57]) rfl ?_); at_builtin; refine Kd.N_append k88 (w0 := w) w.heap.size rfl (.tmp 53) (.tmp 57) 22 88 (.agg #[(.int .i64 0), (.int .i64 0), (.int .i64 0), (.int .i64 0), (.slice none 0 0), (.int .i64 0)]) 64 rfl Try.underlying22 info88 rfl (by decide) (by omega) v283 t282 (⟨a1, 0, (⟨0, 0, ([] : List (S116))⟩ : S31), a1⟩ : S88) [.int .i64 a1, .int .i64 0, .int .i64 0, .int .i64 0, .slice none 0 0, .int .i64 a1] (fun k_ => (w.heap.size ≤ k_) ∧ some k_ ≠ (.slice Ao29 x0_3.length co29 : Value).ownBlock) (fun k_ => ((fun k_ => (w.heap.size ≤ k_) ∧ some k_ ≠ (.slice Ao29 x0_3.length co29 : Value).ownBlock)) k_ ∧ some k_ ≠ (v283 : Value).ownBlock) rfl rfl ?aP (fun _ hk => hk) ?aF ?aO ?aB ?aS ?aL ?_; (case aP => exact (k88_mkF _ _ (⟨a1, 0, (⟨0, 0, ([] : List (S116))⟩ : S31), a1⟩ : S88) (Nat.le_refl _) (Kd.F_nil _ _ _))); (case aB => exact (by repeat (first | (with_reducible first | exact HB.out | apply below_alloc | apply pw_below_drewN | apply below_drew1) | exact HB.out))); (case aF => exact (fun k_ hk => ⟨(Nat.le_trans (below_size (by repeat (first | (with_reducible first | exact HB.out | apply below_alloc | apply pw_below_drewN | apply below_drew1) | exact HB.out))) hk), Kd.fresh' (Kd.N_lt (by (with_reducible repeat (first | apply Kd.N_alloc | apply Kd.N_drewN | apply Kd.N_drew)); exact HO_0.out)) k_ hk⟩)); (case aO => exact (by (with_reducible repeat (first | apply Kd.N_alloc | apply Kd.N_drewN | apply Kd.N_drew)); exact HO284.out)); (case aS => exact (below_size (by repeat (first | (with_reducible first | exact HB.out | apply below_alloc | apply pw_below_drewN | apply below_drew1) | exact HB.out)))); (case aL => have := LMc24.out; omega); intro v286 w31 ho hb hg hat; rw [← Ny285.out] at ho; have n0_ := Aside0.mk (Kd.N_afterv (ok := (fun k_ => (w.heap.size ≤ k_))) (by (with_reducible repeat (first | apply Kd.N_alloc | apply Kd.N_drewN | apply Kd.N_drew)); exact HO_0.out) hg hat); have n1_ := Aside0.mk (Kd.V_afterv (ok := (fun k_ => (w.heap.size ≤ k_))) (by (with_reducible repeat (first | apply Kd.V_alloc | apply Kd.V_drewN | apply Kd.V_drew)); exact HO281.out) hg hat); have n2_ := Aside0.mk (hb); have n3_ := Aside0.mk (ho); clear HO_0; clear HO281; clear HB; clear HO284; have HO_0 := n0_; have HO281 := n1_; have HB := n2_; have HO287 := n3_; clear n0_ n1_ n2_ n3_; clear ho hb hg hat; have q32 : (x7_2 : Int) ≤ ((x0_3.length : Int) : Int) := of_decide_eq_true (by assumption); obtain ⟨i032, hi032, _, hsz32, _⟩ := info_parts info88; have hroom32 : x0_3.length ≤ co29 := (Kd.N_reads' HO_0.out).2.1; have hC32 : Kd.F k88 _ _ Ao29 x0_3.length x0_3 := (Kd.V_at (base := w.heap.size) (Kd.N_V HO_0.out)).2.2; have q032 : (0 : Int) ≤ (x7_2 : Int) := of_decide_eq_true (by assumption); have hcut32 := cut_from (P := Try.prog) 22 88 .i64 Try.underlying22 hi032 6 hsz32 Ao29 x0_3.length co29 x7_2 q032 q32; have hr32 := Kd.F_cut (m := (x7_2 : Int).toNat) (c := co29) hC32 (by omega) hroom32; obtain ⟨A32, hA32⟩ : ∃ A1, A1 = (if co29 = (x7_2 : Int).toNat then Ao29 else (Ao29 : Option Addr).map (·.add ((x7_2 : Int).toNat * 6))) := ⟨_, rfl⟩; obtain ⟨c32, hc32⟩ : ∃ c1, c1 = co29 - (x7_2 : Int).toNat := ⟨_, rfl⟩; have hy32 : y288.length = x0_3.length - (x7_2 : Int).toNat := (by rw [Ny288.out, List.length_drop] <;> omega); rw [show (x0_3).drop (x7_2 : Int).toNat = y288 from Ny288.out.symm] at hr32; replace hr32 : Kd.F k88 _ _ A32 y288.length y288 := (by rw [hA32]; exact hr32); rw [← hy32, ← hA32, ← hc32] at hcut32; have HO292 := Aside0.mk (show Kd.V k88 88 _ w.heap.size _ (.slice A32 y288.length c32) y288 from Kd.V_mk (by rw [hy32, hc32]; exact Nat.sub_le_sub_right hroom32 _) hr32); have HC292 := Aside0.mk (show y288.length ≤ c32 from by rw [hy32, hc32]; exact Nat.sub_le_sub_right hroom32 _); clear hr32 hC32 hroom32 hi032 hsz32 hc32; have KY32 := Aside0.mk hy32; have KA32 := Aside0.mk hA32; clear hy32 hA32; replace q32 := eq_true q32) | ((with_reducible refine gate_builtin (b := .append) (xs := #[.tmp 59, .tmp 62]) rfl ?_); at_builtin; refine Kd.N_append_rows k88 (w0 := w) w.heap.size rfl (.tmp 59) (.tmp 62) 22 88 (.agg #[(.int .i64 0), (.int .i64 0), (.int .i64 0), (.int .i64 0), (.slice none 0 0), (.int .i64 0)]) 64 rfl Try.underlying22 info88 rfl (by decide) (by omega) v286 y285 y288 _ _ _ (fun k_ => (w.heap.size ≤ k_)) (fun k_ => ((fun k_ => (w.heap.size ≤ k_))) k_ ∧ some k_ ≠ (v286 : Value).ownBlock) rfl rfl ?aO ?aR (fun _ hk => hk) ?aF ?aB ?aS ?aL ?_; (case aR => exact (by skip; exact Kd.V_F (Kd.V_mono (ok' := (fun k_ => ((fun k_ => (w.heap.size ≤ k_))) k_ ∧ some k_ ≠ (v286 : Value).ownBlock)) (HO292.out) (fun k_ hk => ⟨hk.1, hk.2⟩)))); (case aB => exact (by repeat (first | (with_reducible first | exact HB.out | apply below_alloc | apply pw_below_drewN | apply below_drew1) | exact HB.out))); (case aF => exact (fun k_ hk => (Nat.le_trans (below_size (by repeat (first | (with_reducible first | exact HB.out | apply below_alloc | apply pw_below_drewN | apply below_drew1) | exact HB.out))) hk))); (case aO => exact (by (with_reducible repeat (first | apply Kd.N_alloc | apply Kd.N_drewN | apply Kd.N_drew)); exact Kd.N_mono HO287.out (fun _ hk => hk.1))); (case aS => exact (below_size (by repeat (first | (with_reducible first | exact HB.out | apply below_alloc | apply pw_below_drewN | apply below_drew1) | exact HB.out)))); (case aL => have := LMc27.out; omega); intro v294 w33 ho hb hg hat; rw [← Ny293.out] at ho; have n0_ := Aside0.mk (Kd.N_afterv (ok := (fun k_ => (w.heap.size ≤ k_))) (by (with_reducible repeat (first | apply Kd.N_alloc | apply Kd.N_drewN | apply Kd.N_drew)); exact HO_0.out) hg hat); have n1_ := Aside0.mk (Kd.V_afterv (ok := (fun k_ => (w.heap.size ≤ k_))) (by (with_reducible repeat (first | apply Kd.V_alloc | apply Kd.V_drewN | apply Kd.V_drew)); exact HO281.out) hg hat); have n2_ := Aside0.mk (Kd.V_afterv (ok := (fun k_ => (w.heap.size ≤ k_))) (by (with_reducible repeat (first | apply Kd.V_alloc | apply Kd.V_drewN | apply Kd.V_drew)); exact HO292.out) hg hat); have n3_ := Aside0.mk (hb); have n4_ := Aside0.mk (ho); clear HO_0; clear HO281; clear HO292; clear HB; clear HO287; have HO_0 := n0_; have HO281 := n1_; have HO292 := n2_; have HB := n3_; have HO295 := n4_; clear n0_ n1_ n2_ n3_ n4_; clear ho hb hg hat)); try go_wp2_with (first | (go_at_call 26; (with_reducible refine (lecternref0_CopySessions.calls kj14 _ _ y277 t282 _ ?side1 ?side2 A23.out).mono ?_); (case side1 => repeat (first | exact (Kd.V_reads' HO281.out).2.2 | (with_reducible refine Kd.C_alloc ?_ _) | (with_reducible refine Kd.C_drewN ?_ _) | (with_reducible refine Kd.C_drew ?_))); (case side2 => exact (Kd.V_reads' HO281.out).2.1); rintro e w30 ⟨v283, rfl, ho0, hb⟩; have n0_ := Aside0.mk (Kd.N_elder' (by (with_reducible repeat (first | apply Kd.N_alloc | apply Kd.N_drewN | apply Kd.N_drew)); exact HO_0.out) (Kd.N_base (Kd.S_N ho0)) hb); have n1_ := Aside0.mk (Kd.V_elder' (by (with_reducible repeat (first | apply Kd.V_alloc | apply Kd.V_drewN | apply Kd.V_drew)); exact HO281.out) (Kd.N_base (Kd.S_N ho0)) hb); have n2_ := Aside0.mk (Kd.N_lower (Kd.N_mono (ok' := fun k_ => (w.heap.size ≤ k_) ∧ some k_ ≠ (.slice Ao29 x0_3.length co29 : Value).ownBlock) (Kd.S_N (Kd.S_bound ho0)) (fun k_ hk_ => ⟨(Nat.le_trans (below_size (by repeat (first | (with_reducible first | exact HB.out | apply below_alloc | apply pw_below_drewN | apply below_drew1) | exact HB.out))) hk_.2.1), (Kd.fresh' (Kd.N_lt (by (with_reducible repeat (first | apply Kd.N_alloc | apply Kd.N_drewN | apply Kd.N_drew)); exact HO_0.out)) k_ hk_.2.1)⟩)) (below_size (by repeat (first | (with_reducible first | exact HB.out | apply below_alloc | apply pw_below_drewN | apply below_drew1) | exact HB.out)))); have n3_ := Aside0.mk (below_step (by repeat (first | (with_reducible first | exact HB.out | apply below_alloc | apply pw_below_drewN | apply below_drew1) | exact HB.out)) hb); clear HO_0; clear HO281; clear HB; have HO_0 := n0_; have HO281 := n1_; have HO284 := n2_; have HB := n3_; clear n0_ n1_ n2_ n3_; (try clear hb); (try clear hb2); (try clear hk); (try clear hi); (try clear ho0)) | ((with_reducible refine gate_builtin (b := .append) (xs := #[.tmp 53, .tmp 57]) rfl ?_); at_builtin; refine Kd.N_append k88 (w0 := w) w.heap.size rfl (.tmp 53) (.tmp 57) 22 88 (.agg #[(.int .i64 0), (.int .i64 0), (.int .i64 0), (.int .i64 0), (.slice none 0 0), (.int .i64 0)]) 64 rfl Try.underlying22 info88 rfl (by decide) (by omega) v283 t282 (⟨a1, 0, (⟨0, 0, ([] : List (S116))⟩ : S31), a1⟩ : S88) [.int .i64 a1, .int .i64 0, .int .i64 0, .int .i64 0, .slice none 0 0, .int .i64 a1] (fun k_ => (w.heap.size ≤ k_) ∧ some k_ ≠ (.slice Ao29 x0_3.length co29 : Value).ownBlock) (fun k_ => ((fun k_ => (w.heap.size ≤ k_) ∧ some k_ ≠ (.slice Ao29 x0_3.length co29 : Value).ownBlock)) k_ ∧ some k_ ≠ (v283 : Value).ownBlock) rfl rfl ?aP (fun _ hk => hk) ?aF ?aO ?aB ?aS ?aL ?_; (case aP => exact (k88_mkF _ _ (⟨a1, 0, (⟨0, 0, ([] : List (S116))⟩ : S31), a1⟩ : S88) (Nat.le_refl _) (Kd.F_nil _ _ _))); (case aB => exact (by repeat (first | (with_reducible first | exact HB.out | apply below_alloc | apply pw_below_drewN | apply below_drew1) | exact HB.out))); (case aF => exact (fun k_ hk => ⟨(Nat.le_trans (below_size (by repeat (first | (with_reducible first | exact HB.out | apply below_alloc | apply pw_below_drewN | apply below_drew1) | exact HB.out))) hk), Kd.fresh' (Kd.N_lt (by (with_reducible repeat (first | apply Kd.N_alloc | apply Kd.N_drewN | apply Kd.N_drew)); exact HO_0.out)) k_ hk⟩)); (case aO => exact (by (with_reducible repeat (first | apply Kd.N_alloc | apply Kd.N_drewN | apply Kd.N_drew)); exact HO284.out)); (case aS => exact (below_size (by repeat (first | (with_reducible first | exact HB.out | apply below_alloc | apply pw_below_drewN | apply below_drew1) | exact HB.out)))); (case aL => have := LMc24.out; omega); intro v286 w31 ho hb hg hat; rw [← Ny285.out] at ho; have n0_ := Aside0.mk (Kd.N_afterv (ok := (fun k_ => (w.heap.size ≤ k_))) (by (with_reducible repeat (first | apply Kd.N_alloc | apply Kd.N_drewN | apply Kd.N_drew)); exact HO_0.out) hg hat); have n1_ := Aside0.mk (Kd.V_afterv (ok := (fun k_ => (w.heap.size ≤ k_))) (by (with_reducible repeat (first | apply Kd.V_alloc | apply Kd.V_drewN | apply Kd.V_drew)); exact HO281.out) hg hat); have n2_ := Aside0.mk (hb); have n3_ := Aside0.mk (ho); clear HO_0; clear HO281; clear HB; clear HO284; have HO_0 := n0_; have HO281 := n1_; have HB := n2_; have HO287 := n3_; clear n0_ n1_ n2_ n3_; clear ho hb hg hat; have q32 : (x7_2 : Int) ≤ ((x0_3.length : Int) : Int) := of_decide_eq_true (by assumption); obtain ⟨i032, hi032, _, hsz32, _⟩ := info_parts info88; have hroom32 : x0_3.length ≤ co29 := (Kd.N_reads' HO_0.out).2.1; have hC32 : Kd.F k88 _ _ Ao29 x0_3.length x0_3 := (Kd.V_at (base := w.heap.size) (Kd.N_V HO_0.out)).2.2; have q032 : (0 : Int) ≤ (x7_2 : Int) := of_decide_eq_true (by assumption); have hcut32 := cut_from (P := Try.prog) 22 88 .i64 Try.underlying22 hi032 6 hsz32 Ao29 x0_3.length co29 x7_2 q032 q32; have hr32 := Kd.F_cut (m := (x7_2 : Int).toNat) (c := co29) hC32 (by omega) hroom32; obtain ⟨A32, hA32⟩ : ∃ A1, A1 = (if co29 = (x7_2 : Int).toNat then Ao29 else (Ao29 : Option Addr).map (·.add ((x7_2 : Int).toNat * 6))) := ⟨_, rfl⟩; obtain ⟨c32, hc32⟩ : ∃ c1, c1 = co29 - (x7_2 : Int).toNat := ⟨_, rfl⟩; have hy32 : y288.length = x0_3.length - (x7_2 : Int).toNat := (by rw [Ny288.out, List.length_drop] <;> omega); rw [show (x0_3).drop (x7_2 : Int).toNat = y288 from Ny288.out.symm] at hr32; replace hr32 : Kd.F k88 _ _ A32 y288.length y288 := (by rw [hA32]; exact hr32); rw [← hy32, ← hA32, ← hc32] at hcut32; have HO292 := Aside0.mk (show Kd.V k88 88 _ w.heap.size _ (.slice A32 y288.length c32) y288 from Kd.V_mk (by rw [hy32, hc32]; exact Nat.sub_le_sub_right hroom32 _) hr32); have HC292 := Aside0.mk (show y288.length ≤ c32 from by rw [hy32, hc32]; exact Nat.sub_le_sub_right hroom32 _); clear hr32 hC32 hroom32 hi032 hsz32 hc32; have KY32 := Aside0.mk hy32; have KA32 := Aside0.mk hA32; clear hy32 hA32; replace q32 := eq_true q32) | ((with_reducible refine gate_builtin (b := .append) (xs := #[.tmp 59, .tmp 62]) rfl ?_); at_builtin; refine Kd.N_append_rows k88 (w0 := w) w.heap.size rfl (.tmp 59) (.tmp 62) 22 88 (.agg #[(.int .i64 0), (.int .i64 0), (.int .i64 0), (.int .i64 0), (.slice none 0 0), (.int .i64 0)]) 64 rfl Try.underlying22 info88 rfl (by decide) (by omega) v286 y285 y288 _ _ _ (fun k_ => (w.heap.size ≤ k_)) (fun k_ => ((fun k_ => (w.heap.size ≤ k_))) k_ ∧ some k_ ≠ (v286 : Value).ownBlock) rfl rfl ?aO ?aR (fun _ hk => hk) ?aF ?aB ?aS ?aL ?_; (case aR => exact (by skip; exact Kd.V_F (Kd.V_mono (ok' := (fun k_ => ((fun k_ => (w.heap.size ≤ k_))) k_ ∧ some k_ ≠ (v286 : Value).ownBlock)) (HO292.out) (fun k_ hk => ⟨hk.1, hk.2⟩)))); (case aB => exact (by repeat (first | (with_reducible first | exact HB.out | apply below_alloc | apply pw_below_drewN | apply below_drew1) | exact HB.out))); (case aF => exact (fun k_ hk => (Nat.le_trans (below_size (by repeat (first | (with_reducible first | exact HB.out | apply below_alloc | apply pw_below_drewN | apply below_drew1) | exact HB.out))) hk))); (case aO => exact (by (with_reducible repeat (first | apply Kd.N_alloc | apply Kd.N_drewN | apply Kd.N_drew)); exact Kd.N_mono HO287.out (fun _ hk => hk.1))); (case aS => exact (below_size (by repeat (first | (with_reducible first | exact HB.out | apply below_alloc | apply pw_below_drewN | apply below_drew1) | exact HB.out)))); (case aL => have := LMc27.out; omega); intro v294 w33 ho hb hg hat; rw [← Ny293.out] at ho; have n0_ := Aside0.mk (Kd.N_afterv (ok := (fun k_ => (w.heap.size ≤ k_))) (by (with_reducible repeat (first | apply Kd.N_alloc | apply Kd.N_drewN | apply Kd.N_drew)); exact HO_0.out) hg hat); have n1_ := Aside0.mk (Kd.V_afterv (ok := (fun k_ => (w.heap.size ≤ k_))) (by (with_reducible repeat (first | apply Kd.V_alloc | apply Kd.V_drewN | apply Kd.V_drew)); exact HO281.out) hg hat); have n2_ := Aside0.mk (Kd.V_afterv (ok := (fun k_ => (w.heap.size ≤ k_))) (by (with_reducible repeat (first | apply Kd.V_alloc | apply Kd.V_drewN | apply Kd.V_drew)); exact HO292.out) hg hat); have n3_ := Aside0.mk (hb); have n4_ := Aside0.mk (ho); clear HO_0; clear HO281; clear HO292; clear HB; clear HO287; have HO_0 := n0_; have HO281 := n1_; have HO292 := n2_; have HB := n3_; have HO295 := n4_; clear n0_ n1_ n2_ n3_ n4_; clear ho hb hg hat)))
            go_ret
            exact ⟨_, by first | rfl | (simp [errW_none, errW_some] <;> rfl) | (simp [*, errW_none, errW_some] <;> rfl), by (with_reducible repeat (first | apply Kd.N_alloc | apply Kd.N_drewN | apply Kd.N_drew)); exact HO295.out, by repeat (first | (with_reducible first | exact HB.out | apply below_alloc | apply pw_below_drewN | apply below_drew1) | exact HB.out)⟩
           ·rw [if_neg c27] at H
            exact absurd H (by simp)
          ·rw [if_neg c24] at H
           exact absurd H (by simp)
         ·rw [if_neg c22] at H
          exact absurd H (by simp)
        ·rw [if_neg c21] at H
         exact absurd H (by simp)

end Go.Proofs.Ytcacckaonjnmjaa.S
