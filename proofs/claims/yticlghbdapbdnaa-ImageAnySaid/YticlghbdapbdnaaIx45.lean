-- Written by a program: the kit's printer with changes of this session (NOTES.md).
import Derived.Test.YticlghbdapbdnaaSShort
import Derived.Test.YticlghbdapbdnaaIx0
import Derived.Test.YticlghbdapbdnaaIM
import Derived.Test.YticlghbdapbdnaaIx3
import Derived.Test.YticlghbdapbdnaaIx19
import Derived.Test.YticlghbdapbdnaaIx29
import Derived.Test.YticlghbdapbdnaaIx30
import Derived.Test.YticlghbdapbdnaaIx36
import Derived.Test.YticlghbdapbdnaaIx43
import Derived.Test.YticlghbdapbdnaaIx44
namespace Go.Proofs.Yticlghbdapbdnaa.I
open Go.RowKit Go.Proofs.YticlghbdapbdnaaW.PrintWords Go.Proofs.YticlghbdapbdnaaW.PrintLast Go.Proofs.YticlghbdapbdnaaW.PrintMore
attribute [local go_sem] max2_int min2_int max_two min_two max_three min_three max_four min_four   -- for this text's walks alone
set_option linter.unusedVariables false
set_option linter.unusedSimpArgs false

-- shrunk
/-! ### lecternlaw17_ImageAny: function 3 -/
mutual
def lecternlaw17_ImageAny.l0 : Nat → List (List Int) → Int → Option (Bool)
 | 0, _, _ => none
 | k + 1, x0, x3 => if x3 < (x0.length : Int) then (lecternlaw17_ImageAny.j1 k x0 x3 (decide (x3 < 20))) else (lecternlaw17_ImageAny.j1 k x0 x3 false)
def lecternlaw17_ImageAny.j1 : Nat → List (List Int) → Int → Bool → Option (Bool)
 | 0, _, _, _ => none
 | k + 1, x0, x3, x16 => if x16 = true then (if 0 ≤ x3 then (if x3 < (x0.length : Int) then (if ((rd_L8 x0 x3).length : Int) > 4000 then (some true) else ((lecternref0_CopyBytes.f k (rd_L8 x0 x3)).bind fun t261 => ((image_Parse.f k t261).bind fun bt264 => ((lecternref0_EqBytes.f k t261 (rd_L8 x0 x3)).bind fun t274 => (if t274 = true then ((lecternlaw17_num.f bt264.2.2.2).bind fun t275 => (if t275 = 0 then (lecternlaw17_ImageAny.j2 k x0 x3 bt264.2.2.2 false bt264.1 bt264.2.1 bt264.2.2.1) else ((lecternlaw17_num.f bt264.2.2.2).bind fun t276 => (if t276 = 1 then ((lecternref0_EqState.f k bt264.1 bt264.2.1 bt264.2.2.1 0 ([] : List (S42)) ([] : List (S47))).bind fun t277 => (lecternlaw17_ImageAny.j2 k x0 x3 bt264.2.2.2 (!t277) bt264.1 bt264.2.1 bt264.2.2.1)) else (none))))) else (none)))))) else (none)) else (none)) else ((lecternlaw17_wakes.f k).bind fun t258 => (some t258))
def lecternlaw17_ImageAny.j2 : Nat → List (List Int) → Int → Int → Bool → Int → List (S42) → List (S47) → Option (Bool)
 | 0, _, _, _, _, _, _, _ => none
 | k + 1, x0, x3, x6, x57, x273000, x273001, x273002 => if x57 = true then (none) else ((lecternlaw17_num.f x6).bind fun t278 => (if t278 = 0 then ((image_Bytes.f k x273000 x273001 x273002).bind fun bt279 => ((lecternlaw17_num.f bt279.2).bind fun t283 => (if t283 = 0 then (if 0 ≤ x3 then (if x3 < (x0.length : Int) then ((lecternref0_EqBytes.f k bt279.1 (rd_L8 x0 x3)).bind fun t285 => (if t285 = true then ((lecternref14_State.f k x273000 x273001 x273002).bind fun t286 => (if t286 = true then (lecternlaw17_ImageAny.l0 k x0 (wrap64 (x3 + 1))) else (none))) else (none))) else (none)) else (none)) else (none)))) else (lecternlaw17_ImageAny.l0 k x0 (wrap64 (x3 + 1)))))
end
def lecternlaw17_ImageAny.f (k : Nat) (l0 : List (List Int)) : Option (Bool) := lecternlaw17_ImageAny.l0 k l0 0
theorem lecternlaw17_ImageAny.mono_l : ∀ k, (∀ y0 y1, LeO (lecternlaw17_ImageAny.l0 k y0 y1) (lecternlaw17_ImageAny.l0 (k + 1) y0 y1)) ∧ (∀ y0 y1 y2, LeO (lecternlaw17_ImageAny.j1 k y0 y1 y2) (lecternlaw17_ImageAny.j1 (k + 1) y0 y1 y2)) ∧ (∀ y0 y1 y2 y3 y4 y5 y6, LeO (lecternlaw17_ImageAny.j2 k y0 y1 y2 y3 y4 y5 y6) (lecternlaw17_ImageAny.j2 (k + 1) y0 y1 y2 y3 y4 y5 y6))
 | 0 => ⟨fun _ _ r h => by simp [lecternlaw17_ImageAny.l0] at h, fun _ _ _ r h => by simp [lecternlaw17_ImageAny.j1] at h, fun _ _ _ _ _ _ _ r h => by simp [lecternlaw17_ImageAny.j2] at h⟩
 | k + 1 => by
  obtain ⟨ih0, ih1, ih2⟩ := lecternlaw17_ImageAny.mono_l k
  refine ⟨?_, ?_, ?_⟩
  ·intro y0 y1
   unfold lecternlaw17_ImageAny.l0
   repeat' first
   | (with_reducible exact ih0 _ _)
   | (with_reducible exact ih1 _ _ _)
   | (with_reducible exact ih2 _ _ _ _ _ _ _)
   | (with_reducible exact image_Bytes.mono _ _ _ _)
   | (with_reducible exact image_Parse.mono _ _)
   | (with_reducible exact lecternlaw17_wakes.mono _)
   | (with_reducible exact lecternref0_CopyBytes.mono _ _)
   | (with_reducible exact lecternref0_EqBytes.mono _ _ _)
   | (with_reducible exact lecternref0_EqState.mono _ _ _ _ _ _ _)
   | (with_reducible exact lecternref14_State.mono _ _ _ _)
   | (with_reducible exact LeO.refl _)
   | (with_reducible exact LeO.none _)
   | (with_reducible refine LeO.ite ?_ ?_)
   | (with_reducible refine LeO.bind ?_ (fun _ => ?_))
   | exact ih0 _ _
   | exact ih1 _ _ _
   | exact ih2 _ _ _ _ _ _ _
   | exact image_Bytes.mono _ _ _ _
   | exact image_Parse.mono _ _
   | exact lecternlaw17_wakes.mono _
   | exact lecternref0_CopyBytes.mono _ _
   | exact lecternref0_EqBytes.mono _ _ _
   | exact lecternref0_EqState.mono _ _ _ _ _ _ _
   | exact lecternref14_State.mono _ _ _ _
   | exact LeO.none _
   | refine LeO.ite ?_ ?_
   | refine LeO.bind ?_ (fun _ => ?_)
  ·intro y0 y1 y2
   unfold lecternlaw17_ImageAny.j1
   repeat' first
   | (with_reducible exact ih0 _ _)
   | (with_reducible exact ih1 _ _ _)
   | (with_reducible exact ih2 _ _ _ _ _ _ _)
   | (with_reducible exact image_Bytes.mono _ _ _ _)
   | (with_reducible exact image_Parse.mono _ _)
   | (with_reducible exact lecternlaw17_wakes.mono _)
   | (with_reducible exact lecternref0_CopyBytes.mono _ _)
   | (with_reducible exact lecternref0_EqBytes.mono _ _ _)
   | (with_reducible exact lecternref0_EqState.mono _ _ _ _ _ _ _)
   | (with_reducible exact lecternref14_State.mono _ _ _ _)
   | (with_reducible exact LeO.refl _)
   | (with_reducible exact LeO.none _)
   | (with_reducible refine LeO.ite ?_ ?_)
   | (with_reducible refine LeO.bind ?_ (fun _ => ?_))
   | exact ih0 _ _
   | exact ih1 _ _ _
   | exact ih2 _ _ _ _ _ _ _
   | exact image_Bytes.mono _ _ _ _
   | exact image_Parse.mono _ _
   | exact lecternlaw17_wakes.mono _
   | exact lecternref0_CopyBytes.mono _ _
   | exact lecternref0_EqBytes.mono _ _ _
   | exact lecternref0_EqState.mono _ _ _ _ _ _ _
   | exact lecternref14_State.mono _ _ _ _
   | exact LeO.none _
   | refine LeO.ite ?_ ?_
   | refine LeO.bind ?_ (fun _ => ?_)
  ·intro y0 y1 y2 y3 y4 y5 y6
   unfold lecternlaw17_ImageAny.j2
   repeat' first
   | (with_reducible exact ih0 _ _)
   | (with_reducible exact ih1 _ _ _)
   | (with_reducible exact ih2 _ _ _ _ _ _ _)
   | (with_reducible exact image_Bytes.mono _ _ _ _)
   | (with_reducible exact image_Parse.mono _ _)
   | (with_reducible exact lecternlaw17_wakes.mono _)
   | (with_reducible exact lecternref0_CopyBytes.mono _ _)
   | (with_reducible exact lecternref0_EqBytes.mono _ _ _)
   | (with_reducible exact lecternref0_EqState.mono _ _ _ _ _ _ _)
   | (with_reducible exact lecternref14_State.mono _ _ _ _)
   | (with_reducible exact LeO.refl _)
   | (with_reducible exact LeO.none _)
   | (with_reducible refine LeO.ite ?_ ?_)
   | (with_reducible refine LeO.bind ?_ (fun _ => ?_))
   | exact ih0 _ _
   | exact ih1 _ _ _
   | exact ih2 _ _ _ _ _ _ _
   | exact image_Bytes.mono _ _ _ _
   | exact image_Parse.mono _ _
   | exact lecternlaw17_wakes.mono _
   | exact lecternref0_CopyBytes.mono _ _
   | exact lecternref0_EqBytes.mono _ _ _
   | exact lecternref0_EqState.mono _ _ _ _ _ _ _
   | exact lecternref14_State.mono _ _ _ _
   | exact LeO.none _
   | refine LeO.ite ?_ ?_
   | refine LeO.bind ?_ (fun _ => ?_)
theorem lecternlaw17_ImageAny.mono : ∀ a0 k, LeO (lecternlaw17_ImageAny.f k a0) (lecternlaw17_ImageAny.f (k + 1) a0) := by
 intro a0 k
 obtain ⟨ih0, ih1, ih2⟩ := lecternlaw17_ImageAny.mono_l k
 unfold lecternlaw17_ImageAny.f
 repeat' first
   | (with_reducible exact ih0 _ _)
   | (with_reducible exact ih1 _ _ _)
   | (with_reducible exact ih2 _ _ _ _ _ _ _)
   | (with_reducible exact image_Bytes.mono _ _ _ _)
   | (with_reducible exact image_Parse.mono _ _)
   | (with_reducible exact lecternlaw17_wakes.mono _)
   | (with_reducible exact lecternref0_CopyBytes.mono _ _)
   | (with_reducible exact lecternref0_EqBytes.mono _ _ _)
   | (with_reducible exact lecternref0_EqState.mono _ _ _ _ _ _ _)
   | (with_reducible exact lecternref14_State.mono _ _ _ _)
   | (with_reducible exact LeO.refl _)
   | (with_reducible exact LeO.none _)
   | (with_reducible refine LeO.ite ?_ ?_)
   | (with_reducible refine LeO.bind ?_ (fun _ => ?_))
   | exact ih0 _ _
   | exact ih1 _ _ _
   | exact ih2 _ _ _ _ _ _ _
   | exact image_Bytes.mono _ _ _ _
   | exact image_Parse.mono _ _
   | exact lecternlaw17_wakes.mono _
   | exact lecternref0_CopyBytes.mono _ _
   | exact lecternref0_EqBytes.mono _ _ _
   | exact lecternref0_EqState.mono _ _ _ _ _ _ _
   | exact lecternref14_State.mono _ _ _ _
   | exact LeO.none _
   | refine LeO.ite ?_ ?_
   | refine LeO.bind ?_ (fun _ => ?_)
set_option maxHeartbeats 8000000 in
set_option maxRecDepth 100000 in
theorem lecternlaw17_ImageAny.calls (k : Nat) (A0 : Option Addr) (c0 : Nat) (l0 : List (List Int)) (r : Bool) (w : World) (hr0 : Kd.C (Kd.slice 5 (Kd.int .u8)) w A0 l0.length l0) (hc0 : l0.length ≤ c0) (h : lecternlaw17_ImageAny.f k l0 = some r) :
  Calls Try.prog 3 #[.slice A0 l0.length c0] w fun e w' => e = .returned (.bool r) ∧ Below w.heap.size w w' := by
 have hu28 := Try.underlying28
 have HR0 := Aside0.mk hr0
 have HC0 := Aside0.mk hc0
 clear hr0 hc0
 have HB := Aside0.mk (Below.refl w.heap.size w)
 have H : (lecternlaw17_ImageAny.l0 k l0 0) = some r := h
 clear h
 have H' := Aside0.mk H
 clear H
 go_enter Try.func3, Try.ntmps3
 go_wp2
 go_loopg [3] k (fun kq v3 w' => ∃ (x3_1 : Int), v3 = .int .i64 x3_1 ∧ Aside0 (lecternlaw17_ImageAny.l0 kq l0 x3_1 = some r) ∧ Aside0 (kq ≤ k) ∧ Aside0 (Below w.heap.size w w'))
 case atStart => exact ⟨(0), (by first | rfl | (simp; done) | (simp [*]; done)), H', ⟨Nat.le_refl _⟩, ⟨by repeat (first | (with_reducible first | exact HB.out | apply below_alloc | apply pw_below_drewN | apply below_drew1) | exact HB.out)⟩⟩
 case round =>
  clear H'
  obtain ⟨x3_1, rfl, HA, HK1, HB⟩ := hrel
  cases gk with
  | zero => exact absurd HA.out (by simp [lecternlaw17_ImageAny.l0])
  | succ k1 =>
   have H := HA.out
   clear HA
   simp only [lecternlaw17_ImageAny.l0] at H
   have HC2 := Aside0.mk H
   clear H
   go_upto_region 2 with (fail)
   go_cut [16] (fun v16 wc => ∃ (kq : Nat) (x16_1 : Bool), v16 = .bool x16_1 ∧ Aside0 (lecternlaw17_ImageAny.j1 kq l0 x3_1 x16_1 = some r) ∧ Aside0 (kq ≤ k1) ∧ Aside0 (Below w.heap.size w wc))
   case first =>
    have H := HC2.out
    clear HC2
    by_cases c3 : x3_1 < (l0.length : Int)
    ·rw [if_pos c3] at H
     have c3b0 : decide (x3_1 < (l0.length : Int)) = true := decide_eq_true c3
     clear c3
     (first | rw [c3b0] | (simp only [i64_w, i32_w]; rw [c3b0]) | skip)
     have H' := Aside0.mk H
     clear H
     go_wp2
     go_meet
     case rel => exact ⟨_, (decide (x3_1 < 20)), (by first | rfl | (simp; done) | (simp [*]; done)), H', ⟨by have := HK1.out; first | omega | exact Nat.le_refl _⟩, ⟨by repeat (first | (with_reducible first | exact HB.out | apply below_alloc | apply pw_below_drewN | apply below_drew1) | exact HB.out)⟩⟩
    ·rw [if_neg c3] at H
     have c3b0 : decide (x3_1 < (l0.length : Int)) = false := decide_eq_false c3
     clear c3
     (first | rw [c3b0] | (simp only [i64_w, i32_w]; rw [c3b0]) | skip)
     have H' := Aside0.mk H
     clear H
     go_wp2
     go_meet
     case rel => exact ⟨_, (false), (by first | rfl | (simp; done) | (simp [*]; done)), H', ⟨by have := HK1.out; first | omega | exact Nat.le_refl _⟩, ⟨by repeat (first | (with_reducible first | exact HB.out | apply below_alloc | apply pw_below_drewN | apply below_drew1) | exact HB.out)⟩⟩
   case rest =>
    clear HC2
    try clear p2
    try clear c3
    try clear c3b0
    obtain ⟨kq, x16_1, rfl, HA, HJ1, HB⟩ := hcut
    cases kq with
    | zero => exact absurd HA.out (by simp [lecternlaw17_ImageAny.j1])
    | succ kj1 =>
     have H := HA.out
     clear HA
     simp only [lecternlaw17_ImageAny.j1] at H
     by_cases c4 : x16_1 = true
     ·subst c4
      have H1 : (if 0 ≤ x3_1 then (if x3_1 < (l0.length : Int) then (if ((rd_L8 l0 x3_1).length : Int) > 4000 then (some true) else ((lecternref0_CopyBytes.f kj1 (rd_L8 l0 x3_1)).bind fun t261 => ((image_Parse.f kj1 t261).bind fun bt264 => ((lecternref0_EqBytes.f kj1 t261 (rd_L8 l0 x3_1)).bind fun t274 => (if t274 = true then ((lecternlaw17_num.f bt264.2.2.2).bind fun t275 => (if t275 = 0 then (lecternlaw17_ImageAny.j2 kj1 l0 x3_1 bt264.2.2.2 false bt264.1 bt264.2.1 bt264.2.2.1) else ((lecternlaw17_num.f bt264.2.2.2).bind fun t276 => (if t276 = 1 then ((lecternref0_EqState.f kj1 bt264.1 bt264.2.1 bt264.2.2.1 0 ([] : List (S42)) ([] : List (S47))).bind fun t277 => (lecternlaw17_ImageAny.j2 kj1 l0 x3_1 bt264.2.2.2 (!t277) bt264.1 bt264.2.1 bt264.2.2.1)) else (none))))) else (none)))))) else (none)) else (none)) = some r := by rw [if_pos rfl] at H; exact H
      clear H
      have H := H1
      clear H1
      by_cases c5 : 0 ≤ x3_1
      ·rw [if_pos c5] at H
       have c5b0 : decide (0 ≤ x3_1) = true := decide_eq_true c5
       clear c5
       by_cases c6 : x3_1 < (l0.length : Int)
       ·rw [if_pos c6] at H
        have c6b0 : decide (x3_1 < (l0.length : Int)) = true := decide_eq_true c6
        clear c6
        by_cases c7 : ((rd_L8 l0 x3_1).length : Int) > 4000
        ·rw [if_pos c7] at H
         have c7b0 : decide (4000 < ((rd_L8 l0 x3_1).length : Int)) = true := decide_eq_true c7
         have c7b1 : decide (4000 < (rd_L8 l0 x3_1).length) = true := decide_eq_true (by omega)
         clear c7
         obtain rfl := Option.some.inj H
         have p259 : 0 ≤ (x3_1 : Int) := of_decide_eq_true (by assumption)
         have q259 : x3_1 < (l0.length : Int) := of_decide_eq_true (by assumption)
         obtain ⟨ad259, A259_0, c259_0, e259, hx259_0, hl259_0, hi259_0⟩ := at_L8 HR0.out x3_1 p259 q259
         cases e259
         replace hx259_0 := cb_ HB hx259_0
         have HR259_0 := Aside0.mk hi259_0
         have HC259_0 := Aside0.mk hl259_0
         clear hi259_0 hl259_0
         replace p259 := eq_true p259
         replace q259 := eq_true q259
         go_wp2
         go_ret
         exact ⟨by first | rfl | (simp [errW_none, errW_some] <;> rfl) | (simp [*, errW_none, errW_some] <;> rfl), by repeat (first | (with_reducible first | exact HB.out | apply below_alloc | apply pw_below_drewN | apply below_drew1) | exact HB.out)⟩
        ·rw [if_neg c7] at H
         have c7b0 : decide (4000 < ((rd_L8 l0 x3_1).length : Int)) = false := decide_eq_false c7
         have c7b1 : decide (4000 < (rd_L8 l0 x3_1).length) = false := decide_eq_false (by omega)
         clear c7
         replace H := Option.bind_eq_some_iff.mp H
         obtain ⟨t261, A80, H⟩ := H
         replace H : ((image_Parse.f kj1 t261).bind fun bt264 => ((lecternref0_EqBytes.f kj1 t261 (rd_L8 l0 x3_1)).bind fun t274 => (if t274 = true then ((lecternlaw17_num.f bt264.2.2.2).bind fun t275 => (if t275 = 0 then (lecternlaw17_ImageAny.j2 kj1 l0 x3_1 bt264.2.2.2 false bt264.1 bt264.2.1 bt264.2.2.1) else ((lecternlaw17_num.f bt264.2.2.2).bind fun t276 => (if t276 = 1 then ((lecternref0_EqState.f kj1 bt264.1 bt264.2.1 bt264.2.2.1 0 ([] : List (S42)) ([] : List (S47))).bind fun t277 => (lecternlaw17_ImageAny.j2 kj1 l0 x3_1 bt264.2.2.2 (!t277) bt264.1 bt264.2.1 bt264.2.2.1)) else (none))))) else (none)))) = some r := H
         have A8 := Aside0.mk A80
         clear A80
         replace H := Option.bind_eq_some_iff.mp H
         obtain ⟨⟨t264, t265, t268, t271⟩, A90, H⟩ := H
         replace H : ((lecternref0_EqBytes.f kj1 t261 (rd_L8 l0 x3_1)).bind fun t274 => (if t274 = true then ((lecternlaw17_num.f t271).bind fun t275 => (if t275 = 0 then (lecternlaw17_ImageAny.j2 kj1 l0 x3_1 t271 false t264 t265 t268) else ((lecternlaw17_num.f t271).bind fun t276 => (if t276 = 1 then ((lecternref0_EqState.f kj1 t264 t265 t268 0 ([] : List (S42)) ([] : List (S47))).bind fun t277 => (lecternlaw17_ImageAny.j2 kj1 l0 x3_1 t271 (!t277) t264 t265 t268)) else (none))))) else (none))) = some r := H
         have A9 := Aside0.mk A90
         clear A90
         have HC10 := Aside0.mk H
         clear H
         have p259 : 0 ≤ (x3_1 : Int) := of_decide_eq_true (by assumption)
         have q259 : x3_1 < (l0.length : Int) := of_decide_eq_true (by assumption)
         obtain ⟨ad259, A259_0, c259_0, e259, hx259_0, hl259_0, hi259_0⟩ := at_L8 HR0.out x3_1 p259 q259
         cases e259
         replace hx259_0 := cb_ HB hx259_0
         have HR259_0 := Aside0.mk hi259_0
         have HC259_0 := Aside0.mk hl259_0
         clear hi259_0 hl259_0
         replace p259 := eq_true p259
         replace q259 := eq_true q259
         have p260 : 0 ≤ (x3_1 : Int) := of_decide_eq_true (by assumption)
         have q260 : x3_1 < (l0.length : Int) := of_decide_eq_true (by assumption)
         obtain ⟨ad260, A260_0, c260_0, e260, hx260_0, hl260_0, hi260_0⟩ := at_L8 HR0.out x3_1 p260 q260
         obtain rfl : ad259 = ad260 := (by injection e260)
         replace hx260_0 := cb_ HB hx260_0
         have HR260_0 := Aside0.mk hi260_0
         have HC260_0 := Aside0.mk hl260_0
         clear hi260_0 hl260_0
         replace p260 := eq_true p260
         replace q260 := eq_true q260
         have ea_ := Option.some.inj (hx259_0.symm.trans hx260_0)
         injection ea_ with ea_ en_ ec_
         subst ea_
         subst ec_
         clear en_
         go_upto_region 8 with (first | ((with_reducible refine gate_callee (f := 5) rfl ?_); refine goesL_ (some 29) rfl rfl Try.func5 (by kernel_rfl) rfl #[.slice A259_0 (rd_L8 l0 x3_1).length c259_0] rfl (by (try simp only [List.map_toArray, List.map_cons, List.map_nil]); first | done | rfl | (simp only [List.length_drop, List.length_take]; rfl)) ?_; (with_reducible refine (lecternref0_CopyBytes.calls kj1 _ _ (rd_L8 l0 x3_1) t261 _ ?side1 ?side2 A8.out).mono ?_); (case side1 => repeat (first | exact (Kd.C_below HR260_0.out HB.out) | (with_reducible refine Kd.C_alloc ?_ _) | (with_reducible refine Kd.C_drewN ?_ _) | (with_reducible refine Kd.C_drew ?_))); (case side2 => exact HC260_0.out); rintro e w11 ⟨v262, rfl, ho0, hb⟩; refine ⟨_, rfl, ?_⟩; have n0_ := Aside0.mk (Kd.R_lower ho0 (below_size (by repeat (first | (with_reducible first | exact HB.out | apply below_alloc | apply pw_below_drewN | apply below_drew1) | exact HB.out)))); have n1_ := Aside0.mk (below_step (by repeat (first | (with_reducible first | exact HB.out | apply below_alloc | apply pw_below_drewN | apply below_drew1) | exact HB.out)) hb); clear HB; have HO263 := n0_; have HB := n1_; clear n0_ n1_; (try clear hb); (try clear hb2); (try clear hk); (try clear hi); (try clear ho0); obtain ⟨Ao12, co12, eo12⟩ := Kd.R_slice HO263.out; subst eo12) | ((with_reducible refine gate_callee (f := 6) rfl ?_); refine goesL_ (some 32) rfl rfl Try.func6 (by kernel_rfl) rfl #[.slice Ao12 t261.length co12] rfl (by (try simp only [List.map_toArray, List.map_cons, List.map_nil]); first | done | rfl | (simp only [List.length_drop, List.length_take]; rfl)) ?_; (with_reducible refine (image_Parse.calls kj1 _ _ t261 t264 t265 t268 t271 _ ?side1 ?side2 A9.out).mono ?_); (case side1 => repeat (first | exact (Kd.R_reads' HO263.out).2.2 | (with_reducible refine Kd.C_alloc ?_ _) | (with_reducible refine Kd.C_drewN ?_ _) | (with_reducible refine Kd.C_drew ?_))); (case side2 => exact (Kd.R_reads' HO263.out).2.1); rintro e w13 ⟨v266, v269, rfl, ho0, ho1, hb⟩; refine ⟨_, rfl, ?_⟩; have n0_ := Aside0.mk (Kd.R_below (by (with_reducible repeat (first | apply Kd.R_alloc | apply Kd.R_drewN | apply Kd.R_drew)); exact HO263.out) hb); have n1_ := Aside0.mk (Kd.R_lower ho0 (below_size (by repeat (first | (with_reducible first | exact HB.out | apply below_alloc | apply pw_below_drewN | apply below_drew1) | exact HB.out)))); have n2_ := Aside0.mk (Kd.S_lower ho1 (below_size (by repeat (first | (with_reducible first | exact HB.out | apply below_alloc | apply pw_below_drewN | apply below_drew1) | exact HB.out)))); have n3_ := Aside0.mk (below_step (by repeat (first | (with_reducible first | exact HB.out | apply below_alloc | apply pw_below_drewN | apply below_drew1) | exact HB.out)) hb); clear HO263; clear HB; have HO263 := n0_; have HO267 := n1_; have HO270 := n2_; have HB := n3_; clear n0_ n1_ n2_ n3_; (try clear hb); (try clear hb2); (try clear hk); (try clear hi); (try clear ho0); (try clear ho1)) | ((with_reducible refine gate_dst (N := 5) rfl ?_); refine box_event ?hg (N := 5) ?hd (cs := #[.int .i64 0, .slice none 0 0, .slice none 0 0]) (t := 28) ?hr ?_; (case hd => rfl); (case hg => rfl); (case hr => first | (go_simp; done) | (go_simp; rfl)); intro gb272 hg w14 hbox hb; have n0_ := Aside0.mk (Kd.R_below (by (with_reducible repeat (first | apply Kd.R_alloc | apply Kd.R_drewN | apply Kd.R_drew)); exact HO263.out) hb); have n1_ := Aside0.mk (Kd.R_below (by (with_reducible repeat (first | apply Kd.R_alloc | apply Kd.R_drewN | apply Kd.R_drew)); exact HO267.out) hb); have n2_ := Aside0.mk (Kd.S_below (by (with_reducible repeat (first | apply Kd.S_alloc | apply Kd.S_drewN | apply Kd.S_drew)); exact HO270.out) hb); have n3_ := Aside0.mk (below_step (by repeat (first | (with_reducible first | exact HB.out | apply below_alloc | apply pw_below_drewN | apply below_drew1) | exact HB.out)) hb); have n4_ := Aside0.mk (hbox); have n5_ := Aside0.mk ((by rw [hg]; exact (below_size (by repeat (first | (with_reducible first | exact HB.out | apply below_alloc | apply pw_below_drewN | apply below_drew1) | exact HB.out))) : w.heap.size ≤ gb272)); have n6_ := Aside0.mk ((by rw [hg]; exact (below_size (by repeat (first | (with_reducible first | exact HB.out | apply below_alloc | apply pw_below_drewN | apply below_drew1) | exact HB.out))) : w.heap.size ≤ gb272)); clear HO263; clear HO267; clear HO270; clear HB; have HO263 := n0_; have HO267 := n1_; have HO270 := n2_; have HB := n3_; have BK272 := n4_; have GW272 := n5_; have GE272 := n6_; clear n0_ n1_ n2_ n3_ n4_ n5_ n6_; clear hb hbox hg; have hcz15_0 : w14.cell? ⟨gb272, 0, none⟩ = some (.int .i64 0) := (blk_cell BK272.out 0).trans rfl; have hcz15_1 : w14.cell? ⟨gb272, 1, none⟩ = some (.slice none 0 0) := (blk_cell BK272.out 1).trans rfl; have hcz15_2 : w14.cell? ⟨gb272, 2, none⟩ = some (.slice none 0 0) := (blk_cell BK272.out 2).trans rfl; have hfz15_0 := blk_frozen BK272.out 0; have hfz15_1 := blk_frozen BK272.out 1; have hfz15_2 := blk_frozen BK272.out 2; obtain ⟨Ao16, co16, eo16⟩ := Kd.R_slice HO267.out; subst eo16; obtain ⟨Ao17, co17, eo17⟩ := Kd.S_slice HO270.out; subst eo17))
         (try simp only [Act.put, List.setIfInBounds_toArray, List.set_cons_zero, List.set_cons_succ])
         go_cut [57] (fun v57 wc => ∃ (kq : Nat) (x57_9 : Bool), v57 = .bool x57_9 ∧ Aside0 (lecternlaw17_ImageAny.j2 kq l0 x3_1 t271 x57_9 t264 t265 t268 = some r) ∧ Aside0 (kq ≤ kj1) ∧ Aside0 (Kd.R k42 42 wc w.heap.size (fun _ => True) (.slice Ao16 t265.length co16) t265) ∧ Aside0 (Kd.S k47 47 wc w.heap.size (fun _ => True) (.slice Ao17 t268.length co17) t268) ∧ Aside0 (wc.heap[gb272]? = some (.cells #[.int .i64 t264, (.slice Ao16 t265.length co16), (.slice Ao17 t268.length co17)] 28 (0, 0))) ∧ Aside0 (Below w.heap.size w wc))
         case first =>
          have H := HC10.out
          clear HC10
          replace H := Option.bind_eq_some_iff.mp H
          obtain ⟨t274, A180, H⟩ := H
          replace H : (if t274 = true then ((lecternlaw17_num.f t271).bind fun t275 => (if t275 = 0 then (lecternlaw17_ImageAny.j2 kj1 l0 x3_1 t271 false t264 t265 t268) else ((lecternlaw17_num.f t271).bind fun t276 => (if t276 = 1 then ((lecternref0_EqState.f kj1 t264 t265 t268 0 ([] : List (S42)) ([] : List (S47))).bind fun t277 => (lecternlaw17_ImageAny.j2 kj1 l0 x3_1 t271 (!t277) t264 t265 t268)) else (none))))) else (none)) = some r := H
          have A18 := Aside0.mk A180
          clear A180
          by_cases c19 : t274 = true
          ·subst c19
           have H1 : ((lecternlaw17_num.f t271).bind fun t275 => (if t275 = 0 then (lecternlaw17_ImageAny.j2 kj1 l0 x3_1 t271 false t264 t265 t268) else ((lecternlaw17_num.f t271).bind fun t276 => (if t276 = 1 then ((lecternref0_EqState.f kj1 t264 t265 t268 0 ([] : List (S42)) ([] : List (S47))).bind fun t277 => (lecternlaw17_ImageAny.j2 kj1 l0 x3_1 t271 (!t277) t264 t265 t268)) else (none))))) = some r := by rw [if_pos rfl] at H; exact H
           clear H
           have H := H1
           clear H1
           replace H := Option.bind_eq_some_iff.mp H
           obtain ⟨t275, A200, H⟩ := H
           replace H : (if t275 = 0 then (lecternlaw17_ImageAny.j2 kj1 l0 x3_1 t271 false t264 t265 t268) else ((lecternlaw17_num.f t271).bind fun t276 => (if t276 = 1 then ((lecternref0_EqState.f kj1 t264 t265 t268 0 ([] : List (S42)) ([] : List (S47))).bind fun t277 => (lecternlaw17_ImageAny.j2 kj1 l0 x3_1 t271 (!t277) t264 t265 t268)) else (none)))) = some r := H
           have A20 := Aside0.mk A200
           clear A200
           by_cases c21 : t275 = 0
           ·rw [if_pos c21] at H
            have c21b0 : (t275 == 0) = true := beq_iff_eq.mpr c21
            have c21b1 : (t275 != 0) = false := bne_eq_false_iff_eq.mpr c21
            clear c21
            (first | rw [c21b0] | (simp only [i64_w, i32_w]; rw [c21b0]) | skip)
            have H' := Aside0.mk H
            clear H
            have p273 : 0 ≤ (x3_1 : Int) := of_decide_eq_true (by assumption)
            have q273 : x3_1 < (l0.length : Int) := of_decide_eq_true (by assumption)
            obtain ⟨ad273, A273_0, c273_0, e273, hx273_0, hl273_0, hi273_0⟩ := at_L8 HR0.out x3_1 p273 q273
            obtain rfl : ad259 = ad273 := (by injection e273)
            have hn273_0 : ad259.block ≠ gb272 := Nat.ne_of_lt (Nat.lt_of_lt_of_le (by have := World.block_lt_of_cell? _ _ hx273_0; first | rwa [add_block] at this | exact this) GW272.out)
            have hn273_1 : ad259.block ≠ gb272 := Nat.ne_of_lt (Nat.lt_of_lt_of_le (by have := World.block_lt_of_cell? _ _ hx273_0; first | rwa [add_block] at this | exact this) GW272.out)
            have hn273_2 : ad259.block ≠ gb272 := Nat.ne_of_lt (Nat.lt_of_lt_of_le (by have := World.block_lt_of_cell? _ _ hx273_0; first | rwa [add_block] at this | exact this) GW272.out)
            replace hx273_0 := cb_ HB hx273_0
            have HR273_0 := Aside0.mk hi273_0
            have HC273_0 := Aside0.mk hl273_0
            clear hi273_0 hl273_0
            replace hx273_0 := (cell_far (p := ⟨gb272, 0, none⟩) (by first | (rw [add_block]; exact hn273_0) | (show (Addr.add _ _).block ≠ _; rw [add_block]; exact hn273_0) | exact hn273_0) (.int .i64 t264)).trans hx273_0
            replace hx273_0 := (cell_far (p := ⟨gb272, 1, none⟩) (by first | (rw [add_block]; exact hn273_1) | (show (Addr.add _ _).block ≠ _; rw [add_block]; exact hn273_1) | exact hn273_1) (.slice Ao16 t265.length co16)).trans hx273_0
            replace hx273_0 := (cell_far (p := ⟨gb272, 2, none⟩) (by first | (rw [add_block]; exact hn273_2) | (show (Addr.add _ _).block ≠ _; rw [add_block]; exact hn273_2) | exact hn273_2) (.slice Ao17 t268.length co17)).trans hx273_0
            clear hn273_0
            clear hn273_1
            clear hn273_2
            replace p273 := eq_true p273
            replace q273 := eq_true q273
            go_wp2_with (first | ((with_reducible refine gate_callee (f := 7) rfl ?_); refine goesL_ (some 40) rfl rfl Try.func7 (by kernel_rfl) rfl #[.slice Ao12 t261.length co12, .slice A273_0 (rd_L8 l0 x3_1).length c273_0] rfl (by (try simp only [List.map_toArray, List.map_cons, List.map_nil]); first | done | rfl | (simp only [List.length_drop, List.length_take]; rfl)) ?_; (with_reducible refine (lecternref0_EqBytes.calls kj1 _ _ t261 _ _ (rd_L8 l0 x3_1) true _ ?side1 ?side2 ?side3 ?side4 A18.out).mono ?_); (case side1 => refine (Kd.R_reads' (e := 5) (base := w.heap.size) (ok := fun k_ => True) (n := t261.length) (c := co12) ?_).2.2; exact (by (with_reducible repeat (first | apply Kd.R_alloc | apply Kd.R_drewN | apply Kd.R_drew)); exact (Kd.R_mono (Kd.R_far (p := ⟨gb272, 2, none⟩) (Kd.R_far (p := ⟨gb272, 1, none⟩) (Kd.R_far (p := ⟨gb272, 0, none⟩) (Kd.R_types HO263.out BK272.out (by decide)) (fun _ hk => hk.2) (.int .i64 t264)) (fun _ hk => hk.2) (.slice Ao16 t265.length co16)) (fun _ hk => hk.2) (.slice Ao17 t268.length co17)) (fun _ h_ => h_.1)))); (case side2 => exact (Kd.R_reads' HO263.out).2.1); (case side3 => exact Kd.C_below HR273_0.out (by repeat (first | (with_reducible first | exact HB.out | apply below_alloc | apply pw_below_drewN | apply below_drew1 | refine below_set ?_ GE272.out) | exact HB.out))); (case side4 => exact HC273_0.out); rintro e w' ⟨rfl, ⟨nd, rfl⟩⟩; refine ⟨_, rfl, ?_⟩) | (go_at_call 8; (with_reducible refine (lecternlaw17_num.calls t271 t275 _ A20.out).mono ?_); rintro e w' ⟨rfl, ⟨nd, rfl⟩⟩))
            go_meet
            case rel => exact ⟨_, (false), (by first | rfl | (simp; done) | (simp [*]; done)), H', ⟨by have := HK1.out; have := HJ1.out; first | omega | exact Nat.le_refl _⟩, ⟨by (with_reducible repeat (first | apply Kd.R_alloc | apply Kd.R_drewN | apply Kd.R_drew)); exact Kd.R_mono (Kd.R_far (p := ⟨gb272, 2, none⟩) (Kd.R_far (p := ⟨gb272, 1, none⟩) (Kd.R_far (p := ⟨gb272, 0, none⟩) (Kd.R_types HO267.out BK272.out (by decide)) (fun _ hk => hk.2) (.int .i64 t264)) (fun _ hk => hk.2) (.slice Ao16 t265.length co16)) (fun _ hk => hk.2) (.slice Ao17 t268.length co17)) (fun _ hk => trivial)⟩, ⟨by (with_reducible repeat (first | apply Kd.S_alloc | apply Kd.S_drewN | apply Kd.S_drew)); exact Kd.S_mono (Kd.S_far (p := ⟨gb272, 2, none⟩) (Kd.S_far (p := ⟨gb272, 1, none⟩) (Kd.S_far (p := ⟨gb272, 0, none⟩) (Kd.S_types HO270.out BK272.out (by decide)) (fun _ hk => hk.2) (.int .i64 t264)) (fun _ hk => hk.2) (.slice Ao16 t265.length co16)) (fun _ hk => hk.2) (.slice Ao17 t268.length co17)) (fun _ hk => trivial)⟩, ⟨by (with_reducible repeat (first | refine blk_drewN ?_ _ | refine blk_drew ?_ | refine blk_alloc ?_ _)); refine blk_put (cs := #[.int .i64 t264, .slice Ao16 t265.length co16, .slice none 0 0]) ?_ 2 _ rfl; (with_reducible repeat (first | refine blk_drewN ?_ _ | refine blk_drew ?_ | refine blk_alloc ?_ _)); refine blk_put (cs := #[.int .i64 t264, .slice none 0 0, .slice none 0 0]) ?_ 1 _ rfl; (with_reducible repeat (first | refine blk_drewN ?_ _ | refine blk_drew ?_ | refine blk_alloc ?_ _)); refine blk_put (cs := #[.int .i64 0, .slice none 0 0, .slice none 0 0]) ?_ 0 _ rfl; (with_reducible repeat (first | refine blk_drewN ?_ _ | refine blk_drew ?_ | refine blk_alloc ?_ _)); exact BK272.out⟩, ⟨by repeat (first | (with_reducible first | exact HB.out | apply below_alloc | apply pw_below_drewN | apply below_drew1 | refine below_set ?_ GE272.out) | exact HB.out)⟩⟩
           ·rw [if_neg c21] at H
            have c21b0 : (t275 == 0) = false := beq_eq_false_iff_ne.mpr c21
            have c21b1 : (t275 != 0) = true := bne_iff_ne.mpr c21
            (first | rw [c21b0] | (simp only [i64_w, i32_w]; rw [c21b0]) | skip)
            replace H := Option.bind_eq_some_iff.mp H
            obtain ⟨t276, A220, H⟩ := H
            have e276 : t275 = t276 := Option.some.inj (A20.out.symm.trans A220)
            replace H : (if t276 = 1 then ((lecternref0_EqState.f kj1 t264 t265 t268 0 ([] : List (S42)) ([] : List (S47))).bind fun t277 => (lecternlaw17_ImageAny.j2 kj1 l0 x3_1 t271 (!t277) t264 t265 t268)) else (none)) = some r := H
            have A22 := Aside0.mk A220
            clear A220
            by_cases c23 : t276 = 1
            ·rw [if_pos c23] at H
             have c23b0 : (t276 == 1) = true := beq_iff_eq.mpr c23
             have c23b1 : (t276 != 1) = false := bne_eq_false_iff_eq.mpr c23
             have c23b2 : (t275 != 1) = false := by rw [e276]; exact c23b1
             clear e276
             clear c23
             replace H := Option.bind_eq_some_iff.mp H
             obtain ⟨t277, A240, H⟩ := H
             replace H : (lecternlaw17_ImageAny.j2 kj1 l0 x3_1 t271 (!t277) t264 t265 t268) = some r := H
             have A24 := Aside0.mk A240
             clear A240
             have H' := Aside0.mk H
             clear H
             have p273 : 0 ≤ (x3_1 : Int) := of_decide_eq_true (by assumption)
             have q273 : x3_1 < (l0.length : Int) := of_decide_eq_true (by assumption)
             obtain ⟨ad273, A273_0, c273_0, e273, hx273_0, hl273_0, hi273_0⟩ := at_L8 HR0.out x3_1 p273 q273
             obtain rfl : ad259 = ad273 := (by injection e273)
             have hn273_0 : ad259.block ≠ gb272 := Nat.ne_of_lt (Nat.lt_of_lt_of_le (by have := World.block_lt_of_cell? _ _ hx273_0; first | rwa [add_block] at this | exact this) GW272.out)
             have hn273_1 : ad259.block ≠ gb272 := Nat.ne_of_lt (Nat.lt_of_lt_of_le (by have := World.block_lt_of_cell? _ _ hx273_0; first | rwa [add_block] at this | exact this) GW272.out)
             have hn273_2 : ad259.block ≠ gb272 := Nat.ne_of_lt (Nat.lt_of_lt_of_le (by have := World.block_lt_of_cell? _ _ hx273_0; first | rwa [add_block] at this | exact this) GW272.out)
             replace hx273_0 := cb_ HB hx273_0
             have HR273_0 := Aside0.mk hi273_0
             have HC273_0 := Aside0.mk hl273_0
             clear hi273_0 hl273_0
             replace hx273_0 := (cell_far (p := ⟨gb272, 0, none⟩) (by first | (rw [add_block]; exact hn273_0) | (show (Addr.add _ _).block ≠ _; rw [add_block]; exact hn273_0) | exact hn273_0) (.int .i64 t264)).trans hx273_0
             replace hx273_0 := (cell_far (p := ⟨gb272, 1, none⟩) (by first | (rw [add_block]; exact hn273_1) | (show (Addr.add _ _).block ≠ _; rw [add_block]; exact hn273_1) | exact hn273_1) (.slice Ao16 t265.length co16)).trans hx273_0
             replace hx273_0 := (cell_far (p := ⟨gb272, 2, none⟩) (by first | (rw [add_block]; exact hn273_2) | (show (Addr.add _ _).block ≠ _; rw [add_block]; exact hn273_2) | exact hn273_2) (.slice Ao17 t268.length co17)).trans hx273_0
             clear hn273_0
             clear hn273_1
             clear hn273_2
             replace p273 := eq_true p273
             replace q273 := eq_true q273
             go_wp2_with (first | ((with_reducible refine gate_callee (f := 7) rfl ?_); refine goesL_ (some 40) rfl rfl Try.func7 (by kernel_rfl) rfl #[.slice Ao12 t261.length co12, .slice A273_0 (rd_L8 l0 x3_1).length c273_0] rfl (by (try simp only [List.map_toArray, List.map_cons, List.map_nil]); first | done | rfl | (simp only [List.length_drop, List.length_take]; rfl)) ?_; (with_reducible refine (lecternref0_EqBytes.calls kj1 _ _ t261 _ _ (rd_L8 l0 x3_1) true _ ?side1 ?side2 ?side3 ?side4 A18.out).mono ?_); (case side1 => refine (Kd.R_reads' (e := 5) (base := w.heap.size) (ok := fun k_ => True) (n := t261.length) (c := co12) ?_).2.2; exact (by (with_reducible repeat (first | apply Kd.R_alloc | apply Kd.R_drewN | apply Kd.R_drew)); exact (Kd.R_mono (Kd.R_far (p := ⟨gb272, 2, none⟩) (Kd.R_far (p := ⟨gb272, 1, none⟩) (Kd.R_far (p := ⟨gb272, 0, none⟩) (Kd.R_types HO263.out BK272.out (by decide)) (fun _ hk => hk.2) (.int .i64 t264)) (fun _ hk => hk.2) (.slice Ao16 t265.length co16)) (fun _ hk => hk.2) (.slice Ao17 t268.length co17)) (fun _ h_ => h_.1)))); (case side2 => exact (Kd.R_reads' HO263.out).2.1); (case side3 => exact Kd.C_below HR273_0.out (by repeat (first | (with_reducible first | exact HB.out | apply below_alloc | apply pw_below_drewN | apply below_drew1 | refine below_set ?_ GE272.out) | exact HB.out))); (case side4 => exact HC273_0.out); rintro e w' ⟨rfl, ⟨nd, rfl⟩⟩; refine ⟨_, rfl, ?_⟩) | (go_at_call 8; (with_reducible refine (lecternlaw17_num.calls t271 t275 _ A20.out).mono ?_); rintro e w' ⟨rfl, ⟨nd, rfl⟩⟩) | (go_at_call 8; (with_reducible refine (lecternlaw17_num.calls t271 t276 _ A22.out).mono ?_); rintro e w' ⟨rfl, ⟨nd, rfl⟩⟩; have hcz25_0 : w14.cell? ⟨gb272, 0, none⟩ = some (.int .i64 0) := (blk_cell BK272.out 0).trans rfl; have hcz25_1 : w14.cell? ⟨gb272, 1, none⟩ = some (.slice none 0 0) := (blk_cell BK272.out 1).trans rfl; have hcz25_2 : w14.cell? ⟨gb272, 2, none⟩ = some (.slice none 0 0) := (blk_cell BK272.out 2).trans rfl; have hfz25_0 := blk_frozen BK272.out 0; have hfz25_1 := blk_frozen BK272.out 1; have hfz25_2 := blk_frozen BK272.out 2) | (go_at_call 9; (refine (lecternref0_EqState.calls kj1 t264 _ _ t265 _ _ t268 0 _ _ ([] : List (S42)) _ _ ([] : List (S47)) t277 _ ?side1 ?side2 ?side3 ?side4 ?side5 ?side6 ?side7 ?side8 A24.out).mono ?_); (case side1 => refine (Kd.R_reads' (e := 42) (base := w.heap.size) (ok := fun k_ => True) (n := t265.length) (c := co16) ?_).2.2; exact (by (with_reducible repeat (first | apply Kd.R_alloc | apply Kd.R_drewN | apply Kd.R_drew)); exact (Kd.R_mono (Kd.R_far (p := ⟨gb272, 2, none⟩) (Kd.R_far (p := ⟨gb272, 1, none⟩) (Kd.R_far (p := ⟨gb272, 0, none⟩) (Kd.R_types HO267.out BK272.out (by decide)) (fun _ hk => hk.2) (.int .i64 t264)) (fun _ hk => hk.2) (.slice Ao16 t265.length co16)) (fun _ hk => hk.2) (.slice Ao17 t268.length co17)) (fun _ h_ => h_.1)))); (case side2 => exact (Kd.R_reads' HO267.out).2.1); (case side3 => refine (Kd.S_reads' (e := 47) (base := w.heap.size) (ok := fun k_ => True) (n := t268.length) (c := co17) ?_).2.2; exact (by (with_reducible repeat (first | apply Kd.S_alloc | apply Kd.S_drewN | apply Kd.S_drew)); exact (Kd.S_mono (Kd.S_far (p := ⟨gb272, 2, none⟩) (Kd.S_far (p := ⟨gb272, 1, none⟩) (Kd.S_far (p := ⟨gb272, 0, none⟩) (Kd.S_types HO270.out BK272.out (by decide)) (fun _ hk => hk.2) (.int .i64 t264)) (fun _ hk => hk.2) (.slice Ao16 t265.length co16)) (fun _ hk => hk.2) (.slice Ao17 t268.length co17)) (fun _ h_ => h_.1)))); (case side4 => exact (Kd.S_reads' HO270.out).2.1); (case side5 => exact Kd.C_nil _ _); (case side6 => exact Nat.le_refl _); (case side7 => exact Kd.C_nil _ _); (case side8 => exact Nat.le_refl _); rintro e w26 ⟨rfl, hb⟩; have n0_ := Aside0.mk (Kd.R_below (by (with_reducible repeat (first | apply Kd.R_alloc | apply Kd.R_drewN | apply Kd.R_drew)); exact (Kd.R_mono (Kd.R_far (p := ⟨gb272, 2, none⟩) (Kd.R_far (p := ⟨gb272, 1, none⟩) (Kd.R_far (p := ⟨gb272, 0, none⟩) (Kd.R_types HO263.out BK272.out (by decide)) (fun _ hk => hk.2) (.int .i64 t264)) (fun _ hk => hk.2) (.slice Ao16 t265.length co16)) (fun _ hk => hk.2) (.slice Ao17 t268.length co17)) (fun _ h_ => h_.1))) hb); have n1_ := Aside0.mk (Kd.R_below (by (with_reducible repeat (first | apply Kd.R_alloc | apply Kd.R_drewN | apply Kd.R_drew)); exact (Kd.R_mono (Kd.R_far (p := ⟨gb272, 2, none⟩) (Kd.R_far (p := ⟨gb272, 1, none⟩) (Kd.R_far (p := ⟨gb272, 0, none⟩) (Kd.R_types HO267.out BK272.out (by decide)) (fun _ hk => hk.2) (.int .i64 t264)) (fun _ hk => hk.2) (.slice Ao16 t265.length co16)) (fun _ hk => hk.2) (.slice Ao17 t268.length co17)) (fun _ h_ => h_.1))) hb); have n2_ := Aside0.mk (Kd.S_below (by (with_reducible repeat (first | apply Kd.S_alloc | apply Kd.S_drewN | apply Kd.S_drew)); exact (Kd.S_mono (Kd.S_far (p := ⟨gb272, 2, none⟩) (Kd.S_far (p := ⟨gb272, 1, none⟩) (Kd.S_far (p := ⟨gb272, 0, none⟩) (Kd.S_types HO270.out BK272.out (by decide)) (fun _ hk => hk.2) (.int .i64 t264)) (fun _ hk => hk.2) (.slice Ao16 t265.length co16)) (fun _ hk => hk.2) (.slice Ao17 t268.length co17)) (fun _ h_ => h_.1))) hb); have n3_ := Aside0.mk (blk_below (g := gb272) (o := .cells #[.int .i64 t264, .slice Ao16 t265.length co16, .slice Ao17 t268.length co17] 28 (0, 0)) (by (with_reducible repeat (first | refine blk_drewN ?_ _ | refine blk_drew ?_ | refine blk_alloc ?_ _)); refine blk_put (cs := #[.int .i64 t264, .slice Ao16 t265.length co16, .slice none 0 0]) ?_ 2 _ rfl; (with_reducible repeat (first | refine blk_drewN ?_ _ | refine blk_drew ?_ | refine blk_alloc ?_ _)); refine blk_put (cs := #[.int .i64 t264, .slice none 0 0, .slice none 0 0]) ?_ 1 _ rfl; (with_reducible repeat (first | refine blk_drewN ?_ _ | refine blk_drew ?_ | refine blk_alloc ?_ _)); refine blk_put (cs := #[.int .i64 0, .slice none 0 0, .slice none 0 0]) ?_ 0 _ rfl; (with_reducible repeat (first | refine blk_drewN ?_ _ | refine blk_drew ?_ | refine blk_alloc ?_ _)); exact BK272.out) hb); have n4_ := Aside0.mk (below_step (by repeat (first | (with_reducible first | exact HB.out | apply below_alloc | apply pw_below_drewN | apply below_drew1 | refine below_set ?_ GE272.out) | exact HB.out)) hb); clear HO263; clear HO267; clear HO270; clear BK272; clear HB; have HO263 := n0_; have HO267 := n1_; have HO270 := n2_; have BK272 := n3_; have HB := n4_; clear n0_ n1_ n2_ n3_ n4_; (try clear hb); (try clear hb2); (try clear hk); (try clear hi)))
             go_meet
             case rel => exact ⟨_, (!t277), (by first | rfl | (simp; done) | (simp [*]; done)), H', ⟨by have := HK1.out; have := HJ1.out; first | omega | exact Nat.le_refl _⟩, ⟨by (with_reducible repeat (first | apply Kd.R_alloc | apply Kd.R_drewN | apply Kd.R_drew)); exact HO267.out⟩, ⟨by (with_reducible repeat (first | apply Kd.S_alloc | apply Kd.S_drewN | apply Kd.S_drew)); exact HO270.out⟩, ⟨by (with_reducible repeat (first | refine blk_drewN ?_ _ | refine blk_drew ?_ | refine blk_alloc ?_ _)); exact BK272.out⟩, ⟨by repeat (first | (with_reducible first | exact HB.out | apply below_alloc | apply pw_below_drewN | apply below_drew1 | refine below_set ?_ GE272.out) | exact HB.out)⟩⟩
            ·rw [if_neg c23] at H
             exact absurd H (by simp)
          ·rw [if_neg c19] at H
           exact absurd H (by simp)
         case rest =>
          clear HC10
          try clear c1
          try clear c2
          try clear p2
          try clear q2
          try clear hx2
          try clear c3
          try clear c3b0
          try clear c4
          try clear c5
          try clear c5b0
          try clear c6
          try clear c6b0
          try clear c7
          try clear c7b0
          try clear c7b1
          try clear c19
          try clear c21
          try clear c21b0
          try clear c21b1
          try clear c23
          try clear c23b0
          try clear c23b1
          try clear c25
          try clear p25
          try clear q25
          try clear hx25
          try clear c26
          try clear p26
          try clear q26
          try clear hx26
          try clear hcz15_0
          try clear hcz15_1
          try clear hcz15_2
          try clear hcz25_0
          try clear hcz25_1
          try clear hcz25_2
          try clear hfz15_0
          try clear hfz15_1
          try clear hfz15_2
          try clear hfz25_0
          try clear hfz25_1
          try clear hfz25_2
          try clear hx259_0
          try clear hx260_0
          try clear hx273_0
          try clear p2
          try clear p259
          try clear p260
          try clear p273
          try clear q259
          try clear q260
          try clear q273
          obtain ⟨kq, x57_9, rfl, HA, HJ9, HO_273001, HO_273002, BK272, HB⟩ := hcut
          cases kq with
          | zero => exact absurd HA.out (by simp [lecternlaw17_ImageAny.j2])
          | succ kj9 =>
           have H := HA.out
           clear HA
           simp only [lecternlaw17_ImageAny.j2] at H
           by_cases c27 : x57_9 = true
           ·rw [if_pos c27] at H
            exact absurd H (by simp)
           ·replace c27 := Bool.eq_false_iff.mpr c27
            subst c27
            have H1 : ((lecternlaw17_num.f t271).bind fun t278 => (if t278 = 0 then ((image_Bytes.f kj9 t264 t265 t268).bind fun bt279 => ((lecternlaw17_num.f bt279.2).bind fun t283 => (if t283 = 0 then (if 0 ≤ x3_1 then (if x3_1 < (l0.length : Int) then ((lecternref0_EqBytes.f kj9 bt279.1 (rd_L8 l0 x3_1)).bind fun t285 => (if t285 = true then ((lecternref14_State.f kj9 t264 t265 t268).bind fun t286 => (if t286 = true then (lecternlaw17_ImageAny.l0 kj9 l0 (wrap64 (x3_1 + 1))) else (none))) else (none))) else (none)) else (none)) else (none)))) else (lecternlaw17_ImageAny.l0 kj9 l0 (wrap64 (x3_1 + 1))))) = some r := by rw [if_neg (show ¬ (false = true) by decide)] at H; exact H
            clear H
            have H := H1
            clear H1
            replace H := Option.bind_eq_some_iff.mp H
            obtain ⟨t278, A280, H⟩ := H
            replace H : (if t278 = 0 then ((image_Bytes.f kj9 t264 t265 t268).bind fun bt279 => ((lecternlaw17_num.f bt279.2).bind fun t283 => (if t283 = 0 then (if 0 ≤ x3_1 then (if x3_1 < (l0.length : Int) then ((lecternref0_EqBytes.f kj9 bt279.1 (rd_L8 l0 x3_1)).bind fun t285 => (if t285 = true then ((lecternref14_State.f kj9 t264 t265 t268).bind fun t286 => (if t286 = true then (lecternlaw17_ImageAny.l0 kj9 l0 (wrap64 (x3_1 + 1))) else (none))) else (none))) else (none)) else (none)) else (none)))) else (lecternlaw17_ImageAny.l0 kj9 l0 (wrap64 (x3_1 + 1)))) = some r := H
            have A28 := Aside0.mk A280
            clear A280
            by_cases c29 : t278 = 0
            ·rw [if_pos c29] at H
             have c29b0 : (t278 == 0) = true := beq_iff_eq.mpr c29
             have c29b1 : (t278 != 0) = false := bne_eq_false_iff_eq.mpr c29
             clear c29
             replace H := Option.bind_eq_some_iff.mp H
             obtain ⟨⟨t279, t282⟩, A300, H⟩ := H
             replace H : ((lecternlaw17_num.f t282).bind fun t283 => (if t283 = 0 then (if 0 ≤ x3_1 then (if x3_1 < (l0.length : Int) then ((lecternref0_EqBytes.f kj9 t279 (rd_L8 l0 x3_1)).bind fun t285 => (if t285 = true then ((lecternref14_State.f kj9 t264 t265 t268).bind fun t286 => (if t286 = true then (lecternlaw17_ImageAny.l0 kj9 l0 (wrap64 (x3_1 + 1))) else (none))) else (none))) else (none)) else (none)) else (none))) = some r := H
             have A30 := Aside0.mk A300
             clear A300
             replace H := Option.bind_eq_some_iff.mp H
             obtain ⟨t283, A310, H⟩ := H
             replace H : (if t283 = 0 then (if 0 ≤ x3_1 then (if x3_1 < (l0.length : Int) then ((lecternref0_EqBytes.f kj9 t279 (rd_L8 l0 x3_1)).bind fun t285 => (if t285 = true then ((lecternref14_State.f kj9 t264 t265 t268).bind fun t286 => (if t286 = true then (lecternlaw17_ImageAny.l0 kj9 l0 (wrap64 (x3_1 + 1))) else (none))) else (none))) else (none)) else (none)) else (none)) = some r := H
             have A31 := Aside0.mk A310
             clear A310
             by_cases c32 : t283 = 0
             ·rw [if_pos c32] at H
              have c32b0 : (t283 == 0) = true := beq_iff_eq.mpr c32
              have c32b1 : (t283 != 0) = false := bne_eq_false_iff_eq.mpr c32
              clear c32
              by_cases c33 : 0 ≤ x3_1
              ·rw [if_pos c33] at H
               have c33b0 : decide (0 ≤ x3_1) = true := decide_eq_true c33
               clear c33
               by_cases c34 : x3_1 < (l0.length : Int)
               ·rw [if_pos c34] at H
                have c34b0 : decide (x3_1 < (l0.length : Int)) = true := decide_eq_true c34
                clear c34
                replace H := Option.bind_eq_some_iff.mp H
                obtain ⟨t285, A350, H⟩ := H
                replace H : (if t285 = true then ((lecternref14_State.f kj9 t264 t265 t268).bind fun t286 => (if t286 = true then (lecternlaw17_ImageAny.l0 kj9 l0 (wrap64 (x3_1 + 1))) else (none))) else (none)) = some r := H
                have A35 := Aside0.mk A350
                clear A350
                by_cases c36 : t285 = true
                ·subst c36
                 have H1 : ((lecternref14_State.f kj9 t264 t265 t268).bind fun t286 => (if t286 = true then (lecternlaw17_ImageAny.l0 kj9 l0 (wrap64 (x3_1 + 1))) else (none))) = some r := by rw [if_pos rfl] at H; exact H
                 clear H
                 have H := H1
                 clear H1
                 replace H := Option.bind_eq_some_iff.mp H
                 obtain ⟨t286, A370, H⟩ := H
                 replace H : (if t286 = true then (lecternlaw17_ImageAny.l0 kj9 l0 (wrap64 (x3_1 + 1))) else (none)) = some r := H
                 have A37 := Aside0.mk A370
                 clear A370
                 by_cases c38 : t286 = true
                 ·subst c38
                  have H1 : (lecternlaw17_ImageAny.l0 kj9 l0 (wrap64 (x3_1 + 1))) = some r := by rw [if_pos rfl] at H; exact H
                  clear H
                  have H := H1
                  clear H1
                  have H' := Aside0.mk H
                  clear H
                  go_wp2_with (first | ((with_reducible refine gate_callee (f := 8) rfl ?_); refine goesL_ (some 59) rfl rfl Try.func8 (by kernel_rfl) rfl #[.int .i64 t271] rfl (by (try simp only [List.map_toArray, List.map_cons, List.map_nil]); first | done | rfl | (simp only [List.length_drop, List.length_take]; rfl)) ?_; (with_reducible refine (lecternlaw17_num.calls t271 t278 _ A28.out).mono ?_); rintro e w' ⟨rfl, ⟨nd, rfl⟩⟩; refine ⟨_, rfl, ?_⟩; have hcz39_0 : wc.cell? ⟨gb272, 0, none⟩ = some (.int .i64 t264) := (blk_cell BK272.out 0).trans rfl; have hcz39_1 : wc.cell? ⟨gb272, 1, none⟩ = some (.slice Ao16 t265.length co16) := (blk_cell BK272.out 1).trans rfl; have hcz39_2 : wc.cell? ⟨gb272, 2, none⟩ = some (.slice Ao17 t268.length co17) := (blk_cell BK272.out 2).trans rfl; have hfz39_0 := blk_frozen BK272.out 0; have hfz39_1 := blk_frozen BK272.out 1; have hfz39_2 := blk_frozen BK272.out 2) | ((with_reducible refine gate_callee (f := 10) rfl ?_); refine goesL_ (some 63) rfl rfl Try.func10 (by kernel_rfl) rfl #[.agg #[.int .i64 t264, .slice Ao16 t265.length co16, .slice Ao17 t268.length co17]] rfl (by (try simp only [List.map_toArray, List.map_cons, List.map_nil]); first | done | rfl | (simp only [List.length_drop, List.length_take]; rfl)) ?_; (with_reducible refine (image_Bytes.calls kj9 t264 _ _ t265 _ _ t268 t279 t282 _ ?side1 ?side2 ?side3 ?side4 A30.out).mono ?_); (case side1 => repeat (first | exact (Kd.R_reads' HO_273001.out).2.2 | (with_reducible refine Kd.C_alloc ?_ _) | (with_reducible refine Kd.C_drewN ?_ _) | (with_reducible refine Kd.C_drew ?_))); (case side2 => exact (Kd.R_reads' HO_273001.out).2.1); (case side3 => repeat (first | exact (Kd.S_reads' HO_273002.out).2.2 | (with_reducible refine Kd.C_alloc ?_ _) | (with_reducible refine Kd.C_drewN ?_ _) | (with_reducible refine Kd.C_drew ?_))); (case side4 => exact (Kd.S_reads' HO_273002.out).2.1); rintro e w40 ⟨v280, rfl, ho0, hb⟩; refine ⟨_, rfl, ?_⟩; have n0_ := Aside0.mk (Kd.R_below (by (with_reducible repeat (first | apply Kd.R_alloc | apply Kd.R_drewN | apply Kd.R_drew)); exact HO_273001.out) hb); have n1_ := Aside0.mk (Kd.S_below (by (with_reducible repeat (first | apply Kd.S_alloc | apply Kd.S_drewN | apply Kd.S_drew)); exact HO_273002.out) hb); have n2_ := Aside0.mk (Kd.R_lower ho0 (below_size (by repeat (first | (with_reducible first | exact HB.out | apply below_alloc | apply pw_below_drewN | apply below_drew1 | refine below_set ?_ GE272.out) | exact HB.out)))); have n3_ := Aside0.mk (blk_below (g := gb272) (o := .cells #[.int .i64 t264, .slice Ao16 t265.length co16, .slice Ao17 t268.length co17] 28 (0, 0)) (by (with_reducible repeat (first | refine blk_drewN ?_ _ | refine blk_drew ?_ | refine blk_alloc ?_ _)); exact BK272.out) hb); have n4_ := Aside0.mk (below_step (by repeat (first | (with_reducible first | exact HB.out | apply below_alloc | apply pw_below_drewN | apply below_drew1 | refine below_set ?_ GE272.out) | exact HB.out)) hb); clear HO_273001; clear HO_273002; clear BK272; clear HB; have HO_273001 := n0_; have HO_273002 := n1_; have HO281 := n2_; have BK272 := n3_; have HB := n4_; clear n0_ n1_ n2_ n3_ n4_; (try clear hb); (try clear hb2); (try clear hk); (try clear hi); (try clear ho0)) | ((with_reducible refine gate_callee (f := 8) rfl ?_); refine goesL_ (some 67) rfl rfl Try.func8 (by kernel_rfl) rfl #[.int .i64 t282] rfl (by (try simp only [List.map_toArray, List.map_cons, List.map_nil]); first | done | rfl | (simp only [List.length_drop, List.length_take]; rfl)) ?_; (with_reducible refine (lecternlaw17_num.calls t282 t283 _ A31.out).mono ?_); rintro e w' ⟨rfl, ⟨nd, rfl⟩⟩; refine ⟨_, rfl, ?_⟩; have p284 : 0 ≤ (x3_1 : Int) := of_decide_eq_true (by assumption); have q284 : x3_1 < (l0.length : Int) := of_decide_eq_true (by assumption); obtain ⟨ad284, A284_0, c284_0, e284, hx284_0, hl284_0, hi284_0⟩ := at_L8 HR0.out x3_1 p284 q284; obtain rfl : ad259 = ad284 := (by injection e284); replace hx284_0 := cb_ HB hx284_0; have HR284_0 := Aside0.mk hi284_0; have HC284_0 := Aside0.mk hl284_0; clear hi284_0 hl284_0; replace p284 := eq_true p284; replace q284 := eq_true q284; obtain ⟨Ao41, co41, eo41⟩ := Kd.R_slice HO281.out; subst eo41) | (go_at_call 7; (with_reducible refine (lecternref0_EqBytes.calls kj9 _ _ t279 _ _ (rd_L8 l0 x3_1) true _ ?side1 ?side2 ?side3 ?side4 A35.out).mono ?_); (case side1 => repeat (first | exact (Kd.R_reads' HO281.out).2.2 | (with_reducible refine Kd.C_alloc ?_ _) | (with_reducible refine Kd.C_drewN ?_ _) | (with_reducible refine Kd.C_drew ?_))); (case side2 => exact (Kd.R_reads' HO281.out).2.1); (case side3 => repeat (first | exact (Kd.C_below HR284_0.out (by repeat (first | (with_reducible first | exact HB.out | apply below_alloc | apply pw_below_drewN | apply below_drew1 | refine below_set ?_ GE272.out) | exact HB.out))) | (with_reducible refine Kd.C_alloc ?_ _) | (with_reducible refine Kd.C_drewN ?_ _) | (with_reducible refine Kd.C_drew ?_))); (case side4 => exact HC284_0.out); rintro e w' ⟨rfl, ⟨nd, rfl⟩⟩; have hcz42_0 : w40.cell? ⟨gb272, 0, none⟩ = some (.int .i64 t264) := (blk_cell BK272.out 0).trans rfl; have hcz42_1 : w40.cell? ⟨gb272, 1, none⟩ = some (.slice Ao16 t265.length co16) := (blk_cell BK272.out 1).trans rfl; have hcz42_2 : w40.cell? ⟨gb272, 2, none⟩ = some (.slice Ao17 t268.length co17) := (blk_cell BK272.out 2).trans rfl; have hfz42_0 := blk_frozen BK272.out 0; have hfz42_1 := blk_frozen BK272.out 1; have hfz42_2 := blk_frozen BK272.out 2) | (go_at_call 11; (with_reducible refine (lecternref14_State.calls kj9 t264 _ _ t265 _ _ t268 true _ ?side1 ?side2 ?side3 ?side4 A37.out).mono ?_); (case side1 => repeat (first | exact (Kd.R_reads' HO_273001.out).2.2 | (with_reducible refine Kd.C_alloc ?_ _) | (with_reducible refine Kd.C_drewN ?_ _) | (with_reducible refine Kd.C_drew ?_))); (case side2 => exact (Kd.R_reads' HO_273001.out).2.1); (case side3 => repeat (first | exact (Kd.S_reads' HO_273002.out).2.2 | (with_reducible refine Kd.C_alloc ?_ _) | (with_reducible refine Kd.C_drewN ?_ _) | (with_reducible refine Kd.C_drew ?_))); (case side4 => exact (Kd.S_reads' HO_273002.out).2.1); rintro e w43 ⟨rfl, hb⟩; have n0_ := Aside0.mk (Kd.R_below (by (with_reducible repeat (first | apply Kd.R_alloc | apply Kd.R_drewN | apply Kd.R_drew)); exact HO_273001.out) hb); have n1_ := Aside0.mk (Kd.S_below (by (with_reducible repeat (first | apply Kd.S_alloc | apply Kd.S_drewN | apply Kd.S_drew)); exact HO_273002.out) hb); have n2_ := Aside0.mk (Kd.R_below (by (with_reducible repeat (first | apply Kd.R_alloc | apply Kd.R_drewN | apply Kd.R_drew)); exact HO281.out) hb); have n3_ := Aside0.mk (blk_below (g := gb272) (o := .cells #[.int .i64 t264, .slice Ao16 t265.length co16, .slice Ao17 t268.length co17] 28 (0, 0)) (by (with_reducible repeat (first | refine blk_drewN ?_ _ | refine blk_drew ?_ | refine blk_alloc ?_ _)); exact BK272.out) hb); have n4_ := Aside0.mk (below_step (by repeat (first | (with_reducible first | exact HB.out | apply below_alloc | apply pw_below_drewN | apply below_drew1 | refine below_set ?_ GE272.out) | exact HB.out)) hb); clear HO_273001; clear HO_273002; clear HO281; clear BK272; clear HB; have HO_273001 := n0_; have HO_273002 := n1_; have HO281 := n2_; have BK272 := n3_; have HB := n4_; clear n0_ n1_ n2_ n3_ n4_; (try clear hb); (try clear hb2); (try clear hk); (try clear hi)))
                  go_roundg kj9
                  case measure => have := HK1.out; have := HJ1.out; have := HJ9.out; omega
                  case rel => exact ⟨(wrap64 (x3_1 + 1)), (by first | rfl | (simp; done) | (simp [*]; done)), H', ⟨by have := HK1.out; have := HJ1.out; have := HJ9.out; omega⟩, ⟨by repeat (first | (with_reducible first | exact HB.out | apply below_alloc | apply pw_below_drewN | apply below_drew1 | refine below_set ?_ GE272.out) | exact HB.out)⟩⟩
                 ·rw [if_neg c38] at H
                  exact absurd H (by simp)
                ·rw [if_neg c36] at H
                 exact absurd H (by simp)
               ·rw [if_neg c34] at H
                exact absurd H (by simp)
              ·rw [if_neg c33] at H
               exact absurd H (by simp)
             ·rw [if_neg c32] at H
              exact absurd H (by simp)
            ·rw [if_neg c29] at H
             have c29b0 : (t278 == 0) = false := beq_eq_false_iff_ne.mpr c29
             have c29b1 : (t278 != 0) = true := bne_iff_ne.mpr c29
             have H' := Aside0.mk H
             clear H
             go_wp2_with (first | ((with_reducible refine gate_callee (f := 8) rfl ?_); refine goesL_ (some 59) rfl rfl Try.func8 (by kernel_rfl) rfl #[.int .i64 t271] rfl (by (try simp only [List.map_toArray, List.map_cons, List.map_nil]); first | done | rfl | (simp only [List.length_drop, List.length_take]; rfl)) ?_; (with_reducible refine (lecternlaw17_num.calls t271 t278 _ A28.out).mono ?_); rintro e w' ⟨rfl, ⟨nd, rfl⟩⟩; refine ⟨_, rfl, ?_⟩))
             go_roundg kj9
             case measure => have := HK1.out; have := HJ1.out; have := HJ9.out; omega
             case rel => exact ⟨(wrap64 (x3_1 + 1)), (by first | rfl | (simp; done) | (simp [*]; done)), H', ⟨by have := HK1.out; have := HJ1.out; have := HJ9.out; omega⟩, ⟨by repeat (first | (with_reducible first | exact HB.out | apply below_alloc | apply pw_below_drewN | apply below_drew1 | refine below_set ?_ GE272.out) | exact HB.out)⟩⟩
       ·rw [if_neg c6] at H
        exact absurd H (by simp)
      ·rw [if_neg c5] at H
       exact absurd H (by simp)
     ·replace c4 := Bool.eq_false_iff.mpr c4
      subst c4
      have H1 : ((lecternlaw17_wakes.f kj1).bind fun t258 => (some t258)) = some r := by rw [if_neg (show ¬ (false = true) by decide)] at H; exact H
      clear H
      have H := H1
      clear H1
      replace H := Option.bind_eq_some_iff.mp H
      obtain ⟨t258, A540, H⟩ := H
      replace H : (some t258) = some r := H
      have A54 := Aside0.mk A540
      clear A540
      obtain rfl := Option.some.inj H
      go_wp2_with (first | ((with_reducible refine gate_callee (f := 12) rfl ?_); refine goesL_ (some 83) rfl rfl Try.func12 (by kernel_rfl) rfl #[] rfl (by (try simp only [List.map_toArray, List.map_cons, List.map_nil]); first | done | rfl | (simp only [List.length_drop, List.length_take]; rfl)) ?_; (with_reducible refine (lecternlaw17_wakes.calls kj1  t258 _ A54.out).mono ?_); rintro e w55 ⟨rfl, hb⟩; refine ⟨_, rfl, ?_⟩; have n0_ := Aside0.mk (below_step (by repeat (first | (with_reducible first | exact HB.out | apply below_alloc | apply pw_below_drewN | apply below_drew1) | exact HB.out)) hb); clear HB; have HB := n0_; clear n0_; (try clear hb); (try clear hb2); (try clear hk); (try clear hi)))
      go_ret
      exact ⟨by first | rfl | (simp [errW_none, errW_some] <;> rfl) | (simp [*, errW_none, errW_some] <;> rfl), by repeat (first | (with_reducible first | exact HB.out | apply below_alloc | apply pw_below_drewN | apply below_drew1) | exact HB.out)⟩

end Go.Proofs.Yticlghbdapbdnaa.I
