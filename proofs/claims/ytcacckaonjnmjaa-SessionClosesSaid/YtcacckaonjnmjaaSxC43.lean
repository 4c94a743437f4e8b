-- Written by a program: the kit's printer with changes of this session (NOTES.md).
import Derived.Test.YtcacckaonjnmjaaSHand
import Derived.Test.YtcacckaonjnmjaaSx0
import Derived.Test.YtcacckaonjnmjaaSx2
import Derived.Test.YtcacckaonjnmjaaSx6
import Derived.Test.YtcacckaonjnmjaaSx15
import Derived.Test.YtcacckaonjnmjaaSx27
import Derived.Test.YtcacckaonjnmjaaSx28
import Derived.Test.YtcacckaonjnmjaaSx31
import Derived.Test.YtcacckaonjnmjaaSx33
import Derived.Test.YtcacckaonjnmjaaSx40
namespace Go.Proofs.Ytcacckaonjnmjaa.S
open Go.RowKit Go.Proofs.YtcacckaonjnmjaaW.PrintWords Go.Proofs.YtcacckaonjnmjaaW.PrintLast Go.Proofs.YtcacckaonjnmjaaW.PrintMore
attribute [local go_sem] max2_int min2_int max_two min_two max_three min_three max_four min_four   -- for this text's walks alone
set_option linter.unusedVariables false
set_option linter.unusedSimpArgs false

-- shrunk
/-! ### lecternlaw14_only: function 20 -/
mutual
def lecternlaw14_only.j0 : Nat → Int → Bool → List (S88) → List (S33) → Option (Bool)
 | 0, _, _, _, _ => none
 | k + 1, x1, x18, x297000, x297001 => if x18 = true then (some true) else (lecternlaw14_only.l0 k x1 0 x297000 x297001)
def lecternlaw14_only.l0 : Nat → Int → Int → List (S88) → List (S33) → Option (Bool)
 | 0, _, _, _, _ => none
 | k + 1, x1, x5, x297000, x297001 => if x5 < (x297001.length : Int) then (lecternlaw14_only.j2 k x1 x5 (decide (x5 < 20)) x297000 x297001) else (lecternlaw14_only.j2 k x1 x5 false x297000 x297001)
def lecternlaw14_only.j2 : Nat → Int → Int → Bool → List (S88) → List (S33) → Option (Bool)
 | 0, _, _, _, _, _ => none
 | k + 1, x1, x5, x27, x297000, x297001 => if x27 = true then (if 0 ≤ x5 then (if x5 < (x297001.length : Int) then (if x1 = 0 then (none) else (if x1 = 1 then (none) else ((lecternref14_Close.f k x297000 ((rd_T33 x297001 x5).f1)).bind fun bt317 => ((session_Close.f k x297000 ((rd_T33 x297001 x5).f1)).bind fun bt321 => (lecternlaw14_only.j4 k x1 x5 bt317.1 bt317.2 bt321.1 bt321.2 x297000 x297001))))) else (none)) else (none)) else ((lecternlaw14_wakes.f k).bind fun t327 => (some t327))
def lecternlaw14_only.j4 : Nat → Int → Int → List (S88) → Int → List (S88) → Int → List (S88) → List (S33) → Option (Bool)
 | 0, _, _, _, _, _, _, _, _ => none
 | k + 1, x1, x5, x7, x8, x9, x10, x297000, x297001 => (lecternlaw14_num.f x10).bind fun t325 => (if t325 = x8 then ((lecternref0_EqSessions.f k x9 x7).bind fun t326 => (lecternlaw14_only.j5 k x1 x5 (!t326) x297000 x297001)) else (lecternlaw14_only.j5 k x1 x5 true x297000 x297001))
def lecternlaw14_only.j5 : Nat → Int → Int → Bool → List (S88) → List (S33) → Option (Bool)
 | 0, _, _, _, _, _ => none
 | k + 1, x1, x5, x111, x297000, x297001 => if x111 = true then (some false) else (lecternlaw14_only.l0 k x1 (wrap64 (x5 + 1)) x297000 x297001)
def lecternlaw14_only.j3 : Nat → Int → Int → List (S88) → Int → List (S88) → List (S33) → Int → Int → Int → Int → Int → Int → List (S116) → Option (Bool)
 | 0, _, _, _, _, _, _, _, _, _, _, _, _, _ => none
 | k + 1, x1, x5, x7, x8, x297000, x297001, x301000, x301001, x301002, x301003, x301004, x301005, x301006 => (session_Open.f k x297000 x301003).bind fun bt305 => (lecternlaw14_only.j4 k x1 x5 x7 x8 bt305.1 bt305.2 x297000 x297001)
end
def lecternlaw14_only.f (k : Nat) (l0_0 : List (S88)) (l0_1 : List (S33)) (a1 : Int) : Option (Bool) := (lecternlaw14_heavy.f k l0_0 l0_1).bind fun t297 => (if t297 = true then (lecternlaw14_only.j0 k a1 true l0_0 l0_1) else ((lecternref14_May.f k l0_0).bind fun t298 => (lecternlaw14_only.j0 k a1 (!t298) l0_0 l0_1)))
theorem lecternlaw14_only.mono_l : ∀ k, (∀ y0 y1 y2 y3, LeO (lecternlaw14_only.j0 k y0 y1 y2 y3) (lecternlaw14_only.j0 (k + 1) y0 y1 y2 y3)) ∧ (∀ y0 y1 y2 y3, LeO (lecternlaw14_only.l0 k y0 y1 y2 y3) (lecternlaw14_only.l0 (k + 1) y0 y1 y2 y3)) ∧ (∀ y0 y1 y2 y3 y4, LeO (lecternlaw14_only.j2 k y0 y1 y2 y3 y4) (lecternlaw14_only.j2 (k + 1) y0 y1 y2 y3 y4)) ∧ (∀ y0 y1 y2 y3 y4 y5 y6 y7, LeO (lecternlaw14_only.j4 k y0 y1 y2 y3 y4 y5 y6 y7) (lecternlaw14_only.j4 (k + 1) y0 y1 y2 y3 y4 y5 y6 y7)) ∧ (∀ y0 y1 y2 y3 y4, LeO (lecternlaw14_only.j5 k y0 y1 y2 y3 y4) (lecternlaw14_only.j5 (k + 1) y0 y1 y2 y3 y4)) ∧ (∀ y0 y1 y2 y3 y4 y5 y6 y7 y8 y9 y10 y11 y12, LeO (lecternlaw14_only.j3 k y0 y1 y2 y3 y4 y5 y6 y7 y8 y9 y10 y11 y12) (lecternlaw14_only.j3 (k + 1) y0 y1 y2 y3 y4 y5 y6 y7 y8 y9 y10 y11 y12))
 | 0 => ⟨fun _ _ _ _ r h => by simp [lecternlaw14_only.j0] at h, fun _ _ _ _ r h => by simp [lecternlaw14_only.l0] at h, fun _ _ _ _ _ r h => by simp [lecternlaw14_only.j2] at h, fun _ _ _ _ _ _ _ _ r h => by simp [lecternlaw14_only.j4] at h, fun _ _ _ _ _ r h => by simp [lecternlaw14_only.j5] at h, fun _ _ _ _ _ _ _ _ _ _ _ _ _ r h => by simp [lecternlaw14_only.j3] at h⟩
 | k + 1 => by
  obtain ⟨ih0, ih1, ih2, ih3, ih4, ih5⟩ := lecternlaw14_only.mono_l k
  refine ⟨?_, ?_, ?_, ?_, ?_, ?_⟩
  ·intro y0 y1 y2 y3
   unfold lecternlaw14_only.j0
   repeat' first
   | (with_reducible exact ih0 _ _ _ _)
   | (with_reducible exact ih1 _ _ _ _)
   | (with_reducible exact ih2 _ _ _ _ _)
   | (with_reducible exact ih3 _ _ _ _ _ _ _ _)
   | (with_reducible exact ih4 _ _ _ _ _)
   | (with_reducible exact ih5 _ _ _ _ _ _ _ _ _ _ _ _ _)
   | (with_reducible exact lecternlaw14_heavy.mono _ _ _)
   | (with_reducible exact lecternlaw14_wakes.mono _)
   | (with_reducible exact lecternref0_EqSessions.mono _ _ _)
   | (with_reducible exact lecternref14_Close.mono _ _ _)
   | (with_reducible exact lecternref14_May.mono _ _)
   | (with_reducible exact session_Close.mono _ _ _)
   | (with_reducible exact session_Open.mono _ _ _)
   | (with_reducible exact LeO.refl _)
   | (with_reducible exact LeO.none _)
   | (with_reducible refine LeO.ite ?_ ?_)
   | (with_reducible refine LeO.bind ?_ (fun _ => ?_))
   | exact ih0 _ _ _ _
   | exact ih1 _ _ _ _
   | exact ih2 _ _ _ _ _
   | exact ih3 _ _ _ _ _ _ _ _
   | exact ih4 _ _ _ _ _
   | exact ih5 _ _ _ _ _ _ _ _ _ _ _ _ _
   | exact lecternlaw14_heavy.mono _ _ _
   | exact lecternlaw14_wakes.mono _
   | exact lecternref0_EqSessions.mono _ _ _
   | exact lecternref14_Close.mono _ _ _
   | exact lecternref14_May.mono _ _
   | exact session_Close.mono _ _ _
   | exact session_Open.mono _ _ _
   | exact LeO.none _
   | refine LeO.ite ?_ ?_
   | refine LeO.bind ?_ (fun _ => ?_)
  ·intro y0 y1 y2 y3
   unfold lecternlaw14_only.l0
   repeat' first
   | (with_reducible exact ih0 _ _ _ _)
   | (with_reducible exact ih1 _ _ _ _)
   | (with_reducible exact ih2 _ _ _ _ _)
   | (with_reducible exact ih3 _ _ _ _ _ _ _ _)
   | (with_reducible exact ih4 _ _ _ _ _)
   | (with_reducible exact ih5 _ _ _ _ _ _ _ _ _ _ _ _ _)
   | (with_reducible exact lecternlaw14_heavy.mono _ _ _)
   | (with_reducible exact lecternlaw14_wakes.mono _)
   | (with_reducible exact lecternref0_EqSessions.mono _ _ _)
   | (with_reducible exact lecternref14_Close.mono _ _ _)
   | (with_reducible exact lecternref14_May.mono _ _)
   | (with_reducible exact session_Close.mono _ _ _)
   | (with_reducible exact session_Open.mono _ _ _)
   | (with_reducible exact LeO.refl _)
   | (with_reducible exact LeO.none _)
   | (with_reducible refine LeO.ite ?_ ?_)
   | (with_reducible refine LeO.bind ?_ (fun _ => ?_))
   | exact ih0 _ _ _ _
   | exact ih1 _ _ _ _
   | exact ih2 _ _ _ _ _
   | exact ih3 _ _ _ _ _ _ _ _
   | exact ih4 _ _ _ _ _
   | exact ih5 _ _ _ _ _ _ _ _ _ _ _ _ _
   | exact lecternlaw14_heavy.mono _ _ _
   | exact lecternlaw14_wakes.mono _
   | exact lecternref0_EqSessions.mono _ _ _
   | exact lecternref14_Close.mono _ _ _
   | exact lecternref14_May.mono _ _
   | exact session_Close.mono _ _ _
   | exact session_Open.mono _ _ _
   | exact LeO.none _
   | refine LeO.ite ?_ ?_
   | refine LeO.bind ?_ (fun _ => ?_)
  ·intro y0 y1 y2 y3 y4
   unfold lecternlaw14_only.j2
   repeat' first
   | (with_reducible exact ih0 _ _ _ _)
   | (with_reducible exact ih1 _ _ _ _)
   | (with_reducible exact ih2 _ _ _ _ _)
   | (with_reducible exact ih3 _ _ _ _ _ _ _ _)
   | (with_reducible exact ih4 _ _ _ _ _)
   | (with_reducible exact ih5 _ _ _ _ _ _ _ _ _ _ _ _ _)
   | (with_reducible exact lecternlaw14_heavy.mono _ _ _)
   | (with_reducible exact lecternlaw14_wakes.mono _)
   | (with_reducible exact lecternref0_EqSessions.mono _ _ _)
   | (with_reducible exact lecternref14_Close.mono _ _ _)
   | (with_reducible exact lecternref14_May.mono _ _)
   | (with_reducible exact session_Close.mono _ _ _)
   | (with_reducible exact session_Open.mono _ _ _)
   | (with_reducible exact LeO.refl _)
   | (with_reducible exact LeO.none _)
   | (with_reducible refine LeO.ite ?_ ?_)
   | (with_reducible refine LeO.bind ?_ (fun _ => ?_))
   | exact ih0 _ _ _ _
   | exact ih1 _ _ _ _
   | exact ih2 _ _ _ _ _
   | exact ih3 _ _ _ _ _ _ _ _
   | exact ih4 _ _ _ _ _
   | exact ih5 _ _ _ _ _ _ _ _ _ _ _ _ _
   | exact lecternlaw14_heavy.mono _ _ _
   | exact lecternlaw14_wakes.mono _
   | exact lecternref0_EqSessions.mono _ _ _
   | exact lecternref14_Close.mono _ _ _
   | exact lecternref14_May.mono _ _
   | exact session_Close.mono _ _ _
   | exact session_Open.mono _ _ _
   | exact LeO.none _
   | refine LeO.ite ?_ ?_
   | refine LeO.bind ?_ (fun _ => ?_)
  ·intro y0 y1 y2 y3 y4 y5 y6 y7
   unfold lecternlaw14_only.j4
   repeat' first
   | (with_reducible exact ih0 _ _ _ _)
   | (with_reducible exact ih1 _ _ _ _)
   | (with_reducible exact ih2 _ _ _ _ _)
   | (with_reducible exact ih3 _ _ _ _ _ _ _ _)
   | (with_reducible exact ih4 _ _ _ _ _)
   | (with_reducible exact ih5 _ _ _ _ _ _ _ _ _ _ _ _ _)
   | (with_reducible exact lecternlaw14_heavy.mono _ _ _)
   | (with_reducible exact lecternlaw14_wakes.mono _)
   | (with_reducible exact lecternref0_EqSessions.mono _ _ _)
   | (with_reducible exact lecternref14_Close.mono _ _ _)
   | (with_reducible exact lecternref14_May.mono _ _)
   | (with_reducible exact session_Close.mono _ _ _)
   | (with_reducible exact session_Open.mono _ _ _)
   | (with_reducible exact LeO.refl _)
   | (with_reducible exact LeO.none _)
   | (with_reducible refine LeO.ite ?_ ?_)
   | (with_reducible refine LeO.bind ?_ (fun _ => ?_))
   | exact ih0 _ _ _ _
   | exact ih1 _ _ _ _
   | exact ih2 _ _ _ _ _
   | exact ih3 _ _ _ _ _ _ _ _
   | exact ih4 _ _ _ _ _
   | exact ih5 _ _ _ _ _ _ _ _ _ _ _ _ _
   | exact lecternlaw14_heavy.mono _ _ _
   | exact lecternlaw14_wakes.mono _
   | exact lecternref0_EqSessions.mono _ _ _
   | exact lecternref14_Close.mono _ _ _
   | exact lecternref14_May.mono _ _
   | exact session_Close.mono _ _ _
   | exact session_Open.mono _ _ _
   | exact LeO.none _
   | refine LeO.ite ?_ ?_
   | refine LeO.bind ?_ (fun _ => ?_)
  ·intro y0 y1 y2 y3 y4
   unfold lecternlaw14_only.j5
   repeat' first
   | (with_reducible exact ih0 _ _ _ _)
   | (with_reducible exact ih1 _ _ _ _)
   | (with_reducible exact ih2 _ _ _ _ _)
   | (with_reducible exact ih3 _ _ _ _ _ _ _ _)
   | (with_reducible exact ih4 _ _ _ _ _)
   | (with_reducible exact ih5 _ _ _ _ _ _ _ _ _ _ _ _ _)
   | (with_reducible exact lecternlaw14_heavy.mono _ _ _)
   | (with_reducible exact lecternlaw14_wakes.mono _)
   | (with_reducible exact lecternref0_EqSessions.mono _ _ _)
   | (with_reducible exact lecternref14_Close.mono _ _ _)
   | (with_reducible exact lecternref14_May.mono _ _)
   | (with_reducible exact session_Close.mono _ _ _)
   | (with_reducible exact session_Open.mono _ _ _)
   | (with_reducible exact LeO.refl _)
   | (with_reducible exact LeO.none _)
   | (with_reducible refine LeO.ite ?_ ?_)
   | (with_reducible refine LeO.bind ?_ (fun _ => ?_))
   | exact ih0 _ _ _ _
   | exact ih1 _ _ _ _
   | exact ih2 _ _ _ _ _
   | exact ih3 _ _ _ _ _ _ _ _
   | exact ih4 _ _ _ _ _
   | exact ih5 _ _ _ _ _ _ _ _ _ _ _ _ _
   | exact lecternlaw14_heavy.mono _ _ _
   | exact lecternlaw14_wakes.mono _
   | exact lecternref0_EqSessions.mono _ _ _
   | exact lecternref14_Close.mono _ _ _
   | exact lecternref14_May.mono _ _
   | exact session_Close.mono _ _ _
   | exact session_Open.mono _ _ _
   | exact LeO.none _
   | refine LeO.ite ?_ ?_
   | refine LeO.bind ?_ (fun _ => ?_)
  ·intro y0 y1 y2 y3 y4 y5 y6 y7 y8 y9 y10 y11 y12
   unfold lecternlaw14_only.j3
   repeat' first
   | (with_reducible exact ih0 _ _ _ _)
   | (with_reducible exact ih1 _ _ _ _)
   | (with_reducible exact ih2 _ _ _ _ _)
   | (with_reducible exact ih3 _ _ _ _ _ _ _ _)
   | (with_reducible exact ih4 _ _ _ _ _)
   | (with_reducible exact ih5 _ _ _ _ _ _ _ _ _ _ _ _ _)
   | (with_reducible exact lecternlaw14_heavy.mono _ _ _)
   | (with_reducible exact lecternlaw14_wakes.mono _)
   | (with_reducible exact lecternref0_EqSessions.mono _ _ _)
   | (with_reducible exact lecternref14_Close.mono _ _ _)
   | (with_reducible exact lecternref14_May.mono _ _)
   | (with_reducible exact session_Close.mono _ _ _)
   | (with_reducible exact session_Open.mono _ _ _)
   | (with_reducible exact LeO.refl _)
   | (with_reducible exact LeO.none _)
   | (with_reducible refine LeO.ite ?_ ?_)
   | (with_reducible refine LeO.bind ?_ (fun _ => ?_))
   | exact ih0 _ _ _ _
   | exact ih1 _ _ _ _
   | exact ih2 _ _ _ _ _
   | exact ih3 _ _ _ _ _ _ _ _
   | exact ih4 _ _ _ _ _
   | exact ih5 _ _ _ _ _ _ _ _ _ _ _ _ _
   | exact lecternlaw14_heavy.mono _ _ _
   | exact lecternlaw14_wakes.mono _
   | exact lecternref0_EqSessions.mono _ _ _
   | exact lecternref14_Close.mono _ _ _
   | exact lecternref14_May.mono _ _
   | exact session_Close.mono _ _ _
   | exact session_Open.mono _ _ _
   | exact LeO.none _
   | refine LeO.ite ?_ ?_
   | refine LeO.bind ?_ (fun _ => ?_)
theorem lecternlaw14_only.mono : ∀ a0 a1 a2 k, LeO (lecternlaw14_only.f k a0 a1 a2) (lecternlaw14_only.f (k + 1) a0 a1 a2) := by
 intro a0 a1 a2 k
 obtain ⟨ih0, ih1, ih2, ih3, ih4, ih5⟩ := lecternlaw14_only.mono_l k
 unfold lecternlaw14_only.f
 repeat' first
   | (with_reducible exact ih0 _ _ _ _)
   | (with_reducible exact ih1 _ _ _ _)
   | (with_reducible exact ih2 _ _ _ _ _)
   | (with_reducible exact ih3 _ _ _ _ _ _ _ _)
   | (with_reducible exact ih4 _ _ _ _ _)
   | (with_reducible exact ih5 _ _ _ _ _ _ _ _ _ _ _ _ _)
   | (with_reducible exact lecternlaw14_heavy.mono _ _ _)
   | (with_reducible exact lecternlaw14_wakes.mono _)
   | (with_reducible exact lecternref0_EqSessions.mono _ _ _)
   | (with_reducible exact lecternref14_Close.mono _ _ _)
   | (with_reducible exact lecternref14_May.mono _ _)
   | (with_reducible exact session_Close.mono _ _ _)
   | (with_reducible exact session_Open.mono _ _ _)
   | (with_reducible exact LeO.refl _)
   | (with_reducible exact LeO.none _)
   | (with_reducible refine LeO.ite ?_ ?_)
   | (with_reducible refine LeO.bind ?_ (fun _ => ?_))
   | exact ih0 _ _ _ _
   | exact ih1 _ _ _ _
   | exact ih2 _ _ _ _ _
   | exact ih3 _ _ _ _ _ _ _ _
   | exact ih4 _ _ _ _ _
   | exact ih5 _ _ _ _ _ _ _ _ _ _ _ _ _
   | exact lecternlaw14_heavy.mono _ _ _
   | exact lecternlaw14_wakes.mono _
   | exact lecternref0_EqSessions.mono _ _ _
   | exact lecternref14_Close.mono _ _ _
   | exact lecternref14_May.mono _ _
   | exact session_Close.mono _ _ _
   | exact session_Open.mono _ _ _
   | exact LeO.none _
   | refine LeO.ite ?_ ?_
   | refine LeO.bind ?_ (fun _ => ?_)
set_option maxHeartbeats 8000000 in
set_option maxRecDepth 100000 in
theorem lecternlaw14_only.calls (k : Nat) (A0_0 : Option Addr) (c0_0 : Nat) (l0_0 : List (S88)) (A0_1 : Option Addr) (c0_1 : Nat) (l0_1 : List (S33)) (a1 : Int) (r : Bool) (w : World) (hr0_0 : Kd.C k88 w A0_0 l0_0.length l0_0) (hc0_0 : l0_0.length ≤ c0_0) (hr0_1 : Kd.C k33 w A0_1 l0_1.length l0_1) (hc0_1 : l0_1.length ≤ c0_1) (h : lecternlaw14_only.f k l0_0 l0_1 a1 = some r) :
  Calls Try.prog 20 #[.agg #[.slice A0_0 l0_0.length c0_0, .slice A0_1 l0_1.length c0_1], .int .i64 a1] w fun e w' => e = .returned (.bool r) ∧ Below w.heap.size w w' := by
 have hu25 := Try.underlying25
 have hu33 := Try.underlying33
 have hu31 := Try.underlying31
 have HR0_0 := Aside0.mk hr0_0
 have HC0_0 := Aside0.mk hc0_0
 clear hr0_0 hc0_0
 have HR0_1 := Aside0.mk hr0_1
 have HC0_1 := Aside0.mk hc0_1
 clear hr0_1 hc0_1
 have HB := Aside0.mk (Below.refl w.heap.size w)
 have H : ((lecternlaw14_heavy.f k l0_0 l0_1).bind fun t297 => (if t297 = true then (lecternlaw14_only.j0 k a1 true l0_0 l0_1) else ((lecternref14_May.f k l0_0).bind fun t298 => (lecternlaw14_only.j0 k a1 (!t298) l0_0 l0_1)))) = some r := h
 clear h
 have HC3 := Aside0.mk H
 clear H
 go_enter Try.func20, Try.ntmps20
 go_upto_region 1 with (first | ((with_reducible refine gate_dst (N := 2) rfl ?_); refine box_event ?hg (N := 2) ?hd (cs := #[.slice A0_0 l0_0.length c0_0, .slice A0_1 l0_1.length c0_1]) (t := 25) ?hr ?_; (case hd => rfl); (case hg => rfl); (case hr => first | (go_simp; done) | (go_simp; rfl)); intro gb296 hg w4 hbox hb; have n0_ := Aside0.mk (below_step (by repeat (first | (with_reducible first | exact HB.out | apply below_alloc | apply pw_below_drewN | apply below_drew1) | exact HB.out)) hb); have n1_ := Aside0.mk (hbox); have n2_ := Aside0.mk ((by rw [hg]; exact (below_size (by repeat (first | (with_reducible first | exact HB.out | apply below_alloc | apply pw_below_drewN | apply below_drew1) | exact HB.out))) : w.heap.size ≤ gb296)); have n3_ := Aside0.mk ((by rw [hg]; exact (below_size (by repeat (first | (with_reducible first | exact HB.out | apply below_alloc | apply pw_below_drewN | apply below_drew1) | exact HB.out))) : w.heap.size ≤ gb296)); clear HB; have HB := n0_; have BK296 := n1_; have GW296 := n2_; have GE296 := n3_; clear n0_ n1_ n2_ n3_; clear hb hbox hg))
 (try simp only [Act.put, List.setIfInBounds_toArray, List.set_cons_zero, List.set_cons_succ])
 go_cut [18] (fun v18 wc => ∃ (kq : Nat) (x18_2 : Bool), v18 = .bool x18_2 ∧ Aside0 (lecternlaw14_only.j0 kq a1 x18_2 l0_0 l0_1 = some r) ∧ Aside0 (kq ≤ k) ∧ Aside0 (wc.heap[gb296]? = some (.cells #[(.slice A0_0 l0_0.length c0_0), (.slice A0_1 l0_1.length c0_1)] 25 (0, 0))) ∧ Aside0 (Below w.heap.size w wc))
 case first =>
  have H := HC3.out
  clear HC3
  replace H := Option.bind_eq_some_iff.mp H
  obtain ⟨t297, A50, H⟩ := H
  replace H : (if t297 = true then (lecternlaw14_only.j0 k a1 true l0_0 l0_1) else ((lecternref14_May.f k l0_0).bind fun t298 => (lecternlaw14_only.j0 k a1 (!t298) l0_0 l0_1))) = some r := H
  have A5 := Aside0.mk A50
  clear A50
  by_cases c6 : t297 = true
  ·subst c6
   have H1 : (lecternlaw14_only.j0 k a1 true l0_0 l0_1) = some r := by rw [if_pos rfl] at H; exact H
   clear H
   have H := H1
   clear H1
   have H' := Aside0.mk H
   clear H
   have hcz7_0 : w4.cell? ⟨gb296, 0, none⟩ = some (.slice A0_0 l0_0.length c0_0) := (blk_cell BK296.out 0).trans rfl
   have hcz7_1 : w4.cell? ⟨gb296, 1, none⟩ = some (.slice A0_1 l0_1.length c0_1) := (blk_cell BK296.out 1).trans rfl
   have hfz7_0 := blk_frozen BK296.out 0
   have hfz7_1 := blk_frozen BK296.out 1
   go_wp2_with (first | ((with_reducible refine gate_callee (f := 13) rfl ?_); refine goesL_ (some 12) rfl rfl Try.func13 (by kernel_rfl) rfl #[.agg #[.slice A0_0 l0_0.length c0_0, .slice A0_1 l0_1.length c0_1]] rfl (by (try simp only [List.map_toArray, List.map_cons, List.map_nil]); first | done | rfl | (simp only [List.length_drop, List.length_take]; rfl)) ?_; (with_reducible refine (lecternlaw14_heavy.calls k _ _ l0_0 _ _ l0_1 true _ ?side1 ?side2 ?side3 ?side4 A5.out).mono ?_); (case side1 => repeat (first | exact (Kd.C_below HR0_0.out HB.out) | (with_reducible refine Kd.C_alloc ?_ _) | (with_reducible refine Kd.C_drewN ?_ _) | (with_reducible refine Kd.C_drew ?_))); (case side2 => exact HC0_0.out); (case side3 => repeat (first | exact (Kd.C_below HR0_1.out HB.out) | (with_reducible refine Kd.C_alloc ?_ _) | (with_reducible refine Kd.C_drewN ?_ _) | (with_reducible refine Kd.C_drew ?_))); (case side4 => exact HC0_1.out); rintro e w8 ⟨rfl, hb⟩; refine ⟨_, rfl, ?_⟩; have n0_ := Aside0.mk (blk_below (g := gb296) (o := .cells #[.slice A0_0 l0_0.length c0_0, .slice A0_1 l0_1.length c0_1] 25 (0, 0)) (by (with_reducible repeat (first | refine blk_drewN ?_ _ | refine blk_drew ?_ | refine blk_alloc ?_ _)); exact BK296.out) hb); have n1_ := Aside0.mk (below_step (by repeat (first | (with_reducible first | exact HB.out | apply below_alloc | apply pw_below_drewN | apply below_drew1 | refine below_set ?_ GE296.out) | exact HB.out)) hb); clear BK296; clear HB; have BK296 := n0_; have HB := n1_; clear n0_ n1_; (try clear hb); (try clear hb2); (try clear hk); (try clear hi)))
   go_meet
   case rel => exact ⟨_, (true), (by first | rfl | (simp; done) | (simp [*]; done)), H', ⟨by first | omega | exact Nat.le_refl _⟩, ⟨by (with_reducible repeat (first | refine blk_drewN ?_ _ | refine blk_drew ?_ | refine blk_alloc ?_ _)); exact BK296.out⟩, ⟨by repeat (first | (with_reducible first | exact HB.out | apply below_alloc | apply pw_below_drewN | apply below_drew1 | refine below_set ?_ GE296.out) | exact HB.out)⟩⟩
  ·replace c6 := Bool.eq_false_iff.mpr c6
   subst c6
   have H1 : ((lecternref14_May.f k l0_0).bind fun t298 => (lecternlaw14_only.j0 k a1 (!t298) l0_0 l0_1)) = some r := by rw [if_neg (show ¬ (false = true) by decide)] at H; exact H
   clear H
   have H := H1
   clear H1
   replace H := Option.bind_eq_some_iff.mp H
   obtain ⟨t298, A90, H⟩ := H
   replace H : (lecternlaw14_only.j0 k a1 (!t298) l0_0 l0_1) = some r := H
   have A9 := Aside0.mk A90
   clear A90
   have H' := Aside0.mk H
   clear H
   have hcz10_0 : w4.cell? ⟨gb296, 0, none⟩ = some (.slice A0_0 l0_0.length c0_0) := (blk_cell BK296.out 0).trans rfl
   have hcz10_1 : w4.cell? ⟨gb296, 1, none⟩ = some (.slice A0_1 l0_1.length c0_1) := (blk_cell BK296.out 1).trans rfl
   have hfz10_0 := blk_frozen BK296.out 0
   have hfz10_1 := blk_frozen BK296.out 1
   go_wp2_with (first | ((with_reducible refine gate_callee (f := 13) rfl ?_); refine goesL_ (some 12) rfl rfl Try.func13 (by kernel_rfl) rfl #[.agg #[.slice A0_0 l0_0.length c0_0, .slice A0_1 l0_1.length c0_1]] rfl (by (try simp only [List.map_toArray, List.map_cons, List.map_nil]); first | done | rfl | (simp only [List.length_drop, List.length_take]; rfl)) ?_; (with_reducible refine (lecternlaw14_heavy.calls k _ _ l0_0 _ _ l0_1 false _ ?side1 ?side2 ?side3 ?side4 A5.out).mono ?_); (case side1 => repeat (first | exact (Kd.C_below HR0_0.out HB.out) | (with_reducible refine Kd.C_alloc ?_ _) | (with_reducible refine Kd.C_drewN ?_ _) | (with_reducible refine Kd.C_drew ?_))); (case side2 => exact HC0_0.out); (case side3 => repeat (first | exact (Kd.C_below HR0_1.out HB.out) | (with_reducible refine Kd.C_alloc ?_ _) | (with_reducible refine Kd.C_drewN ?_ _) | (with_reducible refine Kd.C_drew ?_))); (case side4 => exact HC0_1.out); rintro e w11 ⟨rfl, hb⟩; refine ⟨_, rfl, ?_⟩; have n0_ := Aside0.mk (blk_below (g := gb296) (o := .cells #[.slice A0_0 l0_0.length c0_0, .slice A0_1 l0_1.length c0_1] 25 (0, 0)) (by (with_reducible repeat (first | refine blk_drewN ?_ _ | refine blk_drew ?_ | refine blk_alloc ?_ _)); exact BK296.out) hb); have n1_ := Aside0.mk (below_step (by repeat (first | (with_reducible first | exact HB.out | apply below_alloc | apply pw_below_drewN | apply below_drew1 | refine below_set ?_ GE296.out) | exact HB.out)) hb); clear BK296; clear HB; have BK296 := n0_; have HB := n1_; clear n0_ n1_; (try clear hb); (try clear hb2); (try clear hk); (try clear hi); have hcz12_0 : w11.cell? ⟨gb296, 0, none⟩ = some (.slice A0_0 l0_0.length c0_0) := (blk_cell BK296.out 0).trans rfl; have hcz12_1 : w11.cell? ⟨gb296, 1, none⟩ = some (.slice A0_1 l0_1.length c0_1) := (blk_cell BK296.out 1).trans rfl; have hfz12_0 := blk_frozen BK296.out 0; have hfz12_1 := blk_frozen BK296.out 1) | (go_at_call 14; (with_reducible refine (lecternref14_May.calls k _ _ l0_0 t298 _ ?side1 ?side2 A9.out).mono ?_); (case side1 => repeat (first | exact (Kd.C_below HR0_0.out HB.out) | (with_reducible refine Kd.C_alloc ?_ _) | (with_reducible refine Kd.C_drewN ?_ _) | (with_reducible refine Kd.C_drew ?_))); (case side2 => exact HC0_0.out); rintro e w13 ⟨rfl, hb⟩; have n0_ := Aside0.mk (blk_below (g := gb296) (o := .cells #[.slice A0_0 l0_0.length c0_0, .slice A0_1 l0_1.length c0_1] 25 (0, 0)) (by (with_reducible repeat (first | refine blk_drewN ?_ _ | refine blk_drew ?_ | refine blk_alloc ?_ _)); exact BK296.out) hb); have n1_ := Aside0.mk (below_step (by repeat (first | (with_reducible first | exact HB.out | apply below_alloc | apply pw_below_drewN | apply below_drew1 | refine below_set ?_ GE296.out) | exact HB.out)) hb); clear BK296; clear HB; have BK296 := n0_; have HB := n1_; clear n0_ n1_; (try clear hb); (try clear hb2); (try clear hk); (try clear hi)))
   go_meet
   case rel => exact ⟨_, (!t298), (by first | rfl | (simp; done) | (simp [*]; done)), H', ⟨by first | omega | exact Nat.le_refl _⟩, ⟨by (with_reducible repeat (first | refine blk_drewN ?_ _ | refine blk_drew ?_ | refine blk_alloc ?_ _)); exact BK296.out⟩, ⟨by repeat (first | (with_reducible first | exact HB.out | apply below_alloc | apply pw_below_drewN | apply below_drew1 | refine below_set ?_ GE296.out) | exact HB.out)⟩⟩
 case rest =>
  clear HC3
  try clear c1
  try clear c2
  try clear p2
  try clear c6
  try clear c13
  try clear hcz10_0
  try clear hcz10_1
  try clear hcz12_0
  try clear hcz12_1
  try clear hcz7_0
  try clear hcz7_1
  try clear hfz10_0
  try clear hfz10_1
  try clear hfz12_0
  try clear hfz12_1
  try clear hfz7_0
  try clear hfz7_1
  obtain ⟨kq, x18_2, rfl, HA, HJ2, BK296, HB⟩ := hcut
  cases kq with
  | zero => exact absurd HA.out (by simp [lecternlaw14_only.j0])
  | succ kj2 =>
   have H := HA.out
   clear HA
   simp only [lecternlaw14_only.j0] at H
   by_cases c14 : x18_2 = true
   ·subst c14
    have H1 : (some true) = some r := by rw [if_pos rfl] at H; exact H
    clear H
    have H := H1
    clear H1
    obtain rfl := Option.some.inj H
    go_wp2
    go_ret
    exact ⟨by first | rfl | (simp [errW_none, errW_some] <;> rfl) | (simp [*, errW_none, errW_some] <;> rfl), by repeat (first | (with_reducible first | exact HB.out | apply below_alloc | apply pw_below_drewN | apply below_drew1 | refine below_set ?_ GE296.out) | exact HB.out)⟩
   ·replace c14 := Bool.eq_false_iff.mpr c14
    subst c14
    have H1 : (lecternlaw14_only.l0 kj2 a1 0 l0_0 l0_1) = some r := by rw [if_neg (show ¬ (false = true) by decide)] at H; exact H
    clear H
    have H := H1
    clear H1
    have H' := Aside0.mk H
    clear H
    go_wp2
    go_loopg [5] kj2 (fun kq v5 w' => ∃ (x5_2 : Int), v5 = .int .i64 x5_2 ∧ Aside0 (lecternlaw14_only.l0 kq a1 x5_2 l0_0 l0_1 = some r) ∧ Aside0 (kq ≤ kj2) ∧ Aside0 (w'.heap[gb296]? = some (.cells #[(.slice A0_0 l0_0.length c0_0), (.slice A0_1 l0_1.length c0_1)] 25 (0, 0))) ∧ Aside0 (Below w.heap.size w w'))
    case atStart => exact ⟨(0), (by first | rfl | (simp; done) | (simp [*]; done)), H', ⟨Nat.le_refl _⟩, ⟨by (with_reducible repeat (first | refine blk_drewN ?_ _ | refine blk_drew ?_ | refine blk_alloc ?_ _)); exact BK296.out⟩, ⟨by repeat (first | (with_reducible first | exact HB.out | apply below_alloc | apply pw_below_drewN | apply below_drew1 | refine below_set ?_ GE296.out) | exact HB.out)⟩⟩
    case round =>
     clear H'
     try clear c1
     try clear c2
     try clear p2
     try clear c6
     try clear c13
     try clear c14
     try clear hcz10_0
     try clear hcz10_1
     try clear hcz12_0
     try clear hcz12_1
     try clear hcz7_0
     try clear hcz7_1
     try clear hfz10_0
     try clear hfz10_1
     try clear hfz12_0
     try clear hfz12_1
     try clear hfz7_0
     try clear hfz7_1
     try clear p2
     obtain ⟨x5_2, rfl, HA, HK2, BK296, HB⟩ := hrel
     cases gk with
     | zero => exact absurd HA.out (by simp [lecternlaw14_only.l0])
     | succ k2 =>
      have H := HA.out
      clear HA
      simp only [lecternlaw14_only.l0] at H
      have HC15 := Aside0.mk H
      clear H
      go_upto_region 4 with (fail)
      go_cut [27] (fun v27 wc => ∃ (kq : Nat) (x27_14 : Bool), v27 = .bool x27_14 ∧ Aside0 (lecternlaw14_only.j2 kq a1 x5_2 x27_14 l0_0 l0_1 = some r) ∧ Aside0 (kq ≤ k2) ∧ Aside0 (wc.heap[gb296]? = some (.cells #[(.slice A0_0 l0_0.length c0_0), (.slice A0_1 l0_1.length c0_1)] 25 (0, 0))) ∧ Aside0 (Below w.heap.size w wc))
      case first =>
       have H := HC15.out
       clear HC15
       by_cases c16 : x5_2 < (l0_1.length : Int)
       ·rw [if_pos c16] at H
        have c16b0 : decide (x5_2 < (l0_1.length : Int)) = true := decide_eq_true c16
        clear c16
        (first | rw [c16b0] | (simp only [i64_w, i32_w]; rw [c16b0]) | skip)
        have H' := Aside0.mk H
        clear H
        have hcz17_0 : wr.cell? ⟨gb296, 0, none⟩ = some (.slice A0_0 l0_0.length c0_0) := (blk_cell BK296.out 0).trans rfl
        have hcz17_1 : wr.cell? ⟨gb296, 1, none⟩ = some (.slice A0_1 l0_1.length c0_1) := (blk_cell BK296.out 1).trans rfl
        have hfz17_0 := blk_frozen BK296.out 0
        have hfz17_1 := blk_frozen BK296.out 1
        go_wp2
        go_meet
        case rel => exact ⟨_, (decide (x5_2 < 20)), (by first | rfl | (simp; done) | (simp [*]; done)), H', ⟨by have := HJ2.out; have := HK2.out; first | omega | exact Nat.le_refl _⟩, ⟨by (with_reducible repeat (first | refine blk_drewN ?_ _ | refine blk_drew ?_ | refine blk_alloc ?_ _)); exact BK296.out⟩, ⟨by repeat (first | (with_reducible first | exact HB.out | apply below_alloc | apply pw_below_drewN | apply below_drew1 | refine below_set ?_ GE296.out) | exact HB.out)⟩⟩
       ·rw [if_neg c16] at H
        have c16b0 : decide (x5_2 < (l0_1.length : Int)) = false := decide_eq_false c16
        clear c16
        (first | rw [c16b0] | (simp only [i64_w, i32_w]; rw [c16b0]) | skip)
        have H' := Aside0.mk H
        clear H
        have hcz18_0 : wr.cell? ⟨gb296, 0, none⟩ = some (.slice A0_0 l0_0.length c0_0) := (blk_cell BK296.out 0).trans rfl
        have hcz18_1 : wr.cell? ⟨gb296, 1, none⟩ = some (.slice A0_1 l0_1.length c0_1) := (blk_cell BK296.out 1).trans rfl
        have hfz18_0 := blk_frozen BK296.out 0
        have hfz18_1 := blk_frozen BK296.out 1
        go_wp2
        go_meet
        case rel => exact ⟨_, (false), (by first | rfl | (simp; done) | (simp [*]; done)), H', ⟨by have := HJ2.out; have := HK2.out; first | omega | exact Nat.le_refl _⟩, ⟨by (with_reducible repeat (first | refine blk_drewN ?_ _ | refine blk_drew ?_ | refine blk_alloc ?_ _)); exact BK296.out⟩, ⟨by repeat (first | (with_reducible first | exact HB.out | apply below_alloc | apply pw_below_drewN | apply below_drew1 | refine below_set ?_ GE296.out) | exact HB.out)⟩⟩
      case rest =>
       clear HC15
       try clear c1
       try clear c2
       try clear p2
       try clear c6
       try clear c13
       try clear c14
       try clear c16
       try clear c16b0
       try clear hcz10_0
       try clear hcz10_1
       try clear hcz12_0
       try clear hcz12_1
       try clear hcz17_0
       try clear hcz17_1
       try clear hcz18_0
       try clear hcz18_1
       try clear hcz7_0
       try clear hcz7_1
       try clear hfz10_0
       try clear hfz10_1
       try clear hfz12_0
       try clear hfz12_1
       try clear hfz17_0
       try clear hfz17_1
       try clear hfz18_0
       try clear hfz18_1
       try clear hfz7_0
       try clear hfz7_1
       try clear p2
       obtain ⟨kq, x27_14, rfl, HA, HJ14, BK296, HB⟩ := hcut
       cases kq with
       | zero => exact absurd HA.out (by simp [lecternlaw14_only.j2])
       | succ kj14 =>
        have H := HA.out
        clear HA
        simp only [lecternlaw14_only.j2] at H
        by_cases c19 : x27_14 = true
        ·subst c19
         have H1 : (if 0 ≤ x5_2 then (if x5_2 < (l0_1.length : Int) then (if a1 = 0 then (none) else (if a1 = 1 then (none) else ((lecternref14_Close.f kj14 l0_0 ((rd_T33 l0_1 x5_2).f1)).bind fun bt317 => ((session_Close.f kj14 l0_0 ((rd_T33 l0_1 x5_2).f1)).bind fun bt321 => (lecternlaw14_only.j4 kj14 a1 x5_2 bt317.1 bt317.2 bt321.1 bt321.2 l0_0 l0_1))))) else (none)) else (none)) = some r := by rw [if_pos rfl] at H; exact H
         clear H
         have H := H1
         clear H1
         by_cases c20 : 0 ≤ x5_2
         ·rw [if_pos c20] at H
          have c20b0 : decide (0 ≤ x5_2) = true := decide_eq_true c20
          clear c20
          by_cases c21 : x5_2 < (l0_1.length : Int)
          ·rw [if_pos c21] at H
           have c21b0 : decide (x5_2 < (l0_1.length : Int)) = true := decide_eq_true c21
           clear c21
           have HC22 := Aside0.mk H
           clear H
           have hcz23_0 : wc.cell? ⟨gb296, 0, none⟩ = some (.slice A0_0 l0_0.length c0_0) := (blk_cell BK296.out 0).trans rfl
           have hcz23_1 : wc.cell? ⟨gb296, 1, none⟩ = some (.slice A0_1 l0_1.length c0_1) := (blk_cell BK296.out 1).trans rfl
           have hfz23_0 := blk_frozen BK296.out 0
           have hfz23_1 := blk_frozen BK296.out 1
           have p299 : 0 ≤ (x5_2 : Int) := of_decide_eq_true (by assumption)
           have q299 : x5_2 < (l0_1.length : Int) := of_decide_eq_true (by assumption)
           obtain ⟨ad299, A299_6, c299_6, e299, hx299_0, hx299_1, hx299_2, hx299_3, hx299_4, hx299_5, hx299_6, hl299_6, hi299_6⟩ := at_T33 HR0_1.out x5_2 p299 q299
           cases e299
           replace hx299_0 := cb_ HB hx299_0
           replace hx299_1 := cb_ HB hx299_1
           replace hx299_2 := cb_ HB hx299_2
           replace hx299_3 := cb_ HB hx299_3
           replace hx299_4 := cb_ HB hx299_4
           replace hx299_5 := cb_ HB hx299_5
           replace hx299_6 := cb_ HB hx299_6
           have HR299_6 := Aside0.mk hi299_6
           have HC299_6 := Aside0.mk hl299_6
           clear hi299_6 hl299_6
           replace p299 := eq_true p299
           replace q299 := eq_true q299
           go_upto_block 2 with (first | ((with_reducible refine gate_dst (N := 6) rfl ?_); refine box_event ?hg (N := 6) ?hd (cs := #[.int .i64 0, .int .i64 0, .int .i64 0, .int .i64 0, .int .i64 0, .int .i64 0, .slice none 0 0]) (t := 33) ?hr ?_; (case hd => rfl); (case hg => rfl); (case hr => first | (go_simp; done) | (go_simp; rfl)); intro gb300 hg w24 hbox hb; have n0_ := Aside0.mk (blk_below (g := gb296) (o := .cells #[.slice A0_0 l0_0.length c0_0, .slice (some ad299) l0_1.length c0_1] 25 (0, 0)) (by (with_reducible repeat (first | refine blk_drewN ?_ _ | refine blk_drew ?_ | refine blk_alloc ?_ _)); exact BK296.out) hb); have n1_ := Aside0.mk (below_step (by repeat (first | (with_reducible first | exact HB.out | apply below_alloc | apply pw_below_drewN | apply below_drew1 | refine below_set ?_ GE296.out) | exact HB.out)) hb); have n2_ := Aside0.mk (hbox); have n3_ := Aside0.mk ((by rw [hg]; exact (below_size (by repeat (first | (with_reducible first | exact HB.out | apply below_alloc | apply pw_below_drewN | apply below_drew1 | refine below_set ?_ GE296.out) | exact HB.out))) : w.heap.size ≤ gb300)); have n4_ := Aside0.mk ((by rw [hg]; exact (below_size (by repeat (first | (with_reducible first | exact HB.out | apply below_alloc | apply pw_below_drewN | apply below_drew1 | refine below_set ?_ GE296.out) | exact HB.out))) : w.heap.size ≤ gb300)); have n5_ := Aside0.mk ((by rw [hg]; exact Nat.ne_of_lt (blk_lt (g := gb296) (o := .cells #[.slice A0_0 l0_0.length c0_0, .slice (some ad299) l0_1.length c0_1] 25 (0, 0)) (by (with_reducible repeat (first | refine blk_drewN ?_ _ | refine blk_drew ?_ | refine blk_alloc ?_ _)); exact BK296.out)) : gb296 ≠ gb300)); have n6_ := Aside0.mk ((by rw [hg]; exact Nat.ne_of_gt (blk_lt (g := gb296) (o := .cells #[.slice A0_0 l0_0.length c0_0, .slice (some ad299) l0_1.length c0_1] 25 (0, 0)) (by (with_reducible repeat (first | refine blk_drewN ?_ _ | refine blk_drew ?_ | refine blk_alloc ?_ _)); exact BK296.out)) : gb300 ≠ gb296)); clear BK296; clear HB; have BK296 := n0_; have HB := n1_; have BK300 := n2_; have GW300 := n3_; have GE300 := n4_; have NB296_300 := n5_; have NB300_296 := n6_; clear n0_ n1_ n2_ n3_ n4_ n5_ n6_; clear hb hbox hg; have hnb25 := NB300_296.out; have hnc25 := NB296_300.out; have hcz26_0 : w24.cell? ⟨gb300, 0, none⟩ = some (.int .i64 0) := (blk_cell BK300.out 0).trans rfl; have hcz26_1 : w24.cell? ⟨gb300, 1, none⟩ = some (.int .i64 0) := (blk_cell BK300.out 1).trans rfl; have hcz26_2 : w24.cell? ⟨gb300, 2, none⟩ = some (.int .i64 0) := (blk_cell BK300.out 2).trans rfl; have hcz26_3 : w24.cell? ⟨gb300, 3, none⟩ = some (.int .i64 0) := (blk_cell BK300.out 3).trans rfl; have hcz26_4 : w24.cell? ⟨gb300, 4, none⟩ = some (.int .i64 0) := (blk_cell BK300.out 4).trans rfl; have hcz26_5 : w24.cell? ⟨gb300, 5, none⟩ = some (.int .i64 0) := (blk_cell BK300.out 5).trans rfl; have hcz26_6 : w24.cell? ⟨gb300, 6, none⟩ = some (.slice none 0 0) := (blk_cell BK300.out 6).trans rfl; have hfz26_0 := blk_frozen BK300.out 0; have hfz26_1 := blk_frozen BK300.out 1; have hfz26_2 := blk_frozen BK300.out 2; have hfz26_3 := blk_frozen BK300.out 3; have hfz26_4 := blk_frozen BK300.out 4; have hfz26_5 := blk_frozen BK300.out 5; have hfz26_6 := blk_frozen BK300.out 6))
           (try simp only [Act.put, List.setIfInBounds_toArray, List.set_cons_zero, List.set_cons_succ])
           go_cut [7, 8, 9, 10] (fun v7 v8 v9 v10 wc => ∃ (kq : Nat) (x7_21 : List (S88)) (x8_21 : Int) (x9_21 : List (S88)) (x10_21 : Int), v8 = .int .i64 x8_21 ∧ v10 = .int .i64 x10_21 ∧ Aside0 (lecternlaw14_only.j4 kq a1 x5_2 x7_21 x8_21 x9_21 x10_21 l0_0 l0_1 = some r) ∧ Aside0 (kq ≤ kj14) ∧ Aside0 (Kd.N k88 88 wc w.heap.size (fun k_ => some k_ ≠ (v9 : Value).ownBlock ∧ k_ ≠ gb296) v7 x7_21) ∧ Aside0 (Kd.N k88 88 wc w.heap.size (fun k_ => some k_ ≠ (v7 : Value).ownBlock ∧ k_ ≠ gb296) v9 x9_21) ∧ Aside0 (wc.heap[gb296]? = some (.cells #[(.slice A0_0 l0_0.length c0_0), (.slice (some ad299) l0_1.length c0_1)] 25 (0, 0))) ∧ Aside0 (Below w.heap.size w wc))
           case first =>
            have H := HC22.out
            clear HC22
            by_cases c27 : a1 = 0
            ·rw [if_pos c27] at H
             exact absurd H (by simp)
            ·rw [if_neg c27] at H
             have c27b0 : (a1 == 0) = false := beq_eq_false_iff_ne.mpr c27
             have c27b1 : (a1 != 0) = true := bne_iff_ne.mpr c27
             (first | rw [c27b0] | (simp only [i64_w, i32_w]; rw [c27b0]) | skip)
             by_cases c44 : a1 = 1
             ·rw [if_pos c44] at H
              exact absurd H (by simp)
             ·rw [if_neg c44] at H
              have c44b0 : (a1 == 1) = false := beq_eq_false_iff_ne.mpr c44
              have c44b1 : (a1 != 1) = true := bne_iff_ne.mpr c44
              replace H := Option.bind_eq_some_iff.mp H
              obtain ⟨⟨t317, t320⟩, A540, H⟩ := H
              replace H : ((session_Close.f kj14 l0_0 ((rd_T33 l0_1 x5_2).f1)).bind fun bt321 => (lecternlaw14_only.j4 kj14 a1 x5_2 t317 t320 bt321.1 bt321.2 l0_0 l0_1)) = some r := H
              have A54 := Aside0.mk A540
              clear A540
              replace H := Option.bind_eq_some_iff.mp H
              obtain ⟨⟨t321, t322⟩, A550, H⟩ := H
              replace H : (lecternlaw14_only.j4 kj14 a1 x5_2 t317 t320 t321 t322 l0_0 l0_1) = some r := H
              have A55 := Aside0.mk A550
              clear A550
              have H' := Aside0.mk H
              clear H
              have hnb56 := NB296_300.out
              have hnc56 := NB300_296.out
              have hcz57_0 : w24.cell? ⟨gb296, 0, none⟩ = some (.slice A0_0 l0_0.length c0_0) := (blk_cell BK296.out 0).trans rfl
              have hcz57_1 : w24.cell? ⟨gb296, 1, none⟩ = some (.slice (some ad299) l0_1.length c0_1) := (blk_cell BK296.out 1).trans rfl
              have hfz57_0 := blk_frozen BK296.out 0
              have hfz57_1 := blk_frozen BK296.out 1
              have hcz58_0 : w24.cell? ⟨gb300, 0, none⟩ = some (.int .i64 0) := (blk_cell BK300.out 0).trans rfl
              have hcz58_1 : w24.cell? ⟨gb300, 1, none⟩ = some (.int .i64 0) := (blk_cell BK300.out 1).trans rfl
              have hcz58_2 : w24.cell? ⟨gb300, 2, none⟩ = some (.int .i64 0) := (blk_cell BK300.out 2).trans rfl
              have hcz58_3 : w24.cell? ⟨gb300, 3, none⟩ = some (.int .i64 0) := (blk_cell BK300.out 3).trans rfl
              have hcz58_4 : w24.cell? ⟨gb300, 4, none⟩ = some (.int .i64 0) := (blk_cell BK300.out 4).trans rfl
              have hcz58_5 : w24.cell? ⟨gb300, 5, none⟩ = some (.int .i64 0) := (blk_cell BK300.out 5).trans rfl
              have hcz58_6 : w24.cell? ⟨gb300, 6, none⟩ = some (.slice none 0 0) := (blk_cell BK300.out 6).trans rfl
              have hfz58_0 := blk_frozen BK300.out 0
              have hfz58_1 := blk_frozen BK300.out 1
              have hfz58_2 := blk_frozen BK300.out 2
              have hfz58_3 := blk_frozen BK300.out 3
              have hfz58_4 := blk_frozen BK300.out 4
              have hfz58_5 := blk_frozen BK300.out 5
              have hfz58_6 := blk_frozen BK300.out 6
              go_wp2_with (first | ((with_reducible refine gate_callee (f := 31) rfl ?_); refine goesL_ (some 41) rfl rfl Try.func31 (by kernel_rfl) rfl #[.slice A0_0 l0_0.length c0_0, .int .i64 ((rd_T33 l0_1 x5_2).f1)] rfl (by (try simp only [List.map_toArray, List.map_cons, List.map_nil]); first | done | rfl | (simp only [List.length_drop, List.length_take]; rfl)) ?_; (with_reducible refine (lecternref14_Close.calls kj14 (fun k_ => k_ < w.heap.size) _ _ l0_0 ((rd_T33 l0_1 x5_2).f1) t317 t320 _ ?side1 A54.out).mono ?_); (case side1 => exact Kd.V_mk HC0_0.out (Kd.F_below (Kd.C_F k88_heap HR0_0.out) (by repeat (first | (with_reducible first | exact HB.out | apply below_alloc | apply pw_below_drewN | apply below_drew1 | refine below_set ?_ GE296.out | refine below_set ?_ GE300.out) | exact HB.out)))); rintro e w59 ⟨v318, rfl, ho0, hb⟩; refine ⟨_, rfl, ?_⟩; have n0_ := Aside0.mk (Kd.N_lower (Kd.N_mono (ok' := fun k_ => k_ ≠ gb296 ∧ k_ ≠ gb300) ho0 (fun k_ hk_ => ⟨Or.elim hk_ (fun hs_ => fun e_ => Nat.not_le.2 hs_ (by rw [e_]; exact GW296.out)) (fun hn_ => (Kd.freshB (g := gb296) (o := .cells #[.slice A0_0 l0_0.length c0_0, .slice (some ad299) l0_1.length c0_1] 25 (0, 0)) (by (with_reducible repeat (first | refine blk_drewN ?_ _ | refine blk_drew ?_ | refine blk_alloc ?_ _)); refine blk_far ?_ NB296_300.out _; (with_reducible repeat (first | refine blk_drewN ?_ _ | refine blk_drew ?_ | refine blk_alloc ?_ _)); refine blk_far ?_ NB296_300.out _; (with_reducible repeat (first | refine blk_drewN ?_ _ | refine blk_drew ?_ | refine blk_alloc ?_ _)); refine blk_far ?_ NB296_300.out _; (with_reducible repeat (first | refine blk_drewN ?_ _ | refine blk_drew ?_ | refine blk_alloc ?_ _)); refine blk_far ?_ NB296_300.out _; (with_reducible repeat (first | refine blk_drewN ?_ _ | refine blk_drew ?_ | refine blk_alloc ?_ _)); refine blk_far ?_ NB296_300.out _; (with_reducible repeat (first | refine blk_drewN ?_ _ | refine blk_drew ?_ | refine blk_alloc ?_ _)); refine blk_far ?_ NB296_300.out _; (with_reducible repeat (first | refine blk_drewN ?_ _ | refine blk_drew ?_ | refine blk_alloc ?_ _)); refine blk_far ?_ NB296_300.out _; (with_reducible repeat (first | refine blk_drewN ?_ _ | refine blk_drew ?_ | refine blk_alloc ?_ _)); exact BK296.out) k_ hn_)), Or.elim hk_ (fun hs_ => fun e_ => Nat.not_le.2 hs_ (by rw [e_]; exact GW300.out)) (fun hn_ => (Kd.freshB (g := gb300) (o := .cells #[.int .i64 ((rd_T33 l0_1 x5_2).f0), .int .i64 ((rd_T33 l0_1 x5_2).f1), .int .i64 ((rd_T33 l0_1 x5_2).f2), .int .i64 ((rd_T33 l0_1 x5_2).f3), .int .i64 ((rd_T33 l0_1 x5_2).f4.f0), .int .i64 ((rd_T33 l0_1 x5_2).f4.f1), .slice A299_6 ((rd_T33 l0_1 x5_2).f4.f2).length c299_6] 33 (0, 0)) (by (with_reducible repeat (first | refine blk_drewN ?_ _ | refine blk_drew ?_ | refine blk_alloc ?_ _)); refine blk_put (cs := #[.int .i64 ((rd_T33 l0_1 x5_2).f0), .int .i64 ((rd_T33 l0_1 x5_2).f1), .int .i64 ((rd_T33 l0_1 x5_2).f2), .int .i64 ((rd_T33 l0_1 x5_2).f3), .int .i64 ((rd_T33 l0_1 x5_2).f4.f0), .int .i64 ((rd_T33 l0_1 x5_2).f4.f1), .slice none 0 0]) ?_ 6 _ rfl; (with_reducible repeat (first | refine blk_drewN ?_ _ | refine blk_drew ?_ | refine blk_alloc ?_ _)); refine blk_put (cs := #[.int .i64 ((rd_T33 l0_1 x5_2).f0), .int .i64 ((rd_T33 l0_1 x5_2).f1), .int .i64 ((rd_T33 l0_1 x5_2).f2), .int .i64 ((rd_T33 l0_1 x5_2).f3), .int .i64 ((rd_T33 l0_1 x5_2).f4.f0), .int .i64 0, .slice none 0 0]) ?_ 5 _ rfl; (with_reducible repeat (first | refine blk_drewN ?_ _ | refine blk_drew ?_ | refine blk_alloc ?_ _)); refine blk_put (cs := #[.int .i64 ((rd_T33 l0_1 x5_2).f0), .int .i64 ((rd_T33 l0_1 x5_2).f1), .int .i64 ((rd_T33 l0_1 x5_2).f2), .int .i64 ((rd_T33 l0_1 x5_2).f3), .int .i64 0, .int .i64 0, .slice none 0 0]) ?_ 4 _ rfl; (with_reducible repeat (first | refine blk_drewN ?_ _ | refine blk_drew ?_ | refine blk_alloc ?_ _)); refine blk_put (cs := #[.int .i64 ((rd_T33 l0_1 x5_2).f0), .int .i64 ((rd_T33 l0_1 x5_2).f1), .int .i64 ((rd_T33 l0_1 x5_2).f2), .int .i64 0, .int .i64 0, .int .i64 0, .slice none 0 0]) ?_ 3 _ rfl; (with_reducible repeat (first | refine blk_drewN ?_ _ | refine blk_drew ?_ | refine blk_alloc ?_ _)); refine blk_put (cs := #[.int .i64 ((rd_T33 l0_1 x5_2).f0), .int .i64 ((rd_T33 l0_1 x5_2).f1), .int .i64 0, .int .i64 0, .int .i64 0, .int .i64 0, .slice none 0 0]) ?_ 2 _ rfl; (with_reducible repeat (first | refine blk_drewN ?_ _ | refine blk_drew ?_ | refine blk_alloc ?_ _)); refine blk_put (cs := #[.int .i64 ((rd_T33 l0_1 x5_2).f0), .int .i64 0, .int .i64 0, .int .i64 0, .int .i64 0, .int .i64 0, .slice none 0 0]) ?_ 1 _ rfl; (with_reducible repeat (first | refine blk_drewN ?_ _ | refine blk_drew ?_ | refine blk_alloc ?_ _)); refine blk_put (cs := #[.int .i64 0, .int .i64 0, .int .i64 0, .int .i64 0, .int .i64 0, .int .i64 0, .slice none 0 0]) ?_ 0 _ rfl; (with_reducible repeat (first | refine blk_drewN ?_ _ | refine blk_drew ?_ | refine blk_alloc ?_ _)); exact BK300.out) k_ hn_))⟩)) (below_size (by repeat (first | (with_reducible first | exact HB.out | apply below_alloc | apply pw_below_drewN | apply below_drew1 | refine below_set ?_ GE296.out | refine below_set ?_ GE300.out) | exact HB.out)))); have n1_ := Aside0.mk (blk_below (g := gb296) (o := .cells #[.slice A0_0 l0_0.length c0_0, .slice (some ad299) l0_1.length c0_1] 25 (0, 0)) (by (with_reducible repeat (first | refine blk_drewN ?_ _ | refine blk_drew ?_ | refine blk_alloc ?_ _)); refine blk_far ?_ NB296_300.out _; (with_reducible repeat (first | refine blk_drewN ?_ _ | refine blk_drew ?_ | refine blk_alloc ?_ _)); refine blk_far ?_ NB296_300.out _; (with_reducible repeat (first | refine blk_drewN ?_ _ | refine blk_drew ?_ | refine blk_alloc ?_ _)); refine blk_far ?_ NB296_300.out _; (with_reducible repeat (first | refine blk_drewN ?_ _ | refine blk_drew ?_ | refine blk_alloc ?_ _)); refine blk_far ?_ NB296_300.out _; (with_reducible repeat (first | refine blk_drewN ?_ _ | refine blk_drew ?_ | refine blk_alloc ?_ _)); refine blk_far ?_ NB296_300.out _; (with_reducible repeat (first | refine blk_drewN ?_ _ | refine blk_drew ?_ | refine blk_alloc ?_ _)); refine blk_far ?_ NB296_300.out _; (with_reducible repeat (first | refine blk_drewN ?_ _ | refine blk_drew ?_ | refine blk_alloc ?_ _)); refine blk_far ?_ NB296_300.out _; (with_reducible repeat (first | refine blk_drewN ?_ _ | refine blk_drew ?_ | refine blk_alloc ?_ _)); exact BK296.out) hb); have n2_ := Aside0.mk (blk_below (g := gb300) (o := .cells #[.int .i64 ((rd_T33 l0_1 x5_2).f0), .int .i64 ((rd_T33 l0_1 x5_2).f1), .int .i64 ((rd_T33 l0_1 x5_2).f2), .int .i64 ((rd_T33 l0_1 x5_2).f3), .int .i64 ((rd_T33 l0_1 x5_2).f4.f0), .int .i64 ((rd_T33 l0_1 x5_2).f4.f1), .slice A299_6 ((rd_T33 l0_1 x5_2).f4.f2).length c299_6] 33 (0, 0)) (by (with_reducible repeat (first | refine blk_drewN ?_ _ | refine blk_drew ?_ | refine blk_alloc ?_ _)); refine blk_put (cs := #[.int .i64 ((rd_T33 l0_1 x5_2).f0), .int .i64 ((rd_T33 l0_1 x5_2).f1), .int .i64 ((rd_T33 l0_1 x5_2).f2), .int .i64 ((rd_T33 l0_1 x5_2).f3), .int .i64 ((rd_T33 l0_1 x5_2).f4.f0), .int .i64 ((rd_T33 l0_1 x5_2).f4.f1), .slice none 0 0]) ?_ 6 _ rfl; (with_reducible repeat (first | refine blk_drewN ?_ _ | refine blk_drew ?_ | refine blk_alloc ?_ _)); refine blk_put (cs := #[.int .i64 ((rd_T33 l0_1 x5_2).f0), .int .i64 ((rd_T33 l0_1 x5_2).f1), .int .i64 ((rd_T33 l0_1 x5_2).f2), .int .i64 ((rd_T33 l0_1 x5_2).f3), .int .i64 ((rd_T33 l0_1 x5_2).f4.f0), .int .i64 0, .slice none 0 0]) ?_ 5 _ rfl; (with_reducible repeat (first | refine blk_drewN ?_ _ | refine blk_drew ?_ | refine blk_alloc ?_ _)); refine blk_put (cs := #[.int .i64 ((rd_T33 l0_1 x5_2).f0), .int .i64 ((rd_T33 l0_1 x5_2).f1), .int .i64 ((rd_T33 l0_1 x5_2).f2), .int .i64 ((rd_T33 l0_1 x5_2).f3), .int .i64 0, .int .i64 0, .slice none 0 0]) ?_ 4 _ rfl; (with_reducible repeat (first | refine blk_drewN ?_ _ | refine blk_drew ?_ | refine blk_alloc ?_ _)); refine blk_put (cs := #[.int .i64 ((rd_T33 l0_1 x5_2).f0), .int .i64 ((rd_T33 l0_1 x5_2).f1), .int .i64 ((rd_T33 l0_1 x5_2).f2), .int .i64 0, .int .i64 0, .int .i64 0, .slice none 0 0]) ?_ 3 _ rfl; (with_reducible repeat (first | refine blk_drewN ?_ _ | refine blk_drew ?_ | refine blk_alloc ?_ _)); refine blk_put (cs := #[.int .i64 ((rd_T33 l0_1 x5_2).f0), .int .i64 ((rd_T33 l0_1 x5_2).f1), .int .i64 0, .int .i64 0, .int .i64 0, .int .i64 0, .slice none 0 0]) ?_ 2 _ rfl; (with_reducible repeat (first | refine blk_drewN ?_ _ | refine blk_drew ?_ | refine blk_alloc ?_ _)); refine blk_put (cs := #[.int .i64 ((rd_T33 l0_1 x5_2).f0), .int .i64 0, .int .i64 0, .int .i64 0, .int .i64 0, .int .i64 0, .slice none 0 0]) ?_ 1 _ rfl; (with_reducible repeat (first | refine blk_drewN ?_ _ | refine blk_drew ?_ | refine blk_alloc ?_ _)); refine blk_put (cs := #[.int .i64 0, .int .i64 0, .int .i64 0, .int .i64 0, .int .i64 0, .int .i64 0, .slice none 0 0]) ?_ 0 _ rfl; (with_reducible repeat (first | refine blk_drewN ?_ _ | refine blk_drew ?_ | refine blk_alloc ?_ _)); exact BK300.out) hb); have n3_ := Aside0.mk (below_step (by repeat (first | (with_reducible first | exact HB.out | apply below_alloc | apply pw_below_drewN | apply below_drew1 | refine below_set ?_ GE296.out | refine below_set ?_ GE300.out) | exact HB.out)) hb); clear BK296; clear BK300; clear HB; have HO319 := n0_; have BK296 := n1_; have BK300 := n2_; have HB := n3_; clear n0_ n1_ n2_ n3_; (try clear hb); (try clear hb2); (try clear hk); (try clear hi); (try clear ho0); have hcz60_0 : w59.cell? ⟨gb296, 0, none⟩ = some (.slice A0_0 l0_0.length c0_0) := (blk_cell BK296.out 0).trans rfl; have hcz60_1 : w59.cell? ⟨gb296, 1, none⟩ = some (.slice (some ad299) l0_1.length c0_1) := (blk_cell BK296.out 1).trans rfl; have hfz60_0 := blk_frozen BK296.out 0; have hfz60_1 := blk_frozen BK296.out 1; have hcz61_0 : w59.cell? ⟨gb300, 0, none⟩ = some (.int .i64 ((rd_T33 l0_1 x5_2).f0)) := (blk_cell BK300.out 0).trans rfl; have hcz61_1 : w59.cell? ⟨gb300, 1, none⟩ = some (.int .i64 ((rd_T33 l0_1 x5_2).f1)) := (blk_cell BK300.out 1).trans rfl; have hcz61_2 : w59.cell? ⟨gb300, 2, none⟩ = some (.int .i64 ((rd_T33 l0_1 x5_2).f2)) := (blk_cell BK300.out 2).trans rfl; have hcz61_3 : w59.cell? ⟨gb300, 3, none⟩ = some (.int .i64 ((rd_T33 l0_1 x5_2).f3)) := (blk_cell BK300.out 3).trans rfl; have hcz61_4 : w59.cell? ⟨gb300, 4, none⟩ = some (.int .i64 ((rd_T33 l0_1 x5_2).f4.f0)) := (blk_cell BK300.out 4).trans rfl; have hcz61_5 : w59.cell? ⟨gb300, 5, none⟩ = some (.int .i64 ((rd_T33 l0_1 x5_2).f4.f1)) := (blk_cell BK300.out 5).trans rfl; have hcz61_6 : w59.cell? ⟨gb300, 6, none⟩ = some (.slice A299_6 ((rd_T33 l0_1 x5_2).f4.f2).length c299_6) := (blk_cell BK300.out 6).trans rfl; have hfz61_0 := blk_frozen BK300.out 0; have hfz61_1 := blk_frozen BK300.out 1; have hfz61_2 := blk_frozen BK300.out 2; have hfz61_3 := blk_frozen BK300.out 3; have hfz61_4 := blk_frozen BK300.out 4; have hfz61_5 := blk_frozen BK300.out 5; have hfz61_6 := blk_frozen BK300.out 6) | ((with_reducible refine gate_callee (f := 25) rfl ?_); refine goesL_ (some 49) rfl rfl Try.func25 (by kernel_rfl) rfl #[.slice A0_0 l0_0.length c0_0, .int .i64 ((rd_T33 l0_1 x5_2).f1)] rfl (by (try simp only [List.map_toArray, List.map_cons, List.map_nil]); first | done | rfl | (simp only [List.length_drop, List.length_take]; rfl)) ?_; (with_reducible refine (session_Close.calls kj14 _ _ l0_0 ((rd_T33 l0_1 x5_2).f1) t321 t322 _ ?side1 ?side2 A55.out).mono ?_); (case side1 => repeat (first | exact (Kd.C_below HR0_0.out HB.out) | (with_reducible refine Kd.C_alloc ?_ _) | (with_reducible refine Kd.C_drewN ?_ _) | (with_reducible refine Kd.C_drew ?_))); (case side2 => exact HC0_0.out); rintro e w62 ⟨v323, rfl, ho0, hb⟩; refine ⟨_, rfl, ?_⟩; have n0_ := Aside0.mk (Kd.N_elder' (by (with_reducible repeat (first | apply Kd.N_alloc | apply Kd.N_drewN | apply Kd.N_drew)); exact HO319.out) (Kd.N_base (Kd.S_N ho0)) hb); have n1_ := Aside0.mk (Kd.N_lower (Kd.N_mono (ok' := fun k_ => some k_ ≠ (v318 : Value).ownBlock ∧ k_ ≠ gb296 ∧ k_ ≠ gb300) (Kd.S_N (Kd.S_bound ho0)) (fun k_ hk_ => ⟨(Kd.fresh' (Kd.N_lt (by (with_reducible repeat (first | apply Kd.N_alloc | apply Kd.N_drewN | apply Kd.N_drew)); exact HO319.out)) k_ hk_.2.1), (Kd.freshB (g := gb296) (o := .cells #[.slice A0_0 l0_0.length c0_0, .slice (some ad299) l0_1.length c0_1] 25 (0, 0)) (by (with_reducible repeat (first | refine blk_drewN ?_ _ | refine blk_drew ?_ | refine blk_alloc ?_ _)); exact BK296.out) k_ hk_.2.1), (Kd.freshB (g := gb300) (o := .cells #[.int .i64 ((rd_T33 l0_1 x5_2).f0), .int .i64 ((rd_T33 l0_1 x5_2).f1), .int .i64 ((rd_T33 l0_1 x5_2).f2), .int .i64 ((rd_T33 l0_1 x5_2).f3), .int .i64 ((rd_T33 l0_1 x5_2).f4.f0), .int .i64 ((rd_T33 l0_1 x5_2).f4.f1), .slice A299_6 ((rd_T33 l0_1 x5_2).f4.f2).length c299_6] 33 (0, 0)) (by (with_reducible repeat (first | refine blk_drewN ?_ _ | refine blk_drew ?_ | refine blk_alloc ?_ _)); exact BK300.out) k_ hk_.2.1)⟩)) (below_size (by repeat (first | (with_reducible first | exact HB.out | apply below_alloc | apply pw_below_drewN | apply below_drew1 | refine below_set ?_ GE296.out | refine below_set ?_ GE300.out) | exact HB.out)))); have n2_ := Aside0.mk (blk_below (g := gb296) (o := .cells #[.slice A0_0 l0_0.length c0_0, .slice (some ad299) l0_1.length c0_1] 25 (0, 0)) (by (with_reducible repeat (first | refine blk_drewN ?_ _ | refine blk_drew ?_ | refine blk_alloc ?_ _)); exact BK296.out) hb); have n3_ := Aside0.mk (blk_below (g := gb300) (o := .cells #[.int .i64 ((rd_T33 l0_1 x5_2).f0), .int .i64 ((rd_T33 l0_1 x5_2).f1), .int .i64 ((rd_T33 l0_1 x5_2).f2), .int .i64 ((rd_T33 l0_1 x5_2).f3), .int .i64 ((rd_T33 l0_1 x5_2).f4.f0), .int .i64 ((rd_T33 l0_1 x5_2).f4.f1), .slice A299_6 ((rd_T33 l0_1 x5_2).f4.f2).length c299_6] 33 (0, 0)) (by (with_reducible repeat (first | refine blk_drewN ?_ _ | refine blk_drew ?_ | refine blk_alloc ?_ _)); exact BK300.out) hb); have n4_ := Aside0.mk (below_step (by repeat (first | (with_reducible first | exact HB.out | apply below_alloc | apply pw_below_drewN | apply below_drew1 | refine below_set ?_ GE296.out | refine below_set ?_ GE300.out) | exact HB.out)) hb); clear HO319; clear BK296; clear BK300; clear HB; have HO319 := n0_; have HO324 := n1_; have BK296 := n2_; have BK300 := n3_; have HB := n4_; clear n0_ n1_ n2_ n3_ n4_; (try clear hb); (try clear hb2); (try clear hk); (try clear hi); (try clear ho0)))
              go_meet
              case rel => exact ⟨_, (t317), (t320), (t321), (t322), (by first | rfl | (simp; done) | (simp [*]; done)), (by first | rfl | (simp; done) | (simp [*]; done)), H', ⟨by have := HJ2.out; have := HK2.out; have := HJ14.out; first | omega | exact Nat.le_refl _⟩, ⟨by (with_reducible repeat (first | apply Kd.N_alloc | apply Kd.N_drewN | apply Kd.N_drew)); exact Kd.N_mono HO319.out (fun _ hk => ⟨hk.2, hk.1.1⟩)⟩, ⟨by (with_reducible repeat (first | apply Kd.N_alloc | apply Kd.N_drewN | apply Kd.N_drew)); exact Kd.N_mono HO324.out (fun _ hk => ⟨hk.1, hk.2.1⟩)⟩, ⟨by (with_reducible repeat (first | refine blk_drewN ?_ _ | refine blk_drew ?_ | refine blk_alloc ?_ _)); exact BK296.out⟩, ⟨by repeat (first | (with_reducible first | exact HB.out | apply below_alloc | apply pw_below_drewN | apply below_drew1 | refine below_set ?_ GE296.out | refine below_set ?_ GE300.out) | exact HB.out)⟩⟩
           case rest =>
            clear HC22
            try clear c1
            try clear c2
            try clear p2
            try clear q2
            try clear hx2
            try clear c3
            try clear c4
            try clear c5
            try clear c6
            try clear c13
            try clear c14
            try clear c16
            try clear c16b0
            try clear c19
            try clear c20
            try clear c20b0
            try clear c21
            try clear c21b0
            try clear c22
            try clear c23
            try clear c25
            try clear c27
            try clear c27b0
            try clear c27b1
            try clear c29
            try clear p29
            try clear q29
            try clear hx29
            try clear c30
            try clear c31
            try clear c32
            try clear c33
            try clear c35
            try clear c40
            try clear c44
            try clear c44b0
            try clear c44b1
            try clear c47
            try clear c56
            try clear hcz10_0
            try clear hcz10_1
            try clear hcz12_0
            try clear hcz12_1
            try clear hcz17_0
            try clear hcz17_1
            try clear hcz18_0
            try clear hcz18_1
            try clear hcz23_0
            try clear hcz23_1
            try clear hcz26_0
            try clear hcz26_1
            try clear hcz26_2
            try clear hcz26_3
            try clear hcz26_4
            try clear hcz26_5
            try clear hcz26_6
            try clear hcz31_0
            try clear hcz31_1
            try clear hcz32_0
            try clear hcz32_1
            try clear hcz32_2
            try clear hcz32_3
            try clear hcz32_4
            try clear hcz32_5
            try clear hcz32_6
            try clear hcz36_0
            try clear hcz36_1
            try clear hcz37_0
            try clear hcz37_1
            try clear hcz37_2
            try clear hcz37_3
            try clear hcz37_4
            try clear hcz37_5
            try clear hcz37_6
            try clear hcz41_0
            try clear hcz41_1
            try clear hcz42_0
            try clear hcz42_1
            try clear hcz42_2
            try clear hcz42_3
            try clear hcz42_4
            try clear hcz42_5
            try clear hcz42_6
            try clear hcz48_0
            try clear hcz48_1
            try clear hcz49_0
            try clear hcz49_1
            try clear hcz49_2
            try clear hcz49_3
            try clear hcz49_4
            try clear hcz49_5
            try clear hcz49_6
            try clear hcz51_0
            try clear hcz51_1
            try clear hcz52_0
            try clear hcz52_1
            try clear hcz52_2
            try clear hcz52_3
            try clear hcz52_4
            try clear hcz52_5
            try clear hcz52_6
            try clear hcz57_0
            try clear hcz57_1
            try clear hcz58_0
            try clear hcz58_1
            try clear hcz58_2
            try clear hcz58_3
            try clear hcz58_4
            try clear hcz58_5
            try clear hcz58_6
            try clear hcz60_0
            try clear hcz60_1
            try clear hcz61_0
            try clear hcz61_1
            try clear hcz61_2
            try clear hcz61_3
            try clear hcz61_4
            try clear hcz61_5
            try clear hcz61_6
            try clear hcz7_0
            try clear hcz7_1
            try clear hfz10_0
            try clear hfz10_1
            try clear hfz12_0
            try clear hfz12_1
            try clear hfz17_0
            try clear hfz17_1
            try clear hfz18_0
            try clear hfz18_1
            try clear hfz23_0
            try clear hfz23_1
            try clear hfz26_0
            try clear hfz26_1
            try clear hfz26_2
            try clear hfz26_3
            try clear hfz26_4
            try clear hfz26_5
            try clear hfz26_6
            try clear hfz31_0
            try clear hfz31_1
            try clear hfz32_0
            try clear hfz32_1
            try clear hfz32_2
            try clear hfz32_3
            try clear hfz32_4
            try clear hfz32_5
            try clear hfz32_6
            try clear hfz36_0
            try clear hfz36_1
            try clear hfz37_0
            try clear hfz37_1
            try clear hfz37_2
            try clear hfz37_3
            try clear hfz37_4
            try clear hfz37_5
            try clear hfz37_6
            try clear hfz41_0
            try clear hfz41_1
            try clear hfz42_0
            try clear hfz42_1
            try clear hfz42_2
            try clear hfz42_3
            try clear hfz42_4
            try clear hfz42_5
            try clear hfz42_6
            try clear hfz48_0
            try clear hfz48_1
            try clear hfz49_0
            try clear hfz49_1
            try clear hfz49_2
            try clear hfz49_3
            try clear hfz49_4
            try clear hfz49_5
            try clear hfz49_6
            try clear hfz51_0
            try clear hfz51_1
            try clear hfz52_0
            try clear hfz52_1
            try clear hfz52_2
            try clear hfz52_3
            try clear hfz52_4
            try clear hfz52_5
            try clear hfz52_6
            try clear hfz57_0
            try clear hfz57_1
            try clear hfz58_0
            try clear hfz58_1
            try clear hfz58_2
            try clear hfz58_3
            try clear hfz58_4
            try clear hfz58_5
            try clear hfz58_6
            try clear hfz60_0
            try clear hfz60_1
            try clear hfz61_0
            try clear hfz61_1
            try clear hfz61_2
            try clear hfz61_3
            try clear hfz61_4
            try clear hfz61_5
            try clear hfz61_6
            try clear hfz7_0
            try clear hfz7_1
            try clear hx299_0
            try clear hx299_1
            try clear hx299_2
            try clear hx299_3
            try clear hx299_4
            try clear hx299_5
            try clear hx299_6
            try clear p2
            try clear p29
            try clear p299
            try clear q2
            try clear q29
            try clear q299
            obtain ⟨kq, x7_21, x8_21, x9_21, x10_21, rfl, rfl, HA, HJ21, HO_7, HO_9, BK296, HB⟩ := hcut
            cases kq with
            | zero => exact absurd HA.out (by simp [lecternlaw14_only.j4])
            | succ kj21 =>
             have H := HA.out
             clear HA
             simp only [lecternlaw14_only.j4] at H
             have HC63 := Aside0.mk H
             clear H
             go_upto_region 20 with (fail)
             go_cut [111] (fun v111 wc => ∃ (kq : Nat) (x111_62 : Bool), v111 = .bool x111_62 ∧ Aside0 (lecternlaw14_only.j5 kq a1 x5_2 x111_62 l0_0 l0_1 = some r) ∧ Aside0 (kq ≤ kj21) ∧ Aside0 (wc.heap[gb296]? = some (.cells #[(.slice A0_0 l0_0.length c0_0), (.slice (some ad299) l0_1.length c0_1)] 25 (0, 0))) ∧ Aside0 (Below w.heap.size w wc))
             case first =>
              have H := HC63.out
              clear HC63
              replace H := Option.bind_eq_some_iff.mp H
              obtain ⟨t325, A640, H⟩ := H
              replace H : (if t325 = x8_21 then ((lecternref0_EqSessions.f kj21 x9_21 x7_21).bind fun t326 => (lecternlaw14_only.j5 kj21 a1 x5_2 (!t326) l0_0 l0_1)) else (lecternlaw14_only.j5 kj21 a1 x5_2 true l0_0 l0_1)) = some r := H
              have A64 := Aside0.mk A640
              clear A640
              by_cases c65 : t325 = x8_21
              ·rw [if_pos c65] at H
               have c65b0 : (t325 == x8_21) = true := beq_iff_eq.mpr c65
               have c65b1 : (t325 != x8_21) = false := bne_eq_false_iff_eq.mpr c65
               clear c65
               (first | rw [c65b0] | (simp only [i64_w, i32_w]; rw [c65b0]) | skip)
               replace H := Option.bind_eq_some_iff.mp H
               obtain ⟨t326, A660, H⟩ := H
               replace H : (lecternlaw14_only.j5 kj21 a1 x5_2 (!t326) l0_0 l0_1) = some r := H
               have A66 := Aside0.mk A660
               clear A660
               have H' := Aside0.mk H
               clear H
               go_wp2_with (first | ((with_reducible refine gate_callee (f := 17) rfl ?_); refine goesL_ (some 103) rfl rfl Try.func17 (by kernel_rfl) rfl #[.int .i64 x10_21] rfl (by (try simp only [List.map_toArray, List.map_cons, List.map_nil]); first | done | rfl | (simp only [List.length_drop, List.length_take]; rfl)) ?_; (with_reducible refine (lecternlaw14_num.calls x10_21 t325 _ A64.out).mono ?_); rintro e w' ⟨rfl, ⟨nd, rfl⟩⟩; refine ⟨_, rfl, ?_⟩; obtain ⟨Ao67, co67, eo67⟩ := Kd.N_slice HO_9.out; subst eo67; obtain ⟨Ao68, co68, eo68⟩ := Kd.N_slice HO_7.out; subst eo68) | (go_at_call 28; (with_reducible refine (lecternref0_EqSessions.calls kj21 _ _ x9_21 _ _ x7_21 t326 _ ?side1 ?side2 ?side3 ?side4 A66.out).mono ?_); (case side1 => repeat (first | exact (Kd.N_reads' HO_9.out).2.2 | (with_reducible refine Kd.C_alloc ?_ _) | (with_reducible refine Kd.C_drewN ?_ _) | (with_reducible refine Kd.C_drew ?_))); (case side2 => exact (Kd.N_reads' HO_9.out).2.1); (case side3 => repeat (first | exact (Kd.N_reads' HO_7.out).2.2 | (with_reducible refine Kd.C_alloc ?_ _) | (with_reducible refine Kd.C_drewN ?_ _) | (with_reducible refine Kd.C_drew ?_))); (case side4 => exact (Kd.N_reads' HO_7.out).2.1); rintro e w69 ⟨rfl, hb⟩; have n0_ := Aside0.mk (Kd.N_below (by (with_reducible repeat (first | apply Kd.N_alloc | apply Kd.N_drewN | apply Kd.N_drew)); exact HO_7.out) hb); have n1_ := Aside0.mk (Kd.N_below (by (with_reducible repeat (first | apply Kd.N_alloc | apply Kd.N_drewN | apply Kd.N_drew)); exact HO_9.out) hb); have n2_ := Aside0.mk (blk_below (g := gb296) (o := .cells #[.slice A0_0 l0_0.length c0_0, .slice (some ad299) l0_1.length c0_1] 25 (0, 0)) (by (with_reducible repeat (first | refine blk_drewN ?_ _ | refine blk_drew ?_ | refine blk_alloc ?_ _)); exact BK296.out) hb); have n3_ := Aside0.mk (below_step (by repeat (first | (with_reducible first | exact HB.out | apply below_alloc | apply pw_below_drewN | apply below_drew1 | refine below_set ?_ GE296.out) | exact HB.out)) hb); clear HO_7; clear HO_9; clear BK296; clear HB; have HO_7 := n0_; have HO_9 := n1_; have BK296 := n2_; have HB := n3_; clear n0_ n1_ n2_ n3_; (try clear hb); (try clear hb2); (try clear hk); (try clear hi)))
               go_meet
               case rel => exact ⟨_, (!t326), (by first | rfl | (simp; done) | (simp [*]; done)), H', ⟨by have := HJ2.out; have := HK2.out; have := HJ14.out; have := HJ21.out; first | omega | exact Nat.le_refl _⟩, ⟨by (with_reducible repeat (first | refine blk_drewN ?_ _ | refine blk_drew ?_ | refine blk_alloc ?_ _)); exact BK296.out⟩, ⟨by repeat (first | (with_reducible first | exact HB.out | apply below_alloc | apply pw_below_drewN | apply below_drew1 | refine below_set ?_ GE296.out) | exact HB.out)⟩⟩
              ·rw [if_neg c65] at H
               have c65b0 : (t325 == x8_21) = false := beq_eq_false_iff_ne.mpr c65
               have c65b1 : (t325 != x8_21) = true := bne_iff_ne.mpr c65
               (first | rw [c65b0] | (simp only [i64_w, i32_w]; rw [c65b0]) | skip)
               have H' := Aside0.mk H
               clear H
               go_wp2_with (first | ((with_reducible refine gate_callee (f := 17) rfl ?_); refine goesL_ (some 103) rfl rfl Try.func17 (by kernel_rfl) rfl #[.int .i64 x10_21] rfl (by (try simp only [List.map_toArray, List.map_cons, List.map_nil]); first | done | rfl | (simp only [List.length_drop, List.length_take]; rfl)) ?_; (with_reducible refine (lecternlaw14_num.calls x10_21 t325 _ A64.out).mono ?_); rintro e w' ⟨rfl, ⟨nd, rfl⟩⟩; refine ⟨_, rfl, ?_⟩))
               go_meet
               case rel => exact ⟨_, (true), (by first | rfl | (simp; done) | (simp [*]; done)), H', ⟨by have := HJ2.out; have := HK2.out; have := HJ14.out; have := HJ21.out; first | omega | exact Nat.le_refl _⟩, ⟨by (with_reducible repeat (first | refine blk_drewN ?_ _ | refine blk_drew ?_ | refine blk_alloc ?_ _)); exact BK296.out⟩, ⟨by repeat (first | (with_reducible first | exact HB.out | apply below_alloc | apply pw_below_drewN | apply below_drew1 | refine below_set ?_ GE296.out) | exact HB.out)⟩⟩
             case rest =>
              clear HC63
              try clear c1
              try clear c2
              try clear p2
              try clear q2
              try clear hx2
              try clear c3
              try clear c4
              try clear c5
              try clear c6
              try clear c13
              try clear c14
              try clear c16
              try clear c16b0
              try clear c17
              try clear c19
              try clear c20
              try clear c20b0
              try clear c21
              try clear c21b0
              try clear c22
              try clear c23
              try clear c25
              try clear c27
              try clear c27b0
              try clear c27b1
              try clear c29
              try clear p29
              try clear q29
              try clear hx29
              try clear c30
              try clear c31
              try clear c32
              try clear c33
              try clear c35
              try clear c40
              try clear c44
              try clear c44b0
              try clear c44b1
              try clear c47
              try clear c56
              try clear c65
              try clear c65b0
              try clear c65b1
              try clear hcz10_0
              try clear hcz10_1
              try clear hcz12_0
              try clear hcz12_1
              try clear hcz17_0
              try clear hcz17_1
              try clear hcz18_0
              try clear hcz18_1
              try clear hcz23_0
              try clear hcz23_1
              try clear hcz26_0
              try clear hcz26_1
              try clear hcz26_2
              try clear hcz26_3
              try clear hcz26_4
              try clear hcz26_5
              try clear hcz26_6
              try clear hcz31_0
              try clear hcz31_1
              try clear hcz32_0
              try clear hcz32_1
              try clear hcz32_2
              try clear hcz32_3
              try clear hcz32_4
              try clear hcz32_5
              try clear hcz32_6
              try clear hcz36_0
              try clear hcz36_1
              try clear hcz37_0
              try clear hcz37_1
              try clear hcz37_2
              try clear hcz37_3
              try clear hcz37_4
              try clear hcz37_5
              try clear hcz37_6
              try clear hcz41_0
              try clear hcz41_1
              try clear hcz42_0
              try clear hcz42_1
              try clear hcz42_2
              try clear hcz42_3
              try clear hcz42_4
              try clear hcz42_5
              try clear hcz42_6
              try clear hcz48_0
              try clear hcz48_1
              try clear hcz49_0
              try clear hcz49_1
              try clear hcz49_2
              try clear hcz49_3
              try clear hcz49_4
              try clear hcz49_5
              try clear hcz49_6
              try clear hcz51_0
              try clear hcz51_1
              try clear hcz52_0
              try clear hcz52_1
              try clear hcz52_2
              try clear hcz52_3
              try clear hcz52_4
              try clear hcz52_5
              try clear hcz52_6
              try clear hcz57_0
              try clear hcz57_1
              try clear hcz58_0
              try clear hcz58_1
              try clear hcz58_2
              try clear hcz58_3
              try clear hcz58_4
              try clear hcz58_5
              try clear hcz58_6
              try clear hcz60_0
              try clear hcz60_1
              try clear hcz61_0
              try clear hcz61_1
              try clear hcz61_2
              try clear hcz61_3
              try clear hcz61_4
              try clear hcz61_5
              try clear hcz61_6
              try clear hcz7_0
              try clear hcz7_1
              try clear hfz10_0
              try clear hfz10_1
              try clear hfz12_0
              try clear hfz12_1
              try clear hfz17_0
              try clear hfz17_1
              try clear hfz18_0
              try clear hfz18_1
              try clear hfz23_0
              try clear hfz23_1
              try clear hfz26_0
              try clear hfz26_1
              try clear hfz26_2
              try clear hfz26_3
              try clear hfz26_4
              try clear hfz26_5
              try clear hfz26_6
              try clear hfz31_0
              try clear hfz31_1
              try clear hfz32_0
              try clear hfz32_1
              try clear hfz32_2
              try clear hfz32_3
              try clear hfz32_4
              try clear hfz32_5
              try clear hfz32_6
              try clear hfz36_0
              try clear hfz36_1
              try clear hfz37_0
              try clear hfz37_1
              try clear hfz37_2
              try clear hfz37_3
              try clear hfz37_4
              try clear hfz37_5
              try clear hfz37_6
              try clear hfz41_0
              try clear hfz41_1
              try clear hfz42_0
              try clear hfz42_1
              try clear hfz42_2
              try clear hfz42_3
              try clear hfz42_4
              try clear hfz42_5
              try clear hfz42_6
              try clear hfz48_0
              try clear hfz48_1
              try clear hfz49_0
              try clear hfz49_1
              try clear hfz49_2
              try clear hfz49_3
              try clear hfz49_4
              try clear hfz49_5
              try clear hfz49_6
              try clear hfz51_0
              try clear hfz51_1
              try clear hfz52_0
              try clear hfz52_1
              try clear hfz52_2
              try clear hfz52_3
              try clear hfz52_4
              try clear hfz52_5
              try clear hfz52_6
              try clear hfz57_0
              try clear hfz57_1
              try clear hfz58_0
              try clear hfz58_1
              try clear hfz58_2
              try clear hfz58_3
              try clear hfz58_4
              try clear hfz58_5
              try clear hfz58_6
              try clear hfz60_0
              try clear hfz60_1
              try clear hfz61_0
              try clear hfz61_1
              try clear hfz61_2
              try clear hfz61_3
              try clear hfz61_4
              try clear hfz61_5
              try clear hfz61_6
              try clear hfz7_0
              try clear hfz7_1
              try clear hx299_0
              try clear hx299_1
              try clear hx299_2
              try clear hx299_3
              try clear hx299_4
              try clear hx299_5
              try clear hx299_6
              try clear p2
              try clear p29
              try clear p299
              try clear q2
              try clear q29
              try clear q299
              obtain ⟨kq, x111_62, rfl, HA, HJ62, BK296, HB⟩ := hcut
              cases kq with
              | zero => exact absurd HA.out (by simp [lecternlaw14_only.j5])
              | succ kj62 =>
               have H := HA.out
               clear HA
               simp only [lecternlaw14_only.j5] at H
               by_cases c70 : x111_62 = true
               ·subst c70
                have H1 : (some false) = some r := by rw [if_pos rfl] at H; exact H
                clear H
                have H := H1
                clear H1
                obtain rfl := Option.some.inj H
                go_wp2
                go_ret
                exact ⟨by first | rfl | (simp [errW_none, errW_some] <;> rfl) | (simp [*, errW_none, errW_some] <;> rfl), by repeat (first | (with_reducible first | exact HB.out | apply below_alloc | apply pw_below_drewN | apply below_drew1 | refine below_set ?_ GE296.out) | exact HB.out)⟩
               ·replace c70 := Bool.eq_false_iff.mpr c70
                subst c70
                have H1 : (lecternlaw14_only.l0 kj62 a1 (wrap64 (x5_2 + 1)) l0_0 l0_1) = some r := by rw [if_neg (show ¬ (false = true) by decide)] at H; exact H
                clear H
                have H := H1
                clear H1
                have H' := Aside0.mk H
                clear H
                go_wp2
                go_roundg kj62
                case measure => have := HJ2.out; have := HK2.out; have := HJ14.out; have := HJ21.out; have := HJ62.out; omega
                case rel => exact ⟨(wrap64 (x5_2 + 1)), (by first | rfl | (simp; done) | (simp [*]; done)), H', ⟨by have := HJ2.out; have := HK2.out; have := HJ14.out; have := HJ21.out; have := HJ62.out; omega⟩, ⟨by (with_reducible repeat (first | refine blk_drewN ?_ _ | refine blk_drew ?_ | refine blk_alloc ?_ _)); exact BK296.out⟩, ⟨by repeat (first | (with_reducible first | exact HB.out | apply below_alloc | apply pw_below_drewN | apply below_drew1 | refine below_set ?_ GE296.out) | exact HB.out)⟩⟩
          ·rw [if_neg c21] at H
           exact absurd H (by simp)
         ·rw [if_neg c20] at H
          exact absurd H (by simp)
        ·replace c19 := Bool.eq_false_iff.mpr c19
         subst c19
         have H1 : ((lecternlaw14_wakes.f kj14).bind fun t327 => (some t327)) = some r := by rw [if_neg (show ¬ (false = true) by decide)] at H; exact H
         clear H
         have H := H1
         clear H1
         replace H := Option.bind_eq_some_iff.mp H
         obtain ⟨t327, A710, H⟩ := H
         replace H : (some t327) = some r := H
         have A71 := Aside0.mk A710
         clear A710
         obtain rfl := Option.some.inj H
         go_wp2_with (first | ((with_reducible refine gate_callee (f := 19) rfl ?_); refine goesL_ (some 112) rfl rfl Try.func19 (by kernel_rfl) rfl #[] rfl (by (try simp only [List.map_toArray, List.map_cons, List.map_nil]); first | done | rfl | (simp only [List.length_drop, List.length_take]; rfl)) ?_; (with_reducible refine (lecternlaw14_wakes.calls kj14  t327 _ A71.out).mono ?_); rintro e w72 ⟨rfl, hb⟩; refine ⟨_, rfl, ?_⟩; have n0_ := Aside0.mk (blk_below (g := gb296) (o := .cells #[.slice A0_0 l0_0.length c0_0, .slice A0_1 l0_1.length c0_1] 25 (0, 0)) (by (with_reducible repeat (first | refine blk_drewN ?_ _ | refine blk_drew ?_ | refine blk_alloc ?_ _)); exact BK296.out) hb); have n1_ := Aside0.mk (below_step (by repeat (first | (with_reducible first | exact HB.out | apply below_alloc | apply pw_below_drewN | apply below_drew1 | refine below_set ?_ GE296.out) | exact HB.out)) hb); clear BK296; clear HB; have BK296 := n0_; have HB := n1_; clear n0_ n1_; (try clear hb); (try clear hb2); (try clear hk); (try clear hi)))
         go_ret
         exact ⟨by first | rfl | (simp [errW_none, errW_some] <;> rfl) | (simp [*, errW_none, errW_some] <;> rfl), by repeat (first | (with_reducible first | exact HB.out | apply below_alloc | apply pw_below_drewN | apply below_drew1 | refine below_set ?_ GE296.out) | exact HB.out)⟩

end Go.Proofs.Ytcacckaonjnmjaa.S
