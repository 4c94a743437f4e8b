-- Written by a program: the kit's printer with changes of this session (NOTES.md).
import Derived.Test.YtcacckaonjnmjaaSx0
import Derived.Test.YtcacckaonjnmjaaSxA
import Derived.Test.YtcacckaonjnmjaaSx5
import Derived.Test.YtcacckaonjnmjaaSx13
import Derived.Test.YtcacckaonjnmjaaSx35
import Derived.Test.YtcacckaonjnmjaaSx37
namespace Go.Proofs.Ytcacckaonjnmjaa.S
open Go.RowKit Go.Proofs.YtcacckaonjnmjaaW.PrintWords Go.Proofs.YtcacckaonjnmjaaW.PrintLast Go.Proofs.YtcacckaonjnmjaaW.PrintMore
attribute [local go_sem] max2_int min2_int max_two min_two max_three min_three max_four min_four   -- for this text's walks alone
set_option linter.unusedVariables false
set_option linter.unusedSimpArgs false

-- shrunk
/-! ### lecternref14_Done: function 29 -/
def lecternref14_Done.j0 : Nat → List (S88) → Int → Int → Int → Bool → Int → Int → List (S116) → Option ((List (S88)) × Int)
 | 0, _, _, _, _, _, _, _, _ => none
 | k + 1, x0, x1, x2, x4, x26, x231000, x231001, x231002 => if x26 = true then (some (([] : List (S88)), 1)) else ((lecternref14_Find.f k x0 x1).bind fun t234 => (if t234 < 0 then (some (([] : List (S88)), 9)) else ((lecternref0_CopySessions.f k x0).bind fun t235 => ((lecternref0_CopyReply.f k x231000 x231001 x231002).bind fun bt238 => (if 0 ≤ t234 then (if t234 < (t235.length : Int) then ((some (t235.set (t234 : Int).toNat (⟨(rd_T88 t235 t234).f0, x2, (⟨(rd_T88 t235 t234).f2.f0, (rd_T88 t235 t234).f2.f1, (rd_T88 t235 t234).f2.f2⟩ : S31), (rd_T88 t235 t234).f3⟩ : S88) : List (S88))).bind fun y243 => ((some (y243.set (t234 : Int).toNat (⟨(rd_T88 y243 t234).f0, (rd_T88 y243 t234).f1, (⟨bt238.1, bt238.2.1, bt238.2.2⟩ : S31), (rd_T88 y243 t234).f3⟩ : S88) : List (S88))).bind fun y244 => (some ((y244.set (t234 : Int).toNat (⟨(rd_T88 y244 t234).f0, (rd_T88 y244 t234).f1, (⟨(rd_T88 y244 t234).f2.f0, (rd_T88 y244 t234).f2.f1, (rd_T88 y244 t234).f2.f2⟩ : S31), x4⟩ : S88)), 0)))) else (none)) else (none))))))
def lecternref14_Done.f (k : Nat) (l0 : List (S88)) (a1 : Int) (a2 : Int) (a3_0 : Int) (a3_1 : Int) (l3_2 : List (S116)) (a4 : Int) : Option ((List (S88)) × Int) := (lecternref14_id.f a2).bind fun t231 => (if t231 = true then ((lecternref14_id.f a4).bind fun t232 => (if t232 = true then ((lecternref14_MayReply.f a3_0 a3_1 l3_2).bind fun t233 => (lecternref14_Done.j0 k l0 a1 a2 a4 (!t233) a3_0 a3_1 l3_2)) else (lecternref14_Done.j0 k l0 a1 a2 a4 true a3_0 a3_1 l3_2))) else (lecternref14_Done.j0 k l0 a1 a2 a4 true a3_0 a3_1 l3_2))
theorem lecternref14_Done.mono_l : ∀ k, (∀ y0 y1 y2 y3 y4 y5 y6 y7, LeO (lecternref14_Done.j0 k y0 y1 y2 y3 y4 y5 y6 y7) (lecternref14_Done.j0 (k + 1) y0 y1 y2 y3 y4 y5 y6 y7))
 | 0 => fun _ _ _ _ _ _ _ _ r h => by simp [lecternref14_Done.j0] at h
 | k + 1 => by
  have ih0 := lecternref14_Done.mono_l k
  ·intro y0 y1 y2 y3 y4 y5 y6 y7
   unfold lecternref14_Done.j0
   repeat' first
   | (with_reducible exact ih0 _ _ _ _ _ _ _ _)
   | (with_reducible exact lecternref0_CopyReply.mono _ _ _ _)
   | (with_reducible exact lecternref0_CopySessions.mono _ _)
   | (with_reducible exact lecternref14_Find.mono _ _ _)
   | (with_reducible exact LeO.refl _)
   | (with_reducible exact LeO.none _)
   | (with_reducible refine LeO.ite ?_ ?_)
   | (with_reducible refine LeO.bind ?_ (fun _ => ?_))
   | exact ih0 _ _ _ _ _ _ _ _
   | exact lecternref0_CopyReply.mono _ _ _ _
   | exact lecternref0_CopySessions.mono _ _
   | exact lecternref14_Find.mono _ _ _
   | exact LeO.none _
   | refine LeO.ite ?_ ?_
   | refine LeO.bind ?_ (fun _ => ?_)
theorem lecternref14_Done.mono : ∀ a0 a1 a2 a3 a4 a5 a6 k, LeO (lecternref14_Done.f k a0 a1 a2 a3 a4 a5 a6) (lecternref14_Done.f (k + 1) a0 a1 a2 a3 a4 a5 a6) := by
 intro a0 a1 a2 a3 a4 a5 a6 k
 have ih0 := lecternref14_Done.mono_l k
 unfold lecternref14_Done.f
 repeat' first
   | (with_reducible exact ih0 _ _ _ _ _ _ _ _)
   | (with_reducible exact lecternref0_CopyReply.mono _ _ _ _)
   | (with_reducible exact lecternref0_CopySessions.mono _ _)
   | (with_reducible exact lecternref14_Find.mono _ _ _)
   | (with_reducible exact LeO.refl _)
   | (with_reducible exact LeO.none _)
   | (with_reducible refine LeO.ite ?_ ?_)
   | (with_reducible refine LeO.bind ?_ (fun _ => ?_))
   | exact ih0 _ _ _ _ _ _ _ _
   | exact lecternref0_CopyReply.mono _ _ _ _
   | exact lecternref0_CopySessions.mono _ _
   | exact lecternref14_Find.mono _ _ _
   | exact LeO.none _
   | refine LeO.ite ?_ ?_
   | refine LeO.bind ?_ (fun _ => ?_)
set_option maxHeartbeats 8000000 in
set_option maxRecDepth 100000 in
theorem lecternref14_Done.calls (k : Nat) (A0 : Option Addr) (c0 : Nat) (l0 : List (S88)) (a1 : Int) (a2 : Int) (a3_0 : Int) (a3_1 : Int) (A3_2 : Option Addr) (c3_2 : Nat) (l3_2 : List (S116)) (a4 : Int) (r1 : List (S88)) (r2 : Int) (w : World) (hr0 : Kd.C k88 w A0 l0.length l0) (hc0 : l0.length ≤ c0) (hr3_2 : Kd.C k116 w A3_2 l3_2.length l3_2) (hc3_2 : l3_2.length ≤ c3_2) (h : lecternref14_Done.f k l0 a1 a2 a3_0 a3_1 l3_2 a4 = some (r1, r2)) :
  Calls Try.prog 29 #[.slice A0 l0.length c0, .int .i64 a1, .int .i64 a2, .agg #[.int .i64 a3_0, .int .i64 a3_1, .slice A3_2 l3_2.length c3_2], .int .i64 a4] w fun e w' => ∃ v0_ : Value, e = .returned (.tuple #[v0_, .int .i64 r2]) ∧ Kd.S k88 88 w' w.heap.size (fun _ => True) v0_ r1 ∧ Below w.heap.size w w' := by
 have hu31 := Try.underlying31
 have HR0 := Aside0.mk hr0
 have HC0 := Aside0.mk hc0
 clear hr0 hc0
 have HR3_2 := Aside0.mk hr3_2
 have HC3_2 := Aside0.mk hc3_2
 clear hr3_2 hc3_2
 have HB := Aside0.mk (Below.refl w.heap.size w)
 have H : ((lecternref14_id.f a2).bind fun t231 => (if t231 = true then ((lecternref14_id.f a4).bind fun t232 => (if t232 = true then ((lecternref14_MayReply.f a3_0 a3_1 l3_2).bind fun t233 => (lecternref14_Done.j0 k l0 a1 a2 a4 (!t233) a3_0 a3_1 l3_2)) else (lecternref14_Done.j0 k l0 a1 a2 a4 true a3_0 a3_1 l3_2))) else (lecternref14_Done.j0 k l0 a1 a2 a4 true a3_0 a3_1 l3_2))) = some (r1, r2) := h
 clear h
 have HC6 := Aside0.mk H
 clear H
 go_enter Try.func29, Try.ntmps29
 go_upto_region 1 with (first | ((with_reducible refine gate_dst (N := 8) rfl ?_); refine box_event ?hg (N := 8) ?hd (cs := #[.int .i64 a3_0, .int .i64 a3_1, .slice A3_2 l3_2.length c3_2]) (t := 31) ?hr ?_; (case hd => rfl); (case hg => rfl); (case hr => first | (go_simp; done) | (go_simp; rfl)); intro gb230 hg w7 hbox hb; have n0_ := Aside0.mk (below_step (by repeat (first | (with_reducible first | exact HB.out | apply below_alloc | apply pw_below_drewN | apply below_drew1) | exact HB.out)) hb); have n1_ := Aside0.mk (hbox); have n2_ := Aside0.mk ((by rw [hg]; exact (below_size (by repeat (first | (with_reducible first | exact HB.out | apply below_alloc | apply pw_below_drewN | apply below_drew1) | exact HB.out))) : w.heap.size ≤ gb230)); have n3_ := Aside0.mk ((by rw [hg]; exact (below_size (by repeat (first | (with_reducible first | exact HB.out | apply below_alloc | apply pw_below_drewN | apply below_drew1) | exact HB.out))) : w.heap.size ≤ gb230)); clear HB; have HB := n0_; have BK230 := n1_; have GW230 := n2_; have GE230 := n3_; clear n0_ n1_ n2_ n3_; clear hb hbox hg))
 (try simp only [Act.put, List.setIfInBounds_toArray, List.set_cons_zero, List.set_cons_succ])
 go_cut [26] (fun v26 wc => ∃ (kq : Nat) (x26_5 : Bool), v26 = .bool x26_5 ∧ Aside0 (lecternref14_Done.j0 kq l0 a1 a2 a4 x26_5 a3_0 a3_1 l3_2 = some (r1, r2)) ∧ Aside0 (kq ≤ k) ∧ Aside0 (wc.heap[gb230]? = some (.cells #[.int .i64 a3_0, .int .i64 a3_1, (.slice A3_2 l3_2.length c3_2)] 31 (0, 0))) ∧ Aside0 (Below w.heap.size w wc))
 case first =>
  have H := HC6.out
  clear HC6
  replace H := Option.bind_eq_some_iff.mp H
  obtain ⟨t231, A80, H⟩ := H
  replace H : (if t231 = true then ((lecternref14_id.f a4).bind fun t232 => (if t232 = true then ((lecternref14_MayReply.f a3_0 a3_1 l3_2).bind fun t233 => (lecternref14_Done.j0 k l0 a1 a2 a4 (!t233) a3_0 a3_1 l3_2)) else (lecternref14_Done.j0 k l0 a1 a2 a4 true a3_0 a3_1 l3_2))) else (lecternref14_Done.j0 k l0 a1 a2 a4 true a3_0 a3_1 l3_2)) = some (r1, r2) := H
  have A8 := Aside0.mk A80
  clear A80
  by_cases c9 : t231 = true
  ·subst c9
   have H1 : ((lecternref14_id.f a4).bind fun t232 => (if t232 = true then ((lecternref14_MayReply.f a3_0 a3_1 l3_2).bind fun t233 => (lecternref14_Done.j0 k l0 a1 a2 a4 (!t233) a3_0 a3_1 l3_2)) else (lecternref14_Done.j0 k l0 a1 a2 a4 true a3_0 a3_1 l3_2))) = some (r1, r2) := by rw [if_pos rfl] at H; exact H
   clear H
   have H := H1
   clear H1
   replace H := Option.bind_eq_some_iff.mp H
   obtain ⟨t232, A100, H⟩ := H
   replace H : (if t232 = true then ((lecternref14_MayReply.f a3_0 a3_1 l3_2).bind fun t233 => (lecternref14_Done.j0 k l0 a1 a2 a4 (!t233) a3_0 a3_1 l3_2)) else (lecternref14_Done.j0 k l0 a1 a2 a4 true a3_0 a3_1 l3_2)) = some (r1, r2) := H
   have A10 := Aside0.mk A100
   clear A100
   by_cases c11 : t232 = true
   ·subst c11
    have H1 : ((lecternref14_MayReply.f a3_0 a3_1 l3_2).bind fun t233 => (lecternref14_Done.j0 k l0 a1 a2 a4 (!t233) a3_0 a3_1 l3_2)) = some (r1, r2) := by rw [if_pos rfl] at H; exact H
    clear H
    have H := H1
    clear H1
    replace H := Option.bind_eq_some_iff.mp H
    obtain ⟨t233, A120, H⟩ := H
    replace H : (lecternref14_Done.j0 k l0 a1 a2 a4 (!t233) a3_0 a3_1 l3_2) = some (r1, r2) := H
    have A12 := Aside0.mk A120
    clear A120
    have H' := Aside0.mk H
    clear H
    go_wp2_with (first | ((with_reducible refine gate_callee (f := 54) rfl ?_); refine goesL_ (some 15) rfl rfl Try.func54 (by kernel_rfl) rfl #[.int .i64 a2] rfl (by (try simp only [List.map_toArray, List.map_cons, List.map_nil]); first | done | rfl | (simp only [List.length_drop, List.length_take]; rfl)) ?_; (with_reducible refine (lecternref14_id.calls a2 true _ A8.out).mono ?_); rintro e w' ⟨rfl, ⟨nd, rfl⟩⟩; refine ⟨_, rfl, ?_⟩) | (go_at_call 54; (with_reducible refine (lecternref14_id.calls a4 true _ A10.out).mono ?_); rintro e w' ⟨rfl, ⟨nd, rfl⟩⟩; have hcz13_0 : w7.cell? ⟨gb230, 0, none⟩ = some (.int .i64 a3_0) := (blk_cell BK230.out 0).trans rfl; have hcz13_1 : w7.cell? ⟨gb230, 1, none⟩ = some (.int .i64 a3_1) := (blk_cell BK230.out 1).trans rfl; have hcz13_2 : w7.cell? ⟨gb230, 2, none⟩ = some (.slice A3_2 l3_2.length c3_2) := (blk_cell BK230.out 2).trans rfl; have hfz13_0 := blk_frozen BK230.out 0; have hfz13_1 := blk_frozen BK230.out 1; have hfz13_2 := blk_frozen BK230.out 2) | (go_at_call 56; (with_reducible refine (lecternref14_MayReply.calls a3_0 a3_1 _ _ l3_2 t233 _ ?side1 ?side2 A12.out).mono ?_); (case side1 => repeat (first | exact (Kd.C_below HR3_2.out (by repeat (first | (with_reducible first | exact HB.out | apply below_alloc | apply pw_below_drewN | apply below_drew1 | refine below_set ?_ GE230.out) | exact HB.out))) | (with_reducible refine Kd.C_alloc ?_ _) | (with_reducible refine Kd.C_drewN ?_ _) | (with_reducible refine Kd.C_drew ?_))); (case side2 => exact HC3_2.out); rintro e w14 ⟨rfl, hb⟩; have n0_ := Aside0.mk (blk_below (g := gb230) (o := .cells #[.int .i64 a3_0, .int .i64 a3_1, .slice A3_2 l3_2.length c3_2] 31 (0, 0)) (by (with_reducible repeat (first | refine blk_drewN ?_ _ | refine blk_drew ?_ | refine blk_alloc ?_ _)); exact BK230.out) hb); have n1_ := Aside0.mk (below_step (by repeat (first | (with_reducible first | exact HB.out | apply below_alloc | apply pw_below_drewN | apply below_drew1 | refine below_set ?_ GE230.out) | exact HB.out)) hb); clear BK230; clear HB; have BK230 := n0_; have HB := n1_; clear n0_ n1_; (try clear hb); (try clear hb2); (try clear hk); (try clear hi)))
    go_meet
    case rel => exact ⟨_, (!t233), (by first | rfl | (simp; done) | (simp [*]; done)), H', ⟨by first | omega | exact Nat.le_refl _⟩, ⟨by (with_reducible repeat (first | refine blk_drewN ?_ _ | refine blk_drew ?_ | refine blk_alloc ?_ _)); exact BK230.out⟩, ⟨by repeat (first | (with_reducible first | exact HB.out | apply below_alloc | apply pw_below_drewN | apply below_drew1 | refine below_set ?_ GE230.out) | exact HB.out)⟩⟩
   ·replace c11 := Bool.eq_false_iff.mpr c11
    subst c11
    have H1 : (lecternref14_Done.j0 k l0 a1 a2 a4 true a3_0 a3_1 l3_2) = some (r1, r2) := by rw [if_neg (show ¬ (false = true) by decide)] at H; exact H
    clear H
    have H := H1
    clear H1
    have H' := Aside0.mk H
    clear H
    go_wp2_with (first | ((with_reducible refine gate_callee (f := 54) rfl ?_); refine goesL_ (some 15) rfl rfl Try.func54 (by kernel_rfl) rfl #[.int .i64 a2] rfl (by (try simp only [List.map_toArray, List.map_cons, List.map_nil]); first | done | rfl | (simp only [List.length_drop, List.length_take]; rfl)) ?_; (with_reducible refine (lecternref14_id.calls a2 true _ A8.out).mono ?_); rintro e w' ⟨rfl, ⟨nd, rfl⟩⟩; refine ⟨_, rfl, ?_⟩) | (go_at_call 54; (with_reducible refine (lecternref14_id.calls a4 false _ A10.out).mono ?_); rintro e w' ⟨rfl, ⟨nd, rfl⟩⟩))
    go_meet
    case rel => exact ⟨_, (true), (by first | rfl | (simp; done) | (simp [*]; done)), H', ⟨by first | omega | exact Nat.le_refl _⟩, ⟨by (with_reducible repeat (first | refine blk_drewN ?_ _ | refine blk_drew ?_ | refine blk_alloc ?_ _)); exact BK230.out⟩, ⟨by repeat (first | (with_reducible first | exact HB.out | apply below_alloc | apply pw_below_drewN | apply below_drew1 | refine below_set ?_ GE230.out) | exact HB.out)⟩⟩
  ·replace c9 := Bool.eq_false_iff.mpr c9
   subst c9
   have H1 : (lecternref14_Done.j0 k l0 a1 a2 a4 true a3_0 a3_1 l3_2) = some (r1, r2) := by rw [if_neg (show ¬ (false = true) by decide)] at H; exact H
   clear H
   have H := H1
   clear H1
   have H' := Aside0.mk H
   clear H
   go_wp2_with (first | ((with_reducible refine gate_callee (f := 54) rfl ?_); refine goesL_ (some 15) rfl rfl Try.func54 (by kernel_rfl) rfl #[.int .i64 a2] rfl (by (try simp only [List.map_toArray, List.map_cons, List.map_nil]); first | done | rfl | (simp only [List.length_drop, List.length_take]; rfl)) ?_; (with_reducible refine (lecternref14_id.calls a2 false _ A8.out).mono ?_); rintro e w' ⟨rfl, ⟨nd, rfl⟩⟩; refine ⟨_, rfl, ?_⟩))
   go_meet
   case rel => exact ⟨_, (true), (by first | rfl | (simp; done) | (simp [*]; done)), H', ⟨by first | omega | exact Nat.le_refl _⟩, ⟨by (with_reducible repeat (first | refine blk_drewN ?_ _ | refine blk_drew ?_ | refine blk_alloc ?_ _)); exact BK230.out⟩, ⟨by repeat (first | (with_reducible first | exact HB.out | apply below_alloc | apply pw_below_drewN | apply below_drew1 | refine below_set ?_ GE230.out) | exact HB.out)⟩⟩
 case rest =>
  clear HC6
  try clear c1
  try clear c2
  try clear p2
  try clear c3
  try clear c5
  try clear c9
  try clear c11
  try clear hcz13_0
  try clear hcz13_1
  try clear hcz13_2
  try clear hfz13_0
  try clear hfz13_1
  try clear hfz13_2
  obtain ⟨kq, x26_5, rfl, HA, HJ5, BK230, HB⟩ := hcut
  cases kq with
  | zero => exact absurd HA.out (by simp [lecternref14_Done.j0])
  | succ kj5 =>
   have H := HA.out
   clear HA
   simp only [lecternref14_Done.j0] at H
   by_cases c15 : x26_5 = true
   ·subst c15
    have H1 : (some (([] : List (S88)), 1)) = some (r1, r2) := by rw [if_pos rfl] at H; exact H
    clear H
    have H := H1
    clear H1
    simp only [Option.some.injEq, Prod.mk.injEq] at H
    obtain ⟨rfl, rfl⟩ := H
    go_wp2
    go_ret2
    exact ⟨_, by first | rfl | (simp [errW_none, errW_some] <;> rfl) | (simp [*, errW_none, errW_some] <;> rfl), by first | exact Kd.S_nil _ _ _ _ _ | exact Kd.N_nil _ _ _ _ _ | exact Kd.V_nil _ _ _ _ _ | exact Kd.Q_nil _ _ _ _ _ | exact Kd.R_nil _ _ _ _ _, by repeat (first | (with_reducible first | exact HB.out | apply below_alloc | apply pw_below_drewN | apply below_drew1 | refine below_set ?_ GE230.out) | exact HB.out)⟩
   ·replace c15 := Bool.eq_false_iff.mpr c15
    subst c15
    have H1 : ((lecternref14_Find.f kj5 l0 a1).bind fun t234 => (if t234 < 0 then (some (([] : List (S88)), 9)) else ((lecternref0_CopySessions.f kj5 l0).bind fun t235 => ((lecternref0_CopyReply.f kj5 a3_0 a3_1 l3_2).bind fun bt238 => (if 0 ≤ t234 then (if t234 < (t235.length : Int) then ((some (t235.set (t234 : Int).toNat (⟨(rd_T88 t235 t234).f0, a2, (⟨(rd_T88 t235 t234).f2.f0, (rd_T88 t235 t234).f2.f1, (rd_T88 t235 t234).f2.f2⟩ : S31), (rd_T88 t235 t234).f3⟩ : S88) : List (S88))).bind fun y243 => ((some (y243.set (t234 : Int).toNat (⟨(rd_T88 y243 t234).f0, (rd_T88 y243 t234).f1, (⟨bt238.1, bt238.2.1, bt238.2.2⟩ : S31), (rd_T88 y243 t234).f3⟩ : S88) : List (S88))).bind fun y244 => (some ((y244.set (t234 : Int).toNat (⟨(rd_T88 y244 t234).f0, (rd_T88 y244 t234).f1, (⟨(rd_T88 y244 t234).f2.f0, (rd_T88 y244 t234).f2.f1, (rd_T88 y244 t234).f2.f2⟩ : S31), a4⟩ : S88)), 0)))) else (none)) else (none)))))) = some (r1, r2) := by rw [if_neg (show ¬ (false = true) by decide)] at H; exact H
    clear H
    have H := H1
    clear H1
    replace H := Option.bind_eq_some_iff.mp H
    obtain ⟨t234, A160, H⟩ := H
    replace H : (if t234 < 0 then (some (([] : List (S88)), 9)) else ((lecternref0_CopySessions.f kj5 l0).bind fun t235 => ((lecternref0_CopyReply.f kj5 a3_0 a3_1 l3_2).bind fun bt238 => (if 0 ≤ t234 then (if t234 < (t235.length : Int) then ((some (t235.set (t234 : Int).toNat (⟨(rd_T88 t235 t234).f0, a2, (⟨(rd_T88 t235 t234).f2.f0, (rd_T88 t235 t234).f2.f1, (rd_T88 t235 t234).f2.f2⟩ : S31), (rd_T88 t235 t234).f3⟩ : S88) : List (S88))).bind fun y243 => ((some (y243.set (t234 : Int).toNat (⟨(rd_T88 y243 t234).f0, (rd_T88 y243 t234).f1, (⟨bt238.1, bt238.2.1, bt238.2.2⟩ : S31), (rd_T88 y243 t234).f3⟩ : S88) : List (S88))).bind fun y244 => (some ((y244.set (t234 : Int).toNat (⟨(rd_T88 y244 t234).f0, (rd_T88 y244 t234).f1, (⟨(rd_T88 y244 t234).f2.f0, (rd_T88 y244 t234).f2.f1, (rd_T88 y244 t234).f2.f2⟩ : S31), a4⟩ : S88)), 0)))) else (none)) else (none))))) = some (r1, r2) := H
    have A16 := Aside0.mk A160
    clear A160
    by_cases c17 : t234 < 0
    ·rw [if_pos c17] at H
     have c17b0 : decide (t234 < 0) = true := decide_eq_true c17
     clear c17
     simp only [Option.some.injEq, Prod.mk.injEq] at H
     obtain ⟨rfl, rfl⟩ := H
     go_wp2_with (first | ((with_reducible refine gate_callee (f := 60) rfl ?_); refine goesL_ (some 29) rfl rfl Try.func60 (by kernel_rfl) rfl #[.slice A0 l0.length c0, .int .i64 a1] rfl (by (try simp only [List.map_toArray, List.map_cons, List.map_nil]); first | done | rfl | (simp only [List.length_drop, List.length_take]; rfl)) ?_; (with_reducible refine (lecternref14_Find.calls kj5 _ _ l0 a1 t234 _ ?side1 ?side2 A16.out).mono ?_); (case side1 => repeat (first | exact (Kd.C_below HR0.out HB.out) | (with_reducible refine Kd.C_alloc ?_ _) | (with_reducible refine Kd.C_drewN ?_ _) | (with_reducible refine Kd.C_drew ?_))); (case side2 => exact HC0.out); rintro e w' ⟨rfl, ⟨nd, rfl⟩⟩; refine ⟨_, rfl, ?_⟩))
     go_ret2
     exact ⟨_, by first | rfl | (simp [errW_none, errW_some] <;> rfl) | (simp [*, errW_none, errW_some] <;> rfl), by first | exact Kd.S_nil _ _ _ _ _ | exact Kd.N_nil _ _ _ _ _ | exact Kd.V_nil _ _ _ _ _ | exact Kd.Q_nil _ _ _ _ _ | exact Kd.R_nil _ _ _ _ _, by repeat (first | (with_reducible first | exact HB.out | apply below_alloc | apply pw_below_drewN | apply below_drew1 | refine below_set ?_ GE230.out) | exact HB.out)⟩
    ·rw [if_neg c17] at H
     have c17b0 : decide (t234 < 0) = false := decide_eq_false c17
     clear c17
     replace H := Option.bind_eq_some_iff.mp H
     obtain ⟨t235, A180, H⟩ := H
     replace H : ((lecternref0_CopyReply.f kj5 a3_0 a3_1 l3_2).bind fun bt238 => (if 0 ≤ t234 then (if t234 < (t235.length : Int) then ((some (t235.set (t234 : Int).toNat (⟨(rd_T88 t235 t234).f0, a2, (⟨(rd_T88 t235 t234).f2.f0, (rd_T88 t235 t234).f2.f1, (rd_T88 t235 t234).f2.f2⟩ : S31), (rd_T88 t235 t234).f3⟩ : S88) : List (S88))).bind fun y243 => ((some (y243.set (t234 : Int).toNat (⟨(rd_T88 y243 t234).f0, (rd_T88 y243 t234).f1, (⟨bt238.1, bt238.2.1, bt238.2.2⟩ : S31), (rd_T88 y243 t234).f3⟩ : S88) : List (S88))).bind fun y244 => (some ((y244.set (t234 : Int).toNat (⟨(rd_T88 y244 t234).f0, (rd_T88 y244 t234).f1, (⟨(rd_T88 y244 t234).f2.f0, (rd_T88 y244 t234).f2.f1, (rd_T88 y244 t234).f2.f2⟩ : S31), a4⟩ : S88)), 0)))) else (none)) else (none))) = some (r1, r2) := H
     have A18 := Aside0.mk A180
     clear A180
     replace H := Option.bind_eq_some_iff.mp H
     obtain ⟨⟨t238, t239, t240⟩, A190, H⟩ := H
     replace H : (if 0 ≤ t234 then (if t234 < (t235.length : Int) then ((some (t235.set (t234 : Int).toNat (⟨(rd_T88 t235 t234).f0, a2, (⟨(rd_T88 t235 t234).f2.f0, (rd_T88 t235 t234).f2.f1, (rd_T88 t235 t234).f2.f2⟩ : S31), (rd_T88 t235 t234).f3⟩ : S88) : List (S88))).bind fun y243 => ((some (y243.set (t234 : Int).toNat (⟨(rd_T88 y243 t234).f0, (rd_T88 y243 t234).f1, (⟨t238, t239, t240⟩ : S31), (rd_T88 y243 t234).f3⟩ : S88) : List (S88))).bind fun y244 => (some ((y244.set (t234 : Int).toNat (⟨(rd_T88 y244 t234).f0, (rd_T88 y244 t234).f1, (⟨(rd_T88 y244 t234).f2.f0, (rd_T88 y244 t234).f2.f1, (rd_T88 y244 t234).f2.f2⟩ : S31), a4⟩ : S88)), 0)))) else (none)) else (none)) = some (r1, r2) := H
     have A19 := Aside0.mk A190
     clear A190
     by_cases c20 : 0 ≤ t234
     ·rw [if_pos c20] at H
      have c20b0 : decide (0 ≤ t234) = true := decide_eq_true c20
      clear c20
      by_cases c21 : t234 < (t235.length : Int)
      ·rw [if_pos c21] at H
       have c21b0 : decide (t234 < (t235.length : Int)) = true := decide_eq_true c21
       clear c21
       obtain ⟨y243, hy243⟩ : ∃ y_ : List (S88), y_ = (t235.set (t234 : Int).toNat (⟨(rd_T88 t235 t234).f0, a2, (⟨(rd_T88 t235 t234).f2.f0, (rd_T88 t235 t234).f2.f1, (rd_T88 t235 t234).f2.f2⟩ : S31), (rd_T88 t235 t234).f3⟩ : S88)) := ⟨_, rfl⟩
       replace H : ((some (y243.set (t234 : Int).toNat (⟨(rd_T88 y243 t234).f0, (rd_T88 y243 t234).f1, (⟨t238, t239, t240⟩ : S31), (rd_T88 y243 t234).f3⟩ : S88) : List (S88))).bind fun y244 => (some ((y244.set (t234 : Int).toNat (⟨(rd_T88 y244 t234).f0, (rd_T88 y244 t234).f1, (⟨(rd_T88 y244 t234).f2.f0, (rd_T88 y244 t234).f2.f1, (rd_T88 y244 t234).f2.f2⟩ : S31), a4⟩ : S88)), 0))) = some (r1, r2) := by first | (rw [hy243]; with_reducible exact H) | (have H2_ := (Option.bind_some _ _).symm.trans H; rw [hy243]; with_reducible exact H2_) | (have H2_ := (Option.bind_some _ _).symm.trans H; with_reducible exact H2_) | with_reducible exact H | (rw [hy243]; exact H) | exact H
       have Ny243 := Aside0.mk hy243
       clear hy243
       obtain ⟨y244, hy244⟩ : ∃ y_ : List (S88), y_ = (y243.set (t234 : Int).toNat (⟨(rd_T88 y243 t234).f0, (rd_T88 y243 t234).f1, (⟨t238, t239, t240⟩ : S31), (rd_T88 y243 t234).f3⟩ : S88)) := ⟨_, rfl⟩
       replace H : (some ((y244.set (t234 : Int).toNat (⟨(rd_T88 y244 t234).f0, (rd_T88 y244 t234).f1, (⟨(rd_T88 y244 t234).f2.f0, (rd_T88 y244 t234).f2.f1, (rd_T88 y244 t234).f2.f2⟩ : S31), a4⟩ : S88)), 0)) = some (r1, r2) := by first | (rw [hy244]; with_reducible exact H) | (have H2_ := (Option.bind_some _ _).symm.trans H; rw [hy244]; with_reducible exact H2_) | (have H2_ := (Option.bind_some _ _).symm.trans H; with_reducible exact H2_) | with_reducible exact H | (rw [hy244]; exact H) | exact H
       have Ny244 := Aside0.mk hy244
       clear hy244
       obtain ⟨y245, hy245⟩ : ∃ y_ : List (S88), y_ = (y244.set (t234 : Int).toNat (⟨(rd_T88 y244 t234).f0, (rd_T88 y244 t234).f1, (⟨(rd_T88 y244 t234).f2.f0, (rd_T88 y244 t234).f2.f1, (rd_T88 y244 t234).f2.f2⟩ : S31), a4⟩ : S88)) := ⟨_, rfl⟩
       replace H : (some (y245, 0)) = some (r1, r2) := by first | (rw [hy245]; with_reducible exact H) | (have H2_ := (Option.bind_some _ _).symm.trans H; rw [hy245]; with_reducible exact H2_) | (have H2_ := (Option.bind_some _ _).symm.trans H; with_reducible exact H2_) | with_reducible exact H | (rw [hy245]; exact H) | exact H
       have Ny245 := Aside0.mk hy245
       clear hy245
       simp only [Option.some.injEq, Prod.mk.injEq] at H
       obtain ⟨rfl, rfl⟩ := H
       go_wp2_with (first | ((with_reducible refine gate_callee (f := 60) rfl ?_); refine goesL_ (some 29) rfl rfl Try.func60 (by kernel_rfl) rfl #[.slice A0 l0.length c0, .int .i64 a1] rfl (by (try simp only [List.map_toArray, List.map_cons, List.map_nil]); first | done | rfl | (simp only [List.length_drop, List.length_take]; rfl)) ?_; (with_reducible refine (lecternref14_Find.calls kj5 _ _ l0 a1 t234 _ ?side1 ?side2 A16.out).mono ?_); (case side1 => repeat (first | exact (Kd.C_below HR0.out HB.out) | (with_reducible refine Kd.C_alloc ?_ _) | (with_reducible refine Kd.C_drewN ?_ _) | (with_reducible refine Kd.C_drew ?_))); (case side2 => exact HC0.out); rintro e w' ⟨rfl, ⟨nd, rfl⟩⟩; refine ⟨_, rfl, ?_⟩; (try (rw [drewN_self wc]; generalize hq_ : World.drewN wc _ = wc; have n0_ : Aside0 (wc.heap[gb230]? = some (.cells #[.int .i64 a3_0, .int .i64 a3_1, .slice A3_2 l3_2.length c3_2] 31 (0, 0))) := ⟨by rw [← hq_]; exact (by (with_reducible repeat (first | refine blk_drewN ?_ _ | refine blk_drew ?_ | refine blk_alloc ?_ _)); exact BK230.out)⟩; have n1_ : Aside0 (Below w.heap.size w wc) := ⟨by rw [← hq_]; exact (by repeat (first | (with_reducible first | exact HB.out | apply below_alloc | apply pw_below_drewN | apply below_drew1 | refine below_set ?_ GE230.out) | exact HB.out))⟩; clear BK230 HB hq_; have BK230 := n0_; have HB := n1_; clear n0_ n1_))) | ((with_reducible refine gate_callee (f := 26) rfl ?_); refine goesL_ (some 33) rfl rfl Try.func26 (by kernel_rfl) rfl #[.slice A0 l0.length c0] rfl (by (try simp only [List.map_toArray, List.map_cons, List.map_nil]); first | done | rfl | (simp only [List.length_drop, List.length_take]; rfl)) ?_; (with_reducible refine (lecternref0_CopySessions.calls kj5 _ _ l0 t235 _ ?side1 ?side2 A18.out).mono ?_); (case side1 => repeat (first | exact (Kd.C_below HR0.out HB.out) | (with_reducible refine Kd.C_alloc ?_ _) | (with_reducible refine Kd.C_drewN ?_ _) | (with_reducible refine Kd.C_drew ?_))); (case side2 => exact HC0.out); rintro e w25 ⟨v236, rfl, ho0, hb⟩; refine ⟨_, rfl, ?_⟩; have n0_ := Aside0.mk (Kd.S_lower ho0 (below_size (by repeat (first | (with_reducible first | exact HB.out | apply below_alloc | apply pw_below_drewN | apply below_drew1 | refine below_set ?_ GE230.out) | exact HB.out)))); have n1_ := Aside0.mk (blk_below (g := gb230) (o := .cells #[.int .i64 a3_0, .int .i64 a3_1, .slice A3_2 l3_2.length c3_2] 31 (0, 0)) (by (with_reducible repeat (first | refine blk_drewN ?_ _ | refine blk_drew ?_ | refine blk_alloc ?_ _)); exact BK230.out) hb); have n2_ := Aside0.mk (below_step (by repeat (first | (with_reducible first | exact HB.out | apply below_alloc | apply pw_below_drewN | apply below_drew1 | refine below_set ?_ GE230.out) | exact HB.out)) hb); clear BK230; clear HB; have HO237 := n0_; have BK230 := n1_; have HB := n2_; clear n0_ n1_ n2_; (try clear hb); (try clear hb2); (try clear hk); (try clear hi); (try clear ho0); have hcz26_0 : w25.cell? ⟨gb230, 0, none⟩ = some (.int .i64 a3_0) := (blk_cell BK230.out 0).trans rfl; have hcz26_1 : w25.cell? ⟨gb230, 1, none⟩ = some (.int .i64 a3_1) := (blk_cell BK230.out 1).trans rfl; have hcz26_2 : w25.cell? ⟨gb230, 2, none⟩ = some (.slice A3_2 l3_2.length c3_2) := (blk_cell BK230.out 2).trans rfl; have hfz26_0 := blk_frozen BK230.out 0; have hfz26_1 := blk_frozen BK230.out 1; have hfz26_2 := blk_frozen BK230.out 2) | ((with_reducible refine gate_callee (f := 30) rfl ?_); refine goesL_ (some 42) rfl rfl Try.func30 (by kernel_rfl) rfl #[.agg #[.int .i64 a3_0, .int .i64 a3_1, .slice A3_2 l3_2.length c3_2]] rfl (by (try simp only [List.map_toArray, List.map_cons, List.map_nil]); first | done | rfl | (simp only [List.length_drop, List.length_take]; rfl)) ?_; (with_reducible refine (lecternref0_CopyReply.calls kj5 a3_0 a3_1 _ _ l3_2 t238 t239 t240 _ ?side1 ?side2 A19.out).mono ?_); (case side1 => repeat (first | exact (Kd.C_below HR3_2.out HB.out) | (with_reducible refine Kd.C_alloc ?_ _) | (with_reducible refine Kd.C_drewN ?_ _) | (with_reducible refine Kd.C_drew ?_))); (case side2 => exact HC3_2.out); rintro e w27 ⟨v241, rfl, ho0, hb⟩; obtain ⟨A241, c241, rfl⟩ := Kd.R_slice ho0; refine ⟨_, rfl, ?_⟩; have n0_ := Aside0.mk (Kd.S_elder' (by (with_reducible repeat (first | apply Kd.S_alloc | apply Kd.S_drewN | apply Kd.S_drew)); exact HO237.out) (Kd.R_base ho0) hb); have n1_ := Aside0.mk (Kd.R_lower ho0 (below_size (by repeat (first | (with_reducible first | exact HB.out | apply below_alloc | apply pw_below_drewN | apply below_drew1 | refine below_set ?_ GE230.out) | exact HB.out)))); have n2_ := Aside0.mk (blk_below (g := gb230) (o := .cells #[.int .i64 a3_0, .int .i64 a3_1, .slice A3_2 l3_2.length c3_2] 31 (0, 0)) (by (with_reducible repeat (first | refine blk_drewN ?_ _ | refine blk_drew ?_ | refine blk_alloc ?_ _)); exact BK230.out) hb); have n3_ := Aside0.mk (below_step (by repeat (first | (with_reducible first | exact HB.out | apply below_alloc | apply pw_below_drewN | apply below_drew1 | refine below_set ?_ GE230.out) | exact HB.out)) hb); clear HO237; clear BK230; clear HB; have HO237 := n0_; have HO242 := n1_; have BK230 := n2_; have HB := n3_; clear n0_ n1_ n2_ n3_; (try clear hb); (try clear hb2); (try clear hk); (try clear hi); (try clear ho0); have p22 : 0 ≤ (t234 : Int) := of_decide_eq_true (by assumption); have q22 : (t234 : Int) < ((t235.length : Int) : Int) := of_decide_eq_true (by assumption); obtain ⟨go22, co22, eo22, gb22, gl22, cl22, HG22⟩ := Kd.S_form HO237.out (by omega); (first | cases eo22 | (injection eo22 with ea_ en_ ec_; (first | subst ea_ | (injection ea_ with ea_; subst ea_)); subst ec_; clear en_)); have GB22 := Aside0.mk gb22; have GG22 := Aside0.mk HG22; clear gb22 gl22 HG22; obtain ⟨_, ce22, hcl22, hM22, hcc22, hfr22, _, _⟩ := Kd.S_elem HO237.out z88 (t234 : Int) p22 q22; obtain ⟨ve22_4, rfl, ge22_4⟩ := k88_openM hM22; have hx22_0 : w27.cell? ⟨go22, (t234 : Int).toNat * 6, none⟩ = some (.int .i64 ((rd_T88 t235 t234).f0)) := hcc22 0 _ rfl; have hx22_1 : w27.cell? ⟨go22, (t234 : Int).toNat * 6 + 1, none⟩ = some (.int .i64 ((rd_T88 t235 t234).f1)) := hcc22 1 _ rfl; have hx22_2 : w27.cell? ⟨go22, (t234 : Int).toNat * 6 + 2, none⟩ = some (.int .i64 ((rd_T88 t235 t234).f2.f0)) := hcc22 2 _ rfl; have hx22_3 : w27.cell? ⟨go22, (t234 : Int).toNat * 6 + 3, none⟩ = some (.int .i64 ((rd_T88 t235 t234).f2.f1)) := hcc22 3 _ rfl; have hx22_4 : w27.cell? ⟨go22, (t234 : Int).toNat * 6 + 4, none⟩ = some (ve22_4) := hcc22 4 _ rfl; have hx22_5 : w27.cell? ⟨go22, (t234 : Int).toNat * 6 + 5, none⟩ = some (.int .i64 ((rd_T88 t235 t234).f3)) := hcc22 5 _ rfl; have hf22_0 : w27.frozen? ⟨go22, (t234 : Int).toNat * 6, none⟩ = false := hfr22 0; have hf22_1 : w27.frozen? ⟨go22, (t234 : Int).toNat * 6 + 1, none⟩ = false := hfr22 1; have hf22_2 : w27.frozen? ⟨go22, (t234 : Int).toNat * 6 + 2, none⟩ = false := hfr22 2; have hf22_3 : w27.frozen? ⟨go22, (t234 : Int).toNat * 6 + 3, none⟩ = false := hfr22 3; have hf22_4 : w27.frozen? ⟨go22, (t234 : Int).toNat * 6 + 4, none⟩ = false := hfr22 4; have hf22_5 : w27.frozen? ⟨go22, (t234 : Int).toNat * 6 + 5, none⟩ = false := hfr22 5; clear hcl22 hcc22 hfr22 hM22; replace p22 := eq_true p22; replace q22 := eq_true q22; have n_ := Aside0.mk (Kd.S_mono (ok' := (fun k_ => some k_ ≠ ((Value.slice A241 t240.length c241) : Value).ownBlock)) HO237.out (fun k_ hk => hk.2)); clear HO237; have HO237 := n_; clear n_; have HX28 := Aside0.mk (show Kd.S k88 88 w27 w.heap.size (fun k_ => ((fun k_ => some k_ ≠ ((Value.slice A241 t240.length c241) : Value).ownBlock)) k_ ∧ ¬ ((fun _ => False)) k_) (.slice (some ⟨go22, 0, none⟩) t235.length co22) t235 from (by (with_reducible repeat (first | apply Kd.S_alloc | apply Kd.S_drewN | apply Kd.S_drew)); exact Kd.S_mono HO237.out (fun k_ hk => ⟨hk, fun e_ => e_⟩))); obtain ⟨oki28, ce28, hcl28, hM28, hcc28, hfr28, hoki28, hH28⟩ := Kd.S_elem HX28.out z88 (t234 : Int) (of_decide_eq_true (by assumption)) (by have h_ : (t234 : Int) < ((t235.length : Int) : Int) := of_decide_eq_true (by assumption); first | exact h_ | (have e_ := (Kd.S_reads' HO237.out).1; omega) | simpa using h_); obtain ⟨ve28_4, rfl, ge28_4⟩ := k88_openM hM28; have HP28 := Kd.S_seg hH28 (of_decide_eq_true (by assumption)) (by have h_ : (t234 : Int) < ((t235.length : Int) : Int) := of_decide_eq_true (by assumption); first | exact h_ | (have e_ := (Kd.S_reads' HO237.out).1; omega) | simpa using h_) (seg := [.int .i64 a2]) (j := 1) (show 2 ≤ 6 from by decide) (x' := (⟨(rd_T88 t235 t234).f0, a2, (⟨(rd_T88 t235 t234).f2.f0, (rd_T88 t235 t234).f2.f1, (rd_T88 t235 t234).f2.f2⟩ : S31), (rd_T88 t235 t234).f3⟩ : S88)) (k88_mkM _ _ _ (⟨(rd_T88 t235 t234).f0, a2, (⟨(rd_T88 t235 t234).f2.f0, (rd_T88 t235 t234).f2.f1, (rd_T88 t235 t234).f2.f2⟩ : S31), (rd_T88 t235 t234).f3⟩ : S88) (Kd.R_mono ge28_4 (fun _ h_ => Or.inl h_))) (fun _ hk => hk) (fun k_ hk_ => hk_.elim); have hx28_1 := hcc28 1 _ rfl; (try simp only [show (k88).sz = 6 from rfl, Nat.mul_one, Nat.add_zero] at hx28_1); have hf28_1 := hfr28 1; (try simp only [show (k88).sz = 6 from rfl, Nat.mul_one, Nat.add_zero] at hf28_1); clear hcl28 hcc28 hfr28 hM28 hoki28 hH28) | ((with_reducible refine gate_store (t := 3) (p := 45) rfl ?_); refine store_event (t := 3) (p := 45) (v := ?vo_w29) (w1 := (w27.setCell ⟨go22, (t234 : Int).toNat * 6 + 1, none⟩ (.int .i64 a2))) ?hg ?ho ?hn ?hr ?_; (case ho => rfl); (case hg => rfl); (case hn => rfl); (case hr => first | (go_simp; done) | (go_simp; rfl)); intro w29 hw; have hg : w27.grownBy w29 (some go22) := (by rw [hw]; exact HP28.2); have hp_ : Kd.S k88 88 w29 w.heap.size (fun k_ => some k_ ≠ ((Value.slice A241 t240.length c241) : Value).ownBlock) (.slice (some ⟨go22, 0, none⟩) t235.length co22) y243 := (by rw [hw, Ny243.out]; exact HP28.1); clear HP28; have n0_ := Aside0.mk (blk_grown (g := gb230) (o := .cells #[.int .i64 a3_0, .int .i64 a3_1, .slice A3_2 l3_2.length c3_2] 31 (0, 0)) (by (with_reducible repeat (first | refine blk_drewN ?_ _ | refine blk_drew ?_ | refine blk_alloc ?_ _)); exact BK230.out) hg (Kd.S_ne HO237.out BK230.out (by decide))); have n1_ := Aside0.mk (hp_); have n2_ := Aside0.mk (Kd.R_over' (v := (.slice (some ⟨go22, 0, none⟩) t235.length co22)) (by (with_reducible repeat (first | apply Kd.R_alloc | apply Kd.R_drewN | apply Kd.R_drew)); exact HO242.out) (Kd.S_typed HO237.out) (by decide) hg); have n3_ := Aside0.mk ((by rw [hw]; exact below_set (HB.out) GB22.out : Below w.heap.size w w29)); clear BK230; clear HO237; clear HO242; clear HB; have BK230 := n0_; have HO237 := n1_; have HO242 := n2_; have HB := n3_; clear n0_ n1_ n2_ n3_; clear hg hw hp_; have p23 : 0 ≤ (t234 : Int) := of_decide_eq_true (by assumption); have q23 : (t234 : Int) < ((t235.length : Int) : Int) := of_decide_eq_true (by assumption); obtain ⟨_, ce23, hcl23, hM23, hcc23, hfr23, _, _⟩ := Kd.S_elem HO237.out z88 (t234 : Int) p23 q23; obtain ⟨ve23_4, rfl, ge23_4⟩ := k88_openM hM23; have hx23_0 : w29.cell? ⟨go22, (t234 : Int).toNat * 6, none⟩ = some (.int .i64 ((rd_T88 y243 t234).f0)) := hcc23 0 _ rfl; have hx23_1 : w29.cell? ⟨go22, (t234 : Int).toNat * 6 + 1, none⟩ = some (.int .i64 ((rd_T88 y243 t234).f1)) := hcc23 1 _ rfl; have hx23_2 : w29.cell? ⟨go22, (t234 : Int).toNat * 6 + 2, none⟩ = some (.int .i64 ((rd_T88 y243 t234).f2.f0)) := hcc23 2 _ rfl; have hx23_3 : w29.cell? ⟨go22, (t234 : Int).toNat * 6 + 3, none⟩ = some (.int .i64 ((rd_T88 y243 t234).f2.f1)) := hcc23 3 _ rfl; have hx23_4 : w29.cell? ⟨go22, (t234 : Int).toNat * 6 + 4, none⟩ = some (ve23_4) := hcc23 4 _ rfl; have hx23_5 : w29.cell? ⟨go22, (t234 : Int).toNat * 6 + 5, none⟩ = some (.int .i64 ((rd_T88 y243 t234).f3)) := hcc23 5 _ rfl; have hf23_0 : w29.frozen? ⟨go22, (t234 : Int).toNat * 6, none⟩ = false := hfr23 0; have hf23_1 : w29.frozen? ⟨go22, (t234 : Int).toNat * 6 + 1, none⟩ = false := hfr23 1; have hf23_2 : w29.frozen? ⟨go22, (t234 : Int).toNat * 6 + 2, none⟩ = false := hfr23 2; have hf23_3 : w29.frozen? ⟨go22, (t234 : Int).toNat * 6 + 3, none⟩ = false := hfr23 3; have hf23_4 : w29.frozen? ⟨go22, (t234 : Int).toNat * 6 + 4, none⟩ = false := hfr23 4; have hf23_5 : w29.frozen? ⟨go22, (t234 : Int).toNat * 6 + 5, none⟩ = false := hfr23 5; clear hcl23 hcc23 hfr23 hM23; replace p23 := eq_true p23; replace q23 := eq_true q23; have HX30 := Aside0.mk (show Kd.S k88 88 w29 w.heap.size (fun k_ => ((fun _ => True)) k_ ∧ ¬ ((fun k_ => some k_ = ((Value.slice A241 t240.length c241) : Value).ownBlock)) k_) (.slice (some ⟨go22, 0, none⟩) t235.length co22) y243 from (by (with_reducible repeat (first | apply Kd.S_alloc | apply Kd.S_drewN | apply Kd.S_drew)); exact Kd.S_mono HO237.out (fun k_ hk => ⟨trivial, fun e_ => hk e_⟩))); obtain ⟨oki30, ce30, hcl30, hM30, hcc30, hfr30, hoki30, hH30⟩ := Kd.S_elem HX30.out z88 (t234 : Int) (of_decide_eq_true (by assumption)) (by have h_ : (t234 : Int) < ((t235.length : Int) : Int) := of_decide_eq_true (by assumption); first | exact h_ | (have e_ := (Kd.S_reads' HO237.out).1; omega) | simpa using h_); obtain ⟨ve30_4, rfl, ge30_4⟩ := k88_openM hM30; have HP30 := Kd.S_seg hH30 (of_decide_eq_true (by assumption)) (by have h_ : (t234 : Int) < ((t235.length : Int) : Int) := of_decide_eq_true (by assumption); first | exact h_ | (have e_ := (Kd.S_reads' HO237.out).1; omega) | simpa using h_) (seg := [.int .i64 t238, .int .i64 t239, (Value.slice A241 t240.length c241)]) (j := 2) (show 5 ≤ 6 from by decide) (x' := (⟨(rd_T88 y243 t234).f0, (rd_T88 y243 t234).f1, (⟨t238, t239, t240⟩ : S31), (rd_T88 y243 t234).f3⟩ : S88)) (k88_mkM _ _ _ (⟨(rd_T88 y243 t234).f0, (rd_T88 y243 t234).f1, (⟨t238, t239, t240⟩ : S31), (rd_T88 y243 t234).f3⟩ : S88) (Kd.R_mono (Kd.R_tight rfl (Kd.R_mono (ok' := fun k_ => ((fun _ => True)) k_ ∧ k_ ≠ go22) (Kd.R_apart' (HO242.out) (Kd.S_typed HO237.out) (by decide)) (fun k_ hk => ⟨trivial, fun e_ => (hk.2) (by rw [e_]; rfl)⟩))) (fun _ h_ => Or.inr (h_)))) (fun _ hk => hk) (fun k_ hk_ => ((Kd.R_mono (ok' := fun k_ => ((fun _ => True)) k_ ∧ k_ ≠ go22) (Kd.R_apart' (HO242.out) (Kd.S_typed HO237.out) (by decide)) (fun k_ hk => ⟨trivial, fun e_ => (hk.2) (by rw [e_]; rfl)⟩))).1 k_ hk_.symm); have hx30_2 := hcc30 2 _ rfl; (try simp only [show (k88).sz = 6 from rfl, Nat.mul_one, Nat.add_zero] at hx30_2); have hf30_2 := hfr30 2; (try simp only [show (k88).sz = 6 from rfl, Nat.mul_one, Nat.add_zero] at hf30_2); have hx30_3 := hcc30 3 _ rfl; (try simp only [show (k88).sz = 6 from rfl, Nat.mul_one, Nat.add_zero] at hx30_3); have hf30_3 := hfr30 3; (try simp only [show (k88).sz = 6 from rfl, Nat.mul_one, Nat.add_zero] at hf30_3); have hx30_4 := hcc30 4 _ rfl; (try simp only [show (k88).sz = 6 from rfl, Nat.mul_one, Nat.add_zero] at hx30_4); have hf30_4 := hfr30 4; (try simp only [show (k88).sz = 6 from rfl, Nat.mul_one, Nat.add_zero] at hf30_4); clear hcl30 hcc30 hfr30 hM30 hoki30 hH30) | ((with_reducible refine gate_store (t := 31) (p := 47) rfl ?_); refine store_event (t := 31) (p := 47) (v := ?vo_w31) (w1 := (((w29.setCell ⟨go22, (t234 : Int).toNat * 6 + 2, none⟩ (.int .i64 t238)).setCell ⟨go22, (t234 : Int).toNat * 6 + 3, none⟩ (.int .i64 t239)).setCell ⟨go22, (t234 : Int).toNat * 6 + 4, none⟩ ((Value.slice A241 t240.length c241)))) ?hg ?ho ?hn ?hr ?_; (case ho => rfl); (case hg => rfl); (case hn => rfl); (case hr => first | (go_simp; done) | (go_simp; rfl)); intro w31 hw; have hg : w29.grownBy w31 (some go22) := (by rw [hw]; exact HP30.2); have hp_ : Kd.S k88 88 w31 w.heap.size (fun _ => True) (.slice (some ⟨go22, 0, none⟩) t235.length co22) y244 := (by rw [hw, Ny244.out]; exact HP30.1); clear HP30; have n0_ := Aside0.mk (blk_grown (g := gb230) (o := .cells #[.int .i64 a3_0, .int .i64 a3_1, .slice A3_2 l3_2.length c3_2] 31 (0, 0)) (by (with_reducible repeat (first | refine blk_drewN ?_ _ | refine blk_drew ?_ | refine blk_alloc ?_ _)); exact BK230.out) hg (Kd.S_ne HO237.out BK230.out (by decide))); have n1_ := Aside0.mk (hp_); have n2_ := Aside0.mk ((by rw [hw]; exact below_set (below_set (below_set (HB.out) GB22.out) GB22.out) GB22.out : Below w.heap.size w w31)); clear BK230; clear HO237; clear HB; clear HO242; have BK230 := n0_; have HO237 := n1_; have HB := n2_; clear n0_ n1_ n2_; clear hg hw hp_; have p24 : 0 ≤ (t234 : Int) := of_decide_eq_true (by assumption); have q24 : (t234 : Int) < ((t235.length : Int) : Int) := of_decide_eq_true (by assumption); obtain ⟨_, ce24, hcl24, hM24, hcc24, hfr24, _, _⟩ := Kd.S_elem HO237.out z88 (t234 : Int) p24 q24; obtain ⟨ve24_4, rfl, ge24_4⟩ := k88_openM hM24; have hx24_0 : w31.cell? ⟨go22, (t234 : Int).toNat * 6, none⟩ = some (.int .i64 ((rd_T88 y244 t234).f0)) := hcc24 0 _ rfl; have hx24_1 : w31.cell? ⟨go22, (t234 : Int).toNat * 6 + 1, none⟩ = some (.int .i64 ((rd_T88 y244 t234).f1)) := hcc24 1 _ rfl; have hx24_2 : w31.cell? ⟨go22, (t234 : Int).toNat * 6 + 2, none⟩ = some (.int .i64 ((rd_T88 y244 t234).f2.f0)) := hcc24 2 _ rfl; have hx24_3 : w31.cell? ⟨go22, (t234 : Int).toNat * 6 + 3, none⟩ = some (.int .i64 ((rd_T88 y244 t234).f2.f1)) := hcc24 3 _ rfl; have hx24_4 : w31.cell? ⟨go22, (t234 : Int).toNat * 6 + 4, none⟩ = some (ve24_4) := hcc24 4 _ rfl; have hx24_5 : w31.cell? ⟨go22, (t234 : Int).toNat * 6 + 5, none⟩ = some (.int .i64 ((rd_T88 y244 t234).f3)) := hcc24 5 _ rfl; have hf24_0 : w31.frozen? ⟨go22, (t234 : Int).toNat * 6, none⟩ = false := hfr24 0; have hf24_1 : w31.frozen? ⟨go22, (t234 : Int).toNat * 6 + 1, none⟩ = false := hfr24 1; have hf24_2 : w31.frozen? ⟨go22, (t234 : Int).toNat * 6 + 2, none⟩ = false := hfr24 2; have hf24_3 : w31.frozen? ⟨go22, (t234 : Int).toNat * 6 + 3, none⟩ = false := hfr24 3; have hf24_4 : w31.frozen? ⟨go22, (t234 : Int).toNat * 6 + 4, none⟩ = false := hfr24 4; have hf24_5 : w31.frozen? ⟨go22, (t234 : Int).toNat * 6 + 5, none⟩ = false := hfr24 5; clear hcl24 hcc24 hfr24 hM24; replace p24 := eq_true p24; replace q24 := eq_true q24; have HX32 := Aside0.mk (show Kd.S k88 88 w31 w.heap.size (fun k_ => ((fun _ => True)) k_ ∧ ¬ ((fun _ => False)) k_) (.slice (some ⟨go22, 0, none⟩) t235.length co22) y244 from (by (with_reducible repeat (first | apply Kd.S_alloc | apply Kd.S_drewN | apply Kd.S_drew)); exact Kd.S_mono HO237.out (fun k_ hk => ⟨trivial, fun e_ => e_⟩))); obtain ⟨oki32, ce32, hcl32, hM32, hcc32, hfr32, hoki32, hH32⟩ := Kd.S_elem HX32.out z88 (t234 : Int) (of_decide_eq_true (by assumption)) (by have h_ : (t234 : Int) < ((t235.length : Int) : Int) := of_decide_eq_true (by assumption); first | exact h_ | (have e_ := (Kd.S_reads' HO237.out).1; omega) | simpa using h_); obtain ⟨ve32_4, rfl, ge32_4⟩ := k88_openM hM32; have HP32 := Kd.S_seg hH32 (of_decide_eq_true (by assumption)) (by have h_ : (t234 : Int) < ((t235.length : Int) : Int) := of_decide_eq_true (by assumption); first | exact h_ | (have e_ := (Kd.S_reads' HO237.out).1; omega) | simpa using h_) (seg := [.int .i64 a4]) (j := 5) (show 6 ≤ 6 from by decide) (x' := (⟨(rd_T88 y244 t234).f0, (rd_T88 y244 t234).f1, (⟨(rd_T88 y244 t234).f2.f0, (rd_T88 y244 t234).f2.f1, (rd_T88 y244 t234).f2.f2⟩ : S31), a4⟩ : S88)) (k88_mkM _ _ _ (⟨(rd_T88 y244 t234).f0, (rd_T88 y244 t234).f1, (⟨(rd_T88 y244 t234).f2.f0, (rd_T88 y244 t234).f2.f1, (rd_T88 y244 t234).f2.f2⟩ : S31), a4⟩ : S88) (Kd.R_mono ge32_4 (fun _ h_ => Or.inl h_))) (fun _ hk => hk) (fun k_ hk_ => hk_.elim); have hx32_5 := hcc32 5 _ rfl; (try simp only [show (k88).sz = 6 from rfl, Nat.mul_one, Nat.add_zero] at hx32_5); have hf32_5 := hfr32 5; (try simp only [show (k88).sz = 6 from rfl, Nat.mul_one, Nat.add_zero] at hf32_5); clear hcl32 hcc32 hfr32 hM32 hoki32 hH32) | ((with_reducible refine gate_store (t := 3) (p := 49) rfl ?_); refine store_event (t := 3) (p := 49) (v := ?vo_w33) (w1 := (w31.setCell ⟨go22, (t234 : Int).toNat * 6 + 5, none⟩ (.int .i64 a4))) ?hg ?ho ?hn ?hr ?_; (case ho => rfl); (case hg => rfl); (case hn => rfl); (case hr => first | (go_simp; done) | (go_simp; rfl)); intro w33 hw; have hg : w31.grownBy w33 (some go22) := (by rw [hw]; exact HP32.2); have hp_ : Kd.S k88 88 w33 w.heap.size (fun _ => True) (.slice (some ⟨go22, 0, none⟩) t235.length co22) y245 := (by rw [hw, Ny245.out]; exact HP32.1); clear HP32; have n0_ := Aside0.mk (blk_grown (g := gb230) (o := .cells #[.int .i64 a3_0, .int .i64 a3_1, .slice A3_2 l3_2.length c3_2] 31 (0, 0)) (by (with_reducible repeat (first | refine blk_drewN ?_ _ | refine blk_drew ?_ | refine blk_alloc ?_ _)); exact BK230.out) hg (Kd.S_ne HO237.out BK230.out (by decide))); have n1_ := Aside0.mk (hp_); have n2_ := Aside0.mk ((by rw [hw]; exact below_set (HB.out) GB22.out : Below w.heap.size w w33)); clear BK230; clear HO237; clear HB; have BK230 := n0_; have HO237 := n1_; have HB := n2_; clear n0_ n1_ n2_; clear hg hw hp_))
       go_ret2
       exact ⟨_, by first | rfl | (simp [errW_none, errW_some] <;> rfl) | (simp [*, errW_none, errW_some] <;> rfl), by (with_reducible repeat (first | apply Kd.S_alloc | apply Kd.S_drewN | apply Kd.S_drew)); exact HO237.out, by repeat (first | (with_reducible first | exact HB.out | apply below_alloc | apply pw_below_drewN | apply below_drew1 | refine below_set ?_ GE230.out) | exact HB.out)⟩
      ·rw [if_neg c21] at H
       exact absurd H (by simp)
     ·rw [if_neg c20] at H
      exact absurd H (by simp)

end Go.Proofs.Ytcacckaonjnmjaa.S
