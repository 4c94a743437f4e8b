/- Sessions that may be: May of the program and May of the reference answer alike. -/
import Derived.Test.YtpeldaogdeefeaaGreatMHPur
import Derived.Test.YtpeldaogdeefeaaGreatMG2
import Derived.Test.YtpeldaogdeefeaaGreatMG3
import Derived.Test.YtpeldaogdeefeaaGreatMx0
import Derived.Test.YtpeldaogdeefeaaGreatMx51
namespace Go.Proofs.YtpeldaogdeefeaaGreat.M
open Go.RowKit Go.Proofs.YtpeldaogdeefeaaGreatW.PrintWords Go.Proofs.YtpeldaogdeefeaaGreatW.PrintLast Go.Proofs.YtpeldaogdeefeaaGreatW.PrintMore
set_option linter.unusedVariables false
set_option linter.unusedSimpArgs false
/-! ### numbers, replies -/
def numB (n m : Int) : Bool := decide (m ≤ n ∧ n < 1099511627776)
theorem id_f (a : Int) : lecternref14_id.f a = some (numB a 1) := by
  unfold lecternref14_id.f numB
  by_cases h : a ≥ 1
  · rw [if_pos h]; simp [h]
  · rw [if_neg h]; simp [h]
theorem Num_f (a : Int) : lecternref0_Num.f a = some (numB a 0) := by
  unfold lecternref0_Num.f numB
  by_cases h : a ≥ 0
  · rw [if_pos h]; simp [h]
  · rw [if_neg h]; simp [h]
theorem Number_f (a m : Int) : session_Number.f a m = some (numB a m) := by
  unfold session_Number.f numB
  by_cases h : a ≥ m
  · rw [if_pos h]; simp [h]
  · rw [if_neg h]; simp [h]
def replyB (a b : Int) (l : List S53) : Bool := decide (0 ≤ a) && (decide (a ≤ 10) && (numB b 0 && ((l.length : Int) == 0)))
theorem reply_f (a b : Int) (l : List S53) : session_reply.f a b l = some (replyB a b l) := by
  unfold session_reply.f replyB
  rw [Number_f]
  by_cases h : a ≥ 0
  · rw [if_pos h, decide_eq_true h]
    by_cases h2 : a ≤ 10
    · rw [if_pos h2, decide_eq_true h2]
      cases numB b 0 <;> rfl
    · rw [if_neg h2, decide_eq_false h2]; rfl
  · rw [if_neg h, decide_eq_false h]; rfl
theorem MayReply_f (a b : Int) (l : List S53) : lecternref14_MayReply.f a b l = some (replyB a b l) := by
  unfold lecternref14_MayReply.f replyB
  rw [Num_f]
  by_cases h : a ≥ 0
  · rw [if_pos h, decide_eq_true h]
    by_cases h2 : a ≤ 10
    · rw [if_pos h2, decide_eq_true h2]
      cases numB b 0 <;> rfl
    · rw [if_neg h2, decide_eq_false h2]; rfl
  · rw [if_neg h, decide_eq_false h]; rfl
/-! ### May -/
def stepB (l : List S140) (i : Nat) : Bool := numB (rd_T140 l (i : Int)).f0 1 && (numB (rd_T140 l (i : Int)).f1 0 && (numB (rd_T140 l (i : Int)).f3 0 && (replyB (rd_T140 l (i : Int)).f2.f0 (rd_T140 l (i : Int)).f2.f1 (rd_T140 l (i : Int)).f2.f2 && (decide (i = 0) || decide ((rd_T140 l ((i - 1 : Nat) : Int)).f0 < (rd_T140 l (i : Int)).f0)))))
def fromP (l : List S140) (i : Nat) : Prop := ∀ j, i ≤ j → j < l.length → stepB l j = true
def mayP (l : List S140) : Prop := fromP l 0 ∧ l.length ≤ 8
def mayB (l : List S140) : Bool := (List.range l.length).all (stepB l) && decide (l.length ≤ 8)
theorem mayB_iff (l : List S140) : mayB l = true ↔ mayP l := by
  unfold mayB mayP fromP
  rw [Bool.and_eq_true, List.all_eq_true, decide_eq_true_eq]
  exact and_congr ⟨fun h j _ hj => h j (List.mem_range.2 hj), fun h j hj => h j (Nat.zero_le _) (List.mem_range.1 hj)⟩ Iff.rfl
theorem mayB_no {l : List S140} {i : Nat} (hi : i < l.length) (h : stepB l i = false) : mayB l = false :=
  Bool.eq_false_iff.2 fun h2 => by
    have := ((mayB_iff l).1 h2).1 i (Nat.zero_le _) hi
    rw [h] at this
    exact Bool.false_ne_true this
theorem mayB_long {l : List S140} (h : ¬ l.length ≤ 8) : mayB l = false := Bool.eq_false_iff.2 fun h2 => h ((mayB_iff l).1 h2).2
theorem mayB_end {l : List S140} (h : ∀ j, j < l.length → stepB l j = true) (h2 : l.length ≤ 8) : mayB l = true := (mayB_iff l).2 ⟨fun j _ => h j, h2⟩
theorem stepB_is (l : List S140) (i : Nat) {a : S140} (ha : rd_T140 l (i : Int) = a) {b1 b2 b3 b4 b5 : Bool} (h1 : numB a.f0 1 = b1) (h2 : numB a.f1 0 = b2) (h3 : numB a.f3 0 = b3) (h4 : replyB a.f2.f0 a.f2.f1 a.f2.f2 = b4) (h5 : (decide (i = 0) || decide ((rd_T140 l ((i - 1 : Nat) : Int)).f0 < a.f0)) = b5) : stepB l i = (b1 && (b2 && (b3 && (b4 && b5)))) := by
  unfold stepB
  rw [ha, h1, h2, h3, h4, h5]
theorem numB97 (a m : Int) {w0 : World} (x : QB.Later w0) : Calls Tryz.prog 97 #[.int .i64 a, .int .i64 m] x.val fun e w' => e = .returned (.bool (numB a m)) ∧ ∃ y : QB.Later w0, w' = y.val :=
  QB.call ((session_Number.calls a m _ _ (Number_f a m)).mono fun e w' ⟨he, hd⟩ => ⟨he, by obtain ⟨n, rfl⟩ := hd.out; exact pw_below_drewN (Below.refl _ _) n⟩)
theorem numB96 (a : Int) {w0 : World} (x : QB.Later w0) : Calls Tryz.prog 96 #[.int .i64 a] x.val fun e w' => e = .returned (.bool (numB a 1)) ∧ ∃ y : QB.Later w0, w' = y.val :=
  QB.call ((lecternref14_id.calls a _ _ (id_f a)).mono fun e w' ⟨he, hd⟩ => ⟨he, by obtain ⟨n, rfl⟩ := hd.out; exact pw_below_drewN (Below.refl _ _) n⟩)
theorem numB59 (a : Int) {w0 : World} (x : QB.Later w0) : Calls Tryz.prog 59 #[.int .i64 a] x.val fun e w' => e = .returned (.bool (numB a 0)) ∧ ∃ y : QB.Later w0, w' = y.val :=
  QB.call ((lecternref0_Num.calls a _ _ (Num_f a)).mono fun e w' ⟨he, hd⟩ => ⟨he, by obtain ⟨n, rfl⟩ := hd.out; exact pw_below_drewN (Below.refl _ _) n⟩)

def session_May.f (k : Nat) (l : List S140) : Option Bool := if l.length ≤ 1000000000000000 then some (mayB l) else none
set_option maxHeartbeats 8000000 in
set_option maxRecDepth 100000 in
theorem session_May.calls (k : Nat) (A0 : Option Addr) (c0 : Nat) (l0 : List (S140)) (r : Bool) (w : World) (hr0 : Kd.C k140 w A0 l0.length l0) (hc0 : l0.length ≤ c0) (h : session_May.f k l0 = some r) :
    Calls Tryz.prog 128 #[.slice A0 l0.length c0] w fun e w' => e = .returned (.bool r) ∧ Below w.heap.size w w' := by
  have HL : Aside0 (l0.length ≤ 1000000000000000 ∧ mayB l0 = r) := ⟨by
    unfold session_May.f at h
    by_cases hl : l0.length ≤ 1000000000000000
    · rw [if_pos hl] at h; exact ⟨hl, Option.some.inj h⟩
    · rw [if_neg hl] at h; exact absurd h (by simp)⟩
  clear h
  have hu140 := Tryz.underlying140
  have hu70 := Tryz.underlying70
  have HR0 := Aside0.mk hr0
  have HC0 := Aside0.mk hc0
  clear hr0 hc0
  go_enter Tryz.func128, Tryz.ntmps128
  go_wp2
  go_loopg [7] l0.length (fun kq v w' => ∃ i : Nat, Aside0 (i + kq = l0.length) ∧ v = .int .i64 i ∧ Aside0 (∀ j, j < i → stepB l0 j = true) ∧ Aside0 (Below w.heap.size w w'))
  case atStart => exact ⟨0, ⟨by omega⟩, rfl, ⟨fun j hj => absurd hj (by omega)⟩, ⟨Below.refl _ _⟩⟩
  case round =>
    skip
    obtain ⟨i, HIK, rfl, HS, HB⟩ := hrel
    by_cases hlt : i < l0.length
    rotate_left
    · have d1 : decide ((i : Int) < (l0.length : Int)) = false := decide_eq_false (by omega)
      have d2 : decide (i < l0.length) = false := decide_eq_false (by omega)
      have HE : Aside0 (mayB l0 = decide (l0.length ≤ 8)) := ⟨by
        by_cases h8 : l0.length ≤ 8
        · rw [decide_eq_true h8]; exact mayB_end (fun j hj => HS.out j (by omega)) h8
        · rw [decide_eq_false h8]; exact mayB_long h8⟩
      clear hlt
      go_wp2
      go_ret
      exact ⟨by rw [← HL.out.2, HE.out]; simp; try omega, HB.out⟩
    have HLT := Aside0.mk hlt
    have d1 : decide ((i : Int) < (l0.length : Int)) = true := decide_eq_true (by omega)
    have d2 : decide (i < l0.length) = true := decide_eq_true hlt
    obtain ⟨ad, A4, c4, eA, k0, k1, k2, k3, k4, k5, hl4, hi4⟩ := at_T140 HR0.out (i : Int) (by omega) (by omega)
    have HRW : Aside0 (IntKind.i64.wrap ((i : Int) + 1) = ((i + 1 : Nat) : Int) ∧ wrap64 ((i : Int) + 1) = ((i + 1 : Nat) : Int)) := ⟨by have h := wrn i (by have := HL.out.1; omega); exact ⟨(i64_w _).trans h, h⟩⟩
    have KP : Aside0 (0 < i → ∃ j : Nat, j = i - 1 ∧ IntKind.i64.wrap ((i : Int) - 1) = (j : Int) ∧ wrap64 ((i : Int) - 1) = (j : Int) ∧ w.cell? (ad.add (j * 6)) = some (.int .i64 (rd_T140 l0 (j : Int)).f0)) := ⟨fun h0 => by
      obtain ⟨ad2, _, _, e2, g0, _⟩ := at_T140 HR0.out ((i - 1 : Nat) : Int) (by omega) (by have := HLT.out; omega)
      rw [eA] at e2
      obtain rfl := Option.some.inj e2
      have h := wrb ((i : Int) - 1) (by omega) (by have := HL.out.1; have := HLT.out; omega)
      have e : (i : Int) - 1 = ((i - 1 : Nat) : Int) := by omega
      rw [Int.toNat_natCast] at g0
      exact ⟨i - 1, rfl, (i64_w _).trans (h.trans e), h.trans e, g0⟩⟩
    rw [Int.toNat_natCast] at k0 k1 k2 k3 k4 k5
    obtain ⟨a, ha⟩ : ∃ a, rd_T140 l0 (i : Int) = a := ⟨_, rfl⟩
    rw [ha] at k0 k1 k2 k3 k4 k5 hl4 hi4
    have HI4 := Aside0.mk (And.intro hl4 hi4)
    have HA := Aside0.mk ha
    subst eA
    have p0 : ((0 : Int) ≤ (i : Int)) = True := eq_true (by omega)
    have q0 : ((i : Int) < (l0.length : Int)) = True := eq_true (by omega)
    clear hl4 hi4 ha hlt
    replace k0 := (HB.out.cell (World.block_lt_of_cell? w _ k0)).trans k0
    replace k1 := (HB.out.cell (World.block_lt_of_cell? w _ k1)).trans k1
    replace k2 := (HB.out.cell (World.block_lt_of_cell? w _ k2)).trans k2
    replace k3 := (HB.out.cell (World.block_lt_of_cell? w _ k3)).trans k3
    replace k4 := (HB.out.cell (World.block_lt_of_cell? w _ k4)).trans k4
    replace k5 := (HB.out.cell (World.block_lt_of_cell? w _ k5)).trans k5
    go_upto_region 4 with (fail)
    have hq := heap_alloc_new wr (.cells #[.int .i64 a.f0, .int .i64 a.f1, .int .i64 a.f2.f0, .int .i64 a.f2.f1, .slice A4 a.f2.f2.length c4, .int .i64 a.f3] 140)
    have hB1 : Below w.heap.size w (wr.alloc (.cells #[.int .i64 a.f0, .int .i64 a.f1, .int .i64 a.f2.f0, .int .i64 a.f2.f1, .slice A4 a.f2.f2.length c4, .int .i64 a.f3] 140)) := below_alloc HB.out _
    obtain ⟨q, hqe⟩ : ∃ b, b = wr.heap.size := ⟨_, rfl⟩
    obtain ⟨w1, hw1⟩ : ∃ z, z = wr.alloc (.cells #[.int .i64 a.f0, .int .i64 a.f1, .int .i64 a.f2.f0, .int .i64 a.f2.f1, .slice A4 a.f2.f2.length c4, .int .i64 a.f3] 140) := ⟨_, rfl⟩
    rw [← hqe, ← hw1] at hq ⊢
    rw [← hw1] at hB1
    have HQ := Aside0.mk hq
    have HB1 := Aside0.mk hB1
    clear hq hB1 hw1 hqe k0 k1 k2 k3 k4 k5
    have x0 : ∀ x : QB.Later w1, x.val.cell? ⟨q, 0, none⟩ = some (.int .i64 a.f0) := fun x => (blk_cell (blk_below HQ.out x.below) 0).trans rfl
    have x1 : ∀ x : QB.Later w1, x.val.cell? ⟨q, 1, none⟩ = some (.int .i64 a.f1) := fun x => (blk_cell (blk_below HQ.out x.below) 1).trans rfl
    have x2 : ∀ x : QB.Later w1, x.val.cell? ⟨q, 2, none⟩ = some (.int .i64 a.f2.f0) := fun x => (blk_cell (blk_below HQ.out x.below) 2).trans rfl
    have x3 : ∀ x : QB.Later w1, x.val.cell? ⟨q, 3, none⟩ = some (.int .i64 a.f2.f1) := fun x => (blk_cell (blk_below HQ.out x.below) 3).trans rfl
    have x4 : ∀ x : QB.Later w1, x.val.cell? ⟨q, 4, none⟩ = some (.slice A4 a.f2.f2.length c4) := fun x => (blk_cell (blk_below HQ.out x.below) 4).trans rfl
    have x5 : ∀ x : QB.Later w1, x.val.cell? ⟨q, 5, none⟩ = some (.int .i64 a.f3) := fun x => (blk_cell (blk_below HQ.out x.below) 5).trans rfl
    have HREP : ∀ x : QB.Later w1, Calls Tryz.prog 134 #[.agg #[.int .i64 a.f2.f0, .int .i64 a.f2.f1, .slice A4 a.f2.f2.length c4]] x.val fun e w' => e = .returned (.bool (replyB a.f2.f0 a.f2.f1 a.f2.f2)) ∧ ∃ y : QB.Later w1, w' = y.val := fun x =>
      QB.call (session_reply.calls a.f2.f0 a.f2.f1 A4 c4 a.f2.f2 _ x.val (Kd.C_below HI4.out.2 (QB.below_trans HB1.out x.below)) HI4.out.1 (reply_f a.f2.f0 a.f2.f1 a.f2.f2))
    replace HREP := Aside0.mk HREP
    cases b1 : numB a.f0 1
    · skip
      (refine QB.region (w0 := w1) (QB.drawn (Below.refl _ _)) (by kernel_rfl) (by kernel_rfl) ?_
       repeat (first | go_big_quiet_step (first | (go_at_call 97; exact numB97 _ _ _) | (go_at_call 134; exact HREP.out _)) | quiet_step (first | (go_at_call 97; exact numB97 _ _ _) | (go_at_call 134; exact HREP.out _)))
       refine wpQuiet_nil ?_
       rintro _ ⟨xq, rfl⟩)
      go_wp2
      go_ret
      exact ⟨congrArg (fun b => Ending.returned (Value.bool b)) ((mayB_no HLT.out ((stepB_is l0 i HA.out b1 rfl rfl rfl rfl).trans (by simp))).symm.trans HL.out.2), QB.below_trans HB1.out xq.below⟩
    cases b2 : numB a.f1 0
    · skip
      (refine QB.region (w0 := w1) (QB.drawn (Below.refl _ _)) (by kernel_rfl) (by kernel_rfl) ?_
       repeat (first | go_big_quiet_step (first | (go_at_call 97; exact numB97 _ _ _) | (go_at_call 134; exact HREP.out _)) | quiet_step (first | (go_at_call 97; exact numB97 _ _ _) | (go_at_call 134; exact HREP.out _)))
       refine wpQuiet_nil ?_
       rintro _ ⟨xq, rfl⟩)
      go_wp2
      go_ret
      exact ⟨congrArg (fun b => Ending.returned (Value.bool b)) ((mayB_no HLT.out ((stepB_is l0 i HA.out b1 b2 rfl rfl rfl).trans (by simp))).symm.trans HL.out.2), QB.below_trans HB1.out xq.below⟩
    cases b3 : numB a.f3 0
    · skip
      (refine QB.region (w0 := w1) (QB.drawn (Below.refl _ _)) (by kernel_rfl) (by kernel_rfl) ?_
       repeat (first | go_big_quiet_step (first | (go_at_call 97; exact numB97 _ _ _) | (go_at_call 134; exact HREP.out _)) | quiet_step (first | (go_at_call 97; exact numB97 _ _ _) | (go_at_call 134; exact HREP.out _)))
       refine wpQuiet_nil ?_
       rintro _ ⟨xq, rfl⟩)
      go_wp2
      go_ret
      exact ⟨congrArg (fun b => Ending.returned (Value.bool b)) ((mayB_no HLT.out ((stepB_is l0 i HA.out b1 b2 b3 rfl rfl).trans (by simp))).symm.trans HL.out.2), QB.below_trans HB1.out xq.below⟩
    cases b4 : replyB a.f2.f0 a.f2.f1 a.f2.f2
    · skip
      (refine QB.region (w0 := w1) (QB.drawn (Below.refl _ _)) (by kernel_rfl) (by kernel_rfl) ?_
       repeat (first | go_big_quiet_step (first | (go_at_call 97; exact numB97 _ _ _) | (go_at_call 134; exact HREP.out _)) | quiet_step (first | (go_at_call 97; exact numB97 _ _ _) | (go_at_call 134; exact HREP.out _)))
       refine wpQuiet_nil ?_
       rintro _ ⟨xq, rfl⟩)
      go_wp2
      go_ret
      exact ⟨congrArg (fun b => Ending.returned (Value.bool b)) ((mayB_no HLT.out ((stepB_is l0 i HA.out b1 b2 b3 b4 rfl).trans (by simp))).symm.trans HL.out.2), QB.below_trans HB1.out xq.below⟩
    by_cases hi0 : 0 < i
    rotate_left
    · have e0 : decide (0 < (i : Int)) = false := decide_eq_false (by omega)
      have e1 : decide (0 < i) = false := decide_eq_false hi0
      have HSI : Aside0 (stepB l0 i = true) := ⟨(stepB_is l0 i HA.out b1 b2 b3 b4 (by rw [decide_eq_true (show i = 0 by omega)]; rfl)).trans rfl⟩
      clear hi0
      (refine QB.region (w0 := w1) (QB.drawn (Below.refl _ _)) (by kernel_rfl) (by kernel_rfl) ?_
       repeat (first | go_big_quiet_step (first | (go_at_call 97; exact numB97 _ _ _) | (go_at_call 134; exact HREP.out _)) | quiet_step (first | (go_at_call 97; exact numB97 _ _ _) | (go_at_call 134; exact HREP.out _)))
       refine wpQuiet_nil ?_
       rintro _ ⟨xq, rfl⟩)
      have w1_ := HRW.out.1
      have w2_ := HRW.out.2
      go_wp2
      clear w1_ w2_
      go_roundg (l0.length - (i + 1))
      case measure => have := HIK.out; have := HLT.out; omega
      case rel => exact ⟨i + 1, ⟨by have := HLT.out; omega⟩, rfl, ⟨fun j hj => by
        rcases Nat.lt_succ_iff_lt_or_eq.1 hj with h | rfl
        · exact HS.out j h
        · exact HSI.out⟩, ⟨QB.below_trans HB1.out xq.below⟩⟩
    obtain ⟨j, hj, ew1, ew2, kj⟩ := KP.out hi0
    have HJ := Aside0.mk hj
    have e0 : decide (0 < (i : Int)) = true := decide_eq_true (by omega)
    have e1 : decide (0 < i) = true := decide_eq_true hi0
    have hjl : j < l0.length := by have := HLT.out; omega
    obtain ⟨c, hc⟩ : ∃ c, (rd_T140 l0 (j : Int)).f0 = c := ⟨_, rfl⟩
    rw [hc] at kj
    have x6 : ∀ x : QB.Later w1, x.val.cell? (ad.add (j * 6)) = some (.int .i64 c) := fun x => ((QB.below_trans HB1.out x.below).cell (World.block_lt_of_cell? w _ kj)).trans kj
    have p1 : ((0 : Int) ≤ (j : Int)) = True := eq_true (by omega)
    have q1 : ((j : Int) < (l0.length : Int)) = True := eq_true (by omega)
    have HI0 := Aside0.mk hi0
    have HCJ := Aside0.mk hc
    have HB5 : Aside0 (∀ b, decide (c < a.f0) = b → (decide (i = 0) || decide ((rd_T140 l0 ((i - 1 : Nat) : Int)).f0 < a.f0)) = b) := ⟨fun b hb => by
      rw [decide_eq_false (show ¬ i = 0 by have := HI0.out; omega), Bool.false_or, ← HJ.out, HCJ.out, hb]⟩
    clear hj kj hi0 hjl hc
    by_cases hca : c < a.f0
    rotate_left
    · have z0 : decide (a.f0 ≤ c) = true := decide_eq_true (by omega)
      have Z := HB5.out false (decide_eq_false hca)
      replace Z := Aside0.mk Z
      clear hca
      (refine QB.region (w0 := w1) (QB.drawn (Below.refl _ _)) (by kernel_rfl) (by kernel_rfl) ?_
       repeat (first | go_big_quiet_step (first | (go_at_call 97; exact numB97 _ _ _) | (go_at_call 134; exact HREP.out _)) | quiet_step (first | (go_at_call 97; exact numB97 _ _ _) | (go_at_call 134; exact HREP.out _)))
       refine wpQuiet_nil ?_
       rintro _ ⟨xq, rfl⟩)
      go_wp2
      go_ret
      exact ⟨congrArg (fun b => Ending.returned (Value.bool b)) ((mayB_no HLT.out ((stepB_is l0 i HA.out b1 b2 b3 b4 Z.out).trans (by simp))).symm.trans HL.out.2), QB.below_trans HB1.out xq.below⟩
    have z0 : decide (a.f0 ≤ c) = false := decide_eq_false (by omega)
    have HSI : Aside0 (stepB l0 i = true) := ⟨(stepB_is l0 i HA.out b1 b2 b3 b4 (HB5.out true (decide_eq_true hca))).trans rfl⟩
    clear hca
    (refine QB.region (w0 := w1) (QB.drawn (Below.refl _ _)) (by kernel_rfl) (by kernel_rfl) ?_
     repeat (first | go_big_quiet_step (first | (go_at_call 97; exact numB97 _ _ _) | (go_at_call 134; exact HREP.out _)) | quiet_step (first | (go_at_call 97; exact numB97 _ _ _) | (go_at_call 134; exact HREP.out _)))
     refine wpQuiet_nil ?_
     rintro _ ⟨xq, rfl⟩)
    have w1_ := HRW.out.1
    have w2_ := HRW.out.2
    go_wp2
    clear w1_ w2_
    go_roundg (l0.length - (i + 1))
    case measure => have := HIK.out; have := HLT.out; omega
    case rel => exact ⟨i + 1, ⟨by have := HLT.out; omega⟩, rfl, ⟨fun j hj => by
      rcases Nat.lt_succ_iff_lt_or_eq.1 hj with h | rfl
      · exact HS.out j h
      · exact HSI.out⟩, ⟨QB.below_trans HB1.out xq.below⟩⟩
def lecternref14_May.f (k : Nat) (l : List S140) : Option Bool := some (mayB l)
set_option maxHeartbeats 8000000 in
set_option maxRecDepth 100000 in
theorem lecternref14_May.calls (k : Nat) (A0 : Option Addr) (c0 : Nat) (l0 : List (S140)) (r : Bool) (w : World) (hr0 : Kd.C k140 w A0 l0.length l0) (hc0 : l0.length ≤ c0) (h : lecternref14_May.f k l0 = some r) :
    Calls Tryz.prog 93 #[.slice A0 l0.length c0] w fun e w' => e = .returned (.bool r) ∧ Below w.heap.size w w' := by
  have HM : Aside0 (mayB l0 = r) := ⟨Option.some.inj h⟩
  clear h
  have hu140 := Tryz.underlying140
  have hu70 := Tryz.underlying70
  have HR0 := Aside0.mk hr0
  have HC0 := Aside0.mk hc0
  clear hr0 hc0
  by_cases hlen : l0.length ≤ 8
  rotate_left
  · have c1 : decide (8 < (l0.length : Int)) = true := decide_eq_true (by omega)
    have c2 : decide (8 < l0.length) = true := decide_eq_true (by omega)
    have hr : r = false := HM.out.symm.trans (mayB_long hlen)
    clear hlen
    go_enter Tryz.func93, Tryz.ntmps93
    go_wp2
    go_ret
    exact ⟨congrArg (fun b => Ending.returned (Value.bool b)) hr.symm, Below.refl _ _⟩
  have c1 : decide (8 < (l0.length : Int)) = false := decide_eq_false (by omega)
  have c2 : decide (8 < l0.length) = false := decide_eq_false (by omega)
  have HLEN := Aside0.mk hlen
  have HL : Aside0 (l0.length ≤ 1000000000000000 ∧ mayB l0 = r) := ⟨by omega, HM.out⟩
  clear hlen
  go_enter Tryz.func93, Tryz.ntmps93
  go_wp2
  go_loopg [3] l0.length (fun kq v w' => ∃ i : Nat, Aside0 (i + kq = l0.length) ∧ v = .int .i64 i ∧ Aside0 (∀ j, j < i → stepB l0 j = true) ∧ Aside0 (Below w.heap.size w w'))
  case atStart => exact ⟨0, ⟨by omega⟩, rfl, ⟨fun j hj => absurd hj (by omega)⟩, ⟨Below.refl _ _⟩⟩
  case round =>
    clear c1 c2
    obtain ⟨i, HIK, rfl, HS, HB⟩ := hrel
    by_cases hlt : i < l0.length
    rotate_left
    · have d1 : decide ((i : Int) < (l0.length : Int)) = false := decide_eq_false (by omega)
      have d2 : decide (i < l0.length) = false := decide_eq_false (by omega)
      have HE : Aside0 (mayB l0 = true) := ⟨mayB_end (fun j hj => HS.out j (by omega)) HLEN.out⟩
      clear hlt
      go_wp2
      go_ret
      exact ⟨congrArg (fun b => Ending.returned (Value.bool b)) (HE.out.symm.trans HL.out.2), HB.out⟩
    have HLT := Aside0.mk hlt
    have d1 : decide ((i : Int) < (l0.length : Int)) = true := decide_eq_true (by omega)
    have d2 : decide (i < l0.length) = true := decide_eq_true hlt
    obtain ⟨ad, A4, c4, eA, k0, k1, k2, k3, k4, k5, hl4, hi4⟩ := at_T140 HR0.out (i : Int) (by omega) (by omega)
    have HRW : Aside0 (IntKind.i64.wrap ((i : Int) + 1) = ((i + 1 : Nat) : Int) ∧ wrap64 ((i : Int) + 1) = ((i + 1 : Nat) : Int)) := ⟨by have h := wrn i (by have := HL.out.1; omega); exact ⟨(i64_w _).trans h, h⟩⟩
    have KP : Aside0 (0 < i → ∃ j : Nat, j = i - 1 ∧ IntKind.i64.wrap ((i : Int) - 1) = (j : Int) ∧ wrap64 ((i : Int) - 1) = (j : Int) ∧ w.cell? (ad.add (j * 6)) = some (.int .i64 (rd_T140 l0 (j : Int)).f0)) := ⟨fun h0 => by
      obtain ⟨ad2, _, _, e2, g0, _⟩ := at_T140 HR0.out ((i - 1 : Nat) : Int) (by omega) (by have := HLT.out; omega)
      rw [eA] at e2
      obtain rfl := Option.some.inj e2
      have h := wrb ((i : Int) - 1) (by omega) (by have := HL.out.1; have := HLT.out; omega)
      have e : (i : Int) - 1 = ((i - 1 : Nat) : Int) := by omega
      rw [Int.toNat_natCast] at g0
      exact ⟨i - 1, rfl, (i64_w _).trans (h.trans e), h.trans e, g0⟩⟩
    rw [Int.toNat_natCast] at k0 k1 k2 k3 k4 k5
    obtain ⟨a, ha⟩ : ∃ a, rd_T140 l0 (i : Int) = a := ⟨_, rfl⟩
    rw [ha] at k0 k1 k2 k3 k4 k5 hl4 hi4
    have HI4 := Aside0.mk (And.intro hl4 hi4)
    have HA := Aside0.mk ha
    subst eA
    have p0 : ((0 : Int) ≤ (i : Int)) = True := eq_true (by omega)
    have q0 : ((i : Int) < (l0.length : Int)) = True := eq_true (by omega)
    clear hl4 hi4 ha hlt
    go_upto_region 6 with (fail)
    obtain ⟨w1, hw1⟩ : ∃ z, z = wr := ⟨_, rfl⟩
    have HB1 : Aside0 (Below w.heap.size w w1) := ⟨by rw [hw1]; exact HB.out⟩
    rw [← hw1]
    clear hw1
    have KK : Aside0 (∀ {p : Addr} {v : Value}, w.cell? p = some v → ∀ x : QB.Later w1, x.val.cell? p = some v) := ⟨fun h x => ((QB.below_trans HB1.out x.below).cell (World.block_lt_of_cell? w _ h)).trans h⟩
    have x0 := KK.out k0
    have x1 := KK.out k1
    have x2 := KK.out k2
    have x3 := KK.out k3
    have x4 := KK.out k4
    have x5 := KK.out k5
    clear k0 k1 k2 k3 k4 k5
    have HREP : ∀ x : QB.Later w1, Calls Tryz.prog 136 #[.agg #[.int .i64 a.f2.f0, .int .i64 a.f2.f1, .slice A4 a.f2.f2.length c4]] x.val fun e w' => e = .returned (.bool (replyB a.f2.f0 a.f2.f1 a.f2.f2)) ∧ ∃ y : QB.Later w1, w' = y.val := fun x =>
      QB.call (lecternref14_MayReply.calls a.f2.f0 a.f2.f1 A4 c4 a.f2.f2 _ x.val (Kd.C_below HI4.out.2 (QB.below_trans HB1.out x.below)) HI4.out.1 (MayReply_f a.f2.f0 a.f2.f1 a.f2.f2))
    replace HREP := Aside0.mk HREP
    cases b1 : numB a.f0 1
    · skip
      (refine QB.region (w0 := w1) (QB.drawn (Below.refl _ _)) (by kernel_rfl) (by kernel_rfl) ?_
       repeat (first | go_big_quiet_step (first | (go_at_call 96; exact numB96 _ _) | (go_at_call 59; exact numB59 _ _) | (go_at_call 136; exact HREP.out _)) | quiet_step (first | (go_at_call 96; exact numB96 _ _) | (go_at_call 59; exact numB59 _ _) | (go_at_call 136; exact HREP.out _)))
       refine wpQuiet_nil ?_
       rintro _ ⟨xq, rfl⟩)
      go_wp2
      go_ret
      exact ⟨congrArg (fun b => Ending.returned (Value.bool b)) ((mayB_no HLT.out ((stepB_is l0 i HA.out b1 rfl rfl rfl rfl).trans (by simp))).symm.trans HL.out.2), QB.below_trans HB1.out xq.below⟩
    cases b2 : numB a.f1 0
    · skip
      (refine QB.region (w0 := w1) (QB.drawn (Below.refl _ _)) (by kernel_rfl) (by kernel_rfl) ?_
       repeat (first | go_big_quiet_step (first | (go_at_call 96; exact numB96 _ _) | (go_at_call 59; exact numB59 _ _) | (go_at_call 136; exact HREP.out _)) | quiet_step (first | (go_at_call 96; exact numB96 _ _) | (go_at_call 59; exact numB59 _ _) | (go_at_call 136; exact HREP.out _)))
       refine wpQuiet_nil ?_
       rintro _ ⟨xq, rfl⟩)
      go_wp2
      go_ret
      exact ⟨congrArg (fun b => Ending.returned (Value.bool b)) ((mayB_no HLT.out ((stepB_is l0 i HA.out b1 b2 rfl rfl rfl).trans (by simp))).symm.trans HL.out.2), QB.below_trans HB1.out xq.below⟩
    cases b3 : numB a.f3 0
    · skip
      (refine QB.region (w0 := w1) (QB.drawn (Below.refl _ _)) (by kernel_rfl) (by kernel_rfl) ?_
       repeat (first | go_big_quiet_step (first | (go_at_call 96; exact numB96 _ _) | (go_at_call 59; exact numB59 _ _) | (go_at_call 136; exact HREP.out _)) | quiet_step (first | (go_at_call 96; exact numB96 _ _) | (go_at_call 59; exact numB59 _ _) | (go_at_call 136; exact HREP.out _)))
       refine wpQuiet_nil ?_
       rintro _ ⟨xq, rfl⟩)
      go_wp2
      go_ret
      exact ⟨congrArg (fun b => Ending.returned (Value.bool b)) ((mayB_no HLT.out ((stepB_is l0 i HA.out b1 b2 b3 rfl rfl).trans (by simp))).symm.trans HL.out.2), QB.below_trans HB1.out xq.below⟩
    cases b4 : replyB a.f2.f0 a.f2.f1 a.f2.f2
    · skip
      (refine QB.region (w0 := w1) (QB.drawn (Below.refl _ _)) (by kernel_rfl) (by kernel_rfl) ?_
       repeat (first | go_big_quiet_step (first | (go_at_call 96; exact numB96 _ _) | (go_at_call 59; exact numB59 _ _) | (go_at_call 136; exact HREP.out _)) | quiet_step (first | (go_at_call 96; exact numB96 _ _) | (go_at_call 59; exact numB59 _ _) | (go_at_call 136; exact HREP.out _)))
       refine wpQuiet_nil ?_
       rintro _ ⟨xq, rfl⟩)
      go_wp2
      go_ret
      exact ⟨congrArg (fun b => Ending.returned (Value.bool b)) ((mayB_no HLT.out ((stepB_is l0 i HA.out b1 b2 b3 b4 rfl).trans (by simp))).symm.trans HL.out.2), QB.below_trans HB1.out xq.below⟩
    by_cases hi0 : 0 < i
    rotate_left
    · have e0 : decide (0 < (i : Int)) = false := decide_eq_false (by omega)
      have e1 : decide (0 < i) = false := decide_eq_false hi0
      have HSI : Aside0 (stepB l0 i = true) := ⟨(stepB_is l0 i HA.out b1 b2 b3 b4 (by rw [decide_eq_true (show i = 0 by omega)]; rfl)).trans rfl⟩
      clear hi0
      (refine QB.region (w0 := w1) (QB.drawn (Below.refl _ _)) (by kernel_rfl) (by kernel_rfl) ?_
       repeat (first | go_big_quiet_step (first | (go_at_call 96; exact numB96 _ _) | (go_at_call 59; exact numB59 _ _) | (go_at_call 136; exact HREP.out _)) | quiet_step (first | (go_at_call 96; exact numB96 _ _) | (go_at_call 59; exact numB59 _ _) | (go_at_call 136; exact HREP.out _)))
       refine wpQuiet_nil ?_
       rintro _ ⟨xq, rfl⟩)
      have w1_ := HRW.out.1
      have w2_ := HRW.out.2
      go_wp2
      clear w1_ w2_
      go_roundg (l0.length - (i + 1))
      case measure => have := HIK.out; have := HLT.out; omega
      case rel => exact ⟨i + 1, ⟨by have := HLT.out; omega⟩, rfl, ⟨fun j hj => by
        rcases Nat.lt_succ_iff_lt_or_eq.1 hj with h | rfl
        · exact HS.out j h
        · exact HSI.out⟩, ⟨QB.below_trans HB1.out xq.below⟩⟩
    obtain ⟨j, hj, ew1, ew2, kj⟩ := KP.out hi0
    have HJ := Aside0.mk hj
    have e0 : decide (0 < (i : Int)) = true := decide_eq_true (by omega)
    have e1 : decide (0 < i) = true := decide_eq_true hi0
    have hjl : j < l0.length := by have := HLT.out; omega
    obtain ⟨c, hc⟩ : ∃ c, (rd_T140 l0 (j : Int)).f0 = c := ⟨_, rfl⟩
    rw [hc] at kj
    have x6 : ∀ x : QB.Later w1, x.val.cell? (ad.add (j * 6)) = some (.int .i64 c) := fun x => ((QB.below_trans HB1.out x.below).cell (World.block_lt_of_cell? w _ kj)).trans kj
    have p1 : ((0 : Int) ≤ (j : Int)) = True := eq_true (by omega)
    have q1 : ((j : Int) < (l0.length : Int)) = True := eq_true (by omega)
    have HI0 := Aside0.mk hi0
    have HCJ := Aside0.mk hc
    have HB5 : Aside0 (∀ b, decide (c < a.f0) = b → (decide (i = 0) || decide ((rd_T140 l0 ((i - 1 : Nat) : Int)).f0 < a.f0)) = b) := ⟨fun b hb => by
      rw [decide_eq_false (show ¬ i = 0 by have := HI0.out; omega), Bool.false_or, ← HJ.out, HCJ.out, hb]⟩
    clear hj kj hi0 hjl hc
    by_cases hca : c < a.f0
    rotate_left
    · have z0 : decide (a.f0 ≤ c) = true := decide_eq_true (by omega)
      have Z := HB5.out false (decide_eq_false hca)
      replace Z := Aside0.mk Z
      clear hca
      (refine QB.region (w0 := w1) (QB.drawn (Below.refl _ _)) (by kernel_rfl) (by kernel_rfl) ?_
       repeat (first | go_big_quiet_step (first | (go_at_call 96; exact numB96 _ _) | (go_at_call 59; exact numB59 _ _) | (go_at_call 136; exact HREP.out _)) | quiet_step (first | (go_at_call 96; exact numB96 _ _) | (go_at_call 59; exact numB59 _ _) | (go_at_call 136; exact HREP.out _)))
       refine wpQuiet_nil ?_
       rintro _ ⟨xq, rfl⟩)
      go_wp2
      go_ret
      exact ⟨congrArg (fun b => Ending.returned (Value.bool b)) ((mayB_no HLT.out ((stepB_is l0 i HA.out b1 b2 b3 b4 Z.out).trans (by simp))).symm.trans HL.out.2), QB.below_trans HB1.out xq.below⟩
    have z0 : decide (a.f0 ≤ c) = false := decide_eq_false (by omega)
    have HSI : Aside0 (stepB l0 i = true) := ⟨(stepB_is l0 i HA.out b1 b2 b3 b4 (HB5.out true (decide_eq_true hca))).trans rfl⟩
    clear hca
    (refine QB.region (w0 := w1) (QB.drawn (Below.refl _ _)) (by kernel_rfl) (by kernel_rfl) ?_
     repeat (first | go_big_quiet_step (first | (go_at_call 96; exact numB96 _ _) | (go_at_call 59; exact numB59 _ _) | (go_at_call 136; exact HREP.out _)) | quiet_step (first | (go_at_call 96; exact numB96 _ _) | (go_at_call 59; exact numB59 _ _) | (go_at_call 136; exact HREP.out _)))
     refine wpQuiet_nil ?_
     rintro _ ⟨xq, rfl⟩)
    have w1_ := HRW.out.1
    have w2_ := HRW.out.2
    go_wp2
    clear w1_ w2_
    go_roundg (l0.length - (i + 1))
    case measure => have := HIK.out; have := HLT.out; omega
    case rel => exact ⟨i + 1, ⟨by have := HLT.out; omega⟩, rfl, ⟨fun j hj => by
      rcases Nat.lt_succ_iff_lt_or_eq.1 hj with h | rfl
      · exact HS.out j h
      · exact HSI.out⟩, ⟨QB.below_trans HB1.out xq.below⟩⟩
theorem refMay_yes {l : List S140} (h : mayP l) : Ev (fun k => lecternref14_May.f k l) true := (Ev.pure true).of_eq fun k => by unfold lecternref14_May.f; rw [(mayB_iff l).2 h]
theorem may_yes {l : List S140} (h : mayP l) : Ev (fun k => session_May.f k l) true := (Ev.pure true).of_eq fun k => by unfold session_May.f; rw [if_pos (by have := h.2; omega), (mayB_iff l).2 h]
theorem refMay_no {l : List S140} (h : ¬ mayP l) : Ev (fun k => lecternref14_May.f k l) false := (Ev.pure false).of_eq fun k => by unfold lecternref14_May.f; rw [Bool.eq_false_iff.2 (fun h2 => h ((mayB_iff l).1 h2))]
end Go.Proofs.YtpeldaogdeefeaaGreat.M