/- Sessions: rows of one's own (Mx64, MSPureA, Mx58). -/
import Derived.Test.YtpeldaogdeefeaaGreatMG0
import Derived.Test.YtpeldaogdeefeaaGreatMHPur
import Derived.Test.YtpeldaogdeefeaaGreatMMay
import Derived.Test.YtpeldaogdeefeaaGreatMSHand
/-! Mx64 -/
namespace Go.Proofs.YtpeldaogdeefeaaGreat.M
open Go.RowKit Go.Proofs.YtpeldaogdeefeaaGreatW.PrintWords Go.Proofs.YtpeldaogdeefeaaGreatW.PrintLast Go.Proofs.YtpeldaogdeefeaaGreatW.PrintMore
attribute [local go_sem] max2_int min2_int max_two min_two max_three min_three max_four min_four   -- for this text's walks alone
set_option linter.unusedVariables false
set_option linter.unusedSimpArgs false

/-! ### lecternref14_Find: function 138 -/
def lecternref14_Find.l0 : Nat → List (S140) → Int → Int → Option (Int)
  | 0, _, _, _ => none
  | k + 1, x0, x1, x5 => if x5 < (x0.length : Int) then (if 0 ≤ x5 then (if ((rd_T140 x0 x5).f0) = x1 then (some x5) else (lecternref14_Find.l0 k x0 x1 (wrap64 (x5 + 1)))) else (none)) else (some (-1))
def lecternref14_Find.f (k : Nat) (l0 : List (S140)) (a1 : Int) : Option (Int) := lecternref14_Find.l0 k l0 a1 0
set_option maxHeartbeats 8000000 in
set_option maxRecDepth 100000 in
theorem lecternref14_Find.calls (k : Nat) (A0 : Option Addr) (c0 : Nat) (l0 : List (S140)) (a1 : Int) (r : Int) (w : World) (hr0 : Kd.C k140 w A0 l0.length l0) (hc0 : l0.length ≤ c0) (h : lecternref14_Find.f k l0 a1 = some r) :
    Calls Tryz.prog 138 #[.slice A0 l0.length c0, .int .i64 a1] w fun e w' => e = .returned (.int .i64 r) ∧ Drawn0 w w' := by
  have HR0 := Aside0.mk hr0
  have HC0 := Aside0.mk hc0
  clear hr0 hc0
  have H : (lecternref14_Find.l0 k l0 a1 0) = some r := h
  clear h
  have H' := Aside0.mk H
  clear H
  go_enter Tryz.func138, Tryz.ntmps138
  go_wp2
  go_loopg [5] k (fun kq v5 w' => ∃ (x5_1 : Int), v5 = .int .i64 x5_1 ∧ Aside0 (lecternref14_Find.l0 kq l0 a1 x5_1 = some r) ∧ Aside0 (kq ≤ k) ∧ Drawn0 w w')
  case atStart => exact ⟨(0), (by first | rfl | (simp; done) | (simp [*]; done)), H', ⟨Nat.le_refl _⟩, by repeat (first | exact Drawn0.refl _ | apply Drawn0.step)⟩
  case round =>
    clear H'
    try clear c1
    try clear p2
    obtain ⟨x5_1, rfl, HA, HK1, ⟨m1, rfl⟩⟩ := hrel
    cases gk with
    | zero => exact absurd HA.out (by simp [lecternref14_Find.l0])
    | succ k1 =>
      have H := HA.out
      clear HA
      simp only [lecternref14_Find.l0] at H
      by_cases c3 : x5_1 < (l0.length : Int)
      · rw [if_pos c3] at H
        have c3b0 : decide (x5_1 < (l0.length : Int)) = true := decide_eq_true c3
        clear c3
        by_cases c4 : 0 ≤ x5_1
        · rw [if_pos c4] at H
          have c4b0 : decide (0 ≤ x5_1) = true := decide_eq_true c4
          clear c4
          by_cases c5 : ((rd_T140 l0 x5_1).f0) = a1
          · rw [if_pos c5] at H
            have c5b0 : (((rd_T140 l0 x5_1).f0) == a1) = true := beq_iff_eq.mpr c5
            have c5b1 : (((rd_T140 l0 x5_1).f0) != a1) = false := bne_eq_false_iff_eq.mpr c5
            clear c5
            obtain rfl := Option.some.inj H
            have p293 : 0 ≤ (x5_1 : Int) := of_decide_eq_true (by first | (with_reducible assumption) | assumption)
            have q293 : x5_1 < (l0.length : Int) := of_decide_eq_true (by first | (with_reducible assumption) | assumption)
            obtain ⟨ad293, A293_4, c293_4, e293, hx293_0, hx293_1, hx293_2, hx293_3, hx293_4, hx293_5, hl293_4, hi293_4⟩ := at_T140 HR0.out x5_1 p293 q293
            cases e293
            have HR293_4 := Aside0.mk hi293_4
            have HC293_4 := Aside0.mk hl293_4
            clear hi293_4 hl293_4
            replace p293 := eq_true p293
            replace q293 := eq_true q293
            go_wp2
            go_ret
            exact ⟨by first | rfl | (simp; done) | (simp [*]; done), by repeat (first | exact Drawn0.refl _ | apply Drawn0.step)⟩
          · rw [if_neg c5] at H
            have c5b0 : (((rd_T140 l0 x5_1).f0) == a1) = false := beq_eq_false_iff_ne.mpr c5
            have c5b1 : (((rd_T140 l0 x5_1).f0) != a1) = true := bne_iff_ne.mpr c5
            have H' := Aside0.mk H
            clear H
            have p293 : 0 ≤ (x5_1 : Int) := of_decide_eq_true (by first | (with_reducible assumption) | assumption)
            have q293 : x5_1 < (l0.length : Int) := of_decide_eq_true (by first | (with_reducible assumption) | assumption)
            obtain ⟨ad293, A293_4, c293_4, e293, hx293_0, hx293_1, hx293_2, hx293_3, hx293_4, hx293_5, hl293_4, hi293_4⟩ := at_T140 HR0.out x5_1 p293 q293
            cases e293
            have HR293_4 := Aside0.mk hi293_4
            have HC293_4 := Aside0.mk hl293_4
            clear hi293_4 hl293_4
            replace p293 := eq_true p293
            replace q293 := eq_true q293
            go_wp2
            go_roundg k1
            case measure => have := HK1.out; omega
            case rel => exact ⟨(wrap64 (x5_1 + 1)), (by first | rfl | (simp; done) | (simp [*]; done)), H', ⟨by have := HK1.out; omega⟩, by repeat (first | exact Drawn0.refl _ | apply Drawn0.step)⟩
        · rw [if_neg c4] at H
          exact absurd H (by simp)
      · rw [if_neg c3] at H
        have c3b0 : decide (x5_1 < (l0.length : Int)) = false := decide_eq_false c3
        clear c3
        obtain rfl := Option.some.inj H
        go_wp2
        go_ret
        exact ⟨by first | rfl | (simp; done) | (simp [*]; done), by repeat (first | exact Drawn0.refl _ | apply Drawn0.step)⟩

end Go.Proofs.YtpeldaogdeefeaaGreat.M
/-! MSPureA -/
namespace Go.Proofs.YtpeldaogdeefeaaGreat.M
open Go.RowKit Go.Proofs.YtpeldaogdeefeaaGreatW.PrintWords Go.Proofs.YtpeldaogdeefeaaGreatW.PrintLast Go.Proofs.YtpeldaogdeefeaaGreatW.PrintMore
set_option linter.unusedVariables false
set_option linter.unusedSimpArgs false
theorem Ev.and {α β : Type} {f : Nat → Option α} {g : Nat → Option β} {x : α} {y : β} (h1 : Ev f x) (h2 : Ev g y) : ∃ K, ∀ k, K ≤ k → f k = some x ∧ g k = some y := by
  obtain ⟨K1, h1⟩ := h1
  obtain ⟨K2, h2⟩ := h2
  exact ⟨K1 + K2, fun k hk => ⟨h1 k (by omega), h2 k (by omega)⟩⟩
/-! ### what sessions that may be are like -/
theorem replyB_nil {a b : Int} {l : List S53} (h : replyB a b l = true) : l = [] := by
  simp only [replyB, Bool.and_eq_true, beq_iff_eq] at h
  exact List.eq_nil_of_length_eq_zero (by omega)
theorem stepB_parts {l : List S140} {i : Nat} (h : stepB l i = true) : (rd_T140 l (i : Int)).f2.f2 = [] ∧ (i = 0 ∨ (rd_T140 l ((i - 1 : Nat) : Int)).f0 < (rd_T140 l (i : Int)).f0) := by
  simp only [stepB, Bool.and_eq_true, Bool.or_eq_true, decide_eq_true_eq] at h
  exact ⟨replyB_nil h.2.2.2.1, h.2.2.2.2⟩
theorem clr_id {x : S140} (h : x.f2.f2 = []) : clr x = x := by
  obtain ⟨a, b, ⟨c, d, e⟩, f⟩ := x
  obtain rfl : e = [] := h
  rfl
theorem mayP_clr {l : List S140} (h : mayP l) : l.map clr = l := by
  refine List.ext_getElem (List.length_map _) (fun i h1 h2 => ?_)
  rw [List.getElem_map]
  have := (stepB_parts (h.1 i (Nat.zero_le _) h2)).1
  rw [rd88_at l i h2] at this
  exact clr_id this
theorem mayP_rise {l : List S140} (h : mayP l) : riseS l := by
  refine List.pairwise_iff_getElem.2 (fun i j hi hj hij => ?_)
  have key : ∀ d j, j = i + 1 + d → (hj : j < l.length) → l[i].f0 < l[j].f0 := by
    intro d
    induction d with
    | zero =>
      intro j e hj
      subst e
      have := (stepB_parts (h.1 (i + 1) (Nat.zero_le _) hj)).2
      rw [Nat.add_sub_cancel, rd88_at l i hi, rd88_at l (i + 1) hj] at this
      exact this.resolve_left (by omega)
    | succ d ih =>
      intro j e hj
      subst e
      have := (stepB_parts (h.1 (i + 1 + (d + 1)) (Nat.zero_le _) hj)).2
      rw [show i + 1 + (d + 1) - 1 = i + 1 + d by omega, rd88_at l (i + 1 + d) (by omega), rd88_at l (i + 1 + (d + 1)) hj] at this
      have h2 := ih (i + 1 + d) rfl (by omega)
      have h3 := this.resolve_left (by omega)
      omega
  exact key (j - (i + 1)) j (by omega) hj
theorem place_is {l : List S140} (h : riseS l) (a : Int) : PlaceS l a (placeS l a) := by
  have key : ∀ d i, i + d = l.length → (∀ t : Nat, t < i → (rd_T140 l (t : Int)).f0 < a) → ∃ p, PlaceS l a p := by
    intro d
    induction d with
    | zero => intro i e hi; exact ⟨i, by omega, hi, fun t h1 h2 => by omega⟩
    | succ d ih =>
      intro i e hi
      by_cases hc : (rd_T140 l (i : Int)).f0 < a
      · exact ih (i + 1) (by omega) (fun t ht => by
          rcases Nat.lt_succ_iff_lt_or_eq.1 ht with h1 | rfl
          · exact hi t h1
          · exact hc)
      · refine ⟨i, by omega, hi, fun t h1 h2 h3 => ?_⟩
        rcases Nat.eq_or_lt_of_le h1 with rfl | h4
        · exact hc h3
        · have := riseS_at h i t h4 h2
          omega
  obtain ⟨p, hp⟩ := key l.length 0 (by omega) (fun t ht => by omega)
  have := place_count hp
  unfold placeS
  rw [this]
  exact hp
theorem any_iff {l : List S140} (h : riseS l) (a : Int) : l.any (fun x => x.f0 == a) = decide (placeS l a < l.length ∧ (rd_T140 l (placeS l a : Int)).f0 = a) := place_any (place_is h a) h
/-! ### Find -/
theorem find_l0 (l : List S140) (a : Int) (hl : l.length ≤ 1000000) (hr : riseS l) (ha : l.any (fun x => x.f0 == a) = true) : ∀ d i, i + d = placeS l a → Ev (fun k => lecternref14_Find.l0 k l a (i : Int)) (placeS l a : Int)
  | 0, i, hd => by
    have h := any_iff hr a
    rw [ha] at h
    have h := of_decide_eq_true h.symm
    obtain rfl : i = placeS l a := by omega
    refine Ev.step ((Ev.pure _).of_eq fun k => ?_)
    rw [lecternref14_Find.l0, if_pos (by omega), if_pos (by omega), if_pos h.2]
  | d + 1, i, hd => by
    have ih := find_l0 l a hl hr ha d (i + 1) (by omega)
    have h := place_is hr a
    have h2 := h.2.1 i (by omega)
    refine Ev.step (ih.of_eq fun k => ?_)
    rw [lecternref14_Find.l0, if_pos (by have := h.1; omega), if_pos (by omega), if_neg (by omega), wrn i (by have := h.1; omega)]
theorem find_no (l : List S140) (a : Int) (hl : l.length ≤ 1000000) (ha : l.any (fun x => x.f0 == a) = false) : ∀ d i, i + d = l.length → Ev (fun k => lecternref14_Find.l0 k l a (i : Int)) (-1)
  | 0, i, hd => by
    refine Ev.step ((Ev.pure _).of_eq fun k => ?_)
    rw [lecternref14_Find.l0, if_neg (by omega)]
  | d + 1, i, hd => by
    have ih := find_no l a hl ha d (i + 1) (by omega)
    have h2 : ¬ (rd_T140 l (i : Int)).f0 = a := fun he => by
      rw [rd88_at l i (by omega)] at he
      exact List.any_eq_false.1 ha l[i] (List.getElem_mem _) (beq_iff_eq.2 he)
    refine Ev.step (ih.of_eq fun k => ?_)
    rw [lecternref14_Find.l0, if_pos (by omega), if_pos (by omega), if_neg h2, wrn i (by omega)]
def findV (l : List S140) (a : Int) : Int := if l.any (fun x => x.f0 == a) = true then (placeS l a : Int) else -1
theorem sfind_is (l : List S140) (a : Int) (hl : l.length ≤ 1000000) (hr : riseS l) : Ev (fun k => lecternref14_Find.f k l a) (findV l a) := by
  unfold findV lecternref14_Find.f
  by_cases ha : l.any (fun x => x.f0 == a) = true
  · rw [if_pos ha]; exact find_l0 l a hl hr ha (placeS l a) 0 (by omega)
  · rw [if_neg ha]; exact find_no l a hl (Bool.eq_false_iff.2 ha) l.length 0 (by omega)
end Go.Proofs.YtpeldaogdeefeaaGreat.M
/-! Mx58 -/
namespace Go.Proofs.YtpeldaogdeefeaaGreat.M
open Go.RowKit Go.Proofs.YtpeldaogdeefeaaGreatW.PrintWords Go.Proofs.YtpeldaogdeefeaaGreatW.PrintLast Go.Proofs.YtpeldaogdeefeaaGreatW.PrintMore
attribute [local go_sem] max2_int min2_int max_two min_two max_three min_three max_four min_four   -- for this text's walks alone
set_option linter.unusedVariables false
set_option linter.unusedSimpArgs false

/-! ### lecternref0_CopyHits: function 167 -/
def lecternref0_CopyHits.l0 : Nat → List (S53) → List (S53) → Int → Option ((List (S53)))
  | 0, _, _, _ => none
  | k + 1, x0, x3, x4 => if x4 < (x0.length : Int) then (if 0 ≤ x4 then (if x3.length < 5864062014805 then (lecternref0_CopyHits.l0 k x0 (x3 ++ [(⟨(rd_T53 x0 x4).f0, (rd_T53 x0 x4).f1⟩ : S53)]) (wrap64 (x4 + 1))) else (none)) else (none)) else (some x3)
def lecternref0_CopyHits.f (k : Nat) (l0 : List (S53)) : Option ((List (S53))) := lecternref0_CopyHits.l0 k l0 ([] : List (S53)) 0
set_option maxHeartbeats 8000000 in
set_option maxRecDepth 100000 in
theorem lecternref0_CopyHits.calls (k : Nat) (A0 : Option Addr) (c0 : Nat) (l0 : List (S53)) (r : List (S53)) (w : World) (hr0 : Kd.C k53 w A0 l0.length l0) (hc0 : l0.length ≤ c0) (h : lecternref0_CopyHits.f k l0 = some r) :
    Calls Tryz.prog 167 #[.slice A0 l0.length c0] w fun e w' => ∃ v0_ : Value, e = .returned (v0_) ∧ Kd.R k53 53 w' w.heap.size (fun _ => True) v0_ r ∧ Below w.heap.size w w' := by
  have hu53 := Tryz.underlying53
  have HR0 := Aside0.mk hr0
  have HC0 := Aside0.mk hc0
  clear hr0 hc0
  have HB := Aside0.mk (Below.refl w.heap.size w)
  have H : (lecternref0_CopyHits.l0 k l0 ([] : List (S53)) 0) = some r := h
  clear h
  have H' := Aside0.mk H
  clear H
  go_enter Tryz.func167, Tryz.ntmps167
  go_wp2
  go_loopg [3, 4] k (fun kq v3 v4 w' => ∃ (x3_1 : List (S53)) (x4_1 : Int), v4 = .int .i64 x4_1 ∧ Aside0 (lecternref0_CopyHits.l0 kq l0 x3_1 x4_1 = some r) ∧ Aside0 (kq ≤ k) ∧ Aside0 (Kd.R k53 53 w' w.heap.size (fun _ => True) v3 x3_1) ∧ Aside0 (Below w.heap.size w w'))
  case atStart => exact ⟨(([] : List (S53))), (0), (by first | rfl | (simp; done) | (simp [*]; done)), H', ⟨Nat.le_refl _⟩, ⟨by first | exact Kd.R_nil _ _ _ _ _ | exact Kd.N_nil _ _ _ _ _ | exact Kd.V_nil _ _ _ _ _ | exact Kd.Q_nil _ _ _ _ _ | exact Kd.S_nil _ _ _ _ _⟩, ⟨by repeat (first | (with_reducible first | exact HB.out | apply below_alloc | apply pw_below_drewN | apply below_drew1) | exact HB.out)⟩⟩
  case round =>
    clear H'
    try clear c1
    obtain ⟨x3_1, x4_1, rfl, HA, HK1, HO_3, HB⟩ := hrel
    cases gk with
    | zero => exact absurd HA.out (by simp [lecternref0_CopyHits.l0])
    | succ k1 =>
      have H := HA.out
      clear HA
      simp only [lecternref0_CopyHits.l0] at H
      by_cases c2 : x4_1 < (l0.length : Int)
      · rw [if_pos c2] at H
        have c2b0 : decide (x4_1 < (l0.length : Int)) = true := decide_eq_true c2
        clear c2
        by_cases c3 : 0 ≤ x4_1
        · rw [if_pos c3] at H
          have c3b0 : decide (0 ≤ x4_1) = true := decide_eq_true c3
          clear c3
          by_cases c4 : x3_1.length < 5864062014805
          · rw [if_pos c4] at H
            have LMc4 := Aside0.mk c4
            clear c4
            obtain ⟨y251, hy251⟩ : ∃ y_ : List (S53), y_ = (x3_1 ++ [(⟨(rd_T53 l0 x4_1).f0, (rd_T53 l0 x4_1).f1⟩ : S53)]) := ⟨_, rfl⟩
            replace H : (lecternref0_CopyHits.l0 k1 l0 y251 (wrap64 (x4_1 + 1))) = some r := by first | (rw [hy251]; with_reducible exact H) | (have H2_ := (Option.bind_some _ _).symm.trans H; rw [hy251]; with_reducible exact H2_) | (have H2_ := (Option.bind_some _ _).symm.trans H; with_reducible exact H2_) | with_reducible exact H | (rw [hy251]; exact H) | exact H
            have Ny251 := Aside0.mk hy251
            clear hy251
            have H' := Aside0.mk H
            clear H
            have p250 : 0 ≤ (x4_1 : Int) := of_decide_eq_true (by first | (with_reducible assumption) | assumption)
            have q250 : x4_1 < (l0.length : Int) := of_decide_eq_true (by first | (with_reducible assumption) | assumption)
            obtain ⟨ad250, e250, hx250_0, hx250_1⟩ := at_T53 HR0.out x4_1 p250 q250
            cases e250
            replace hx250_0 := (HB.out.cell (World.block_lt_of_cell? w _ hx250_0)).trans hx250_0
            replace hx250_1 := (HB.out.cell (World.block_lt_of_cell? w _ hx250_1)).trans hx250_1
            replace p250 := eq_true p250
            replace q250 := eq_true q250
            go_wp2_with (first | ((with_reducible refine gate_builtin (b := .append) (xs := #[.tmp 11, .tmp 16]) rfl ?_); at_builtin; refine Kd.R_append k53 (w0 := w) w.heap.size rfl (.tmp 11) (.tmp 16) 43 53 (.agg #[(.string ⟨#[]⟩), (.int .i64 0)]) 24 rfl Tryz.underlying43 info53 rfl (by decide) (by omega) u3 x3_1 (⟨(rd_T53 l0 x4_1).f0, (rd_T53 l0 x4_1).f1⟩ : S53) [.string ((rd_T53 l0 x4_1).f0), .int .i64 ((rd_T53 l0 x4_1).f1)] (fun _ => True) (fun _ => False) rfl rfl ?aP (fun _ hk => hk.elim) ?aF ?aO ?aB ?aS ?aL ?_; (case aP => exact k53_mkM _ _ _ (⟨(rd_T53 l0 x4_1).f0, (rd_T53 l0 x4_1).f1⟩ : S53)); (case aB => exact (by repeat (first | (with_reducible first | exact HB.out | apply below_alloc | apply pw_below_drewN | apply below_drew1) | exact HB.out))); (case aF => exact (fun _ _ => trivial)); (case aO => exact (by (with_reducible repeat (first | apply Kd.R_alloc | apply Kd.R_drewN | apply Kd.R_drew)); exact HO_3.out)); (case aS => exact (below_size (by repeat (first | (with_reducible first | exact HB.out | apply below_alloc | apply pw_below_drewN | apply below_drew1) | exact HB.out)))); (case aL => have := LMc4.out; omega); intro v252 w5 ho hb hg hat; rw [← Ny251.out] at ho; have n0_ := Aside0.mk (hb); have n1_ := Aside0.mk (ho); clear HB; clear HO_3; have HB := n0_; have HO253 := n1_; clear n0_ n1_; clear ho hb hg hat))
            go_roundg k1
            case measure => have := HK1.out; omega
            case rel => exact ⟨(y251), (wrap64 (x4_1 + 1)), (by first | rfl | (simp; done) | (simp [*]; done)), H', ⟨by have := HK1.out; omega⟩, ⟨by (with_reducible repeat (first | apply Kd.R_alloc | apply Kd.R_drewN | apply Kd.R_drew)); exact HO253.out⟩, ⟨by repeat (first | (with_reducible first | exact HB.out | apply below_alloc | apply pw_below_drewN | apply below_drew1) | exact HB.out)⟩⟩
          · rw [if_neg c4] at H
            exact absurd H (by simp)
        · rw [if_neg c3] at H
          exact absurd H (by simp)
      · rw [if_neg c2] at H
        have c2b0 : decide (x4_1 < (l0.length : Int)) = false := decide_eq_false c2
        clear c2
        obtain rfl := Option.some.inj H
        go_wp2
        go_ret
        exact ⟨_, by first | rfl | (simp [errW_none, errW_some] <;> rfl) | (simp [*, errW_none, errW_some] <;> rfl), by (with_reducible repeat (first | apply Kd.R_alloc | apply Kd.R_drewN | apply Kd.R_drew)); exact HO_3.out, by repeat (first | (with_reducible first | exact HB.out | apply below_alloc | apply pw_below_drewN | apply below_drew1) | exact HB.out)⟩

end Go.Proofs.YtpeldaogdeefeaaGreat.M
