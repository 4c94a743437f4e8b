/- Sessions: rows of one's own (Mx11, MNew, Mx64, MSPureA). -/
import Derived.Test.YtpeldaogdeefeaaGreatMx0
import Derived.Test.YtpeldaogdeefeaaGreatMSHand
import Derived.Test.YtpeldaogdeefeaaGreatMHNew
import Derived.Test.YtpeldaogdeefeaaGreatMCmd
import Derived.Test.YtpeldaogdeefeaaGreatMx10
import Derived.Test.YtpeldaogdeefeaaGreatMHPur
import Derived.Test.YtpeldaogdeefeaaGreatMMay
/-! Mx11 -/
namespace Go.Proofs.YtpeldaogdeefeaaGreat.M
open Go.RowKit Go.Proofs.YtpeldaogdeefeaaGreatW.PrintWords Go.Proofs.YtpeldaogdeefeaaGreatW.PrintLast Go.Proofs.YtpeldaogdeefeaaGreatW.PrintMore
attribute [local go_sem] max2_int min2_int max_two min_two max_three min_three max_four min_four   -- for this text's walks alone
set_option linter.unusedVariables false
set_option linter.unusedSimpArgs false

/-! ### session_Own: function 85 -/
def session_Own.f (l0 : List S140) : Option (List S140) := if l0.length ≤ 1000000 then some (l0.map clr) else none
theorem session_Own.calls (A0 : Option Addr) (c0 : Nat) (l0 : List (S140)) (r : List (S140)) (w : World) (hr0 : Kd.C k140 w A0 l0.length l0) (hc0 : l0.length ≤ c0) (h : session_Own.f l0 = some r) :
    Calls Tryz.prog 85 #[.slice A0 l0.length c0] w fun e w' => ∃ v0_ : Value, e = .returned (v0_) ∧ Kd.S k140 140 w' w.heap.size (fun _ => True) v0_ r ∧ Below w.heap.size w w' := by
  unfold session_Own.f at h
  by_cases hs : l0.length ≤ 1000000
  · rw [if_pos hs] at h
    obtain rfl := Option.some.inj h
    refine (own_calls A0 c0 l0 w hr0 hc0 (by omega)).mono ?_
    rintro e w' ⟨v, rfl, hr, hb⟩
    exact ⟨v, rfl, kF_S hr, hb⟩
  · rw [if_neg hs] at h; cases h

end Go.Proofs.YtpeldaogdeefeaaGreat.M
/-! MNew -/
namespace Go.Proofs.YtpeldaogdeefeaaGreat.M
open Go.Proofs.YtpeldaogdeefeaaGreat.H Go.RowKit Go.Maps Go.Sort Go.Proofs.YtpeldaogdeefeaaGreatW.PrintWords Go.Proofs.YtpeldaogdeefeaaGreatW.PrintLast Go.Proofs.YtpeldaogdeefeaaGreatW.PrintMore Go.Proofs.YtpeldaogdeefeaaGreat.Base
set_option linter.unusedVariables false
set_option linter.unusedSimpArgs false
theorem Shf.lower {w : World} {B B' U g cnt : Nat} {M : List (Bs × Bs)} (h : Shf w B U g cnt M) (hB : B' ≤ B) : Shf w B' U g cnt M := by
  obtain ⟨⟨bt, bf, nt, nf, Dt, Df, h1, h2, h3, h4, h5, h6⟩, a, b, c, d, e, f⟩ := h
  exact ⟨⟨bt, bf, nt, nf, Dt, Df, h1, Nat.le_trans hB h2, h3, Nat.le_trans hB h4, h5, h6⟩, Nat.le_trans hB a, b, c, d, e, f⟩
/-- A machine: a shelf without segments, a number, sessions. -/
structure Mch (w : World) (B U g cnt : Nat) (M : List (Bs × Bs)) (ix : Int) (ss : List S140) : Prop where
  ex : ∃ gs vs, w.heap[g]? = some (.cells #[.pointer (some ⟨gs, 0, none⟩), .int .i64 ix, vs] 132 (0, 0)) ∧ Shf w B U gs cnt M ∧ Kd.S k140 140 w U (fun _ => True) vs ss
  lo : U ≤ g
set_option maxRecDepth 100000 in
set_option maxHeartbeats 1600000 in
theorem mnew_calls (ix : Int) (A1 : Option Addr) (c1 : Nat) (l : List S36) (A2 : Option Addr) (c2 : Nat) (ss : List S140) (w : World) (hC1 : Kd.C k36 w A1 l.length l) (hc1 : l.length ≤ c1) (hC2 : Kd.C k140 w A2 ss.length ss) (hc2 : ss.length ≤ c2) (hok : DocsOk l) (k : Nat) (hmay : machine_May.f k ix l ss = some true) (hss : ss.length ≤ 1000000) :
    Calls Tryz.prog 41 #[.agg #[.int .i64 ix, .slice A1 l.length c1, .slice A2 ss.length c2]] w fun e w' => ∃ g U, e = .returned (.tuple #[.pointer (some ⟨g, 0, none⟩), .int .i64 0]) ∧ Mch w' w.heap.size U g 64 (pairs l) ix (ss.map clr) ∧ Below w.heap.size w w' := by
  have HC1 := Aside0.mk hC1
  have HC2 := Aside0.mk hC2
  have HCC := Aside0.mk (And.intro hc1 hc2)
  have HOK := Aside0.mk hok
  have HMY := Aside0.mk hmay
  have HSS := Aside0.mk hss
  have hu60 := Tryz.underlying60
  have hu132 := Tryz.underlying132
  clear hC1 hC2 hc1 hc2 hok hmay hss
  go_enter Tryz.func41, Tryz.ntmps41
  go_wp2_with fail
  have hq := heap_alloc_new w (.cells #[.int .i64 ix, .slice A1 l.length c1, .slice A2 ss.length c2] 60)
  have hB1 : Below w.heap.size w (w.alloc (.cells #[.int .i64 ix, .slice A1 l.length c1, .slice A2 ss.length c2] 60)) := below_alloc (Below.refl _ _) _
  obtain ⟨q, hqe⟩ : ∃ b, b = w.heap.size := ⟨_, rfl⟩
  obtain ⟨w1, hw1⟩ : ∃ z, z = w.alloc (.cells #[.int .i64 ix, .slice A1 l.length c1, .slice A2 ss.length c2] 60) := ⟨_, rfl⟩
  rw [← hqe, ← hw1] at hq ⊢
  rw [← hw1] at hB1
  have HQ1 := Aside0.mk hq
  have HB1 := Aside0.mk hB1
  clear hq hB1 hw1 hqe
  refine (machine_May.calls k ix A1 c1 l A2 c2 ss true w1 (Kd.C_below HC1.out HB1.out) HCC.out.1 (Kd.C_below HC2.out HB1.out) HCC.out.2 HMY.out).mono ?_
  rintro e w2 ⟨rfl, hb2⟩
  have HB2 : Aside0 (Below w.heap.size w w2) := ⟨below_step HB1.out hb2⟩
  have HQ2 := Aside0.mk (blk_below HQ1.out hb2)
  have x1 : w2.cell? ⟨q, 1, none⟩ = some (.slice A1 l.length c1) := (blk_cell HQ2.out 1).trans rfl
  clear hb2 HQ1 HB1
  go_wp2_with fail
  refine (new_calls A1 c1 l w2 (Kd.C_below HC1.out HB2.out) HCC.out.1 HOK.out).mono ?_
  rintro e w3 ⟨gs, rfl, hs3, hb3⟩
  have HS3 : Aside0 (Shf w3 w.heap.size w3.heap.size gs 64 (pairs l)) := ⟨hs3.lower HB2.out.size⟩
  have HB3 : Aside0 (Below w.heap.size w w3) := ⟨below_step HB2.out hb3⟩
  have HQ3 := Aside0.mk (blk_below HQ2.out hb3)
  clear hs3 hb3 HQ2 HB2 x1
  go_wp2_with fail
  have KP : Aside0 (∀ W, Below w3.heap.size w3 W → W.cell? ⟨q, 0, none⟩ = some (.int .i64 ix) ∧ W.cell? ⟨q, 2, none⟩ = some (.slice A2 ss.length c2)) := ⟨fun W hb => ⟨(blk_cell (blk_below HQ3.out hb) 0).trans rfl, (blk_cell (blk_below HQ3.out hb) 2).trans rfl⟩⟩
  have H85 : Aside0 (∀ W, Below w3.heap.size w3 W → Calls Tryz.prog 85 #[.slice A2 ss.length c2] W fun e w' => ∃ v, e = .returned v ∧ (w'.cell? ⟨q, 0, none⟩ = some (.int .i64 ix) ∧ w'.cell? ⟨q, 2, none⟩ = some (.slice A2 ss.length c2)) ∧ Kd.S k140 140 w' w3.heap.size (fun _ => True) v (ss.map clr) ∧ Below w3.heap.size w3 w') := ⟨fun W hb => by
    refine (session_Own.calls A2 c2 ss (ss.map clr) W (Kd.C_below HC2.out (below_step HB3.out hb)) HCC.out.2 (by unfold session_Own.f; rw [if_pos HSS.out])).mono ?_
    rintro e w' ⟨v, rfl, h1, h2⟩
    exact ⟨v, rfl, KP.out w' (below_step hb h2), Kd.S_lower h1 hb.size, below_step hb h2⟩⟩
  go_region_held3 (fun w' => w'.cell? ⟨q, 0, none⟩ = some (.int .i64 ix) ∧ w'.cell? ⟨q, 2, none⟩ = some (.slice A2 ss.length c2))
    (first | exact (Aside0.out ‹Aside0 (_ ∧ _)›) | exact KP.out _ (by repeat (first | exact Below.refl _ _ | exact (Aside0.out ‹Aside0 (Below _ _ _)›) | apply pw_below_drewN | apply below_drew1 | apply below_alloc)))
    (first
      | (go_at_call 85; refine (H85.out _ (by repeat (first | exact Below.refl _ _ | apply pw_below_drewN | apply below_drew1))).mono ?_; rintro e w6 ⟨v6, rfl, hS6, h1, h2⟩; obtain ⟨A6, c6, rfl⟩ := Kd.R_slice (Kd.S_R h1); have HS6 := Aside0.mk hS6; have HR6 := Aside0.mk h1; have HB6 := Aside0.mk h2; clear hS6 h1 h2))
  go_wp2_with fail
  go_ret2
  have hr6 := HR6.out
  rw [List.length_map] at hr6
  have hb6 := below_alloc (Below.refl w6.heap.size w6) (.cells #[.pointer (some ⟨gs, 0, none⟩), .int .i64 ix, .slice A6 ss.length c6] 132)
  exact ⟨_, w3.heap.size, rfl, ⟨⟨gs, _, heap_alloc_new w6 _, (HS3.out.below HB6.out).below hb6, Kd.S_below hr6 hb6⟩, HB6.out.size⟩, below_step HB3.out (below_step HB6.out hb6)⟩
end Go.Proofs.YtpeldaogdeefeaaGreat.M
/-! Mx64 -/
namespace Go.Proofs.YtpeldaogdeefeaaGreat.M
open Go.RowKit Go.Proofs.YtpeldaogdeefeaaGreatW.PrintWords Go.Proofs.YtpeldaogdeefeaaGreatW.PrintLast Go.Proofs.YtpeldaogdeefeaaGreatW.PrintMore
attribute [local go_sem] max2_int min2_int max_two min_two max_three min_three max_four min_four   -- for this text's walks alone
set_option linter.unusedVariables false
set_option linter.unusedSimpArgs false

/-! ### lecternref14_Find: function 138 -/
def lecternref14_Find.l0 : Nat → List (S140) → Int → Int → Option (Int)
  | 0, _, _, _ => none
  | k + 1, x0, x1, x5 => if x5 < (x0.length : Int) then (if 0 ≤ x5 then (if ((rd_T140 x0 x5).f0) = x1 then (some x5) else (lecternref14_Find.l0 k x0 x1 (wrap64 (x5 + 1)))) else (none)) else (some (-1))
def lecternref14_Find.f (k : Nat) (l0 : List (S140)) (a1 : Int) : Option (Int) := lecternref14_Find.l0 k l0 a1 0
end Go.Proofs.YtpeldaogdeefeaaGreat.M
/-! MSPureA -/
namespace Go.Proofs.YtpeldaogdeefeaaGreat.M
open Go.RowKit Go.Proofs.YtpeldaogdeefeaaGreatW.PrintWords Go.Proofs.YtpeldaogdeefeaaGreatW.PrintLast Go.Proofs.YtpeldaogdeefeaaGreatW.PrintMore
set_option linter.unusedVariables false
set_option linter.unusedSimpArgs false
theorem Ev.and {α β : Type} {f : Nat → Option α} {g : Nat → Option β} {x : α} {y : β} (h1 : Ev f x) (h2 : Ev g y) : ∃ K, ∀ k, K ≤ k → f k = some x ∧ g k = some y := by
  obtain ⟨K1, h1⟩ := h1
  obtain ⟨K2, h2⟩ := h2
  exact ⟨K1 + K2, fun k hk => ⟨h1 k (by omega), h2 k (by omega)⟩⟩
/-! ### what sessions that may be are like -/
theorem replyB_nil {a b : Int} {l : List S53} (h : replyB a b l = true) : l = [] := by
  simp only [replyB, Bool.and_eq_true, beq_iff_eq] at h
  exact List.eq_nil_of_length_eq_zero (by omega)
theorem stepB_parts {l : List S140} {i : Nat} (h : stepB l i = true) : (rd_T140 l (i : Int)).f2.f2 = [] ∧ (i = 0 ∨ (rd_T140 l ((i - 1 : Nat) : Int)).f0 < (rd_T140 l (i : Int)).f0) := by
  simp only [stepB, Bool.and_eq_true, Bool.or_eq_true, decide_eq_true_eq] at h
  exact ⟨replyB_nil h.2.2.2.1, h.2.2.2.2⟩
theorem clr_id {x : S140} (h : x.f2.f2 = []) : clr x = x := by
  obtain ⟨a, b, ⟨c, d, e⟩, f⟩ := x
  obtain rfl : e = [] := h
  rfl
theorem mayP_clr {l : List S140} (h : mayP l) : l.map clr = l := by
  refine List.ext_getElem (List.length_map _) (fun i h1 h2 => ?_)
  rw [List.getElem_map]
  have := (stepB_parts (h.1 i (Nat.zero_le _) h2)).1
  rw [rd88_at l i h2] at this
  exact clr_id this
theorem mayP_rise {l : List S140} (h : mayP l) : riseS l := by
  refine List.pairwise_iff_getElem.2 (fun i j hi hj hij => ?_)
  have key : ∀ d j, j = i + 1 + d → (hj : j < l.length) → l[i].f0 < l[j].f0 := by
    intro d
    induction d with
    | zero =>
      intro j e hj
      subst e
      have := (stepB_parts (h.1 (i + 1) (Nat.zero_le _) hj)).2
      rw [Nat.add_sub_cancel, rd88_at l i hi, rd88_at l (i + 1) hj] at this
      exact this.resolve_left (by omega)
    | succ d ih =>
      intro j e hj
      subst e
      have := (stepB_parts (h.1 (i + 1 + (d + 1)) (Nat.zero_le _) hj)).2
      rw [show i + 1 + (d + 1) - 1 = i + 1 + d by omega, rd88_at l (i + 1 + d) (by omega), rd88_at l (i + 1 + (d + 1)) hj] at this
      have h2 := ih (i + 1 + d) rfl (by omega)
      have h3 := this.resolve_left (by omega)
      omega
  exact key (j - (i + 1)) j (by omega) hj
theorem place_is {l : List S140} (h : riseS l) (a : Int) : PlaceS l a (placeS l a) := by
  have key : ∀ d i, i + d = l.length → (∀ t : Nat, t < i → (rd_T140 l (t : Int)).f0 < a) → ∃ p, PlaceS l a p := by
    intro d
    induction d with
    | zero => intro i e hi; exact ⟨i, by omega, hi, fun t h1 h2 => by omega⟩
    | succ d ih =>
      intro i e hi
      by_cases hc : (rd_T140 l (i : Int)).f0 < a
      · exact ih (i + 1) (by omega) (fun t ht => by
          rcases Nat.lt_succ_iff_lt_or_eq.1 ht with h1 | rfl
          · exact hi t h1
          · exact hc)
      · refine ⟨i, by omega, hi, fun t h1 h2 h3 => ?_⟩
        rcases Nat.eq_or_lt_of_le h1 with rfl | h4
        · exact hc h3
        · have := riseS_at h i t h4 h2
          omega
  obtain ⟨p, hp⟩ := key l.length 0 (by omega) (fun t ht => by omega)
  have := place_count hp
  unfold placeS
  rw [this]
  exact hp
theorem any_iff {l : List S140} (h : riseS l) (a : Int) : l.any (fun x => x.f0 == a) = decide (placeS l a < l.length ∧ (rd_T140 l (placeS l a : Int)).f0 = a) := place_any (place_is h a) h
/-! ### Find -/
theorem find_l0 (l : List S140) (a : Int) (hl : l.length ≤ 1000000) (hr : riseS l) (ha : l.any (fun x => x.f0 == a) = true) : ∀ d i, i + d = placeS l a → Ev (fun k => lecternref14_Find.l0 k l a (i : Int)) (placeS l a : Int)
  | 0, i, hd => by
    have h := any_iff hr a
    rw [ha] at h
    have h := of_decide_eq_true h.symm
    obtain rfl : i = placeS l a := by omega
    refine Ev.step ((Ev.pure _).of_eq fun k => ?_)
    rw [lecternref14_Find.l0, if_pos (by omega), if_pos (by omega), if_pos h.2]
  | d + 1, i, hd => by
    have ih := find_l0 l a hl hr ha d (i + 1) (by omega)
    have h := place_is hr a
    have h2 := h.2.1 i (by omega)
    refine Ev.step (ih.of_eq fun k => ?_)
    rw [lecternref14_Find.l0, if_pos (by have := h.1; omega), if_pos (by omega), if_neg (by omega), wrn i (by have := h.1; omega)]
theorem find_no (l : List S140) (a : Int) (hl : l.length ≤ 1000000) (ha : l.any (fun x => x.f0 == a) = false) : ∀ d i, i + d = l.length → Ev (fun k => lecternref14_Find.l0 k l a (i : Int)) (-1)
  | 0, i, hd => by
    refine Ev.step ((Ev.pure _).of_eq fun k => ?_)
    rw [lecternref14_Find.l0, if_neg (by omega)]
  | d + 1, i, hd => by
    have ih := find_no l a hl ha d (i + 1) (by omega)
    have h2 : ¬ (rd_T140 l (i : Int)).f0 = a := fun he => by
      rw [rd88_at l i (by omega)] at he
      exact List.any_eq_false.1 ha l[i] (List.getElem_mem _) (beq_iff_eq.2 he)
    refine Ev.step (ih.of_eq fun k => ?_)
    rw [lecternref14_Find.l0, if_pos (by omega), if_pos (by omega), if_neg h2, wrn i (by omega)]
def findV (l : List S140) (a : Int) : Int := if l.any (fun x => x.f0 == a) = true then (placeS l a : Int) else -1
theorem sfind_is (l : List S140) (a : Int) (hl : l.length ≤ 1000000) (hr : riseS l) : Ev (fun k => lecternref14_Find.f k l a) (findV l a) := by
  unfold findV lecternref14_Find.f
  by_cases ha : l.any (fun x => x.f0 == a) = true
  · rw [if_pos ha]; exact find_l0 l a hl hr ha (placeS l a) 0 (by omega)
  · rw [if_neg ha]; exact find_no l a hl (Bool.eq_false_iff.2 ha) l.length 0 (by omega)
end Go.Proofs.YtpeldaogdeefeaaGreat.M
