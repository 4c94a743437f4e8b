/- Sessions: rows of one's own (Mx11, MNew). -/
import Derived.Test.YtpeldaogdeefeaaGreatMG0
import Derived.Test.YtpeldaogdeefeaaGreatMSHand
import Derived.Test.YtpeldaogdeefeaaGreatMG4
import Derived.Test.YtpeldaogdeefeaaGreatMG5
/-! Mx11 -/
namespace Go.Proofs.YtpeldaogdeefeaaGreat.M
open Go.RowKit Go.Proofs.YtpeldaogdeefeaaGreatW.PrintWords Go.Proofs.YtpeldaogdeefeaaGreatW.PrintLast Go.Proofs.YtpeldaogdeefeaaGreatW.PrintMore
attribute [local go_sem] max2_int min2_int max_two min_two max_three min_three max_four min_four   -- for this text's walks alone
set_option linter.unusedVariables false
set_option linter.unusedSimpArgs false

/-! ### session_Own: function 85 -/
def session_Own.f (l0 : List S140) : Option (List S140) := if l0.length ≤ 1000000 then some (l0.map clr) else none
theorem session_Own.calls (A0 : Option Addr) (c0 : Nat) (l0 : List (S140)) (r : List (S140)) (w : World) (hr0 : Kd.C k140 w A0 l0.length l0) (hc0 : l0.length ≤ c0) (h : session_Own.f l0 = some r) :
    Calls Tryz.prog 85 #[.slice A0 l0.length c0] w fun e w' => ∃ v0_ : Value, e = .returned (v0_) ∧ Kd.S k140 140 w' w.heap.size (fun _ => True) v0_ r ∧ Below w.heap.size w w' := by
  unfold session_Own.f at h
  by_cases hs : l0.length ≤ 1000000
  · rw [if_pos hs] at h
    obtain rfl := Option.some.inj h
    refine (own_calls A0 c0 l0 w hr0 hc0 (by omega)).mono ?_
    rintro e w' ⟨v, rfl, hr, hb⟩
    exact ⟨v, rfl, kF_S hr, hb⟩
  · rw [if_neg hs] at h; cases h

end Go.Proofs.YtpeldaogdeefeaaGreat.M
/-! MNew -/
namespace Go.Proofs.YtpeldaogdeefeaaGreat.M
open Go.Proofs.YtpeldaogdeefeaaGreat.H Go.RowKit Go.Maps Go.Sort Go.Proofs.YtpeldaogdeefeaaGreatW.PrintWords Go.Proofs.YtpeldaogdeefeaaGreatW.PrintLast Go.Proofs.YtpeldaogdeefeaaGreatW.PrintMore Go.Proofs.YtpeldaogdeefeaaGreat.Base
set_option linter.unusedVariables false
set_option linter.unusedSimpArgs false
theorem Shf.lower {w : World} {B B' U g cnt : Nat} {M : List (Bs × Bs)} (h : Shf w B U g cnt M) (hB : B' ≤ B) : Shf w B' U g cnt M := by
  obtain ⟨⟨bt, bf, nt, nf, Dt, Df, h1, h2, h3, h4, h5, h6⟩, a, b, c, d, e, f⟩ := h
  exact ⟨⟨bt, bf, nt, nf, Dt, Df, h1, Nat.le_trans hB h2, h3, Nat.le_trans hB h4, h5, h6⟩, Nat.le_trans hB a, b, c, d, e, f⟩
/-- A machine: a shelf without segments, a number, sessions. -/
structure Mch (w : World) (B U g cnt : Nat) (M : List (Bs × Bs)) (ix : Int) (ss : List S140) : Prop where
  ex : ∃ gs vs, w.heap[g]? = some (.cells #[.pointer (some ⟨gs, 0, none⟩), .int .i64 ix, vs] 132 (0, 0)) ∧ Shf w B U gs cnt M ∧ Kd.S k140 140 w U (fun _ => True) vs ss
  lo : U ≤ g
set_option maxRecDepth 100000 in
set_option maxHeartbeats 1600000 in
theorem mnew_calls (ix : Int) (A1 : Option Addr) (c1 : Nat) (l : List S36) (A2 : Option Addr) (c2 : Nat) (ss : List S140) (w : World) (hC1 : Kd.C k36 w A1 l.length l) (hc1 : l.length ≤ c1) (hC2 : Kd.C k140 w A2 ss.length ss) (hc2 : ss.length ≤ c2) (hok : DocsOk l) (k : Nat) (hmay : machine_May.f k ix l ss = some true) (hss : ss.length ≤ 1000000) :
    Calls Tryz.prog 41 #[.agg #[.int .i64 ix, .slice A1 l.length c1, .slice A2 ss.length c2]] w fun e w' => ∃ g U, e = .returned (.tuple #[.pointer (some ⟨g, 0, none⟩), .int .i64 0]) ∧ Mch w' w.heap.size U g 64 (pairs l) ix (ss.map clr) ∧ Below w.heap.size w w' := by
  have HC1 := Aside0.mk hC1
  have HC2 := Aside0.mk hC2
  have HCC := Aside0.mk (And.intro hc1 hc2)
  have HOK := Aside0.mk hok
  have HMY := Aside0.mk hmay
  have HSS := Aside0.mk hss
  have hu60 := Tryz.underlying60
  have hu132 := Tryz.underlying132
  clear hC1 hC2 hc1 hc2 hok hmay hss
  go_enter Tryz.func41, Tryz.ntmps41
  go_wp2_with fail
  have hq := heap_alloc_new w (.cells #[.int .i64 ix, .slice A1 l.length c1, .slice A2 ss.length c2] 60)
  have hB1 : Below w.heap.size w (w.alloc (.cells #[.int .i64 ix, .slice A1 l.length c1, .slice A2 ss.length c2] 60)) := below_alloc (Below.refl _ _) _
  obtain ⟨q, hqe⟩ : ∃ b, b = w.heap.size := ⟨_, rfl⟩
  obtain ⟨w1, hw1⟩ : ∃ z, z = w.alloc (.cells #[.int .i64 ix, .slice A1 l.length c1, .slice A2 ss.length c2] 60) := ⟨_, rfl⟩
  rw [← hqe, ← hw1] at hq ⊢
  rw [← hw1] at hB1
  have HQ1 := Aside0.mk hq
  have HB1 := Aside0.mk hB1
  clear hq hB1 hw1 hqe
  refine (machine_May.calls k ix A1 c1 l A2 c2 ss true w1 (Kd.C_below HC1.out HB1.out) HCC.out.1 (Kd.C_below HC2.out HB1.out) HCC.out.2 HMY.out).mono ?_
  rintro e w2 ⟨rfl, hb2⟩
  have HB2 : Aside0 (Below w.heap.size w w2) := ⟨below_step HB1.out hb2⟩
  have HQ2 := Aside0.mk (blk_below HQ1.out hb2)
  have x1 : w2.cell? ⟨q, 1, none⟩ = some (.slice A1 l.length c1) := (blk_cell HQ2.out 1).trans rfl
  clear hb2 HQ1 HB1
  go_wp2_with fail
  refine (new_calls A1 c1 l w2 (Kd.C_below HC1.out HB2.out) HCC.out.1 HOK.out).mono ?_
  rintro e w3 ⟨gs, rfl, hs3, hb3⟩
  have HS3 : Aside0 (Shf w3 w.heap.size w3.heap.size gs 64 (pairs l)) := ⟨hs3.lower HB2.out.size⟩
  have HB3 : Aside0 (Below w.heap.size w w3) := ⟨below_step HB2.out hb3⟩
  have HQ3 := Aside0.mk (blk_below HQ2.out hb3)
  clear hs3 hb3 HQ2 HB2 x1
  go_wp2_with fail
  have KP : Aside0 (∀ W, Below w3.heap.size w3 W → W.cell? ⟨q, 0, none⟩ = some (.int .i64 ix) ∧ W.cell? ⟨q, 2, none⟩ = some (.slice A2 ss.length c2)) := ⟨fun W hb => ⟨(blk_cell (blk_below HQ3.out hb) 0).trans rfl, (blk_cell (blk_below HQ3.out hb) 2).trans rfl⟩⟩
  have H85 : Aside0 (∀ W, Below w3.heap.size w3 W → Calls Tryz.prog 85 #[.slice A2 ss.length c2] W fun e w' => ∃ v, e = .returned v ∧ (w'.cell? ⟨q, 0, none⟩ = some (.int .i64 ix) ∧ w'.cell? ⟨q, 2, none⟩ = some (.slice A2 ss.length c2)) ∧ Kd.S k140 140 w' w3.heap.size (fun _ => True) v (ss.map clr) ∧ Below w3.heap.size w3 w') := ⟨fun W hb => by
    refine (session_Own.calls A2 c2 ss (ss.map clr) W (Kd.C_below HC2.out (below_step HB3.out hb)) HCC.out.2 (by unfold session_Own.f; rw [if_pos HSS.out])).mono ?_
    rintro e w' ⟨v, rfl, h1, h2⟩
    exact ⟨v, rfl, KP.out w' (below_step hb h2), Kd.S_lower h1 hb.size, below_step hb h2⟩⟩
  go_region_held3 (fun w' => w'.cell? ⟨q, 0, none⟩ = some (.int .i64 ix) ∧ w'.cell? ⟨q, 2, none⟩ = some (.slice A2 ss.length c2))
    (first | exact (Aside0.out ‹Aside0 (_ ∧ _)›) | exact KP.out _ (by repeat (first | exact Below.refl _ _ | exact (Aside0.out ‹Aside0 (Below _ _ _)›) | apply pw_below_drewN | apply below_drew1 | apply below_alloc)))
    (first
      | (go_at_call 85; refine (H85.out _ (by repeat (first | exact Below.refl _ _ | apply pw_below_drewN | apply below_drew1))).mono ?_; rintro e w6 ⟨v6, rfl, hS6, h1, h2⟩; obtain ⟨A6, c6, rfl⟩ := Kd.R_slice (Kd.S_R h1); have HS6 := Aside0.mk hS6; have HR6 := Aside0.mk h1; have HB6 := Aside0.mk h2; clear hS6 h1 h2))
  go_wp2_with fail
  go_ret2
  have hr6 := HR6.out
  rw [List.length_map] at hr6
  have hb6 := below_alloc (Below.refl w6.heap.size w6) (.cells #[.pointer (some ⟨gs, 0, none⟩), .int .i64 ix, .slice A6 ss.length c6] 132)
  exact ⟨_, w3.heap.size, rfl, ⟨⟨gs, _, heap_alloc_new w6 _, (HS3.out.below HB6.out).below hb6, Kd.S_below hr6 hb6⟩, HB6.out.size⟩, below_step HB3.out (below_step HB6.out hb6)⟩
end Go.Proofs.YtpeldaogdeefeaaGreat.M
