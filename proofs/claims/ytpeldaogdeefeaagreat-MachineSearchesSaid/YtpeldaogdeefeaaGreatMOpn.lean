/- The machine: Skip, open. -/
import Derived.Test.YtpeldaogdeefeaaGreatMG4
import Derived.Test.YtpeldaogdeefeaaGreatMG6
namespace Go.Proofs.YtpeldaogdeefeaaGreat.M
open Go.Proofs.YtpeldaogdeefeaaGreat.H Go.RowKit Go.Maps Go.Sort Go.Proofs.YtpeldaogdeefeaaGreatW.PrintWords Go.Proofs.YtpeldaogdeefeaaGreatW.PrintLast Go.Proofs.YtpeldaogdeefeaaGreatW.PrintMore Go.Proofs.YtpeldaogdeefeaaGreat.Base
set_option linter.unusedVariables false
set_option linter.unusedSimpArgs false
theorem Shf.moveU {w w' : World} {B U g cnt : Nat} {M : List (Bs × Bs)} (h : Shf w B U g cnt M) (hk : ∀ i, i < w.heap.size → i < U → w'.heap[i]? = w.heap[i]?) : Shf w' B U g cnt M := by
  obtain ⟨⟨bt, bf, nt, nf, Dt, Df, h1, h2, h3, h4, h5, h6, h7, h8, h9⟩, a, b, c, d, e, f⟩ := h
  exact ⟨⟨bt, bf, nt, nf, Dt, Df, (hk g (blk_lt h1) b).trans h1, h2, h3, h4, h5, h6, map_keep h7 (hk bt h7.lt h3), map_keep h8 (hk bf h8.lt h5), h9⟩, a, b, c, d, e, f⟩
theorem Mch.below {w w' : World} {B U g cnt : Nat} {M : List (Bs × Bs)} {ix : Int} {ss : List S140} (h : Mch w B U g cnt M ix ss) (hb : Below w.heap.size w w') : Mch w' B U g cnt M ix ss := by
  obtain ⟨gs, vs, h1, h2, h3⟩ := h.ex
  exact ⟨⟨gs, vs, blk_below h1 hb, h2.below hb, Kd.S_below h3 hb⟩, h.lo⟩
theorem Mch.size {w : World} {B U g cnt : Nat} {M : List (Bs × Bs)} {ix : Int} {ss : List S140} (h : Mch w B U g cnt M ix ss) : U ≤ w.heap.size ∧ B ≤ U := by
  obtain ⟨gs, vs, h1, h2, h3⟩ := h.ex
  have := blk_lt h1
  have := h.lo
  have := h2.lo
  have := h2.hi
  exact ⟨by omega, by omega⟩
theorem Mch.setIx {w : World} {B U g cnt : Nat} {M : List (Bs × Bs)} {ix : Int} {ss : List S140} (h : Mch w B U g cnt M ix ss) (k : Int) : Mch (w.setCell ⟨g, 1, none⟩ (.int .i64 k)) B U g cnt M k ss := by
  obtain ⟨gs, vs, h1, h2, h3⟩ := h.ex
  have hlo := h.lo
  refine ⟨⟨gs, vs, blk_put (cs := #[.pointer (some ⟨gs, 0, none⟩), .int .i64 ix, vs]) h1 1 _ rfl, h2.moveU (fun i _ hi => Below.heap_setCell w ⟨g, 1, none⟩ _ i (by show i ≠ g; omega)), Kd.S_set h3 h1 (by decide) 1 _⟩, hlo⟩
theorem Mch.setSs {w : World} {B U g cnt : Nat} {M : List (Bs × Bs)} {ix : Int} {ss rs : List S140} (h : Mch w B U g cnt M ix ss) {v : Value} (hv : Kd.S k140 140 w U (fun _ => True) v rs) : Mch (w.setCell ⟨g, 2, none⟩ v) B U g cnt M ix rs := by
  obtain ⟨gs, vs, h1, h2, h3⟩ := h.ex
  have hlo := h.lo
  refine ⟨⟨gs, v, blk_put (cs := #[.pointer (some ⟨gs, 0, none⟩), .int .i64 ix, vs]) h1 2 _ rfl, h2.moveU (fun i _ hi => Below.heap_setCell w ⟨g, 2, none⟩ _ i (by show i ≠ g; omega)), Kd.S_set hv h1 (by decide) 2 _⟩, hlo⟩
theorem Mch.far {w : World} {B U g cnt : Nat} {M : List (Bs × Bs)} {ix : Int} {ss : List S140} (h : Mch w B U g cnt M ix ss) {q : Nat} {cells : Array Value} (hq : w.heap[q]? = some (.cells cells 70 (0, 0))) (hU : U ≤ q) (j : Nat) (u : Value) : Mch (w.setCell ⟨q, j, none⟩ u) B U g cnt M ix ss := by
  obtain ⟨gs, vs, h1, h2, h3⟩ := h.ex
  exact ⟨⟨gs, vs, blk_far h1 (blk_ne h1 hq (by decide)) _, h2.moveU (fun i _ hi => Below.heap_setCell w ⟨q, j, none⟩ _ i (by show i ≠ q; omega)), Kd.S_set h3 hq (by decide) j _⟩, h.lo⟩
theorem num97 (a : Int) (w : World) : Calls Tryz.prog 97 #[.int .i64 a, .int .i64 1] w fun e w' => e = .returned (.bool (decide (1 ≤ a ∧ a < 1099511627776))) ∧ ∃ n, w' = w.drewN n := (session_Number.calls a 1 _ w (number_f a)).mono (fun e w' h => ⟨h.1, h.2.out⟩)
set_option maxRecDepth 100000 in
set_option maxHeartbeats 800000 in
theorem skip_yes {w : World} {B U g cnt : Nat} {M : List (Bs × Bs)} {ix : Int} {ss : List S140} (h : Mch w B U g cnt M ix ss) (k : Int) (h1 : ix < k) (h2 : 1 ≤ k ∧ k < 1099511627776) :
    Calls Tryz.prog 60 #[.pointer (some ⟨g, 0, none⟩), .int .i64 k] w fun e w' => e = .returned (.int .i64 0) ∧ Mch w' B U g cnt M k ss ∧ Below U w w' ∧ (∀ i, i < w.heap.size → i ≠ g → w'.heap[i]? = w.heap[i]?) := by
  have HM := Aside0.mk h
  obtain ⟨gs, vs, hg, -, -⟩ := h.ex
  have HG := Aside0.mk hg
  have x1 : w.cell? ⟨g, 1, none⟩ = some (.int .i64 ix) := (blk_cell hg 1).trans rfl
  have f1 := blk_frozen hg 1
  have b1 : decide (k ≤ ix) = false := decide_eq_false (by omega)
  have b2 : decide (1 ≤ k ∧ k < 1099511627776) = true := decide_eq_true h2
  clear h hg h1 h2
  go_enter Tryz.func60, Tryz.ntmps60
  go_wp2_with fail
  refine (num97 k w).mono ?_
  rintro e w' ⟨rfl, n, rfl⟩
  rw [b2]
  go_wp2_with fail
  go_ret
  have hm := HM.out.below (pw_below_drewN (Below.refl w.heap.size w) n)
  exact ⟨rfl, hm.setIx k, (pw_below_drewN (Below.refl U w) n).setCell HM.out.lo _, fun i hi hne => (Below.heap_setCell (w.drewN n) ⟨g, 1, none⟩ _ i hne).trans ((pw_below_drewN (Below.refl w.heap.size w) n).block i hi)⟩
set_option maxRecDepth 100000 in
set_option maxHeartbeats 800000 in
theorem open_yes {w : World} {B U g cnt : Nat} {M : List (Bs × Bs)} {ix : Int} {ss : List S140} (h : Mch w B U g cnt M ix ss) (k : Int) (kf : Nat) (rs : List S140) (hf : session_Open.f kf ss k = some (rs, 0)) :
    Calls Tryz.prog 87 #[.pointer (some ⟨g, 0, none⟩), .int .i64 k] w fun e w' => e = .returned (.agg #[.int .i64 0, .int .i64 k, .slice none 0 0]) ∧ Mch w' B U g cnt M ix rs ∧ Below U w w' ∧ (∀ i, i < w.heap.size → i ≠ g → w'.heap[i]? = w.heap[i]?) := by
  have HM := Aside0.mk h
  have HF := Aside0.mk hf
  have hu70 := Tryz.underlying70
  obtain ⟨gs, vs, hg, hsh, hvs⟩ := h.ex
  obtain ⟨A, c, rfl⟩ := Kd.R_slice (Kd.S_R hvs)
  have HG := Aside0.mk hg
  have HCC := Aside0.mk (Kd.R_reads' (Kd.S_R hvs)).2.1
  have HSC := Aside0.mk (Kd.R_reads' (Kd.S_R hvs)).2.2
  clear h hf hg hsh hvs
  go_enter Tryz.func87, Tryz.ntmps87
  go_upto_region 1 with (fail)
  have hB1 : Below w.heap.size w (w.alloc (.cells #[.int .i64 0, .int .i64 0, .slice none 0 0] 70)) := below_alloc (Below.refl _ _) _
  have hq := heap_alloc_new w (.cells #[.int .i64 0, .int .i64 0, .slice none 0 0] 70)
  obtain ⟨q, hqe⟩ : ∃ b, b = w.heap.size := ⟨_, rfl⟩
  obtain ⟨w1, hw1⟩ : ∃ z, z = w.alloc (.cells #[.int .i64 0, .int .i64 0, .slice none 0 0] 70) := ⟨_, rfl⟩
  rw [← hqe, ← hw1] at hq ⊢
  rw [← hw1] at hB1
  have HB1 := Aside0.mk hB1
  have HQ1 := Aside0.mk hq
  have HQE := Aside0.mk hqe
  have x2 : w1.cell? ⟨g, 2, none⟩ = some (.slice A ss.length c) := (blk_cell (blk_below HG.out hB1) 2).trans rfl
  clear hq hB1 hw1 hqe
  go_wp2_with fail
  refine (session_Open.calls kf A c ss k _ _ w1 (Kd.C_below HSC.out HB1.out) HCC.out HF.out).mono ?_
  rintro e w2 ⟨v2, rfl, hr2, hb2⟩
  obtain ⟨A2, c2, rfl⟩ := Kd.R_slice (Kd.S_R hr2)
  have HR2 := Aside0.mk hr2
  have HB2 : Aside0 (Below w.heap.size w w2) := ⟨below_step HB1.out hb2⟩
  have hq2 := blk_below HQ1.out hb2
  have HQ2 := Aside0.mk hq2
  have HS1 := Aside0.mk HB1.out.size
  have hg2 := blk_below HG.out HB2.out
  have y2 : w2.cell? ⟨g, 2, none⟩ = some (.slice A ss.length c) := (blk_cell hg2 2).trans rfl
  have y2f := blk_frozen hg2 2
  have hne : q ≠ g := blk_ne hq2 hg2 (by decide)
  obtain ⟨w3, hw3⟩ : ∃ z, z = w2.setCell ⟨g, 2, none⟩ (.slice A2 rs.length c2) := ⟨_, rfl⟩
  have hm3 : Mch w3 B U g cnt M ix rs := by rw [hw3]; exact (HM.out.below HB2.out).setSs (Kd.S_lower HR2.out (by have := HM.out.size; have := HS1.out; omega))
  have hb3 : Below U w w3 := by rw [hw3]; exact (HB2.out.mono HM.out.size.1).setCell HM.out.lo _
  have hq3 : w3.heap[q]? = some (.cells #[.int .i64 0, .int .i64 0, .slice none 0 0] 70 (0, 0)) := by rw [hw3]; exact blk_far hq2 hne _
  have HM3 := Aside0.mk hm3
  have HB3 := Aside0.mk hb3
  have HQ3 := Aside0.mk hq3
  have HW3 := Aside0.mk hw3
  have z0 : w3.cell? ⟨q, 0, none⟩ = some (.int .i64 0) := (blk_cell hq3 0).trans rfl
  have z1 : w3.cell? ⟨q, 1, none⟩ = some (.int .i64 0) := (blk_cell hq3 1).trans rfl
  have z2 : w3.cell? ⟨q, 2, none⟩ = some (.slice none 0 0) := (blk_cell hq3 2).trans rfl
  have f0 := blk_frozen hq3 0
  have f1 := blk_frozen hq3 1
  have f2 := blk_frozen hq3 2
  rw [hw3] at z0 z1 z2 f0 f1 f2
  clear hg2 hm3 hb3 hq3 hw3 hq2
  clear hr2 hb2 x2
  go_wp2_with fail
  rw [← HW3.out]
  clear z0 z1 z2 f0 f1 f2 y2 y2f
  have k0 := HQ3.out
  have k1 := blk_put (cs := #[.int .i64 0, .int .i64 0, .slice none 0 0]) k0 0 (.int .i64 0) rfl
  have k2 := blk_put (cs := #[.int .i64 0, .int .i64 0, .slice none 0 0]) k1 1 (.int .i64 k) rfl
  have k3 := blk_put (cs := #[.int .i64 0, .int .i64 k, .slice none 0 0]) k2 2 (.slice none 0 0) rfl
  have hU : U ≤ q := by have := HM.out.size; have := HQE.out; omega
  refine bodyPost_ret (results_cell_row rfl _ _ q 70 #[.int .i64 0, .int .i64 k, .slice none 0 0] (0, 0) _ rfl k3 Tryz.underlying70 rfl (by kernel_rfl)) rfl ?_
  exact ⟨rfl, ((HM3.out.far k0 hU 0 _).far k1 hU 1 _).far k2 hU 2 _, ((HB3.out.setCell hU _).setCell hU _).setCell hU _, fun i hi hne => by
    have hqe := HQE.out
    have hiq : i ≠ q := by omega
    rw [HW3.out]
    exact (Below.heap_setCell _ ⟨q, 2, none⟩ _ i hiq).trans ((Below.heap_setCell _ ⟨q, 1, none⟩ _ i hiq).trans ((Below.heap_setCell _ ⟨q, 0, none⟩ _ i hiq).trans ((Below.heap_setCell w2 ⟨g, 2, none⟩ _ i hne).trans (HB2.out.block i hi))))⟩
end Go.Proofs.YtpeldaogdeefeaaGreat.M
