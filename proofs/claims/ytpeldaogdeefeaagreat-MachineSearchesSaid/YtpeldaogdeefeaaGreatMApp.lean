/- The machine: Apply of the command that opens a session. -/
import Derived.Test.YtpeldaogdeefeaaGreatMOpn
import Derived.Test.YtpeldaogdeefeaaGreatMCmd
namespace Go.Proofs.YtpeldaogdeefeaaGreat.M
open Go.Proofs.YtpeldaogdeefeaaGreat.H Go.RowKit Go.Maps Go.Sort Go.Proofs.YtpeldaogdeefeaaGreatW.PrintWords Go.Proofs.YtpeldaogdeefeaaGreatW.PrintLast Go.Proofs.YtpeldaogdeefeaaGreatW.PrintMore Go.Proofs.YtpeldaogdeefeaaGreat.Base
set_option linter.unusedVariables false
set_option linter.unusedSimpArgs false
theorem keep_lt {w w' : World} {i : Nat} (h : w'.heap[i]? = w.heap[i]?) (hi : i < w.heap.size) : i < w'.heap.size := by
  rw [Array.getElem?_eq_getElem hi] at h
  exact (Array.getElem?_eq_some_iff.1 h).1
set_option maxRecDepth 100000 in
set_option maxHeartbeats 800000 in
theorem apply_yes {w : World} {B U g cnt : Nat} {M : List (Bs × Bs)} {ix : Int} {ss : List S140} (h : Mch w B U g cnt M ix ss) (k : Int) (hk : ix < k ∧ 1 ≤ k ∧ k < 1099511627776) (kf : Nat) (rs : List S140) (hf : session_Open.f kf ss k = some (rs, 0)) :
    Calls Tryz.prog 43 #[.pointer (some ⟨g, 0, none⟩), .int .i64 k, .agg #[.int .i64 1, .int .i64 0, .int .i64 0, .string ⟨#[]⟩, .string ⟨#[]⟩]] w fun e w' => e = .returned (.agg #[.int .i64 0, .int .i64 k, .slice none 0 0]) ∧ Mch w' B U g cnt M k rs ∧ Below U w w' ∧ (∀ i, i < w.heap.size → i ≠ g → w'.heap[i]? = w.heap[i]?) := by
  have HM := Aside0.mk h
  have hu70 := Tryz.underlying70
  have hu73 := Tryz.underlying73
  clear h
  go_enter Tryz.func43, Tryz.ntmps43
  go_upto_region 1 with (fail)
  obtain ⟨p, hpe⟩ : ∃ b, b = w.heap.size := ⟨_, rfl⟩
  obtain ⟨q, hqe⟩ : ∃ b, b = w.heap.size + 1 := ⟨_, rfl⟩
  obtain ⟨wa, hwa⟩ : ∃ z, z = w.alloc (.cells #[.int .i64 1, .int .i64 0, .int .i64 0, .string ⟨#[]⟩, .string ⟨#[]⟩] 73) := ⟨_, rfl⟩
  obtain ⟨w1, hw1⟩ : ∃ z, z = wa.alloc (.cells #[.int .i64 0, .int .i64 0, .slice none 0 0] 70) := ⟨_, rfl⟩
  have hsa : wa.heap.size = w.heap.size + 1 := by rw [hwa]; exact Array.size_push _
  have hp : w1.heap[p]? = some (.cells #[.int .i64 1, .int .i64 0, .int .i64 0, .string ⟨#[]⟩, .string ⟨#[]⟩] 73 (0, 0)) := by rw [hw1]; refine blk_alloc ?_ _; rw [hwa, hpe]; exact heap_alloc_new w _
  have hq : w1.heap[q]? = some (.cells #[.int .i64 0, .int .i64 0, .slice none 0 0] 70 (0, 0)) := by rw [hw1, hqe, ← hsa]; exact heap_alloc_new wa _
  have hb1 : Below w.heap.size w w1 := by rw [hw1, hwa]; exact below_alloc (below_alloc (Below.refl _ _) _) _
  rw [← hqe, ← hpe, ← hwa, ← hw1]
  have HP1 := Aside0.mk hp
  have HQ1 := Aside0.mk hq
  have HB1 := Aside0.mk hb1
  have HPQ := Aside0.mk (And.intro hpe hqe)
  have x0 : w1.cell? ⟨p, 0, none⟩ = some (.int .i64 1) := (blk_cell hp 0).trans rfl
  have x1 : w1.cell? ⟨p, 1, none⟩ = some (.int .i64 0) := (blk_cell hp 1).trans rfl
  have x2 : w1.cell? ⟨p, 2, none⟩ = some (.int .i64 0) := (blk_cell hp 2).trans rfl
  have x3 : w1.cell? ⟨p, 3, none⟩ = some (.string ⟨#[]⟩) := (blk_cell hp 3).trans rfl
  have x4 : w1.cell? ⟨p, 4, none⟩ = some (.string ⟨#[]⟩) := (blk_cell hp 4).trans rfl
  clear hpe hqe hwa hw1 hsa hp hq hb1
  go_wp2_with fail
  refine (may86_open w1).mono ?_
  rintro e w2 ⟨rfl, hb2⟩
  have HB2 : Aside0 (Below w.heap.size w w2) := ⟨below_step HB1.out hb2⟩
  have HP2 := Aside0.mk (blk_below HP1.out hb2)
  have HQ2 := Aside0.mk (blk_below HQ1.out hb2)
  have HM2 := Aside0.mk (HM.out.below HB2.out)
  clear hb2 HP1 HQ1 HB1 x0 x1 x2 x3 x4
  go_wp2_with fail
  refine (skip_yes HM2.out k hk.1 hk.2).mono ?_
  rintro e w3 ⟨rfl, hm3, hb3, hk3⟩
  have hgp : p ≠ g ∧ q ≠ g := by
    obtain ⟨_, _, hg, _, _⟩ := HM2.out.ex
    exact ⟨blk_ne HP2.out hg (by decide), blk_ne HQ2.out hg (by decide)⟩
  have HGP := Aside0.mk hgp
  have HM3 := Aside0.mk hm3
  have HK3 : Aside0 (∀ i, i < w2.heap.size → i ≠ g → w3.heap[i]? = w2.heap[i]?) := ⟨hk3⟩
  have HB3 : Aside0 (Below U w w3) := ⟨(HB2.out.mono HM.out.size.1).trans hb3⟩
  have hp3 := (hk3 p (blk_lt HP2.out) hgp.1).trans HP2.out
  have hq3 := (hk3 q (blk_lt HQ2.out) hgp.2).trans HQ2.out
  have HQ3 := Aside0.mk hq3
  have y0 : w3.cell? ⟨p, 0, none⟩ = some (.int .i64 1) := (blk_cell hp3 0).trans rfl
  clear hm3 hb3 hk3 hp3 hq3 hk hgp
  go_wp2_with fail
  refine (open_yes HM3.out k kf rs hf).mono ?_
  rintro e w4 ⟨rfl, hm4, hb4, hk4⟩
  have HM4 := Aside0.mk hm4
  have HB4 : Aside0 (Below U w w4) := ⟨HB3.out.trans hb4⟩
  have hq4 := (hk4 q (blk_lt HQ3.out) HGP.out.2).trans HQ3.out
  have HK4 : Aside0 (∀ i, i < w3.heap.size → i ≠ g → w4.heap[i]? = w3.heap[i]?) := ⟨hk4⟩
  clear hm4 hb4 hk4
  have HQ4 := Aside0.mk hq4
  have z0 : w4.cell? ⟨q, 0, none⟩ = some (.int .i64 0) := (blk_cell hq4 0).trans rfl
  have z1 : w4.cell? ⟨q, 1, none⟩ = some (.int .i64 0) := (blk_cell hq4 1).trans rfl
  have z2 : w4.cell? ⟨q, 2, none⟩ = some (.slice none 0 0) := (blk_cell hq4 2).trans rfl
  have f0 := blk_frozen hq4 0
  have f1 := blk_frozen hq4 1
  have f2 := blk_frozen hq4 2
  clear hq4 y0 hf
  go_wp2_with fail
  clear z0 z1 z2 f0 f1 f2
  have k0 := HQ4.out
  have k1 := blk_put (cs := #[.int .i64 0, .int .i64 0, .slice none 0 0]) k0 0 (.int .i64 0) rfl
  have k2 := blk_put (cs := #[.int .i64 0, .int .i64 0, .slice none 0 0]) k1 1 (.int .i64 k) rfl
  have k3 := blk_put (cs := #[.int .i64 0, .int .i64 k, .slice none 0 0]) k2 2 (.slice none 0 0) rfl
  have hU : U ≤ q := by have := HPQ.out; have := HM.out.size; omega
  refine bodyPost_ret (results_cell_row rfl _ _ q 70 #[.int .i64 0, .int .i64 k, .slice none 0 0] (0, 0) _ rfl k3 Tryz.underlying70 rfl (by kernel_rfl)) rfl ?_
  exact ⟨rfl, ((HM4.out.far k0 hU 0 _).far k1 hU 1 _).far k2 hU 2 _, ((HB4.out.setCell hU _).setCell hU _).setCell hU _, fun i hi hne => by
    have hiq : i ≠ q := by have := HPQ.out; omega
    have hi2 : i < w2.heap.size := Nat.lt_of_lt_of_le hi HB2.out.size
    have e3 := HK3.out i hi2 hne
    have hi3 := keep_lt e3 hi2
    exact (Below.heap_setCell _ ⟨q, 2, none⟩ _ i hiq).trans ((Below.heap_setCell _ ⟨q, 1, none⟩ _ i hiq).trans ((Below.heap_setCell _ ⟨q, 0, none⟩ _ i hiq).trans ((HK4.out i hi3 hne).trans (e3.trans (HB2.out.block i hi)))))⟩
end Go.Proofs.YtpeldaogdeefeaaGreat.M
