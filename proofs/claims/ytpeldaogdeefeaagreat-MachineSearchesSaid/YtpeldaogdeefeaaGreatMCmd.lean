/- The machine: the command that opens a session. -/
import Derived.Test.YtpeldaogdeefeaaGreatMSHand
import Derived.Test.YtpeldaogdeefeaaGreatMG2
namespace Go.Proofs.YtpeldaogdeefeaaGreat.M
open Go.RowKit Go.Proofs.YtpeldaogdeefeaaGreatW.PrintWords Go.Proofs.YtpeldaogdeefeaaGreatW.PrintLast Go.Proofs.YtpeldaogdeefeaaGreatW.PrintMore
set_option linter.unusedVariables false
set_option linter.unusedSimpArgs false
set_option maxRecDepth 100000 in
set_option maxHeartbeats 800000 in
theorem only129_open (w : World) : Calls Tryz.prog 129 #[.agg #[.int .i64 1, .int .i64 0, .int .i64 0, .string ⟨#[]⟩, .string ⟨#[]⟩]] w fun e w' => e = .returned (.tuple #[.agg #[.int .i64 1, .int .i64 0, .int .i64 0, .string ⟨#[]⟩, .string ⟨#[]⟩], .bool true]) ∧ Below w.heap.size w w' := by
  have hu73 := Tryz.underlying73
  go_enter Tryz.func129, Tryz.ntmps129
  go_wp2_with fail
  go_region
  go_wp2_with fail
  exact bodyPost_ret (v := .tuple #[.agg #[.int .i64 1, .int .i64 0, .int .i64 0, .string ⟨#[]⟩, .string ⟨#[]⟩], .bool true]) (by simp [results, Tryz.results129, go_sem]) rfl ⟨rfl, by repeat (first | exact Below.refl _ _ | apply pw_below_drewN | apply below_drew1 | apply below_alloc)⟩
set_option maxRecDepth 100000 in
set_option maxHeartbeats 800000 in
theorem may86_open (w : World) : Calls Tryz.prog 86 #[.agg #[.int .i64 1, .int .i64 0, .int .i64 0, .string ⟨#[]⟩, .string ⟨#[]⟩]] w fun e w' => e = .returned (.bool true) ∧ Below w.heap.size w w' := by
  have hu73 := Tryz.underlying73
  go_enter Tryz.func86, Tryz.ntmps86
  go_wp2_with fail
  refine (only129_open _).mono ?_
  rintro e w1 ⟨rfl, hb1⟩
  have HB1 := Aside0.mk hb1
  have hq := heap_alloc_new w (.cells #[.int .i64 1, .int .i64 0, .int .i64 0, .string ⟨#[]⟩, .string ⟨#[]⟩] 73)
  have HQ := Aside0.mk (blk_below hq hb1)
  have HB : Aside0 (Below w.heap.size w w1) := ⟨below_step (below_alloc (Below.refl _ _) _) hb1⟩
  clear hb1 hq
  go_upto_region 2 with (fail)
  obtain ⟨q, hq⟩ : ∃ b, b = w.heap.size := ⟨_, rfl⟩
  obtain ⟨q2, hq2⟩ : ∃ b, b = w1.heap.size := ⟨_, rfl⟩
  obtain ⟨w2, hw2⟩ : ∃ z, z = w1.alloc (.cells #[.int .i64 1, .int .i64 0, .int .i64 0, .string ⟨#[]⟩, .string ⟨#[]⟩] 73) := ⟨_, rfl⟩
  have HB2 : Aside0 (Below w.heap.size w w2) := ⟨by rw [hw2]; exact below_alloc HB.out _⟩
  have hk1 : w2.heap[q]? = some (.cells #[.int .i64 1, .int .i64 0, .int .i64 0, .string ⟨#[]⟩, .string ⟨#[]⟩] 73 (0, 0)) := by rw [hw2, hq]; exact blk_alloc HQ.out _
  have hk2 : w2.heap[q2]? = some (.cells #[.int .i64 1, .int .i64 0, .int .i64 0, .string ⟨#[]⟩, .string ⟨#[]⟩] 73 (0, 0)) := by rw [hw2, hq2]; exact heap_alloc_new w1 _
  rw [← hw2, ← hq, ← hq2]
  clear hw2 hq hq2 HQ HB
  have x10 : w2.cell? ⟨q, 0, none⟩ = some (.int .i64 1) := (blk_cell hk1 0).trans rfl
  have x11 : w2.cell? ⟨q, 1, none⟩ = some (.int .i64 0) := (blk_cell hk1 1).trans rfl
  have x12 : w2.cell? ⟨q, 2, none⟩ = some (.int .i64 0) := (blk_cell hk1 2).trans rfl
  have x13 : w2.cell? ⟨q, 3, none⟩ = some (.string ⟨#[]⟩) := (blk_cell hk1 3).trans rfl
  have x14 : w2.cell? ⟨q, 4, none⟩ = some (.string ⟨#[]⟩) := (blk_cell hk1 4).trans rfl
  have x20 : w2.cell? ⟨q2, 0, none⟩ = some (.int .i64 1) := (blk_cell hk2 0).trans rfl
  have x21 : w2.cell? ⟨q2, 1, none⟩ = some (.int .i64 0) := (blk_cell hk2 1).trans rfl
  have x22 : w2.cell? ⟨q2, 2, none⟩ = some (.int .i64 0) := (blk_cell hk2 2).trans rfl
  have x23 : w2.cell? ⟨q2, 3, none⟩ = some (.string ⟨#[]⟩) := (blk_cell hk2 3).trans rfl
  have x24 : w2.cell? ⟨q2, 4, none⟩ = some (.string ⟨#[]⟩) := (blk_cell hk2 4).trans rfl
  clear hk1 hk2
  go_wp2_with fail
  go_ret
  exact ⟨rfl, HB2.out⟩
end Go.Proofs.YtpeldaogdeefeaaGreat.M
