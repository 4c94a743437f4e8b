/- The machine: the command that deletes a document. -/
import Derived.Test.YtpeldaogdeefeaaGreatMG12
import Derived.Test.YtpeldaogdeefeaaGreatMHPur
import Derived.Test.YtpeldaogdeefeaaGreatBase
import Derived.BigRegion
import Derived.StillTailTactics
namespace Go.Proofs.YtpeldaogdeefeaaGreat.M
open Go.RowKit Go.Proofs.YtpeldaogdeefeaaGreatW.PrintWords Go.Proofs.YtpeldaogdeefeaaGreatW.PrintLast Go.Proofs.YtpeldaogdeefeaaGreatW.PrintMore Go.Proofs.YtpeldaogdeefeaaGreat.Base
set_option linter.unusedVariables false
set_option linter.unusedSimpArgs false
/-- A command that deletes may be. -/
def mayD (a q : Int) (id : ByteArray) : Bool := (numB a 1 && numB q 1) && decide (id.size ≤ 2048)
set_option maxRecDepth 100000 in
set_option maxHeartbeats 4000000 in
theorem only129_del (a q : Int) (id : ByteArray) (w : World) : Calls Tryz.prog 129 #[.agg #[.int .i64 3, .int .i64 a, .int .i64 q, .string id, .string ⟨#[]⟩]] w fun e w' => e = .returned (.tuple #[.agg #[.int .i64 3, .int .i64 a, .int .i64 q, .string id, .string ⟨#[]⟩], .bool (numB a 1 && numB q 1)]) ∧ Below w.heap.size w w' := by
  have hu73 := Tryz.underlying73
  obtain ⟨b1, hb1⟩ : ∃ b, numB a 1 = b := ⟨_, rfl⟩
  obtain ⟨b2, hb2⟩ : ∃ b, numB q 1 = b := ⟨_, rfl⟩
  rw [hb1, hb2]
  have HB1 := Aside0.mk hb1
  have HC2 := Aside0.mk hb2
  clear hb1 hb2
  go_enter Tryz.func129, Tryz.ntmps129
  go_wp2_with fail
  go_region
  go_upto_region 4 with (fail)
  obtain ⟨p, hp⟩ : ∃ b, b = w.heap.size := ⟨_, rfl⟩
  obtain ⟨p2, hp2⟩ : ∃ b, b = w.heap.size + 1 := ⟨_, rfl⟩
  obtain ⟨wa, hwa⟩ : ∃ z, z = w.alloc (.cells #[.int .i64 3, .int .i64 a, .int .i64 q, .string id, .string ⟨#[]⟩] 73) := ⟨_, rfl⟩
  obtain ⟨w2, hw2⟩ : ∃ z, z = (wa.alloc (.cells #[.int .i64 3, .int .i64 a, .int .i64 q, .string ⟨#[]⟩, .string ⟨#[]⟩] 73)).drew := ⟨_, rfl⟩
  have hsa : wa.heap.size = w.heap.size + 1 := by rw [hwa]; exact Array.size_push _
  have HB2 : Aside0 (Below w.heap.size w w2) := ⟨by rw [hw2, hwa]; exact below_drew1 (below_alloc (below_alloc (Below.refl _ _) _) _)⟩
  have HP2 : Aside0 (w2.heap[p]? = some (.cells #[.int .i64 3, .int .i64 a, .int .i64 q, .string id, .string ⟨#[]⟩] 73 (0, 0))) := ⟨by rw [hw2]; refine blk_drew (blk_alloc ?_ _); rw [hwa, hp]; exact heap_alloc_new w _⟩
  have HQ2 : Aside0 (w2.heap[p2]? = some (.cells #[.int .i64 3, .int .i64 a, .int .i64 q, .string ⟨#[]⟩, .string ⟨#[]⟩] 73 (0, 0))) := ⟨by rw [hw2]; refine blk_drew ?_; rw [hp2, ← hsa]; exact heap_alloc_new wa _⟩
  have HPL : Aside0 (w.heap.size ≤ p2) := ⟨by omega⟩
  have n12 : p ≠ p2 := by omega
  have n21 : p2 ≠ p := Ne.symm n12
  rw [← hp2, ← hp, ← hwa, ← hw2]
  clear hp hp2 hwa hw2 hsa
  have x0 : ∀ x : QB.Later w2, x.val.cell? ⟨p, 0, none⟩ = some (.int .i64 3) := fun x => (blk_cell (blk_below HP2.out x.below) 0).trans rfl
  have x1 : ∀ x : QB.Later w2, x.val.cell? ⟨p, 1, none⟩ = some (.int .i64 a) := fun x => (blk_cell (blk_below HP2.out x.below) 1).trans rfl
  have x2 : ∀ x : QB.Later w2, x.val.cell? ⟨p, 2, none⟩ = some (.int .i64 q) := fun x => (blk_cell (blk_below HP2.out x.below) 2).trans rfl
  have x3 : ∀ x : QB.Later w2, x.val.cell? ⟨p, 3, none⟩ = some (.string id) := fun x => (blk_cell (blk_below HP2.out x.below) 3).trans rfl
  have x4 : ∀ x : QB.Later w2, x.val.cell? ⟨p, 4, none⟩ = some (.string ⟨#[]⟩) := fun x => (blk_cell (blk_below HP2.out x.below) 4).trans rfl
  have y0 : ∀ x : QB.Later w2, x.val.cell? ⟨p2, 0, none⟩ = some (.int .i64 3) := fun x => (blk_cell (blk_below HQ2.out x.below) 0).trans rfl
  have y1 : ∀ x : QB.Later w2, x.val.cell? ⟨p2, 1, none⟩ = some (.int .i64 a) := fun x => (blk_cell (blk_below HQ2.out x.below) 1).trans rfl
  have y2 : ∀ x : QB.Later w2, x.val.cell? ⟨p2, 2, none⟩ = some (.int .i64 q) := fun x => (blk_cell (blk_below HQ2.out x.below) 2).trans rfl
  have y3 : ∀ x : QB.Later w2, x.val.cell? ⟨p2, 3, none⟩ = some (.string ⟨#[]⟩) := fun x => (blk_cell (blk_below HQ2.out x.below) 3).trans rfl
  have y4 : ∀ x : QB.Later w2, x.val.cell? ⟨p2, 4, none⟩ = some (.string ⟨#[]⟩) := fun x => (blk_cell (blk_below HQ2.out x.below) 4).trans rfl
  obtain ⟨y, hy⟩ : ∃ y : QB.Later w2, y.val = w2 := ⟨QB.Later.mk (Below.refl _ _), rfl⟩
  rw [← hy]
  clear hy
  have f0 : ∀ x : QB.Later w2, x.val.frozen? ⟨p2, 0, none⟩ = false := fun x => blk_frozen (blk_below HQ2.out x.below) 0
  have f1 : ∀ x : QB.Later w2, x.val.frozen? ⟨p2, 1, none⟩ = false := fun x => blk_frozen (blk_below HQ2.out x.below) 1
  have f2 : ∀ x : QB.Later w2, x.val.frozen? ⟨p2, 2, none⟩ = false := fun x => blk_frozen (blk_below HQ2.out x.below) 2
  have f3 : ∀ x : QB.Later w2, x.val.frozen? ⟨p2, 3, none⟩ = false := fun x => blk_frozen (blk_below HQ2.out x.below) 3
  have f4 : ∀ x : QB.Later w2, x.val.frozen? ⟨p2, 4, none⟩ = false := fun x => blk_frozen (blk_below HQ2.out x.below) 4
  go_wp2_with fail
  refine (numB97 a 1 y).mono ?_
  rintro e w' ⟨rfl, y, rfl⟩
  rw [HB1.out]
  cases b1
  · go_wp2_with fail
    go_region
    go_wp2_with fail
    have hz := blk_below HQ2.out y.below
    refine bodyPost_ret (results_ct rfl _ _ p2 73 #[.int .i64 3, .int .i64 a, .int .i64 q, .string id, .string ⟨#[]⟩] (0, 0) _ rfl (blk_drew (put5 (blk_put (cs := #[.int .i64 3, .int .i64 a, .int .i64 q, .string ⟨#[]⟩, .string ⟨#[]⟩]) hz 3 (.string id) rfl) (.int .i64 3) (.int .i64 a) (.int .i64 q) (.string id) (.string ⟨#[]⟩))) Tryz.underlying73 rfl (by kernel_rfl)) rfl ?_
    exact ⟨rfl, below_drew1 (((((((QB.below_trans HB2.out y.below).setCell HPL.out _).setCell HPL.out _).setCell HPL.out _).setCell HPL.out _).setCell HPL.out _).setCell HPL.out _)⟩
  go_wp2_with fail
  refine (numB97 q 1 y).mono ?_
  rintro e w' ⟨rfl, y, rfl⟩
  rw [HC2.out]
  cases b2
  all_goals
    go_wp2_with fail
    go_region
    go_wp2_with fail
    have hz := blk_below HQ2.out y.below
    refine bodyPost_ret (results_ct rfl _ _ p2 73 #[.int .i64 3, .int .i64 a, .int .i64 q, .string id, .string ⟨#[]⟩] (0, 0) _ rfl (blk_drew (put5 (blk_put (cs := #[.int .i64 3, .int .i64 a, .int .i64 q, .string ⟨#[]⟩, .string ⟨#[]⟩]) hz 3 (.string id) rfl) (.int .i64 3) (.int .i64 a) (.int .i64 q) (.string id) (.string ⟨#[]⟩))) Tryz.underlying73 rfl (by kernel_rfl)) rfl ?_
    exact ⟨rfl, below_drew1 (((((((QB.below_trans HB2.out y.below).setCell HPL.out _).setCell HPL.out _).setCell HPL.out _).setCell HPL.out _).setCell HPL.out _).setCell HPL.out _)⟩
set_option maxRecDepth 100000 in
set_option maxHeartbeats 4000000 in
theorem cmd58_del (a q : Int) (id : ByteArray) (hid : id.size ≤ 140737488351232) (w : World) : Calls Tryz.prog 58 #[.agg #[.int .i64 3, .int .i64 a, .int .i64 q, .string id, .string ⟨#[]⟩]] w fun e w' => e = .returned (.bool (mayD a q id)) ∧ Below w.heap.size w w' := by
  have hu73 := Tryz.underlying73
  unfold mayD
  obtain ⟨b3, hb3⟩ : ∃ b, decide (id.size ≤ 2048) = b := ⟨_, rfl⟩
  rw [hb3]
  have d1 : decide ((id.size : Int) ≤ 2048) = b3 := by rw [← hb3]; exact decide_eq_decide.2 (by omega)
  have hid : id.size ≤ 140737488351232 := hid
  have d2 : IntKind.i64.wrap (2048 - (id.size : Int)) = 2048 - (id.size : Int) := by rw [i64_w]; exact wrb _ (by omega) (by omega)
  have d4 : decide ((0 : Int) ≤ 2048 - (id.size : Int)) = b3 := by rw [← hb3]; exact decide_eq_decide.2 (by omega)
  clear hid
  obtain ⟨b1, hb1⟩ : ∃ b, numB a 1 = b := ⟨_, rfl⟩
  obtain ⟨b2, hb2⟩ : ∃ b, numB q 1 = b := ⟨_, rfl⟩
  rw [hb1, hb2]
  have HB1 := Aside0.mk hb1
  have HC2 := Aside0.mk hb2
  clear hb1 hb2
  go_enter Tryz.func58, Tryz.ntmps58
  go_wp2_with fail
  go_region
  go_upto_region 12 with (fail)
  obtain ⟨p, hp⟩ : ∃ b, b = w.heap.size := ⟨_, rfl⟩
  obtain ⟨p2, hp2⟩ : ∃ b, b = w.heap.size + 1 := ⟨_, rfl⟩
  obtain ⟨wa, hwa⟩ : ∃ z, z = w.alloc (.cells #[.int .i64 3, .int .i64 a, .int .i64 q, .string id, .string ⟨#[]⟩] 73) := ⟨_, rfl⟩
  obtain ⟨w2, hw2⟩ : ∃ z, z = (wa.alloc (.cells #[.int .i64 3, .int .i64 a, .int .i64 q, .string id, .string ⟨#[]⟩] 73)).drew := ⟨_, rfl⟩
  have hsa : wa.heap.size = w.heap.size + 1 := by rw [hwa]; exact Array.size_push _
  have HB2 : Aside0 (Below w.heap.size w w2) := ⟨by rw [hw2, hwa]; exact below_drew1 (below_alloc (below_alloc (Below.refl _ _) _) _)⟩
  have HP2 : Aside0 (w2.heap[p]? = some (.cells #[.int .i64 3, .int .i64 a, .int .i64 q, .string id, .string ⟨#[]⟩] 73 (0, 0))) := ⟨by rw [hw2]; refine blk_drew (blk_alloc ?_ _); rw [hwa, hp]; exact heap_alloc_new w _⟩
  have HQ2 : Aside0 (w2.heap[p2]? = some (.cells #[.int .i64 3, .int .i64 a, .int .i64 q, .string id, .string ⟨#[]⟩] 73 (0, 0))) := ⟨by rw [hw2]; refine blk_drew ?_; rw [hp2, ← hsa]; exact heap_alloc_new wa _⟩
  have HPL : Aside0 (w.heap.size ≤ p2) := ⟨by omega⟩
  have n12 : p ≠ p2 := by omega
  have n21 : p2 ≠ p := Ne.symm n12
  rw [← hp2, ← hp, ← hwa, ← hw2]
  clear hp hp2 hwa hw2 hsa
  have x0 : ∀ x : QB.Later w2, x.val.cell? ⟨p, 0, none⟩ = some (.int .i64 3) := fun x => (blk_cell (blk_below HP2.out x.below) 0).trans rfl
  have x1 : ∀ x : QB.Later w2, x.val.cell? ⟨p, 1, none⟩ = some (.int .i64 a) := fun x => (blk_cell (blk_below HP2.out x.below) 1).trans rfl
  have x2 : ∀ x : QB.Later w2, x.val.cell? ⟨p, 2, none⟩ = some (.int .i64 q) := fun x => (blk_cell (blk_below HP2.out x.below) 2).trans rfl
  have x3 : ∀ x : QB.Later w2, x.val.cell? ⟨p, 3, none⟩ = some (.string id) := fun x => (blk_cell (blk_below HP2.out x.below) 3).trans rfl
  have x4 : ∀ x : QB.Later w2, x.val.cell? ⟨p, 4, none⟩ = some (.string ⟨#[]⟩) := fun x => (blk_cell (blk_below HP2.out x.below) 4).trans rfl
  have y0 : ∀ x : QB.Later w2, x.val.cell? ⟨p2, 0, none⟩ = some (.int .i64 3) := fun x => (blk_cell (blk_below HQ2.out x.below) 0).trans rfl
  have y1 : ∀ x : QB.Later w2, x.val.cell? ⟨p2, 1, none⟩ = some (.int .i64 a) := fun x => (blk_cell (blk_below HQ2.out x.below) 1).trans rfl
  have y2 : ∀ x : QB.Later w2, x.val.cell? ⟨p2, 2, none⟩ = some (.int .i64 q) := fun x => (blk_cell (blk_below HQ2.out x.below) 2).trans rfl
  have y3 : ∀ x : QB.Later w2, x.val.cell? ⟨p2, 3, none⟩ = some (.string id) := fun x => (blk_cell (blk_below HQ2.out x.below) 3).trans rfl
  have y4 : ∀ x : QB.Later w2, x.val.cell? ⟨p2, 4, none⟩ = some (.string ⟨#[]⟩) := fun x => (blk_cell (blk_below HQ2.out x.below) 4).trans rfl
  obtain ⟨y, hy⟩ : ∃ y : QB.Later w2, y.val = w2 := ⟨QB.Later.mk (Below.refl _ _), rfl⟩
  rw [← hy]
  clear hy
  go_wp2_with fail
  refine (numB96 a y).mono ?_
  rintro e w' ⟨rfl, y, rfl⟩
  rw [HB1.out]
  cases b1
  · clear d1 d2 d4 hb3
    go_wp2_with fail
    go_ret
    exact ⟨rfl, QB.below_trans HB2.out y.below⟩
  go_wp2_with fail
  refine (numB96 q y).mono ?_
  rintro e w' ⟨rfl, y, rfl⟩
  rw [HC2.out]
  cases b2
  · clear d1 d2 d4 hb3
    go_wp2_with fail
    go_ret
    exact ⟨rfl, QB.below_trans HB2.out y.below⟩
  cases b3
  all_goals
    go_wp2_with fail
    go_ret
    exact ⟨rfl, QB.below_trans HB2.out y.below⟩
set_option maxRecDepth 100000 in
set_option maxHeartbeats 4000000 in
theorem may86_del (a q : Int) (id : ByteArray) (hid : id.size ≤ 140737488351232) (w : World) : Calls Tryz.prog 86 #[.agg #[.int .i64 3, .int .i64 a, .int .i64 q, .string id, .string ⟨#[]⟩]] w fun e w' => e = .returned (.bool (mayD a q id)) ∧ Below w.heap.size w w' := by
  have hu73 := Tryz.underlying73
  unfold mayD
  obtain ⟨b3, hb3⟩ : ∃ b, decide (id.size ≤ 2048) = b := ⟨_, rfl⟩
  rw [hb3]
  have d1 : decide ((id.size : Int) ≤ 2048) = b3 := by rw [← hb3]; exact decide_eq_decide.2 (by omega)
  have hid : id.size ≤ 140737488351232 := hid
  have d2 : IntKind.i64.wrap (2048 - (id.size : Int)) = 2048 - (id.size : Int) := by rw [i64_w]; exact wrb _ (by omega) (by omega)
  have d4 : decide ((0 : Int) ≤ 2048 - (id.size : Int)) = b3 := by rw [← hb3]; exact decide_eq_decide.2 (by omega)
  clear hid
  obtain ⟨b, hbb⟩ : ∃ b, (numB a 1 && numB q 1) = b := ⟨_, rfl⟩
  rw [hbb]
  have HBB := Aside0.mk hbb
  clear hbb
  go_enter Tryz.func86, Tryz.ntmps86
  go_wp2_with fail
  refine (only129_del a q id _).mono ?_
  rintro e w1 ⟨rfl, hb1⟩
  rw [HBB.out]
  have HB1 := Aside0.mk hb1
  have hq := heap_alloc_new w (.cells #[.int .i64 3, .int .i64 a, .int .i64 q, .string id, .string ⟨#[]⟩] 73)
  have HQ := Aside0.mk (blk_below hq hb1)
  have HB : Aside0 (Below w.heap.size w w1) := ⟨below_step (below_alloc (Below.refl _ _) _) hb1⟩
  clear hb1 hq
  go_upto_region 2 with (fail)
  obtain ⟨p, hp⟩ : ∃ b, b = w.heap.size := ⟨_, rfl⟩
  obtain ⟨p2, hp2⟩ : ∃ b, b = w1.heap.size := ⟨_, rfl⟩
  obtain ⟨w2, hw2⟩ : ∃ z, z = w1.alloc (.cells #[.int .i64 3, .int .i64 a, .int .i64 q, .string id, .string ⟨#[]⟩] 73) := ⟨_, rfl⟩
  have HB2 : Aside0 (Below w.heap.size w w2) := ⟨by rw [hw2]; exact below_alloc HB.out _⟩
  have HP2 : Aside0 (w2.heap[p]? = some (.cells #[.int .i64 3, .int .i64 a, .int .i64 q, .string id, .string ⟨#[]⟩] 73 (0, 0))) := ⟨by rw [hw2, hp]; exact blk_alloc HQ.out _⟩
  have HQ2 : Aside0 (w2.heap[p2]? = some (.cells #[.int .i64 3, .int .i64 a, .int .i64 q, .string id, .string ⟨#[]⟩] 73 (0, 0))) := ⟨by rw [hw2, hp2]; exact heap_alloc_new w1 _⟩
  rw [← hw2, ← hp, ← hp2]
  clear hw2 hp hp2 HQ HB
  have x0 : ∀ x : QB.Later w2, x.val.cell? ⟨p, 0, none⟩ = some (.int .i64 3) := fun x => (blk_cell (blk_below HP2.out x.below) 0).trans rfl
  have x1 : ∀ x : QB.Later w2, x.val.cell? ⟨p, 1, none⟩ = some (.int .i64 a) := fun x => (blk_cell (blk_below HP2.out x.below) 1).trans rfl
  have x2 : ∀ x : QB.Later w2, x.val.cell? ⟨p, 2, none⟩ = some (.int .i64 q) := fun x => (blk_cell (blk_below HP2.out x.below) 2).trans rfl
  have x3 : ∀ x : QB.Later w2, x.val.cell? ⟨p, 3, none⟩ = some (.string id) := fun x => (blk_cell (blk_below HP2.out x.below) 3).trans rfl
  have x4 : ∀ x : QB.Later w2, x.val.cell? ⟨p, 4, none⟩ = some (.string ⟨#[]⟩) := fun x => (blk_cell (blk_below HP2.out x.below) 4).trans rfl
  have y0 : ∀ x : QB.Later w2, x.val.cell? ⟨p2, 0, none⟩ = some (.int .i64 3) := fun x => (blk_cell (blk_below HQ2.out x.below) 0).trans rfl
  have y1 : ∀ x : QB.Later w2, x.val.cell? ⟨p2, 1, none⟩ = some (.int .i64 a) := fun x => (blk_cell (blk_below HQ2.out x.below) 1).trans rfl
  have y2 : ∀ x : QB.Later w2, x.val.cell? ⟨p2, 2, none⟩ = some (.int .i64 q) := fun x => (blk_cell (blk_below HQ2.out x.below) 2).trans rfl
  have y3 : ∀ x : QB.Later w2, x.val.cell? ⟨p2, 3, none⟩ = some (.string id) := fun x => (blk_cell (blk_below HQ2.out x.below) 3).trans rfl
  have y4 : ∀ x : QB.Later w2, x.val.cell? ⟨p2, 4, none⟩ = some (.string ⟨#[]⟩) := fun x => (blk_cell (blk_below HQ2.out x.below) 4).trans rfl
  obtain ⟨y, hy⟩ : ∃ y : QB.Later w2, y.val = w2 := ⟨QB.Later.mk (Below.refl _ _), rfl⟩
  rw [← hy]
  clear hy
  cases b
  · clear d1 d2 d4 hb3
    go_wp2_with fail
    go_ret
    exact ⟨rfl, QB.below_trans HB2.out y.below⟩
  cases b3
  all_goals
    go_wp2_with fail
    go_ret
    exact ⟨rfl, QB.below_trans HB2.out y.below⟩
end Go.Proofs.YtpeldaogdeefeaaGreat.M
