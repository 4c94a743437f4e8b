/- The machine: wakes. -/
import Derived.Test.YtpeldaogdeefeaaGreatMApp
import Derived.Test.YtpeldaogdeefeaaGreatMSta
namespace Go.Proofs.YtpeldaogdeefeaaGreat.M
open Go.Proofs.YtpeldaogdeefeaaGreat.H Go.RowKit Go.Maps Go.Sort Go.Proofs.YtpeldaogdeefeaaGreatW.PrintWords Go.Proofs.YtpeldaogdeefeaaGreatW.PrintLast Go.Proofs.YtpeldaogdeefeaaGreatW.PrintMore Go.Proofs.YtpeldaogdeefeaaGreat.Base
set_option linter.unusedVariables false
set_option linter.unusedSimpArgs false
theorem may0 : machine_May.f 9 0 [] [] = some true := by decide +kernel
theorem open0 : ∃ rs, session_Open.f 9 [] 1 = some (rs, 0) := ⟨_, rfl⟩
set_option maxRecDepth 100000 in
theorem num42 (a : Int) (w : World) : Calls Tryz.prog 42 #[.int .i64 a] w fun e w' => e = .returned (.int .i64 a) ∧ w' = w := by
  go_enter Tryz.func42, Tryz.ntmps42
  go_wp2_with fail
  go_ret
  exact ⟨rfl, rfl⟩
set_option maxRecDepth 100000 in
set_option maxHeartbeats 800000 in
theorem wakes47 (w : World) : Calls Tryz.prog 47 #[] w fun e w' => e = .returned (.bool true) ∧ Below w.heap.size w w' := by
  obtain ⟨rs, hrs⟩ := open0
  have HRS := Aside0.mk hrs
  have hu60 := Tryz.underlying60
  have hu73 := Tryz.underlying73
  clear hrs
  go_enter Tryz.func47, Tryz.ntmps47
  go_wp2_with fail
  refine (mnew_calls 0 none 0 [] none 0 [] w (Kd.C_nil _ _) (Nat.zero_le _) (Kd.C_nil _ _) (Nat.zero_le _) DocsOk.nil 9 may0 (Nat.zero_le _)).mono ?_
  rintro e w1 ⟨g, U, rfl, hm1, hb1⟩
  have HM1 := Aside0.mk hm1
  have HB1 := Aside0.mk hb1
  clear hm1 hb1
  go_wp2_with fail
  refine (num42 0 w1).mono ?_
  rintro e w' ⟨rfl, hww⟩
  have hww' : w1 = w' := hww.symm
  clear hww
  subst hww'
  go_wp2_with fail
  refine (apply_yes HM1.out 1 (by decide) 9 rs HRS.out).mono ?_
  rintro e w2 ⟨rfl, hm2, hb2, -⟩
  have HB2 : Aside0 (Below w.heap.size w w2) := ⟨HB1.out.trans (hb2.mono HM1.out.size.2)⟩
  clear hm2 hb2
  go_upto_region 5 with (fail)
  have hq := heap_alloc_new w2 (.cells #[.int .i64 0, .int .i64 1, .slice none 0 0] 70)
  have HB3 : Aside0 (Below w.heap.size w (w2.alloc (.cells #[.int .i64 0, .int .i64 1, .slice none 0 0] 70))) := ⟨below_step HB2.out (below_alloc (Below.refl _ _) _)⟩
  obtain ⟨w3, hw3⟩ : ∃ z, z = w2.alloc (.cells #[.int .i64 0, .int .i64 1, .slice none 0 0] 70) := ⟨_, rfl⟩
  obtain ⟨q, hqe⟩ : ∃ b, b = w2.heap.size := ⟨_, rfl⟩
  rw [← hw3] at hq HB3
  rw [← hqe] at hq
  rw [← hw3, ← hqe]
  have x0 : w3.cell? ⟨q, 0, none⟩ = some (.int .i64 0) := (blk_cell hq 0).trans rfl
  have x1 : w3.cell? ⟨q, 1, none⟩ = some (.int .i64 1) := (blk_cell hq 1).trans rfl
  clear hq hw3 hqe
  go_wp2_with fail
  refine (num42 0 w3).mono ?_
  rintro e w' ⟨rfl, hww⟩
  have hww' : w3 = w' := hww.symm
  clear hww
  subst hww'
  go_wp2_with fail
  go_ret
  exact ⟨rfl, HB3.out⟩
end Go.Proofs.YtpeldaogdeefeaaGreat.M
