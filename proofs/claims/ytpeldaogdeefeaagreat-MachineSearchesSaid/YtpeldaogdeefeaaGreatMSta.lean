/- The machine: State. -/
import Derived.Test.YtpeldaogdeefeaaGreatMG4
import Derived.Test.YtpeldaogdeefeaaGreatMHDocs
namespace Go.Proofs.YtpeldaogdeefeaaGreat.M
open Go.Proofs.YtpeldaogdeefeaaGreat.H Go.RowKit Go.Maps Go.Sort Go.Proofs.YtpeldaogdeefeaaGreatW.PrintWords Go.Proofs.YtpeldaogdeefeaaGreatW.PrintLast Go.Proofs.YtpeldaogdeefeaaGreatW.PrintMore Go.Proofs.YtpeldaogdeefeaaGreat.Base
set_option linter.unusedVariables false
set_option linter.unusedSimpArgs false
set_option maxRecDepth 100000 in
set_option maxHeartbeats 1600000 in
theorem mstate_calls {w : World} {B U g cnt : Nat} {M : List (Bs × Bs)} {ix : Int} {ss : List S140} (h : Mch w B U g cnt M ix ss) (hss : ss.length ≤ 1000000) :
    Calls Tryz.prog 45 #[.pointer (some ⟨g, 0, none⟩)] w fun e w' => ∃ v1 v2, e = .returned (.agg #[.int .i64 ix, v1, v2]) ∧ Kd.R k36 36 w' w.heap.size (fun _ => True) v1 (docs M) ∧ Kd.S k140 140 w' w.heap.size (fun _ => True) v2 (ss.map clr) ∧ Below w.heap.size w w' := by
  obtain ⟨gs, vs, hg, hsh, hvs⟩ := h.ex
  obtain ⟨A, c, rfl⟩ := Kd.R_slice (Kd.S_R hvs)
  have HG := Aside0.mk hg
  have HSH := Aside0.mk hsh
  have HCC := Aside0.mk (Kd.R_reads' (Kd.S_R hvs)).2.1
  have HSC := Aside0.mk (Kd.R_reads' (Kd.S_R hvs)).2.2
  have HOWN : Aside0 (session_Own.f ss = some (ss.map clr)) := ⟨by unfold session_Own.f; rw [if_pos hss]⟩
  clear h hg hsh hvs
  go_enter Tryz.func45, Tryz.ntmps45
  go_upto_region 1 with (fail)
  have hB1 : Below w.heap.size w (w.alloc (.cells #[.int .i64 0, .slice none 0 0, .slice none 0 0] 60)) := below_alloc (Below.refl _ _) _
  have hq := heap_alloc_new w (.cells #[.int .i64 0, .slice none 0 0, .slice none 0 0] 60)
  obtain ⟨q, hqe⟩ : ∃ b, b = w.heap.size := ⟨_, rfl⟩
  obtain ⟨w1, hw1⟩ : ∃ z, z = w.alloc (.cells #[.int .i64 0, .slice none 0 0, .slice none 0 0] 60) := ⟨_, rfl⟩
  rw [← hqe, ← hw1] at hq ⊢
  rw [← hw1] at hB1
  have HB5 : Aside0 (Below w.heap.size w w1.drew) := ⟨below_drew hB1⟩
  have HQ5 : Aside0 (w1.drew.heap[q]? = some (.cells #[.int .i64 0, .slice none 0 0, .slice none 0 0] 60 (0, 0))) := ⟨blk_drew hq⟩
  have HG5 := Aside0.mk (blk_below HG.out HB5.out)
  have HSH5 := Aside0.mk (HSH.out.below HB5.out)
  have HSC5 := Aside0.mk (Kd.C_below HSC.out HB5.out)
  have HQE := Aside0.mk hqe
  clear hq hB1 hw1 hqe
  refine start_ (n := 16) (S := fun w' => w'.cell? ⟨g, 0, none⟩ = some (.pointer (some ⟨gs, 0, none⟩)) ∧ w'.cell? ⟨g, 1, none⟩ = some (.int .i64 ix) ∧ w'.cell? ⟨g, 2, none⟩ = some (.slice A ss.length c)) (ds := [15]) #[false, false, false, false, false, false, false, false, false, false, false, false, false, false, false, false] (by kernel_rfl) rfl rfl ⟨((blk_cell HG5.out 0).trans rfl), ((blk_cell HG5.out 1).trans rfl), ((blk_cell HG5.out 2).trans rfl)⟩ (fun hHeld => ?_)
  generalize w1.drew = w5 at HB5 HQ5 HG5 HSH5 HSC5 hHeld ⊢
  refine pure_ (i := 0) (N := some 3) (v := ?_) (a' := ?_) #[true, false, false, false, false, false, false, false, false, false, false, false, false, false, false, false] rfl rfl (by kernel_rfl) (fun _ _ _ h => h) (Or.inl ⟨by rfl, ?_⟩) ?_ ?_
  rotate_left
  · intro w'
    go_simp
    with_reducible rfl
  rotate_left
  · simp only [Act.put, List.setIfInBounds_toArray, List.set_cons_zero, List.set_cons_succ, i64_w, i32_w]
    rfl
  refine pure_ (i := 1) (N := some 4) (v := ?_) (a' := ?_) #[true, true, false, false, false, false, false, false, false, false, false, false, false, false, false, false] rfl rfl (by kernel_rfl) (fun _ _ _ h => h) (Or.inl ⟨by rfl, ?_⟩) ?_ ?_
  rotate_left
  · intro w'
    go_simp
    with_reducible rfl
  rotate_left
  · simp only [Act.put, List.setIfInBounds_toArray, List.set_cons_zero, List.set_cons_succ, i64_w, i32_w]
    rfl
  refine pure_ (i := 2) (N := some 5) (v := ?_) (a' := ?_) #[true, true, true, false, false, false, false, false, false, false, false, false, false, false, false, false] rfl rfl (by kernel_rfl) (fun _ _ _ h => h) (Or.inl ⟨by rfl, ?_⟩) ?_ ?_
  rotate_left
  · intro w'
    go_simp
    with_reducible rfl
  rotate_left
  · simp only [Act.put, List.setIfInBounds_toArray, List.set_cons_zero, List.set_cons_succ, i64_w, i32_w]
    rfl
  refine pure_ (i := 4) (N := some 7) (v := ?_) (a' := ?_) #[true, true, true, false, true, false, false, false, false, false, false, false, false, false, false, false] rfl rfl (by kernel_rfl) (fun _ _ _ h => h) (Or.inl ⟨by rfl, ?_⟩) ?_ ?_
  rotate_left
  · intro w'
    go_simp
    with_reducible rfl
  rotate_left
  · simp only [Act.put, List.setIfInBounds_toArray, List.set_cons_zero, List.set_cons_succ, i64_w, i32_w]
    rfl
  refine pure_ (i := 5) (N := some 8) (v := ?_) (a' := ?_) #[true, true, true, false, true, true, false, false, false, false, false, false, false, false, false, false] rfl rfl (by kernel_rfl) (fun _ _ _ h => h) (Or.inl ⟨by rfl, ?_⟩) ?_ ?_
  rotate_left
  · intro w'
    go_simp
    with_reducible rfl
  rotate_left
  · simp only [Act.put, List.setIfInBounds_toArray, List.set_cons_zero, List.set_cons_succ, i64_w, i32_w]
    rfl
  refine pure_ (i := 6) (N := some 9) (v := ?_) (a' := ?_) #[true, true, true, false, true, true, true, false, false, false, false, false, false, false, false, false] rfl rfl (by kernel_rfl) (fun _ _ _ h => h) (Or.inl ⟨by rfl, ?_⟩) ?_ ?_
  rotate_left
  · intro w'
    go_simp
    with_reducible rfl
  rotate_left
  · simp only [Act.put, List.setIfInBounds_toArray, List.set_cons_zero, List.set_cons_succ, i64_w, i32_w]
    rfl
  refine pure_ (i := 9) (N := some 12) (v := ?_) (a' := ?_) #[true, true, true, false, true, true, true, false, false, true, false, false, false, false, false, false] rfl rfl (by kernel_rfl) (fun _ _ _ h => h) (Or.inl ⟨by rfl, ?_⟩) ?_ ?_
  rotate_left
  · intro w'
    go_simp
    with_reducible rfl
  rotate_left
  · simp only [Act.put, List.setIfInBounds_toArray, List.set_cons_zero, List.set_cons_succ, i64_w, i32_w]
    rfl
  refine pure_ (i := 10) (N := some 13) (v := ?_) (a' := ?_) #[true, true, true, false, true, true, true, false, false, true, true, false, false, false, false, false] rfl rfl (by kernel_rfl) (fun _ _ _ h => h) (Or.inl ⟨by rfl, ?_⟩) ?_ ?_
  rotate_left
  · intro w'
    go_simp
    with_reducible rfl
  rotate_left
  · simp only [Act.put, List.setIfInBounds_toArray, List.set_cons_zero, List.set_cons_succ, i64_w, i32_w]
    rfl
  refine pure_ (i := 11) (N := some 14) (v := ?_) (a' := ?_) #[true, true, true, false, true, true, true, false, false, true, true, true, false, false, false, false] rfl rfl (by kernel_rfl) (fun _ _ _ h => h) (Or.inl ⟨by rfl, ?_⟩) ?_ ?_
  rotate_left
  · intro w'
    go_simp
    with_reducible rfl
  rotate_left
  · simp only [Act.put, List.setIfInBounds_toArray, List.set_cons_zero, List.set_cons_succ, i64_w, i32_w]
    rfl
  refine take_ (i := 3) (N := some 6) (v := ?_) (a' := ?_) #[true, true, true, true, true, true, true, false, false, true, true, true, false, false, false, false] rfl rfl (by kernel_rfl) (fun _ _ _ h => h) (Or.inl ⟨by rfl, ?_⟩) hHeld ?_ ?_
  rotate_left
  · rintro w' ⟨s0, s1, s2⟩
    go_simp
    with_reducible rfl
  rotate_left
  · simp only [Act.put, List.setIfInBounds_toArray, List.set_cons_zero, List.set_cons_succ, i64_w, i32_w]
    rfl
  refine take_ (i := 7) (N := some 10) (v := ?_) (a' := ?_) #[true, true, true, true, true, true, true, true, false, true, true, true, false, false, false, false] rfl rfl (by kernel_rfl) (fun _ _ _ h => h) (Or.inl ⟨by rfl, ?_⟩) hHeld ?_ ?_
  rotate_left
  · rintro w' ⟨s0, s1, s2⟩
    go_simp
    with_reducible rfl
  rotate_left
  · simp only [Act.put, List.setIfInBounds_toArray, List.set_cons_zero, List.set_cons_succ, i64_w, i32_w]
    rfl
  refine take_ (i := 12) (N := some 15) (v := ?_) (a' := ?_) #[true, true, true, true, true, true, true, true, false, true, true, true, true, false, false, false] rfl rfl (by kernel_rfl) (fun _ _ _ h => h) (Or.inl ⟨by rfl, ?_⟩) hHeld ?_ ?_
  rotate_left
  · rintro w' ⟨s0, s1, s2⟩
    go_simp
    with_reducible rfl
  rotate_left
  · simp only [Act.put, List.setIfInBounds_toArray, List.set_cons_zero, List.set_cons_succ, i64_w, i32_w]
    rfl
  refine one_ (i := 8) (N := some 11) #[true, true, true, true, true, true, true, true, true, true, true, true, true, false, false, false] rfl rfl (by kernel_rfl) (by decide) (fun K hK => ?_)
  refine goes_ Tryz.func26 (by kernel_rfl) rfl #[.pointer (some ⟨gs, 0, none⟩)] (by rfl) rfl rfl (by simp only [List.map_toArray, List.map_cons, List.map_nil]; rfl) ?_
  with_reducible refine (docs_calls HSH5.out).mono ?_
  rintro e w6 ⟨v6, rfl, hr6, hb6⟩
  refine ⟨_, rfl, ?_⟩
  obtain ⟨A6, c6, rfl⟩ := Kd.R_slice hr6
  have HR6 := Aside0.mk hr6
  have HB6 := Aside0.mk hb6
  have HG6 := Aside0.mk (blk_below HG5.out hb6)
  have HQ6 := Aside0.mk (blk_below HQ5.out hb6)
  clear hr6 hb6
  refine hK.out _ _ ⟨((blk_cell HG6.out 0).trans rfl), ((blk_cell HG6.out 1).trans rfl), ((blk_cell HG6.out 2).trans rfl)⟩ (fun hHeld => ?_)
  clear hK K
  refine norm_ (a' := ?_) ?_ ?_
  rotate_left
  · show Act.put _ (some 11) _ = _
    simp only [Act.put, List.setIfInBounds_toArray, List.set_cons_zero, List.set_cons_succ, i64_w, i32_w]
    rfl
  refine one_ (i := 13) (N := some 16) #[true, true, true, true, true, true, true, true, true, true, true, true, true, true, false, false] rfl rfl (by kernel_rfl) (by decide) (fun K hK => ?_)
  refine goes_ Tryz.func85 (by kernel_rfl) rfl #[.slice A ss.length c] (by rfl) rfl rfl (by simp only [List.map_toArray, List.map_cons, List.map_nil]; rfl) ?_
  with_reducible refine (session_Own.calls A c ss (ss.map clr) w6 (Kd.C_below HSC5.out HB6.out) HCC.out HOWN.out).mono ?_
  rintro e w7 ⟨v7, rfl, hr7, hb7⟩
  refine ⟨_, rfl, ?_⟩
  obtain ⟨A7, c7, rfl⟩ := Kd.R_slice (Kd.S_R hr7)
  have HR7 := Aside0.mk hr7
  have HB7 := Aside0.mk hb7
  have HG7 := Aside0.mk (blk_below HG6.out hb7)
  have hq7 := blk_below HQ6.out hb7
  have HQ7 := Aside0.mk hq7
  have hf0 := blk_frozen hq7 0
  have hf1 := blk_frozen hq7 1
  have hf2 := blk_frozen hq7 2
  have hz0 : w7.cell? ⟨q, 0, none⟩ = some (.int .i64 0) := (blk_cell hq7 0).trans rfl
  have hz1 : w7.cell? ⟨q, 1, none⟩ = some (.slice none 0 0) := (blk_cell hq7 1).trans rfl
  have hz2 : w7.cell? ⟨q, 2, none⟩ = some (.slice none 0 0) := (blk_cell hq7 2).trans rfl
  clear hr7 hb7
  refine hK.out _ _ ⟨((blk_cell HG7.out 0).trans rfl), ((blk_cell HG7.out 1).trans rfl), ((blk_cell HG7.out 2).trans rfl)⟩ (fun hHeld => ?_)
  clear hK K
  refine norm_ (a' := ?_) ?_ ?_
  rotate_left
  · show Act.put _ (some 16) _ = _
    simp only [Act.put, List.setIfInBounds_toArray, List.set_cons_zero, List.set_cons_succ, i64_w, i32_w]
    rfl
  refine pure_ (i := 14) (N := some 17) (v := ?_) (a' := ?_) #[true, true, true, true, true, true, true, true, true, true, true, true, true, true, true, false] rfl rfl (by kernel_rfl) (fun _ _ _ h => h) (Or.inl ⟨by rfl, ?_⟩) ?_ ?_
  rotate_left
  · intro w'
    go_simp
    with_reducible rfl
  rotate_left
  · simp only [Act.put, List.setIfInBounds_toArray, List.set_cons_zero, List.set_cons_succ, i64_w, i32_w]
    rfl
  refine last_ (i := 15) (N := none) #[true, true, true, true, true, true, true, true, true, true, true, true, true, true, true, true] rfl rfl (by kernel_rfl) (by decide) (fun K hK => ?_)
  refine skip_ (w1 := ?_) (by rfl) rfl ?_ ?_
  rotate_left
  · go_simp
    rfl
  refine hK.out _ _ ?_
  clear hK K
  refine done_ (by kernel_rfl) ?_

  go_wp2_with fail
  have hr7 := HR7.out
  rw [List.length_map] at hr7
  have HR7' := Aside0.mk hr7
  clear hr7
  refine bodyPost_ret (results_cell_row rfl _ _ q 60 #[.int .i64 ix, .slice A6 (docs M).length c6, .slice A7 ss.length c7] (0, 0) _ rfl (by refine blk_put (cs := #[.int .i64 ix, .slice A6 (docs M).length c6, .slice none 0 0]) ?_ 2 _ rfl; refine blk_put (cs := #[.int .i64 ix, .slice none 0 0, .slice none 0 0]) ?_ 1 _ rfl; refine blk_put (cs := #[.int .i64 0, .slice none 0 0, .slice none 0 0]) ?_ 0 _ rfl; exact HQ7.out) Tryz.underlying60 rfl (by kernel_rfl)) rfl ?_
  have hqe := HQE.out
  have hs5 := HB5.out.size
  have hs6 := HB6.out.size
  have b7 := below_step HB5.out (below_step HB6.out HB7.out)
  have k0 := HQ7.out
  have k1 := blk_put (cs := #[.int .i64 0, .slice none 0 0, .slice none 0 0]) k0 0 (.int .i64 ix) rfl
  have k2 := blk_put (cs := #[.int .i64 ix, .slice none 0 0, .slice none 0 0]) k1 1 (.slice A6 (docs M).length c6) rfl
  refine ⟨_, _, rfl, ?_, ?_, ?_⟩
  · exact Kd.R_set (Kd.R_set (Kd.R_set (Kd.R_below (Kd.R_lower HR6.out hs5) HB7.out) k0 (by decide) 0 _) k1 (by decide) 1 _) k2 (by decide) 2 _
  · exact Kd.S_set (Kd.S_set (Kd.S_set (Kd.S_lower HR7'.out (by omega)) k0 (by decide) 0 _) k1 (by decide) 1 _) k2 (by decide) 2 _
  · exact below_set (below_set (below_set b7 (by omega)) (by omega)) (by omega)
end Go.Proofs.YtpeldaogdeefeaaGreat.M
